/-
  The law UsefulComes, as a card: whatever text and number it is given, the call returns true. Conditions: the listed package-level variables begin as the text of the program lays them.
-/
import Derived.Test.YtdkcdlnfeodaaaaGreatDoorY09
set_option linter.unusedVariables false
set_option linter.unusedSimpArgs false
set_option maxRecDepth 100000
set_option maxHeartbeats 4000000
namespace Go.Proofs.Lu
open Go.Ae Go.Ae.M Go.Proofs.Lv
variable{H0 H:aa}{L M:List aK}{S:List Nat}{K:Nat→Prop}{A:At}{d:WD}
theorem RY.ext{H1:aa}{L':List aK}(h:RY K d S H0 H M L A)(hx:Ext H H1)(hS:SH S H0 H1 (M++L')):RY K d S H0 H1 M L' A:=⟨h.we.stay hx (fun r hr=>nomatch hr),h.nk,h.bd,hS,h.bu,h.ty,h.pos,h.few⟩
theorem RY.own(h:RY K d S H0 H M L A):RY K d (M.map (·.1)) H H M [] A:=⟨h.we,h.nk,h.bd,(SH.own h.sh).cast (List.append_nil M).symm,h.bu,h.ty,h.pos,h.few⟩
theorem RY.fin(h:RY K d S H0 H M L A):SH S H0 H M:=h.sh.sub (List.sublist_append_left M L)
theorem RY.ab6{H1:aa}{r:Nat}{ty:TypeId}{cs:List Value}(h:RY K d S H0 H M [] A)(hS1:SH [] H H1 [(r,ty,cs)]):RY K d S H0 H1 M [(r,ty,cs)] A:=
 h.ext hS1.ext ((SH.frame (M:=[]) (L:=M) h.fin hS1).perm (List.perm_append_comm (l₁:=[_])))
theorem RY.not{r:Nat}(h:RY K d S H0 H M L A)(hr:K r∨∃e∈L,e.1=r):r<H.next∧r∉M.map (·.1):=by
 rcases hr with hr|⟨e,he,rfl⟩
 ·exact⟨h.we.hK r hr,fun hm=>h.nk r hm hr⟩
 ·refine⟨(h.sh.lo e (List.mem_append_right _ he)).2,fun hm=>?_⟩
  obtain⟨x,hx,e2⟩:=List.mem_map.1 hm
  exact h.sh.apart hx he e2
theorem RY.rd{H3:aa}{r o:Nat}{v:Value}{w:Cl}(h:RY K d S H0 H M L A)(hx:kS (M.map (·.1)) (hN H) H3)(hr:K r∨∃e∈L,e.1=r)(hc:H.cell r o=some v)(hs:gD v v=true)(hw:w.a=H∧w.b=H3):gI w ⟨4,r,o,1,hh0,hh0⟩=true:=
 VE hw hx (h.not hr).1 (h.not hr).2 (R4 hc) (fun v hv=>by rw[List.mem_singleton]at hv;subst hv;exact hs)
theorem RY.keep{H3:aa}{r o:Nat}{v:Value}(h:RY K d S H0 H M L A)(hx:kS (M.map (·.1)) (hN H) H3)(hr:K r∨∃e∈L,e.1=r)(hc:H.cell r o=some v):(hM H H3).cell r o=some v:=
 (jq (H':=hM H H3) (hx.obj r (h.not hr).1 (h.not hr).2) o).trans hc
theorem Ga{l:List Nat}{g:Nat}:gD (.func (.func g) ⟨[]⟩ ⟨l.map pr⟩) (.func (.func g) ⟨[]⟩ ⟨l.map pr⟩)=true:=R5 g fun v hv=>by
 obtain⟨r,_,rfl⟩:=List.mem_map.1 hv
 exact⟨r,rfl⟩
theorem Gb(d:WD):gD d.wv d.wv=true:=Ga (l:=[d.g,d.s,d.w,d.f,d.fe,d.lo,d.p,d.l])
theorem Ji(d:WD):gD d.fev d.fev=true:=Ga (l:=[d.p])
theorem V_(d:WD):gD d.pv d.pv=true:=Ga (l:=[d.ra])
theorem ade{F:Nat→Prop}{a:Option Addr}{n c k z:Nat}{zs:List Nat}(h:fE F 3 H a n 1 (bH zs))(hz:zs[k]?=some z)(hk:k<n):∃r o,a=some ⟨r,o,none⟩∧F r∧H.cell r (o +k)=some (vn z)∧q_ 1 (.slice a n c) (vn k)=some (.pointer (some ⟨r,o +k,none⟩)):=by
 obtain⟨r,o,h1,h2,h3,o0,rfl,rfl⟩:=h.1.idx (c:=c) (Nat.lt_succ_self 0) hk
 have hc:=h3 0 (vn z) (Nat.lt_succ_self 0) (by rw[Nat.mul_one,Nat.add_zero];exact kJ _ hz)
 rw[Nat.mul_one,Nat.add_zero]at hc
 rw[Nat.mul_one]at h1
 exact⟨r,o0,rfl,(h.2 r o0 rfl (by omega)).1,hc,h1⟩
theorem Ew{i j z n kc xn xc:Nat}{kd at':Int}{ka xa:Option Addr}{t:ByteArray}(hW:WE K d H)(hi:i<d.nn)(he:El d.bW 5 i=[vi kd,.slice ka n kc,.string t,.slice xa xn xc,vi at'])(hj:(d.zs i)[j]?=some z):∃r o,ka=some ⟨r,o,none⟩∧K r∧H.cell r (o +j)=some (vn z)∧q_ 1 (.slice ka n kc) (vn j)=some (.pointer (some ⟨r,o +j,none⟩))∧n=(d.zs i).length:=by
 obtain⟨a,c,t',xa',xn',xc',at2,he2,hf,_⟩:=hW.kid i hi
 rw[he]at he2
 cases he2
 obtain⟨r,o,h1,h2,h3,h4⟩:=ade (c:=kc) hf hj (List.getElem?_eq_some_iff.1 hj).1
 exact⟨r,o,h1,h2,h3,h4,rfl⟩
theorem O'{i z fr kc xn xc:Nat}{kd at':Int}{ka xa:Option Addr}{t:ByteArray}(hwz:zW K d z)(h:RY K d S H0 H M L A)(hi:i<d.nn)(he:El d.bW 5 i=[vi kd,.slice ka 1 kc,.string t,.slice xa xn xc,vi at'])(hz:(d.zs i)[0]?=some z)(hn:A.ns +(3 +W d.ws z)≤4000)(ht:A.tot +2*(3 +W d.ws z)≤20000)(hf:A.cur fr):
 ak Pg X 159 [.agg ⟨[vi kd,.slice ka 1 kc,.string t,.slice xa xn xc,vi at']⟩,vn fr,pr d.f,pr d.fe,pr d.w] H fun v H'=>∃A' M' to c,v=vn to∧Bd d.ra A' M'∧SH (M.map (·.1)) H H' M'∧At.Gw A A' (3 +W d.ws z) c∧c≤2*(3 +W d.ws z)∧At.Bu d.lw A'∧A'.cur to:=by
 have h:=h.own
 obtain⟨rk,ok,rfl,_⟩:=Ew h.we hi he hz
 refine ce [0,1,2,3,4,5,7,8,9,10,11] ?_;refine tl ?_
 refine(SH.refl h.sh.wf).box rfl fun H1 rb hS1=>?_
 have hx1:=hS1.ext
 have h:RY K d (M.map (·.1)) H H1 M [(rb,145,[vi kd,.slice (some ⟨rk,ok,none⟩) 1 kc,.string t,.slice xa xn xc,vi at'])] A:=h.ab6 hS1
 have hm:∀{H' M' A'},RY K d (M.map (·.1)) H H' M' [(rb,145,[vi kd,.slice (some ⟨rk,ok,none⟩) 1 kc,.string t,.slice xa xn xc,vi at'])] A'→H'.cell rb 0=some (vi kd)∧H'.cell rb 1=some (.slice (some ⟨rk,ok,none⟩) 1 kc):=fun h=>by
  have hb:=h.sh.bk _ (List.mem_append_right _ (List.mem_cons_self ..))
  exact⟨hb.cell rfl,hb.cell rfl⟩
 refine ME.ld h.we.f.2 ?_
 refine h.fresh (by omega) fun H2 M2 A1 h g1 c1=>?_
 have hf:=hf.gw g1
 have n1:=g1.ns
 have t1:=g1.tt
 refine ME.ld h.we.fe.2 ?_
 refine h.free hf c1 (by omega) fun _ H3 M3 A2 h g2=>?_
 have g:=g1.trans g2
 have n2:=g2.ns
 have t2:=g2.tt
 refine ME.ld h.we.f.2 ?_
 refine h.fresh (by omega) fun H4 M4 A3 h g3 c3=>?_
 have g:=g.trans g3
 have n3:=g3.ns
 have t3:=g3.tt
 refine ME.ld h.we.f.2 ?_
 refine h.fresh (by omega) fun H5 M5 A4 h g4 c4=>?_
 have g:=g.trans g4
 have n4:=g4.ns
 have t4:=g4.tt
 have cd:=((c1.gw g2).gw g3).gw g4
 have ce:=c3.gw g4
 refine ME.ld h.we.fe.2 ?_
 refine h.free cd c4 (by omega) fun _ H6 M6 A5 h g5=>?_
 have g:=g.trans g5
 have n5:=g5.ns
 have t5:=g5.tt
 have cd:=cd.gw g5
 have ce:=ce.gw g5
 have cb:=c4.gw g5
 simp only[PP,Nat.reduceBEq]
 refine ME.ld (hm h).1 ?_
 simp only[PP,Nat.reduceBEq]
 have tl:∀bk,A5.cur bk→∀{x0 x1 dI},aR Pg X (sub FC [1,1,1,1,1,1,1,1]) (Dj x0 x1 (pr d.f) (pr d.fe) (pr d.w) (pr rb) (vi 0) (vn A.ns) (vn A2.ns) (vn A3.ns) (vn bk) dI H6) (cB Pg [.tmp 7] fun v H'=>∃A' M' to c,v=vn to∧Bd d.ra A' M'∧SH (M.map (·.1)) H H' M'∧At.Gw A A' (3 +W d.ws z) c∧c≤2*(3 +W d.ws z)∧At.Bu d.lw A'∧A'.cur to):=by
  intro bk cbk x0 x1 dI
  refine tl ?_
  refine ME.ld (H:=hN H6) h.we.fe.2 ?_
  simp only[aj h.sh.wf]
  refine ME.ld (H:=hN H6) h.we.w.2 ?_
  simp only[aj h.sh.wf,PP]
  refine ME.ld (H:=hN H6) (hm h).2 ?_
  simp only[aj h.sh.wf]
  obtain⟨rk',ok',e1,hKr,hkc,hid,_⟩:=Ew h.we hi he hz
  cases e1
  refine PU.of hid ?_
  refine ME.ld (H:=hN H6) hkc ?_
  simp only[aj h.sh.wf]
  have h6:=h
  refine h.ZQ hwz (by omega) (by omega) cb fun to H7 M7 A7 c7 h g7 b7 cto hx7=>?_
  have n7:=g7.ns
  have t7:=g7.tt
  have g:=g.trans g7
  refine h.Yb cto (cbk.gw g7) (by omega) fun v8 H8 M8 A8 h8 g8 Jo=>?_
  have n8:=g8.ns
  have t8:=g8.tt
  have g:=g.trans g8
  refine(show∀K:Prop,K→_∧K from fun Kz hK=>?_) _ ?_
  ·have rd:∀{r o v},(K r∨∃e∈[((rb,145,[vi kd,.slice (some ⟨rk,ok,none⟩) 1 kc,.string t,.slice xa xn xc,vi at']):aK)],e.1=r)→H6.cell r o=some v→gD v v=true→∀w:Cl,((w.a=H6∧w.b=H7)∨(w.a=hM H6 H7∧w.b=H8))→gI w ⟨4,r,o,1,hh0,hh0⟩=true:=by
    intro r o v hr hc hs w hw
    rcases hw with hw|hw
    ·exact h6.rd hx7 hr hc hs hw
    ·exact h.rd Jo hr (h6.keep hx7 hr hc) hs hw
   have r1:=rd (.inl h6.we.fe.1) h6.we.fe.2 (Ji d)
   have r2:=rd (.inl h6.we.w.1) h6.we.w.2 (Gb d)
   have r3:=rd (.inr ⟨_,List.mem_cons_self ..,rfl⟩) (hm h6).2 (jM _ _ _ fun x h=>by cases h;rfl)
   have r4:=rd (.inl hKr) hkc (nO _ _)
   simp only[aA]
   rcases tC H6 H7 with e|e<;>rw[e]<;>rcases tC (hM H6 H7) H8 with e|e<;>rw[e]<;>apply FB (T:=fun w=>(w.a=H6∧w.b=H7)∨(w.a=hM H6 H7∧w.b=H8)) (by kernel_rfl) (by kernel_rfl) hK<;>repeat' apply And.intro
   all_goals first|exact trivial|(intro h;cases h;done)|exact fun _=>.inl ⟨rfl,rfl⟩|exact fun _=>.inr ⟨rfl,rfl⟩|exact fun _=>r1|exact fun _=>r2|exact fun _=>r3|exact fun _=>r4
  refine ME.ld h8.we.fe.2 ?_
  refine h8.free ((cd.gw g7).gw g8) ((ce.gw g7).gw g8) (by omega) fun _ H9 M9 A9 h9 g9=>?_
  have g:=g.trans g9
  have n9:=g9.ns
  have t9:=g9.tt
  refine rr ?_;exact⟨A9,M9,A2.ns,_,rfl,h9.bd,(h9.sh.sub (List.sublist_append_left M9 _)),g.cast (by omega) rfl,by omega,h9.bu,((ce.gw g7).gw g8).gw g9⟩
 refine ae (fun hc=>?_) (fun hc=>?_)
 ·exact tl _ cd
 ·exact tl _ ce
end Go.Proofs.Lu
set_option maxRecDepth 100000
set_option maxHeartbeats 4000000
namespace Go.Proofs.Lu
open Go.Ae Go.Ae.M Go.Proofs.Lv
variable{H0 H:aa}{L M:List aK}{S:List Nat}{K:Nat→Prop}{A:At}{d:WD}
theorem Ey{ws:List Nat}{kd:Int}{l:List Nat}{k z:Nat}(hz:l[k]?=some z):h_ ws kd (l.take (k +1))=h_ ws kd (l.take k) +(W ws z +Ai kd):=by
 unfold h_
 rw[List.take_add_one,hz]
 show(List.map _ (_++[_])).sum=_
 rw[List.map_append,List.sum_append]
 rfl
theorem Nl(ws:List Nat)(kd:Int)(l:List Nat)(k:Nat):h_ ws kd (l.take k)≤h_ ws kd l:=by
 have:h_ ws kd l=h_ ws kd (l.take k) +h_ ws kd (l.drop k):=by
  unfold h_
  rw[←List.sum_append,←List.map_append,List.take_append_drop]
 omega
structure WQ(d:WD):Prop where
 nn:d.nn≤4000
 sz:∀j,j<d.nn→xX d.kd d.zs d.ws j
 lf:∀j,j<d.nn→kR d.tn d.lw (El d.lcs 3 j)
theorem WE.jX{z:Nat}{Kp:Value→Value→aa→Prop}(hW:WE K d H)(hz:z<d.nn)(kk:∀p,Kp p (vn (W d.ws z)) H):PU (q_ 1 (.slice (some ⟨d.rs,0,none⟩) d.nn d.nn) (vn z)) fun p=>ME (Go.Ae.jX none p H) (Kp p):=by
 have hl:d.ws.length=d.nn:=by have:=hW.st.1.1;simpa using this
 refine hW.st.ix hz ?_ kk
 rw[List.getElem?_map,List.getElem?_eq_getElem (show z<d.ws.length by omega)]
 show _=some (vn (d.ws[z]?.getD 0))
 rw[List.getElem?_eq_getElem (show z<d.ws.length by omega)];rfl
theorem TX{i fr rb:Nat}{cs:List Value}(hQ:WQ d)(h:RY K d (M.map (·.1)) H0 H M [(rb,145,cs)] A)(hi:i<d.nn)(hn:A.ns +1≤4000)(ht:A.tot +2≤20000)(hf:A.cur fr){bT bJ bL dL iI mJ x20 oL zL oK x24 x25 x32 FE tL x38 UA UB x66:Value}{dI:List (Nat×Value)}{Q:Value→aa→Prop}
 (kk:∀A' M' to c H',Bd d.ra A' M'→SH (M.map (·.1)) H0 H' M'→At.Gw A A' 1 c→c≤2→At.Bu d.lw A'→A'.cur to→Q (vn to) H'):
 aR Pg X (sub dR [1,1,1]) (jN (vn i) (vn fr) (pr d.g) (pr d.s) (pr d.w) (pr d.f) (pr d.fe) (pr d.lo) (pr d.p) (pr d.l) bT bJ bL dL iI mJ x20 oL zL oK x24 x25 x32 FE tL x38 UA UB x66 dI H) (cB Pg [.tmp 12] Q):=by
 refine tl ?_
 refine ME.ld h.we.f.2 ?_
 refine h.fresh (by omega) fun H1 M1 A1 h g1 c1=>?_
 have n1:=g1.ns
 have t1:=g1.tt
 refine ME.ld (H:=hN H1) h.we.p.2 ?_
 simp only[aj h.sh.wf]
 refine ME.ld (H:=hN H1) h.we.l.2 ?_
 simp only[aj h.sh.wf]
 obtain⟨r,o,e1,e2,e3,o0,e4,_⟩:=h.we.lf.1.idx (c:=d.nn) (by omega) hi
 cases e4
 obtain⟨k1,a1,hle,hlp⟩:=hQ.lf i hi
 have cell:∀f x,f<3→[vn k1,vn a1,vn 0][f]?=some x→H1.cell d.rl (o +f)=some x:=fun f x hf3 hx=>by
  refine e3 f x hf3 ?_
  have:=congrArg (fun l=>l[f]?) hle
  simp only[jb,if_pos hf3]at this
  rw[this];exact hx
 have hKl:K d.rl:=(h.we.lf.2 d.rl 0 rfl (by omega)).1
 refine PU.of e1 ?_
 simp only[PP,Nat.reduceBEq]
 refine ME.ld (H:=hN H1) (by have:=cell 0 _ (by omega) rfl;rwa [Nat.add_zero]at this) ?_
 simp only[aj h.sh.wf]
 refine ME.ld (H:=hN H1) h.we.l.2 ?_
 simp only[aj h.sh.wf]
 refine PU.of e1 ?_
 simp only[PP,Nat.reduceBEq]
 refine ME.ld (H:=hN H1) (cell 1 _ (by omega) rfl) ?_
 simp only[aj h.sh.wf]
 refine PU.b3 rfl ?_
 have h1:=h
 refine h.adb (e:=(k1,a1,A.ns)) (hf.gw g1) c1 (by
  unfold At.Ya
  rw[h.ty]
  rcases hlp with hlp|⟨p1,p2⟩|⟨p1,p2⟩
  ·exact .inl hlp
  ·exact .inr (.inl ⟨p1,p2⟩)
  ·exact .inr (.inr ⟨p1,p2⟩)) (by omega) fun v H2 M2 A2 h g2 hx2=>?_
 have n2:=g2.ns
 have t2:=g2.tt
 refine(show∀K:Prop,K→_∧K from fun Kz hK=>?_) _ ?_
 ·have rd:∀{r o v},K r→H1.cell r o=some v→gD v v=true→∀w:Cl,(w.a=H1∧w.b=H2)→gI w ⟨4,r,o,1,hh0,hh0⟩=true:=fun hr hc hs w hw=>h1.rd hx2 (.inl hr) hc hs hw
  have r1:=rd h1.we.p.1 h1.we.p.2 (V_ d)
  have r2:=rd h1.we.l.1 h1.we.l.2 (jM _ _ _ fun x h=>by cases h;rfl)
  have r3:=rd hKl (by have:=cell 0 _ (by omega) rfl;rwa [Nat.add_zero]at this) (nO _ _)
  have r4:=rd hKl (cell 1 _ (by omega) rfl) (nO _ _)
  simp only[aA]
  rcases tC H1 H2 with e|e<;>rw[e]<;>apply FB (T:=fun w=>w.a=H1∧w.b=H2) (by kernel_rfl) (by kernel_rfl) hK<;>repeat' apply And.intro
  all_goals first|exact trivial|(intro h;cases h;done)|exact fun _=>⟨rfl,rfl⟩|exact fun _=>r1|exact fun _=>r2|exact fun _=>r3|exact fun _=>r4
 refine rr ?_;exact(kk A2 M2 A.ns _ _ h.bd (h.sh.sub (List.sublist_append_left M2 _)) (g1.trans g2) (by omega) h.bu (c1.gw g2))
end Go.Proofs.Lu
set_option maxRecDepth 100000
set_option maxHeartbeats 4000000
namespace Go.Proofs.Lu
open Go.Ae Go.Ae.M Go.Proofs.Lv
variable{H0 H:aa}{L M:List aK}{S:List Nat}{K:Nat→Prop}{A:At}{d:WD}
theorem Nc.row{F:Nat→Prop}{nn i:Nat}{bW:List Value}{kd:Nat→Int}{zs:Nat→List Nat}(h:Nc F H nn bW kd zs)(hi:i<nn):∃(a:Option Addr)(c:Nat)(t:ByteArray)(xa:Option Addr)(xn xc:Nat)(at':Int),El bW 5 i=[vi (kd i),.slice a (zs i).length c,.string t,.slice xa xn xc,vi at']∧Cu (kd i) (zs i).length∧(∀z∈zs i,z<i)∧(zs i).length≤20001:=let⟨a,c,t,xa,xn,xc,at',h1,_,h3,h4,_,h6⟩:=h i hi;⟨a,c,t,xa,xn,xc,at',h1,h3,h4,h6⟩
section
variable{i fr rb kc xn xc:Nat}{at':Int}{ka xa:Option Addr}{t:ByteArray}{Q:Value→aa→Prop}
theorem Wd(hQ:WQ d)(ih:∀z,z<i→zW K d z)(h:RY K d (M.map (·.1)) H0 H M [(rb,145,[vi (d.kd i),.slice ka (d.zs i).length kc,.string t,.slice xa xn xc,vi at'])] A)(hi:i<d.nn)(h1:d.kd i=1)(he:El d.bW 5 i=[vi (d.kd i),.slice ka (d.zs i).length kc,.string t,.slice xa xn xc,vi at'])(hz:∀z∈d.zs i,z<i)(hzl:(d.zs i).length≤20001)
 (hn:A.ns +h_ d.ws (d.kd i) (d.zs i)≤4000)(ht:A.tot +2*h_ d.ws (d.kd i) (d.zs i)≤20000)(hf:A.cur fr){bT bL dL iI mJ x20 oL zL oK x24 x25 x32 UA UB x66:Value}{dI:List (Nat×Value)}
 (kk:∀A' M' to c H',Bd d.ra A' M'→SH (M.map (·.1)) H0 H' M'→At.Gw A A' (h_ d.ws (d.kd i) (d.zs i)) c→c≤2*h_ d.ws (d.kd i) (d.zs i)→At.Bu d.lw A'→A'.cur to→Q (vn to) H'):
 aR Pg X (.loop (sub dR [1,1,0,1,0,1,0,0,1,0,0])) (jN (vn i) (vn fr) (pr d.g) (pr d.s) (pr d.w) (pr d.f) (pr d.fe) (pr d.lo) (pr d.p) (pr d.l) bT (pr rb) bL dL iI mJ x20 oL zL oK x24 x25 x32 (.slice ka (d.zs i).length kc) (vn (d.zs i).length) (vn 0) UA UB x66 dI H) (gY 1 (kH Pg X (sub dR [1,1,0,1,0,1,0,1]) (gY 0 (kH Pg X (sub dR [1,1,1]) (cB Pg [.tmp 12] Q))))):=by
 have hal:Ai (d.kd i)=0:=by unfold Ai;rw[if_neg (by omega)]
 refine PE 1 15 38 (I:=fun m x1 bL x38 H'=>∃k fk A' M' c,x38=vn k∧k +m=(d.zs i).length∧x1=vn fk∧RY K d (M.map (·.1)) H0 H' M' [(rb,145,[vi (d.kd i),.slice ka (d.zs i).length kc,.string t,.slice xa xn xc,vi at'])] A'∧At.Gw A A' (h_ d.ws (d.kd i) ((d.zs i).take k)) c∧c≤2*h_ d.ws (d.kd i) ((d.zs i).take k)∧A'.cur fk) ?_ (d.zs i).length ⟨0,fr,A,M,0,rfl,by omega,rfl,h,(At.Gw.refl A).cast (by simp[h_]) rfl,Nat.zero_le _,hf⟩
 clear h hf
 rintro m x1 bL x38 dI H1 ⟨k,fk,A1,M1,c,rfl,hkm,rfl,h,g,hc,hf⟩
 refine tl ?_
 simp only[PP,Nat.reduceBEq]
 refine ae (fun hc2=>?_) (fun hc2=>?_)
 rotate_left
 ·obtain rfl:k=(d.zs i).length:=by omega
  rw[List.take_length]at g hc
  refine tl ?_
  simp only[PP,Nat.reduceBEq]
  refine rr ?_;exact(kk A1 M1 fk c H1 h.bd (h.sh.sub (List.sublist_append_left M1 _)) g hc h.bu hf)
 have hk:k<(d.zs i).length:=by omega
 have NN:(d.zs i)[k]?=some (d.zs i)[k]:=List.getElem?_eq_getElem hk
 have hzi:=hz _ (List.getElem_mem hk)
 generalize(d.zs i)[k]=z at NN hzi
 have hks:=Ey (ws:=d.ws) (kd:=d.kd i) NN
 have hkl:=Nl d.ws (d.kd i) (d.zs i) (k +1)
 have n1:=g.ns
 have t1:=g.tt
 obtain⟨r,o,rfl,hKr,hcell,hid,_⟩:=Ew h.we hi he NN
 refine PU.of hid ?_
 refine ME.ld hcell ?_
 refine ME.ld h.we.s.2 ?_
 refine h.we.jX (by omega) fun p=>?_
 simp only[PP,Nat.reduceBEq]
 refine ae (fun hc3=>?_) (fun hc3=>?_)
 ·refine ME.ld h.we.w.2 ?_
  refine h.way (ih z hzi) (by omega) (by omega) hf fun to H2 M2 A2 c2 h g2 hc2' hto=>?_
  refine PU.of (au (by omega) (by omega)) ?_
  exact⟨(d.zs i).length -(k +1),by omega,_,_,_,_,_,rfl,k +1,to,A2,M2,c +c2,by rw[show((k:Int) +1)=((k +1:Nat):Int) by omega],by omega,rfl,h,(g.trans g2).cast (by omega) rfl,by omega,hto⟩
 ·refine PU.of (au (by omega) (by omega)) ?_
  exact⟨(d.zs i).length -(k +1),by omega,_,_,_,_,_,rfl,k +1,fk,A1,M1,c,by rw[show((k:Int) +1)=((k +1:Nat):Int) by omega],by omega,rfl,h,g.cast (by omega) rfl,by omega,hf⟩
theorem We{d0 e0:Nat}(hQ:WQ d)(ih:∀z,z<i→zW K d z){A1:At}{c1:Nat}{M1:List aK}(h:RY K d (M.map (·.1)) H0 H M1 [(rb,145,[vi (d.kd i),.slice ka (d.zs i).length kc,.string t,.slice xa xn xc,vi at'])] A1)(g1:At.Gw A A1 2 c1)(hc1:c1≤1)(hd0:A1.cur d0)(he0:A1.cur e0)(hi:i<d.nn)(h1:d.kd i=0)(he:El d.bW 5 i=[vi (d.kd i),.slice ka (d.zs i).length kc,.string t,.slice xa xn xc,vi at'])(hz:∀z∈d.zs i,z<i)(hzl:(d.zs i).length≤20001)
 (hn:A.ns +(2 +h_ d.ws (d.kd i) (d.zs i))≤4000)(ht:A.tot +2*(2 +h_ d.ws (d.kd i) (d.zs i))≤20000){x1 bT bJ bL mJ x20 oL zL oK x24 x25 x32 FE tL x38:Value}{dI:List (Nat×Value)}{Q:Value→aa→Prop}
 (kk:∀A' M' to c H',Bd d.ra A' M'→SH (M.map (·.1)) H0 H' M'→At.Gw A A' (2 +h_ d.ws (d.kd i) (d.zs i)) c→c≤2*(2 +h_ d.ws (d.kd i) (d.zs i))→At.Bu d.lw A'→A'.cur to→Q (vn to) H'):
 aR Pg X (.loop (sub dR [1,1,0,1,0,1,1,1,0,1,1,1,0,1,0,0])) (jN (vn i) x1 (pr d.g) (pr d.s) (pr d.w) (pr d.f) (pr d.fe) (pr d.lo) (pr d.p) (pr d.l) bT bJ bL (vn d0) (vn e0) mJ x20 oL zL oK x24 x25 x32 FE tL x38 (.slice ka (d.zs i).length kc) (vn (d.zs i).length) (vn 0) dI H) (gY 3 (kH Pg X (sub dR [1,1,0,1,0,1,1,1,0,1,1,1,1]) (gY 0 (kH Pg X (sub dR [1,1,1]) (cB Pg [.tmp 12] Q))))):=by
 have hal:Ai (d.kd i)=1:=by unfold Ai;rw[if_pos h1]
 refine PE 19 20 66 (I:=fun m mJ x20 x66 H'=>∃k A' M' c,x66=vn k∧k +m=(d.zs i).length∧RY K d (M.map (·.1)) H0 H' M' [(rb,145,[vi (d.kd i),.slice ka (d.zs i).length kc,.string t,.slice xa xn xc,vi at'])] A'∧At.Gw A A' (2 +h_ d.ws (d.kd i) ((d.zs i).take k)) c∧c +3≤2*(2 +h_ d.ws (d.kd i) ((d.zs i).take k))∧A'.cur d0∧A'.cur e0) ?_ (d.zs i).length ⟨0,A1,M1,c1,rfl,by omega,h,g1.cast (by simp[h_]) rfl,by omega,hd0,he0⟩
 clear h hd0 he0 g1 hc1
 rintro m mJ x20 x66 dI H1 ⟨k,A2,M2,c,rfl,hkm,h,g,hc,hd0,he0⟩
 refine tl ?_
 simp only[PP,Nat.reduceBEq]
 refine ae (fun hc2=>?_) (fun hc2=>?_)
 rotate_left
 ·obtain rfl:k=(d.zs i).length:=by omega
  rw[List.take_length]at g hc
  refine tl ?_
  simp only[PP,Nat.reduceBEq]
  refine rr ?_;exact(kk A2 M2 e0 c H1 h.bd (h.sh.sub (List.sublist_append_left M2 _)) g (by omega) h.bu he0)
 have hk:k<(d.zs i).length:=by omega
 have NN:(d.zs i)[k]?=some (d.zs i)[k]:=List.getElem?_eq_getElem hk
 have hzi:=hz _ (List.getElem_mem hk)
 generalize(d.zs i)[k]=z at NN hzi
 have hks:=Ey (ws:=d.ws) (kd:=d.kd i) NN
 have hkl:=Nl d.ws (d.kd i) (d.zs i) (k +1)
 have n1:=g.ns
 have t1:=g.tt
 obtain⟨r,o,rfl,hKr,hcell,hid,_⟩:=Ew h.we hi he NN
 refine PU.of hid ?_
 refine ME.ld hcell ?_
 refine ME.ld h.we.f.2 ?_
 refine h.fresh (by omega) fun H2 M2 A3 h g3 cb=>?_
 have n3:=g3.ns
 have t3:=g3.tt
 have g:=g.trans g3
 have hd0:=hd0.gw g3
 have he0:=he0.gw g3
 refine ME.ld h.we.fe.2 ?_
 refine h.free hd0 cb (by omega) fun _ H3 M3 A4 h g4=>?_
 have n4:=g4.ns
 have t4:=g4.tt
 have g:=g.trans g4
 have hd0:=hd0.gw g4
 have he0:=he0.gw g4
 have cb:=cb.gw g4
 refine ME.ld (H:=hN H3) h.we.fe.2 ?_
 simp only[aj h.sh.wf]
 refine ME.ld (H:=hN H3) h.we.w.2 ?_
 simp only[aj h.sh.wf]
 have h6:=h
 refine h.ZQ (ih z hzi) (by omega) (by omega) cb fun to H4 M4 A5 c5 h g5 b5 cto hx4=>?_
 have n5:=g5.ns
 have t5:=g5.tt
 have g:=g.trans g5
 have hd0:=hd0.gw g5
 have he0:=he0.gw g5
 refine h.Yb cto he0 (by omega) fun v5 H5 M5 A6 h8 g6 hx5=>?_
 have n6:=g6.ns
 have t6:=g6.tt
 have g:=g.trans g6
 refine(show∀K:Prop,K→_∧K from fun Kz hK=>?_) _ ?_
 ·have rd:∀{r o v},K r→H3.cell r o=some v→gD v v=true→∀w:Cl,((w.a=H3∧w.b=H4)∨(w.a=hM H3 H4∧w.b=H5))→gI w ⟨4,r,o,1,hh0,hh0⟩=true:=by
   intro r o v hr hc hs w hw
   rcases hw with hw|hw
   ·exact h6.rd hx4 (.inl hr) hc hs hw
   ·exact h.rd hx5 (.inl hr) (h6.keep hx4 (.inl hr) hc) hs hw
  have r1:=rd h6.we.fe.1 h6.we.fe.2 (Ji d)
  have r2:=rd h6.we.w.1 h6.we.w.2 (Gb d)
  simp only[aA]
  rcases tC H3 H4 with e|e<;>rw[e]<;>rcases tC (hM H3 H4) H5 with e|e<;>rw[e]<;>apply FB (T:=fun w=>(w.a=H3∧w.b=H4)∨(w.a=hM H3 H4∧w.b=H5)) (by kernel_rfl) (by kernel_rfl) hK<;>repeat' apply And.intro
  all_goals first|exact trivial|(intro h;cases h;done)|exact fun _=>.inl ⟨rfl,rfl⟩|exact fun _=>.inr ⟨rfl,rfl⟩|exact fun _=>r1|exact fun _=>r2
 refine PU.of (au (by omega) (by omega)) ?_
 exact⟨(d.zs i).length -(k +1),by omega,_,_,_,_,_,rfl,k +1,A6,M5,_,by rw[show((k:Int) +1)=((k +1:Nat):Int) by omega],by omega,h8,g.cast (by omega) rfl,by omega,hd0.gw g6,he0.gw g6⟩
end
end Go.Proofs.Lu
set_option maxRecDepth 100000
set_option maxHeartbeats 4000000
namespace Go.Proofs.Lu
open Go.Ae Go.Ae.M Go.Proofs.Lv
variable{H0 H:aa}{L M:List aK}{S:List Nat}{K:Nat→Prop}{A:At}{d:WD}
theorem TY{i z fr rb kc xn xc:Nat}{at':Int}{ka xa:Option Addr}{t:ByteArray}(hwz:zW K d z)(h:RY K d (M.map (·.1)) H0 H M [(rb,145,[vi (d.kd i),.slice ka 1 kc,.string t,.slice xa xn xc,vi at'])] A)(hi:i<d.nn)(h4:d.kd i=4)(he:El d.bW 5 i=[vi (d.kd i),.slice ka 1 kc,.string t,.slice xa xn xc,vi at'])(hz:(d.zs i)[0]?=some z)
 (hn:A.ns +(3 +W d.ws z)≤4000)(ht:A.tot +2*(3 +W d.ws z)≤20000)(hf:A.cur fr){bT bL dL iI mJ x20 oL zL oK x24 x25 FE tL x38 UA UB x66:Value}{dI:List (Nat×Value)}{Q:Value→aa→Prop}(hlk:zZ dI 85=.bool false)
 (kk:∀A' M' to c H',Bd d.ra A' M'→SH (M.map (·.1)) H0 H' M'→At.Gw A A' (3 +W d.ws z) c→c≤2*(3 +W d.ws z)→At.Bu d.lw A'→A'.cur to→Q (vn to) H'):
 aR Pg X (sub dR [1,1,0,1,0,1,1,1,1,1]) (jN (vn i) (vn fr) (pr d.g) (pr d.s) (pr d.w) (pr d.f) (pr d.fe) (pr d.lo) (pr d.p) (pr d.l) bT (pr rb) bL dL iI mJ x20 oL zL oK x24 x25 (vi (d.kd i)) FE tL x38 UA UB x66 dI H) (gY 0 (kH Pg X (sub dR [1,1,1]) (cB Pg [.tmp 12] Q))):=by
 obtain⟨rk,ok,rfl,_⟩:=Ew h.we hi he hz
 have hm:∀{H' M' A'},RY K d (M.map (·.1)) H0 H' M' [(rb,145,[vi (d.kd i),.slice (some ⟨rk,ok,none⟩) 1 kc,.string t,.slice xa xn xc,vi at'])] A'→H'.cell rb 1=some (.slice (some ⟨rk,ok,none⟩) 1 kc):=fun h=>by
  have hb:=h.sh.bk _ (List.mem_append_right _ (List.mem_cons_self ..))
  exact hb.cell rfl
 refine tl ?_
 rw[hlk]
 simp only[PP,Nat.reduceBEq]
 refine ae (fun _=>?_) (fun hc=>absurd h4 hc)
 refine ME.ld h.we.f.2 ?_
 refine h.fresh (by omega) fun H1 M1 A1 h g1 cb=>?_
 have n1:=g1.ns
 have t1:=g1.tt
 refine ME.ld h.we.fe.2 ?_
 refine h.free (hf.gw g1) cb (by omega) fun _ H2 M2 A2 h g2=>?_
 have n2:=g2.ns
 have t2:=g2.tt
 have g:=g1.trans g2
 have cb:=cb.gw g2
 refine ME.ld (H:=hN H2) h.we.w.2 ?_
 simp only[aj h.sh.wf,PP]
 have hmc:=hm h
 refine ME.ld (H:=hN H2) hmc ?_
 simp only[aj h.sh.wf]
 obtain⟨rk',ok',e1,hKr,hkc,hid,_⟩:=Ew h.we hi he hz
 cases e1
 refine PU.of hid ?_
 refine ME.ld (H:=hN H2) hkc ?_
 simp only[aj h.sh.wf]
 have h6:=h
 refine h.ZQ hwz (by omega) (by omega) cb fun la H3 M3 A3 c3 h g3 b3 cl hx3=>?_
 have n3:=g3.ns
 have t3:=g3.tt
 have g:=g.trans g3
 have cb:=cb.gw g3
 refine(show∀K:Prop,K→_∧K from fun Kz hK=>?_) _ ?_
 ·have rd:∀{r o v},(K r∨∃e∈[((rb,145,[vi (d.kd i),.slice (some ⟨rk,ok,none⟩) 1 kc,.string t,.slice xa xn xc,vi at']):aK)],e.1=r)→H2.cell r o=some v→gD v v=true→∀w:Cl,(w.a=H2∧w.b=H3)→gI w ⟨4,r,o,1,hh0,hh0⟩=true:=fun hr hc hs w hw=>h6.rd hx3 hr hc hs hw
  have r2:=rd (.inl h6.we.w.1) h6.we.w.2 (Gb d)
  have r3:=rd (.inr ⟨_,List.mem_cons_self ..,rfl⟩) (hm h6) (jM _ _ _ fun x h=>by cases h;rfl)
  have r4:=rd (.inl hKr) hkc (nO _ _)
  simp only[aA]
  rcases tC H2 H3 with e|e<;>rw[e]<;>apply FB (T:=fun w=>w.a=H2∧w.b=H3) (by kernel_rfl) (by kernel_rfl) hK<;>repeat' apply And.intro
  all_goals first|exact trivial|(intro h;cases h;done)|exact fun _=>⟨rfl,rfl⟩|exact fun _=>r2|exact fun _=>r3|exact fun _=>r4
 refine ME.ld h.we.f.2 ?_
 refine h.fresh (by omega) fun H4 M4 A4 h g4 cd=>?_
 have n4:=g4.ns
 have t4:=g4.tt
 have g:=g.trans g4
 have cl:=cl.gw g4
 have cb:=cb.gw g4
 refine ME.ld h.we.fe.2 ?_
 refine h.free cl cd (by omega) fun _ H5 M5 A5 h g5=>?_
 have n5:=g5.ns
 have t5:=g5.tt
 have g:=g.trans g5
 have cd:=cd.gw g5
 have cb:=cb.gw g5
 refine ME.ld h.we.fe.2 ?_
 refine h.free cd cb (by omega) fun _ H6 M6 A6 h g6=>?_
 have n6:=g6.ns
 have t6:=g6.tt
 have g:=g.trans g6
 have cd:=cd.gw g6
 refine ME.ld h.we.f.2 ?_
 refine h.fresh (by omega) fun H7 M7 A7 h g7 ce=>?_
 have n7:=g7.ns
 have t7:=g7.tt
 have g:=g.trans g7
 have cd:=cd.gw g7
 refine ME.ld h.we.fe.2 ?_
 refine h.free cd ce (by omega) fun _ H8 M8 A8 h g8=>?_
 have n8:=g8.ns
 have t8:=g8.tt
 have g:=g.trans g8
 refine rr ?_;exact(kk A8 M8 A6.ns _ _ h.bd (h.sh.sub (List.sublist_append_left M8 _)) (g.cast (by omega) rfl) (by omega) h.bu (ce.gw g8))
theorem ZR(hQ:WQ d):∀i,i<d.nn→zW K d i:=by
 intro i
 induction i using Nat.strongRecOn with
 |ind i ih=>
  intro hi S H0 H M L A fr h hn ht hf
  have h:=h.own
  obtain⟨ka,kc,t,xa,xn,xc,at',he,hfit,hz,hzl⟩:=h.we.kid.row hi
  have ih:∀z,z<i→zW K d z:=fun z hz=>ih z hz (by omega)
  have hsz:=hQ.sz i hi
  unfold xX at hsz
  have hW:W d.ws i=wN (d.kd i) +h_ d.ws (d.kd i) (d.zs i):=by omega
  refine ce [0,1,2,3,4,5,6,7,8,9,12,13,15,16,17,19,20,21,22,23,24,25,32,36,37,38,64,65,66] ?_;refine tl ?_
  simp only[PP,Nat.reduceBEq]
  refine ME.ld h.we.g.2 ?_
  refine h.we.nd.ixN (by omega) hi he fun p=>?_
  refine(SH.refl h.sh.wf).ns rfl rfl rfl fun H1 rb hS1 _=>?_
  have h:RY K d (M.map (·.1)) H H1 M [(rb,145,[vi (d.kd i),.slice ka (d.zs i).length kc,.string t,.slice xa xn xc,vi at'])] A:=h.ab6 hS1
  have hm:∀{H' M' A'},RY K d (M.map (·.1)) H H' M' [(rb,145,[vi (d.kd i),.slice ka (d.zs i).length kc,.string t,.slice xa xn xc,vi at'])] A'→Bk H' rb 145 [vi (d.kd i),.slice ka (d.zs i).length kc,.string t,.slice xa xn xc,vi at']:=fun h=>h.sh.bk _ (List.mem_append_right _ (List.mem_cons_self ..))
  simp only[PP,Nat.reduceBEq]
  refine ME.ld ((hm h).cell (o:=0) rfl) ?_
  simp only[PP,Nat.reduceBEq]
  have fin:∀A' M' to c H',Bd d.ra A' M'→SH (M.map (·.1)) H H' M'→At.Gw A A' (W d.ws i) c→c≤2*W d.ws i→At.Bu d.lw A'→A'.cur to→ZP d i A M H (vn to) H':=fun A' M' to c H' a1 a2 a3 a4 a5 a6=>⟨A',M',to,c,rfl,a1,a2,a3,a4,a5,a6⟩
  refine ae (fun h1=>?_) (fun h1=>?_)
  ·refine ME.ld ((hm h).cell (o:=1) rfl) ?_
   simp only[PP,Nat.reduceBEq]
   have hb:wN (d.kd i)=0:=by unfold wN;rw[if_neg (by omega),if_pos h1]
   have e:W d.ws i=h_ d.ws (d.kd i) (d.zs i):=by omega
   rw[e]at fin
   exact Wd hQ ih h hi h1 he hz hzl (by omega) (by omega) hf fin
  refine ae (fun h0=>?_) (fun h0=>?_)
  ·have hb:wN (d.kd i)=2:=by unfold wN;rw[if_pos h0]
   have e:W d.ws i=2 +h_ d.ws (d.kd i) (d.zs i):=by omega
   rw[e]at fin
   refine ME.ld h.we.f.2 ?_
   refine h.fresh (by omega) fun H2 M2 A2 h g2 cd=>?_
   have n2:=g2.ns
   have t2:=g2.tt
   refine ME.ld h.we.fe.2 ?_
   refine h.free (hf.gw g2) cd (by omega) fun _ H3 M3 A3 h g3=>?_
   have n3:=g3.ns
   have t3:=g3.tt
   have g:=g2.trans g3
   refine ME.ld h.we.f.2 ?_
   refine h.fresh (by omega) fun H4 M4 A4 h g4 ce=>?_
   have n4:=g4.ns
   have t4:=g4.tt
   have g:=g.trans g4
   refine ME.ld ((hm h).cell (o:=1) rfl) ?_
   simp only[PP,Nat.reduceBEq]
   exact We hQ ih h g (by omega) ((cd.gw g3).gw g4) ce hi h0 he hz hzl (by omega) (by omega) fin
  have three:(d.kd i=2∨d.kd i=3∨d.kd i=4)→∃z,d.zs i=[z]∧z<i∧W d.ws i=3 +W d.ws z:=fun hk=>by
   have hl:(d.zs i).length=1:=by rcases hfit with h|h|h|h<;>omega
   obtain⟨z,hz1⟩:=List.length_eq_one_iff.1 hl
   refine⟨z,hz1,hz z (by rw[hz1];simp),?_⟩
   rw[hW,hz1]
   have hb:wN (d.kd i)=3:=by unfold wN;rw[if_neg (by omega),if_neg (by omega),if_pos hk]
   have ha:Ai (d.kd i)=0:=by unfold Ai;rw[if_neg (by omega)]
   unfold h_
   simp[hb,ha]
  have one:¬(d.kd i=2∨d.kd i=3∨d.kd i=4)→W d.ws i=1:=fun hk=>by
   have hl:(d.zs i).length=0:=by rcases hfit with h|h|h|h<;>omega
   have hz0:=List.length_eq_zero_iff.1 hl
   rw[hW,hz0]
   have hb:wN (d.kd i)=1:=by unfold wN;rw[if_neg (by omega),if_neg (by omega),if_neg hk]
   rw[hb];rfl
  have loop:∀{bT bL dL iI mJ x20 oL zL oK x24 x25 FE tL x38 UA UB x66:Value}{dI:List (Nat×Value)},(d.kd i=2∨d.kd i=3)→zZ dI 85=.bool true→aR Pg X (sub dR [1,1,0,1,0,1,1,1,1,1]) (jN (vn i) (vn fr) (pr d.g) (pr d.s) (pr d.w) (pr d.f) (pr d.fe) (pr d.lo) (pr d.p) (pr d.l) bT (pr rb) bL dL iI mJ x20 oL zL oK x24 x25 (vi (d.kd i)) FE tL x38 UA UB x66 dI H1) (gY 0 (kH Pg X (sub dR [1,1,1]) (cB Pg [.tmp 12] (ZP d i A M H)))):=by
   intro bT bL dL iI mJ x20 oL zL oK x24 x25 FE tL x38 UA UB x66 dI hk hlk
   obtain⟨z,hz1,hzi,e⟩:=three (by omega)
   rw[e]at fin hn ht
   have hz0:(d.zs i)[0]?=some z:=by rw[hz1];rfl
   have hl:(d.zs i).length=1:=by rw[hz1];rfl
   refine tl ?_
   rw[hlk]
   simp only[PP,Nat.reduceBEq]
   refine ME.ld h.we.lo.2 ?_
   refine ME.vW ((hm h).read (o:=0) (n:=5) (by show 0 +5≤5;omega)) ?_
   show ak Pg X 159 [.agg ⟨[vi (d.kd i),.slice ka (d.zs i).length kc,.string t,.slice xa xn xc,vi at']⟩,vn fr,pr d.f,pr d.fe,pr d.w] H1 _
   rw[hl]at he⊢
   refine ak.mono (O' (ih z hzi) h hi he hz0 hn ht hf) ?_
   rintro v H2 ⟨A',M',to,c,rfl,b1,b2,b3,b4,b5,b6⟩
   refine rr ?_;refine(fin A' M' to c H2 b1 ?_ b3 b4 b5 b6)
   exact(SH.frame h.sh b2).sub (List.sublist_append_left M' _)
  refine ae (fun h2=>?_) (fun h2=>?_)
  ·exact loop (.inl h2) (by show Value.bool (decide (d.kd i=2))=_;rw[decide_eq_true h2])
  by_cases h3:d.kd i=3
  ·exact loop (.inr h3) (by show Value.bool (decide (d.kd i=3))=_;rw[decide_eq_true h3])
  by_cases h4:d.kd i=4
  ·obtain⟨z,hz1,hzi,e⟩:=three (by omega)
   rw[e]at fin hn ht
   have hz0:(d.zs i)[0]?=some z:=by rw[hz1];rfl
   have hl:(d.zs i).length=1:=by rw[hz1];rfl
   rw[hl]at he h
   exact TY (ih z hzi) h hi h4 he hz0 hn ht hf (by show Value.bool (decide (d.kd i=3))=_;rw[decide_eq_false h3]) fin
  ·have e:=one (by omega)
   rw[e]at fin hn ht
   refine tl ?_
   simp only[PP,Nat.reduceBEq]
   refine ae (fun hc=>absurd hc h3) (fun _=>?_)
   refine ae (fun hc=>absurd hc h4) (fun _=>?_)
   exact TX hQ h hi hn ht hf fin
end Go.Proofs.Lu
set_option maxRecDepth 100000
set_option maxHeartbeats 4000000
namespace Go.Proofs.Lu
open Go.Ae Go.Ae.M Go.Proofs.Lv
variable{H0 H:aa}{L M:List aK}{S:List Nat}{K:Nat→Prop}{A:At}{d:WD}
theorem O_(hw:Wf H){ra na:Option Addr}{rn rc nn nc:Nat}{lv sv:Value}{rb:Nat}(hl:∃a n c,lv=.slice a n c)(hs:∃a n c,sv=.slice a n c):ak Pg X 120 [gV ra rn rc na nn nc,lv,sv,.func (.func 118) ⟨[]⟩ ⟨[pr rb]⟩,.func (.func 119) ⟨[]⟩ ⟨[pr rb]⟩] H fun v H'=>∃g s w f fe lo p l,v=.func (.func 160) ⟨[]⟩ ⟨[pr g,pr s,pr w,pr f,pr fe,pr lo,pr p,pr l]⟩∧Ext H H'∧(∀r∈[g,s,w,f,fe,lo,p,l],H.next≤r∧r<H'.next)∧H'.cell g 1=some (.slice na nn nc)∧H'.cell s 0=some sv∧H'.cell w 0=some v∧H'.cell f 0=some (.func (.func 118) ⟨[]⟩ ⟨[pr rb]⟩)∧H'.cell fe 0=some (.func (.func 158) ⟨[]⟩ ⟨[pr p]⟩)∧H'.cell lo 0=some (.func (.func 159) ⟨[]⟩ ⟨[pr f,pr fe,pr w]⟩)∧H'.cell p 0=some (.func (.func 119) ⟨[]⟩ ⟨[pr rb]⟩)∧H'.cell l 0=some lv:=by
 obtain⟨la,ln,lc,rfl⟩:=hl
 obtain⟨sa,sn,sc,rfl⟩:=hs
 have hS:=SH.refl hw
 refine ce [0,1,2,3,4,5,6,7,8,9,10,11,12,13] ?_;refine tl ?_
 refine hS.box rfl fun H1 g hS=>?_
 refine hS.box rfl fun H2 l hS=>?_
 refine hS.box rfl fun H3 s hS=>?_
 refine hS.box rfl fun H4 f hS=>?_
 refine hS.box rfl fun H5 p hS=>?_
 refine hS.cZ fun H6 fe hS=>?_
 refine hS.jd fun Hn hS=>?_
 refine hS.cZ fun H7 w hS=>?_
 refine hS.cZ fun H8 lo hS=>?_
 repeat(first|(refine hS.aZ ?_)|(refine hS.jd fun Hn hS=>?_))
 refine rr ?_;refine⟨g,s,w,f,fe,lo,p,l,rfl,hS.ext,?_,(hS.get 7 rfl).cell rfl,(hS.get 5 rfl).cell rfl,(hS.get 1 rfl).cell rfl,(hS.get 4 rfl).cell rfl,(hS.get 2 rfl).cell rfl,(hS.get 0 rfl).cell rfl,(hS.get 3 rfl).cell rfl,(hS.get 6 rfl).cell rfl⟩
 intro r hr
 simp only[List.mem_cons,List.mem_nil_iff,or_false]at hr
 rcases hr with rfl|rfl|rfl|rfl|rfl|rfl|rfl|rfl
 ·exact⟨hS.xA (List.mem_of_getElem? (i:=7) rfl),(hS.lo _ (List.mem_of_getElem? (i:=7) rfl)).2⟩
 ·exact⟨hS.xA (List.mem_of_getElem? (i:=5) rfl),(hS.lo _ (List.mem_of_getElem? (i:=5) rfl)).2⟩
 ·exact⟨hS.xA (List.mem_of_getElem? (i:=1) rfl),(hS.lo _ (List.mem_of_getElem? (i:=1) rfl)).2⟩
 ·exact⟨hS.xA (List.mem_of_getElem? (i:=4) rfl),(hS.lo _ (List.mem_of_getElem? (i:=4) rfl)).2⟩
 ·exact⟨hS.xA (List.mem_of_getElem? (i:=2) rfl),(hS.lo _ (List.mem_of_getElem? (i:=2) rfl)).2⟩
 ·exact⟨hS.xA (List.mem_of_getElem? (i:=0) rfl),(hS.lo _ (List.mem_of_getElem? (i:=0) rfl)).2⟩
 ·exact⟨hS.xA (List.mem_of_getElem? (i:=3) rfl),(hS.lo _ (List.mem_of_getElem? (i:=3) rfl)).2⟩
 ·exact⟨hS.xA (List.mem_of_getElem? (i:=6) rfl),(hS.lo _ (List.mem_of_getElem? (i:=6) rfl)).2⟩
theorem Bd.name{ra:Nat}{nm:ByteArray}(hB:Bd ra A M)(hS:SH S H0 H (M++L))(hn:A.nr≤1000):∃v,H.cell ra 0=some v∧∀{Kp:Value→Value→Value→aa→Prop},(∀w v' u H' M',Bd ra (A.ru nm) M'→SH (M.map (·.1)) H H' M'→Kp w v' u H')→
 ME (bS 9 [.string ⟨#[]⟩] 1 1 [(0,.string nm)] H) fun w H1=>ME (xz 9 1 v w H1) fun v2 H2=>ME (Aw 1 (pr ra) v2 H2) fun u H3=>Kp w v2 u H3:=by
 have hS:=SH.own hS
 obtain⟨nv,sv,pv,ov,ev,evs,gn,gs,gp,go,ge,R,rfl,hgn,hgs,UI,hgo,hge,hR⟩:=hB
 refine⟨nv,(hS.get 0 rfl).cell rfl,fun{Kp} kk=>?_⟩
 refine hgn.push (hS.perm (eY [_] gn _)) (by omega) rfl rfl rfl rfl rfl (by omega) (by rw[List.length_map];unfold At.nr at hn;omega) fun w v' H1 Zj ab7 hS=>?_
 have hS:=hS.perm (eY Zj [(ra,26,[nv,sv,pv,ov,ev,vn A.ty])] _)
 obtain⟨na',nc',rfl⟩:=ab7.ES
 refine hS.st 0 rfl rfl (by show 0 +1≤6;omega) rfl fun H2 hS=>?_
 refine kk _ _ _ H2 _ ⟨_,sv,pv,ov,ev,evs,Zj,gs,gp,go,ge,R,rfl,?_,hgs,UI,hgo,hge,hR⟩ hS
 have:(A.ru nm).nm.map Value.string=A.nm.map Value.string++ay (.string nm):=by show(A.nm++[nm]).map Value.string=_;simp;rfl
 rw[this];exact ab7
end Go.Proofs.Lu
set_option maxRecDepth 100000
set_option maxHeartbeats 4000000
namespace Go.Proofs.Lu
open Go.Ae Go.Ae.M Go.Proofs.Lv
variable{H0 H:aa}{L M:List aK}{S:List Nat}{K:Nat→Prop}{A:At}{d:WD}
theorem _root_.Go.Ae.GB.same{ty:TypeId}{es:Nat}{v:Value}{cs:List Value}{gb:List aK}(h:GB ty es v cs gb):gD v v=true:=by
 rcases h with⟨rfl,_⟩|⟨r,n,aQ,rfl,_⟩
 ·exact jM _ _ _ fun x h=>by cases h
 ·exact jM _ _ _ fun x h=>by cases h;rfl
theorem RY.put{e:Ed}{a:Nat}{Kp:Value→aa→Prop}(h:RY K d S H0 H M L A)(ha:A.cur a)(hb:A.cur e.2.2)(he:At.Ya d.lw A.ty e)(ht:A.tot≤1000000)(kk:∀v H' M' A',RY K d S H0 H' M' L A'→At.Gw A A' 0 1→Kp v H'):fq Pg X (CW d.pv) [vn a,.agg ⟨[vn e.1,vn e.2.1,vn e.2.2]⟩] H Kp:=by
 show ak Pg X 119 [vn a,_,pr d.ra] H Kp
 refine ak.mono (F_ (e:=e) h.bd h.sh ha.1 h.bu.rW ht) ?_
 rintro v H' ⟨M',h1,h2⟩
 exact kk v H' M' _ (h.step h1 h2 (At.Gw.pu h.bu.rW ha.1 _) (h.bu.puC ha hb he)) (At.Gw.pu h.bu.rW ha.1 _)
structure RZ(K:Nat→Prop)(d:WD)(S:List Nat)(H0 H:aa)(M L:List aK)(A:At):Prop where
 we:WE K d H
 nk:∀r∈M.map (·.1),¬K r
 bd:Bd d.ra A M
 sh:SH S H0 H (M++L)
 bs:At.Bs' d.lw A
 ty:A.ty=d.tn
 few:A.nr≤120
 tt:A.tot≤2*A.ns
theorem RZ.ext{H1:aa}{L':List aK}(h:RZ K d S H0 H M L A)(hx:Ext H H1)(hS:SH S H0 H1 (M++L')):RZ K d S H0 H1 M L' A:=⟨h.we.stay hx (fun r hr=>nomatch hr),h.nk,h.bd,hS,h.bs,h.ty,h.few,h.tt⟩
theorem RZ.nks{H':aa}{M':List aK}(h:RZ K d S H0 H M L A)(hS:SH (M.map (·.1)) H H' M'):∀r∈M'.map (·.1),¬K r:=fun r hr hk=>by
 obtain⟨e,he,rfl⟩:=List.mem_map.1 hr
 rcases(hS.lo e he).1 with h1|h1
 ·exact h.nk _ h1 hk
 ·have:=h.we.hK _ hk;omega
theorem RY.ends{a b:Nat}(h:RY K d S H0 H M L A)(hl:A.st.length≤1000)(hl2:A.sp.length≤1000){O:Array Oper}{Kp:Value→aa→Value→aa→Value→aa→Value→aa→Value→aa→Value→aa→Value→aa→Value→aa→Prop}
 (hO:O=opsOf (sub tF [1,1,1,1,1,0,1,0,0,1,1,0,0,1,1,1,1,0]))
 (kk:∀v1 Gc v2 Jj v3 Lc v4 Pb v5 TZ v6 Wh v7 ZS v8 H48 M',RY K d S H0 (hM (hM (hM (hM (hM (hM (hM (hM H Gc) Jj) Lc) Pb) TZ) Wh) ZS) H48) M' L (A.se a b)→Kp v1 Gc v2 Jj v3 Lc v4 Pb v5 TZ v6 Wh v7 ZS v8 H48):
 ME (jX none (.pointer (some ⟨d.ra,1,none⟩)) (hN H)) fun v32 Gc=>
 ME (bS 3 [(Value.int .i64 0)] 1 1 [(0,vn a)] (hN (hM H Gc))) fun v34 Jj=>
 ME (xz 3 1 v32 v34 (hN (hM (hM H Gc) Jj))) fun v36 Lc=>
 ME (jX none (.pointer (some ⟨d.ra,2,none⟩)) (hN (hM (hM (hM H Gc) Jj) Lc))) fun v39 Pb=>
 ME (bS 3 [(Value.int .i64 0)] 1 1 [(0,vn b)] (hN (hM (hM (hM (hM H Gc) Jj) Lc) Pb))) fun v41 TZ=>
 ME (xz 3 1 v39 v41 (hN (hM (hM (hM (hM (hM H Gc) Jj) Lc) Pb) TZ))) fun v43 Wh=>
 ME (Aw 1 (.pointer (some ⟨d.ra,1,none⟩)) v36 (hN (hM (hM (hM (hM (hM (hM H Gc) Jj) Lc) Pb) TZ) Wh))) fun u46 ZS=>
 ME (Aw 1 (.pointer (some ⟨d.ra,2,none⟩)) v43 (hN (hM (hM (hM (hM (hM (hM (hM H Gc) Jj) Lc) Pb) TZ) Wh) ZS))) fun u49 H48=>
 bO O [(clS (.pointer (some ⟨d.ra,2,none⟩)) v43 (hM (hM (hM (hM (hM (hM (hM H Gc) Jj) Lc) Pb) TZ) Wh) ZS) H48),(cl 0),(clS (.pointer (some ⟨d.ra,1,none⟩)) v36 (hM (hM (hM (hM (hM (hM H Gc) Jj) Lc) Pb) TZ) Wh) ZS),(cl 0),(Df (hM (hM (hM (hM (hM H Gc) Jj) Lc) Pb) TZ) Wh),(Oo (hM (hM (hM (hM H Gc) Jj) Lc) Pb) TZ),(cl 0),(W9 1 (.pointer (some ⟨d.ra,2,none⟩)) (hM (hM (hM H Gc) Jj) Lc) Pb),(cl 0),(Df (hM (hM H Gc) Jj) Lc),(Oo (hM H Gc) Jj),(cl 0),(W9 1 (.pointer (some ⟨d.ra,1,none⟩)) H Gc),(cl 0)]=true∧Kp v32 Gc v34 Jj v36 Lc v39 Pb v41 TZ v43 Wh u46 ZS u49 H48:=by
 subst hO
 have hS0:=SH.own h.sh
 obtain⟨nv,sv,pv,ov,ev,evs,gn,gs,gp,go,ge,R,rfl,hgn,hgs,UI,hgo,hge,hR⟩:=id h.bd
 have hS:=hS0.perm (L':=(d.ra,26,[nv,sv,pv,ov,ev,vn A.ty])::(gs++(gp++(gn++(go++(ge++R)))))) (by
  have p1:=eY gn gs (gp++(go++(ge++R)))
  have p2:=eY gn gp (go++(ge++R))
  exact(p1.trans (List.Perm.append_left gs p2)).cons _)
 refine hS.jf ?_
 simp only[aj hS.wf]
 refine hS.Vw rfl rfl rfl (by omega) fun H1 rx hS jC=>?_
 have hX1:=hS.get 1 rfl
 have hS:=(hS.to (cs':=[vn a]) rfl).perm ((eY [_] gs _).cons _)
 refine hgs.Ie hS (by omega) rfl rfl (by rw[List.length_map];omega) fun v' H2 gs' hgs' hS _ _ hc1=>?_
 have hS:=hS.perm (eY gs' [_] _)
 simp only[List.cons_append,List.nil_append]at hS
 have hY1:=(hS.get 0 rfl).fO (H':=H2) rfl
 generalize hz1:hM (hM H H1) H2=Z1 at hS⊢
 have hwZ:=hS.wf
 refine hS.jf ?_
 simp only[aj hS.wf]
 refine hS.Vw rfl rfl rfl (by omega) fun H3 ry hS nE=>?_
 have hX2:=hS.get 1 rfl
 have hS:=(hS.to (cs':=[vn b]) rfl).perm (L':=(ry,3,[vn b])::(gp++((d.ra,26,[nv,sv,pv,ov,ev,vn A.ty])::(gs'++(gn++(go++(ge++R))))))) (by
  have:=eY ((d.ra,26,[nv,sv,pv,ov,ev,vn A.ty])::gs') gp (gn++(go++(ge++R)))
  exact this.cons _)
 refine UI.Ie hS (by omega) rfl rfl (by rw[List.length_map];omega) fun w' H4 ZT ab8 hS _ _ hc2=>?_
 have hS:=hS.perm (List.perm_middle)
 have hY2:=(hS.get 0 rfl).fO (H':=H4) rfl
 obtain⟨va,vc,rfl⟩:=hgs'.ES
 obtain⟨wa,wc,rfl⟩:=ab8.ES
 refine hS.qh fun H5 hS=>?_
 have hS:=hS.to (cs':=[nv,.slice va (bH A.st++[vn a]).length vc,pv,ov,ev,vn A.ty]) rfl
 refine hS.qh fun H6 hS=>?_
 have hS:=hS.to (cs':=[nv,.slice va (bH A.st++[vn a]).length vc,.slice wa (bH A.sp++[vn b]).length wc,ov,ev,vn A.ty]) rfl
 refine(show∀K:Prop,K→_∧K from fun Kz hK=>?_) _ ?_
 ·have sm:∀{o},(o=1∨o=2)→∀v∈(([nv,sv,pv,ov,ev,vn A.ty]:List Value).drop o).take 1,gD v v=true:=fun ho v hv=>by
   rcases ho with rfl|rfl
   ·have hv:v∈[sv]:=hv
    rw[List.mem_singleton]at hv
    subst hv;exact hgs.same
   ·have hv:v∈[pv]:=hv
    rw[List.mem_singleton]at hv
    subst hv;exact UI.same
  have rd:∀{o},(o=1∨o=2)→∀w:Cl,((w.a=hM H H1∧w.b=H2)∨(w.a=hM Z1 H3∧w.b=H4))→gI w ⟨4,d.ra,o,1,hh0,hh0⟩=true:=fun{o} ho w hw=>by
   have hle:o +1≤6:=by omega
   unfold gI
   rcases hw with hw|hw
   ·rw[hw.1,hw.2]
    exact qc (hX1.read hle) (hY1.read hle) (nP (sm ho))
   ·rw[hw.1,hw.2]
    exact qc (hX2.read hle) (hY2.read hle) (nP (sm ho))
  have r1:=rd (.inl rfl)
  have r2:=rd (.inr rfl)
  simp only[jC,nE,aA,aB]
  generalize d.ra=ra at r1 r2⊢
  rcases hc1 with e|e<;>rw[e]<;>rcases hc2 with e|e<;>rw[e]<;>apply VD (a:=ra) (T:=fun w=>(w.a=hM H H1∧w.b=H2)∨(w.a=hM Z1 H3∧w.b=H4)) (by rfl) (by kernel_rfl) (by kernel_rfl) hK<;>repeat' apply And.intro
  all_goals first|exact trivial|(intro h;cases h;done)|exact fun _=>.inl ⟨rfl,rfl⟩|exact fun _=>.inr ⟨rfl,rfl⟩|exact fun _=>r1|exact fun _=>r2
 have hS:=hS.perm (L':=(d.ra,26,[nv,.slice va (bH A.st++[vn a]).length vc,.slice wa (bH A.sp++[vn b]).length wc,ov,ev,vn A.ty])::(gn++(gs'++(ZT++(go++(ge++R)))))) (by
  refine List.Perm.cons _ ?_
  have p1:=eY (ZT++gs') gn (go++(ge++R))
  have p2:=eY ZT gs' (go++(ge++R))
  simp only[List.append_assoc]at p1
  exact p1.trans (List.Perm.append_left gn p2))
 have hB:Bd d.ra (A.se a b) ((d.ra,26,[nv,.slice va (bH A.st++[vn a]).length vc,.slice wa (bH A.sp++[vn b]).length wc,ov,ev,vn A.ty])::(gn++(gs'++(ZT++(go++(ge++R)))))):=⟨nv,_,_,ov,ev,evs,gn,gs',ZT,go,ge,R,rfl,hgn,by
  have:bH (A.se a b).st=bH A.st++ay (vn a):=by show bH (A.st++[a])=_;simp;rfl
  rw[this];exact hgs',by
  have:bH (A.se a b).sp=bH A.sp++ay (vn b):=by show bH (A.sp++[b])=_;simp;rfl
  rw[this];exact ab8,hgo,hge,hR⟩
 have hnk:∀{M':List aK}{H':aa},SH ((((d.ra,26,[nv,sv,pv,ov,ev,vn A.ty])::(gn++(gs++(gp++(go++(ge++R))))):List aK).map (·.1))) H H' M'→∀r∈M'.map (·.1),¬K r:=fun hS r hr hk=>by
  obtain⟨e,he,rfl⟩:=List.mem_map.1 hr
  rcases(hS.lo e he).1 with h1|h1
  ·exact h.nk _ h1 hk
  ·have:=h.we.hK _ hk;omega
 have hY:RY K d S H0 _ ((d.ra,26,[nv,.slice va (bH A.st++[vn a]).length vc,.slice wa (bH A.sp++[vn b]).length wc,ov,ev,vn A.ty])::(gn++(gs'++(ZT++(go++(ge++R)))))) L (A.se a b):=⟨h.we.stay hS.ext h.nk,hnk hS,hB,SH.frame h.sh hS,⟨h.bu.rW,h.bu.o,h.bu.e⟩,h.ty,h.pos,h.few⟩
 refine kk _ _ _ _ _ _ _ _ _ _ _ _ _ _ _ _ ((d.ra,26,[nv,.slice va (bH A.st++[vn a]).length vc,.slice wa (bH A.sp++[vn b]).length wc,ov,ev,vn A.ty])::(gn++(gs'++(ZT++(go++(ge++R)))))) ?_
 rw[aj h.sh.wf,hz1,aj hwZ]
 exact hY
end Go.Proofs.Lu
set_option maxRecDepth 100000
set_option maxHeartbeats 4000000
namespace Go.Proofs.Lu
open Go.Ae Go.Ae.M Go.Proofs.Lv
variable{H0 H:aa}{L M:List aK}{S:List Nat}{K:Nat→Prop}{A:At}{d:WD}
theorem _root_.Go.Ae.fE.within{F F':Nat→Prop}{ty:TypeId}{a:Option Addr}{n es:Nat}{cs:List Value}(h:fE F ty H a n es cs)(hF:∀r,r<H.next→F' r):fE F' ty H a n es cs:=⟨h.1,fun r o e hn=>let⟨_,h2,h3⟩:=h.2 r o e hn;⟨hF r h2,h2,h3⟩⟩
theorem Nc.within{F F':Nat→Prop}{nn:Nat}{bW:List Value}{kd:Nat→Int}{zs:Nat→List Nat}(h:Nc F H nn bW kd zs)(hF:∀r,r<H.next→F' r):Nc F' H nn bW kd zs:=fun i hi=>let⟨a,c,t,xa,xn,xc,at',h1,h2,h3⟩:=h i hi;⟨a,c,t,xa,xn,xc,at',h1,h2.within hF,h3⟩
theorem Nc.ex{F:Nat→Prop}{nn:Nat}{bW:List Value}{kd:Nat→Int}{zs:Nat→List Nat}{H':aa}(h:Nc F H nn bW kd zs)(hx:Ext H H'):Nc F H' nn bW kd zs:=fun i hi=>let⟨a,c,t,xa,xn,xc,at',h1,h2,h3⟩:=h i hi;⟨a,c,t,xa,xn,xc,at',h1,h2.ex hx,h3⟩
theorem _root_.Go.Ae.Bk.Pz{F:Nat→Prop}{r:Nat}{ty:TypeId}{cs:List Value}{n es:Nat}(h:Bk H r ty cs)(hr:r<H.next)(hn:cs.length=n*es)(hF:F r):fE F ty H (some ⟨r,0,none⟩) n es cs:=⟨h.fl hr hn,fun r' o e _=>by cases e;exact⟨hF,hr,h.Py⟩⟩
def wI(rcs:List Value)(ws:List Nat):Nat→Nat
 |0=>0
 |i +1=>wI rcs ws i +(if xV rcs i=true then 0 else 2 +W ws (rootOf rcs i).toNat)
theorem Pd(rcs:List Value)(ws:List Nat){i j:Nat}(h:i≤j):wI rcs ws i≤wI rcs ws j:=by
 induction j with
 |zero=>obtain rfl:i=0:=by omega
        exact Nat.le_refl _
 |succ j ih=>
  rcases Nat.lt_or_ge i (j +1)with h1|h1
  ·have:=ih (by omega)
   show _≤wI rcs ws j +_
   omega
  ·obtain rfl:i=j +1:=by omega
   exact Nat.le_refl _
theorem Bd.atM{ra:Nat}{H':aa}(hB:Bd ra A M)(hS:SH [] H H' (M++L))(ho:A.Ok):∃q:AV,H'.read ra 0 6=some (q.cells A)∧oW (H.next≤·) H' A q:=by
 obtain⟨nv,sv,pv,ov,ev,evs,gn,gs,gp,go,ge,R,rfl,hgn,hgs,UI,hgo,hge,hR⟩:=hB
 have hev:evs.length=A.ns:=by rw[←hR.len,List.length_map,ho.rW]
 have hS:=hS.cast (L':=(ra,26,[nv,sv,pv,ov,ev,vn A.ty])::(gn++(gs++(gp++(go++(ge++(R++L))))))) (by simp)
 have hf:∀{e:aK},e∈(ra,26,[nv,sv,pv,ov,ev,vn A.ty])::(gn++(gs++(gp++(go++(ge++(R++L))))))→H.next≤e.1:=fun he=>hS.xA he
 have hread:=(hS.get 0 rfl).read (o:=0) (n:=6) (by show 0 +6≤6;omega)
 have hT:=SH.drop (A:=[_]) hS
 have hT2:=SH.drop hT
 have hT3:=SH.drop hT2
 have hT4:=SH.drop hT3
 have hT5:=SH.drop hT4
 have hT6:=SH.drop hT5
 obtain⟨na,n1,nc,rfl,l1,f1⟩:=hgn.Pz hT
 obtain⟨sa,n2,sc,rfl,l2,f2⟩:=hgs.Pz hT2
 obtain⟨pa,n3,pc,rfl,l3,f3⟩:=UI.Pz hT3
 obtain⟨oa,n4,oc,rfl,l4,f4⟩:=hgo.Pz hT4
 obtain⟨ea,n5,ec,rfl,l5,f5⟩:=hge.Pz hT5
 have e1:n1=A.nr:=by rw[List.length_map]at l1;unfold At.nr;omega
 have e2:n2=A.nr:=by rw[List.length_map,ho.Jp]at l2;omega
 have e3:n3=A.nr:=by rw[List.length_map,ho.TN]at l3;omega
 have e4:n4=A.ns:=by rw[List.length_map]at l4;unfold At.ns;omega
 have e5:n5=A.ns:=by omega
 subst e1
 rw[e2]at hread f2
 rw[e3]at hread f3
 rw[e4]at hread f4
 rw[e5]at hread f5
 refine⟨⟨na,sa,pa,oa,ea,nc,sc,pc,oc,ec⟩,hread,f1,f2,f3,f4,evs,f5,fun i hi=>?_⟩
 obtain⟨a,n,c,g1,g2,g3⟩:=hR.all hT6 i (by omega)
 have hE:(A.eg.map yY)[i]?.getD []=yY (A.E i):=by
  unfold At.E
  rw[List.getElem?_map,List.getElem?_eq_getElem (show i<A.eg.length by rw[ho.rW];exact hi)];rfl
 rw[hE]at g2 g3
 rw[F5]at g2
 obtain rfl:n=(A.E i).length:=by omega
 refine⟨a,c,by rw[List.getElem?_eq_getElem (show i<evs.length by omega),g1],g3.wk fun r hr=>?_⟩
 obtain⟨e,he,rfl⟩:=List.mem_map.1 hr
 exact hT6.xA (List.mem_append_left _ he)
end Go.Proofs.Lu
set_option maxRecDepth 100000
set_option maxHeartbeats 4000000
namespace Go.Proofs.Lu
open Go.Ae Go.Ae.M Go.Proofs.Lv
variable{H0 H:aa}{L M:List aK}{S:List Nat}{K:Nat→Prop}{A:At}{d:WD}
abbrev T3(tn:Nat)(H:aa)(v:Value)(H':aa):Prop:=∃(A:At)(q:AV),v=q.v A∧oW (H.next≤·) H' A q∧A.Ok∧A.ty=tn
theorem Wi{b rz rv rg vc tn:Nat}{ra na va:Option Addr}{rn rc nn nc:Nat}{rcs bW:List Value}{x2 x3 eF bL dL:Value}{dI:List (Nat×Value)}{H1:aa}(hG:Gr b H ra rn rcs na nn bW)(hR:∀i,i<rn→0≤rootOf rcs i∧rootOf rcs i<nn)(hup:xV rcs 0=false)(hrn:1≤rn)(hQ:WQ d)(hd:d.nn=nn∧d.tn=tn∧d.lw=oI rcs rn)(htot:wI rcs d.ws rn≤4000)
 (hZ:RZ K d [] H H1 M [(rz,26,[.slice none 0 0,.slice none 0 0,.slice none 0 0,.slice none 0 0,.slice none 0 0,vi 0]),(rv,79,[.slice va tn vc]),(rg,69,[.slice ra rn rc,.slice na nn nc])] A)(hA:A.nr=0∧A.ns=0):
 aR Pg X (.loop (sub tF [1,1,1,1,1,0,1,0,0])) (FF (gV ra rn rc na nn nc) (vV va tn vc) x2 x3 (pr rg) (pr rv) (pr rz) (pr d.ra) d.fv d.pv d.wv eF bL dL (.slice ra rn rc) (vn rn) (vn 0) dI H1) (gY 0 (kH Pg X (sub tF [1,1,1,1,1,1]) (cB Pg [.cell 8 26] (Q1 (T3 tn H) H)))):=by
 have g2:=hG.2.1
 refine Iv 14 15 16 31 (I:=fun m eF bL dL x31 H'=>∃i A M,x31=vn i∧i +m=rn∧RZ K d [] H H' M [(rz,26,[.slice none 0 0,.slice none 0 0,.slice none 0 0,.slice none 0 0,.slice none 0 0,vi 0]),(rv,79,[.slice va tn vc]),(rg,69,[.slice ra rn rc,.slice na nn nc])] A∧A.nr=oI rcs i∧A.ns=wI rcs d.ws i) ?_ rn ⟨0,A,M,rfl,by omega,hZ,hA.1,hA.2⟩
 clear hZ hA
 rintro m eF bL dL x31 dI H2 ⟨i,A,M,rfl,him,hZ,hnr,hns⟩
 refine tl ?_
 simp only[PP,Nat.reduceBEq]
 refine ae (fun hc=>?_) (fun hc=>?_)
 rotate_left
 ·obtain rfl:i=rn:=by omega
  have hlo:=yX rcs hrn
  have hl1:oI rcs 1=1:=by show 0 +(if xV rcs 0=true then 0 else 1)=1;rw[hup];rfl
  have tt:=hZ.tt
  have ok:A.Ok:=hZ.bs.ok (by rw[hnr,hd.2.2]) (by omega) (by have:=hZ.few;omega) (by omega) (by omega)
  refine tl ?_
  obtain⟨q0,hr0,_⟩:=hZ.bd.atM hZ.sh ok
  refine ME.vW hr0 ?_
  have hS:=hZ.sh.perm (List.perm_append_comm (l₁:=M))
  refine hS.st 0 rfl rfl (Nat.le_refl 6) rfl fun H3 hS=>?_
  have hS:SH [] H H3 ((rz,26,q0.cells A)::(rv,79,[.slice va tn vc])::(rg,69,[.slice ra i rc,.slice na nn nc])::M):=hS
  have hS2:=hS.perm (L':=M++[(rz,26,q0.cells A),(rv,79,[.slice va tn vc]),(rg,69,[.slice ra i rc,.slice na nn nc])]) (List.perm_append_comm (l₁:=[_,_,_]))
  obtain⟨q1,hr1,hat⟩:=hZ.bd.atM hS2 ok
  have eq:q1.cells A=q0.cells A:=by
   obtain⟨cs,hm,h6⟩:∃cs,((d.ra,26,cs):aK)∈M∧cs.length=6:=by
    obtain⟨nv,sv,pv,ov,ev,evs,gn,gs,gp,go,ge,R,rfl,_⟩:=hZ.bd
    exact⟨_,List.mem_cons_self ..,rfl⟩
   have a0:=(hZ.sh.bk _ (List.mem_append_left _ hm)).read (o:=0) (n:=6) (by show 0 +6≤cs.length;omega)
   have a1:=(hS2.bk _ (List.mem_append_left _ hm)).read (o:=0) (n:=6) (by show 0 +6≤cs.length;omega)
   have b0:=a0.symm.trans hr0
   have b1:=a1.symm.trans hr1
   exact Option.some.inj (b1.symm.trans b0)
  refine rr ?_
  refine hS.vW 0 rfl (Nat.le_refl 6) ?_
  rw[←eq]
  exact⟨⟨A,q1,rfl,hat,ok,hZ.ty.trans hd.2.1⟩,hS.ext⟩
 have hi:i<rn:=by omega
 obtain⟨r1,o1,mU,u1,f1,w1,c1,a1,e1,hl1,oV,jC,hsz,hel⟩:=hG.ru hi rc
 have hroot:=hR i hi
 rw[e1]
 simp only[PP,Nat.reduceBEq]
 refine hZ.sh.p_ oV hl1 ?_
 refine(SH.refl hZ.sh.wf).jF rfl rfl rfl fun H3 ru hS1 hx3=>?_
 have hS1:SH [] H2 H3 [(ru,141,kT mU u1 f1 w1 c1 (rootOf rcs i) a1)]:=hS1
 have k_:=(SH.frame (M:=[]) hZ.sh hS1).perm (L':=M++([(rz,26,[.slice none 0 0,.slice none 0 0,.slice none 0 0,.slice none 0 0,.slice none 0 0,vi 0]),(rv,79,[.slice va tn vc]),(rg,69,[.slice ra rn rc,.slice na nn nc])]++[(ru,141,kT mU u1 f1 w1 c1 (rootOf rcs i) a1)])) (by
  rw[←List.append_assoc];exact List.perm_append_comm (l₁:=[_]))
 have hZ:=hZ.ext hx3 k_
 have hlow:oI rcs (i +1)=oI rcs i +(if xV rcs i=true then 0 else 1):=rfl
 have Wj:wI rcs d.ws (i +1)=wI rcs d.ws i +(if xV rcs i=true then 0 else 2 +W d.ws (rootOf rcs i).toNat):=rfl
 rw[AB hel]at hlow Wj
 have hmo:=Pd rcs d.ws (show i +1≤rn by omega)
 have ady:=yX rcs (show i +1≤rn by omega)
 have ac6:=F3 rcs rn
 have hru:∀{H' M'}(_:SH [] H H' (M'++([(rz,26,[.slice none 0 0,.slice none 0 0,.slice none 0 0,.slice none 0 0,.slice none 0 0,vi 0]),(rv,79,[.slice va tn vc]),(rg,69,[.slice ra rn rc,.slice na nn nc])]++[(ru,141,kT mU u1 f1 w1 c1 (rootOf rcs i) a1)]))),Bk H' ru 141 (kT mU u1 f1 w1 c1 (rootOf rcs i) a1):=fun{H' M'} hS=>hS.bk _ (List.mem_append_right _ (List.mem_append_right _ (List.mem_cons_self ..)))
 have back:∀{H' M'}(_:SH [] H H' (M'++([(rz,26,[.slice none 0 0,.slice none 0 0,.slice none 0 0,.slice none 0 0,.slice none 0 0,vi 0]),(rv,79,[.slice va tn vc]),(rg,69,[.slice ra rn rc,.slice na nn nc])]++[(ru,141,kT mU u1 f1 w1 c1 (rootOf rcs i) a1)]))),SH [] H H' (M'++[(rz,26,[.slice none 0 0,.slice none 0 0,.slice none 0 0,.slice none 0 0,.slice none 0 0,vi 0]),(rv,79,[.slice va tn vc]),(rg,69,[.slice ra rn rc,.slice na nn nc])]):=fun{H' M'} hS=>hS.sub (List.Sublist.append_left (List.sublist_append_left _ _) M')
 simp only[PP,Nat.reduceBEq]
 refine ME.ld ((hru hZ.sh).cell (o:=1) rfl) ?_
 simp only[PP,Nat.reduceBEq]
 refine aC (fun hb=>?_) (fun hb=>?_)
 ·rw[if_pos hb]at hlow Wj
  refine PU.of (au (by omega) (by omega)) ?_
  exact⟨rn -(i +1),by omega,_,_,_,_,_,_,rfl,i +1,A,M,by rw[show((i:Int) +1)=((i +1:Nat):Int) by omega],by omega,hZ.ext (Ext.refl _) (back hZ.sh),by omega,by omega⟩
 rw[if_neg (by rw[hb];simp)]at hlow Wj
 have O3:=hZ.few
 have adz:=hZ.tt
 obtain⟨v0,hv0,hname⟩:=hZ.bd.name (nm:=mU) hZ.sh (by omega)
 refine ME.ld hv0 ?_
 refine ME.ld ((hru hZ.sh).cell (o:=0) rfl) ?_
 refine hname fun w v' u H4 M4 hB4 kg=>?_
 have adf:(A.ru mU).nr=A.nr +1:=by show(A.nm++[mU]).length=_;rw[List.length_append];rfl
 have hY:RY K d [] H H4 M4 _ (A.ru mU):=⟨hZ.we.stay kg.ext hZ.nk,hZ.nks kg,hB4,SH.frame hZ.sh kg,hZ.bs.bu.ru mU,hZ.ty,by omega,by omega⟩
 have hns0:(A.ru mU).ns=A.ns:=rfl
 have adj:(A.ru mU).tot=A.tot:=rfl
 refine hY.fresh (by omega) fun H5 M5 A1 hY g1 cs=>?_
 have n1:=g1.ns
 have t1:=g1.tt
 refine hY.fresh (by omega) fun H6 M6 A2 hY g2 cp=>?_
 have n2:=g2.ns
 have t2:=g2.tt
 have cs:=cs.gw g2
 have hst:A2.st=A.st:=by rw[g2.st,g1.st];rfl
 have hsp:A2.sp=A.sp:=by rw[g2.sp,g1.sp];rfl
 refine hY.ends (by rw[hst,hZ.bs.Jp];omega) (by rw[hsp,hZ.bs.TN];omega) rfl fun u1 e1 u2 e2 u3 e3 u4 e4 u5 e5 u6 e6 u7 e7 u8 e8 M7 hY=>?_
 generalize hM (hM (hM (hM (hM (hM (hM (hM H6 e1) e2) e3) e4) e5) e6) e7) e8=H7 at hY⊢
 have n3:(A2.se (A.ru mU).ns A1.ns).ns=A2.ns:=rfl
 have t3:(A2.se (A.ru mU).ns A1.ns).tot=A2.tot:=rfl
 obtain⟨k,hk⟩:∃k:Nat,rootOf rcs i=k:=⟨(rootOf rcs i).toNat,by omega⟩
 have hkn:k<d.nn:=by omega
 have hWk:W d.ws (rootOf rcs i).toNat=W d.ws k:=by rw[hk];rfl
 refine ME.ld ((hru hY.sh).cell (o:=5) rfl) ?_
 rw[hk]
 refine hY.way (ZR hQ k hkn) (by omega) (by omega) (show(A2.se (A.ru mU).ns A1.ns).cur _ from cs) fun to H8 M8 A4 c hY g4 hc4 cto=>?_
 have n4:=g4.ns
 have t4:=g4.tt
 refine PU.b3 rfl ?_
 have cp4:A4.cur A1.ns:=At.cur.gw (A:=A2.se (A.ru mU).ns A1.ns) cp g4
 refine hY.put (e:=(0,0,A1.ns)) cto cp4 (ZO ..) (by omega) fun v9 H9 M9 A5 hY g5=>?_
 have n5:=g5.ns
 have t5:=g5.tt
 refine PU.of (au (by omega) (by omega)) ?_
 have adA:A5.nr=A.nr +1:=by rw[g5.nr,g4.nr];show A2.nr=_;rw[g2.nr,g1.nr,adf]
 exact⟨rn -(i +1),by omega,_,_,_,_,_,_,rfl,i +1,A5,M9,by rw[show((i:Int) +1)=((i +1:Nat):Int) by omega],by omega,⟨hY.we,hY.nk,hY.bd,back hY.sh,hZ.bs.next (g1.trans g2) cs cp (g4.trans g5) hY.bu,hY.ty,by omega,by omega⟩,by omega,by omega⟩
end Go.Proofs.Lu
set_option maxRecDepth 100000
set_option maxHeartbeats 4000000
namespace Go.Proofs.Lu
open Go.Ae Go.Ae.M Go.Proofs.Lv
variable{F:Nat→Prop}{H0 H:aa}{L M:List aK}{S:List Nat}{K:Nat→Prop}{A:At}{d:WD}
theorem Bd.nil(ra tn:Nat):Bd ra ⟨[],[],[],[],[],tn⟩ [(ra,26,[.slice none 0 0,.slice none 0 0,.slice none 0 0,.slice none 0 0,.slice none 0 0,vn tn])]:=
 ⟨_,_,_,_,_,[],[],[],[],[],[],[],rfl,.inl ⟨rfl,rfl,rfl⟩,.inl ⟨rfl,rfl,rfl⟩,.inl ⟨rfl,rfl,rfl⟩,.inl ⟨rfl,rfl,rfl⟩,.inl ⟨rfl,rfl,rfl⟩,rfl⟩
theorem Ld(hw:Wf H){b tn vc rl rs:Nat}{ra na va:Option Addr}{rn rc nn nc:Nat}{rcs bW lcs:List Value}{ws:List Nat}{kd:Nat→Int}{zs:Nat→List Nat}(hG:Gr b H ra rn rcs na nn bW)(ZI:Nc F H nn bW kd zs)(hR:∀i,i<rn→0≤rootOf rcs i∧rootOf rcs i<nn)(hup:xV rcs 0=false)(hrn:1≤rn)
 (hl:Bk H rl 47 lcs∧rl<H.next∧lcs.length=nn*3)(hlp:∀i,i<nn→kR tn (oI rcs rn) (El lcs 3 i))(hs:Bk H rs 3 (bH ws)∧rs<H.next∧ws.length=nn)(hsz:∀j,j<nn→xX kd zs ws j)(htot:wI rcs ws rn≤4000):
 ak Pg X 78 [gV ra rn rc na nn nc,vV va tn vc,.slice (some ⟨rl,0,none⟩) nn nn,.slice (some ⟨rs,0,none⟩) nn nn] H (Q1 (T3 tn H) H):=by
 have hS:=SH.refl hw
 refine ce [0,1,2,3,4,5,8,9,10,11,12,14,15,16,29,30,31] ?_;refine tl ?_
 refine hS.box rfl fun H1 rg hS=>?_
 refine hS.box rfl fun H2 rv hS=>?_
 refine hS.cZ fun H3 rz hS=>?_
 simp only[PP,Nat.reduceBEq,aj hS.wf];refine hS.bZ ?_
 refine ak.mono (KW hS.wf) ?_
 rintro v H4 ⟨rfl,hx⟩
 have hS:=hS.call hx
 refine PU.b6 rfl ?_;simp only[PP,Nat.reduceBEq,aj hS.wf]
 refine hS.cZ fun H5 rb hS=>?_
 refine hS.jd fun Hn hS=>?_;refine hS.bZ ?_
 have hb:=And.intro (hS.xA (List.mem_of_getElem? (i:=0) rfl)) (hS.lo _ (List.mem_of_getElem? (i:=0) rfl)).2
 refine ak.mono (O_ hS.wf ⟨_,_,_,rfl⟩ ⟨_,_,_,rfl⟩) ?_
 rintro v H7 ⟨g,s,w,f,fe,lo,p,l,rfl,hx7,hn7,c1,c2,c3,c4,c5,c6,c7,c8⟩
 have hS:=hS.call hx7
 have hx:=hS.ext
 have hK:∀r∈[g,s,w,f,fe,lo,p,l],r<H7.next∧r≠rb:=fun r hr=>by
  have:=hn7 r hr
  exact⟨this.2,by omega⟩
 have hF:∀r,r<H.next→r<H7.next∧r≠rb:=fun r hr=>⟨by have:=hx.next;omega,by omega⟩
 have hW:WE (fun r=>r<H7.next∧r≠rb) ⟨g,s,w,f,fe,lo,p,l,rb,na,nc,nn,rs,rl,bW,lcs,ws,kd,zs,tn,oI rcs rn⟩ H7:=
  ⟨fun r hr=>hr.1,⟨hK g (by simp),c1⟩,⟨hK s (by simp),c2⟩,⟨hK w (by simp),c3⟩,⟨hK f (by simp),c4⟩,⟨hK fe (by simp),c5⟩,⟨hK lo (by simp),c6⟩,⟨hK p (by simp),c7⟩,⟨hK l (by simp),c8⟩,
   (hG.2.2.2.1.within hF).ex hx,(ZI.within hF).ex hx,((hs.1.Pz hs.2.1 (by rw[Nat.mul_one,List.length_map];exact hs.2.2) (hF _ hs.2.1))).ex hx,(hl.1.Pz hl.2.1 hl.2.2 (hF _ hl.2.1)).ex hx⟩
 refine hS.aZ ?_;simp only[PP,Nat.reduceBEq,aj hS.wf]
 refine Wi (d:=⟨g,s,w,f,fe,lo,p,l,rb,na,nc,nn,rs,rl,bW,lcs,ws,kd,zs,tn,oI rcs rn⟩) (K:=fun r=>r<H7.next∧r≠rb) (A:=⟨[],[],[],[],[],tn⟩) (M:=[(rb,26,[.slice none 0 0,.slice none 0 0,.slice none 0 0,.slice none 0 0,.slice none 0 0,vn tn])]) hG hR hup hrn ⟨hG.2.2.2.2.1,hsz,hlp⟩ ⟨rfl,rfl,rfl⟩ htot ⟨hW,fun r hr hk=>?_,Bd.nil rb tn,hS,?_,rfl,Nat.zero_le _,Nat.zero_le _⟩ ⟨rfl,rfl⟩
 ·obtain rfl:r=rb:=List.mem_singleton.1 hr
  exact hk.2 rfl
 ·exact⟨⟨rfl,fun s h=>absurd h (Nat.not_lt_zero _),fun s h=>absurd h (Nat.not_lt_zero _)⟩,rfl,rfl,fun s h=>absurd h (Nat.not_lt_zero _),fun s h=>absurd h (Nat.not_lt_zero _)⟩
end Go.Proofs.Lu
set_option maxRecDepth 100000
set_option maxHeartbeats 4000000
namespace Go.Proofs.Lu
open Go.Ae Go.Ae.M Go.Proofs.Lv
variable{F:Nat→Prop}{H0 H:aa}{L M:List aK}{S:List Nat}{K:Nat→Prop}{A:At}{d:WD}
theorem _root_.Go.Ae.Bk.ex{H':aa}{r:Nat}{ty:TypeId}{cs:List Value}(h:Bk H r ty cs)(hr:r<H.next)(hx:Ext H H'):Bk H' r ty cs:=h.fO (hx.obj r hr fun h=>nomatch h)
abbrev T4(tn:Nat)(H:aa)(v:Value)(H':aa):Prop:=∃(x:Value)(e:Int),v=.tuple ⟨[x,vi e]⟩∧(ay x).length=6∧all' aU (ay x)=true∧(e=0→T3 tn H x H')
theorem adg(hw:Wf H){b tn vc rz rv rg:Nat}{ra na va:Option Addr}{rn rc nn nc:Nat}{rcs bW vcs:List Value}{x0 x1:Value}{H1:aa}(hG:Gr b H ra rn rcs na nn bW)(hC:qX (b≤·) H rn rcs nn bW∧1≤rn∧xV rcs 0=false)(hV:Vo F H va tn vcs)
 (hS:SH [] H H1 [(rz,26,[.slice none 0 0,.slice none 0 0,.slice none 0 0,.slice none 0 0,.slice none 0 0,vi 0]),(rv,79,[.slice va tn vc]),(rg,69,[.slice ra rn rc,.slice na nn nc])]){x6 x7 x8 x9 bn x34 AA FE:Value}{dI:List (Nat×Value)}:
 aR Pg X (sub SX [1,1]) (OD x0 x1 (pr rg) (pr rv) (pr rz) (vi 0) x6 x7 x8 x9 bn x34 AA FE dI H1) (cB Pg [.cell 4 26,.tmp 5] (Q1 (T4 tn H) H)):=by
 have g2:=hG.2.1
 have g5:=hG.2.2.2.2.1
 obtain⟨hC1,hC2,Zz⟩:=hC
 refine tl ?_
 simp only[PP,Nat.reduceBEq,aj hS.wf];refine hS.bZ ?_;refine hS.bZ ?_
 refine ak.mono (KZ hS.wf (hG.ex hS.ext) (fun i hi=>(hC1.1 i hi).ex hS.ext) ⟨hV.1.ex hS.ext,hV.2⟩) ?_
 rintro v H2 ⟨⟨rl,lcs,rfl,hl1,hl2,hl3,hl4,hl5⟩,hx2⟩
 have hS:=hS.call hx2
 obtain⟨kd,zs,ZI⟩:=Nc.of (F:=(b≤·)) (H:=H) hC1.1
 refine hS.bZ ?_
 refine ak.mono (K3 hS.wf (hG.ex hS.ext) (ZI.ex hS.ext) hl3 hl2 hl4 hl5) ?_
 rintro v H3 ⟨⟨rs,rr,ws,bs,rfl,⟨hs1,hs2⟩,⟨hr1,hr2⟩,hs3,hr3,hwl,hbl,hsz⟩,hx3⟩
 have hS:=hS.call hx3
 have hfs:fE (fun _=>True) 3 H3 (some ⟨rs,0,none⟩) nn 1 (bH ws):=hs3.Pz hs2 (by rw[Nat.mul_one,List.length_map];exact hwl) trivial
 have hfr:fE (fun _=>True) 4 H3 (some ⟨rr,0,none⟩) nn 1 (bools bs):=hr3.Pz hr2 (by rw[Nat.mul_one,List.length_map];exact hbl) trivial
 have hl3:=hl3.ex hl2 hx3
 repeat(first|(simp only[PP,Nat.reduceBEq,aj hS.wf])|(refine hS.aZ ?_))
 refine Iv 5 9 11 36 (I:=fun m x5 x9 bn FE H'=>∃i,FE=vn i∧i +m=rn∧x5=vi 0∧x9=vn (min (wI rcs ws i) 4001)∧Ext H3 H'∧SH [] H H' [(rz,26,[.slice none 0 0,.slice none 0 0,.slice none 0 0,.slice none 0 0,.slice none 0 0,vi 0]),(rv,79,[.slice va tn vc]),(rg,69,[.slice ra rn rc,.slice na nn nc])]) ?_ rn ⟨0,rfl,by omega,rfl,rfl,Ext.refl _,hS⟩
 clear hS
 rintro m x5 x9 bn FE dI H4 ⟨i,rfl,him,rfl,rfl,hx4,hS⟩
 refine tl ?_
 simp only[PP,Nat.reduceBEq]
 refine ae (fun hc=>?_) (fun hc=>?_)
 rotate_left
 ·obtain rfl:i=rn:=by omega
  refine tl ?_
  simp only[PP,Nat.reduceBEq]
  refine ae (fun h4=>?_) (fun h4=>?_)
  ·refine PU.b6 rfl ?_;refine hS.jd fun Hn hS=>?_
   refine Lu.rr ?_
   refine hS.bZ ?_
   exact⟨⟨_,_,rfl,rfl,rfl,fun h=>absurd h (by decide)⟩,hS.ext⟩
  have ht:wI rcs ws i≤4000:=by omega
  repeat(refine hS.bZ ?_)
  have hx:=hx3.trans hx4
  refine ak.mono (Ld hS.wf (hG.ex hS.ext) (ZI.ex hS.ext) hC1.2 Zz hC2 ⟨hl3.ex (Nat.lt_of_lt_of_le hl2 hx3.next) hx4,Nat.lt_of_lt_of_le hl2 hx.next,hl4⟩ hl5 ⟨hs3.ex hs2 hx4,Nat.lt_of_lt_of_le hs2 hx4.next,hwl⟩ hsz ht) ?_
  rintro v H5 ⟨⟨A,q,rfl,hA,hok,hty⟩,hx5⟩
  have hge:=hS.ext.next
  have hlo:=hS.lo
  have hS:=hS.call hx5
  have hO:=hS.base
  refine hO.st 0 rfl rfl (Nat.le_refl 6) rfl fun H6 hO6=>?_
  have hA:=hA.stay hO6.ext (fun r hr=>by
   obtain⟨e,he,rfl⟩:=List.mem_map.1 hr
   exact Nat.not_le_of_lt (hlo e he).2)
  have hS:SH [] H H6 [(rz,26,q.cells A),(rv,79,[.slice va tn vc]),(rg,69,[.slice ra i rc,.slice na nn nc])]:=hS.over hO6
  refine Lu.rr ?_
  refine hS.bZ ?_
  exact⟨⟨_,_,rfl,rfl,rfl,fun _=>⟨A,q,rfl,hA.wk fun r hr=>by omega,hok,hty⟩⟩,hS.ext⟩
 have hi:i<rn:=by omega
 obtain⟨r1,o1,mU,u1,f1,w1,c1,a1,e1,hl1,oV,jC,hsz1,hel⟩:=hG.ru hi rc
 have hroot:=hC1.2 i hi
 have Wj:wI rcs ws (i +1)=wI rcs ws i +(if xV rcs i=true then 0 else 2 +W ws (rootOf rcs i).toNat):=rfl
 rw[AB hel]at Wj
 obtain⟨k,hk⟩:∃k:Nat,rootOf rcs i=k:=⟨(rootOf rcs i).toNat,by omega⟩
 have hkn:k<nn:=by omega
 rw[e1]
 simp only[PP,Nat.reduceBEq]
 refine hS.p_ oV hl1 ?_
 refine hS.jF rfl rfl rfl fun H5 ru hS hx5=>?_
 have hS:SH [] H H5 [(ru,141,kT mU u1 f1 w1 c1 (rootOf rcs i) a1),(rz,26,[.slice none 0 0,.slice none 0 0,.slice none 0 0,.slice none 0 0,.slice none 0 0,vi 0]),(rv,79,[.slice va tn vc]),(rg,69,[.slice ra rn rc,.slice na nn nc])]:=hS
 have Wk:=hx4.trans hx5
 rw[hk]at hS Wj
 repeat(first|(simp only[PP,Nat.reduceBEq,aj hS.wf])|(refine hS.aZ ?_))
 refine aC (fun hb=>?_) (fun hb=>?_)
 ·rw[if_pos hb]at Wj
  refine PU.of (au (by omega) (by omega)) ?_
  exact⟨rn -(i +1),by omega,_,_,_,_,_,_,rfl,i +1,by rw[show((i:Int) +1)=((i +1:Nat):Int) by omega],by omega,rfl,by rw[Wj];rfl,Wk,SH.drop (A:=[_]) hS⟩
 rw[if_neg (by rw[hb];simp)]at Wj
 refine hS.aZ ?_
 refine(hfr.ex Wk).ix (k:=k) (v:=.bool (bs[k]?.getD false)) hkn (by rw[List.getElem?_map,List.getElem?_eq_getElem (show k<bs.length by omega)];rfl) fun p=>?_
 simp only[PP,Nat.reduceBEq]
 refine aC (fun hb2=>?_) (fun hb2=>?_)
 ·refine PU.b6 rfl ?_;refine hS.jd fun Hn hS=>?_
  refine Lu.rr ?_
  refine hS.bZ ?_
  exact⟨⟨_,_,rfl,rfl,rfl,fun h=>absurd h (by decide)⟩,hS.ext⟩
 have hWk:W ws k≤4001:=abY (hsz k hkn)
 have hW2:W ws ((k:Int)).toNat=W ws k:=rfl
 refine PU.of (au (by omega) (by omega)) ?_
 refine hS.aZ ?_
 refine(hfs.ex Wk).ix (k:=k) (v:=vn (W ws k)) hkn (by rw[List.getElem?_map,List.getElem?_eq_getElem (show k<ws.length by omega)];show _=some (vn (ws[k]?.getD 0));rw[List.getElem?_eq_getElem (show k<ws.length by omega)];rfl) fun p=>?_
 refine PU.of (au (by omega) (by omega)) ?_
 rw[min2]
 simp only[PP,Nat.reduceBEq]
 refine PU.of (au (by omega) (by omega)) ?_
 exact⟨rn -(i +1),by omega,_,_,_,_,_,_,rfl,i +1,by rw[show((i:Int) +1)=((i +1:Nat):Int) by omega],by omega,rfl,by rw[show min (((min (wI rcs ws i) 4001:Nat):Int) +2 +(W ws k:Int)) 4001=((min (wI rcs ws (i +1)) 4001:Nat):Int) by omega],Wk,SH.drop (A:=[_]) hS⟩
end Go.Proofs.Lu
set_option maxRecDepth 100000
set_option maxHeartbeats 4000000
namespace Go.Proofs.Lu
open Go.Ae Go.Ae.M Go.Proofs.Lv
variable{F:Nat→Prop}{H0 H:aa}{L M:List aK}{S:List Nat}{K:Nat→Prop}{A:At}{d:WD}
theorem F7(hw:Wf H){b tn vc:Nat}{ra na va:Option Addr}{rn rc nn nc:Nat}{rcs bW vcs:List Value}(hG:Gr b H ra rn rcs na nn bW)(hcap:na=none∨nc=aT 5)(hV:Vo F H va tn vcs):
 ak Pg X 30 [gV ra rn rc na nn nc,vV va tn vc] H (Q1 (T4 tn H) H):=by
 have hS:=SH.refl hw
 refine ce [0,1,2,3,4,5,6,7,8,9,11,34,35,36] ?_;refine tl ?_
 refine hS.box rfl fun H1 rg hS=>?_
 refine hS.box rfl fun H2 rv hS=>?_
 refine hS.cZ fun H3 rz hS=>?_
 refine hS.og ?_;simp only[PP,Nat.reduceBEq,aj hS.wf]
 have hG3:=hG.ex hS.ext
 refine ak.mono (CF (mP H3) (show Gr b (hN H3) ra rn rcs na nn bW from hG3)) ?_
 rintro v H4 ⟨⟨z,a,c,rfl,hcl⟩,hx4⟩
 have Pe:=hS.ext
 have hS:=hS.j4 hx4
 rw[wC]
 simp only[PP,Nat.reduceBEq]
 refine aP (fun hc=>?_) (fun hc=>?_)
 ·refine(show∀K:Prop,K→_∧K from fun K hK=>?_) _ ?_
  ·exact cK (by simp only[aA,az hx4];rfl) hK
  refine PU.b6 rfl ?_;refine hS.jd fun Hn hS=>?_
  refine rr ?_
  refine hS.bZ ?_
  exact⟨⟨_,_,rfl,rfl,rfl,fun h=>absurd h (by decide)⟩,hS.ext⟩
 have hC:=hcl hc
 have hC:qX (b≤·) H rn rcs nn bW∧1≤rn∧xV rcs 0=false:=⟨qX.back hG Pe hC.1.1,hC.1.2.1,hC.2⟩
 refine hS.og ?_;simp only[PP,Nat.reduceBEq,aj hS.wf]
 refine ak.mono (Jc (mP _) (show Gr b (hN (hM H3 H4)) ra rn rcs na nn bW from(hG.ex hS.ext:Gr b (hM H3 H4) ra rn rcs na nn bW)) hcap) ?_
 rintro v H5 ⟨⟨ya,yn,yc,ycs,rfl,hY⟩,hx5⟩
 have hS:=hS.j4 hx5
 refine hS.og ?_;simp only[PP,Nat.reduceBEq,aj hS.wf]
 refine ak.mono (KY (mP _) (F:=((hN (hM H3 H4)).next≤·)) (F':=F) (a:=ya) (n:=yn) (c:=yc) (cs:=ycs) (a':=va) (n':=tn) (c':=vc) (cs':=vcs) ?_ ?_) ?_
 ·exact hY
 ·exact⟨(show fE F 149 (hN (hM (hM H3 H4) H5)) va tn 4 vcs from(hV.1.ex hS.ext:fE F 149 (hM (hM H3 H4) H5) va tn 4 vcs)),hV.2⟩
 rintro v H6 ⟨⟨bb,rfl⟩,hx6⟩
 have hS:=hS.j4 hx6
 simp only[PP,Nat.reduceBEq]
 refine(show∀K:Prop,K→_∧K from fun K hK=>?_) _ ?_
 ·exact cK (by simp only[aA,az hx4,az hx5,az hx6];rfl) hK
 refine aC (fun hb=>?_) (fun hb=>?_)
 ·refine PU.b6 rfl ?_;refine hS.jd fun Hn hS=>?_
  refine rr ?_
  refine hS.bZ ?_
  exact⟨⟨_,_,rfl,rfl,rfl,fun h=>absurd h (by decide)⟩,hS.ext⟩
 exact adg hw hG hC hV hS
end Go.Proofs.Lu
set_option maxRecDepth 100000
set_option maxHeartbeats 4000000
namespace Go.Proofs.Lu
open Go.Ae Go.Ae.M Go.Proofs.Lv
variable{F:Nat→Prop}{H0 H:aa}{L M:List aK}{S:List Nat}{K:Nat→Prop}{A:At}{d:WD}
theorem Le(hw:Wf H){q:AV}:ak Pg X 17 [q.v A] H (Q1 (fun v _=>v=vn A.ns) H):=by
 have hS:=SH.refl hw
 refine ce [0,1,2] ?_;refine tl ?_
 refine hS.box rfl fun H1 rg hS=>?_
 repeat(first|(simp only[PP,Nat.reduceBEq,aj hS.wf])|(refine hS.aZ ?_))
 refine rr ?_;exact⟨rfl,hS.ext⟩
abbrev ab9(H:aa)(v:Value)(H':aa):Prop:=∃(A:At)(q:AV),v=q.v A∧oW (H.next≤·) H' A q∧A.Ok∧A.ns≤1000
theorem Ph(hw:Wf H)(hT:tX H)(s:ByteArray):ak Pg X 8 [.string s] H (Q1 (fun v H'=>∃(x:Value)(ok:Int),v=.tuple ⟨[x,vi ok]⟩∧(ay x).length=6∧all' aU (ay x)=true∧(ok≠0→ab9 H x H')) H):=by
 have hS:=SH.refl hw
 refine ce [0,2,3,4,5,6,7] ?_;refine tl ?_
 refine hS.cZ fun H1 rz hS=>?_
 simp only[PP,Nat.reduceBEq]
 refine ae (fun hc=>?_) (fun hc=>?_)
 ·refine PU.b6 rfl ?_;refine hS.jd fun Hn hS=>?_
  refine rr ?_
  refine hS.bZ ?_
  exact⟨⟨_,_,rfl,rfl,rfl,fun h=>absurd rfl h⟩,hS.ext⟩
 refine ak.mono (Du hS.wf (hT.ex hS.ext) s) ?_
 rintro v H2 ⟨⟨ra,rn,rc,rcs,na,nn,nc,bW,cd,e,rfl,hG,hcap⟩,hx2⟩
 have hS:=hS.call hx2
 simp only[PP,Nat.reduceBEq,aj hS.wf]
 have hS0:=hS
 have hS:=SH.refl hS0.wf
 refine hS.cZ fun H3 rg hS=>?_
 refine hS.cZ fun H4 re hS=>?_
 repeat(first|(simp only[PP,Nat.reduceBEq,aj hS.wf])|(refine hS.aZ ?_)|(refine hS.jd fun Hn hS=>?_))
 have adh:=hS.ext
 have hS:SH [] H _ [(re,72,[vi cd,vi e]),(rg,69,[.slice ra rn rc,.slice na nn nc]),(rz,26,[.slice none 0 0,.slice none 0 0,.slice none 0 0,.slice none 0 0,.slice none 0 0,vi 0])]:=SH.frame (M:=[]) hS0 hS
 refine aP (fun hc=>?_) (fun hc=>?_)
 ·refine PU.b6 rfl ?_;refine hS.jd fun Hn hS=>?_
  refine rr ?_
  refine hS.bZ ?_
  exact⟨⟨_,_,rfl,rfl,rfl,fun h=>absurd rfl h⟩,hS.ext⟩
 have hG3:Gr H1.next Hn ra rn rcs na nn bW:=hG.ex adh
 repeat(first|(simp only[PP,Nat.reduceBEq,aj hS.wf])|(refine hS.og ?_))
 refine ak.mono (Jc (mP _) (show Gr H1.next (hN Hn) ra rn rcs na nn bW from hG3) hcap) ?_
 rintro v H5 ⟨⟨ya,yn,yc,ycs,rfl,hY⟩,hx5⟩
 have hS:=hS.j4 hx5
 have hlo:=hS.lo
 have hge:=hS.ext.next
 refine ak.mono (F7 (mP _) (F:=((hN Hn).next≤·)) (show Gr H1.next (hN (hM Hn H5)) ra rn rcs na nn bW from(hG3.ex hx5.draw:Gr H1.next (hM Hn H5) ra rn rcs na nn bW)) hcap hY) ?_
 rintro v H6 ⟨⟨x,e,rfl,hl6,XX,hA⟩,hx6⟩
 have hS:=hS.j4 hx6
 simp only[PP,Nat.reduceBEq]
 have hS0:=hS
 have hS:=SH.refl hS0.wf
 refine hS.TH fun H7 rm hS f7=>?_
 have hnr:rm≠rg:=by
  have h1:=hS.xA (List.mem_cons_self ..)
  have h2:=(hS0.lo _ (List.mem_of_getElem? (i:=1) rfl)).2
  intro h;subst h;exact Nat.not_lt_of_le h1 h2
 refine hS.qh (hl:=hl6) (hk:=XX) fun H8 hS=>?_
 refine(show∀K:Prop,K→_∧K from fun K hK=>?_) _ ?_
 ·simp only[aA,az hx5,az hx6,f7,aB]
  rw[aO,hl6]
  apply oh (a:=rm) (b:=rg) hnr (by intros;rfl) (by kernel_rfl) (by kernel_rfl) hK
 have hxB:=hS.ext
 have hS:=SH.frame (M:=[]) hS0 hS
 simp only[List.cons_append,List.nil_append]at hS
 refine aP (fun hc=>?_) (fun hc=>?_)
 ·refine PU.b6 rfl ?_;refine hS.jd fun Hn hS=>?_
  refine rr ?_
  refine hS.bZ ?_
  exact⟨⟨_,_,rfl,rfl,rfl,fun h=>absurd rfl h⟩,hS.ext⟩
 obtain⟨A,q,rfl,hA,hok,hty⟩:=hA hc
 have hS:SH [] H _ [(rm,26,q.cells A),(re,72,[vi cd,vi _]),(rg,69,[.slice ra rn rc,.slice na nn nc]),(rz,26,[.slice none 0 0,.slice none 0 0,.slice none 0 0,.slice none 0 0,.slice none 0 0,vi 0])]:=hS
 refine hS.bZ ?_
 refine ak.mono (Le hS.wf) ?_
 rintro v H9 ⟨rfl,ZE⟩
 have hS:=hS.call ZE
 simp only[PP,Nat.reduceBEq]
 refine ae (fun hc=>?_) (fun hc=>?_)
 ·refine PU.b6 rfl ?_;refine hS.jd fun Hn hS=>?_
  refine rr ?_
  refine hS.bZ ?_
  exact⟨⟨_,_,rfl,rfl,rfl,fun h=>absurd rfl h⟩,hS.ext⟩
 have hA:oW ((hM Hn H5).next≤·) (hM (hM Hn H5) H6) A q:=⟨hA.n,hA.s,hA.p,hA.o,hA.e⟩
 have hA:=(hA.ex hxB).ex ZE
 have hS:=hS.perm (L':=[(rz,26,[.slice none 0 0,.slice none 0 0,.slice none 0 0,.slice none 0 0,.slice none 0 0,vi 0])]++[(rm,26,q.cells A),(re,72,[vi cd,vi _]),(rg,69,[.slice ra rn rc,.slice na nn nc])]) (List.perm_append_comm (l₁:=[_,_,_]))
 refine hS.vW 1 rfl (Nat.le_refl 6) ?_
 have hO:=SH.own hS
 refine hO.st 0 rfl rfl (Nat.le_refl 6) rfl fun Zx hO=>?_
 have hA:=hA.stay hO.ext (fun r hr=>by
  obtain rfl:r=rz:=List.mem_singleton.1 hr
  exact Nat.not_le_of_lt (hlo _ (List.mem_of_getElem? (i:=2) rfl)).2)
 have hS:SH [] H Zx [(rz,26,q.cells A),(rm,26,q.cells A),(re,72,[vi cd,vi _]),(rg,69,[.slice ra rn rc,.slice na nn nc])]:=SH.frame hS hO
 refine rr ?_
 refine hS.vW 0 rfl (Nat.le_refl 6) ?_
 exact⟨⟨_,_,rfl,rfl,rfl,fun _=>⟨A,q,rfl,hA.wk fun r hr=>Nat.le_trans hge hr,hok,by omega⟩⟩,hS.ext⟩
end Go.Proofs.Lu
set_option maxRecDepth 100000
set_option maxHeartbeats 4000000
namespace Go.Proofs.Lu
open Go.Ae Go.Ae.M Go.Proofs.Lv
section laid
variable{H0 H:aa}{L:List aK}{S:List Nat}{ty:TypeId}{es n c:Nat}{a:Option Addr}{xs:List Value}{K:Value→aa→Prop}
end laid
variable{F:Nat→Prop}{H0 H:aa}{L M:List aK}{S:List Nat}{K:Nat→Prop}{A:At}{q:AV}
def Own(A:At)(cs:List Value)(M:List aK):Prop:=cs.length=6∧all' aU cs=true∧∀r,Bd r A ((r,26,cs)::M)
theorem Own.of{A:At}{nv sv pv ov ev:Value}{evs:List Value}{gn gs gp go ge R:List aK}(h1:GB 9 1 nv (A.nm.map .string) gn)(h2:GB 3 1 sv (bH A.st) gs)(h3:GB 3 1 pv (bH A.sp) gp)(h4:GB 3 1 ov (bH A.ow) go)(h5:GB 45 1 ev evs ge)(h6:Az 47 3 (A.eg.map yY) evs R):Own A [nv,sv,pv,ov,ev,vn A.ty] (gn++(gs++(gp++(go++(ge++R))))):=by
 refine⟨rfl,?_,fun r=>⟨nv,sv,pv,ov,ev,evs,gn,gs,gp,go,ge,R,rfl,h1,h2,h3,h4,h5,h6⟩⟩
 have e1:=h1.sl
 have e2:=h2.sl
 have e3:=h3.sl
 have e4:=h4.sl
 have e5:=h5.sl
 obtain⟨_,_,_,rfl⟩:=e1
 obtain⟨_,_,_,rfl⟩:=e2
 obtain⟨_,_,_,rfl⟩:=e3
 obtain⟨_,_,_,rfl⟩:=e4
 obtain⟨_,_,_,rfl⟩:=e5
 rfl
theorem Yc(a b c d e f:List aK):(a++(b++(c++(d++(e++f))))).Perm (f++(e++(d++(c++(a++b))))):=by
 have h1:=List.perm_append_comm (l₁:=a++(b++(c++(d++e)))) (l₂:=f)
 have h2:=List.perm_append_comm (l₁:=a++(b++(c++d))) (l₂:=e)
 have h3:=List.perm_append_comm (l₁:=a++(b++c)) (l₂:=d)
 have h4:=List.perm_append_comm (l₁:=a++b) (l₂:=c)
 simp only[List.append_assoc]at h1 h2 h3 h4
 exact h1.trans (List.Perm.append_left f (h2.trans (List.Perm.append_left e (h3.trans (List.Perm.append_left d h4)))))
end Go.Proofs.Lu
set_option maxRecDepth 100000
set_option maxHeartbeats 4000000
namespace Go.Proofs.Lu
open Go.Ae Go.Ae.M Go.Proofs.Lv
variable{F:Nat→Prop}{H0 H:aa}{L M:List aK}{S:List Nat}{K:Nat→Prop}{A:At}{q:AV}
theorem _root_.Go.Proofs.Lv.Bs.n'{b n:Nat}{v:Value}{mk:List Bool}(h:Bs b H n v mk):Bs b (hN H) n v mk:=h
theorem _root_.Go.Ae.wJ{c:Cl}{l:List Cl}(h:c.k≠2∧c.k≠3):noTwo (c::l)=noTwo l:=by
 unfold noTwo
 rw[all_eq,all_eq,List.all_cons]
 have h2:Nat.beq c.k 2=false:=by rw[←Bool.not_eq_true];intro e;exact h.1 (Nat.eq_of_beq_eq_true e)
 have h3:Nat.beq c.k 3=false:=by rw[←Bool.not_eq_true];intro e;exact h.2 (Nat.eq_of_beq_eq_true e)
 rw[h2,h3];rfl
theorem _root_.Go.Ae.oJ(n:Nat)(p:Value)(H:aa)(l:List Cl):noTwo (W9 n p H (hN H)::l)=noTwo l:=by
 refine wJ ?_
 have:W9 n p H (hN H)=(ai (gJ p) fun a=>some (Cl.mk 4 a.block a.off n hh0 hh0)).getD (cl 1):=by
  show av (Nat.ble H.next H.next) _ _=_
  rw[Nat.ble_eq_true_of_le (Nat.le_refl _)];rfl
 rw[this]
 cases gJ p with
 |none=>exact⟨by show(1:Nat)≠2;decide,by show(1:Nat)≠3;decide⟩
 |some a=>exact⟨by show(4:Nat)≠2;decide,by show(4:Nat)≠3;decide⟩
theorem _root_.Go.Ae.q9(l:List Cl):noTwo (cl 0::l)=noTwo l:=wJ ⟨by decide,by decide⟩
theorem _root_.Go.Ae.AO(l:List Cl):noTwo (cl 1::l)=noTwo l:=wJ ⟨by decide,by decide⟩
theorem _root_.Go.Ae.lW:noTwo []=true:=rfl
end Go.Proofs.Lu
set_option maxRecDepth 100000
set_option maxHeartbeats 4000000
namespace Go.Proofs.Lu
open Go.Ae Go.Ae.M Go.Proofs.Lv
variable{F:Nat→Prop}{H0 H:aa}{L M:List aK}{S:List Nat}{K:Nat→Prop}{A T:At}{q:AV}
def At.cl(T:At)(s:Nat):At:={T with eg:=T.eg.set s []}
end Go.Proofs.Lu
set_option maxRecDepth 100000
set_option maxHeartbeats 4000000
namespace Go.Proofs.Lu
open Go.Ae Go.Ae.M Go.Proofs.Lv
variable{F:Nat→Prop}{H0 H:aa}{L M:List aK}{S:List Nat}{K:Nat→Prop}{A T:At}{q:AV}
namespace At
variable{i j k:Nat}
structure Pj(A T:At)(i:Nat):Prop where
 nm:T.nm=A.nm
 st:T.st=A.st
 sp:T.sp=A.sp
 ow:T.ow=A.ow
 ty:T.ty=A.ty
 rW:T.eg.length=A.ns
 e:∀s,s<i→T.E s=A.UH s
open Classical in
noncomputable def ZU(A:At)(i j:Nat):List Ed:=if A.met i then((A.E i).take j).filter (fun e=>decide (A.leads e))else[]
theorem ZV(i:Nat):A.ZU i 0=[]:=by unfold ZU;rw[List.take_zero,List.filter_nil];split<;>rfl
theorem Pj.ns(h:Pj A T k):T.ns=A.ns:=congrArg List.length h.ow
theorem acd(hl:T.eg.length=T.ns){i:Nat}(hi:i<T.ns)(t:Nat):(T.cl i).E t=if t=i then[]else T.E t:=by
 show(T.eg.set i [])[t]?.getD []=_
 rw[List.getElem?_set]
 by_cases h:i=t
 ·subst h;rw[if_pos rfl,if_pos (by omega),if_pos rfl];rfl
 ·rw[if_neg h,if_neg (fun e=>h e.symm)];rfl
theorem Pj.cl(h:Pj A T i)(hi:i<A.ns):Pj A (T.cl i) i∧(T.cl i).E i=A.ZU i 0:=by
 have hl:T.eg.length=T.ns:=h.rW.trans h.ns.symm
 refine⟨⟨h.nm,h.st,h.sp,h.ow,h.ty,(List.length_set ..).trans h.rW,fun s hs=>?_⟩,?_⟩
 ·rw[acd hl (by rw[h.ns];exact hi),if_neg (by omega)];exact h.e s hs
 ·rw[acd hl (by rw[h.ns];exact hi),if_pos rfl,ZV]
theorem Pj.pu(h:Pj A T i)(hi:i<A.ns)(e:Ed):Pj A (T.pu i e) i∧(T.pu i e).E i=T.E i++[e]:=by
 have hl:T.eg.length=T.ns:=h.rW.trans h.ns.symm
 refine⟨⟨h.nm,h.st,h.sp,h.ow,h.ty,(List.length_set ..).trans h.rW,fun s hs=>?_⟩,?_⟩
 ·rw[ZN hl (by rw[h.ns];exact hi),if_neg (by omega)];exact h.e s hs
 ·rw[ZN hl (by rw[h.ns];exact hi),if_pos rfl]
theorem Pj.succ(h:Pj A T i)(he:T.E i=A.UH i):Pj A T (i +1):=
 ⟨h.nm,h.st,h.sp,h.ow,h.ty,h.rW,fun s hs=>by
   rcases Nat.lt_or_ge s i with h1|h1
   ·exact h.e s h1
   ·obtain rfl:s=i:=by omega
    exact he⟩
theorem Pj.done(h:Pj A T A.ns):T=A.trim:=by
 obtain⟨h1,h2,h3,h4,h5,h6,h7⟩:=h
 have:T.eg=(List.range A.ns).map A.UH:=by
  refine List.ext_getElem (by rw[List.length_map,List.length_range];exact h6) fun s hs hs'=>?_
  rw[List.getElem_map,List.getElem_range,←h7 s (by omega)]
  unfold E
  rw[List.getElem?_eq_getElem hs];rfl
 cases T
 simp only at h1 h2 h3 h4 h5 this
 subst h1 h2 h3 h4 h5 this
 rfl
end At
end Go.Proofs.Lu
set_option maxRecDepth 100000
set_option maxHeartbeats 4000000
namespace Go.Proofs.Lu
open Go.Ae Go.Ae.M Go.Proofs.Lv
variable{F F':Nat→Prop}{H0 H:aa}{L M:List aK}{S:List Nat}{A:At}{q q':AV}{a a':Option Addr}{n c c':Nat}
end Go.Proofs.Lu
set_option maxRecDepth 100000
set_option maxHeartbeats 4000000
namespace Go.Proofs.Lu
open Go.Ae Go.Ae.M Go.Proofs.Lv
variable{F F':Nat→Prop}{H0 H:aa}{L M:List aK}{S:List Nat}{A:At}{q q':AV}{a a':Option Addr}
theorem Pk(a b:Bool)(i j:Nat):eG Pg .neq 4 (.tmp i) (.tmp j) (.bool a) (.bool b)=some (.bool (!(a==b))):=by
 cases a<;>cases b<;>kernel_rfl
structure CR(H:aa)(A:At)(q:AV)(r:Nat):Prop where
 m:oW (fun _=>True) H A q
 lt:r<H.next
 b:Bk H r 26 (q.cells A)
theorem CR.ex{H':aa}{r:Nat}(h:CR H A q r)(hx:Ext H H'):CR H' A q r:=⟨h.m.ex hx,Nat.lt_of_lt_of_le h.lt hx.next,h.b.ex h.lt hx⟩
theorem CR.n{r:Nat}(h:CR H A q r):CR (hN H) A q r:=⟨h.m.n',h.lt,h.b⟩
section ld
variable{r:Nat}{K:Value→aa→Prop}
theorem CR.Wl(h:CR H A q r)(k:K (q.v A) H):ME (Go.Ae.jX (some 6) (pr r) H) K:=ME.vW (h.b.read (o:=0) (n:=6) (Nat.le_refl 6)) k
theorem CR.ld1(h:CR H A q r)(k:K (.slice q.sa A.nr q.sc) H):ME (Go.Ae.jX none (.pointer (some ⟨r,1,none⟩)) H) K:=ME.ld (h.b.cell (o:=1) rfl) k
theorem CR.ld0(h:CR H A q r)(k:K (.slice q.na A.nr q.nc) H):ME (Go.Ae.jX none (.pointer (some ⟨r,0,none⟩)) H) K:=ME.ld (h.b.cell (o:=0) rfl) k
theorem CR.ld2(h:CR H A q r)(k:K (.slice q.pa A.nr q.pc) H):ME (Go.Ae.jX none (.pointer (some ⟨r,2,none⟩)) H) K:=ME.ld (h.b.cell (o:=2) rfl) k
theorem CR.ld3(h:CR H A q r)(k:K (.slice q.oa A.ns q.oc) H):ME (Go.Ae.jX none (.pointer (some ⟨r,3,none⟩)) H) K:=ME.ld (h.b.cell (o:=3) rfl) k
theorem CR.ld4(h:CR H A q r)(k:K (.slice q.ea A.ns q.ec) H):ME (Go.Ae.jX none (.pointer (some ⟨r,4,none⟩)) H) K:=ME.ld (h.b.cell (o:=4) rfl) k
end ld
end Go.Proofs.Lu
set_option maxRecDepth 100000
set_option maxHeartbeats 4000000
namespace Go.Proofs.Lu
open Go.Ae Go.Ae.M Go.Proofs.Lv
variable{F F':Nat→Prop}{H0 H:aa}{L M:List aK}{S:List Nat}{A:At}{q q':AV}{a a':Option Addr}
def cf(mk:List Bool):Nat:=(mk.filter (fun b=>!b)).length
theorem Gd{mk:List Bool}{k s:Nat}(hk:k<mk.length):on (mk.set k true) s↔s=k∨on mk s:=by
 unfold on
 rw[List.getElem?_set]
 by_cases h:k=s
 ·subst h;simp[hk]
 ·rw[if_neg h]
  constructor
  ·exact fun h=>.inr h
  ·rintro(rfl|h')
   ·exact absurd rfl h
   ·exact h'
theorem Pm(mk:List Bool)(k:Nat)(b:Bool):(bools mk).set k (.bool b)=bools (mk.set k b):=List.map_set.symm
theorem ace{l:List Ed}{c k f:Nat}{v:Value}{K:Value→Value→Value→aa→Prop}(h:fE F 47 H a l.length 3 (yY l))(hk:k<l.length)(hf:f<3)(hv:[vn l[k].1,vn l[k].2.1,vn l[k].2.2][f]?=some v)(kk:∀p p2,K p p2 v H):PU (q_ 3 (.slice a l.length c) (vn k)) fun p=>PU (fld f p) fun p2=>ME (Go.Ae.jX none p2 H) (K p p2):=by
 obtain⟨r,o,h1,h2,h3,_⟩:=h.1.idx (c:=c) (by omega) hk
 refine PU.of h1 ?_
 refine ME.ld (h3 f v hf ?_) (kk _ _)
 rw[←hv]
 have:=F6 (List.getElem?_eq_getElem hk)
 have:=congrArg (fun l=>l[f]?) this
 simp only[jb,if_pos hf]at this
 exact this
end Go.Proofs.Lu
set_option maxRecDepth 100000
set_option maxHeartbeats 4000000
namespace Go.Proofs.Lu
open Go.Ae Go.Ae.M Go.Proofs.Lv
variable{F F':Nat→Prop}{H0 H:aa}{L M:List aK}{S:List Nat}{A:At}{q q':AV}{a a':Option Addr}
structure Cm(A:At)(mk:List Bool):Prop where
 len:mk.length=A.ns
 st:∀s,A.U2 s→on mk s
 so:∀s,on mk s→A.met s
def shut(A:At)(mk:List Bool)(k:Nat):Prop:=on mk k→∀e∈A.trim.E k,on mk e.2.2
def Go3(P:List Bool→Prop)(Yd mk:List Bool)(ag:Bool):Prop:=(ag=false∧mk=Yd∧P mk)∨(ag=true∧cf mk<cf Yd)
theorem Go3.mono{P Q:List Bool→Prop}{Yd mk:List Bool}{ag:Bool}(h:Go3 P Yd mk ag)(hPQ:P mk→Q mk):Go3 Q Yd mk ag:=h.imp (fun⟨a,b,c⟩=>⟨a,b,hPQ c⟩) id
theorem Go3.le{P:List Bool→Prop}{Yd mk:List Bool}{ag:Bool}(h:Go3 P Yd mk ag):cf mk≤cf Yd:=by
 rcases h with⟨_,h,_⟩|⟨_,h⟩
 ·rw[h];exact Nat.le_refl _
 ·omega
theorem Cm.done{mk:List Bool}(h:Cm A mk)(ho:A.Ok)(hc:∀k,k<A.ns→shut A mk k)(s:Nat):on mk s↔A.met s:=by
 refine⟨h.so s,fun hm=>?_⟩
 have:=(At.TP (w:=fun _=>True) ho (fun _ _ _=>trivial) (s:=s)).2 hm
 induction this with
 |base s hs=>exact h.st s hs
 |step s e hs he _ ih=>
  have hms:=(At.TP (w:=fun _=>True) ho (fun _ _ _=>trivial)).1 hs
  have hon:=ih hms
  exact hc s (by rw[←h.len];exact(List.getElem?_eq_some_iff.1 hon).1) hon e he
theorem Cm.set{mk:List Bool}(h:Cm A mk)(ho:A.Ok){k:Nat}(hk:on mk k){e:Ed}(he:e∈A.trim.E k)(ht:e.2.2<A.ns):Cm A (mk.set e.2.2 true):=by
 have hl:e.2.2<mk.length:=by rw[h.len];exact ht
 refine⟨by rw[List.length_set];exact h.len,fun s hs=>(Gd hl).2 (.inr (h.st s hs)),fun s hs=>?_⟩
 rcases(Gd hl).1 hs with rfl|hs
 ·obtain⟨h1,h2,h3⟩:=(At.xY ho).1 he
  exact At.Jf h1 h2 h3
 ·exact h.so s hs
end Go.Proofs.Lu
set_option maxRecDepth 100000
set_option maxHeartbeats 4000000
namespace Go.Proofs.Lu
open Go.Ae Go.Ae.M Go.Proofs.Lv
variable{F F':Nat→Prop}{H0 H:aa}{L M:List aK}{S:List Nat}{A:At}{q q':AV}{a a':Option Addr}
namespace At
end At
end Go.Proofs.Lu
set_option maxRecDepth 100000
set_option maxHeartbeats 4000000
namespace Go.Proofs.Lu
open Go.Ae Go.Ae.M Go.Proofs.Lv
variable{F F':Nat→Prop}{H0 H:aa}{L M:List aK}{S:List Nat}{A:At}{q q':AV}{a a':Option Addr}
theorem _root_.Go.Ae.ak.orc{P:Program}{X:Xt}{g:FuncId}{args:List Value}{v:Value}{H':aa}{K:Value→aa→Prop}(h:X.o g args H=some (v,H'))(k:K v H'):ak P X g args H K:=⟨v,H',⟨1,sN h⟩,k⟩
theorem Wm:∀i,i<256→∃z:Nat,uO[i]?=some z∧(z=240∨z=241∨z=2∨z=19∨z=3∨z=35∨z=52∨z=4∨z=68):=by
 have h:((List.range 256).all fun i=>match uO[i]? with|some z=>decide (z=240∨z=241∨z=2∨z=19∨z=3∨z=35∨z=52∨z=4∨z=68)|none=>false)=true:=by decide +kernel
 intro i hi
 have:=List.all_eq_true.1 h i (List.mem_range.2 hi)
 cases hz:uO[i]? with
 |none=>rw[hz]at this;cases this
 |some z=>rw[hz]at this;exact⟨z,rfl,by simpa using this⟩
theorem Wn:∀i,i<16→∃x y:Nat,z8[i*2]?=some x∧z8[i*2 +1]?=some y:=by
 intro i hi
 have hl:z8.length=32:=rfl
 exact⟨_,_,List.getElem?_eq_getElem (by omega),List.getElem?_eq_getElem (by omega)⟩
theorem tX.of(h:pM H):tX H:=by
 obtain⟨h0,t1,t2,h1,h2⟩:=h
 refine⟨fun i hi=>?_,fun i hi=>?_,h0⟩
 ·obtain⟨z,hz,hv⟩:=Wm i hi
  exact⟨z,by omega,RE h1 hz⟩
 ·obtain⟨x,y,hx,hy⟩:=Wn i hi
  exact⟨x,y,Ot h2 hx hy⟩
end Go.Proofs.Lu
set_option maxRecDepth 100000
set_option maxHeartbeats 4000000
namespace Go.Proofs.Lv
open Go.Proofs.Lu
open Go.Ae Go.Ae.M
variable{H0 H:aa}{L M:List aK}{S:List Nat}{F:Nat→Prop}{A:At}{q:AV}{n s:Nat}
structure RB(n c:Nat)(b:List (List Nat)):Prop where
 len:b.length=n
 lt:∀(i:Nat)(l:List Nat),b[i]?=some l→(∀x∈l,x<n)∧l.length≤c
structure T6(b:List (List Nat))(mk mk':List Bool):Prop where
 gr:∀t,on mk t→on mk' t
 ln:mk'.length=mk.length
 nw:∀x,on mk' x→¬on mk x→∀l:List Nat,b[x]?=some l→∀y∈l,on mk' y
theorem T6.refl(b:List (List Nat))(mk:List Bool):T6 b mk mk:=⟨fun _ h=>h,rfl,fun x h h'=>absurd h h'⟩
theorem T6.trans{b:List (List Nat)}{m1 m2 m3:List Bool}(h:T6 b m1 m2)(g:T6 b m2 m3):T6 b m1 m3:=
 ⟨fun t ht=>g.gr t (h.gr t ht),g.ln.trans h.ln,fun x hx hn l hl y hy=>by
  by_cases h2:on m2 x
  ·exact g.gr y (h.nw x h2 hn l hl y hy)
  ·exact g.nw x hx h2 l hl y hy⟩
theorem Jk:∀{m1 m2:List Bool},m2.length=m1.length→(∀t,on m1 t→on m2 t)→off m2≤off m1
 |[],[],_,_=>Nat.le_refl _
 |x::m1,y::m2,hl,h=>by
  have:=Jk (m1:=m1) (m2:=m2) (by simpa using hl) (fun t ht=>by have:=h (t +1) (by unfold on at ht⊢;simpa using ht);unfold on at this⊢;simpa using this)
  have h0:=h 0
  unfold on at h0
  simp at h0
  simp only[off]
  cases x<;>cases y<;>simp_all<;>omega
abbrev RL(xr xc xf dm dc n:Nat)(vs:List Value)(R:List aK)(mk:List Bool):List aK:=
 (dm,4,bools mk)::(xr,36,[.slice (some ⟨dm,0,none⟩) n n])::(xc,50,[.slice (some ⟨dc,0,none⟩) n n])::(xf,98,[.func (.func 50) ⟨[]⟩ ⟨[pt xr,pt xc,pt xf]⟩])::(dc,23,vs)::R
theorem Lf{b:List (List Nat)}{xr xc xf dm dc:Nat}{vs:List Value}{R:List aK}(hb:RB n 1000000 b)(hg:Az 3 1 (b.map bH) vs R):
 ∀(k r:Nat)(mk:List Bool)(H:aa),off mk≤k→mk.length=n→r<n→SH S H0 H (RL xr xc xf dm dc n vs R mk)→
  ak Pg X 50 [vn r,pt xr,pt xc,pt xf] H fun v H'=>∃mk',SH S H0 H' (RL xr xc xf dm dc n vs R mk')∧T6 b mk mk'∧on mk' r:=by
 have hvl:vs.length=n:=by rw[←hg.len,List.length_map,hb.len]
 intro k
 induction k with
 |zero=>
  intro r mk H hk hl hr hS
  obtain⟨t,ht⟩:∃t,mk[r]?=some t:=⟨_,List.getElem?_eq_getElem (by omega)⟩
  cases t with
  |false=>have:=AF ht;omega
  |true=>
   refine ce [0,1,2,3,6,17,18,19] ?_;refine tl ?_
   refine hS.aZ ?_
   refine hS.ix (v:=.bool true) hr (kJ _ ht) fun p=>?_
   simp only[PP,Nat.reduceBEq]
   refine rr ?_;exact⟨mk,hS,T6.refl _ _,ht⟩
 |succ k ih=>
  intro r mk H hk hl hr hS
  obtain⟨t,ht⟩:∃t,mk[r]?=some t:=⟨_,List.getElem?_eq_getElem (by omega)⟩
  refine ce [0,1,2,3,6,17,18,19] ?_;refine tl ?_
  refine hS.aZ ?_
  refine hS.ix (v:=.bool t) hr (kJ _ ht) fun p=>?_
  simp only[PP,Nat.reduceBEq]
  refine aC (fun h=>?_) (fun h=>?_)
  ·subst h
   refine rr ?_;exact⟨mk,hS,T6.refl _ _,ht⟩
  subst h
  refine hS.aZ ?_
  refine hS.Y4 hr (by simp;omega) (kk:=fun p H1 hS=>?_)
  have e1:(bools mk).set r (.bool true)=bools (mk.set r true):=List.map_set.symm
  rw[e1]at hS
  have hof:=AF ht
  obtain⟨l,hbl⟩:∃l,b[r]?=some l:=⟨_,List.getElem?_eq_getElem (by rw[hb.len];exact hr)⟩
  obtain⟨hlt,hll⟩:=hb.lt r l hbl
  have row:∀mk' H',SH S H0 H' (RL xr xc xf dm dc n vs R mk')→∃a c,vs[r]?=some (.slice a l.length c)∧fE (fun r=>r∈R.map (·.1)) 3 H' a l.length 1 (bH l):=by
   intro mk' H' hS
   obtain⟨a,m,c,e2,e3,hf⟩:=hg.all (L:=RL xr xc xf dm dc n vs [] mk') (hS.perm (by show List.Perm ([_,_,_,_,_]++R) _;exact List.perm_append_comm)) r (by omega)
   rw[List.getElem?_map,hbl]at e3 hf
   have e3:(bH l).length=m*1:=e3
   obtain rfl:m=l.length:=by simp at e3;omega
   exact⟨a,c,by rw[List.getElem?_eq_getElem (by omega),e2],hf⟩
  obtain⟨a,c,e2,_⟩:=row _ _ hS
  refine hS.aZ ?_
  refine hS.ix (v:=.slice a l.length c) hr e2 fun p=>?_
  simp only[PP,Nat.reduceBEq]
  refine lp2 6 19 (I:=fun m x6 mJ H'=>∃j um,mJ=vn j∧j +m=l.length∧SH S H0 H' (RL xr xc xf dm dc n vs R um)∧T6 b (mk.set r true) um∧(∀i,i<j→∀y,l[i]?=some y→on um y)) ?_ l.length ⟨0,_,rfl,by omega,hS,T6.refl _ _,fun i h=>absurd h (by omega)⟩
  clear hS
  rintro m2 x6 mJ rg H2 ⟨j,um,rfl,hjm,hS,hR,hon⟩
  refine tl ?_
  simp only[PP,Nat.reduceBEq]
  refine ae (fun hc=>?_) (fun hc=>?_)
  ·have hj:j<l.length:=by omega
   obtain⟨a',c',e2',hf⟩:=row _ _ hS
   rw[e2]at e2'
   injection e2' with e2'
   injection e2' with e4 _ e5
   subst e4 e5
   refine hf.ix hj (iH hj) fun p=>?_
   refine hS.aZ ?_
   have hge:l[j]?.getD 0=l[j]:=by rw[List.getElem?_eq_getElem hj];rfl
   rw[hge]
   have hlj:=hlt l[j] (List.getElem_mem hj)
   have ho:=Jk hR.ln hR.gr
   show ak Pg X 50 [vn l[j],pt xr,pt xc,pt xf] H2 _
   refine ak.mono (ih l[j] um H2 (by omega) (by rw[hR.ln,List.length_set];exact hl) hlj hS) ?_
   rintro v H3 ⟨mk3,hS,uM,ZM⟩
   refine PU.of (au (by omega) (by omega)) ?_
   refine⟨l.length -(j +1),by omega,_,_,_,_,rfl,j +1,mk3,by rw[show((j:Int) +1)=((j +1:Nat):Int) by omega],by omega,hS,hR.trans uM,fun i hi y hy=>?_⟩
   by_cases h:i=j
   ·subst h
    rw[List.getElem?_eq_getElem hj]at hy
    injection hy with hy
    subst hy;exact ZM
   ·exact uM.gr y (hon i (by omega) y hy)
  ·obtain rfl:j=l.length:=by omega
   refine rn ?_
   have hrl:r<mk.length:=by omega
   refine⟨um,hS,⟨fun t h=>hR.gr t ((pO hrl).2 (.inr h)),by rw[hR.ln,List.length_set],fun x hx hn l' hl' y hy=>?_⟩,hR.gr r ((pO hrl).2 (.inl rfl))⟩
   by_cases h:x=r
   ·subst h
    rw[hbl]at hl'
    injection hl' with hl'
    subst hl'
    obtain⟨i,hi,e⟩:=List.getElem_of_mem hy
    exact hon i hi y (by rw[List.getElem?_eq_getElem hi,e])
   ·exact hR.nw x hx (fun g=>by rcases(pO hrl).1 g with g|g;exact h g.symm;exact hn g) l' hl' y hy
end Go.Proofs.Lv
set_option maxRecDepth 100000
set_option maxHeartbeats 4000000
namespace Go.Ae
def g5(a b c d e:Nat):Nat→Nat
 |1=>a
 |2=>b
 |3=>c
 |4=>d
 |5=>e
 |_=>0
theorem Wo{ops:Array Oper}{C:Nat→Nat→Nat→Nat→Nat→List Cl}{a b c d e:Nat}{A B:aa}{K:Prop}(hn:[a,b,c,d,e].Nodup)(hC:(C a b c d e).map g7=((C 1 2 3 4 5).map g7).map (jL (g5 a b c d e)))(hk:all' (rQ 5) ((C 1 2 3 4 5).map g7)=true)(h:pairs aL (iT ops.toList [] 0) ((C 1 2 3 4 5).map g7)=true)(k:K)(hr:uP (Uy A B) (C a b c d e)):bO ops (C a b c d e)=true∧K:=by
 refine⟨Kj (m:=5) (fun i j h1 h2 h3 h4 he=>?_) hC hk h hr,k⟩
 simp only[List.nodup_cons,List.mem_cons,List.mem_nil_iff,or_false,not_or,List.nodup_nil,and_true,not_false_eq_true]at hn
 obtain⟨⟨n1,n2,n3,n4⟩,⟨n5,n6,n7⟩,⟨n8,n9⟩,n10⟩:=hn
 have hi:i=1∨i=2∨i=3∨i=4∨i=5:=by omega
 have hj:j=1∨j=2∨j=3∨j=4∨j=5:=by omega
 rcases hi with rfl|rfl|rfl|rfl|rfl<;>rcases hj with rfl|rfl|rfl|rfl|rfl<;>first|rfl|(simp only[g5]at he;omega)
end Go.Ae
namespace Go.Proofs.Lv
open Go.Proofs.Lu
open Go.Ae Go.Ae.M
variable{H0 H:aa}{L M:List aK}{S:List Nat}{F:Nat→Prop}{A:At}{q:AV}{n s:Nat}
structure KR(A:At)(mk:List Bool)(D:Nat→Ed→Prop)(c:Nat)(b:List (List Nat)):Prop where
 rb:RB A.nr c b
 cp:∀s e,D s e→e.1=2→on mk s→∃l,b[A.O s]?=some l∧e.2.1∈l
variable{mk:List Bool}{D D':Nat→Ed→Prop}{c:Nat}{b:List (List Nat)}
theorem KR.wk(h:KR A mk D c b)(hd:∀s e,D' s e→D s e){c':Nat}(hc:c≤c'):KR A mk D' c' b:=
 ⟨⟨h.rb.len,fun i l hl=>⟨(h.rb.lt i l hl).1,Nat.le_trans (h.rb.lt i l hl).2 hc⟩⟩,fun s e hs=>h.cp s e (hd s e hs)⟩
theorem KR.skip(h:KR A mk D c b){s:Nat}{e:Ed}(hk:e.1=2→¬on mk s):KR A mk (fun s' e'=>D s' e'∨(s'=s∧e'=e)) (c +1) b:=
 ⟨⟨h.rb.len,fun i l hl=>⟨(h.rb.lt i l hl).1,Nat.le_succ_of_le (h.rb.lt i l hl).2⟩⟩,fun s' e' hs h1 h2=>by
   rcases hs with hs|⟨rfl,rfl⟩
   ·exact h.cp s' e' hs h1 h2
   ·exact absurd h2 (hk h1)⟩
theorem KR.add(h:KR A mk D c b){s:Nat}{e:Ed}{l:List Nat}(he:e.2.1<A.nr)(hl:b[A.O s]?=some l):KR A mk (fun s' e'=>D s' e'∨(s'=s∧e'=e)) (c +1) (b.set (A.O s) (l++[e.2.1])):=by
 have hlt:=(List.getElem?_eq_some_iff.1 hl).1
 refine⟨⟨by rw[List.length_set];exact h.rb.len,fun i l' hl'=>?_⟩,fun s' e' hs h1 h2=>?_⟩
 ·rw[List.getElem?_set]at hl'
  split at hl'
  ·next g=>
   subst g
   injection hl' with hl'
   subst hl'
   obtain⟨g1,g2⟩:=h.rb.lt _ l hl
   refine⟨fun x hx=>?_,by simp;omega⟩
   rcases List.mem_append.1 hx with hx|hx
   ·exact g1 x hx
   ·simp at hx;subst hx;exact he
  ·obtain⟨g1,g2⟩:=h.rb.lt i l' hl'
   exact⟨g1,by omega⟩
 ·have key:∀l',b[A.O s']?=some l'→e'.2.1∈l'→∃l2,(b.set (A.O s) (l++[e.2.1]))[A.O s']?=some l2∧e'.2.1∈l2:=fun l' g1 g2=>by
   by_cases g:A.O s=A.O s'
   ·rw[←g,hl]at g1
    injection g1 with g1
    subst g1
    exact⟨l++[e.2.1],by rw[←g,List.getElem?_set_self hlt],List.mem_append_left _ g2⟩
   ·exact⟨l',by rw[List.getElem?_set_ne g];exact g1,g2⟩
  rcases hs with hs|⟨rfl,rfl⟩
  ·obtain⟨l',g1,g2⟩:=h.cp s' e' hs h1 h2
   exact key l' g1 g2
  ·exact⟨l++[e'.2.1],by rw[List.getElem?_set_self hlt],by simp⟩
def RR(A:At)(mk:List Bool)(D:Nat→Ed→Prop)(c:Nat)(vs:List Value)(R:List aK):Prop:=∃b,KR A mk D c b∧Az 3 1 (b.map bH) vs R
theorem RR.wk{vs:List Value}{R:List aK}(h:RR A mk D c vs R)(hd:∀s e,D' s e→D s e){c':Nat}(hc:c≤c'):RR A mk D' c' vs R:=let⟨b,h1,h3⟩:=h;⟨b,h1.wk hd hc,h3⟩
theorem RR.skip{vs:List Value}{R:List aK}(h:RR A mk D c vs R){s:Nat}{e:Ed}(hk:e.1=2→¬on mk s):RR A mk (fun s' e'=>D s' e'∨(s'=s∧e'=e)) (c +1) vs R:=let⟨b,h1,h3⟩:=h;⟨b,h1.skip hk,h3⟩
theorem RR.len{vs:List Value}{R:List aK}(h:RR A mk D c vs R):vs.length=A.nr:=let⟨b,h1,h3⟩:=h;by rw[←h3.len,List.length_map,h1.rb.len]
theorem RR.same{vs:List Value}{R:List aK}(h:RR A mk D c vs R):∀v∈vs,gD v v=true:=let⟨_,_,h3⟩:=h;xZ h3
theorem RR.put{vs:List Value}{R P0 L0:List aK}{rx s:Nat}{e:Ed}{K:Value→aa→Prop}(h:RR A mk D c vs R)(hc:c≤1000000)(he:e.2.1<A.nr)(hn:A.O s<A.nr){v:Value}(hv:vs[A.O s]?=some v)(hS:SH S H0 H ((rx,3,[vn e.2.1])::(P0++(R++L0))))
 (kk:∀va vl vc H1 R'(S':List Nat),RR A mk (fun s' e'=>D s' e'∨(s'=s∧e'=e)) (c +1) (vs.set (A.O s) (.slice va vl vc)) R'→SH S H0 (hM H H1) (P0++(R'++L0))→(Df H H1=cl 1∨Df H H1=⟨2,0,0,0,H,H1⟩)→(∀r,r<H.next→r∉S'→H1.obj r=H.obj r)→(∀r∈S',r∈R.map (·.1))→K (.slice va vl vc) H1):
 ME (xz 3 1 v (.slice (some ⟨rx,0,none⟩) 1 1) (hN H)) K:=by
 obtain⟨b,h1,h3⟩:=h
 have h2:=h1.rb.len
 have hvl:vs.length=A.nr:=by rw[←h3.len,List.length_map,h2]
 obtain⟨A',gb,B,rfl,hg,hput⟩:=h3.at (A.O s) (by omega)
 obtain⟨l,hl⟩:∃l,b[A.O s]?=some l:=⟨_,List.getElem?_eq_getElem (by omega)⟩
 have hll:=(h1.rb.lt _ l hl).2
 rw[List.getElem?_map,hl]at hg
 have hg:GB 3 1 vs[A.O s] (bH l) gb:=hg
 rw[List.getElem?_eq_getElem (by omega)]at hv
 rw[Option.some.inj hv]at hg
 have e1:P0++((A'++(gb++B))++L0)=(P0++A')++(gb++(B++L0)):=by simp
 rw[e1]at hS
 refine hg.Ie (hS.perm (List.Perm.cons _ (eY (P0++A') gb (B++L0)))) (by omega) rfl rfl (by simp;omega) fun v' H1 dD hg' hS' _ Jl hcl=>?_
 obtain⟨va,vl,vc,rfl⟩:=hg'.sl
 have hS':=hS'.perm (eY dD (P0++A') (B++L0))
 have e2:(P0++A')++(dD++(B++L0))=P0++((A'++(dD++B))++L0):=by simp
 rw[e2]at hS'
 refine kk va vl vc H1 (A'++(dD++B)) (gb.map (·.1)) ⟨b.set (A.O s) (l++[e.2.1]),h1.add he hl,?_⟩ hS' hcl Jl fun r hr=>by
  obtain⟨x,hx,rfl⟩:=List.mem_map.1 hr
  exact List.mem_map.2 ⟨x,by simp[hx],rfl⟩
 have:=hput (.slice va vl vc) (bH (l++[e.2.1])) dD (by rw[show bH (l++[e.2.1])=bH l++[vn e.2.1] by simp];exact hg')
 rw[List.map_set];exact this
end Go.Proofs.Lv
set_option maxRecDepth 100000
set_option maxHeartbeats 4000000
namespace Go.Proofs.Lv
open Go.Proofs.Lu
open Go.Ae Go.Ae.M
variable{H0 H:aa}{L M:List aK}{S:List Nat}{F:Nat→Prop}{A:At}{q:AV}{n s:Nat}
theorem _root_.Go.Ae.fE.old{ty:TypeId}{a:Option Addr}{es:Nat}{cs:List Value}(h:fE F ty H a n es cs):fE (·<H.next) ty H a n es cs:=⟨h.1,fun r o e hn=>let⟨_,h2,h3⟩:=h.2 r o e hn;⟨h2,h2,h3⟩⟩
theorem oW.old(h:oW F H A q):oW (·<H.next) H A q:=⟨h.n.old,h.s.old,h.p.old,h.o.old,let⟨evs,h1,h2⟩:=h.e;⟨evs,h1.old,fun i hi=>let⟨a,c,h3,h4⟩:=h2 i hi;⟨a,c,h3,h4.old⟩⟩⟩
theorem Bs.stay{b:Nat}{v:Value}{mk:List Bool}{H':aa}(h:Bs b H n v mk)(hx:kS S H H')(hS:∀r∈S,r<b):Bs b H' n v mk:=let⟨a,c,h1,h2,h3⟩:=h;⟨a,c,h1,h2,h3.stay hx fun r hr=>.inl (by have:=hS r hr;omega)⟩
theorem Lg(A:At)(H:aa):Wnt A (fun _=>True) H (.func (.func 49) #[] #[]):=by
 intro H' s e hx hw he
 show ak Pg X 49 [.agg ⟨[vn e.1,vn e.2.1,vn e.2.2]⟩] H' _
 have hS:=SH.refl hw
 refine ce [0,2] ?_;refine tl ?_
 refine hS.box rfl fun H1 rg hS=>?_
 refine rr ?_;exact⟨⟨true,rfl,by simp⟩,hS.ext⟩
theorem Pn{mk:List Bool}{D:Nat→Ed→Prop}{c N re dc xc rg:Nat}{vs:List Value}{R:List aK}{e:Ed}{H1:aa}(hc:c≤1000000)(hR:RR A mk D c vs R)(ho:A.Ok)(he:e∈A.E s)(hk:e.1=2)(h:oW (·<N) H1 A q)(hge:∀x∈(re,47,[vn e.1,vn e.2.1,vn e.2.2])::(dc,23,vs)::(xc,50,[.slice (some ⟨dc,0,none⟩) A.nr A.nr])::(rg,26,q.cells A)::R,N≤x.1)
 (hS:SH S H H1 ((re,47,[vn e.1,vn e.2.1,vn e.2.2])::(dc,23,vs)::(xc,50,[.slice (some ⟨dc,0,none⟩) A.nr A.nr])::(rg,26,q.cells A)::R)){K:Out→Prop}{x0 x2 x3 x6 x9 aW oK x24 x25 x30 x31 x32:Value}{dI:Rs}(h44:zZ dI 44=.bool true)
 (kk:∀vs' R' oU H',RR A mk (fun s' e'=>D s' e'∨(s'=s∧e'=e)) (c +1) vs' R'→SH S H H' ((re,47,[vn e.1,vn e.2.1,vn e.2.2])::(dc,23,vs')::(xc,50,[.slice (some ⟨dc,0,none⟩) A.nr A.nr])::(rg,26,q.cells A)::R')→
  K (.norm (o_ x0 (pt rg) x2 x3 (pt xc) (vn s) x6 (pt re) x9 aW oK x24 x25 x30 x31 x32 oU H'))):
 aR Pg X (sub yO [1,1,1,1,0,1,0,0,1,1,0,0,1,1,0,0,1,1,0,0,1,1]) (o_ x0 (pt rg) x2 x3 (pt xc) (vn s) x6 (pt re) x9 aW oK x24 x25 x30 x31 x32 dI H1) K:=by
 have hs:=ho.lt he
 have hos:=ho.o s hs
 have hvl:=hR.len
 have hca:e.2.1<A.nr:=ho.call he hk
 refine tl ?_
 rw[h44]
 refine aC (fun _=>?_) (fun h=>by cases h)
 obtain⟨ro,oo,h1,hrl,h3,o0,e1,_⟩:=h.o.1.idx (c:=q.oc) (Nat.lt_succ_self 0) hs
 have hrN:ro<N:=(h.o.2 ro o0 e1 (by omega)).1
 have hrc:H1.cell ro oo=some (vn (A.O s)):=h3 0 (vn (A.O s)) (Nat.lt_succ_self 0) (by rw[Nat.mul_one,Nat.add_zero];exact iH hs)
 repeat(first|(simp only[PP,Nat.reduceBEq,aj hS.wf])|(refine hS.jf ?_))
 refine PU.of h1 ?_
 refine ME.ld (H:=hN H1) hrc ?_
 repeat(first|(simp only[PP,Nat.reduceBEq,aj hS.wf])|(refine hS.jf ?_))
 refine PU.of h1 ?_
 refine ME.ld (H:=hN H1) hrc ?_
 have hSb:=hS
 have hS:=hS.base
 have ids:∀x∈((re,47,[vn e.1,vn e.2.1,vn e.2.2])::(dc,23,vs)::(xc,50,[.slice (some ⟨dc,0,none⟩) A.nr A.nr])::(rg,26,q.cells A)::R).map (·.1),x≠ro:=fun x hx=>by
  obtain⟨y,hy,rfl⟩:=List.mem_map.1 hx
  have:=hge y hy
  omega
 have hcell:∀{H' L'},SH (((re,47,[vn e.1,vn e.2.1,vn e.2.2])::(dc,23,vs)::(xc,50,[.slice (some ⟨dc,0,none⟩) A.nr A.nr])::(rg,26,q.cells A)::R).map (·.1)) H1 H' L'→H'.cell ro oo=some (vn (A.O s)):=fun hS'=>(jq (hS'.ext.obj ro hrl (fun hm=>ids ro hm rfl)) oo).trans hrc
 have n1:re≠dc:=hS.nq 0 1 rfl rfl (by omega)
 have n2:re≠xc:=hS.nq 0 2 rfl rfl (by omega)
 have n3:re≠rg:=hS.nq 0 3 rfl rfl (by omega)
 have n4:dc≠xc:=hS.nq 1 2 rfl rfl (by omega)
 have n5:dc≠rg:=hS.nq 1 3 rfl rfl (by omega)
 have n6:xc≠rg:=hS.nq 2 3 rfl rfl (by omega)
 have m1:re≠ro:=ids re (by simp)
 have m2:dc≠ro:=ids dc (by simp)
 have m3:xc≠ro:=ids xc (by simp)
 have m4:rg≠ro:=ids rg (by simp)
 simp only[PP,Nat.reduceBEq,aj hS.wf]
 obtain⟨v,hv,_⟩:∃v,vs[A.O s]?=some v∧True:=⟨_,List.getElem?_eq_getElem (by omega),trivial⟩
 refine hS.Dx (k:=A.O s) hos hv ?_
 repeat(first|(simp only[PP,Nat.reduceBEq,aj hS.wf])|(refine hS.jf ?_))
 refine hS.Vw rfl rfl rfl (by omega) fun H2 rx hS jC=>?_
 have hS0:=hS
 have hS:=(hS.to (cs':=[vn e.2.1]) rfl).cast (L':=(rx,3,[vn e.2.1])::([(re,47,[vn e.1,vn e.2.1,vn e.2.2]),(dc,23,vs),(xc,50,[.slice (some ⟨dc,0,none⟩) A.nr A.nr]),(rg,26,q.cells A)]++(R++[]))) (by simp)
 refine hR.put hc hca hos hv hS fun va vl vc H3 R' S' hR' hS nE Jl hS'=>?_
 simp only[List.cons_append,List.nil_append,List.append_nil]at hS
 have hS1:=hS
 refine hS.V7 (k:=A.O s) hos (by omega) (kk:=fun H4 hS=>?_)
 refine(show∀K:Prop,K→_∧K from fun K hK=>?_) _ ?_
 ·have r1:∀{o n:Nat}{a b:aa},o +n≤3→gI ⟨2,0,0,0,hM H1 H2,H3⟩ ⟨4,re,o,n,a,b⟩=true:=fun h=>kL (hS0.get 1 rfl) ((hS1.get 0 rfl).fO rfl) h (AM ⟨_,_,_,rfl⟩)
  have r2:∀{n:Nat}{a b:aa},n=1→gI ⟨2,0,0,0,hM H1 H2,H3⟩ ⟨4,dc,A.O s,n,a,b⟩=true:=fun h=>kL (hS0.get 2 rfl) ((hS1.get 1 rfl).fO rfl) (by omega) fun v hv=>hR.same v (List.mem_of_mem_drop (List.mem_of_mem_take hv))
  have r3:∀{n:Nat}{a b:aa},n=1→gI ⟨2,0,0,0,hM H1 H2,H3⟩ ⟨4,xc,0,n,a,b⟩=true:=fun h=>kL (hS0.get 3 rfl) ((hS1.get 2 rfl).fO rfl) (by subst h;exact Nat.le_refl 1) fun v hv=>by
   have:=List.mem_of_mem_drop (List.mem_of_mem_take hv)
   simp at this;subst this
   exact jM _ _ _ fun x h=>by cases h;rfl
  have r4:∀{n:Nat}{a b:aa},n=1→gI ⟨2,0,0,0,hM H1 H2,H3⟩ ⟨4,rg,3,n,a,b⟩=true:=fun h=>kL (hS0.get 4 rfl) ((hS1.get 3 rfl).fO rfl) (by subst h;exact Nat.le_of_ble_eq_true rfl) fun v hv=>by
   subst h
   have:v∈[Value.slice q.oa A.ns q.oc]:=hv
   rw[List.mem_singleton]at this;subst this
   refine jM _ _ _ fun x h=>?_
   rw[e1]at h;cases h;rfl
  have r5:∀{n:Nat}{a b:aa},n=1→gI ⟨2,0,0,0,hM H1 H2,H3⟩ ⟨4,ro,oo,n,a,b⟩=true:=fun h=>by
   subst h
   have h2:(hM (hM H1 H2) H3).cell ro oo=some (vn (A.O s)):=hcell hS1
   have h2:H3.cell ro oo=some (vn (A.O s)):=h2
   exact qc (R4 (hcell hS0)) (R4 h2) (nP fun v hv=>by rw[List.mem_singleton]at hv;subst hv;exact nO _ _)
  simp only[jC,aA,aB]
  generalize A.O s=ke at r2⊢
  rcases nE with e|e<;>rw[e]<;>apply Wo (A:=hM H1 H2) (B:=H3) (a:=re) (b:=dc) (c:=xc) (d:=rg) (e:=ro) (by simp[n1,n2,n3,n4,n5,n6,m1,m2,m3,m4]) (by rfl) (by kernel_rfl) (by kernel_rfl) hK<;>repeat' apply And.intro
  all_goals first|exact trivial|(intro h;cases h;done)|exact fun _=>⟨rfl,rfl⟩|exact fun _=>r1 (by omega)|exact fun _=>r2 rfl|exact fun _=>r3 rfl|exact fun _=>r4 rfl|exact fun _=>r5 rfl
 exact kk _ R' _ _ hR' (hSb.over hS)
theorem RB.wk{c c':Nat}{b:List (List Nat)}(h:RB n c b)(hc:c≤c'):RB n c' b:=⟨h.len,fun i l hl=>⟨(h.lt i l hl).1,Nat.le_trans (h.lt i l hl).2 hc⟩⟩
theorem Yc{α:Type}(a b c d e f:α):[a,b,c,d,e,f].Perm [f,c,b,e,a,d]:=by
 refine List.Perm.trans (List.perm_append_comm (l₁:=[a,b,c,d,e]) (l₂:=[f])) (List.Perm.cons f ?_)
 refine List.Perm.trans (List.perm_append_comm (l₁:=[a,b]) (l₂:=[c,d,e])) (List.Perm.cons c ?_)
 refine List.Perm.trans (List.perm_append_comm (l₁:=[d,e,a]) (l₂:=[b])) (List.Perm.cons b ?_)
 exact List.Perm.trans (List.Perm.swap _ _ _) (List.Perm.cons e (List.Perm.swap _ _ _))
def Rcd(A:At)(l:List Bool):Prop:=on l 0∧∀r,r<A.nr→on l r→∀e∈A.E (A.S r),e.1=2→on l e.2.1
theorem Gf(hw:Wf H)(h:oW F H A q)(ho:A.Ok):ak Pg X 20 [q.v A] H (Qe (fun v H'=>∃l,Bs H.next H' A.nr v l∧Rcd A l) H):=by
 have hS:=SH.refl hw
 have hbig:=ho.big
 have O3:=ho.few
 have hold:=h.old
 refine ce [0,1,2,3,4,5,6,8,9,10,23,24,25,30,31,32] ?_;refine tl ?_
 refine hS.box rfl fun H1 rg hS=>?_
 rw[jD]at hS
 have hrg:=hS.xA (List.mem_cons_self ..)
 refine hS.vW 0 rfl (by show 0 +6≤6;omega) ?_
 refine ak.mono (q8 hS.wf (h.ex hS.ext) ho) ?_
 rintro v H2 ⟨rfl,hx⟩
 have hS:=hS.call hx
 simp only[PP,Nat.reduceBEq]
 refine aC (fun hb=>by cases hb) (fun _=>?_)
 refine hS.vW 0 rfl (by show 0 +6≤6;omega) ?_
 refine hS.ld 0 (o:=1) rfl rfl ?_
 have est:Value.slice q.sa A.nr q.sc=.slice q.sa A.st.length q.sc:=by rw[ho.Jp]
 rw[est]
 refine ak.mono (Eu (F:=F) (fl:=A.st) (w:=fun _=>True) hS.wf (h.ex hS.ext) ho (by rw[ho.Jp];exact(h.ex hS.ext).s) (fun s hs=>by
  obtain⟨i,hi,rfl⟩:=List.getElem_of_mem hs
  have:=(ho.s i (by rw[←ho.Jp];exact hi)).1
  unfold At.S at this
  rw[List.getElem?_eq_getElem hi]at this
  exact this) (by rw[ho.Jp];omega) (Lg A H2)) ?_
 rintro v H3 ⟨⟨mk,hm,hk⟩,hx3⟩
 have k_:=hS.call hx3
 have hrg2:rg<H2.next:=(hS.lo _ (List.mem_cons_self ..)).2
 have hS:=k_.base
 have Pe:=k_.ext
 have Ye:=hold.ex Pe
 clear hx hx3
 obtain⟨ma,mc,rfl,hml,_⟩:=id hm
 refine hS.ld 0 (o:=0) rfl rfl ?_
 simp only[PP,Nat.reduceBEq]
 refine hS.mkS (Nat.le_refl _) (by omega) fun H4 dc hS=>?_
 rw[gP]at hS
 refine hS.cZ fun H5 xc hS=>?_
 refine hS.jd fun Hn hS=>?_;refine hS.aZ ?_;simp only[PP,Nat.reduceBEq,aj hS.wf]
 have hS:SH [rg] H3 Hn ((dc,23,List.replicate A.nr (.slice none 0 0))::(xc,50,[.slice (some ⟨dc,0,none⟩) A.nr A.nr])::(rg,26,q.cells A)::[]):=hS.perm (List.Perm.swap _ _ _)
 have acf:∀{H' L'},SH [rg] H3 H' L'→oW (·<H.next) H' A q:=fun hS=>Ye.stay hS.ext fun r hr=>by simp at hr;subst hr;omega
 have hm4:∀{H' L'},SH [rg] H3 H' L'→Bs H2.next H' A.ns (.slice ma A.ns mc) mk:=fun hS=>hm.stay hS.ext fun r hr=>by simp at hr;subst hr;exact hrg2
 have ini:RR A mk (Seen A 0 0) (A.pre 0) (List.replicate A.nr (.slice none 0 0)) []:=⟨List.replicate A.nr [],⟨⟨by simp,fun i l hl=>by
  rw[List.getElem?_replicate]at hl
  split at hl
  ·injection hl with hl;subst hl;exact⟨(fun x h=>by cases h),Nat.zero_le _⟩
  ·cases hl⟩,fun s e h=>by rcases h with⟨h,_⟩|⟨_,j,h,_⟩<;>omega⟩,by rw[List.map_replicate];exact Az.Oy _⟩
 obtain⟨evs,he1,he2⟩:=Ye.e
 have hlow:∀r∈[rg],¬r<H.next:=fun r hr=>by simp at hr;subst hr;omega
 refine lp7 5 6 8 25 30 31 32 (I:=fun m x5 x6 x8 x25 x30 x31 x32 H'=>∃i vs R,x25=vn i∧i +m=A.ns∧RR A mk (Seen A i 0) (A.pre i) vs R∧SH [rg] H3 H' ((dc,23,vs)::(xc,50,[.slice (some ⟨dc,0,none⟩) A.nr A.nr])::(rg,26,q.cells A)::R)) ?_ A.ns ⟨0,_,[],rfl,by omega,ini,hS⟩
 clear hS ini
 rintro m x5 x6 x8 x25 x30 x31 x32 dI H5 ⟨i,vs,R,rfl,him,hR,hS⟩
 refine tl ?_
 simp only[PP,Nat.reduceBEq]
 refine ae (fun hc=>?_) (fun hc=>?_)
 rotate_left
 ·obtain rfl:i=A.ns:=by omega
  obtain⟨b,hK,hg⟩:=hR
  have hpre:=At.CG ho A.ns
  refine tl ?_
  repeat(first|(simp only[PP,Nat.reduceBEq,aj hS.wf])|(refine hS.aZ ?_))
  refine hS.mkS (Nat.le_refl _) (by omega) fun H6 dm hS=>?_
  rw[gP]at hS
  refine hS.cZ fun H7 xr hS=>?_
  refine hS.jd fun Hn hS=>?_
  refine hS.cZ fun H8 xf hS=>?_
  refine hS.jd fun Hn hS=>?_;refine hS.aZ ?_
  have hS:SH [rg] H3 Hn ((xf,98,[.func (.func 50) ⟨[]⟩ ⟨[pt xr,pt xc,pt xf]⟩])::(xr,36,[.slice (some ⟨dm,0,none⟩) A.nr A.nr])::(dm,4,bools (List.replicate A.nr false))::(dc,23,vs)::(xc,50,[.slice (some ⟨dc,0,none⟩) A.nr A.nr])::(rg,26,q.cells A)::R):=hS.cast (by rw[show bools (List.replicate A.nr false)=List.replicate A.nr (.bool false)from List.map_replicate];rfl)
  have hS:SH [rg] H3 Hn (RL xr xc xf dm dc A.nr vs R (List.replicate A.nr false)):=by
   refine SH.drop (A:=[(rg,26,q.cells A)]) (hS.perm ?_)
   have e1:∀(a b c d e f:aK)(R:List aK),(a::b::c::d::e::f::R).Perm ([f]++(c::b::e::a::d::R)):=fun a b c d e f R=>by
    refine List.Perm.append_right (l₁:=[a,b,c,d,e,f]) (l₂:=[f,c,b,e,a,d]) R ?_
    exact Yc a b c d e f
   exact e1 _ _ _ _ _ _ R
  show ak Pg X 50 [vn 0,pt xr,pt xc,pt xf] Hn _
  refine ak.mono (Lf (hK.rb.wk (by omega)) hg A.nr 0 _ Hn (by rw[AJ];exact Nat.le_refl _) (by simp) ho.pos hS) ?_
  rintro v H9 ⟨um,hS,hR2,hon⟩
  refine hS.aZ ?_
  have hl2:um.length=A.nr:=by rw[hR2.ln];simp
  have hdm:H.next≤dm:=by
   rcases(hS.lo _ (List.mem_cons_self ..)).1 with g|g
   ·simp at g;omega
   ·have:=Pe.next;have g:H3.next≤dm:=g;omega
  refine rr ?_;refine⟨⟨um,⟨_,_,rfl,hl2,fE.one hS (List.mem_cons_self ..) (by simp;omega) hdm⟩,hon,fun r hr hr2 e he hk2=>?_⟩,Pe.later hS.ext fun r hr=>.inr (by simp at hr;subst hr;exact hrg)⟩
  have hsr:=ho.s r hr
  have hmet:on mk (A.S r):=(hk _).2 (.base _ (by
   unfold At.S
   rw[List.getElem?_eq_getElem (by rw[ho.Jp];exact hr)]
   exact List.getElem_mem _))
  obtain⟨l,g1,g2⟩:=hK.cp (A.S r) e (.inl ⟨ho.lt he,he⟩) hk2 hmet
  rw[hsr.2]at g1
  refine hR2.nw r hr2 (fun g=>?_) l g1 _ g2
  unfold on at g
  rw[List.getElem?_replicate]at g
  split at g<;>simp at g
 have hi:i<A.ns:=by omega
 obtain⟨ea,ec,he3,he4⟩:=he2 i hi
 refine(he1.stay hS.ext fun r hr=>.inl (hlow r hr)).ix hi he3 fun p=>?_
 simp only[PP,Nat.reduceBEq]
 have hpre:=At.CJ ho hi
 have hpl:=At.CG ho (i +1)
 refine lp2 8 32 (I:=fun m x8 x32 H'=>∃k vs R,x32=vn k∧k +m=(A.E i).length∧RR A mk (Seen A i k) (A.pre i +k) vs R∧SH [rg] H3 H' ((dc,23,vs)::(xc,50,[.slice (some ⟨dc,0,none⟩) A.nr A.nr])::(rg,26,q.cells A)::R)) ?_ (A.E i).length ⟨0,vs,R,rfl,by omega,hR,hS⟩
 clear hS hR hc
 rintro m' y8 y32 yU H6 ⟨k,vs,R,rfl,hkm,hR,hS⟩
 refine tl ?_
 simp only[PP,Nat.reduceBEq]
 refine ae (fun hc=>?_) (fun hc=>?_)
 rotate_left
 ·obtain rfl:k=(A.E i).length:=by omega
  refine tl ?_
  refine PU.of (au (by omega) (by omega)) ?_
  exact⟨A.ns -(i +1),by omega,_,_,_,_,_,_,_,_,_,rfl,i +1,vs,R,by rw[show((i:Int) +1)=((i +1:Nat):Int) by omega],by omega,hR.wk (fun s e h=>h.all) (by omega),hS⟩
 have hk':k<(A.E i).length:=by omega
 refine V5 (he4.stay hS.ext fun r hr=>.inl (hlow r hr)) hk' fun p=>?_
 have hmem:=List.getElem_mem hk'
 have TG:=ho.len i
 have hke:(A.E i)[k]?=some (A.E i)[k]:=List.getElem?_eq_getElem hk'
 generalize hee:(A.E i)[k]=e at hke hmem⊢
 refine hS.ns rfl rfl rfl fun H8 re hS Jo=>?_
 have hS:SH [rg] H3 H8 ((re,47,[vn e.1,vn e.2.1,vn e.2.2])::(dc,23,vs)::(xc,50,[.slice (some ⟨dc,0,none⟩) A.nr A.nr])::(rg,26,q.cells A)::R):=hS
 repeat(first|(simp only[PP,Nat.reduceBEq,aj hS.wf])|(refine hS.aZ ?_))
 refine ae (fun hc1=>?_) (fun hc1=>?_)
 ·refine(hm4 hS).at hi fun p t ht=>?_
  cases t with
  |true=>
   refine Pn (N:=H.next) (by omega) hR ho hmem (by omega) (acf hS) (fun x hx=>?_) hS rfl fun vs' R' oU H' g1 g2=>?_
   ·rcases(hS.lo x hx).1 with g|g
    ·simp at g;omega
    ·have:=Pe.next;omega
   simp only[PP,Nat.reduceBEq]
   refine tl ?_
   refine PU.of (au (by omega) (by omega)) ?_
   exact⟨(A.E i).length -(k +1),by omega,_,_,_,_,rfl,k +1,vs',R',by rw[show((k:Int) +1)=((k +1:Nat):Int) by omega],by omega,g1.wk (fun s e h=>h.next hke) (Nat.le_refl _),SH.drop (A:=[_]) g2⟩
  |false=>
   refine tl ?_
   refine tl ?_
   refine PU.of (au (by omega) (by omega)) ?_
   exact⟨(A.E i).length -(k +1),by omega,_,_,_,_,rfl,k +1,vs,R,by rw[show((k:Int) +1)=((k +1:Nat):Int) by omega],by omega,(hR.skip (fun _ h=>by cases ht.2 h)).wk (fun s e h=>h.next hke) (Nat.le_refl _),SH.drop (A:=[_]) hS⟩
 ·refine tl ?_
  refine tl ?_
  refine PU.of (au (by omega) (by omega)) ?_
  exact⟨(A.E i).length -(k +1),by omega,_,_,_,_,rfl,k +1,vs,R,by rw[show((k:Int) +1)=((k +1:Nat):Int) by omega],by omega,(hR.skip (fun h=>absurd (by omega) hc1)).wk (fun s e h=>h.next hke) (Nat.le_refl _),SH.drop (A:=[_]) hS⟩
end Go.Proofs.Lv
set_option maxRecDepth 100000
set_option maxHeartbeats 4000000
namespace Go.Proofs.Lu
open Go.Ae Go.Ae.M Go.Proofs.Lv
variable{F F':Nat→Prop}{H0 H:aa}{L M:List aK}{S:List Nat}{A:At}{q q':AV}{a a':Option Addr}
theorem T7{P:Program}{t:TypeId}{ox oy:Operand}{a b:Nat}(hb:0<b)(h:a≤9223372036854775807):eG P .rem t ox oy (vn a) (vn b)=some (vn (a %b)):=bY rfl (by
 show bP (Op.intDiv .rem .i64 a b)=_
 unfold Op.intDiv
 rw[if_neg (by omega)]
 show some (Value.int .i64 ((a:Int).tmod b))=_
 have h1:(a:Int).tmod b=((a %b:Nat):Int):=by rw[Int.tmod_eq_emod_of_nonneg (by omega)];rfl
 have h2:a %b≤a:=Nat.mod_le _ _
 rw[h1])
theorem Wp(z:Int):∃r:Nat,Fw .i64 z 65535=(r:Int)∧r≤65535:=by
 unfold Fw
 have h1:(BitVec.ofInt IntKind.i64.bits z&&&BitVec.ofInt IntKind.i64.bits 65535).toNat≤65535:=by
  rw[BitVec.toNat_and]
  refine Nat.le_trans Nat.and_le_right ?_
  show(BitVec.ofInt 64 65535).toNat≤65535
  decide
 exact⟨_,IntWalk.i64_in _ (by omega),h1⟩
theorem T8{n:Nat}{l:List Nat}(hp:l.Pairwise (·<·))(hl:∀t∈l,t<n):l.length≤n:=by
 have key:∀i(h:i<l.length),i≤l[i]:=by
  intro i
  induction i with
  |zero=>intro _;exact Nat.zero_le _
  |succ i ih=>
   intro h
   have h1:=ih (by omega)
   have h2:=List.pairwise_iff_getElem.1 hp i (i +1) (by omega) h (by omega)
   omega
 rcases Nat.eq_zero_or_pos l.length with h|h
 ·omega
 ·have:=key (l.length -1) (by omega)
  have:=hl _ (List.getElem_mem (show l.length -1<l.length by omega))
  omega
theorem Wq{H1:aa}{b r5 s rc:Nat}{la:Option Addr}{lc:Nat}{l:List Nat}(h3:CR H A q r5)(ho:A.Ok)(hs:s<A.ns)(hl:fE (b≤·) 3 H la l.length 1 (bH l))(hp:l.Pairwise (·<·))(hll:l.length≤4000)(hlt:∀t∈l,t<A.ns∧A.O t=A.O s)
 (hS:SH [] H H1 [(rc,4,bools (List.replicate A.ns false))]){x0 x1 x6 bn bT bJ eF bL dL iI:Value}{dI:List (Nat×Value)}{K:Out→Prop}
 (kk:∀x4 aW mk dI H',SH [] H H' [(rc,4,bools mk)]→mk.length=A.ns→(∀t,on mk t↔t∈l)→aR Pg X (sub aI [1,1,1,1,1,1,1]) (aF x0 x1 x4 (pr r5) x6 (vn s) (.slice la l.length lc) (.slice (some ⟨rc,0,none⟩) A.ns A.ns) aW bn bT bJ eF bL dL iI dI H') K):
 aR Pg X (.loop (sub aI [1,1,1,1,1,1,0,1,0,0])) (aF x0 x1 (.bool false) (pr r5) x6 (vn s) (.slice la l.length lc) (.slice (some ⟨rc,0,none⟩) A.ns A.ns) (vi 0) bn bT bJ eF bL dL iI dI H1) (gY 0 (kH Pg X (sub aI [1,1,1,1,1,1,1]) K)):=by
 have hbig:=ho.big
 refine lp2 4 10 (I:=fun m x4 aW H'=>∃i mk,aW=vn i∧i +m=l.length∧mk.length=A.ns∧(∀t,on mk t↔t∈l.take i)∧SH [] H H' [(rc,4,bools mk)]) ?_ l.length ⟨0,_,rfl,by omega,by simp,fun t=>?_,hS⟩
 rotate_left
 ·unfold on
  constructor
  ·intro h
   obtain⟨h1,h2⟩:=List.getElem?_eq_some_iff.1 h
   simp at h2
  ·intro h;simp at h
 clear hS
 rintro m x4 aW dI H3 ⟨i,mk,rfl,him,hml,hon,hS⟩
 refine tl ?_
 simp only[PP,Nat.reduceBEq]
 refine ae (fun hc=>?_) (fun hc=>?_)
 rotate_left
 ·obtain rfl:i=l.length:=by omega
  exact kk _ _ mk _ _ hS hml (fun t=>by rw[hon,List.take_length])
 have hi:i<l.length:=by omega
 have hl':=hl.ex hS.ext
 have h3':=h3.ex hS.ext
 have hge:∀{k:Nat}(hk:k<l.length),l[k]?.getD 0=l[k]:=fun hk=>by rw[List.getElem?_eq_getElem hk];rfl
 obtain⟨ht1,ht2⟩:=hlt l[i] (List.getElem_mem hi)
 refine hl'.Dx hi (iH hi) fun r o=>?_
 rw[hge hi]
 (try simp only[aj hS.wf])
 simp only[PP,Nat.reduceBEq]
 refine ae (fun hc=>absurd hc (by omega)) (fun _=>?_)
 refine hl'.Dx hi (iH hi) fun r o=>?_
 rw[hge hi]
 (try simp only[aj hS.wf])
 refine h3'.n.Wl ?_
 (try simp only[aj hS.wf])
 refine ak.mono (iX (mP H3) q A) ?_
 rintro v H4 ⟨rfl,hx4⟩
 have kg:=hS.j4 hx4
 simp only[PP,Nat.reduceBEq]
 refine ae (fun hc=>absurd hc (by omega)) (fun _=>?_)
 have Yf:=h3.ex kg.ext
 have hl4:=hl.ex kg.ext
 have fin:∀(K':Out→Prop) dI H',SH [] H H' [(rc,4,bools mk)]→(∀yU Z8,SH [] H Z8 [(rc,4,bools (mk.set l[i] true))]→K' (.norm (aF x0 x1 x4 (pr r5) x6 (vn s) (.slice la l.length lc) (.slice (some ⟨rc,0,none⟩) A.ns A.ns) (vi ((i:Int) +1)) bn bT bJ eF bL dL iI yU Z8)))→
  aR Pg X (sub aI [1,1,1,1,1,1,0,1,0,0,1,0,0,1]) (aF x0 x1 x4 (pr r5) x6 (vn s) (.slice la l.length lc) (.slice (some ⟨rc,0,none⟩) A.ns A.ns) (vn i) bn bT bJ eF bL dL iI dI H') (gY 1 (kH Pg X (sub aI [1,1,1,1,1,1,0,1,0,0,1,1]) K')):=by
  intro K' dI H' hS hk
  refine tl ?_
  refine(hl.ex hS.ext).ix hi (iH hi) fun p=>?_
  rw[hge hi]
  refine hS.Y4 ht1 (by simpa [hml]using ht1) (kk:=fun p H4 hS=>?_)
  simp only[PP,Nat.reduceBEq]
  refine tl ?_
  refine PU.of (au (by omega) (by omega)) ?_
  exact hk _ _ (by rw[←Pm];exact hS)
 refine ae (fun hi0=>?_) (fun hi0=>?_)
 ·have hi1:i -1<l.length:=by omega
  refine hl4.Dx hi (iH hi) fun r o=>?_
  rw[hge hi]
  (try simp only[aj kg.wf])
  refine PU.of (ax (by omega) (by omega)) ?_
  rw[show(i:Int) -1=((i -1:Nat):Int) by omega]
  refine hl4.Dx hi1 (iH hi1) fun r o=>?_
  rw[hge hi1]
  (try simp only[aj kg.wf])
  have hlt2:=List.pairwise_iff_getElem.1 hp (i -1) i hi1 hi (by omega)
  simp only[PP,Nat.reduceBEq]
  refine ae (fun hc=>absurd hc (by omega)) (fun _=>?_)
  refine Yf.n.ld3 ?_
  (try simp only[aj kg.wf])
  refine hl4.Dx hi (iH hi) fun r o=>?_
  rw[hge hi]
  (try simp only[aj kg.wf])
  refine Yf.m.o.Dx ht1 (iH ht1) fun r o=>?_
  (try simp only[aj kg.wf])
  refine Yf.n.ld3 ?_
  (try simp only[aj kg.wf])
  refine Yf.m.o.Dx hs (iH hs) fun r o=>?_
  (try simp only[aj kg.wf])
  simp only[PP,Nat.reduceBEq]
  refine(show∀K:Prop,K→_∧K from fun K hK=>?_) _ ?_
  ·exact cK (by simp only[az hx4,oJ,q9,AO,lW]) hK
  refine aP (fun hc=>absurd (congrArg (fun x:Nat=>(x:Int)) ht2) hc) (fun _=>?_)
  refine fin _ _ _ kg fun yU Z8 hS=>?_
  refine⟨l.length -(i +1),by omega,_,_,_,_,rfl,i +1,mk.set l[i] true,by rw[show((i:Int) +1)=((i +1:Nat):Int) by omega],by omega,by rw[List.length_set];exact hml,fun t=>?_,hS⟩
  rw[Gd (by rw[hml];exact ht1),hon,List.take_add_one,List.getElem?_eq_getElem hi]
  simp only[Option.toList,List.mem_append,List.mem_singleton]
  exact or_comm
 ·refine Yf.n.ld3 ?_
  (try simp only[aj kg.wf])
  refine hl4.Dx hi (iH hi) fun r o=>?_
  rw[hge hi]
  (try simp only[aj kg.wf])
  refine Yf.m.o.Dx ht1 (iH ht1) fun r o=>?_
  (try simp only[aj kg.wf])
  refine Yf.n.ld3 ?_
  (try simp only[aj kg.wf])
  refine Yf.m.o.Dx hs (iH hs) fun r o=>?_
  (try simp only[aj kg.wf])
  simp only[PP,Nat.reduceBEq]
  refine(show∀K:Prop,K→_∧K from fun K hK=>?_) _ ?_
  ·exact cK (by simp only[az hx4,oJ,q9,AO,lW]) hK
  refine aP (fun hc=>absurd (congrArg (fun x:Nat=>(x:Int)) ht2) hc) (fun _=>?_)
  refine fin _ _ _ kg fun yU Z8 hS=>?_
  refine⟨l.length -(i +1),by omega,_,_,_,_,rfl,i +1,mk.set l[i] true,by rw[show((i:Int) +1)=((i +1:Nat):Int) by omega],by omega,by rw[List.length_set];exact hml,fun t=>?_,hS⟩
  rw[Gd (by rw[hml];exact ht1),hon,List.take_add_one,List.getElem?_eq_getElem hi]
  simp only[Option.toList,List.mem_append,List.mem_singleton]
  exact or_comm
end Go.Proofs.Lu
set_option maxRecDepth 100000
set_option maxHeartbeats 4000000
namespace Go.Ae
noncomputable def g9(c:Cl):Cl:=⟨c.k,1,0,1,hh0,hh0⟩
theorem T9{x y:Cl}{b:Bool}(x2:x.k≠2)(y2:y.k≠2)(h:aL (g9 y) (g9 x) b=true):aL y x b=true:=by
 unfold aL at h⊢
 have n:kE (g9 x) (g9 y)=false:=rfl
 rw[n]at h
 rw[show(g9 x).k=x.k from rfl,show(g9 y).k=y.k from rfl,o9 x2,o9 y2]at h
 rw[o9 x2,o9 y2]
 generalize kE x y=m
 revert h
 generalize Nat.beq y.k 0=a0;generalize Nat.beq x.k 0=a1;generalize Nat.beq y.k 5=a2;generalize Nat.beq x.k 5=a3
 generalize Nat.beq x.k 3=a4;generalize Nat.beq y.k 3=a5;generalize Nat.beq y.k 4=a6;generalize Nat.beq x.k 4=a7;generalize Nat.beq x.k 1=a8;generalize Nat.beq y.k 1=a9
 cases a0<;>cases a1<;>cases a2<;>cases a3<;>cases a4<;>cases a5<;>cases a6<;>cases a7<;>cases b<;>first|exact fun h=>h|exact fun _=>rfl|(intro h;cases h)
theorem T_:∀(ms:List Nat)(l:List Cl),(∀c∈l,c.k≠2)→pairs aL ms (l.map g9)=true→pairs aL ms l=true:=by
 have row:∀(x:Cl)(k:Nat)(l:List Cl),x.k≠2→(∀c∈l,c.k≠2)→bF aL (g9 x) k (l.map g9)=true→bF aL x k l=true:=by
  intro x k l hx3
  induction l with
  |nil=>intro _ _;rfl
  |cons y l ih=>
   intro h3 h1
   replace h1:av (aL (g9 x) (g9 y) (aS k (len (l.map g9)))) (bF aL (g9 x) k (l.map g9)) false=true:=h1
   obtain⟨h2,h4⟩:=pN h1
   show av (aL x y (aS k (len l))) (bF aL x k l) false=true
   rw[aO,List.length_map]at h2
   rw[aO,T9 (h3 y (List.mem_cons_self ..)) hx3 h2,ih (fun c hc=>h3 c (List.mem_cons_of_mem _ hc)) h4];rfl
 intro ms
 induction ms with
 |nil=>intro l _ _;rfl
 |cons k ms ih=>
  intro l h3 h1
  cases l with
  |nil=>rfl
  |cons x l=>
   replace h1:av (bF aL (g9 x) k (l.map g9)) (pairs aL ms (l.map g9)) false=true:=h1
   obtain⟨h2,h4⟩:=pN h1
   show av (bF aL x k l) (pairs aL ms l) false=true
   rw[row x k l (h3 x (List.mem_cons_self ..)) (fun c hc=>h3 c (List.mem_cons_of_mem _ hc)) h2,ih l (fun c hc=>h3 c (List.mem_cons_of_mem _ hc)) h4];rfl
theorem ZW{ops:Array Oper}{l l':List Cl}{K:Prop}(e:l.map g9=l')(h2:all' (fun c=>!(Nat.beq c.k 2)) l'=true)(h:pairs aL (iT ops.toList [] 0) l'=true)(k:K):bO ops l=true∧K:=by
 subst e
 refine⟨?_,k⟩
 unfold bO
 have:pairs aL (iT ops.toList [] 0) l=true:=by
  refine T_ _ l (fun c hc e=>?_) h
  rw[all_eq,List.all_eq_true]at h2
  have:=h2 (g9 c) (List.mem_map_of_mem hc)
  unfold g9 at this
  rw[e]at this
  cases this
 rw[this]
 cases noTwo l<;>rfl
end Go.Ae
namespace Go.Proofs.Lu
open Go.Ae Go.Ae.M Go.Proofs.Lv
variable{F F':Nat→Prop}{H0 H:aa}{L M:List aK}{S:List Nat}{A:At}{q q':AV}{a a':Option Addr}
theorem _root_.Go.Ae.fE.adi{K:Value→Value→aa→Prop}{ty:TypeId}{n es c k:Nat}{cs l:List Value}(h:fE F ty H a n es cs)(he:0<es)(hk:k<n)(hl:El cs es k=l)(kk:∀r o,K (.pointer (some ⟨r,o,none⟩)) (.agg ⟨l⟩) H):PU (q_ es (.slice a n c) (vn k)) fun p=>ME (jX (some es) p H) (K p):=by
 obtain⟨r,o,h1,_⟩:=h.1.idx (c:=c) he hk
 have:=h.ixN (c:=c) (K:=fun p v H'=>v=.agg ⟨l⟩∧H'=H) he hk hl fun p=>⟨rfl,rfl⟩
 rw[h1]at this⊢
 have this:ME (jX (some es) (.pointer (some ⟨r,o,none⟩)) H) fun v H'=>v=.agg ⟨l⟩∧H'=H:=this
 show ME (jX (some es) (.pointer (some ⟨r,o,none⟩)) H) _
 exact MEm (fun v H' h=>by obtain⟨rfl,rfl⟩:=h;exact kk r o) this
theorem _root_.Go.Proofs.Lv.oW.acg{k:Nat}{K:Value→Value→aa→Prop}(h:oW F H A q)(hk:k<A.ns)(kk:∀r o a c,fE F 47 H a (A.E k).length 3 (yY (A.E k))→K (.pointer (some ⟨r,o,none⟩)) (.slice a (A.E k).length c) (hN H)):PU (q_ 1 (.slice q.ea A.ns q.ec) (vn k)) fun p=>ME (jX none p (hN H)) (K p):=by
 obtain⟨evs,h1,h2⟩:=h.e
 obtain⟨a,c,h3,h4⟩:=h2 k hk
 exact h1.Dx hk h3 fun r o=>kk r o a c h4
theorem Ws{b r5:Nat}{la ia ea:Option Addr}{lc ic ec:Nat}{l:List Nat}{mk le:List Bool}(hw:Wf H)(h3:CR H A q r5)(ho:A.Ok)(hl:fE (b≤·) 3 H la l.length 1 (bH l))(hll:l.length≤4000)(hlt:∀t∈l,t<A.ns)
 (bI:Bs b H A.ns (.slice ia A.ns ic) mk)(bE:Bs b H A.nr (.slice ea A.nr ec) le)(hmk:∀t,on mk t↔t∈l)(hcl:∀t∈l,∀e∈A.E t,(e.1=0∨(e.1=2∧on le e.2.1))→e.2.2∈l)
 {x0 x1 x4 x6 x7 aW bT bJ eF bL dL iI:Value}{dI:List (Nat×Value)}{K:Out→Prop}
 (kk:∀x4 bJ eF bL dI H',SH [] H H' []→aR Pg X (sub aI [1,1,1,1,1,1,1,1,1,1]) (aF x0 x1 x4 (pr r5) x6 x7 (.slice la l.length lc) (.slice ia A.ns ic) aW (.slice ea A.nr ec) bT bJ eF bL dL iI dI H') K):
 aR Pg X (sub aI [1,1,1,1,1,1,1,1,1]) (aF x0 x1 x4 (pr r5) x6 x7 (.slice la l.length lc) (.slice ia A.ns ic) aW (.slice ea A.nr ec) bT bJ eF bL dL iI dI H) K:=by
 have hbig:=ho.big
 refine tl ?_
 refine Iv 4 13 14 15 (I:=fun m x4 bJ eF bL H'=>∃i:Nat,bJ=vn i∧i +m=l.length∧SH [] H H' []) ?_ l.length ⟨0,rfl,by omega,SH.refl hw⟩
 rintro m x4 bJ eF bL dI H1 ⟨i,rfl,him,hS⟩
 refine tl ?_
 simp only[PP,Nat.reduceBEq]
 refine ae (fun hc=>?_) (fun hc=>?_)
 rotate_left
 ·exact kk _ _ _ _ _ _ hS
 have hi:i<l.length:=by omega
 have hge:l[i]?.getD 0=l[i]:=by rw[List.getElem?_eq_getElem hi];rfl
 have hin:=List.getElem_mem hi
 have ht:=hlt _ hin
 have hlen:=ho.len l[i]
 refine PE 4 14 15 (I:=fun m x4 eF bL H'=>∃k:Nat,eF=vn k∧k +m=(A.E l[i]).length∧SH [] H H' []) ?_ (A.E l[i]).length ⟨0,rfl,by omega,hS⟩
 clear hS
 rintro m2 x4 eF bL dI H2 ⟨k,rfl,hkm,hS⟩
 have h3':=h3.ex hS.ext
 have hl':=hl.ex hS.ext
 refine tl ?_
 simp only[PP,Nat.reduceBEq]
 refine h3'.n.ld4 ?_
 (try simp only[aj hS.wf])
 refine hl'.Dx hi (iH hi) fun r o=>?_
 rw[hge]
 (try simp only[aj hS.wf])
 refine h3'.m.acg ht fun r2 o2 fa fc hf=>?_
 (try simp only[aj hS.wf])
 simp only[PP,Nat.reduceBEq]
 refine cK (by simp only[oJ,q9,lW]) ?_
 refine ae (fun hc=>?_) (fun hc=>?_)
 rotate_left
 ·refine tl ?_
  refine PU.of (au (by omega) (by omega)) ?_
  exact⟨l.length -(i +1),by omega,_,_,_,_,_,_,rfl,i +1,by rw[show((i:Int) +1)=((i +1:Nat):Int) by omega],by omega,hS⟩
 have hk:k<(A.E l[i]).length:=by omega
 have hmem:=List.getElem_mem hk
 refine h3'.n.ld4 ?_
 (try simp only[aj hS.wf])
 refine hl'.Dx hi (iH hi) fun r o=>?_
 rw[hge]
 (try simp only[aj hS.wf])
 refine h3'.m.acg ht fun r2 o2 fa fc hf=>?_
 (try simp only[aj hS.wf])
 refine fE.adi (H:=hN H2) hf (by omega) hk (F6 (List.getElem?_eq_getElem hk)) fun r4 o4=>?_
 (try simp only[aj hS.wf])
 refine hS.nD fun H3 re hS jC=>?_
 simp only[PP,Nat.reduceBEq,aj hS.wf];refine hS.qh fun Hn hS=>?_
 refine(show∀K:Prop,K→_∧K from fun K hK=>?_) _ ?_
 ·simp only[jC,aA,aB]
  exact ZW rfl (by kernel_rfl) (by kernel_rfl) hK
 generalize hee:(A.E l[i])[k]=e at hmem hS⊢
 have hS:SH [] H (hM (hM H2 H3) Hn) [(re,47,[vn e.1,vn e.2.1,vn e.2.2])]:=hS
 have hok:=(ho.e l[i] ht e hmem).1
 have fin:∀{x4 dI H'},SH [] H H' [(re,47,[vn e.1,vn e.2.1,vn e.2.2])]→∃m,m<m2∧∃(y4 y14 y15:Value)(rg:Rs)(H1:aa),(aF x0 x1 x4 (pr r5) x6 x7 (.slice la l.length lc) (.slice ia A.ns ic) aW (.slice ea A.nr ec) bT (vn i) (vi ((k:Int) +1)) (pr re) dL iI dI H')=(aF x0 x1 y4 (pr r5) x6 x7 (.slice la l.length lc) (.slice ia A.ns ic) aW (.slice ea A.nr ec) bT (vn i) y14 y15 dL iI rg H1)∧∃k:Nat,y14=vn k∧k +m=(A.E l[i]).length∧SH [] H H1 []:=fun hS=>
  ⟨(A.E l[i]).length -(k +1),by omega,_,_,_,_,_,rfl,k +1,by rw[show((k:Int) +1)=((k +1:Nat):Int) by omega],by omega,SH.drop (A:=[_]) hS⟩
 have inn:(e.1=0∨(e.1=2∧on le e.2.1))→∀t,(t=true↔on mk e.2.2)→(!t)=false:=fun h t ht2=>by
  rw[ht2.2 ((hmk _).2 (hcl _ hin e hmem h))];rfl
 refine hS.aZ ?_;simp only[PP,Nat.reduceBEq,aj hS.wf]
 refine ae (fun hc0=>?_) (fun hc0=>?_)
 ·refine hS.aZ ?_
  refine(bI.ex hS.ext).at hok fun p t ht2=>?_
  simp only[PP,Nat.reduceBEq]
  refine aC (fun hb=>by rw[inn (.inl (by omega)) t ht2]at hb;cases hb) (fun _=>?_)
  refine PU.of (au (by omega) (by omega)) ?_
  exact fin hS
 refine hS.aZ ?_;simp only[PP,Nat.reduceBEq,aj hS.wf]
 refine ae (fun hc2=>?_) (fun hc2=>?_)
 ·have hca:=ho.call hmem (by omega)
  refine hS.aZ ?_
  refine(bE.ex hS.ext).at hca fun p t1 ht1=>?_
  simp only[PP,Nat.reduceBEq]
  refine aC (fun hb=>?_) (fun hb=>?_)
  ·refine hS.aZ ?_
   refine(bI.ex hS.ext).at hok fun p t ht2=>?_
   simp only[PP,Nat.reduceBEq]
   refine aC (fun hb2=>by rw[inn (.inr ⟨by omega,ht1.1 hb⟩) t ht2]at hb2;cases hb2) (fun _=>?_)
   refine PU.of (au (by omega) (by omega)) ?_
   exact fin hS
  ·refine PU.of (au (by omega) (by omega)) ?_
   exact fin hS
 ·refine PU.of (au (by omega) (by omega)) ?_
  exact fin hS
end Go.Proofs.Lu
set_option maxRecDepth 100000
set_option maxHeartbeats 4000000
namespace Go.Proofs.Lu
open Go.Ae Go.Ae.M Go.Proofs.Lv
variable{F F':Nat→Prop}{H0 H:aa}{L M:List aK}{S:List Nat}{A:At}{q q':AV}{a a':Option Addr}
theorem Wt{b r5 s:Nat}{ia ea:Option Addr}{ic ec:Nat}{l:List Nat}{mk le:List Bool}(hw:Wf H)(h3:CR H A q r5)(ho:A.Ok)(hs:s<A.ns)(hlf:∀t,t∈l↔A.V3 s t)
 (bI:Bs b H A.ns (.slice ia A.ns ic) mk)(bE:Bs b H A.nr (.slice ea A.nr ec) le)(hmk:∀t,on mk t↔t∈l)(eE:∀r,r<A.nr→(on le r↔A.Mk false (A.S r)))
 {x0 x1 x4 x6 x8 aW bT bJ eF bL dL iI:Value}{dI:List (Nat×Value)}{K:Out→Prop}
 (kk:∀dI,aR Pg X (sub aI [1,1,1,1,1,1,1,1,1,1,1,1]) (aF x0 x1 x4 (pr r5) x6 (vn s) x8 (.slice ia A.ns ic) aW (.slice ea A.nr ec) bT bJ eF bL (vn (A.O s)) iI dI H) K):
 aR Pg X (sub aI [1,1,1,1,1,1,1,1,1,1]) (aF x0 x1 x4 (pr r5) x6 (vn s) x8 (.slice ia A.ns ic) aW (.slice ea A.nr ec) bT bJ eF bL dL iI dI H) K:=by
 have hr:=ho.o s hs
 refine tl ?_
 simp only[PP,Nat.reduceBEq]
 refine h3.ld3 ?_
 refine h3.m.Dg hs fun p=>?_
 refine h3.n.ld1 ?_
 (try simp only[aj hw])
 refine h3.m.ab1 ho hr fun r o=>?_
 (try simp only[aj hw])
 simp only[PP,Nat.reduceBEq]
 refine ae (fun hc=>?_) (fun hc=>?_)
 ·have hst:s=A.S (A.O s):=by omega
  refine h3.n.ld2 ?_
  (try simp only[aj hw])
  refine h3.m.p.Dx hr (iH (by rw[ho.TN];exact hr)) fun r o=>?_
  (try simp only[aj hw])
  refine(bI.n').at (ho.p _ hr).1 fun p1 t1 ht1=>?_
  (try simp only[aj hw])
  refine(bE.n').at hr fun p2 t2 ht2=>?_
  (try simp only[aj hw])
  have e12:t1=t2:=by
   rw[Bool.eq_iff_iff,ht1,ht2,hmk,hlf,eE _ hr,At.O1 ho hr,←hst]
   exact Iff.rfl
  subst e12
  refine PU.of (Pk ..) ?_
  simp only[beq_self_eq_true,Bool.not_true]
  simp only[PP,Nat.reduceBEq]
  refine cK (by simp only[oJ,q9,lW]) ?_
  exact kk _
 ·refine cK (by simp only[oJ,q9,lW]) ?_
  exact kk _
theorem Wu{b r5 s:Nat}{va:Option Addr}{vc:Nat}{lr:List Bool}(hw:Wf H)(h3:CR H A q r5)(ho:A.Ok)(hs:s<A.ns)
 (bR:Bs b H A.nr (.slice va A.nr vc) lr)(hR:Rcd A lr)
 {x0 x1 x4 x6 x8 x9 aW bn bJ eF bL iI:Value}{dI:List (Nat×Value)}{K:Out→Prop}
 (kk:∀x4 iI dI,aR Pg X (sub aI [1,1,1,1,1,1,1,1,1,1,1,1,1]) (aF x0 x1 x4 (pr r5) x6 (vn s) x8 x9 aW bn (.slice va A.nr vc) bJ eF bL (vn (A.O s)) iI dI H) K):
 aR Pg X (sub aI [1,1,1,1,1,1,1,1,1,1,1,1]) (aF x0 x1 x4 (pr r5) x6 (vn s) x8 x9 aW bn (.slice va A.nr vc) bJ eF bL (vn (A.O s)) iI dI H) K:=by
 have hr:=ho.o s hs
 have hlen:=ho.len s
 refine tl ?_
 simp only[PP,Nat.reduceBEq]
 refine h3.ld1 ?_
 refine h3.m.ldS ho hr fun p=>?_
 simp only[PP,Nat.reduceBEq]
 refine ae (fun hc=>?_) (fun hc=>?_)
 rotate_left
 ·refine tl ?_
  exact kk _ _ _
 have hst:s=A.S (A.O s):=by omega
 refine bR.at hr fun p t ht=>?_
 cases t with
 |false=>
  refine tl ?_
  exact kk _ _ _
 |true=>
  have hon:=ht.1 rfl
  refine tl ?_
  refine lp2 4 17 (I:=fun m x4 iI H'=>∃k:Nat,iI=vn k∧k +m=(A.E s).length∧H'=H) ?_ (A.E s).length ⟨0,rfl,by omega,rfl⟩
  rintro m x4 iI dI H1 ⟨k,rfl,hkm,rfl⟩
  refine tl ?_
  simp only[PP,Nat.reduceBEq]
  refine h3.ld4 ?_
  refine h3.m.ldE (Ext.refl _) hs fun p fa fc hf=>?_
  simp only[PP,Nat.reduceBEq]
  refine ae (fun hc=>?_) (fun hc=>?_)
  rotate_left
  ·exact kk _ _ _
  have hk:k<(A.E s).length:=by omega
  have hmem:=List.getElem_mem hk
  refine h3.ld4 ?_
  refine h3.m.ldE (Ext.refl _) hs fun p fa fc hf=>?_
  refine ace (f:=0) hf hk (by omega) rfl fun p p2=>?_
  simp only[PP,Nat.reduceBEq]
  refine ae (fun hc2=>?_) (fun hc2=>?_)
  ·have hk2:(A.E s)[k].1=2:=by omega
   have hca:=ho.call hmem hk2
   refine h3.ld4 ?_
   refine h3.m.ldE (Ext.refl _) hs fun p fa fc hf=>?_
   refine ace (f:=1) hf hk (by omega) rfl fun p p2=>?_
   refine bR.at hca fun p t2 ht2=>?_
   have:t2=true:=ht2.2 (hR.2 _ hr hon _ (by rw[←hst];exact hmem) hk2)
   subst this
   simp only[PP,Nat.reduceBEq]
   refine aC (fun hb=>by cases hb) (fun _=>?_)
   refine PU.of (au (by omega) (by omega)) ?_
   exact⟨(A.E s).length -(k +1),by omega,_,_,_,_,rfl,k +1,by rw[show((k:Int) +1)=((k +1:Nat):Int) by omega],by omega,rfl⟩
  ·refine PU.of (au (by omega) (by omega)) ?_
   exact⟨(A.E s).length -(k +1),by omega,_,_,_,_,rfl,k +1,by rw[show((k:Int) +1)=((k +1:Nat):Int) by omega],by omega,rfl⟩
theorem usefulComes(hw:Wf H)(hT:pM H)(s:ByteArray)(z:Int):ak Pg X 5 [.string s,vi z] H fun v H'=>v=.bool true∧Ext H H':=by
 have hS:=SH.refl hw
 refine ce [0,1,4,5,6,7,8,9,10,11,12,13,14,15,16,17] ?_;refine tl ?_
 refine ak.mono (Ph hw (tX.of hT) s) ?_
 rintro v H1 ⟨⟨x,ok,rfl,hl6,XX,hA⟩,hx1⟩
 have hS:=hS.call hx1
 simp only[PP,Nat.reduceBEq]
 refine hS.ns hl6 rfl XX fun H2 r5 hS hx2=>?_
 refine ae (fun hc=>?_) (fun hc=>?_)
 ·refine tl ?_
  simp only[PP,Nat.reduceBEq]
  subst hc
  refine ae (fun _=>?_) (fun h=>absurd rfl h)
  refine ak.orc (v:=.bool true) (H':=H2) (RD (hT.ex hS.ext)) ?_
  refine rr ?_;exact⟨rfl,hS.ext⟩
 obtain⟨A,q,rfl,hA,ho,adk⟩:=hA hc
 have hS:SH [] H H2 [(r5,26,q.cells A)]:=hS
 have hA:=hA.ex hx2
 have h3:CR H2 A q r5:=⟨hA.wk fun _ _=>trivial,(hS.lo _ (List.mem_of_getElem? (i:=0) rfl)).2,hS.get 0 rfl⟩
 have hns:0<A.ns:=Nat.lt_of_le_of_lt (Nat.zero_le _) (ho.s 0 ho.pos).1
 refine h3.Wl ?_
 refine ak.mono (iX hS.wf q A) ?_
 rintro v H3 ⟨rfl,hx3⟩
 have hS:=hS.call hx3
 simp only[PP,Nat.reduceBEq]
 refine tl ?_
 refine ae (fun hc=>absurd hc (by omega)) (fun _=>?_)
 simp only[PP,Nat.reduceBEq]
 refine tl ?_
 simp only[PP,Nat.reduceBEq]
 obtain⟨r0,e0,h0⟩:=Wp z
 rw[e0]
 have hxa:=hS.ext
 have h3:=h3.ex hx3
 have hT:=hT.ex hxa
 have hw:=hS.wf
 clear hS hA hx1 hx2 hx3
 have hS:=SH.refl hw
 have O3:=ho.few
 have hbig:=ho.big
 refine h3.Wl ?_
 refine ak.mono (iX hw q A) ?_
 rintro v H4 ⟨rfl,hx4⟩
 have hS:=hS.call hx4
 refine PU.of (T7 hns (by omega)) ?_
 have hs:r0 %A.ns<A.ns:=Nat.mod_lt _ hns
 generalize r0 %A.ns=st at hs⊢
 refine(h3.ex hS.ext).Wl ?_
 refine ak.mono (free_spec hS.wf (h3.ex hS.ext).m ho hs) ?_
 rintro v H5 ⟨⟨la,lc,l,rfl,hl,hp,hlf⟩,hx5⟩
 have hS:=hS.call hx5
 have hxb:=hxa.trans hS.ext
 have h3:=h3.ex hS.ext
 have hT:=hT.ex hS.ext
 have hw:=hS.wf
 clear hS hxa hx4 hx5
 have hfo:∀t,A.V3 st t→t<A.ns∧A.O t=A.O st:=fun t ht=>by
  induction ht with
  |base t h=>subst h;exact⟨hs,rfl⟩
  |step t e h he hw ih=>
   obtain⟨g1,g2,_⟩:=ho.e t ih.1 e he
   exact⟨g1,g2.trans ih.2⟩
 have hll:l.length≤A.ns:=T8 hp fun t ht=>(hfo t ((hlf t).1 ht)).1
 have hS:=SH.refl hw
 refine h3.Wl ?_
 refine ak.mono (iX hw q A) ?_
 rintro v H6 ⟨rfl,hx6⟩
 have hS:=hS.call hx6
 refine hS.mkS (Nat.le_refl _) (by omega) fun H7 rc hS=>?_
 rw[gP]at hS
 have hS:SH [] H5 H7 [(rc,4,bools (List.replicate A.ns false))]:=hS.to (by simp)
 refine Wq h3 ho hs hl hp (by omega) (fun t ht=>hfo t ((hlf t).1 ht)) hS fun x4 aW mk dI H8 hS hml hon=>?_
 have bI:Bs 0 H8 A.ns (.slice (some ⟨rc,0,none⟩) A.ns A.ns) mk:=⟨_,_,rfl,hml,fE.one hS (List.mem_cons_self ..) (by simpa using hml) (Nat.zero_le _)⟩
 have hxc:=hxb.trans hS.ext
 have h3:=h3.ex hS.ext
 have hl:=hl.ex hS.ext
 have hT:=hT.ex hS.ext
 have hw:=hS.wf
 clear hS hxb hx6
 have hS:=SH.refl hw
 refine tl ?_
 refine h3.n.Wl ?_
 (try simp only[aj hw])
 refine ak.mono (CP (mP H8) h3.n.m ho) ?_
 rintro v G1 ⟨⟨le,bE,eE⟩,hx1⟩
 have hS:=hS.j4 hx1
 have bE:Bs 0 (hM H8 G1) A.nr v le:=bE.le (Nat.zero_le _)
 refine(h3.ex hS.ext).n.Wl ?_
 (try simp only[aj hS.wf])
 refine ak.mono (Gf (mP _) (h3.ex hS.ext).n.m ho) ?_
 rintro v2 G2 ⟨⟨lr,bR,hR⟩,hx2⟩
 have hS:=hS.j4 hx2
 have bE:=bE.ex hx2.draw
 have bR:Bs 0 (hM (hM H8 G1) G2) A.nr v2 lr:=bR.le (Nat.zero_le _)
 refine(show∀K:Prop,K→_∧K from fun K hK=>?_) _ ?_
 ·exact cK (by simp only[az hx1,az hx2,oJ,q9,AO,lW]) hK
 have h3:=h3.ex hS.ext
 have hl:=hl.ex hS.ext
 have bI:=bI.ex hS.ext
 have hT:=hT.ex hS.ext
 have hxd:=hxc.trans hS.ext
 have hw:=hS.wf
 generalize hM (hM H8 G1) G2=Hb at*
 clear hS hx1 hx2 hxc
 obtain⟨ea,ec,rfl,_⟩:=id bE
 obtain⟨va,vc,rfl,_⟩:=id bR
 refine bI.at hs fun p t ht=>?_
 have:t=true:=ht.2 ((hon _).2 ((hlf _).2 (.base _ rfl)))
 subst this
 simp only[PP,Nat.reduceBEq]
 refine aC (fun hb=>by cases hb) (fun _=>?_)
 refine h3.ld0 ?_
 simp only[PP,Nat.reduceBEq]
 refine aP (fun hc=>absurd trivial hc) (fun _=>?_)
 refine h3.ld0 ?_
 simp only[PP,Nat.reduceBEq]
 refine aP (fun hc=>absurd trivial hc) (fun _=>?_)
 refine(show∀K:Value→Prop,PU (q_ 1 (.slice va A.nr vc) (vn 0)) K→PU (q_ 1 (.slice va A.nr vc) (vi 0)) K from fun K h=>h) _ ?_
 refine bR.at ho.pos fun p t ht=>?_
 have:t=true:=ht.2 hR.1
 subst this
 simp only[PP,Nat.reduceBEq]
 refine aC (fun hb=>by cases hb) (fun _=>?_)
 have hl:=hl.wk (F':=(0≤·)) fun _ _=>Nat.zero_le _
 refine Ws hw h3 ho hl (by omega) (fun t ht=>(hfo t ((hlf t).1 ht)).1) bI bE hon (fun t ht e he h=>(hlf _).2 (.step t e ((hlf t).1 ht) he (h.imp id fun h=>⟨h.1,(eE _ (ho.call he h.1)).1 h.2⟩))) fun x4 bJ eF bL dI Hc hS=>?_
 have h3:=h3.ex hS.ext
 have bI:=bI.ex hS.ext
 have bE:=bE.ex hS.ext
 have bR:=bR.ex hS.ext
 have hT:=hT.ex hS.ext
 have hx:=hxd.trans hS.ext
 have hw:=hS.wf
 clear hS hxd
 refine Wt hw h3 ho hs hlf bI bE hon eE fun dI=>?_
 refine Wu hw h3 ho hs bR hR fun x4 iI dI=>?_
 have hS:=SH.refl hw
 refine tl ?_
 refine h3.n.Wl ?_
 (try simp only[aj hw])
 refine h3.n.Wl ?_
 (try simp only[aj hw])
 refine ak.mono (iX (mP Hc) q A) ?_
 rintro v G1 ⟨rfl,hx1⟩
 have hS:=hS.j4 hx1
 refine ak.mono (O7 (mP _) (h3.ex hS.ext).n.m ho) ?_
 rintro v G2 ⟨rfl,hx2⟩
 have hS:=hS.j4 hx2
 simp only[PP,Nat.reduceBEq]
 refine ae (fun _=>?_) (fun h=>absurd rfl h)
 refine ak.orc (v:=.bool true) (H':=hN (hM (hM Hc G1) G2)) (RD (H:=hN (hM (hM Hc G1) G2)) (by have h:pM (hM (hM Hc G1) G2):=hT.ex hS.ext;exact h)) ?_
 refine(show∀K:Prop,K→_∧K from fun K hK=>?_) _ ?_
 ·exact cK (by simp only[az hx1,az hx2,az (Ext.refl (hN _)),oJ,q9,AO,lW]) hK
 rw[aj hS.wf]
 refine rr ?_;exact⟨rfl,hx.trans hS.ext⟩
end Go.Proofs.Lu
namespace Go.Proofs.YtdkcdlnfeodaaaaGreatDoor
open Go.ChangeShapes Go.WideShapes Go.ChangeAt Go.RowKit
theorem Wv:(Rows.usefulComesRow.wf (OpenSpec.ofChange Rows.usefulComesSpec))=true:=by kernel_rfl
theorem Ww:(laidOutB Tryz.prog)=true:=by kernel_rfl
theorem closed2:(mapsRowed Tryz.prog)=true:=by kernel_rfl
theorem Wx:(Tryz.f5.params.all (Tryz.prog.readableRec ·))=true:=by kernel_rfl
theorem Wy:(namedTie Tryz.prog Rows.usefulComesRow.named Rows.usefulComesSpec.vars)=true:=by kernel_rfl
theorem Wz:((Rows.usefulComesRow.stops==[]))=true:=by kernel_rfl
theorem WA:((Tryz.prog.stops==[]))=true:=by kernel_rfl
theorem WB:((Rows.usefulComesRow.knobs==[]))=true:=by kernel_rfl
theorem WC:((Tryz.prog.stopKnobs==[]))=true:=by kernel_rfl
theorem WG:((Rows.usefulComesRow.inPlace==Tryz.prog.inPlace 5))=true:=by kernel_rfl
theorem Ua:((Rows.usefulComesRow.unfollowed==Tryz.prog.unfollowed 5))=true:=by kernel_rfl
theorem Ub:((Rows.usefulComesRow.recurses==Tryz.prog.recurses 5))=true:=by kernel_rfl
theorem Uc:((Rows.usefulComesRow.named==Tryz.prog.varsNamed 5))=true:=by kernel_rfl
theorem Ud:((Rows.usefulComesRow.maps==(Tryz.f5.params.toList++Rows.usefulComesSpec.plain.varTypes Tryz.prog).any (Tryz.prog.mapsRec ·)))=true:=by kernel_rfl
theorem Ue:((Rows.usefulComesRow.ifaces==(Tryz.f5.params.toList++Rows.usefulComesSpec.plain.varTypes Tryz.prog).any (Tryz.prog.ifacesRec ·)))=true:=by kernel_rfl
theorem Uf:((Rows.usefulComesRow.mapsOut==Tryz.prog.mapsAmong Tryz.f5.resultTypes.toList))=true:=by kernel_rfl
theorem Ug:((Rows.usefulComesRow.loops==(Tryz.f5.params.toList++Rows.usefulComesSpec.plain.varTypes Tryz.prog).any (Tryz.prog.loopsFrom ·)))=true:=by kernel_rfl
theorem Uh:((Rows.usefulComesRow.wideKeys==(Tryz.f5.params.toList++Rows.usefulComesSpec.plain.varTypes Tryz.prog++Tryz.f5.resultTypes.toList).any (Tryz.prog.wideKeysFrom ·)))=true:=by kernel_rfl
theorem Ui:(Rows.usefulComesSpec.vars.all (Tryz.prog.varReadable ·))=true:=by kernel_rfl
theorem Uj:(Tryz.f5.resultTypes.all (fun t=>Tryz.prog.readableRec t&&decide (t<Tryz.prog.types.size)))=true:=by kernel_rfl
theorem Uk:((Rows.usefulComesRow.ifacesOut==Tryz.f5.resultTypes.toList.any (Tryz.prog.ifacesRec ·)))=true:=by kernel_rfl
theorem Ul:((Rows.usefulComesRow.loopsOut==Tryz.f5.resultTypes.toList.any (Tryz.prog.loopsFrom ·)))=true:=by kernel_rfl
theorem Um:((Rows.usefulComesRow.plainKeys==Tryz.prog.plainKeys))=true:=by kernel_rfl
theorem Un:(Rows.usefulComesRow.shortTexts.isNone)=true:=by kernel_rfl
theorem Uo:(Tryz.prog.stopsHeard)=true:=by kernel_rfl
theorem Up:(Tryz.prog.mayEnter)=true:=by kernel_rfl
theorem Uq:((Rows.usefulComesRow.lifted==Tryz.prog.liftsFinal))=true:=by kernel_rfl
theorem Ur:((Tryz.prog.make==some Rows.usefulComesRow.make))=true:=by kernel_rfl
theorem Us:((Rows.usefulComesRow.kinds==(if Rows.usefulComesRow.domain.isEmpty then[]else Tryz.f5.params.toList.map fun t=>match Tryz.prog.underlying t with|some (.int k)=>some k|_=>none)))=true:=by kernel_rfl
theorem Ut:((Rows.usefulComesRow.pinned==Rows.usefulComesRow.pinnedBy))=true:=by kernel_rfl
theorem Uu:((Rows.usefulComesRow.veiled==(Tryz.f5.params.toList++Rows.usefulComesSpec.plain.varTypes Tryz.prog++Tryz.f5.resultTypes.toList).any (Tryz.prog.veiledRec ·)))=true:=by kernel_rfl
theorem Uv:(Rows.usefulComesRow.veiledFits Tryz.prog Tryz.f5.params.toList (Tryz.f5.params.toList++Rows.usefulComesSpec.plain.varTypes Tryz.prog++Tryz.f5.resultTypes.toList))=true:=by kernel_rfl
set_option maxRecDepth 100000 in
theorem closed:joinedFacts Tryz.prog 5 Tryz.f5 Rows.usefulComesSpec Rows.usefulComesRow=true:=by
 unfold joinedFacts
 exact(Bool.and_eq_true_iff.2 ⟨(Bool.and_eq_true_iff.2 ⟨(Bool.and_eq_true_iff.2 ⟨(Bool.and_eq_true_iff.2 ⟨(Bool.and_eq_true_iff.2 ⟨(Bool.and_eq_true_iff.2 ⟨(Bool.and_eq_true_iff.2 ⟨(Bool.and_eq_true_iff.2 ⟨(Bool.and_eq_true_iff.2 ⟨(Bool.and_eq_true_iff.2 ⟨(Bool.and_eq_true_iff.2 ⟨(Bool.and_eq_true_iff.2 ⟨(Bool.and_eq_true_iff.2 ⟨(Bool.and_eq_true_iff.2 ⟨(Bool.and_eq_true_iff.2 ⟨(Bool.and_eq_true_iff.2 ⟨(Bool.and_eq_true_iff.2 ⟨(Bool.and_eq_true_iff.2 ⟨(Bool.and_eq_true_iff.2 ⟨(Bool.and_eq_true_iff.2 ⟨(Bool.and_eq_true_iff.2 ⟨(Bool.and_eq_true_iff.2 ⟨(Bool.and_eq_true_iff.2 ⟨(Bool.and_eq_true_iff.2 ⟨(Bool.and_eq_true_iff.2 ⟨(Bool.and_eq_true_iff.2 ⟨(Bool.and_eq_true_iff.2 ⟨(Bool.and_eq_true_iff.2 ⟨(Bool.and_eq_true_iff.2 ⟨(Bool.and_eq_true_iff.2 ⟨(Bool.and_eq_true_iff.2 ⟨Wv,Ww⟩),closed2⟩),Wx⟩),Wy⟩),Wz⟩),WA⟩),WB⟩),WC⟩),WG⟩),Ua⟩),Ub⟩),Uc⟩),Ud⟩),Ue⟩),Uf⟩),Ug⟩),Uh⟩),Ui⟩),Uj⟩),Uk⟩),Ul⟩),Um⟩),Un⟩),Uo⟩),Up⟩),Uq⟩),Ur⟩),Us⟩),Ut⟩),Uu⟩),Uv⟩)
end Go.Proofs.YtdkcdlnfeodaaaaGreatDoor
set_option maxRecDepth 100000
namespace Go.Proofs.YtdkcdlnfeodaaaaGreatDoor
open Go.Ae Go.Proofs.Lu Go.ChangeShapes Go.WideShapes Go.ChangeAt Go.RowKit Go.Deep
theorem own:ownKnob Tryz.prog.godebug=none:=by kernel_rfl
theorem laidOut:laidOutB Tryz.prog=true:=by kernel_rfl
theorem WH{W:World}(h:laidMetH Tryz.prog Rows.usefulComesRow.laid W):Lu.Laid W:=by
 rw[MakeChecks.laidMetH_plain _ _ _ (by kernel_rfl)]at h
 obtain⟨ps,⟨ga,ta,csa,fa,pa,qa,hga,hta,hva,hda,⟨gb,tb,csb,fb,pb,qb,hgb,htb,hvb,hdb,_⟩,_⟩,_,_⟩:=h
 obtain rfl:=Option.some.inj ((show Tryz.prog.globalNamed "unicode/utf8.acceptRanges" =some 2 by kernel_rfl).symm.trans hga)
 obtain rfl:=Option.some.inj ((show Tryz.prog.globalNamed "unicode/utf8.first" =some 1 by kernel_rfl).symm.trans hgb)
 obtain rfl:=Option.some.inj ((show(Tryz.prog.globals[2]?).map (·.type)=some 285 by kernel_rfl).symm.trans hta)
 obtain rfl:=Option.some.inj ((show(Tryz.prog.globals[1]?).map (·.type)=some 282 by kernel_rfl).symm.trans htb)
 have block:∀{n:String}{g:Nat}{cs:Array Value},Tryz.prog.globalNamed n=some g→W.var? Tryz.prog n=some cs→∃ty fr,W.heap[g]?=some (.cells cs ty fr):=by
  intro n g cs hg hv
  simp only[World.var?,hg,Option.bind_some]at hv
  split at hv
  ·next cs' ty fr hh=>cases hv;exact⟨ty,fr,hh⟩
  ·cases hv
 obtain⟨tya,fra,ba⟩:=block hga hva
 obtain⟨tyb,frb,bb⟩:=block hgb hvb
 refine⟨?_,⟨tyb,csb,frb,bb,S8 hdb⟩,⟨tya,csa,fra,ba,OG hda⟩⟩
 have:=(Array.getElem?_eq_some_iff.1 ba).1
 omega
theorem WI{W:World}(hL:Lu.Laid W)(s:ByteArray)(z:Int):Calls Tryz.prog 5 #[.string s,.int .i64 z] W fun e w'=>e=.returned (.bool true)∧Below W.heap.size W w':=by
 have hwf:Wf (Kh W T0):=Nat.le_refl _
 refine Ov (P:=Tryz.prog) (X:=X) (H:=Kh W T0) (b:=true) (args:=[.string s,.int .i64 z]) hL.size mixed (pX.Fp fns) xs ors Tryz.func5 (by kernel_rfl) ?_ (Nat.le_refl _) (VA fun r o h=>nomatch h) (args':=[.string s,.int .i64 z]) (.cons _ _ _ _ (.sc _ rfl) (.cons _ _ _ _ (.sc _ rfl) .nil))
 exact(usefulComes hwf hL.tabs s z).mono fun v H' h=>⟨h.1,h.2.low _ (Nat.le_refl _) (Nat.le_refl _) fun r h=>nomatch h⟩
theorem lifted(os:Os)(started:os.Started)(H:Type)(enc:TypeId×Value→H):
 ReturnsInHanded {} Tryz.checked os 5 .any (fun w args=>(Rows.usefulComesSpec.pre enc Tryz.prog Tryz.f5 [] false w args∧laidMetH Tryz.prog Rows.usefulComesRow.laid w)∧sizedMet enc Tryz.prog Tryz.f5 (OpenSpec.ofChange Rows.usefulComesSpec) false w args)
  (Rows.usefulComesSpec.post enc Tryz.prog Tryz.f5 false true false false):=by
 refine returnsInHanded_of_change_and (C:=Tryz.checked) (X:=fun w _=>laidMetH Tryz.prog Rows.usefulComesRow.laid w) (fun _ _ _ hh h=>h.of_heap hh) own started (by kernel_rfl) Tryz.func5
  (ChangeSpec.witness_shaped (enc:=enc) (C:=Tryz.checked) (os:=os) (X:=fun w _=>laidMetH Tryz.prog Rows.usefulComesRow.laid w) false (World.laidAll Tryz.prog os Rows.usefulComesRow.laid) #[.string ⟨#[]⟩,.int .i64 0] 8 (World.laidAll_os _ _ _)
   (World.shaped_of_ZipB (by kernel_rfl) (by kernel_rfl)) (by kernel_rfl) (by kernel_rfl) (by kernel_rfl)
   (by rw[MakeChecks.laidMetH_plain _ _ _ (by kernel_rfl)];exact laidMet_laidAll _ (by kernel_rfl) (by kernel_rfl))) ?_
 intro W base args ds gs before hval0 hW _ hwt hL _
 have hval:∀(j:Nat) t v,Tryz.f5.params[j]?=some t→args[j]?=some v→Value.okWide Tryz.prog W .any base t v:=hval0
 have hW':=hW
 obtain⟨p,q,hA0,hV,rfl,_,_⟩:=hW
 have hA:DataW.TrodAll enc Tryz.prog W 0 (fun _=>true) true Tryz.f5.params.toList args.toList ds p:=hA0
 rw[Tryz.params5]at hA hval hwt
 obtain⟨v0,vs0,d0,ds0,p0,q0,hargs,rfl,rfl,h0,r0⟩:=trodAll_cons hA
 obtain⟨v1,vs1,d1,ds1,p1,q1,rfl,rfl,rfl,h1,r1⟩:=trodAll_cons r0
 obtain⟨rfl,rfl,rfl⟩:=trodAll_nil r1
 obtain rfl:args=#[v0,v1]:=by cases args;simp_all
 obtain⟨rfl,rfl⟩:=trodVars_none hV
 simp only[List.append_nil]at hW'
 obtain⟨fuel,hd⟩:=id h0
 obtain⟨s,rfl⟩:=okWide_string Tryz.underlying9 (hval 0 9 v0 rfl rfl)
 obtain⟨z,rfl,rfl,rfl,hz⟩:=open_int Tryz.underlying3 (hval 1 3 v1 rfl rfl) h1
 refine(WI (WH hL) s z).mono fun e W' ⟨he,hb⟩=>?_
 subst he
 have hlt:∀x∈p0,x.block<W.heap.size:=fun x hx=>hW'.lt x (by simpa using hx)
 have g0:DataW.Trod enc Tryz.prog W' 0 (fun b=>decide (b<W.heap.size)) true 9 (.string s) d0 p0:=
  WideElems.Trod_stays laidOut (by kernel_rfl) (of_decide_eq_true (by kernel_rfl)) h0 (fun x hx=>hb.same (hlt x hx)) (fun x hx=>by simpa using hlt x hx)
 have g1:DataW.Trod enc Tryz.prog W' 0 (fun b=>decide (b<W.heap.size)) true 3 (.int .i64 z) (.lit (.int .i64 z)) []:=
  WideElems.Trod_stays laidOut (by kernel_rfl) (of_decide_eq_true (by kernel_rfl)) h1 (fun x hx=>by cases hx) (fun x hx=>by cases hx)
 refine⟨_,rfl,_,_,_,[],p0++([]++[]),[],hW',trodAll_mk1 (shut_bool Tryz.underlying4 _),trodAll_cons_mk g0 (trodAll_cons_mk g1 trodAll_mk0),rfl,?_,fun h=>by cases h⟩
 simp only[List.append_nil]
 refine World.keptBut_mono (fun x hx=>⟨hx,?_⟩) (hb.frame (·∈p0))
 simpa using hx
theorem named:Tryz.pinned.checked.prog.funcNamed Rows.usefulComesRow.func=some 5:=by kernel_rfl
theorem Po:Tryz.f5.isInstance Tryz.pinned.checked.prog Rows.usefulComesRow.origin Rows.usefulComesRow.targs:=of_decide_eq_true (by kernel_rfl)
theorem wrapper:Tryz.f5.isWrapper Tryz.pinned.checked.prog Rows.usefulComesRow.wrapper Rows.usefulComesRow.mainSum:=by
 unfold Func.isWrapper
 first|(rw[if_pos (by decide +kernel)];kernel_rfl)|(rw[if_neg (by decide +kernel)];exact⟨rfl,rfl⟩)
theorem holds:Rows.UsefulComesSaid:=
 OpenClaim.holds_of_wide 5 Tryz.f5 rfl rfl rfl rfl rfl rfl rfl ⟨rfl,rfl,rfl,rfl,rfl⟩ rfl rfl rfl rfl rfl named Tryz.func5 closed Po wrapper (fun os started H enc _=>lifted os started H enc)
theorem WJ:Rows.usefulComesRow.wfByText (OpenSpec.ofChange Rows.usefulComesSpec)=true:=by kernel_rfl
theorem Pp:Tryz.pinned.checked.prog.mainIs=some (true, "32f7528da065070f008ebf890a3bbb37ef6b53503a88d639bc554603bffb0775".toList):=by kernel_rfl
theorem Lh:Tryz.prog.funcNamed "souffleur/souffleurlaw17.UsefulComes" =some 5:=by kernel_rfl
theorem Li:false=Tryz.pinned.checked.prog.looks []:=by kernel_rfl
theorem Lj:([9,3].all fun u=>!Tryz.prog.wantsStandIn u)=true:=by kernel_rfl
theorem Pq:false=Rows.usefulComesRow.goesBy Tryz.pinned.checked.prog:=by kernel_rfl
theorem usefulComes_card:Rows.UsefulComesCardSaid:=
 Claim7.holds_tied_plain_at .later [] [.data,.pinned] true (true, "32f7528da065070f008ebf890a3bbb37ef6b53503a88d639bc554603bffb0775") false holds (fun _ h=>by cases h) WJ (fun _ h=>by cases h) usefulComes_row_tie rfl ⟨rfl,rfl⟩ Pp rfl
  (fun f fn hf hfn=>by
   obtain rfl:f=5:=Option.some.inj (Lh.symm.trans hf)|>.symm
   obtain rfl:fn=Tryz.f5:=(Option.some.inj (Tryz.func5.symm.trans hfn)).symm
   exact⟨Li,fun j t ht=>by
    rw[Tryz.params5]at ht
    have hm:t∈[9,3]:=by simpa using Array.mem_of_getElem? ht
    exact(show Tryz.prog.wantsStandIn t=false by simpa using List.all_eq_true.1 Lj t hm)⟩)
  Pq
#print axioms usefulComes_card
end Go.Proofs.YtdkcdlnfeodaaaaGreatDoor
