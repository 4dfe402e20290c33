/-
  The law UsefulTrims, as a card: whatever text it is given, the call returns true. Conditions: the listed package-level variables begin as the text of the program lays them.
-/
import Derived.Test.YtdkcdlnfeodaaaaGreatDoorZ09
set_option linter.unusedVariables false
set_option linter.unusedSimpArgs false
set_option maxRecDepth 100000
set_option maxHeartbeats 4000000
namespace Go.Proofs.Lu
open Go.Ae Go.Ae.M Go.Proofs.Lv
variable{H0 H:aa}{L M:List aL}{S:List Nat}{K:Nat→Prop}{A:At}{d:WD}
theorem RY.ext{H1:aa}{L':List aL}(h:RY K d S H0 H M L A)(hx:Ext H H1)(hS:SH S H0 H1 (M++L')):RY K d S H0 H1 M L' A:=⟨h.we.stay hx (fun r hr=>nomatch hr),h.nk,h.bd,hS,h.bu,h.ty,h.pos,h.few⟩
theorem RY.own(h:RY K d S H0 H M L A):RY K d (M.map (·.1)) H H M [] A:=⟨h.we,h.nk,h.bd,(SH.own h.sh).cast (List.append_nil M).symm,h.bu,h.ty,h.pos,h.few⟩
theorem RY.fin(h:RY K d S H0 H M L A):SH S H0 H M:=h.sh.sub (List.sublist_append_left M L)
theorem RY.ab8{H1:aa}{r:Nat}{ty:TypeId}{cs:List Value}(h:RY K d S H0 H M [] A)(hS1:SH [] H H1 [(r,ty,cs)]):RY K d S H0 H1 M [(r,ty,cs)] A:=
 h.ext hS1.ext ((SH.frame (M:=[]) (L:=M) h.fin hS1).perm (List.perm_append_comm (l₁:=[_])))
theorem RY.not{r:Nat}(h:RY K d S H0 H M L A)(hr:K r∨∃e∈L,e.1=r):r<H.next∧r∉M.map (·.1):=by
 rcases hr with hr|⟨e,he,rfl⟩
 ·exact⟨h.we.hK r hr,fun hm=>h.nk r hm hr⟩
 ·refine⟨(h.sh.lo e (List.mem_append_right _ he)).2,fun hm=>?_⟩
  obtain⟨x,hx,e2⟩:=List.mem_map.1 hm
  exact h.sh.apart hx he e2
theorem RY.rd{H3:aa}{r o:Nat}{v:Value}{w:Cl}(h:RY K d S H0 H M L A)(hx:kS (M.map (·.1)) (hN H) H3)(hr:K r∨∃e∈L,e.1=r)(hc:H.cell r o=some v)(hs:gK v v=true)(hw:w.a=H∧w.b=H3):gY w ⟨4,r,o,1,hh0,hh0⟩=true:=
 V6 hw hx (h.not hr).1 (h.not hr).2 (aaN hc) (fun v hv=>by rw[List.mem_singleton]at hv;subst hv;exact hs)
theorem RY.keep{H3:aa}{r o:Nat}{v:Value}(h:RY K d S H0 H M L A)(hx:kS (M.map (·.1)) (hN H) H3)(hr:K r∨∃e∈L,e.1=r)(hc:H.cell r o=some v):(hM H H3).cell r o=some v:=
 (jv (H':=hM H H3) (hx.obj r (h.not hr).1 (h.not hr).2) o).trans hc
theorem Gt{l:List Nat}{g:Nat}:gK (.func (.func g) ⟨[]⟩ ⟨l.map pr⟩) (.func (.func g) ⟨[]⟩ ⟨l.map pr⟩)=true:=Sz g fun v hv=>by
 obtain⟨r,_,rfl⟩:=List.mem_map.1 hv
 exact⟨r,rfl⟩
theorem Gu(d:WD):gK d.wv d.wv=true:=Gt (l:=[d.g,d.s,d.w,d.f,d.fe,d.lo,d.p,d.l])
theorem JB(d:WD):gK d.fev d.fev=true:=Gt (l:=[d.p])
theorem WB(d:WD):gK d.pv d.pv=true:=Gt (l:=[d.ra])
theorem adm{F:Nat→Prop}{a:Option Addr}{n c k z:Nat}{zs:List Nat}(h:eX F 3 H a n 1 (bO zs))(hz:zs[k]?=some z)(hk:k<n):∃r o,a=some ⟨r,o,none⟩∧F r∧H.cell r (o +k)=some (vn z)∧sU 1 (.slice a n c) (vn k)=some (.pointer (some ⟨r,o +k,none⟩)):=by
 obtain⟨r,o,h1,h2,h3,o0,rfl,rfl⟩:=h.1.idx (c:=c) (Nat.lt_succ_self 0) hk
 have hc:=h3 0 (vn z) (Nat.lt_succ_self 0) (by rw[Nat.mul_one,Nat.add_zero];exact ny _ hz)
 rw[Nat.mul_one,Nat.add_zero]at hc
 rw[Nat.mul_one]at h1
 exact⟨r,o0,rfl,(h.2 r o0 rfl (by omega)).1,hc,h1⟩
theorem EM{i j z n kc xn xc:Nat}{kd at':Int}{ka xa:Option Addr}{t:ByteArray}(hW:WE K d H)(hi:i<d.nn)(he:El d.bV 5 i=[vi kd,.slice ka n kc,.string t,.slice xa xn xc,vi at'])(hj:(d.zs i)[j]?=some z):∃r o,ka=some ⟨r,o,none⟩∧K r∧H.cell r (o +j)=some (vn z)∧sU 1 (.slice ka n kc) (vn j)=some (.pointer (some ⟨r,o +j,none⟩))∧n=(d.zs i).length:=by
 obtain⟨a,c,t',xa',xn',xc',at2,he2,hf,_⟩:=hW.kid i hi
 rw[he]at he2
 cases he2
 obtain⟨r,o,h1,h2,h3,h4⟩:=adm (c:=kc) hf hj (List.getElem?_eq_some_iff.1 hj).1
 exact⟨r,o,h1,h2,h3,h4,rfl⟩
theorem PN{i z fr kc xn xc:Nat}{kd at':Int}{ka xa:Option Addr}{t:ByteArray}(hwz:Ab K d z)(h:RY K d S H0 H M L A)(hi:i<d.nn)(he:El d.bV 5 i=[vi kd,.slice ka 1 kc,.string t,.slice xa xn xc,vi at'])(hz:(d.zs i)[0]?=some z)(hn:A.ns +(3 +W d.ws z)≤4000)(ht:A.tot +2*(3 +W d.ws z)≤20000)(hf:A.cur fr):
 ak Pg X 159 [.agg ⟨[vi kd,.slice ka 1 kc,.string t,.slice xa xn xc,vi at']⟩,vn fr,pr d.f,pr d.fe,pr d.w] H fun v H'=>∃A' M' to c,v=vn to∧Bd d.ra A' M'∧SH (M.map (·.1)) H H' M'∧At.Gw A A' (3 +W d.ws z) c∧c≤2*(3 +W d.ws z)∧At.Bu d.lw A'∧A'.cur to:=by
 have h:=h.own
 obtain⟨rk,ok,rfl,_⟩:=EM h.we hi he hz
 refine ce [0,1,2,3,4,5,7,8,9,10,11] ?_;refine tl ?_
 refine(SH.refl h.sh.wf).box rfl fun H1 rb hS1=>?_
 have hx1:=hS1.ext
 have h:RY K d (M.map (·.1)) H H1 M [(rb,145,[vi kd,.slice (some ⟨rk,ok,none⟩) 1 kc,.string t,.slice xa xn xc,vi at'])] A:=h.ab8 hS1
 have hm:∀{H' M' A'},RY K d (M.map (·.1)) H H' M' [(rb,145,[vi kd,.slice (some ⟨rk,ok,none⟩) 1 kc,.string t,.slice xa xn xc,vi at'])] A'→H'.cell rb 0=some (vi kd)∧H'.cell rb 1=some (.slice (some ⟨rk,ok,none⟩) 1 kc):=fun h=>by
  have hb:=h.sh.bk _ (List.mem_append_right _ (List.mem_cons_self ..))
  exact⟨hb.cell rfl,hb.cell rfl⟩
 refine ME.ld h.we.f.2 ?_
 refine h.fresh (by omega) fun H2 M2 A1 h g1 c1=>?_
 have hf:=hf.gw g1
 have n1:=g1.ns
 have t1:=g1.tt
 refine ME.ld h.we.fe.2 ?_
 refine h.free hf c1 (by omega) fun _ H3 M3 A2 h g2=>?_
 have g:=g1.trans g2
 have n2:=g2.ns
 have t2:=g2.tt
 refine ME.ld h.we.f.2 ?_
 refine h.fresh (by omega) fun H4 M4 A3 h g3 c3=>?_
 have g:=g.trans g3
 have n3:=g3.ns
 have t3:=g3.tt
 refine ME.ld h.we.f.2 ?_
 refine h.fresh (by omega) fun H5 M5 A4 h g4 c4=>?_
 have g:=g.trans g4
 have n4:=g4.ns
 have t4:=g4.tt
 have cd:=((c1.gw g2).gw g3).gw g4
 have ce:=c3.gw g4
 refine ME.ld h.we.fe.2 ?_
 refine h.free cd c4 (by omega) fun _ H6 M6 A5 h g5=>?_
 have g:=g.trans g5
 have n5:=g5.ns
 have t5:=g5.tt
 have cd:=cd.gw g5
 have ce:=ce.gw g5
 have cb:=c4.gw g5
 simp only[PP,Nat.reduceBEq]
 refine ME.ld (hm h).1 ?_
 simp only[PP,Nat.reduceBEq]
 have tl:∀bk,A5.cur bk→∀{x0 x1 bW},aS Pg X (sub FU [1,1,1,1,1,1,1,1]) (Dw x0 x1 (pr d.f) (pr d.fe) (pr d.w) (pr rb) (vi 0) (vn A.ns) (vn A2.ns) (vn A3.ns) (vn bk) bW H6) (cB Pg [.tmp 7] fun v H'=>∃A' M' to c,v=vn to∧Bd d.ra A' M'∧SH (M.map (·.1)) H H' M'∧At.Gw A A' (3 +W d.ws z) c∧c≤2*(3 +W d.ws z)∧At.Bu d.lw A'∧A'.cur to):=by
  intro bk cbk x0 x1 bW
  refine tl ?_
  refine ME.ld (H:=hN H6) h.we.fe.2 ?_
  simp only[aj h.sh.wf]
  refine ME.ld (H:=hN H6) h.we.w.2 ?_
  simp only[aj h.sh.wf,PP]
  refine ME.ld (H:=hN H6) (hm h).2 ?_
  simp only[aj h.sh.wf]
  obtain⟨rk',ok',e1,hKr,hkc,hid,_⟩:=EM h.we hi he hz
  cases e1
  refine PU.of hid ?_
  refine ME.ld (H:=hN H6) hkc ?_
  simp only[aj h.sh.wf]
  have h6:=h
  refine h.Z' hwz (by omega) (by omega) cb fun to H7 M7 A7 c7 h g7 b7 cto hx7=>?_
  have n7:=g7.ns
  have t7:=g7.tt
  have g:=g.trans g7
  refine h.YC cto (cbk.gw g7) (by omega) fun v8 H8 M8 A8 h8 g8 DJ=>?_
  have n8:=g8.ns
  have t8:=g8.tt
  have g:=g.trans g8
  refine(show∀K:Prop,K→_∧K from fun Kz hK=>?_) _ ?_
  ·have rd:∀{r o v},(K r∨∃e∈[((rb,145,[vi kd,.slice (some ⟨rk,ok,none⟩) 1 kc,.string t,.slice xa xn xc,vi at']):aL)],e.1=r)→H6.cell r o=some v→gK v v=true→∀w:Cl,((w.a=H6∧w.b=H7)∨(w.a=hM H6 H7∧w.b=H8))→gY w ⟨4,r,o,1,hh0,hh0⟩=true:=by
    intro r o v hr hc hs w hw
    rcases hw with hw|hw
    ·exact h6.rd hx7 hr hc hs hw
    ·exact h.rd DJ hr (h6.keep hx7 hr hc) hs hw
   have r1:=rd (.inl h6.we.fe.1) h6.we.fe.2 (JB d)
   have r2:=rd (.inl h6.we.w.1) h6.we.w.2 (Gu d)
   have r3:=rd (.inr ⟨_,List.mem_cons_self ..,rfl⟩) (hm h6).2 (kI _ _ _ fun x h=>by cases h;rfl)
   have r4:=rd (.inl hKr) hkc (qf _ _)
   simp only[aA]
   rcases tK H6 H7 with e|e<;>rw[e]<;>rcases tK (hM H6 H7) H8 with e|e<;>rw[e]<;>apply FT (T:=fun w=>(w.a=H6∧w.b=H7)∨(w.a=hM H6 H7∧w.b=H8)) (by kernel_rfl) (by kernel_rfl) hK<;>repeat' apply And.intro
   all_goals first|exact trivial|(intro h;cases h;done)|exact fun _=>.inl ⟨rfl,rfl⟩|exact fun _=>.inr ⟨rfl,rfl⟩|exact fun _=>r1|exact fun _=>r2|exact fun _=>r3|exact fun _=>r4
  refine ME.ld h8.we.fe.2 ?_
  refine h8.free ((cd.gw g7).gw g8) ((ce.gw g7).gw g8) (by omega) fun _ H9 M9 A9 h9 g9=>?_
  have g:=g.trans g9
  have n9:=g9.ns
  have t9:=g9.tt
  refine rr ?_;exact⟨A9,M9,A2.ns,_,rfl,h9.bd,(h9.sh.sub (List.sublist_append_left M9 _)),g.cast (by omega) rfl,by omega,h9.bu,((ce.gw g7).gw g8).gw g9⟩
 refine ah (fun hc=>?_) (fun hc=>?_)
 ·exact tl _ cd
 ·exact tl _ ce
end Go.Proofs.Lu
set_option maxRecDepth 100000
set_option maxHeartbeats 4000000
namespace Go.Proofs.Lu
open Go.Ae Go.Ae.M Go.Proofs.Lv
variable{H0 H:aa}{L M:List aL}{S:List Nat}{K:Nat→Prop}{A:At}{d:WD}
theorem EN{ws:List Nat}{kd:Int}{l:List Nat}{k z:Nat}(hz:l[k]?=some z):h_ ws kd (l.take (k +1))=h_ ws kd (l.take k) +(W ws z +Au kd):=by
 unfold h_
 rw[List.take_add_one,hz]
 show(List.map _ (_++[_])).sum=_
 rw[List.map_append,List.sum_append]
 rfl
theorem NP(ws:List Nat)(kd:Int)(l:List Nat)(k:Nat):h_ ws kd (l.take k)≤h_ ws kd l:=by
 have:h_ ws kd l=h_ ws kd (l.take k) +h_ ws kd (l.drop k):=by
  unfold h_
  rw[←List.sum_append,←List.map_append,List.take_append_drop]
 omega
structure WQ(d:WD):Prop where
 nn:d.nn≤4000
 sz:∀j,j<d.nn→yh d.kd d.zs d.ws j
 lf:∀j,j<d.nn→kN d.tn d.lw (El d.lcs 3 j)
theorem WE.ko{z:Nat}{Kp:Value→Value→aa→Prop}(hW:WE K d H)(hz:z<d.nn)(kk:∀p,Kp p (vn (W d.ws z)) H):PU (sU 1 (.slice (some ⟨d.rs,0,none⟩) d.nn d.nn) (vn z)) fun p=>ME (Go.Ae.ko none p H) (Kp p):=by
 have hl:d.ws.length=d.nn:=by have:=hW.st.1.1;simpa using this
 refine hW.st.ix hz ?_ kk
 rw[List.getElem?_map,List.getElem?_eq_getElem (show z<d.ws.length by omega)]
 show _=some (vn (d.ws[z]?.getD 0))
 rw[List.getElem?_eq_getElem (show z<d.ws.length by omega)];rfl
theorem Up{i fr rb:Nat}{cs:List Value}(hQ:WQ d)(h:RY K d (M.map (·.1)) H0 H M [(rb,145,cs)] A)(hi:i<d.nn)(hn:A.ns +1≤4000)(ht:A.tot +2≤20000)(hf:A.cur fr){bP bA bI cr gQ iI x20 i_ zR qh x24 x25 x32 Df pI x38 U3 U4 x66:Value}{bW:List (Nat×Value)}{Q:Value→aa→Prop}
 (kk:∀A' M' to c H',Bd d.ra A' M'→SH (M.map (·.1)) H0 H' M'→At.Gw A A' 1 c→c≤2→At.Bu d.lw A'→A'.cur to→Q (vn to) H'):
 aS Pg X (sub dQ [1,1,1]) (jP (vn i) (vn fr) (pr d.g) (pr d.s) (pr d.w) (pr d.f) (pr d.fe) (pr d.lo) (pr d.p) (pr d.l) bP bA bI cr gQ iI x20 i_ zR qh x24 x25 x32 Df pI x38 U3 U4 x66 bW H) (cB Pg [.tmp 12] Q):=by
 refine tl ?_
 refine ME.ld h.we.f.2 ?_
 refine h.fresh (by omega) fun H1 M1 A1 h g1 c1=>?_
 have n1:=g1.ns
 have t1:=g1.tt
 refine ME.ld (H:=hN H1) h.we.p.2 ?_
 simp only[aj h.sh.wf]
 refine ME.ld (H:=hN H1) h.we.l.2 ?_
 simp only[aj h.sh.wf]
 obtain⟨r,o,e1,e2,e3,o0,e4,_⟩:=h.we.lf.1.idx (c:=d.nn) (by omega) hi
 cases e4
 obtain⟨k1,a1,hle,hlp⟩:=hQ.lf i hi
 have cell:∀f x,f<3→[vn k1,vn a1,vn 0][f]?=some x→H1.cell d.rl (o +f)=some x:=fun f x hf3 hx=>by
  refine e3 f x hf3 ?_
  have:=congrArg (fun l=>l[f]?) hle
  simp only[je,if_pos hf3]at this
  rw[this];exact hx
 have hKl:K d.rl:=(h.we.lf.2 d.rl 0 rfl (by omega)).1
 refine PU.of e1 ?_
 simp only[PP,Nat.reduceBEq]
 refine ME.ld (H:=hN H1) (by have:=cell 0 _ (by omega) rfl;rwa [Nat.add_zero]at this) ?_
 simp only[aj h.sh.wf]
 refine ME.ld (H:=hN H1) h.we.l.2 ?_
 simp only[aj h.sh.wf]
 refine PU.of e1 ?_
 simp only[PP,Nat.reduceBEq]
 refine ME.ld (H:=hN H1) (cell 1 _ (by omega) rfl) ?_
 simp only[aj h.sh.wf]
 refine PU.b3 rfl ?_
 have h1:=h
 refine h.adl (e:=(k1,a1,A.ns)) (hf.gw g1) c1 (by
  unfold At.YB
  rw[h.ty]
  rcases hlp with hlp|⟨p1,p2⟩|⟨p1,p2⟩
  ·exact .inl hlp
  ·exact .inr (.inl ⟨p1,p2⟩)
  ·exact .inr (.inr ⟨p1,p2⟩)) (by omega) fun v H2 M2 A2 h g2 hx2=>?_
 have n2:=g2.ns
 have t2:=g2.tt
 refine(show∀K:Prop,K→_∧K from fun Kz hK=>?_) _ ?_
 ·have rd:∀{r o v},K r→H1.cell r o=some v→gK v v=true→∀w:Cl,(w.a=H1∧w.b=H2)→gY w ⟨4,r,o,1,hh0,hh0⟩=true:=fun hr hc hs w hw=>h1.rd hx2 (.inl hr) hc hs hw
  have r1:=rd h1.we.p.1 h1.we.p.2 (WB d)
  have r2:=rd h1.we.l.1 h1.we.l.2 (kI _ _ _ fun x h=>by cases h;rfl)
  have r3:=rd hKl (by have:=cell 0 _ (by omega) rfl;rwa [Nat.add_zero]at this) (qf _ _)
  have r4:=rd hKl (cell 1 _ (by omega) rfl) (qf _ _)
  simp only[aA]
  rcases tK H1 H2 with e|e<;>rw[e]<;>apply FT (T:=fun w=>w.a=H1∧w.b=H2) (by kernel_rfl) (by kernel_rfl) hK<;>repeat' apply And.intro
  all_goals first|exact trivial|(intro h;cases h;done)|exact fun _=>⟨rfl,rfl⟩|exact fun _=>r1|exact fun _=>r2|exact fun _=>r3|exact fun _=>r4
 refine rr ?_;exact(kk A2 M2 A.ns _ _ h.bd (h.sh.sub (List.sublist_append_left M2 _)) (g1.trans g2) (by omega) h.bu (c1.gw g2))
end Go.Proofs.Lu
set_option maxRecDepth 100000
set_option maxHeartbeats 4000000
namespace Go.Proofs.Lu
open Go.Ae Go.Ae.M Go.Proofs.Lv
variable{H0 H:aa}{L M:List aL}{S:List Nat}{K:Nat→Prop}{A:At}{d:WD}
theorem NF.row{F:Nat→Prop}{nn i:Nat}{bV:List Value}{kd:Nat→Int}{zs:Nat→List Nat}(h:NF F H nn bV kd zs)(hi:i<nn):∃(a:Option Addr)(c:Nat)(t:ByteArray)(xa:Option Addr)(xn xc:Nat)(at':Int),El bV 5 i=[vi (kd i),.slice a (zs i).length c,.string t,.slice xa xn xc,vi at']∧CF (kd i) (zs i).length∧(∀z∈zs i,z<i)∧(zs i).length≤20001:=let⟨a,c,t,xa,xn,xc,at',h1,_,h3,h4,_,h6⟩:=h i hi;⟨a,c,t,xa,xn,xc,at',h1,h3,h4,h6⟩
section
variable{i fr rb kc xn xc:Nat}{at':Int}{ka xa:Option Addr}{t:ByteArray}{Q:Value→aa→Prop}
theorem WC(hQ:WQ d)(ih:∀z,z<i→Ab K d z)(h:RY K d (M.map (·.1)) H0 H M [(rb,145,[vi (d.kd i),.slice ka (d.zs i).length kc,.string t,.slice xa xn xc,vi at'])] A)(hi:i<d.nn)(h1:d.kd i=1)(he:El d.bV 5 i=[vi (d.kd i),.slice ka (d.zs i).length kc,.string t,.slice xa xn xc,vi at'])(hz:∀z∈d.zs i,z<i)(hzl:(d.zs i).length≤20001)
 (hn:A.ns +h_ d.ws (d.kd i) (d.zs i)≤4000)(ht:A.tot +2*h_ d.ws (d.kd i) (d.zs i)≤20000)(hf:A.cur fr){bP bI cr gQ iI x20 i_ zR qh x24 x25 x32 U3 U4 x66:Value}{bW:List (Nat×Value)}
 (kk:∀A' M' to c H',Bd d.ra A' M'→SH (M.map (·.1)) H0 H' M'→At.Gw A A' (h_ d.ws (d.kd i) (d.zs i)) c→c≤2*h_ d.ws (d.kd i) (d.zs i)→At.Bu d.lw A'→A'.cur to→Q (vn to) H'):
 aS Pg X (.loop (sub dQ [1,1,0,1,0,1,0,0,1,0,0])) (jP (vn i) (vn fr) (pr d.g) (pr d.s) (pr d.w) (pr d.f) (pr d.fe) (pr d.lo) (pr d.p) (pr d.l) bP (pr rb) bI cr gQ iI x20 i_ zR qh x24 x25 x32 (.slice ka (d.zs i).length kc) (vn (d.zs i).length) (vn 0) U3 U4 x66 bW H) (iq 1 (kP Pg X (sub dQ [1,1,0,1,0,1,0,1]) (iq 0 (kP Pg X (sub dQ [1,1,1]) (cB Pg [.tmp 12] Q))))):=by
 have hal:Au (d.kd i)=0:=by unfold Au;rw[if_neg (by omega)]
 refine JE 1 15 38 (I:=fun m x1 bI x38 H'=>∃k fk A' M' c,x38=vn k∧k +m=(d.zs i).length∧x1=vn fk∧RY K d (M.map (·.1)) H0 H' M' [(rb,145,[vi (d.kd i),.slice ka (d.zs i).length kc,.string t,.slice xa xn xc,vi at'])] A'∧At.Gw A A' (h_ d.ws (d.kd i) ((d.zs i).take k)) c∧c≤2*h_ d.ws (d.kd i) ((d.zs i).take k)∧A'.cur fk) ?_ (d.zs i).length ⟨0,fr,A,M,0,rfl,by omega,rfl,h,(At.Gw.refl A).cast (by simp[h_]) rfl,Nat.zero_le _,hf⟩
 clear h hf
 rintro m x1 bI x38 bW H1 ⟨k,fk,A1,M1,c,rfl,hkm,rfl,h,g,hc,hf⟩
 refine tl ?_
 simp only[PP,Nat.reduceBEq]
 refine ah (fun hc2=>?_) (fun hc2=>?_)
 rotate_left
 ·obtain rfl:k=(d.zs i).length:=by omega
  rw[List.take_length]at g hc
  refine tl ?_
  simp only[PP,Nat.reduceBEq]
  refine rr ?_;exact(kk A1 M1 fk c H1 h.bd (h.sh.sub (List.sublist_append_left M1 _)) g hc h.bu hf)
 have hk:k<(d.zs i).length:=by omega
 have Om:(d.zs i)[k]?=some (d.zs i)[k]:=List.getElem?_eq_getElem hk
 have hzi:=hz _ (List.getElem_mem hk)
 generalize(d.zs i)[k]=z at Om hzi
 have hks:=EN (ws:=d.ws) (kd:=d.kd i) Om
 have hkl:=NP d.ws (d.kd i) (d.zs i) (k +1)
 have n1:=g.ns
 have t1:=g.tt
 obtain⟨r,o,rfl,hKr,hcell,hid,_⟩:=EM h.we hi he Om
 refine PU.of hid ?_
 refine ME.ld hcell ?_
 refine ME.ld h.we.s.2 ?_
 refine h.we.ko (by omega) fun p=>?_
 simp only[PP,Nat.reduceBEq]
 refine ah (fun hc3=>?_) (fun hc3=>?_)
 ·refine ME.ld h.we.w.2 ?_
  refine h.way (ih z hzi) (by omega) (by omega) hf fun to H2 M2 A2 c2 h g2 hc2' hto=>?_
  refine PU.of (au (by omega) (by omega)) ?_
  exact⟨(d.zs i).length -(k +1),by omega,_,_,_,_,_,rfl,k +1,to,A2,M2,c +c2,by rw[show((k:Int) +1)=((k +1:Nat):Int) by omega],by omega,rfl,h,(g.trans g2).cast (by omega) rfl,by omega,hto⟩
 ·refine PU.of (au (by omega) (by omega)) ?_
  exact⟨(d.zs i).length -(k +1),by omega,_,_,_,_,_,rfl,k +1,fk,A1,M1,c,by rw[show((k:Int) +1)=((k +1:Nat):Int) by omega],by omega,rfl,h,g.cast (by omega) rfl,by omega,hf⟩
theorem WG{d0 e0:Nat}(hQ:WQ d)(ih:∀z,z<i→Ab K d z){A1:At}{c1:Nat}{M1:List aL}(h:RY K d (M.map (·.1)) H0 H M1 [(rb,145,[vi (d.kd i),.slice ka (d.zs i).length kc,.string t,.slice xa xn xc,vi at'])] A1)(g1:At.Gw A A1 2 c1)(hc1:c1≤1)(hd0:A1.cur d0)(he0:A1.cur e0)(hi:i<d.nn)(h1:d.kd i=0)(he:El d.bV 5 i=[vi (d.kd i),.slice ka (d.zs i).length kc,.string t,.slice xa xn xc,vi at'])(hz:∀z∈d.zs i,z<i)(hzl:(d.zs i).length≤20001)
 (hn:A.ns +(2 +h_ d.ws (d.kd i) (d.zs i))≤4000)(ht:A.tot +2*(2 +h_ d.ws (d.kd i) (d.zs i))≤20000){x1 bP bA bI iI x20 i_ zR qh x24 x25 x32 Df pI x38:Value}{bW:List (Nat×Value)}{Q:Value→aa→Prop}
 (kk:∀A' M' to c H',Bd d.ra A' M'→SH (M.map (·.1)) H0 H' M'→At.Gw A A' (2 +h_ d.ws (d.kd i) (d.zs i)) c→c≤2*(2 +h_ d.ws (d.kd i) (d.zs i))→At.Bu d.lw A'→A'.cur to→Q (vn to) H'):
 aS Pg X (.loop (sub dQ [1,1,0,1,0,1,1,1,0,1,1,1,0,1,0,0])) (jP (vn i) x1 (pr d.g) (pr d.s) (pr d.w) (pr d.f) (pr d.fe) (pr d.lo) (pr d.p) (pr d.l) bP bA bI (vn d0) (vn e0) iI x20 i_ zR qh x24 x25 x32 Df pI x38 (.slice ka (d.zs i).length kc) (vn (d.zs i).length) (vn 0) bW H) (iq 3 (kP Pg X (sub dQ [1,1,0,1,0,1,1,1,0,1,1,1,1]) (iq 0 (kP Pg X (sub dQ [1,1,1]) (cB Pg [.tmp 12] Q))))):=by
 have hal:Au (d.kd i)=1:=by unfold Au;rw[if_pos h1]
 refine JE 19 20 66 (I:=fun m iI x20 x66 H'=>∃k A' M' c,x66=vn k∧k +m=(d.zs i).length∧RY K d (M.map (·.1)) H0 H' M' [(rb,145,[vi (d.kd i),.slice ka (d.zs i).length kc,.string t,.slice xa xn xc,vi at'])] A'∧At.Gw A A' (2 +h_ d.ws (d.kd i) ((d.zs i).take k)) c∧c +3≤2*(2 +h_ d.ws (d.kd i) ((d.zs i).take k))∧A'.cur d0∧A'.cur e0) ?_ (d.zs i).length ⟨0,A1,M1,c1,rfl,by omega,h,g1.cast (by simp[h_]) rfl,by omega,hd0,he0⟩
 clear h hd0 he0 g1 hc1
 rintro m iI x20 x66 bW H1 ⟨k,A2,M2,c,rfl,hkm,h,g,hc,hd0,he0⟩
 refine tl ?_
 simp only[PP,Nat.reduceBEq]
 refine ah (fun hc2=>?_) (fun hc2=>?_)
 rotate_left
 ·obtain rfl:k=(d.zs i).length:=by omega
  rw[List.take_length]at g hc
  refine tl ?_
  simp only[PP,Nat.reduceBEq]
  refine rr ?_;exact(kk A2 M2 e0 c H1 h.bd (h.sh.sub (List.sublist_append_left M2 _)) g (by omega) h.bu he0)
 have hk:k<(d.zs i).length:=by omega
 have Om:(d.zs i)[k]?=some (d.zs i)[k]:=List.getElem?_eq_getElem hk
 have hzi:=hz _ (List.getElem_mem hk)
 generalize(d.zs i)[k]=z at Om hzi
 have hks:=EN (ws:=d.ws) (kd:=d.kd i) Om
 have hkl:=NP d.ws (d.kd i) (d.zs i) (k +1)
 have n1:=g.ns
 have t1:=g.tt
 obtain⟨r,o,rfl,hKr,hcell,hid,_⟩:=EM h.we hi he Om
 refine PU.of hid ?_
 refine ME.ld hcell ?_
 refine ME.ld h.we.f.2 ?_
 refine h.fresh (by omega) fun H2 M2 A3 h g3 cb=>?_
 have n3:=g3.ns
 have t3:=g3.tt
 have g:=g.trans g3
 have hd0:=hd0.gw g3
 have he0:=he0.gw g3
 refine ME.ld h.we.fe.2 ?_
 refine h.free hd0 cb (by omega) fun _ H3 M3 A4 h g4=>?_
 have n4:=g4.ns
 have t4:=g4.tt
 have g:=g.trans g4
 have hd0:=hd0.gw g4
 have he0:=he0.gw g4
 have cb:=cb.gw g4
 refine ME.ld (H:=hN H3) h.we.fe.2 ?_
 simp only[aj h.sh.wf]
 refine ME.ld (H:=hN H3) h.we.w.2 ?_
 simp only[aj h.sh.wf]
 have h6:=h
 refine h.Z' (ih z hzi) (by omega) (by omega) cb fun to H4 M4 A5 c5 h g5 b5 cto hx4=>?_
 have n5:=g5.ns
 have t5:=g5.tt
 have g:=g.trans g5
 have hd0:=hd0.gw g5
 have he0:=he0.gw g5
 refine h.YC cto he0 (by omega) fun v5 H5 M5 A6 h8 g6 hx5=>?_
 have n6:=g6.ns
 have t6:=g6.tt
 have g:=g.trans g6
 refine(show∀K:Prop,K→_∧K from fun Kz hK=>?_) _ ?_
 ·have rd:∀{r o v},K r→H3.cell r o=some v→gK v v=true→∀w:Cl,((w.a=H3∧w.b=H4)∨(w.a=hM H3 H4∧w.b=H5))→gY w ⟨4,r,o,1,hh0,hh0⟩=true:=by
   intro r o v hr hc hs w hw
   rcases hw with hw|hw
   ·exact h6.rd hx4 (.inl hr) hc hs hw
   ·exact h.rd hx5 (.inl hr) (h6.keep hx4 (.inl hr) hc) hs hw
  have r1:=rd h6.we.fe.1 h6.we.fe.2 (JB d)
  have r2:=rd h6.we.w.1 h6.we.w.2 (Gu d)
  simp only[aA]
  rcases tK H3 H4 with e|e<;>rw[e]<;>rcases tK (hM H3 H4) H5 with e|e<;>rw[e]<;>apply FT (T:=fun w=>(w.a=H3∧w.b=H4)∨(w.a=hM H3 H4∧w.b=H5)) (by kernel_rfl) (by kernel_rfl) hK<;>repeat' apply And.intro
  all_goals first|exact trivial|(intro h;cases h;done)|exact fun _=>.inl ⟨rfl,rfl⟩|exact fun _=>.inr ⟨rfl,rfl⟩|exact fun _=>r1|exact fun _=>r2
 refine PU.of (au (by omega) (by omega)) ?_
 exact⟨(d.zs i).length -(k +1),by omega,_,_,_,_,_,rfl,k +1,A6,M5,_,by rw[show((k:Int) +1)=((k +1:Nat):Int) by omega],by omega,h8,g.cast (by omega) rfl,by omega,hd0.gw g6,he0.gw g6⟩
end
end Go.Proofs.Lu
set_option maxRecDepth 100000
set_option maxHeartbeats 4000000
namespace Go.Proofs.Lu
open Go.Ae Go.Ae.M Go.Proofs.Lv
variable{H0 H:aa}{L M:List aL}{S:List Nat}{K:Nat→Prop}{A:At}{d:WD}
theorem Uq{i z fr rb kc xn xc:Nat}{at':Int}{ka xa:Option Addr}{t:ByteArray}(hwz:Ab K d z)(h:RY K d (M.map (·.1)) H0 H M [(rb,145,[vi (d.kd i),.slice ka 1 kc,.string t,.slice xa xn xc,vi at'])] A)(hi:i<d.nn)(h4:d.kd i=4)(he:El d.bV 5 i=[vi (d.kd i),.slice ka 1 kc,.string t,.slice xa xn xc,vi at'])(hz:(d.zs i)[0]?=some z)
 (hn:A.ns +(3 +W d.ws z)≤4000)(ht:A.tot +2*(3 +W d.ws z)≤20000)(hf:A.cur fr){bP bI cr gQ iI x20 i_ zR qh x24 x25 Df pI x38 U3 U4 x66:Value}{bW:List (Nat×Value)}{Q:Value→aa→Prop}(hlk:Ag bW 85=.bool false)
 (kk:∀A' M' to c H',Bd d.ra A' M'→SH (M.map (·.1)) H0 H' M'→At.Gw A A' (3 +W d.ws z) c→c≤2*(3 +W d.ws z)→At.Bu d.lw A'→A'.cur to→Q (vn to) H'):
 aS Pg X (sub dQ [1,1,0,1,0,1,1,1,1,1]) (jP (vn i) (vn fr) (pr d.g) (pr d.s) (pr d.w) (pr d.f) (pr d.fe) (pr d.lo) (pr d.p) (pr d.l) bP (pr rb) bI cr gQ iI x20 i_ zR qh x24 x25 (vi (d.kd i)) Df pI x38 U3 U4 x66 bW H) (iq 0 (kP Pg X (sub dQ [1,1,1]) (cB Pg [.tmp 12] Q))):=by
 obtain⟨rk,ok,rfl,_⟩:=EM h.we hi he hz
 have hm:∀{H' M' A'},RY K d (M.map (·.1)) H0 H' M' [(rb,145,[vi (d.kd i),.slice (some ⟨rk,ok,none⟩) 1 kc,.string t,.slice xa xn xc,vi at'])] A'→H'.cell rb 1=some (.slice (some ⟨rk,ok,none⟩) 1 kc):=fun h=>by
  have hb:=h.sh.bk _ (List.mem_append_right _ (List.mem_cons_self ..))
  exact hb.cell rfl
 refine tl ?_
 rw[hlk]
 simp only[PP,Nat.reduceBEq]
 refine ah (fun _=>?_) (fun hc=>absurd h4 hc)
 refine ME.ld h.we.f.2 ?_
 refine h.fresh (by omega) fun H1 M1 A1 h g1 cb=>?_
 have n1:=g1.ns
 have t1:=g1.tt
 refine ME.ld h.we.fe.2 ?_
 refine h.free (hf.gw g1) cb (by omega) fun _ H2 M2 A2 h g2=>?_
 have n2:=g2.ns
 have t2:=g2.tt
 have g:=g1.trans g2
 have cb:=cb.gw g2
 refine ME.ld (H:=hN H2) h.we.w.2 ?_
 simp only[aj h.sh.wf,PP]
 have hmc:=hm h
 refine ME.ld (H:=hN H2) hmc ?_
 simp only[aj h.sh.wf]
 obtain⟨rk',ok',e1,hKr,hkc,hid,_⟩:=EM h.we hi he hz
 cases e1
 refine PU.of hid ?_
 refine ME.ld (H:=hN H2) hkc ?_
 simp only[aj h.sh.wf]
 have h6:=h
 refine h.Z' hwz (by omega) (by omega) cb fun la H3 M3 A3 c3 h g3 b3 cl hx3=>?_
 have n3:=g3.ns
 have t3:=g3.tt
 have g:=g.trans g3
 have cb:=cb.gw g3
 refine(show∀K:Prop,K→_∧K from fun Kz hK=>?_) _ ?_
 ·have rd:∀{r o v},(K r∨∃e∈[((rb,145,[vi (d.kd i),.slice (some ⟨rk,ok,none⟩) 1 kc,.string t,.slice xa xn xc,vi at']):aL)],e.1=r)→H2.cell r o=some v→gK v v=true→∀w:Cl,(w.a=H2∧w.b=H3)→gY w ⟨4,r,o,1,hh0,hh0⟩=true:=fun hr hc hs w hw=>h6.rd hx3 hr hc hs hw
  have r2:=rd (.inl h6.we.w.1) h6.we.w.2 (Gu d)
  have r3:=rd (.inr ⟨_,List.mem_cons_self ..,rfl⟩) (hm h6) (kI _ _ _ fun x h=>by cases h;rfl)
  have r4:=rd (.inl hKr) hkc (qf _ _)
  simp only[aA]
  rcases tK H2 H3 with e|e<;>rw[e]<;>apply FT (T:=fun w=>w.a=H2∧w.b=H3) (by kernel_rfl) (by kernel_rfl) hK<;>repeat' apply And.intro
  all_goals first|exact trivial|(intro h;cases h;done)|exact fun _=>⟨rfl,rfl⟩|exact fun _=>r2|exact fun _=>r3|exact fun _=>r4
 refine ME.ld h.we.f.2 ?_
 refine h.fresh (by omega) fun H4 M4 A4 h g4 cd=>?_
 have n4:=g4.ns
 have t4:=g4.tt
 have g:=g.trans g4
 have cl:=cl.gw g4
 have cb:=cb.gw g4
 refine ME.ld h.we.fe.2 ?_
 refine h.free cl cd (by omega) fun _ H5 M5 A5 h g5=>?_
 have n5:=g5.ns
 have t5:=g5.tt
 have g:=g.trans g5
 have cd:=cd.gw g5
 have cb:=cb.gw g5
 refine ME.ld h.we.fe.2 ?_
 refine h.free cd cb (by omega) fun _ H6 M6 A6 h g6=>?_
 have n6:=g6.ns
 have t6:=g6.tt
 have g:=g.trans g6
 have cd:=cd.gw g6
 refine ME.ld h.we.f.2 ?_
 refine h.fresh (by omega) fun H7 M7 A7 h g7 ce=>?_
 have n7:=g7.ns
 have t7:=g7.tt
 have g:=g.trans g7
 have cd:=cd.gw g7
 refine ME.ld h.we.fe.2 ?_
 refine h.free cd ce (by omega) fun _ H8 M8 A8 h g8=>?_
 have n8:=g8.ns
 have t8:=g8.tt
 have g:=g.trans g8
 refine rr ?_;exact(kk A8 M8 A6.ns _ _ h.bd (h.sh.sub (List.sublist_append_left M8 _)) (g.cast (by omega) rfl) (by omega) h.bu (ce.gw g8))
theorem Z_(hQ:WQ d):∀i,i<d.nn→Ab K d i:=by
 intro i
 induction i using Nat.strongRecOn with
 |ind i ih=>
  intro hi S H0 H M L A fr h hn ht hf
  have h:=h.own
  obtain⟨ka,kc,t,xa,xn,xc,at',he,hfit,hz,hzl⟩:=h.we.kid.row hi
  have ih:∀z,z<i→Ab K d z:=fun z hz=>ih z hz (by omega)
  have hsz:=hQ.sz i hi
  unfold yh at hsz
  have hW:W d.ws i=wU (d.kd i) +h_ d.ws (d.kd i) (d.zs i):=by omega
  refine ce [0,1,2,3,4,5,6,7,8,9,12,13,15,16,17,19,20,21,22,23,24,25,32,36,37,38,64,65,66] ?_;refine tl ?_
  simp only[PP,Nat.reduceBEq]
  refine ME.ld h.we.g.2 ?_
  refine h.we.nd.ixN (by omega) hi he fun p=>?_
  refine(SH.refl h.sh.wf).ns rfl rfl rfl fun H1 rb hS1 _=>?_
  have h:RY K d (M.map (·.1)) H H1 M [(rb,145,[vi (d.kd i),.slice ka (d.zs i).length kc,.string t,.slice xa xn xc,vi at'])] A:=h.ab8 hS1
  have hm:∀{H' M' A'},RY K d (M.map (·.1)) H H' M' [(rb,145,[vi (d.kd i),.slice ka (d.zs i).length kc,.string t,.slice xa xn xc,vi at'])] A'→Bk H' rb 145 [vi (d.kd i),.slice ka (d.zs i).length kc,.string t,.slice xa xn xc,vi at']:=fun h=>h.sh.bk _ (List.mem_append_right _ (List.mem_cons_self ..))
  simp only[PP,Nat.reduceBEq]
  refine ME.ld ((hm h).cell (o:=0) rfl) ?_
  simp only[PP,Nat.reduceBEq]
  have fin:∀A' M' to c H',Bd d.ra A' M'→SH (M.map (·.1)) H H' M'→At.Gw A A' (W d.ws i) c→c≤2*W d.ws i→At.Bu d.lw A'→A'.cur to→Z9 d i A M H (vn to) H':=fun A' M' to c H' a1 a2 a3 a4 a5 a6=>⟨A',M',to,c,rfl,a1,a2,a3,a4,a5,a6⟩
  refine ah (fun h1=>?_) (fun h1=>?_)
  ·refine ME.ld ((hm h).cell (o:=1) rfl) ?_
   simp only[PP,Nat.reduceBEq]
   have hb:wU (d.kd i)=0:=by unfold wU;rw[if_neg (by omega),if_pos h1]
   have e:W d.ws i=h_ d.ws (d.kd i) (d.zs i):=by omega
   rw[e]at fin
   exact WC hQ ih h hi h1 he hz hzl (by omega) (by omega) hf fin
  refine ah (fun h0=>?_) (fun h0=>?_)
  ·have hb:wU (d.kd i)=2:=by unfold wU;rw[if_pos h0]
   have e:W d.ws i=2 +h_ d.ws (d.kd i) (d.zs i):=by omega
   rw[e]at fin
   refine ME.ld h.we.f.2 ?_
   refine h.fresh (by omega) fun H2 M2 A2 h g2 cd=>?_
   have n2:=g2.ns
   have t2:=g2.tt
   refine ME.ld h.we.fe.2 ?_
   refine h.free (hf.gw g2) cd (by omega) fun _ H3 M3 A3 h g3=>?_
   have n3:=g3.ns
   have t3:=g3.tt
   have g:=g2.trans g3
   refine ME.ld h.we.f.2 ?_
   refine h.fresh (by omega) fun H4 M4 A4 h g4 ce=>?_
   have n4:=g4.ns
   have t4:=g4.tt
   have g:=g.trans g4
   refine ME.ld ((hm h).cell (o:=1) rfl) ?_
   simp only[PP,Nat.reduceBEq]
   exact WG hQ ih h g (by omega) ((cd.gw g3).gw g4) ce hi h0 he hz hzl (by omega) (by omega) fin
  have three:(d.kd i=2∨d.kd i=3∨d.kd i=4)→∃z,d.zs i=[z]∧z<i∧W d.ws i=3 +W d.ws z:=fun hk=>by
   have hl:(d.zs i).length=1:=by rcases hfit with h|h|h|h<;>omega
   obtain⟨z,hz1⟩:=List.length_eq_one_iff.1 hl
   refine⟨z,hz1,hz z (by rw[hz1];simp),?_⟩
   rw[hW,hz1]
   have hb:wU (d.kd i)=3:=by unfold wU;rw[if_neg (by omega),if_neg (by omega),if_pos hk]
   have ha:Au (d.kd i)=0:=by unfold Au;rw[if_neg (by omega)]
   unfold h_
   simp[hb,ha]
  have one:¬(d.kd i=2∨d.kd i=3∨d.kd i=4)→W d.ws i=1:=fun hk=>by
   have hl:(d.zs i).length=0:=by rcases hfit with h|h|h|h<;>omega
   have hz0:=List.length_eq_zero_iff.1 hl
   rw[hW,hz0]
   have hb:wU (d.kd i)=1:=by unfold wU;rw[if_neg (by omega),if_neg (by omega),if_neg hk]
   rw[hb];rfl
  have loop:∀{bP bI cr gQ iI x20 i_ zR qh x24 x25 Df pI x38 U3 U4 x66:Value}{bW:List (Nat×Value)},(d.kd i=2∨d.kd i=3)→Ag bW 85=.bool true→aS Pg X (sub dQ [1,1,0,1,0,1,1,1,1,1]) (jP (vn i) (vn fr) (pr d.g) (pr d.s) (pr d.w) (pr d.f) (pr d.fe) (pr d.lo) (pr d.p) (pr d.l) bP (pr rb) bI cr gQ iI x20 i_ zR qh x24 x25 (vi (d.kd i)) Df pI x38 U3 U4 x66 bW H1) (iq 0 (kP Pg X (sub dQ [1,1,1]) (cB Pg [.tmp 12] (Z9 d i A M H)))):=by
   intro bP bI cr gQ iI x20 i_ zR qh x24 x25 Df pI x38 U3 U4 x66 bW hk hlk
   obtain⟨z,hz1,hzi,e⟩:=three (by omega)
   rw[e]at fin hn ht
   have hz0:(d.zs i)[0]?=some z:=by rw[hz1];rfl
   have hl:(d.zs i).length=1:=by rw[hz1];rfl
   refine tl ?_
   rw[hlk]
   simp only[PP,Nat.reduceBEq]
   refine ME.ld h.we.lo.2 ?_
   refine ME.sW ((hm h).read (o:=0) (n:=5) (by show 0 +5≤5;omega)) ?_
   show ak Pg X 159 [.agg ⟨[vi (d.kd i),.slice ka (d.zs i).length kc,.string t,.slice xa xn xc,vi at']⟩,vn fr,pr d.f,pr d.fe,pr d.w] H1 _
   rw[hl]at he⊢
   refine ak.mono (PN (ih z hzi) h hi he hz0 hn ht hf) ?_
   rintro v H2 ⟨A',M',to,c,rfl,b1,b2,b3,b4,b5,b6⟩
   refine rr ?_;refine(fin A' M' to c H2 b1 ?_ b3 b4 b5 b6)
   exact(SH.frame h.sh b2).sub (List.sublist_append_left M' _)
  refine ah (fun h2=>?_) (fun h2=>?_)
  ·exact loop (.inl h2) (by show Value.bool (decide (d.kd i=2))=_;rw[decide_eq_true h2])
  by_cases h3:d.kd i=3
  ·exact loop (.inr h3) (by show Value.bool (decide (d.kd i=3))=_;rw[decide_eq_true h3])
  by_cases h4:d.kd i=4
  ·obtain⟨z,hz1,hzi,e⟩:=three (by omega)
   rw[e]at fin hn ht
   have hz0:(d.zs i)[0]?=some z:=by rw[hz1];rfl
   have hl:(d.zs i).length=1:=by rw[hz1];rfl
   rw[hl]at he h
   exact Uq (ih z hzi) h hi h4 he hz0 hn ht hf (by show Value.bool (decide (d.kd i=3))=_;rw[decide_eq_false h3]) fin
  ·have e:=one (by omega)
   rw[e]at fin hn ht
   refine tl ?_
   simp only[PP,Nat.reduceBEq]
   refine ah (fun hc=>absurd hc h3) (fun _=>?_)
   refine ah (fun hc=>absurd hc h4) (fun _=>?_)
   exact Up hQ h hi hn ht hf fin
end Go.Proofs.Lu
set_option maxRecDepth 100000
set_option maxHeartbeats 4000000
namespace Go.Proofs.Lu
open Go.Ae Go.Ae.M Go.Proofs.Lv
variable{H0 H:aa}{L M:List aL}{S:List Nat}{K:Nat→Prop}{A:At}{d:WD}
theorem PO(hw:Wf H){ra na:Option Addr}{rn rc nn nc:Nat}{lv sv:Value}{rb:Nat}(hl:∃a n c,lv=.slice a n c)(hs:∃a n c,sv=.slice a n c):ak Pg X 120 [gV ra rn rc na nn nc,lv,sv,.func (.func 118) ⟨[]⟩ ⟨[pr rb]⟩,.func (.func 119) ⟨[]⟩ ⟨[pr rb]⟩] H fun v H'=>∃g s w f fe lo p l,v=.func (.func 160) ⟨[]⟩ ⟨[pr g,pr s,pr w,pr f,pr fe,pr lo,pr p,pr l]⟩∧Ext H H'∧(∀r∈[g,s,w,f,fe,lo,p,l],H.next≤r∧r<H'.next)∧H'.cell g 1=some (.slice na nn nc)∧H'.cell s 0=some sv∧H'.cell w 0=some v∧H'.cell f 0=some (.func (.func 118) ⟨[]⟩ ⟨[pr rb]⟩)∧H'.cell fe 0=some (.func (.func 158) ⟨[]⟩ ⟨[pr p]⟩)∧H'.cell lo 0=some (.func (.func 159) ⟨[]⟩ ⟨[pr f,pr fe,pr w]⟩)∧H'.cell p 0=some (.func (.func 119) ⟨[]⟩ ⟨[pr rb]⟩)∧H'.cell l 0=some lv:=by
 obtain⟨la,ln,lc,rfl⟩:=hl
 obtain⟨sa,sn,sc,rfl⟩:=hs
 have hS:=SH.refl hw
 refine ce [0,1,2,3,4,5,6,7,8,9,10,11,12,13] ?_;refine tl ?_
 refine hS.box rfl fun H1 g hS=>?_
 refine hS.box rfl fun H2 l hS=>?_
 refine hS.box rfl fun H3 s hS=>?_
 refine hS.box rfl fun H4 f hS=>?_
 refine hS.box rfl fun H5 p hS=>?_
 refine hS.dh fun H6 fe hS=>?_
 refine hS.iX fun Hn hS=>?_
 refine hS.dh fun H7 w hS=>?_
 refine hS.dh fun H8 lo hS=>?_
 repeat(first|(refine hS.aZ ?_)|(refine hS.iX fun Hn hS=>?_))
 refine rr ?_;refine⟨g,s,w,f,fe,lo,p,l,rfl,hS.ext,?_,(hS.get 7 rfl).cell rfl,(hS.get 5 rfl).cell rfl,(hS.get 1 rfl).cell rfl,(hS.get 4 rfl).cell rfl,(hS.get 2 rfl).cell rfl,(hS.get 0 rfl).cell rfl,(hS.get 3 rfl).cell rfl,(hS.get 6 rfl).cell rfl⟩
 intro r hr
 simp only[List.mem_cons,List.mem_nil_iff,or_false]at hr
 rcases hr with rfl|rfl|rfl|rfl|rfl|rfl|rfl|rfl
 ·exact⟨hS.ym (List.mem_of_getElem? (i:=7) rfl),(hS.lo _ (List.mem_of_getElem? (i:=7) rfl)).2⟩
 ·exact⟨hS.ym (List.mem_of_getElem? (i:=5) rfl),(hS.lo _ (List.mem_of_getElem? (i:=5) rfl)).2⟩
 ·exact⟨hS.ym (List.mem_of_getElem? (i:=1) rfl),(hS.lo _ (List.mem_of_getElem? (i:=1) rfl)).2⟩
 ·exact⟨hS.ym (List.mem_of_getElem? (i:=4) rfl),(hS.lo _ (List.mem_of_getElem? (i:=4) rfl)).2⟩
 ·exact⟨hS.ym (List.mem_of_getElem? (i:=2) rfl),(hS.lo _ (List.mem_of_getElem? (i:=2) rfl)).2⟩
 ·exact⟨hS.ym (List.mem_of_getElem? (i:=0) rfl),(hS.lo _ (List.mem_of_getElem? (i:=0) rfl)).2⟩
 ·exact⟨hS.ym (List.mem_of_getElem? (i:=3) rfl),(hS.lo _ (List.mem_of_getElem? (i:=3) rfl)).2⟩
 ·exact⟨hS.ym (List.mem_of_getElem? (i:=6) rfl),(hS.lo _ (List.mem_of_getElem? (i:=6) rfl)).2⟩
theorem Bd.name{ra:Nat}{nm:ByteArray}(hB:Bd ra A M)(hS:SH S H0 H (M++L))(hn:A.nr≤1000):∃v,H.cell ra 0=some v∧∀{Kp:Value→Value→Value→aa→Prop},(∀w v' u H' M',Bd ra (A.ru nm) M'→SH (M.map (·.1)) H H' M'→Kp w v' u H')→
 ME (bS 9 [.string ⟨#[]⟩] 1 1 [(0,.string nm)] H) fun w H1=>ME (wR 9 1 v w H1) fun v2 H2=>ME (Af 1 (pr ra) v2 H2) fun u H3=>Kp w v2 u H3:=by
 have hS:=SH.own hS
 obtain⟨nv,sv,pv,ov,ev,evs,gn,gs,gp,go,ge,R,rfl,hgn,hgs,JA,hgo,hge,hR⟩:=hB
 refine⟨nv,(hS.get 0 rfl).cell rfl,fun{Kp} kk=>?_⟩
 refine hgn.push (hS.perm (bH [_] gn _)) (by omega) rfl rfl rfl rfl rfl (by omega) (by rw[List.length_map];unfold At.nr at hn;omega) fun w v' H1 ZC ab9 hS=>?_
 have hS:=hS.perm (bH ZC [(ra,26,[nv,sv,pv,ov,ev,vn A.ty])] _)
 obtain⟨na',nc',rfl⟩:=ab9.Fg
 refine hS.st 0 rfl rfl (by show 0 +1≤6;omega) rfl fun H2 hS=>?_
 refine kk _ _ _ H2 _ ⟨_,sv,pv,ov,ev,evs,ZC,gs,gp,go,ge,R,rfl,?_,hgs,JA,hgo,hge,hR⟩ hS
 have:(A.ru nm).nm.map Value.string=A.nm.map Value.string++ay (.string nm):=by show(A.nm++[nm]).map Value.string=_;simp;rfl
 rw[this];exact ab9
end Go.Proofs.Lu
set_option maxRecDepth 100000
set_option maxHeartbeats 4000000
namespace Go.Proofs.Lu
open Go.Ae Go.Ae.M Go.Proofs.Lv
variable{H0 H:aa}{L M:List aL}{S:List Nat}{K:Nat→Prop}{A:At}{d:WD}
theorem _root_.Go.Ae.GB.same{ty:TypeId}{es:Nat}{v:Value}{cs:List Value}{gb:List aL}(h:GB ty es v cs gb):gK v v=true:=by
 rcases h with⟨rfl,_⟩|⟨r,n,aO,rfl,_⟩
 ·exact kI _ _ _ fun x h=>by cases h
 ·exact kI _ _ _ fun x h=>by cases h;rfl
theorem RY.put{e:Ed}{a:Nat}{Kp:Value→aa→Prop}(h:RY K d S H0 H M L A)(ha:A.cur a)(hb:A.cur e.2.2)(he:At.YB d.lw A.ty e)(ht:A.tot≤1000000)(kk:∀v H' M' A',RY K d S H0 H' M' L A'→At.Gw A A' 0 1→Kp v H'):eY Pg X (Db d.pv) [vn a,.agg ⟨[vn e.1,vn e.2.1,vn e.2.2]⟩] H Kp:=by
 show ak Pg X 119 [vn a,_,pr d.ra] H Kp
 refine ak.mono (Gs (e:=e) h.bd h.sh ha.1 h.bu.o9 ht) ?_
 rintro v H' ⟨M',h1,h2⟩
 exact kk v H' M' _ (h.step h1 h2 (At.Gw.pu h.bu.o9 ha.1 _) (h.bu.puC ha hb he)) (At.Gw.pu h.bu.o9 ha.1 _)
structure RZ(K:Nat→Prop)(d:WD)(S:List Nat)(H0 H:aa)(M L:List aL)(A:At):Prop where
 we:WE K d H
 nk:∀r∈M.map (·.1),¬K r
 bd:Bd d.ra A M
 sh:SH S H0 H (M++L)
 bs:At.Bs' d.lw A
 ty:A.ty=d.tn
 few:A.nr≤120
 tt:A.tot≤2*A.ns
theorem RZ.ext{H1:aa}{L':List aL}(h:RZ K d S H0 H M L A)(hx:Ext H H1)(hS:SH S H0 H1 (M++L')):RZ K d S H0 H1 M L' A:=⟨h.we.stay hx (fun r hr=>nomatch hr),h.nk,h.bd,hS,h.bs,h.ty,h.few,h.tt⟩
theorem RZ.nks{H':aa}{M':List aL}(h:RZ K d S H0 H M L A)(hS:SH (M.map (·.1)) H H' M'):∀r∈M'.map (·.1),¬K r:=fun r hr hk=>by
 obtain⟨e,he,rfl⟩:=List.mem_map.1 hr
 rcases(hS.lo e he).1 with h1|h1
 ·exact h.nk _ h1 hk
 ·have:=h.we.hK _ hk;omega
theorem RY.ends{a b:Nat}(h:RY K d S H0 H M L A)(hl:A.st.length≤1000)(hl2:A.sp.length≤1000){O:Array Oper}{Kp:Value→aa→Value→aa→Value→aa→Value→aa→Value→aa→Value→aa→Value→aa→Value→aa→Prop}
 (hO:O=opsOf (sub tL [1,1,1,1,1,0,1,0,0,1,1,0,0,1,1,1,1,0]))
 (kk:∀v1 Gv v2 JC v3 LJ v4 PR v5 Ur v6 WH v7 H45 v8 H48 M',RY K d S H0 (hM (hM (hM (hM (hM (hM (hM (hM H Gv) JC) LJ) PR) Ur) WH) H45) H48) M' L (A.se a b)→Kp v1 Gv v2 JC v3 LJ v4 PR v5 Ur v6 WH v7 H45 v8 H48):
 ME (ko none (.pointer (some ⟨d.ra,1,none⟩)) (hN H)) fun v32 Gv=>
 ME (bS 3 [(Value.int .i64 0)] 1 1 [(0,vn a)] (hN (hM H Gv))) fun v34 JC=>
 ME (wR 3 1 v32 v34 (hN (hM (hM H Gv) JC))) fun v36 LJ=>
 ME (ko none (.pointer (some ⟨d.ra,2,none⟩)) (hN (hM (hM (hM H Gv) JC) LJ))) fun v39 PR=>
 ME (bS 3 [(Value.int .i64 0)] 1 1 [(0,vn b)] (hN (hM (hM (hM (hM H Gv) JC) LJ) PR))) fun v41 Ur=>
 ME (wR 3 1 v39 v41 (hN (hM (hM (hM (hM (hM H Gv) JC) LJ) PR) Ur))) fun v43 WH=>
 ME (Af 1 (.pointer (some ⟨d.ra,1,none⟩)) v36 (hN (hM (hM (hM (hM (hM (hM H Gv) JC) LJ) PR) Ur) WH))) fun u46 H45=>
 ME (Af 1 (.pointer (some ⟨d.ra,2,none⟩)) v43 (hN (hM (hM (hM (hM (hM (hM (hM H Gv) JC) LJ) PR) Ur) WH) H45))) fun u49 H48=>
 bY O [(clS (.pointer (some ⟨d.ra,2,none⟩)) v43 (hM (hM (hM (hM (hM (hM (hM H Gv) JC) LJ) PR) Ur) WH) H45) H48),(cl 0),(clS (.pointer (some ⟨d.ra,1,none⟩)) v36 (hM (hM (hM (hM (hM (hM H Gv) JC) LJ) PR) Ur) WH) H45),(cl 0),(FL (hM (hM (hM (hM (hM H Gv) JC) LJ) PR) Ur) WH),(OX (hM (hM (hM (hM H Gv) JC) LJ) PR) Ur),(cl 0),(Xx 1 (.pointer (some ⟨d.ra,2,none⟩)) (hM (hM (hM H Gv) JC) LJ) PR),(cl 0),(FL (hM (hM H Gv) JC) LJ),(OX (hM H Gv) JC),(cl 0),(Xx 1 (.pointer (some ⟨d.ra,1,none⟩)) H Gv),(cl 0)]=true∧Kp v32 Gv v34 JC v36 LJ v39 PR v41 Ur v43 WH u46 H45 u49 H48:=by
 subst hO
 have hS0:=SH.own h.sh
 obtain⟨nv,sv,pv,ov,ev,evs,gn,gs,gp,go,ge,R,rfl,hgn,hgs,JA,hgo,hge,hR⟩:=id h.bd
 have hS:=hS0.perm (L':=(d.ra,26,[nv,sv,pv,ov,ev,vn A.ty])::(gs++(gp++(gn++(go++(ge++R)))))) (by
  have p1:=bH gn gs (gp++(go++(ge++R)))
  have p2:=bH gn gp (go++(ge++R))
  exact(p1.trans (List.Perm.append_left gs p2)).cons _)
 refine hS.iW ?_
 simp only[aj hS.wf]
 refine hS.U1 rfl rfl rfl (by omega) fun H1 rx hS jE=>?_
 have hX1:=hS.get 1 rfl
 have hS:=(hS.to (cs':=[vn a]) rfl).perm ((bH [_] gs _).cons _)
 refine hgs.FN hS (by omega) rfl rfl (by rw[List.length_map];omega) fun v' H2 gs' hgs' hS _ _ hc1=>?_
 have hS:=hS.perm (bH gs' [_] _)
 simp only[List.cons_append,List.nil_append]at hS
 have hY1:=(hS.get 0 rfl).f_ (H':=H2) rfl
 generalize hz1:hM (hM H H1) H2=Z1 at hS⊢
 have hwZ:=hS.wf
 refine hS.iW ?_
 simp only[aj hS.wf]
 refine hS.U1 rfl rfl rfl (by omega) fun H3 ry hS mH=>?_
 have hX2:=hS.get 1 rfl
 have hS:=(hS.to (cs':=[vn b]) rfl).perm (L':=(ry,3,[vn b])::(gp++((d.ra,26,[nv,sv,pv,ov,ev,vn A.ty])::(gs'++(gn++(go++(ge++R))))))) (by
  have:=bH ((d.ra,26,[nv,sv,pv,ov,ev,vn A.ty])::gs') gp (gn++(go++(ge++R)))
  exact this.cons _)
 refine JA.FN hS (by omega) rfl rfl (by rw[List.length_map];omega) fun w' H4 gp' acd hS _ _ hc2=>?_
 have hS:=hS.perm (List.perm_middle)
 have hY2:=(hS.get 0 rfl).f_ (H':=H4) rfl
 obtain⟨va,vc,rfl⟩:=hgs'.Fg
 obtain⟨wa,wc,rfl⟩:=acd.Fg
 refine hS.qc fun H5 hS=>?_
 have hS:=hS.to (cs':=[nv,.slice va (bO A.st++[vn a]).length vc,pv,ov,ev,vn A.ty]) rfl
 refine hS.qc fun H6 hS=>?_
 have hS:=hS.to (cs':=[nv,.slice va (bO A.st++[vn a]).length vc,.slice wa (bO A.sp++[vn b]).length wc,ov,ev,vn A.ty]) rfl
 refine(show∀K:Prop,K→_∧K from fun Kz hK=>?_) _ ?_
 ·have sm:∀{o},(o=1∨o=2)→∀v∈(([nv,sv,pv,ov,ev,vn A.ty]:List Value).drop o).take 1,gK v v=true:=fun ho v hv=>by
   rcases ho with rfl|rfl
   ·have hv:v∈[sv]:=hv
    rw[List.mem_singleton]at hv
    subst hv;exact hgs.same
   ·have hv:v∈[pv]:=hv
    rw[List.mem_singleton]at hv
    subst hv;exact JA.same
  have rd:∀{o},(o=1∨o=2)→∀w:Cl,((w.a=hM H H1∧w.b=H2)∨(w.a=hM Z1 H3∧w.b=H4))→gY w ⟨4,d.ra,o,1,hh0,hh0⟩=true:=fun{o} ho w hw=>by
   have hle:o +1≤6:=by omega
   unfold gY
   rcases hw with hw|hw
   ·rw[hw.1,hw.2]
    exact uN (hX1.read hle) (hY1.read hle) (qg (sm ho))
   ·rw[hw.1,hw.2]
    exact uN (hX2.read hle) (hY2.read hle) (qg (sm ho))
  have r1:=rd (.inl rfl)
  have r2:=rd (.inr rfl)
  simp only[jE,mH,aA,aC]
  generalize d.ra=ra at r1 r2⊢
  rcases hc1 with e|e<;>rw[e]<;>rcases hc2 with e|e<;>rw[e]<;>apply V5 (a:=ra) (T:=fun w=>(w.a=hM H H1∧w.b=H2)∨(w.a=hM Z1 H3∧w.b=H4)) (by rfl) (by kernel_rfl) (by kernel_rfl) hK<;>repeat' apply And.intro
  all_goals first|exact trivial|(intro h;cases h;done)|exact fun _=>.inl ⟨rfl,rfl⟩|exact fun _=>.inr ⟨rfl,rfl⟩|exact fun _=>r1|exact fun _=>r2
 have hS:=hS.perm (L':=(d.ra,26,[nv,.slice va (bO A.st++[vn a]).length vc,.slice wa (bO A.sp++[vn b]).length wc,ov,ev,vn A.ty])::(gn++(gs'++(gp'++(go++(ge++R)))))) (by
  refine List.Perm.cons _ ?_
  have p1:=bH (gp'++gs') gn (go++(ge++R))
  have p2:=bH gp' gs' (go++(ge++R))
  simp only[List.append_assoc]at p1
  exact p1.trans (List.Perm.append_left gn p2))
 have hB:Bd d.ra (A.se a b) ((d.ra,26,[nv,.slice va (bO A.st++[vn a]).length vc,.slice wa (bO A.sp++[vn b]).length wc,ov,ev,vn A.ty])::(gn++(gs'++(gp'++(go++(ge++R)))))):=⟨nv,_,_,ov,ev,evs,gn,gs',gp',go,ge,R,rfl,hgn,by
  have:bO (A.se a b).st=bO A.st++ay (vn a):=by show bO (A.st++[a])=_;simp;rfl
  rw[this];exact hgs',by
  have:bO (A.se a b).sp=bO A.sp++ay (vn b):=by show bO (A.sp++[b])=_;simp;rfl
  rw[this];exact acd,hgo,hge,hR⟩
 have hnk:∀{M':List aL}{H':aa},SH ((((d.ra,26,[nv,sv,pv,ov,ev,vn A.ty])::(gn++(gs++(gp++(go++(ge++R))))):List aL).map (·.1))) H H' M'→∀r∈M'.map (·.1),¬K r:=fun hS r hr hk=>by
  obtain⟨e,he,rfl⟩:=List.mem_map.1 hr
  rcases(hS.lo e he).1 with h1|h1
  ·exact h.nk _ h1 hk
  ·have:=h.we.hK _ hk;omega
 have hY:RY K d S H0 _ ((d.ra,26,[nv,.slice va (bO A.st++[vn a]).length vc,.slice wa (bO A.sp++[vn b]).length wc,ov,ev,vn A.ty])::(gn++(gs'++(gp'++(go++(ge++R)))))) L (A.se a b):=⟨h.we.stay hS.ext h.nk,hnk hS,hB,SH.frame h.sh hS,⟨h.bu.o9,h.bu.o,h.bu.e⟩,h.ty,h.pos,h.few⟩
 refine kk _ _ _ _ _ _ _ _ _ _ _ _ _ _ _ _ ((d.ra,26,[nv,.slice va (bO A.st++[vn a]).length vc,.slice wa (bO A.sp++[vn b]).length wc,ov,ev,vn A.ty])::(gn++(gs'++(gp'++(go++(ge++R)))))) ?_
 rw[aj h.sh.wf,hz1,aj hwZ]
 exact hY
end Go.Proofs.Lu
set_option maxRecDepth 100000
set_option maxHeartbeats 4000000
namespace Go.Proofs.Lu
open Go.Ae Go.Ae.M Go.Proofs.Lv
variable{H0 H:aa}{L M:List aL}{S:List Nat}{K:Nat→Prop}{A:At}{d:WD}
theorem _root_.Go.Ae.eX.within{F F':Nat→Prop}{ty:TypeId}{a:Option Addr}{n es:Nat}{cs:List Value}(h:eX F ty H a n es cs)(hF:∀r,r<H.next→F' r):eX F' ty H a n es cs:=⟨h.1,fun r o e hn=>let⟨_,h2,h3⟩:=h.2 r o e hn;⟨hF r h2,h2,h3⟩⟩
theorem NF.within{F F':Nat→Prop}{nn:Nat}{bV:List Value}{kd:Nat→Int}{zs:Nat→List Nat}(h:NF F H nn bV kd zs)(hF:∀r,r<H.next→F' r):NF F' H nn bV kd zs:=fun i hi=>let⟨a,c,t,xa,xn,xc,at',h1,h2,h3⟩:=h i hi;⟨a,c,t,xa,xn,xc,at',h1,h2.within hF,h3⟩
theorem NF.ex{F:Nat→Prop}{nn:Nat}{bV:List Value}{kd:Nat→Int}{zs:Nat→List Nat}{H':aa}(h:NF F H nn bV kd zs)(hx:Ext H H'):NF F H' nn bV kd zs:=fun i hi=>let⟨a,c,t,xa,xn,xc,at',h1,h2,h3⟩:=h i hi;⟨a,c,t,xa,xn,xc,at',h1,h2.ex hx,h3⟩
theorem _root_.Go.Ae.Bk.Sl{F:Nat→Prop}{r:Nat}{ty:TypeId}{cs:List Value}{n es:Nat}(h:Bk H r ty cs)(hr:r<H.next)(hn:cs.length=n*es)(hF:F r):eX F ty H (some ⟨r,0,none⟩) n es cs:=⟨h.fl hr hn,fun r' o e _=>by cases e;exact⟨hF,hr,h.Qc⟩⟩
def wO(rcs:List Value)(ws:List Nat):Nat→Nat
 |0=>0
 |i +1=>wO rcs ws i +(if yf rcs i=true then 0 else 2 +W ws (rootOf rcs i).toNat)
theorem PS(rcs:List Value)(ws:List Nat){i j:Nat}(h:i≤j):wO rcs ws i≤wO rcs ws j:=by
 induction j with
 |zero=>obtain rfl:i=0:=by omega
        exact Nat.le_refl _
 |succ j ih=>
  rcases Nat.lt_or_ge i (j +1)with h1|h1
  ·have:=ih (by omega)
   show _≤wO rcs ws j +_
   omega
  ·obtain rfl:i=j +1:=by omega
   exact Nat.le_refl _
theorem Bd.atM{ra:Nat}{H':aa}(hB:Bd ra A M)(hS:SH [] H H' (M++L))(ho:A.Ok):∃q:AV,H'.read ra 0 6=some (q.cells A)∧oQ (H.next≤·) H' A q:=by
 obtain⟨nv,sv,pv,ov,ev,evs,gn,gs,gp,go,ge,R,rfl,hgn,hgs,JA,hgo,hge,hR⟩:=hB
 have hev:evs.length=A.ns:=by rw[←hR.len,List.length_map,ho.o9]
 have hS:=hS.cast (L':=(ra,26,[nv,sv,pv,ov,ev,vn A.ty])::(gn++(gs++(gp++(go++(ge++(R++L))))))) (by simp)
 have hf:∀{e:aL},e∈(ra,26,[nv,sv,pv,ov,ev,vn A.ty])::(gn++(gs++(gp++(go++(ge++(R++L))))))→H.next≤e.1:=fun he=>hS.ym he
 have hread:=(hS.get 0 rfl).read (o:=0) (n:=6) (by show 0 +6≤6;omega)
 have hT:=SH.drop (A:=[_]) hS
 have hT2:=SH.drop hT
 have hT3:=SH.drop hT2
 have hT4:=SH.drop hT3
 have hT5:=SH.drop hT4
 have hT6:=SH.drop hT5
 obtain⟨na,n1,nc,rfl,l1,f1⟩:=hgn.Sl hT
 obtain⟨sa,n2,sc,rfl,l2,f2⟩:=hgs.Sl hT2
 obtain⟨pa,n3,pc,rfl,l3,f3⟩:=JA.Sl hT3
 obtain⟨oa,n4,oc,rfl,l4,f4⟩:=hgo.Sl hT4
 obtain⟨ea,n5,ec,rfl,l5,f5⟩:=hge.Sl hT5
 have e1:n1=A.nr:=by rw[List.length_map]at l1;unfold At.nr;omega
 have e2:n2=A.nr:=by rw[List.length_map,ho.NH]at l2;omega
 have e3:n3=A.nr:=by rw[List.length_map,ho.Qi]at l3;omega
 have e4:n4=A.ns:=by rw[List.length_map]at l4;unfold At.ns;omega
 have e5:n5=A.ns:=by omega
 subst e1
 rw[e2]at hread f2
 rw[e3]at hread f3
 rw[e4]at hread f4
 rw[e5]at hread f5
 refine⟨⟨na,sa,pa,oa,ea,nc,sc,pc,oc,ec⟩,hread,f1,f2,f3,f4,evs,f5,fun i hi=>?_⟩
 obtain⟨a,n,c,g1,g2,g3⟩:=hR.all hT6 i (by omega)
 have hE:(A.eg.map oJ)[i]?.getD []=oJ (A.E i):=by
  unfold At.E
  rw[List.getElem?_map,List.getElem?_eq_getElem (show i<A.eg.length by rw[ho.o9];exact hi)];rfl
 rw[hE]at g2 g3
 rw[AU]at g2
 obtain rfl:n=(A.E i).length:=by omega
 refine⟨a,c,by rw[List.getElem?_eq_getElem (show i<evs.length by omega),g1],g3.wk fun r hr=>?_⟩
 obtain⟨e,he,rfl⟩:=List.mem_map.1 hr
 exact hT6.ym (List.mem_append_left _ he)
end Go.Proofs.Lu
set_option maxRecDepth 100000
set_option maxHeartbeats 4000000
namespace Go.Proofs.Lu
open Go.Ae Go.Ae.M Go.Proofs.Lv
variable{H0 H:aa}{L M:List aL}{S:List Nat}{K:Nat→Prop}{A:At}{d:WD}
abbrev Us(tn:Nat)(H:aa)(v:Value)(H':aa):Prop:=∃(A:At)(q:AV),v=q.v A∧oQ (H.next≤·) H' A q∧A.Ok∧A.ty=tn
theorem WI{b rz rv rg vc tn:Nat}{ra na va:Option Addr}{rn rc nn nc:Nat}{rcs bV:List Value}{x2 x3 dL bI cr:Value}{bW:List (Nat×Value)}{H1:aa}(hG:Gr b H ra rn rcs na nn bV)(hR:∀i,i<rn→0≤rootOf rcs i∧rootOf rcs i<nn)(hup:yf rcs 0=false)(hrn:1≤rn)(hQ:WQ d)(hd:d.nn=nn∧d.tn=tn∧d.lw=oF rcs rn)(htot:wO rcs d.ws rn≤4000)
 (hZ:RZ K d [] H H1 M [(rz,26,[.slice none 0 0,.slice none 0 0,.slice none 0 0,.slice none 0 0,.slice none 0 0,vi 0]),(rv,79,[.slice va tn vc]),(rg,69,[.slice ra rn rc,.slice na nn nc])] A)(hA:A.nr=0∧A.ns=0):
 aS Pg X (.loop (sub tL [1,1,1,1,1,0,1,0,0])) (FW (gV ra rn rc na nn nc) (vV va tn vc) x2 x3 (pr rg) (pr rv) (pr rz) (pr d.ra) d.fv d.pv d.wv dL bI cr (.slice ra rn rc) (vn rn) (vn 0) bW H1) (iq 0 (kP Pg X (sub tL [1,1,1,1,1,1]) (cB Pg [.cell 8 26] (Q1 (Us tn H) H)))):=by
 have g2:=hG.2.1
 refine KL 14 15 16 31 (I:=fun m dL bI cr x31 H'=>∃i A M,x31=vn i∧i +m=rn∧RZ K d [] H H' M [(rz,26,[.slice none 0 0,.slice none 0 0,.slice none 0 0,.slice none 0 0,.slice none 0 0,vi 0]),(rv,79,[.slice va tn vc]),(rg,69,[.slice ra rn rc,.slice na nn nc])] A∧A.nr=oF rcs i∧A.ns=wO rcs d.ws i) ?_ rn ⟨0,A,M,rfl,by omega,hZ,hA.1,hA.2⟩
 clear hZ hA
 rintro m dL bI cr x31 bW H2 ⟨i,A,M,rfl,him,hZ,hnr,hns⟩
 refine tl ?_
 simp only[PP,Nat.reduceBEq]
 refine ah (fun hc=>?_) (fun hc=>?_)
 rotate_left
 ·obtain rfl:i=rn:=by omega
  have hlo:=zg rcs hrn
  have hl1:oF rcs 1=1:=by show 0 +(if yf rcs 0=true then 0 else 1)=1;rw[hup];rfl
  have tt:=hZ.tt
  have ok:A.Ok:=hZ.bs.ok (by rw[hnr,hd.2.2]) (by omega) (by have:=hZ.few;omega) (by omega) (by omega)
  refine tl ?_
  obtain⟨q0,hr0,_⟩:=hZ.bd.atM hZ.sh ok
  refine ME.sW hr0 ?_
  have hS:=hZ.sh.perm (List.perm_append_comm (l₁:=M))
  refine hS.st 0 rfl rfl (Nat.le_refl 6) rfl fun H3 hS=>?_
  have hS:SH [] H H3 ((rz,26,q0.cells A)::(rv,79,[.slice va tn vc])::(rg,69,[.slice ra i rc,.slice na nn nc])::M):=hS
  have hS2:=hS.perm (L':=M++[(rz,26,q0.cells A),(rv,79,[.slice va tn vc]),(rg,69,[.slice ra i rc,.slice na nn nc])]) (List.perm_append_comm (l₁:=[_,_,_]))
  obtain⟨q1,hr1,hat⟩:=hZ.bd.atM hS2 ok
  have eq:q1.cells A=q0.cells A:=by
   obtain⟨cs,hm,h6⟩:∃cs,((d.ra,26,cs):aL)∈M∧cs.length=6:=by
    obtain⟨nv,sv,pv,ov,ev,evs,gn,gs,gp,go,ge,R,rfl,_⟩:=hZ.bd
    exact⟨_,List.mem_cons_self ..,rfl⟩
   have a0:=(hZ.sh.bk _ (List.mem_append_left _ hm)).read (o:=0) (n:=6) (by show 0 +6≤cs.length;omega)
   have a1:=(hS2.bk _ (List.mem_append_left _ hm)).read (o:=0) (n:=6) (by show 0 +6≤cs.length;omega)
   have b0:=a0.symm.trans hr0
   have b1:=a1.symm.trans hr1
   exact Option.some.inj (b1.symm.trans b0)
  refine rr ?_
  refine hS.sW 0 rfl (Nat.le_refl 6) ?_
  rw[←eq]
  exact⟨⟨A,q1,rfl,hat,ok,hZ.ty.trans hd.2.1⟩,hS.ext⟩
 have hi:i<rn:=by omega
 obtain⟨r1,o1,mV,u1,f1,w1,c1,a1,e1,hl1,oP,jE,hsz,hel⟩:=hG.ru hi rc
 have hroot:=hR i hi
 rw[e1]
 simp only[PP,Nat.reduceBEq]
 refine hZ.sh.pY oP hl1 ?_
 refine(SH.refl hZ.sh.wf).jK rfl rfl rfl fun H3 ru hS1 hx3=>?_
 have hS1:SH [] H2 H3 [(ru,141,kQ mV u1 f1 w1 c1 (rootOf rcs i) a1)]:=hS1
 have kT:=(SH.frame (M:=[]) hZ.sh hS1).perm (L':=M++([(rz,26,[.slice none 0 0,.slice none 0 0,.slice none 0 0,.slice none 0 0,.slice none 0 0,vi 0]),(rv,79,[.slice va tn vc]),(rg,69,[.slice ra rn rc,.slice na nn nc])]++[(ru,141,kQ mV u1 f1 w1 c1 (rootOf rcs i) a1)])) (by
  rw[←List.append_assoc];exact List.perm_append_comm (l₁:=[_]))
 have hZ:=hZ.ext hx3 kT
 have hlow:oF rcs (i +1)=oF rcs i +(if yf rcs i=true then 0 else 1):=rfl
 have WJ:wO rcs d.ws (i +1)=wO rcs d.ws i +(if yf rcs i=true then 0 else 2 +W d.ws (rootOf rcs i).toNat):=rfl
 rw[AR hel]at hlow WJ
 have hmo:=PS rcs d.ws (show i +1≤rn by omega)
 have adJ:=zg rcs (show i +1≤rn by omega)
 have adf:=Gh rcs rn
 have hru:∀{H' M'}(_:SH [] H H' (M'++([(rz,26,[.slice none 0 0,.slice none 0 0,.slice none 0 0,.slice none 0 0,.slice none 0 0,vi 0]),(rv,79,[.slice va tn vc]),(rg,69,[.slice ra rn rc,.slice na nn nc])]++[(ru,141,kQ mV u1 f1 w1 c1 (rootOf rcs i) a1)]))),Bk H' ru 141 (kQ mV u1 f1 w1 c1 (rootOf rcs i) a1):=fun{H' M'} hS=>hS.bk _ (List.mem_append_right _ (List.mem_append_right _ (List.mem_cons_self ..)))
 have back:∀{H' M'}(_:SH [] H H' (M'++([(rz,26,[.slice none 0 0,.slice none 0 0,.slice none 0 0,.slice none 0 0,.slice none 0 0,vi 0]),(rv,79,[.slice va tn vc]),(rg,69,[.slice ra rn rc,.slice na nn nc])]++[(ru,141,kQ mV u1 f1 w1 c1 (rootOf rcs i) a1)]))),SH [] H H' (M'++[(rz,26,[.slice none 0 0,.slice none 0 0,.slice none 0 0,.slice none 0 0,.slice none 0 0,vi 0]),(rv,79,[.slice va tn vc]),(rg,69,[.slice ra rn rc,.slice na nn nc])]):=fun{H' M'} hS=>hS.sub (List.Sublist.append_left (List.sublist_append_left _ _) M')
 simp only[PP,Nat.reduceBEq]
 refine ME.ld ((hru hZ.sh).cell (o:=1) rfl) ?_
 simp only[PP,Nat.reduceBEq]
 refine aB (fun hb=>?_) (fun hb=>?_)
 ·rw[if_pos hb]at hlow WJ
  refine PU.of (au (by omega) (by omega)) ?_
  exact⟨rn -(i +1),by omega,_,_,_,_,_,_,rfl,i +1,A,M,by rw[show((i:Int) +1)=((i +1:Nat):Int) by omega],by omega,hZ.ext (Ext.refl _) (back hZ.sh),by omega,by omega⟩
 rw[if_neg (by rw[hb];simp)]at hlow WJ
 have DT:=hZ.few
 have adK:=hZ.tt
 obtain⟨v0,hv0,hname⟩:=hZ.bd.name (nm:=mV) hZ.sh (by omega)
 refine ME.ld hv0 ?_
 refine ME.ld ((hru hZ.sh).cell (o:=0) rfl) ?_
 refine hname fun w v' u H4 M4 hB4 oI=>?_
 have adn:(A.ru mV).nr=A.nr +1:=by show(A.nm++[mV]).length=_;rw[List.length_append];rfl
 have hY:RY K d [] H H4 M4 _ (A.ru mV):=⟨hZ.we.stay oI.ext hZ.nk,hZ.nks oI,hB4,SH.frame hZ.sh oI,hZ.bs.bu.ru mV,hZ.ty,by omega,by omega⟩
 have hns0:(A.ru mV).ns=A.ns:=rfl
 have adu:(A.ru mV).tot=A.tot:=rfl
 refine hY.fresh (by omega) fun H5 M5 A1 hY g1 cs=>?_
 have n1:=g1.ns
 have t1:=g1.tt
 refine hY.fresh (by omega) fun H6 M6 A2 hY g2 cp=>?_
 have n2:=g2.ns
 have t2:=g2.tt
 have cs:=cs.gw g2
 have hst:A2.st=A.st:=by rw[g2.st,g1.st];rfl
 have hsp:A2.sp=A.sp:=by rw[g2.sp,g1.sp];rfl
 refine hY.ends (by rw[hst,hZ.bs.NH];omega) (by rw[hsp,hZ.bs.Qi];omega) rfl fun u1 e1 u2 e2 u3 e3 u4 e4 u5 e5 u6 e6 u7 e7 u8 e8 M7 hY=>?_
 generalize hM (hM (hM (hM (hM (hM (hM (hM H6 e1) e2) e3) e4) e5) e6) e7) e8=H7 at hY⊢
 have n3:(A2.se (A.ru mV).ns A1.ns).ns=A2.ns:=rfl
 have t3:(A2.se (A.ru mV).ns A1.ns).tot=A2.tot:=rfl
 obtain⟨k,hk⟩:∃k:Nat,rootOf rcs i=k:=⟨(rootOf rcs i).toNat,by omega⟩
 have hkn:k<d.nn:=by omega
 have hWk:W d.ws (rootOf rcs i).toNat=W d.ws k:=by rw[hk];rfl
 refine ME.ld ((hru hY.sh).cell (o:=5) rfl) ?_
 rw[hk]
 refine hY.way (Z_ hQ k hkn) (by omega) (by omega) (show(A2.se (A.ru mV).ns A1.ns).cur _ from cs) fun to H8 M8 A4 c hY g4 hc4 cto=>?_
 have n4:=g4.ns
 have t4:=g4.tt
 refine PU.b3 rfl ?_
 have cp4:A4.cur A1.ns:=At.cur.gw (A:=A2.se (A.ru mV).ns A1.ns) cp g4
 refine hY.put (e:=(0,0,A1.ns)) cto cp4 (Z8 ..) (by omega) fun v9 H9 M9 A5 hY g5=>?_
 have n5:=g5.ns
 have t5:=g5.tt
 refine PU.of (au (by omega) (by omega)) ?_
 have adL:A5.nr=A.nr +1:=by rw[g5.nr,g4.nr];show A2.nr=_;rw[g2.nr,g1.nr,adn]
 exact⟨rn -(i +1),by omega,_,_,_,_,_,_,rfl,i +1,A5,M9,by rw[show((i:Int) +1)=((i +1:Nat):Int) by omega],by omega,⟨hY.we,hY.nk,hY.bd,back hY.sh,hZ.bs.next (g1.trans g2) cs cp (g4.trans g5) hY.bu,hY.ty,by omega,by omega⟩,by omega,by omega⟩
end Go.Proofs.Lu
set_option maxRecDepth 100000
set_option maxHeartbeats 4000000
namespace Go.Proofs.Lu
open Go.Ae Go.Ae.M Go.Proofs.Lv
variable{F:Nat→Prop}{H0 H:aa}{L M:List aL}{S:List Nat}{K:Nat→Prop}{A:At}{d:WD}
theorem Bd.nil(ra tn:Nat):Bd ra ⟨[],[],[],[],[],tn⟩ [(ra,26,[.slice none 0 0,.slice none 0 0,.slice none 0 0,.slice none 0 0,.slice none 0 0,vn tn])]:=
 ⟨_,_,_,_,_,[],[],[],[],[],[],[],rfl,.inl ⟨rfl,rfl,rfl⟩,.inl ⟨rfl,rfl,rfl⟩,.inl ⟨rfl,rfl,rfl⟩,.inl ⟨rfl,rfl,rfl⟩,.inl ⟨rfl,rfl,rfl⟩,rfl⟩
theorem LK(hw:Wf H){b tn vc rl rs:Nat}{ra na va:Option Addr}{rn rc nn nc:Nat}{rcs bV lcs:List Value}{ws:List Nat}{kd:Nat→Int}{zs:Nat→List Nat}(hG:Gr b H ra rn rcs na nn bV)(ZY:NF F H nn bV kd zs)(hR:∀i,i<rn→0≤rootOf rcs i∧rootOf rcs i<nn)(hup:yf rcs 0=false)(hrn:1≤rn)
 (hl:Bk H rl 47 lcs∧rl<H.next∧lcs.length=nn*3)(hlp:∀i,i<nn→kN tn (oF rcs rn) (El lcs 3 i))(hs:Bk H rs 3 (bO ws)∧rs<H.next∧ws.length=nn)(hsz:∀j,j<nn→yh kd zs ws j)(htot:wO rcs ws rn≤4000):
 ak Pg X 78 [gV ra rn rc na nn nc,vV va tn vc,.slice (some ⟨rl,0,none⟩) nn nn,.slice (some ⟨rs,0,none⟩) nn nn] H (Q1 (Us tn H) H):=by
 have hS:=SH.refl hw
 refine ce [0,1,2,3,4,5,8,9,10,11,12,14,15,16,29,30,31] ?_;refine tl ?_
 refine hS.box rfl fun H1 rg hS=>?_
 refine hS.box rfl fun H2 rv hS=>?_
 refine hS.dh fun H3 rz hS=>?_
 simp only[PP,Nat.reduceBEq,aj hS.wf];refine hS.bU ?_
 refine ak.mono (Lh hS.wf) ?_
 rintro v H4 ⟨rfl,hx⟩
 have hS:=hS.call hx
 refine PU.b6 rfl ?_;simp only[PP,Nat.reduceBEq,aj hS.wf]
 refine hS.dh fun H5 rb hS=>?_
 refine hS.iX fun Hn hS=>?_;refine hS.bU ?_
 have hb:=And.intro (hS.ym (List.mem_of_getElem? (i:=0) rfl)) (hS.lo _ (List.mem_of_getElem? (i:=0) rfl)).2
 refine ak.mono (PO hS.wf ⟨_,_,_,rfl⟩ ⟨_,_,_,rfl⟩) ?_
 rintro v H7 ⟨g,s,w,f,fe,lo,p,l,rfl,hx7,hn7,c1,c2,c3,c4,c5,c6,c7,c8⟩
 have hS:=hS.call hx7
 have hx:=hS.ext
 have hK:∀r∈[g,s,w,f,fe,lo,p,l],r<H7.next∧r≠rb:=fun r hr=>by
  have:=hn7 r hr
  exact⟨this.2,by omega⟩
 have hF:∀r,r<H.next→r<H7.next∧r≠rb:=fun r hr=>⟨by have:=hx.next;omega,by omega⟩
 have hW:WE (fun r=>r<H7.next∧r≠rb) ⟨g,s,w,f,fe,lo,p,l,rb,na,nc,nn,rs,rl,bV,lcs,ws,kd,zs,tn,oF rcs rn⟩ H7:=
  ⟨fun r hr=>hr.1,⟨hK g (by simp),c1⟩,⟨hK s (by simp),c2⟩,⟨hK w (by simp),c3⟩,⟨hK f (by simp),c4⟩,⟨hK fe (by simp),c5⟩,⟨hK lo (by simp),c6⟩,⟨hK p (by simp),c7⟩,⟨hK l (by simp),c8⟩,
   (hG.2.2.2.1.within hF).ex hx,(ZY.within hF).ex hx,((hs.1.Sl hs.2.1 (by rw[Nat.mul_one,List.length_map];exact hs.2.2) (hF _ hs.2.1))).ex hx,(hl.1.Sl hl.2.1 hl.2.2 (hF _ hl.2.1)).ex hx⟩
 refine hS.aZ ?_;simp only[PP,Nat.reduceBEq,aj hS.wf]
 refine WI (d:=⟨g,s,w,f,fe,lo,p,l,rb,na,nc,nn,rs,rl,bV,lcs,ws,kd,zs,tn,oF rcs rn⟩) (K:=fun r=>r<H7.next∧r≠rb) (A:=⟨[],[],[],[],[],tn⟩) (M:=[(rb,26,[.slice none 0 0,.slice none 0 0,.slice none 0 0,.slice none 0 0,.slice none 0 0,vn tn])]) hG hR hup hrn ⟨hG.2.2.2.2.1,hsz,hlp⟩ ⟨rfl,rfl,rfl⟩ htot ⟨hW,fun r hr hk=>?_,Bd.nil rb tn,hS,?_,rfl,Nat.zero_le _,Nat.zero_le _⟩ ⟨rfl,rfl⟩
 ·obtain rfl:r=rb:=List.mem_singleton.1 hr
  exact hk.2 rfl
 ·exact⟨⟨rfl,fun s h=>absurd h (Nat.not_lt_zero _),fun s h=>absurd h (Nat.not_lt_zero _)⟩,rfl,rfl,fun s h=>absurd h (Nat.not_lt_zero _),fun s h=>absurd h (Nat.not_lt_zero _)⟩
end Go.Proofs.Lu
set_option maxRecDepth 100000
set_option maxHeartbeats 4000000
namespace Go.Proofs.Lu
open Go.Ae Go.Ae.M Go.Proofs.Lv
variable{F:Nat→Prop}{H0 H:aa}{L M:List aL}{S:List Nat}{K:Nat→Prop}{A:At}{d:WD}
theorem _root_.Go.Ae.Bk.ex{H':aa}{r:Nat}{ty:TypeId}{cs:List Value}(h:Bk H r ty cs)(hr:r<H.next)(hx:Ext H H'):Bk H' r ty cs:=h.f_ (hx.obj r hr fun h=>nomatch h)
abbrev Ut(tn:Nat)(H:aa)(v:Value)(H':aa):Prop:=∃(x:Value)(e:Int),v=.tuple ⟨[x,vi e]⟩∧(ay x).length=6∧all' aT (ay x)=true∧(e=0→Us tn H x H')
theorem ado(hw:Wf H){b tn vc rz rv rg:Nat}{ra na va:Option Addr}{rn rc nn nc:Nat}{rcs bV vcs:List Value}{x0 x1:Value}{H1:aa}(hG:Gr b H ra rn rcs na nn bV)(hC:qZ (b≤·) H rn rcs nn bV∧1≤rn∧yf rcs 0=false)(hV:Vo F H va tn vcs)
 (hS:SH [] H H1 [(rz,26,[.slice none 0 0,.slice none 0 0,.slice none 0 0,.slice none 0 0,.slice none 0 0,vi 0]),(rv,79,[.slice va tn vc]),(rg,69,[.slice ra rn rc,.slice na nn nc])]){x6 x7 x8 x9 a_ x34 AQ Df:Value}{bW:List (Nat×Value)}:
 aS Pg X (sub TC [1,1]) (O9 x0 x1 (pr rg) (pr rv) (pr rz) (vi 0) x6 x7 x8 x9 a_ x34 AQ Df bW H1) (cB Pg [.cell 4 26,.tmp 5] (Q1 (Ut tn H) H)):=by
 have g2:=hG.2.1
 have g5:=hG.2.2.2.2.1
 obtain⟨hC1,hC2,ZQ⟩:=hC
 refine tl ?_
 simp only[PP,Nat.reduceBEq,aj hS.wf];refine hS.bU ?_;refine hS.bU ?_
 refine ak.mono (Ll hS.wf (hG.ex hS.ext) (fun i hi=>(hC1.1 i hi).ex hS.ext) ⟨hV.1.ex hS.ext,hV.2⟩) ?_
 rintro v H2 ⟨⟨rl,lcs,rfl,hl1,hl2,hl3,hl4,hl5⟩,hx2⟩
 have hS:=hS.call hx2
 obtain⟨kd,zs,ZY⟩:=NF.of (F:=(b≤·)) (H:=H) hC1.1
 refine hS.bU ?_
 refine ak.mono (Lm hS.wf (hG.ex hS.ext) (ZY.ex hS.ext) hl3 hl2 hl4 hl5) ?_
 rintro v H3 ⟨⟨rs,rr,ws,bs,rfl,⟨hs1,hs2⟩,⟨hr1,hr2⟩,hs3,hr3,hwl,hbl,hsz⟩,hx3⟩
 have hS:=hS.call hx3
 have hfs:eX (fun _=>True) 3 H3 (some ⟨rs,0,none⟩) nn 1 (bO ws):=hs3.Sl hs2 (by rw[Nat.mul_one,List.length_map];exact hwl) trivial
 have hfr:eX (fun _=>True) 4 H3 (some ⟨rr,0,none⟩) nn 1 (bools bs):=hr3.Sl hr2 (by rw[Nat.mul_one,List.length_map];exact hbl) trivial
 have hl3:=hl3.ex hl2 hx3
 repeat(first|(simp only[PP,Nat.reduceBEq,aj hS.wf])|(refine hS.aZ ?_))
 refine KL 5 9 11 36 (I:=fun m x5 x9 a_ Df H'=>∃i,Df=vn i∧i +m=rn∧x5=vi 0∧x9=vn (min (wO rcs ws i) 4001)∧Ext H3 H'∧SH [] H H' [(rz,26,[.slice none 0 0,.slice none 0 0,.slice none 0 0,.slice none 0 0,.slice none 0 0,vi 0]),(rv,79,[.slice va tn vc]),(rg,69,[.slice ra rn rc,.slice na nn nc])]) ?_ rn ⟨0,rfl,by omega,rfl,rfl,Ext.refl _,hS⟩
 clear hS
 rintro m x5 x9 a_ Df bW H4 ⟨i,rfl,him,rfl,rfl,hx4,hS⟩
 refine tl ?_
 simp only[PP,Nat.reduceBEq]
 refine ah (fun hc=>?_) (fun hc=>?_)
 rotate_left
 ·obtain rfl:i=rn:=by omega
  refine tl ?_
  simp only[PP,Nat.reduceBEq]
  refine ah (fun h4=>?_) (fun h4=>?_)
  ·refine PU.b6 rfl ?_;refine hS.iX fun Hn hS=>?_
   refine Lu.rr ?_
   refine hS.bU ?_
   exact⟨⟨_,_,rfl,rfl,rfl,fun h=>absurd h (by decide)⟩,hS.ext⟩
  have ht:wO rcs ws i≤4000:=by omega
  repeat(refine hS.bU ?_)
  have hx:=hx3.trans hx4
  refine ak.mono (LK hS.wf (hG.ex hS.ext) (ZY.ex hS.ext) hC1.2 ZQ hC2 ⟨hl3.ex (Nat.lt_of_lt_of_le hl2 hx3.next) hx4,Nat.lt_of_lt_of_le hl2 hx.next,hl4⟩ hl5 ⟨hs3.ex hs2 hx4,Nat.lt_of_lt_of_le hs2 hx4.next,hwl⟩ hsz ht) ?_
  rintro v H5 ⟨⟨A,q,rfl,hA,hok,hty⟩,hx5⟩
  have hge:=hS.ext.next
  have hlo:=hS.lo
  have hS:=hS.call hx5
  have hO:=hS.base
  refine hO.st 0 rfl rfl (Nat.le_refl 6) rfl fun H6 hO6=>?_
  have hA:=hA.stay hO6.ext (fun r hr=>by
   obtain⟨e,he,rfl⟩:=List.mem_map.1 hr
   exact Nat.not_le_of_lt (hlo e he).2)
  have hS:SH [] H H6 [(rz,26,q.cells A),(rv,79,[.slice va tn vc]),(rg,69,[.slice ra i rc,.slice na nn nc])]:=hS.over hO6
  refine Lu.rr ?_
  refine hS.bU ?_
  exact⟨⟨_,_,rfl,rfl,rfl,fun _=>⟨A,q,rfl,hA.wk fun r hr=>by omega,hok,hty⟩⟩,hS.ext⟩
 have hi:i<rn:=by omega
 obtain⟨r1,o1,mV,u1,f1,w1,c1,a1,e1,hl1,oP,jE,hsz1,hel⟩:=hG.ru hi rc
 have hroot:=hC1.2 i hi
 have WJ:wO rcs ws (i +1)=wO rcs ws i +(if yf rcs i=true then 0 else 2 +W ws (rootOf rcs i).toNat):=rfl
 rw[AR hel]at WJ
 obtain⟨k,hk⟩:∃k:Nat,rootOf rcs i=k:=⟨(rootOf rcs i).toNat,by omega⟩
 have hkn:k<nn:=by omega
 rw[e1]
 simp only[PP,Nat.reduceBEq]
 refine hS.pY oP hl1 ?_
 refine hS.jK rfl rfl rfl fun H5 ru hS hx5=>?_
 have hS:SH [] H H5 [(ru,141,kQ mV u1 f1 w1 c1 (rootOf rcs i) a1),(rz,26,[.slice none 0 0,.slice none 0 0,.slice none 0 0,.slice none 0 0,.slice none 0 0,vi 0]),(rv,79,[.slice va tn vc]),(rg,69,[.slice ra rn rc,.slice na nn nc])]:=hS
 have WK:=hx4.trans hx5
 rw[hk]at hS WJ
 repeat(first|(simp only[PP,Nat.reduceBEq,aj hS.wf])|(refine hS.aZ ?_))
 refine aB (fun hb=>?_) (fun hb=>?_)
 ·rw[if_pos hb]at WJ
  refine PU.of (au (by omega) (by omega)) ?_
  exact⟨rn -(i +1),by omega,_,_,_,_,_,_,rfl,i +1,by rw[show((i:Int) +1)=((i +1:Nat):Int) by omega],by omega,rfl,by rw[WJ];rfl,WK,SH.drop (A:=[_]) hS⟩
 rw[if_neg (by rw[hb];simp)]at WJ
 refine hS.aZ ?_
 refine(hfr.ex WK).ix (k:=k) (v:=.bool (bs[k]?.getD false)) hkn (by rw[List.getElem?_map,List.getElem?_eq_getElem (show k<bs.length by omega)];rfl) fun p=>?_
 simp only[PP,Nat.reduceBEq]
 refine aB (fun hb2=>?_) (fun hb2=>?_)
 ·refine PU.b6 rfl ?_;refine hS.iX fun Hn hS=>?_
  refine Lu.rr ?_
  refine hS.bU ?_
  exact⟨⟨_,_,rfl,rfl,rfl,fun h=>absurd h (by decide)⟩,hS.ext⟩
 have hWk:W ws k≤4001:=ab2 (hsz k hkn)
 have hW2:W ws ((k:Int)).toNat=W ws k:=rfl
 refine PU.of (au (by omega) (by omega)) ?_
 refine hS.aZ ?_
 refine(hfs.ex WK).ix (k:=k) (v:=vn (W ws k)) hkn (by rw[List.getElem?_map,List.getElem?_eq_getElem (show k<ws.length by omega)];show _=some (vn (ws[k]?.getD 0));rw[List.getElem?_eq_getElem (show k<ws.length by omega)];rfl) fun p=>?_
 refine PU.of (au (by omega) (by omega)) ?_
 rw[min2]
 simp only[PP,Nat.reduceBEq]
 refine PU.of (au (by omega) (by omega)) ?_
 exact⟨rn -(i +1),by omega,_,_,_,_,_,_,rfl,i +1,by rw[show((i:Int) +1)=((i +1:Nat):Int) by omega],by omega,rfl,by rw[show min (((min (wO rcs ws i) 4001:Nat):Int) +2 +(W ws k:Int)) 4001=((min (wO rcs ws (i +1)) 4001:Nat):Int) by omega],WK,SH.drop (A:=[_]) hS⟩
end Go.Proofs.Lu
set_option maxRecDepth 100000
set_option maxHeartbeats 4000000
namespace Go.Proofs.Lu
open Go.Ae Go.Ae.M Go.Proofs.Lv
variable{F:Nat→Prop}{H0 H:aa}{L M:List aL}{S:List Nat}{K:Nat→Prop}{A:At}{d:WD}
theorem Gn(hw:Wf H){b tn vc:Nat}{ra na va:Option Addr}{rn rc nn nc:Nat}{rcs bV vcs:List Value}(hG:Gr b H ra rn rcs na nn bV)(hcap:na=none∨nc=aQ 5)(hV:Vo F H va tn vcs):
 ak Pg X 30 [gV ra rn rc na nn nc,vV va tn vc] H (Q1 (Ut tn H) H):=by
 have hS:=SH.refl hw
 refine ce [0,1,2,3,4,5,6,7,8,9,11,34,35,36] ?_;refine tl ?_
 refine hS.box rfl fun H1 rg hS=>?_
 refine hS.box rfl fun H2 rv hS=>?_
 refine hS.dh fun H3 rz hS=>?_
 refine hS.mQ ?_;simp only[PP,Nat.reduceBEq,aj hS.wf]
 have hG3:=hG.ex hS.ext
 refine ak.mono (CQ (jJ H3) (show Gr b (hN H3) ra rn rcs na nn bV from hG3)) ?_
 rintro v H4 ⟨⟨z,a,c,rfl,hcl⟩,hx4⟩
 have adp:=hS.ext
 have hS:=hS.iK hx4
 rw[wH]
 simp only[PP,Nat.reduceBEq]
 refine aG (fun hc=>?_) (fun hc=>?_)
 ·refine(show∀K:Prop,K→_∧K from fun K hK=>?_) _ ?_
  ·exact bq (by simp only[aA,az hx4];rfl) hK
  refine PU.b6 rfl ?_;refine hS.iX fun Hn hS=>?_
  refine rr ?_
  refine hS.bU ?_
  exact⟨⟨_,_,rfl,rfl,rfl,fun h=>absurd h (by decide)⟩,hS.ext⟩
 have hC:=hcl hc
 have hC:qZ (b≤·) H rn rcs nn bV∧1≤rn∧yf rcs 0=false:=⟨qZ.back hG adp hC.1.1,hC.1.2.1,hC.2⟩
 refine hS.mQ ?_;simp only[PP,Nat.reduceBEq,aj hS.wf]
 refine ak.mono (Jt (jJ _) (show Gr b (hN (hM H3 H4)) ra rn rcs na nn bV from(hG.ex hS.ext:Gr b (hM H3 H4) ra rn rcs na nn bV)) hcap) ?_
 rintro v H5 ⟨⟨ya,yn,yc,ycs,rfl,hY⟩,hx5⟩
 have hS:=hS.iK hx5
 refine hS.mQ ?_;simp only[PP,Nat.reduceBEq,aj hS.wf]
 refine ak.mono (Lj (jJ _) (F:=((hN (hM H3 H4)).next≤·)) (F':=F) (a:=ya) (n:=yn) (c:=yc) (cs:=ycs) (a':=va) (n':=tn) (c':=vc) (cs':=vcs) ?_ ?_) ?_
 ·exact hY
 ·exact⟨(show eX F 149 (hN (hM (hM H3 H4) H5)) va tn 4 vcs from(hV.1.ex hS.ext:eX F 149 (hM (hM H3 H4) H5) va tn 4 vcs)),hV.2⟩
 rintro v H6 ⟨⟨bb,rfl⟩,hx6⟩
 have hS:=hS.iK hx6
 simp only[PP,Nat.reduceBEq]
 refine(show∀K:Prop,K→_∧K from fun K hK=>?_) _ ?_
 ·exact bq (by simp only[aA,az hx4,az hx5,az hx6];rfl) hK
 refine aB (fun hb=>?_) (fun hb=>?_)
 ·refine PU.b6 rfl ?_;refine hS.iX fun Hn hS=>?_
  refine rr ?_
  refine hS.bU ?_
  exact⟨⟨_,_,rfl,rfl,rfl,fun h=>absurd h (by decide)⟩,hS.ext⟩
 exact ado hw hG hC hV hS
end Go.Proofs.Lu
set_option maxRecDepth 100000
set_option maxHeartbeats 4000000
namespace Go.Proofs.Lu
open Go.Ae Go.Ae.M Go.Proofs.Lv
variable{F:Nat→Prop}{H0 H:aa}{L M:List aL}{S:List Nat}{K:Nat→Prop}{A:At}{d:WD}
theorem LM(hw:Wf H){q:AV}:ak Pg X 17 [q.v A] H (Q1 (fun v _=>v=vn A.ns) H):=by
 have hS:=SH.refl hw
 refine ce [0,1,2] ?_;refine tl ?_
 refine hS.box rfl fun H1 rg hS=>?_
 repeat(first|(simp only[PP,Nat.reduceBEq,aj hS.wf])|(refine hS.aZ ?_))
 refine rr ?_;exact⟨rfl,hS.ext⟩
abbrev ace(H:aa)(v:Value)(H':aa):Prop:=∃(A:At)(q:AV),v=q.v A∧oQ (H.next≤·) H' A q∧A.Ok∧A.ns≤1000
theorem PT(hw:Wf H)(hT:uf H)(s:ByteArray):ak Pg X 8 [.string s] H (Q1 (fun v H'=>∃(x:Value)(ok:Int),v=.tuple ⟨[x,vi ok]⟩∧(ay x).length=6∧all' aT (ay x)=true∧(ok≠0→ace H x H')) H):=by
 have hS:=SH.refl hw
 refine ce [0,2,3,4,5,6,7] ?_;refine tl ?_
 refine hS.dh fun H1 rz hS=>?_
 simp only[PP,Nat.reduceBEq]
 refine ah (fun hc=>?_) (fun hc=>?_)
 ·refine PU.b6 rfl ?_;refine hS.iX fun Hn hS=>?_
  refine rr ?_
  refine hS.bU ?_
  exact⟨⟨_,_,rfl,rfl,rfl,fun h=>absurd rfl h⟩,hS.ext⟩
 refine ak.mono (DL hS.wf (hT.ex hS.ext) s) ?_
 rintro v H2 ⟨⟨ra,rn,rc,rcs,na,nn,nc,bV,cd,e,rfl,hG,hcap⟩,hx2⟩
 have hS:=hS.call hx2
 simp only[PP,Nat.reduceBEq,aj hS.wf]
 have hS0:=hS
 have hS:=SH.refl hS0.wf
 refine hS.dh fun H3 rg hS=>?_
 refine hS.dh fun H4 re hS=>?_
 repeat(first|(simp only[PP,Nat.reduceBEq,aj hS.wf])|(refine hS.aZ ?_)|(refine hS.iX fun Hn hS=>?_))
 have adq:=hS.ext
 have hS:SH [] H _ [(re,72,[vi cd,vi e]),(rg,69,[.slice ra rn rc,.slice na nn nc]),(rz,26,[.slice none 0 0,.slice none 0 0,.slice none 0 0,.slice none 0 0,.slice none 0 0,vi 0])]:=SH.frame (M:=[]) hS0 hS
 refine aG (fun hc=>?_) (fun hc=>?_)
 ·refine PU.b6 rfl ?_;refine hS.iX fun Hn hS=>?_
  refine rr ?_
  refine hS.bU ?_
  exact⟨⟨_,_,rfl,rfl,rfl,fun h=>absurd rfl h⟩,hS.ext⟩
 have hG3:Gr H1.next Hn ra rn rcs na nn bV:=hG.ex adq
 repeat(first|(simp only[PP,Nat.reduceBEq,aj hS.wf])|(refine hS.mQ ?_))
 refine ak.mono (Jt (jJ _) (show Gr H1.next (hN Hn) ra rn rcs na nn bV from hG3) hcap) ?_
 rintro v H5 ⟨⟨ya,yn,yc,ycs,rfl,hY⟩,hx5⟩
 have hS:=hS.iK hx5
 have hlo:=hS.lo
 have hge:=hS.ext.next
 refine ak.mono (Gn (jJ _) (F:=((hN Hn).next≤·)) (show Gr H1.next (hN (hM Hn H5)) ra rn rcs na nn bV from(hG3.ex hx5.draw:Gr H1.next (hM Hn H5) ra rn rcs na nn bV)) hcap hY) ?_
 rintro v H6 ⟨⟨x,e,rfl,hl6,Yn,hA⟩,hx6⟩
 have hS:=hS.iK hx6
 simp only[PP,Nat.reduceBEq]
 have hS0:=hS
 have hS:=SH.refl hS0.wf
 refine hS.Uc fun H7 rm hS f7=>?_
 have hnr:rm≠rg:=by
  have h1:=hS.ym (List.mem_cons_self ..)
  have h2:=(hS0.lo _ (List.mem_of_getElem? (i:=1) rfl)).2
  intro h;subst h;exact Nat.not_lt_of_le h1 h2
 refine hS.qc (hl:=hl6) (hk:=Yn) fun H8 hS=>?_
 refine(show∀K:Prop,K→_∧K from fun K hK=>?_) _ ?_
 ·simp only[aA,az hx5,az hx6,f7,aC]
  rw[aP,hl6]
  apply nZ (a:=rm) (b:=rg) hnr (by intros;rfl) (by kernel_rfl) (by kernel_rfl) hK
 have hxB:=hS.ext
 have hS:=SH.frame (M:=[]) hS0 hS
 simp only[List.cons_append,List.nil_append]at hS
 refine aG (fun hc=>?_) (fun hc=>?_)
 ·refine PU.b6 rfl ?_;refine hS.iX fun Hn hS=>?_
  refine rr ?_
  refine hS.bU ?_
  exact⟨⟨_,_,rfl,rfl,rfl,fun h=>absurd rfl h⟩,hS.ext⟩
 obtain⟨A,q,rfl,hA,hok,hty⟩:=hA hc
 have hS:SH [] H _ [(rm,26,q.cells A),(re,72,[vi cd,vi _]),(rg,69,[.slice ra rn rc,.slice na nn nc]),(rz,26,[.slice none 0 0,.slice none 0 0,.slice none 0 0,.slice none 0 0,.slice none 0 0,vi 0])]:=hS
 refine hS.bU ?_
 refine ak.mono (LM hS.wf) ?_
 rintro v H9 ⟨rfl,Pz⟩
 have hS:=hS.call Pz
 simp only[PP,Nat.reduceBEq]
 refine ah (fun hc=>?_) (fun hc=>?_)
 ·refine PU.b6 rfl ?_;refine hS.iX fun Hn hS=>?_
  refine rr ?_
  refine hS.bU ?_
  exact⟨⟨_,_,rfl,rfl,rfl,fun h=>absurd rfl h⟩,hS.ext⟩
 have hA:oQ ((hM Hn H5).next≤·) (hM (hM Hn H5) H6) A q:=⟨hA.n,hA.s,hA.p,hA.o,hA.e⟩
 have hA:=(hA.ex hxB).ex Pz
 have hS:=hS.perm (L':=[(rz,26,[.slice none 0 0,.slice none 0 0,.slice none 0 0,.slice none 0 0,.slice none 0 0,vi 0])]++[(rm,26,q.cells A),(re,72,[vi cd,vi _]),(rg,69,[.slice ra rn rc,.slice na nn nc])]) (List.perm_append_comm (l₁:=[_,_,_]))
 refine hS.sW 1 rfl (Nat.le_refl 6) ?_
 have hO:=SH.own hS
 refine hO.st 0 rfl rfl (Nat.le_refl 6) rfl fun T_ hO=>?_
 have hA:=hA.stay hO.ext (fun r hr=>by
  obtain rfl:r=rz:=List.mem_singleton.1 hr
  exact Nat.not_le_of_lt (hlo _ (List.mem_of_getElem? (i:=2) rfl)).2)
 have hS:SH [] H T_ [(rz,26,q.cells A),(rm,26,q.cells A),(re,72,[vi cd,vi _]),(rg,69,[.slice ra rn rc,.slice na nn nc])]:=SH.frame hS hO
 refine rr ?_
 refine hS.sW 0 rfl (Nat.le_refl 6) ?_
 exact⟨⟨_,_,rfl,rfl,rfl,fun _=>⟨A,q,rfl,hA.wk fun r hr=>Nat.le_trans hge hr,hok,by omega⟩⟩,hS.ext⟩
end Go.Proofs.Lu
set_option maxRecDepth 100000
set_option maxHeartbeats 4000000
namespace Go.Proofs.Lu
open Go.Ae Go.Ae.M Go.Proofs.Lv
section laid
variable{H0 H:aa}{L:List aL}{S:List Nat}{ty:TypeId}{es n c:Nat}{a:Option Addr}{xs:List Value}{K:Value→aa→Prop}
theorem _root_.Go.Ae.SH.apG(hS:SH S H0 H L)(he:0<es)(hx:Fl H a n es xs)(hn:n≤16777216)(k:∀v' H1 cO,GB ty es v' xs cO→SH S H0 H1 (cO++L)→Ext H H1→K v' H1):ME (wR ty es (.slice none 0 0) (.slice a n c) H) K:=by
 rw[B_ (.inl rfl) (tu hx he) hn]
 split
 ·next h0=>
  subst h0
  obtain rfl:xs=[]:=List.length_eq_zero_iff.1 (by have:=hx.1;omega)
  exact k _ H [] (GB.nil _ _) hS (Ext.refl _)
 ·next h0=>exact k _ _ [(H.next,ty,xs)] (.inr ⟨H.next,n,[],rfl,hx.1,by simp⟩) (hS.grow ty xs) (Ext.new _ _)
theorem _root_.Go.Ae.SH.adr(hS:SH S H0 H L)(he:0<es)(hx:Fl H a n es xs)(hn:n≤16777216)(k:∀v' H1 cO,GB ty es v' xs cO→SH S H0 (hM H H1) (cO++L)→Ext (hN H) H1→K v' H1):ME (wR ty es (.slice none 0 0) (.slice a n c) (hN H)) K:=by
 have hx':Fl (hN H) a n es xs:=hx
 rw[B_ (.inl rfl) (tu hx' he) hn]
 split
 ·next h0=>
  subst h0
  obtain rfl:xs=[]:=List.length_eq_zero_iff.1 (by have:=hx.1;omega)
  refine k _ (hN H) [] (GB.nil _ _) ?_ (Ext.refl _)
  rw[aj hS.wf];exact hS
 ·next h0=>exact k _ _ [(H.next,ty,xs)] (.inr ⟨H.next,n,[],rfl,hx.1,by simp⟩) (hS.Ep ty xs) (Ext.new _ _)
end laid
variable{F:Nat→Prop}{H0 H:aa}{L M:List aL}{S:List Nat}{K:Nat→Prop}{A:At}{q:AV}
def Own(A:At)(cs:List Value)(M:List aL):Prop:=cs.length=6∧all' aT cs=true∧∀r,Bd r A ((r,26,cs)::M)
theorem Own.of{A:At}{nv sv pv ov ev:Value}{evs:List Value}{gn gs gp go ge R:List aL}(h1:GB 9 1 nv (A.nm.map .string) gn)(h2:GB 3 1 sv (bO A.st) gs)(h3:GB 3 1 pv (bO A.sp) gp)(h4:GB 3 1 ov (bO A.ow) go)(h5:GB 45 1 ev evs ge)(h6:Dc 47 3 (A.eg.map oJ) evs R):Own A [nv,sv,pv,ov,ev,vn A.ty] (gn++(gs++(gp++(go++(ge++R))))):=by
 refine⟨rfl,?_,fun r=>⟨nv,sv,pv,ov,ev,evs,gn,gs,gp,go,ge,R,rfl,h1,h2,h3,h4,h5,h6⟩⟩
 have e1:=h1.sl
 have e2:=h2.sl
 have e3:=h3.sl
 have e4:=h4.sl
 have e5:=h5.sl
 obtain⟨_,_,_,rfl⟩:=e1
 obtain⟨_,_,_,rfl⟩:=e2
 obtain⟨_,_,_,rfl⟩:=e3
 obtain⟨_,_,_,rfl⟩:=e4
 obtain⟨_,_,_,rfl⟩:=e5
 rfl
theorem WL(hl:A.eg.length=A.ns){i:Nat}(hi:i<A.ns):(A.eg.take (i +1)).map oJ=(A.eg.take i).map oJ++[oJ (A.E i)]:=by
 have h:i<A.eg.length:=by omega
 unfold At.E
 rw[List.take_add_one,List.getElem?_eq_getElem h,List.map_append];rfl
theorem acf(a b c d e f:List aL):(a++(b++(c++(d++(e++f))))).Perm (f++(e++(d++(c++(a++b))))):=by
 have h1:=List.perm_append_comm (l₁:=a++(b++(c++(d++e)))) (l₂:=f)
 have h2:=List.perm_append_comm (l₁:=a++(b++(c++d))) (l₂:=e)
 have h3:=List.perm_append_comm (l₁:=a++(b++c)) (l₂:=d)
 have h4:=List.perm_append_comm (l₁:=a++b) (l₂:=c)
 simp only[List.append_assoc]at h1 h2 h3 h4
 exact h1.trans (List.Perm.append_left f (h2.trans (List.Perm.append_left e (h3.trans (List.Perm.append_left d h4)))))
theorem PV(hw:Wf H)(h:oQ F H A q)(ho:A.Ok):ak Pg X 41 [q.v A] H fun v H'=>∃cs M',v=.agg ⟨cs⟩∧Own A cs M'∧SH [] H H' M':=by
 have hS:=SH.refl hw
 have hbig:=ho.big
 have DT:=ho.few
 refine ce [0,1,2,3,5,34,35,36] ?_;refine tl ?_
 refine hS.box rfl fun H1 rg hS=>?_
 have hS:SH [] H H1 [(rg,26,[.slice q.na A.nr q.nc,.slice q.sa A.nr q.sc,.slice q.pa A.nr q.pc,.slice q.oa A.ns q.oc,.slice q.ea A.ns q.ec,vn A.ty])]:=hS
 refine hS.dh fun H2 rz hS=>?_
 repeat(first|(simp only[PP,Nat.reduceBEq,aj hS.wf])|(refine PU.b6 rfl ?_)|(refine hS.aZ ?_))
 refine hS.dh fun H3 rt hS=>?_
 simp only[PP,Nat.reduceBEq,aj hS.wf];refine hS.iX fun Hn hS=>?_;refine hS.aZ ?_;refine hS.aZ ?_
 refine hS.apG (by omega) (h.ex hS.ext).n.1 (by omega) fun nv H4 gn hgn hS _=>?_
 have hS:=hS.perm (bH gn [_,_,_] [])
 simp only[List.append_nil,List.cons_append,List.nil_append]at hS
 have h1:=hgn.sl
 obtain⟨na,nn,nc,rfl⟩:=h1
 refine hS.iX fun Hn hS=>?_;refine hS.aZ ?_;refine hS.aZ ?_
 refine hS.apG (by omega) (h.ex hS.ext).s.1 (by omega) fun sv H5 gs hgs hS _=>?_
 have hS:=hS.perm (bH gs [_,_,_] gn)
 simp only[List.append_nil,List.cons_append,List.nil_append]at hS
 have h1:=hgs.sl
 obtain⟨sa,sn,sc,rfl⟩:=h1
 refine hS.iX fun Hn hS=>?_;refine hS.aZ ?_;refine hS.aZ ?_
 refine hS.apG (by omega) (h.ex hS.ext).p.1 (by omega) fun pv H6 gp JA hS _=>?_
 have hS:=hS.perm (bH gp [_,_,_] (gs++gn))
 simp only[List.append_nil,List.cons_append,List.nil_append]at hS
 have h1:=JA.sl
 obtain⟨pa,pn,pc,rfl⟩:=h1
 refine hS.iX fun Hn hS=>?_;refine hS.aZ ?_;refine hS.aZ ?_
 refine hS.apG (by omega) (h.ex hS.ext).o.1 (by omega) fun ov H7 go hgo hS _=>?_
 have hS:=hS.perm (bH go [_,_,_] (gp++(gs++gn)))
 simp only[List.append_nil,List.cons_append,List.nil_append]at hS
 have h1:=hgo.sl
 obtain⟨oa,on,oc,rfl⟩:=h1
 refine hS.iX fun Hn hS=>?_;refine hS.aZ ?_;simp only[PP,Nat.reduceBEq,aj hS.wf]
 refine lp2 5 36 (I:=fun m x5 Df H'=>∃i ev evs ge R,Df=vn i∧i +m=A.ns∧GB 45 1 ev evs ge∧Dc 47 3 ((A.eg.take i).map oJ) evs R∧SH [] H H' ((rt,26,[.slice na nn nc,.slice sa sn sc,.slice pa pn pc,.slice oa on oc,ev,vn A.ty])::(rz,26,[.slice none 0 0,.slice none 0 0,.slice none 0 0,.slice none 0 0,.slice none 0 0,vi 0])::(rg,26,[.slice q.na A.nr q.nc,.slice q.sa A.nr q.sc,.slice q.pa A.nr q.pc,.slice q.oa A.ns q.oc,.slice q.ea A.ns q.ec,vn A.ty])::(ge++(R++(go++(gp++(gs++gn))))))) ?_ A.ns ⟨0,_,[],[],[],rfl,by omega,GB.nil _ _,rfl,hS⟩
 clear hS
 rintro m x5 Df bW H8 ⟨i,ev,evs,ge,R,rfl,him,hge,hR,hS⟩
 have hE:evs.length=min i A.ns:=by rw[←hR.len,List.length_map,List.length_take,ho.o9]
 refine tl ?_
 simp only[PP,Nat.reduceBEq]
 refine ah (fun hc=>?_) (fun hc=>?_)
 rotate_left
 ·obtain rfl:i=A.ns:=by omega
  refine tl ?_
  rw[List.take_of_length_le (by rw[ho.o9];omega)]at hR
  have hown:=Own.of hgn hgs JA hgo hge hR
  have h1:=hge.sl
  obtain⟨ea,en,ec,rfl⟩:=h1
  refine hS.bU ?_;refine hS.iX fun Hn hS=>?_
  refine rr ?_
  simp only[PP,Nat.reduceBEq,aj hS.wf];refine hS.bU ?_
  exact⟨_,_,rfl,hown,(SH.drop (A:=[_,_,_]) hS).perm (acf ge R go gp gs gn)⟩
 have hi:i<A.ns:=by omega
 refine h.JH hS.ext hi fun p a c hf=>?_
 refine hS.iW ?_;simp only[PP,Nat.reduceBEq,aj hS.wf]
 refine hS.adr (by omega) (hf.ex hS.ext).1 (by have:=ho.len i;omega) fun v2 H9 gr hgr hS Pz=>?_
 have h1:=hgr.sl
 obtain⟨ra,rn,rc,rfl⟩:=h1
 refine hS.U1 rfl rfl rfl (by omega) fun T_ rx hS jE=>?_
 have hS:=hS.perm (L':=(rx,45,ay (.slice ra rn rc))::(ge++([(rt,26,[.slice na nn nc,.slice sa sn sc,.slice pa pn pc,.slice oa on oc,ev,vn A.ty]),(rz,26,[.slice none 0 0,.slice none 0 0,.slice none 0 0,.slice none 0 0,.slice none 0 0,vi 0]),(rg,26,[.slice q.na A.nr q.nc,.slice q.sa A.nr q.sc,.slice q.pa A.nr q.pc,.slice q.oa A.ns q.oc,.slice q.ea A.ns q.ec,vn A.ty])]++(gr++(R++(go++(gp++(gs++gn)))))))) (by
  refine List.Perm.cons _ ?_
  have p1:=bH (gr++[(rt,26,[.slice na nn nc,.slice sa sn sc,.slice pa pn pc,.slice oa on oc,ev,vn A.ty]),(rz,26,[.slice none 0 0,.slice none 0 0,.slice none 0 0,.slice none 0 0,.slice none 0 0,vi 0]),(rg,26,[.slice q.na A.nr q.nc,.slice q.sa A.nr q.sc,.slice q.pa A.nr q.pc,.slice q.oa A.ns q.oc,.slice q.ea A.ns q.ec,vn A.ty])]) ge (R++(go++(gp++(gs++gn))))
  have p2:=bH gr [(rt,26,[.slice na nn nc,.slice sa sn sc,.slice pa pn pc,.slice oa on oc,ev,vn A.ty]),(rz,26,[.slice none 0 0,.slice none 0 0,.slice none 0 0,.slice none 0 0,.slice none 0 0,vi 0]),(rg,26,[.slice q.na A.nr q.nc,.slice q.sa A.nr q.sc,.slice q.pa A.nr q.pc,.slice q.oa A.ns q.oc,.slice q.ea A.ns q.ec,vn A.ty])] (R++(go++(gp++(gs++gn))))
  simp only[List.append_assoc]at p1
  exact p1.trans (List.Perm.append_left ge p2))
 refine hge.FN hS (by omega) rfl rfl (by omega) fun v' H11 WA hge' hS _ _ mH=>?_
 have h1:=hge'.sl
 obtain⟨ea,en,ec,rfl⟩:=h1
 have hS:=hS.perm (bH WA [_,_,_] _)
 simp only[List.append_nil,List.cons_append,List.nil_append]at hS
 refine hS.qc fun H12 hS=>?_
 refine(show∀K:Prop,K→_∧K from fun K hK=>?_) _ ?_
 ·simp only[jE,aA,az Pz,aC]
  rcases mH with e|e<;>rw[e]<;>apply KI (a:=rt) (by intros;rfl) (by kernel_rfl) (by kernel_rfl) hK
 refine PU.of (au (by omega) (by omega)) ?_
 refine⟨A.ns -(i +1),by omega,_,_,_,_,rfl,i +1,_,_,WA,R++gr,by rw[show((i:Int) +1)=((i +1:Nat):Int) by omega],by omega,hge',?_,hS.perm ?_⟩
 ·rw[WL ho.o9 hi]
  exact hR.snoc hgr
 ·refine(List.Perm.append_left [_,_,_] (List.Perm.append_left WA ?_))
  rw[List.append_assoc]
  exact bH gr R _
end Go.Proofs.Lu
set_option maxRecDepth 100000
set_option maxHeartbeats 4000000
namespace Go.Proofs.Lu
open Go.Ae Go.Ae.M Go.Proofs.Lv
variable{F:Nat→Prop}{H0 H:aa}{L M:List aL}{S:List Nat}{K:Nat→Prop}{A:At}{q:AV}
theorem _root_.Go.Proofs.Lv.Bs.n'{b n:Nat}{v:Value}{mk:List Bool}(h:Bs b H n v mk):Bs b (hN H) n v mk:=h
theorem _root_.Go.Ae.wP{c:Cl}{l:List Cl}(h:c.k≠2∧c.k≠3):noTwo (c::l)=noTwo l:=by
 unfold noTwo
 rw[all_eq,all_eq,List.all_cons]
 have h2:Nat.beq c.k 2=false:=by rw[←Bool.not_eq_true];intro e;exact h.1 (Nat.eq_of_beq_eq_true e)
 have h3:Nat.beq c.k 3=false:=by rw[←Bool.not_eq_true];intro e;exact h.2 (Nat.eq_of_beq_eq_true e)
 rw[h2,h3];rfl
theorem _root_.Go.Ae.gU(n:Nat)(p:Value)(H:aa)(l:List Cl):noTwo (Xx n p H (hN H)::l)=noTwo l:=by
 refine wP ?_
 have:Xx n p H (hN H)=(ai (gG p) fun a=>some (Cl.mk 4 a.block a.off n hh0 hh0)).getD (cl 1):=by
  show av (Nat.ble H.next H.next) _ _=_
  rw[Nat.ble_eq_true_of_le (Nat.le_refl _)];rfl
 rw[this]
 cases gG p with
 |none=>exact⟨by show(1:Nat)≠2;decide,by show(1:Nat)≠3;decide⟩
 |some a=>exact⟨by show(4:Nat)≠2;decide,by show(4:Nat)≠3;decide⟩
theorem _root_.Go.Ae.jh(l:List Cl):noTwo (cl 0::l)=noTwo l:=wP ⟨by decide,by decide⟩
theorem _root_.Go.Ae.NQ(l:List Cl):noTwo (cl 1::l)=noTwo l:=wP ⟨by decide,by decide⟩
theorem _root_.Go.Ae.fA:noTwo []=true:=rfl
theorem LP{b rm rg:Nat}{v:Value}{mk:List Bool}(hrm:H.cell rm 0=some v)(hrl:rm<H.next)(hrg:H.cell rg 1=some (.slice q.sa A.nr q.sc))(hgl:rg<H.next)(hA:oQ F H A q)(hl:Bs b H A.ns v mk)(ho:A.Ok)(hmk:∀s,on mk s↔A.Mk true s):
 Wnt A A.leads H (.func (.func 39) ⟨[]⟩ ⟨[pr rm,pr rg]⟩):=by
 intro H' s e hx hw he
 have hl:=hl.ex hx
 have hA:=hA.ex hx
 have hs:=ho.lt he
 obtain⟨he1,_,he3⟩:=ho.e s hs e he
 have hrm:H'.cell rm 0=some v:=(jv (hx.obj rm hrl (by simp)) 0).trans hrm
 have hrg:H'.cell rg 1=some (.slice q.sa A.nr q.sc):=(jv (hx.obj rg hgl (by simp)) 1).trans hrg
 have hrl:=Nat.lt_of_lt_of_le hrl hx.next
 have hgl:=Nat.lt_of_lt_of_le hgl hx.next
 show ak Pg X 39 [_,pr rm,pr rg] H' _
 have hS:=SH.refl hw
 refine ce [0,1,2,3,4] ?_;refine tl ?_
 refine hS.box rfl fun H1 rb hS=>?_
 have hS:SH [] H' H1 [(rb,47,[vn e.1,vn e.2.1,vn e.2.2])]:=hS
 have hl1:=(hl.ex hS.ext).n'
 have hA1:=(hA.ex hS.ext).n'
 obtain⟨ea,ec,rfl,_⟩:=id hl
 refine hS.yS hrm hrl ?_
 repeat(first|(simp only[PP,Nat.reduceBEq,aj hS.wf])|(refine hS.iW ?_))
 refine hl1.at he1 fun p t ht=>?_
 (try simp only[aj hS.wf])
 refine aB (fun hb=>?_) (fun hb=>?_)
 ·refine hS.iW ?_;simp only[PP,Nat.reduceBEq,aj hS.wf]
  refine aG (fun hc=>?_) (fun hc=>?_)
  ·refine(show∀K:Prop,K→_∧K from fun K hK=>?_) _ ?_
   ·exact bq (by simp only[gU,jh,fA]) hK
   refine rr ?_;exact⟨⟨true,rfl,fun _=>⟨(hmk _).1 (ht.1 hb),fun h=>absurd (by omega) hc⟩,fun _=>rfl⟩,hS.ext⟩
  have hca:=ho.call he (by omega)
  refine hS.yS hrm hrl ?_
  simp only[PP,Nat.reduceBEq,aj hS.wf]
  refine hS.yS hrg hgl ?_
  repeat(first|(simp only[PP,Nat.reduceBEq,aj hS.wf])|(refine hS.iW ?_))
  refine hA1.ldS ho hca fun p=>?_
  (try simp only[aj hS.wf])
  refine hl1.at (ho.s _ hca).1 fun p t2 ht2=>?_
  (try simp only[aj hS.wf])
  refine(show∀K:Prop,K→_∧K from fun K hK=>?_) _ ?_
  ·exact bq (by simp only[gU,jh,fA]) hK
  refine rr ?_;exact⟨⟨t2,rfl,fun h=>⟨(hmk _).1 (ht.1 hb),fun _=>(hmk _).1 (ht2.1 h)⟩,fun h=>ht2.2 ((hmk _).2 (h.2 (by omega)))⟩,hS.ext⟩
 ·refine(show∀K:Prop,K→_∧K from fun K hK=>?_) _ ?_
  ·exact bq (by simp only[gU,jh,fA]) hK
  refine rr ?_;refine⟨⟨false,rfl,fun h=>(by cases h),fun h=>?_⟩,hS.ext⟩
  rw[hb]at ht
  exact absurd (ht.2 ((hmk _).2 h.1)) (by simp)
end Go.Proofs.Lu
set_option maxRecDepth 100000
set_option maxHeartbeats 4000000
namespace Go.Proofs.Lu
open Go.Ae Go.Ae.M Go.Proofs.Lv
variable{F:Nat→Prop}{H0 H:aa}{L M:List aL}{S:List Nat}{K:Nat→Prop}{A T:At}{q:AV}
theorem Uu{rt re s:Nat}{e:Ed}(hB:Bd rt T M)(hS:SH S H0 H (M++((re,47,[vn e.1,vn e.2.1,vn e.2.2])::L)))(hs:s<T.ns)(hl:T.eg.length=T.ns)(ht:(T.E s).length≤1000000){x0 x1 x2 x3 x4 x5 x8 x26 x27 x28 pI x38 x39:Value}{bW:List (Nat×Value)}{K:Out→Prop}(hlk:Ag bW 51=.bool true)
 (kk:∀bW H' M',Bd rt (T.pu s e) M'→SH S H0 H' (M'++((re,47,[vn e.1,vn e.2.1,vn e.2.2])::L))→K (.norm (tT x0 x1 x2 x3 x4 x5 (pr rt) (vn s) x8 (pr re) x26 x27 x28 pI x38 x39 bW H'))):
 aS Pg X (sub Dv [1,1,1,1,1,1,0,1,0,0,1,1,0,0,1,1,1,0,0,1,1,0,0,1,1]) (tT x0 x1 x2 x3 x4 x5 (pr rt) (vn s) x8 (pr re) x26 x27 x28 pI x38 x39 bW H) K:=by
 obtain⟨nv,sv,pv,ov,ev,evs,gn,gs,gp,go,ge,R,rfl,hgn,hgs,JA,hgo,hge,hR⟩:=hB
 have hev:evs.length=T.ns:=by rw[←hR.len,List.length_map,hl]
 rcases hge with⟨_,h0,_⟩|⟨rE,n,aO,rfl,hn,rfl⟩
 ·rw[h0]at hev;simp at hev;omega
 obtain rfl:n=T.ns:=by omega
 obtain⟨A',gb,B,rfl,hgb,hput⟩:=hR.at s (by omega)
 have hE:(T.eg.map oJ)[s]?.getD []=oJ (T.E s):=by
  unfold At.E
  rw[List.getElem?_map,List.getElem?_eq_getElem (show s<T.eg.length by omega)];rfl
 rw[hE]at hgb
 have hv0:(evs++aO)[s]?=some evs[s]:=by rw[List.getElem?_append_left (by omega)];exact List.getElem?_eq_getElem (by omega)
 have hS:SH S H0 H ((re,47,[vn e.1,vn e.2.1,vn e.2.2])::(rt,26,[nv,sv,pv,ov,.slice (some ⟨rE,0,none⟩) T.ns (aQ 1),vn T.ty])::(rE,45,evs++aO)::(gb++((gn++(gs++(gp++go)))++(A'++(B++L))))):=hS.perm (by
  have p0:=bH ((rt,26,[nv,sv,pv,ov,.slice (some ⟨rE,0,none⟩) T.ns (aQ 1),vn T.ty])::(gn++(gs++(gp++(go++([(rE,45,evs++aO)]++(A'++(gb++B)))))))) [(re,47,[vn e.1,vn e.2.1,vn e.2.2])] L
  have p1:=bH (gn++(gs++(gp++go))) [(rE,45,evs++aO)] (A'++(gb++(B++L)))
  have p2:=bH ((gn++(gs++(gp++go)))++A') gb (B++L)
  simp only[List.append_assoc,List.cons_append,List.nil_append]at p0 p1 p2⊢
  exact p0.trans (((p1.trans (p2.cons _)).cons _).cons _))
 refine tl ?_
 rw[hlk]
 refine aB (fun _=>?_) (fun hb=>by cases hb)
 repeat(first|(simp only[PP,Nat.reduceBEq,aj hS.wf])|(refine hS.iW ?_))
 refine hS.Z5 hs hv0 ?_
 repeat(first|(simp only[PP,Nat.reduceBEq,aj hS.wf])|(refine hS.mQ ?_))
 refine hS.U1 rfl rfl rfl (by omega) fun H2 rx hS jE=>?_
 have hS0:=hS
 have hS:=(hS.to (cs':=[vn e.1,vn e.2.1,vn e.2.2]) rfl).perm (L':=(rx,47,[vn e.1,vn e.2.1,vn e.2.2])::(gb++([(re,47,[vn e.1,vn e.2.1,vn e.2.2]),(rt,26,[nv,sv,pv,ov,.slice (some ⟨rE,0,none⟩) T.ns (aQ 1),vn T.ty]),(rE,45,evs++aO)]++((gn++(gs++(gp++go)))++(A'++(B++L)))))) ((bH [_,_,_] gb _).cons _)
 refine hgb.FN hS (by omega) rfl rfl (by rw[AU];omega) fun v' H3 cO hgb' hS _ _ mH=>?_
 have hS:=hS.perm (bH cO [_,_,_] _)
 simp only[List.cons_append,List.nil_append]at hS
 have hS1:=hS
 obtain⟨va,vl,vc,rfl⟩:=hgb'.sl
 refine hS.Wx hs (by rw[List.length_append];omega) (kk:=fun H4 hS=>?_)
 have n1:re≠rt:=hS.nq 0 1 rfl rfl (by omega)
 have n2:re≠rE:=hS.nq 0 2 rfl rfl (by omega)
 have n3:rt≠rE:=hS.nq 1 2 rfl rfl (by omega)
 refine(show∀K:Prop,K→_∧K from fun K hK=>?_) _ ?_
 ·have r1:∀{o n:Nat}{a b:aa},o +n≤3→gY ⟨2,0,0,0,hM H H2,H3⟩ ⟨4,re,o,n,a,b⟩=true:=fun h=>lY (hS0.get 1 rfl) ((hS1.get 0 rfl).f_ rfl) h (AY ⟨_,_,_,rfl⟩)
  have r2:∀{a b:aa},gY ⟨2,0,0,0,hM H H2,H3⟩ ⟨4,rt,4,1,a,b⟩=true:=fun{a b}=>lY (hS0.get 2 rfl) ((hS1.get 1 rfl).f_ rfl) (by show 4 +1≤6;omega) (by
   intro v hv
   have hv:v∈[Value.slice (some ⟨rE,0,none⟩) T.ns (aQ 1)]:=hv
   rw[List.mem_singleton]at hv
   subst hv
   exact kI _ _ _ fun x h=>by cases h;rfl)
  have r3:∀{a b:aa},gY ⟨2,0,0,0,hM H H2,H3⟩ ⟨4,rE,s,1,a,b⟩=true:=fun{a b}=>lY (hS0.get 3 rfl) ((hS1.get 2 rfl).f_ rfl) (by rw[List.length_append];omega) (by
   intro v hv
   have:v=evs[s]:=by
    have h1:((evs++aO).drop s).take 1=[evs[s]]:=by
     rw[List.drop_eq_getElem_cons (by rw[List.length_append];omega),List.take_succ_cons,List.take_zero,List.getElem_append_left (by omega)]
    rw[h1,List.mem_singleton]at hv
    exact hv
   subst this
   exact yj hR _ (List.getElem_mem _))
  simp only[jE,aA,aC]
  rcases mH with e|e<;>rw[e]<;>apply Na (A:=hM H H2) (B:=H3) (a:=re) (b:=rt) (c:=rE) n1 n2 n3 (by rfl) (by kernel_rfl) (by kernel_rfl) hK<;>repeat' apply And.intro
  all_goals first|exact trivial|(intro h;cases h;done)|exact fun _=>⟨rfl,rfl⟩|exact fun _=>r1 (by omega)|exact fun _=>r2|exact fun _=>r3
 refine kk _ _ ((rt,26,[nv,sv,pv,ov,.slice (some ⟨rE,0,none⟩) T.ns (aQ 1),vn T.ty])::(gn++(gs++(gp++(go++([(rE,45,evs.set s (.slice va vl vc)++aO)]++(A'++(cO++B)))))))) ⟨nv,sv,pv,ov,_,evs.set s (.slice va vl vc),gn,gs,gp,go,_,A'++(cO++B),rfl,hgn,hgs,JA,hgo,.inr ⟨rE,T.ns,aO,rfl,by rw[List.length_set];omega,rfl⟩,?_⟩ ?_
 ·have:=hput (.slice va vl vc) (oJ (T.E s++[e])) cO (by rw[Gm];exact hgb')
  have e2:(T.pu s e).eg.map oJ=(T.eg.map oJ).set s (oJ (T.E s++[e])):=List.map_set
  rw[e2];exact this
 ·rw[List.set_append_left _ _ (by omega)]at hS
  refine hS.perm (List.Perm.symm ?_)
  have p0:=bH ((rt,26,[nv,sv,pv,ov,.slice (some ⟨rE,0,none⟩) T.ns (aQ 1),vn T.ty])::(gn++(gs++(gp++(go++([(rE,45,evs.set s (.slice va vl vc)++aO)]++(A'++(cO++B)))))))) [(re,47,[vn e.1,vn e.2.1,vn e.2.2])] L
  have p1:=bH (gn++(gs++(gp++go))) [(rE,45,evs.set s (.slice va vl vc)++aO)] (A'++(cO++(B++L)))
  have p2:=bH ((gn++(gs++(gp++go)))++A') cO (B++L)
  simp only[List.append_assoc,List.cons_append,List.nil_append]at p0 p1 p2⊢
  exact p0.trans (((p1.trans (p2.cons _)).cons _).cons _)
def At.cl(T:At)(s:Nat):At:={T with eg:=T.eg.set s []}
theorem Uv{rt s:Nat}(hB:Bd rt T M)(hS:SH S H0 H (M++L))(hs:s<T.ns)(hl:T.eg.length=T.ns){K:Value→Value→Value→aa→Prop}(kk:∀v p u H' M',Bd rt (T.cl s) M'→SH S H0 H' (M'++L)→K v p u H'):
 ME (Go.Ae.ko none (.pointer (some ⟨rt,4,none⟩)) H) fun v H1=>PU (sU 1 v (vn s)) fun p=>ME (Go.Ae.Af 1 p (.slice none 0 0) H1) fun u H2=>K v p u H2:=by
 obtain⟨nv,sv,pv,ov,ev,evs,gn,gs,gp,go,ge,R,rfl,hgn,hgs,JA,hgo,hge,hR⟩:=hB
 have hev:evs.length=T.ns:=by rw[←hR.len,List.length_map,hl]
 rcases hge with⟨_,h0,_⟩|⟨rE,n,aO,rfl,hn,rfl⟩
 ·rw[h0]at hev;simp at hev;omega
 obtain rfl:n=T.ns:=by omega
 obtain⟨A',gb,B,rfl,hgb,hput⟩:=hR.at s (by omega)
 have hS:SH S H0 H ((rt,26,[nv,sv,pv,ov,.slice (some ⟨rE,0,none⟩) T.ns (aQ 1),vn T.ty])::(rE,45,evs++aO)::(gb++((gn++(gs++(gp++go)))++(A'++(B++L))))):=hS.perm (by
  have p1:=bH (gn++(gs++(gp++go))) [(rE,45,evs++aO)] (A'++(gb++(B++L)))
  have p2:=bH ((gn++(gs++(gp++go)))++A') gb (B++L)
  simp only[List.append_assoc,List.cons_append,List.nil_append]at p1 p2⊢
  exact(p1.trans (p2.cons _)).cons _)
 refine hS.aZ ?_
 refine hS.Xz hs (by rw[List.length_append];omega) (kk:=fun p H4 hS=>?_)
 have hS:SH S H0 H4 ((rt,26,[nv,sv,pv,ov,.slice (some ⟨rE,0,none⟩) T.ns (aQ 1),vn T.ty])::(rE,45,(evs++aO).set s (.slice none 0 0))::(gb++((gn++(gs++(gp++go)))++(A'++(B++L))))):=hS
 refine kk _ p undef H4 ((rt,26,[nv,sv,pv,ov,.slice (some ⟨rE,0,none⟩) T.ns (aQ 1),vn T.ty])::(gn++(gs++(gp++(go++([(rE,45,evs.set s (.slice none 0 0)++aO)]++(A'++([]++B)))))))) ⟨nv,sv,pv,ov,_,evs.set s (.slice none 0 0),gn,gs,gp,go,_,A'++([]++B),rfl,hgn,hgs,JA,hgo,.inr ⟨rE,T.ns,aO,rfl,by rw[List.length_set];omega,rfl⟩,?_⟩ ?_
 ·have:=hput (.slice none 0 0) (oJ []) [] (GB.nil _ _)
  have e2:(T.cl s).eg.map oJ=(T.eg.map oJ).set s (oJ []):=List.map_set
  rw[e2];exact this
 ·rw[List.set_append_left _ _ (by omega)]at hS
  have hS:=SH.drop (A:=gb) (hS.perm (bH [_,_] gb _))
  refine hS.perm (List.Perm.symm ?_)
  have p1:=bH (gn++(gs++(gp++go))) [(rE,45,evs.set s (.slice none 0 0)++aO)] (A'++(B++L))
  simp only[List.append_assoc,List.cons_append,List.nil_append]at p1⊢
  exact p1.cons _
end Go.Proofs.Lu
set_option maxRecDepth 100000
set_option maxHeartbeats 4000000
namespace Go.Proofs.Lu
open Go.Ae Go.Ae.M Go.Proofs.Lv
variable{F:Nat→Prop}{H0 H:aa}{L M:List aL}{S:List Nat}{K:Nat→Prop}{A T:At}{q:AV}
namespace At
variable{i j k:Nat}
structure GL(A T:At)(i:Nat):Prop where
 nm:T.nm=A.nm
 st:T.st=A.st
 sp:T.sp=A.sp
 ow:T.ow=A.ow
 ty:T.ty=A.ty
 o9:T.eg.length=A.ns
 e:∀s,s<i→T.E s=A.wV s
open Classical in
noncomputable def oU(A:At)(i j:Nat):List Ed:=if A.met i then((A.E i).take j).filter (fun e=>decide (A.leads e))else[]
theorem Uw(i:Nat):A.oU i 0=[]:=by unfold oU;rw[List.take_zero,List.filter_nil];split<;>rfl
theorem JD(i:Nat):A.oU i (A.E i).length=A.wV i:=by unfold oU wV;rw[List.take_length]
theorem Ux(i j:Nat):(A.oU i j).length≤(A.E i).length:=by
 classical
 unfold oU
 split
 ·exact Nat.le_trans (List.length_filter_le _ _) (by rw[List.length_take];omega)
 ·exact Nat.zero_le _
theorem Gx{i j:Nat}(hj:j<(A.E i).length)(hm:A.met i)(hl:A.leads (A.E i)[j]):A.oU i (j +1)=A.oU i j++[(A.E i)[j]]:=by
 unfold oU
 rw[if_pos hm,if_pos hm,List.take_add_one,List.getElem?_eq_getElem hj,List.filter_append]
 congr 1
 show List.filter _ [_]=_
 rw[List.filter_cons,if_pos (by simpa using hl)];rfl
theorem C8{i j:Nat}(hj:j<(A.E i).length)(h:¬(A.met i∧A.leads (A.E i)[j])):A.oU i (j +1)=A.oU i j:=by
 unfold oU
 by_cases hm:A.met i
 ·rw[if_pos hm,if_pos hm,List.take_add_one,List.getElem?_eq_getElem hj,List.filter_append]
  have:List.filter (fun e=>@decide (A.leads e) (Classical.propDecidable _)) (some (A.E i)[j]).toList=[]:=by
   show List.filter _ [_]=_
   rw[List.filter_cons,if_neg (by simpa using fun hl=>h ⟨hm,hl⟩)];rfl
  rw[this,List.append_nil]
 ·rw[if_neg hm,if_neg hm]
theorem GL.ns(h:GL A T k):T.ns=A.ns:=congrArg List.length h.ow
theorem GL.init(ho:A.Ok):GL A A 0:=⟨rfl,rfl,rfl,rfl,rfl,ho.o9,fun s h=>absurd h (Nat.not_lt_zero s)⟩
theorem acg(hl:T.eg.length=T.ns){i:Nat}(hi:i<T.ns)(t:Nat):(T.cl i).E t=if t=i then[]else T.E t:=by
 show(T.eg.set i [])[t]?.getD []=_
 rw[List.getElem?_set]
 by_cases h:i=t
 ·subst h;rw[if_pos rfl,if_pos (by omega),if_pos rfl];rfl
 ·rw[if_neg h,if_neg (fun e=>h e.symm)];rfl
theorem GL.cl(h:GL A T i)(hi:i<A.ns):GL A (T.cl i) i∧(T.cl i).E i=A.oU i 0:=by
 have hl:T.eg.length=T.ns:=h.o9.trans h.ns.symm
 refine⟨⟨h.nm,h.st,h.sp,h.ow,h.ty,(List.length_set ..).trans h.o9,fun s hs=>?_⟩,?_⟩
 ·rw[acg hl (by rw[h.ns];exact hi),if_neg (by omega)];exact h.e s hs
 ·rw[acg hl (by rw[h.ns];exact hi),if_pos rfl,Uw]
theorem GL.pu(h:GL A T i)(hi:i<A.ns)(e:Ed):GL A (T.pu i e) i∧(T.pu i e).E i=T.E i++[e]:=by
 have hl:T.eg.length=T.ns:=h.o9.trans h.ns.symm
 refine⟨⟨h.nm,h.st,h.sp,h.ow,h.ty,(List.length_set ..).trans h.o9,fun s hs=>?_⟩,?_⟩
 ·rw[Z7 hl (by rw[h.ns];exact hi),if_neg (by omega)];exact h.e s hs
 ·rw[Z7 hl (by rw[h.ns];exact hi),if_pos rfl]
theorem GL.succ(h:GL A T i)(he:T.E i=A.wV i):GL A T (i +1):=
 ⟨h.nm,h.st,h.sp,h.ow,h.ty,h.o9,fun s hs=>by
   rcases Nat.lt_or_ge s i with h1|h1
   ·exact h.e s h1
   ·obtain rfl:s=i:=by omega
    exact he⟩
theorem GL.done(h:GL A T A.ns):T=A.trim:=by
 obtain⟨h1,h2,h3,h4,h5,h6,h7⟩:=h
 have:T.eg=(List.range A.ns).map A.wV:=by
  refine List.ext_getElem (by rw[List.length_map,List.length_range];exact h6) fun s hs hs'=>?_
  rw[List.getElem_map,List.getElem_range,←h7 s (by omega)]
  unfold E
  rw[List.getElem?_eq_getElem hs];rfl
 cases T
 simp only at h1 h2 h3 h4 h5 this
 subst h1 h2 h3 h4 h5 this
 rfl
end At
theorem EO(hw:Wf H)(h:oQ F H A q)(ho:A.Ok):ak Pg X 14 [q.v A] H (Qe (fun v H'=>∃q':AV,v=q'.v A.trim∧oQ (H.next≤·) H' A.trim q') H):=by
 have hS:=SH.refl hw
 have hbig:=ho.big
 refine ce [0,1,2,3,4,5,6,7,8,10,26,27,28,37,38,39] ?_;refine tl ?_
 refine hS.box rfl fun H1 rg hS=>?_
 rw[jF]at hS
 refine hS.dh fun H2 rz hS=>?_
 refine hS.sW 1 rfl (by show 0 +6≤6;omega) ?_
 refine ak.mono (oH hS.wf (h.ex hS.ext) ho) ?_
 rintro v H3 ⟨rfl,hx⟩
 have hS:=hS.call hx
 simp only[PP,Nat.reduceBEq]
 refine aB (fun hb=>by cases hb) (fun _=>?_)
 refine hS.sW 1 rfl (by show 0 +6≤6;omega) ?_
 refine ak.mono (q_ hS.wf (h.ex hS.ext) ho true) ?_
 rintro v H4 ⟨⟨mk,hm,hmk⟩,hx⟩
 have hS:=hS.call hx
 obtain⟨ma,mc,rfl,_⟩:=id hm
 refine hS.ns rfl rfl rfl fun H5 rm hS hx5=>?_
 have hS:SH [] H H5 [(rm,36,[.slice ma A.ns mc]),(rz,26,[.slice none 0 0,.slice none 0 0,.slice none 0 0,.slice none 0 0,.slice none 0 0,vi 0]),(rg,26,q.cells A)]:=hS
 refine hS.sW 2 rfl (by show 0 +6≤6;omega) ?_
 refine hS.ld 2 (o:=1) rfl rfl ?_
 have hwant:=LP (A:=A) (q:=q) (rm:=rm) (rg:=rg) ((hS.get 0 rfl).cell rfl) (hS.lo _ (List.mem_of_getElem? (i:=0) rfl)).2 ((hS.get 2 rfl).cell (o:=1) rfl) (hS.lo _ (List.mem_of_getElem? (i:=2) rfl)).2 (h.ex hS.ext) (hm.ex hx5) ho hmk
 have hSt:A.st.length=A.nr:=ho.NH
 have DT:=ho.few
 rw[show Value.slice q.sa A.nr q.sc=.slice q.sa A.st.length q.sc by rw[hSt]]
 refine ak.mono (PG (fa:=q.sa) (fc:=q.sc) (fl:=A.st) (w:=A.leads) hS.wf (h.ex hS.ext) ho (by rw[hSt];exact(h.ex hS.ext).s) (fun s hs=>?_) (by omega) hwant) ?_
 ·obtain⟨r,hr,rfl⟩:=List.getElem_of_mem hs
  have:=(ho.s r (by omega)).1
  unfold At.S at this
  rwa [List.getElem?_eq_getElem hr]at this
 rintro v H6 ⟨⟨yw,hm2,hk2⟩,hx6⟩
 have hS:=hS.call hx6
 have hmet:∀s,on yw s↔A.met s:=fun s=>by
  rw[hk2]
  have:(·∈A.st)=A.P8:=by
   funext s
   apply propext
   constructor
   ·intro hs
    obtain⟨r,hr,rfl⟩:=List.getElem_of_mem hs
    refine⟨r,by omega,?_⟩
    unfold At.S
    rw[List.getElem?_eq_getElem hr];rfl
   ·rintro⟨r,hr,rfl⟩
    unfold At.S
    rw[List.getElem?_eq_getElem (show r<A.st.length by omega)]
    exact List.getElem_mem _
  rw[this];rfl
 obtain⟨na,nc,rfl,_⟩:=id hm2
 refine hS.sW 2 rfl (by show 0 +6≤6;omega) ?_
 refine ak.mono (PV hS.wf (h.ex hS.ext) ho) ?_
 rintro v H7 ⟨cs,M',rfl,hown,Aq⟩
 have lQ:=hS
 refine Aq.ns (v:=.agg ⟨cs⟩) hown.1 rfl hown.2.1 fun H8 rt hS DJ=>?_
 have hB:=hown.2.2 rt
 have hS:SH [] H6 H8 (((rt,26,cs)::M')++[]):=hS.cast (List.append_nil _).symm
 generalize(rt,26,cs)::M'=M at hB hS
 have hrg:∀{H'}(_:Ext H6 H'),Bk H' rg 26 (q.cells A):=fun{H'} hx=>(lQ.bk (rg,26,q.cells A) (by simp)).ex (lQ.lo (rg,26,q.cells A) (by simp)).2 hx
 refine ME.ld ((hrg hS.ext).cell (o:=4) rfl) ?_
 simp only[PP,Nat.reduceBEq]
 refine lp7 7 8 10 28 37 38 39 (I:=fun m x7 x8 aW x28 pI x38 x39 H'=>∃i T M,x28=vn i∧i +m=A.ns∧At.GL A T i∧Bd rt T M∧SH [] H6 H' (M++[])) ?_ A.ns ⟨0,A,M,rfl,by omega,At.GL.init ho,hB,hS⟩
 clear hS hB Aq DJ
 clear M
 rintro m x7 x8 aW x28 pI x38 x39 bW H9 ⟨i,T,M,rfl,him,hT,hB,hS⟩
 refine tl ?_
 simp only[PP,Nat.reduceBEq]
 refine ah (fun hc=>?_) (fun hc=>?_)
 rotate_left
 ·obtain rfl:i=A.ns:=by omega
  obtain rfl:=hT.done
  have ok:=At.uQ ho
  refine tl ?_
  rw[List.append_nil]at hS
  have Yt:=SH.frame (M:=[]) lQ hS
  obtain⟨q0,hr0,_⟩:=hB.atM Yt ok
  refine ME.sW hr0 ?_
  have hS:=Yt.perm (L':=(rz,26,[.slice none 0 0,.slice none 0 0,.slice none 0 0,.slice none 0 0,.slice none 0 0,vi 0])::(rm,36,[.slice ma A.ns mc])::(rg,26,q.cells A)::M) ((List.perm_append_comm (l₁:=M) (l₂:=[(rm,36,[.slice ma A.ns mc]),(rz,26,[.slice none 0 0,.slice none 0 0,.slice none 0 0,.slice none 0 0,.slice none 0 0,vi 0]),(rg,26,q.cells A)])).trans (List.Perm.swap _ _ _))
  refine hS.st 0 rfl rfl (Nat.le_refl 6) rfl fun T_ hS=>?_
  have hS:SH [] H T_ ((rz,26,q0.cells A.trim)::(rm,36,[.slice ma A.ns mc])::(rg,26,q.cells A)::M):=hS
  have hS2:=hS.perm (L':=M++[(rz,26,q0.cells A.trim),(rm,36,[.slice ma A.ns mc]),(rg,26,q.cells A)]) (List.perm_append_comm (l₁:=[_,_,_]))
  obtain⟨q1,hr1,hat⟩:=hB.atM hS2 ok
  have eq:q1.cells A.trim=q0.cells A.trim:=by
   obtain⟨cs,hm,h6⟩:∃cs,((rt,26,cs):aL)∈M∧cs.length=6:=by
    obtain⟨nv,sv,pv,ov,ev,evs,gn,gs,gp,go,ge,R,rfl,_⟩:=hB
    exact⟨_,List.mem_cons_self ..,rfl⟩
   have a0:=(Yt.bk _ (List.mem_append_left _ hm)).read (o:=0) (n:=6) (by show 0 +6≤cs.length;omega)
   have a1:=(hS2.bk _ (List.mem_append_left _ hm)).read (o:=0) (n:=6) (by show 0 +6≤cs.length;omega)
   have b0:=a0.symm.trans hr0
   have b1:=a1.symm.trans hr1
   exact Option.some.inj (b1.symm.trans b0)
  refine rr ?_
  refine hS.sW 0 rfl (Nat.le_refl 6) ?_
  exact⟨⟨q1,by rw[←eq];rfl,hat⟩,hS.ext⟩
 have hi:i<A.ns:=by omega
 have ach:=lQ.ext
 refine h.JH (ach.trans hS.ext) hi fun p ea ec hf=>?_
 simp only[PP,Nat.reduceBEq]
 refine Uv hB hS (by rw[hT.ns];exact hi) (hT.o9.trans hT.ns.symm) fun v p u T_ M1 hB1 hS=>?_
 obtain⟨hT1,hj1⟩:=hT.cl hi
 have hlen:=ho.len i
 refine lp2 10 39 (I:=fun m aW x39 H'=>∃j T M,x39=vn j∧j +m=(A.E i).length∧At.GL A T i∧T.E i=A.oU i j∧Bd rt T M∧SH [] H6 H' (M++[])) ?_ (A.E i).length ⟨0,_,M1,rfl,by omega,hT1,hj1,hB1,hS⟩
 clear hS hB hB1 hT hT1 hj1
 rintro m2 aW x39 adM H11 ⟨j,T,M,rfl,hjm,hT,hrow,hB,hS⟩
 refine tl ?_
 simp only[PP,Nat.reduceBEq]
 refine ah (fun hc=>?_) (fun hc=>?_)
 rotate_left
 ·obtain rfl:j=(A.E i).length:=by omega
  refine tl ?_
  refine PU.of (au (by omega) (by omega)) ?_
  refine⟨A.ns -(i +1),by omega,_,_,_,_,_,_,_,_,_,rfl,i +1,T,M,by rw[show((i:Int) +1)=((i +1:Nat):Int) by omega],by omega,hT.succ (by rw[hrow,At.JD]),hB,hS⟩
 have hj:j<(A.E i).length:=by omega
 refine Jz (hf.ex (ach.trans hS.ext)) hj fun p=>?_
 refine hS.ns rfl rfl rfl fun H12 re hS adN=>?_
 have hS:SH [] H6 H12 (M++[(re,47,[vn (A.E i)[j].1,vn (A.E i)[j].2.1,vn (A.E i)[j].2.2])]):=hS.perm (bH [_] M [])
 have hTl:(T.E i).length≤1000000:=by rw[hrow];have:=At.Ux (A:=A) i j;omega
 refine(hm2.ex hS.ext).at hi fun p t ht=>?_
 simp only[PP,Nat.reduceBEq]
 refine aB (fun hb=>?_) (fun hb=>?_)
 ·have hmi:=(hmet i).1 (ht.1 hb)
  refine ME.sW ((hS.bk (re,47,[vn (A.E i)[j].1,vn (A.E i)[j].2.1,vn (A.E i)[j].2.2]) (by simp)).read (o:=0) (n:=3) (Nat.le_refl 3)) ?_
  refine ak.mono (hwant H12 i (A.E i)[j] (hx6.trans hS.ext) hS.wf (List.getElem_mem hj)) ?_
  rintro v H13 ⟨⟨b,rfl,hbl⟩,ads⟩
  have hS:=hS.call ads
  cases b with
  |true=>
   obtain⟨hT1,hr1⟩:=hT.pu hi (A.E i)[j]
   refine Uu (L:=[]) hB hS (by rw[hT.ns];exact hi) (hT.o9.trans hT.ns.symm) hTl rfl fun bW H14 M1 hB1 hS=>?_
   simp only[PP,Nat.reduceBEq]
   refine tl ?_
   refine PU.of (au (by omega) (by omega)) ?_
   refine⟨(A.E i).length -(j +1),by omega,_,_,_,_,rfl,j +1,_,M1,by rw[show((j:Int) +1)=((j +1:Nat):Int) by omega],by omega,hT1,by rw[hr1,hrow,At.Gx hj hmi (hbl.1 rfl)],hB1,(SH.drop (A:=[_]) (hS.perm (bH _ [(re,47,_)] [])))⟩
  |false=>
   refine tl ?_
   refine tl ?_
   refine PU.of (au (by omega) (by omega)) ?_
   refine⟨(A.E i).length -(j +1),by omega,_,_,_,_,rfl,j +1,T,M,by rw[show((j:Int) +1)=((j +1:Nat):Int) by omega],by omega,hT,by rw[hrow,At.C8 hj (fun h=>by cases hbl.2 h.2)],hB,(SH.drop (A:=[_]) (hS.perm (bH _ [(re,47,_)] [])))⟩
 ·have hmi:¬A.met i:=fun h=>by
   have:=ht.2 ((hmet i).2 h)
   rw[hb]at this;cases this
  subst hb
  refine tl ?_
  refine tl ?_
  refine PU.of (au (by omega) (by omega)) ?_
  refine⟨(A.E i).length -(j +1),by omega,_,_,_,_,rfl,j +1,T,M,by rw[show((j:Int) +1)=((j +1:Nat):Int) by omega],by omega,hT,by rw[hrow,At.C8 hj (fun h=>hmi h.1)],hB,(SH.drop (A:=[_]) (hS.perm (bH _ [(re,47,_)] [])))⟩
end Go.Proofs.Lu
set_option maxRecDepth 100000
set_option maxHeartbeats 4000000
namespace Go.Proofs.Lu
open Go.Ae Go.Ae.M Go.Proofs.Lv
variable{F F':Nat→Prop}{H0 H:aa}{L M:List aL}{S:List Nat}{A:At}{q q':AV}{a a':Option Addr}{n c c':Nat}
theorem LQ{l:List Nat}(hw:Wf H)(h:eX F 3 H a n 1 (bO l))(h':eX F' 3 H a' n 1 (bO l))(hn:n≤16777216):ak Pg X 44 [.slice a n c,.slice a' n c'] H fun v H'=>v=.bool true∧H'=H:=by
 have hl:l.length=n:=by have:=h.1.1;simpa using this
 refine ce [0,1,4,5,12,13] ?_;refine tl ?_
 simp only[PP,Nat.reduceBEq]
 refine aG (fun hc=>absurd trivial hc) (fun _=>?_)
 refine JE 4 5 13 (I:=fun m x4 x5 bA H'=>∃i:Nat,bA=vn i∧i +m=n∧H'=H) ?_ n ⟨0,rfl,by omega,rfl⟩
 rintro m x4 x5 bA bW H1 ⟨i,rfl,him,rfl⟩
 refine tl ?_
 simp only[PP,Nat.reduceBEq]
 refine ah (fun hc2=>?_) (fun hc2=>?_)
 rotate_left
 ·refine tl ?_
  refine rr ?_;exact⟨rfl,rfl⟩
 have hi:i<n:=by omega
 have hv:=CW (l:=l) (show i<l.length by omega)
 refine eX.ix (H:=hN H1) (show eX F 3 (hN H1) a n 1 (bO l)from h) hi hv fun p=>?_
 (try simp only[aj hw])
 refine eX.ix (H:=hN H1) (show eX F' 3 (hN H1) a' n 1 (bO l)from h') hi hv fun p2=>?_
 (try simp only[aj hw])
 simp only[PP,Nat.reduceBEq]
 refine bq (by simp only[gU,jh,fA]) ?_
 refine aG (fun hc=>absurd trivial hc) (fun _=>?_)
 refine PU.of (au (by omega) (by omega)) ?_
 exact⟨n -(i +1),by omega,_,_,_,_,_,rfl,i +1,by rw[show((i:Int) +1)=((i +1:Nat):Int) by omega],by omega,rfl⟩
theorem aaa{l:List ByteArray}(hw:Wf H)(h:eX F 9 H a n 1 (l.map .string))(h':eX F' 9 H a' n 1 (l.map .string))(hn:n≤16777216):ak Pg X 43 [.slice a n c,.slice a' n c'] H fun v H'=>v=.bool true∧H'=H:=by
 have hl:l.length=n:=by have:=h.1.1;simpa using this
 refine ce [0,1,4,5,12,13] ?_;refine tl ?_
 simp only[PP,Nat.reduceBEq]
 refine aG (fun hc=>absurd trivial hc) (fun _=>?_)
 refine JE 4 5 13 (I:=fun m x4 x5 bA H'=>∃i:Nat,bA=vn i∧i +m=n∧H'=H) ?_ n ⟨0,rfl,by omega,rfl⟩
 rintro m x4 x5 bA bW H1 ⟨i,rfl,him,rfl⟩
 refine tl ?_
 simp only[PP,Nat.reduceBEq]
 refine ah (fun hc2=>?_) (fun hc2=>?_)
 rotate_left
 ·refine tl ?_
  refine rr ?_;exact⟨rfl,rfl⟩
 have hi:i<n:=by omega
 have hv:(l.map Value.string)[i]?=some (.string (l[i]'(by omega))):=by rw[List.getElem?_map,List.getElem?_eq_getElem (show i<l.length by omega)];rfl
 refine eX.ix (H:=hN H1) (show eX F 9 (hN H1) a n 1 (l.map .string)from h) hi hv fun p=>?_
 (try simp only[aj hw])
 refine eX.ix (H:=hN H1) (show eX F' 9 (hN H1) a' n 1 (l.map .string)from h') hi hv fun p2=>?_
 (try simp only[aj hw])
 simp only[PP,Nat.reduceBEq]
 refine bq (by simp only[gU,jh,fA]) ?_
 refine aB (fun hc=>absurd hc (by simp)) (fun _=>?_)
 refine PU.of (au (by omega) (by omega)) ?_
 exact⟨n -(i +1),by omega,_,_,_,_,_,rfl,i +1,by rw[show((i:Int) +1)=((i +1:Nat):Int) by omega],by omega,rfl⟩
theorem aci:Vf Pg 47=some (.inr [1,1,1]):=by kernel_rfl
theorem acj(k g t:Int)(i j:Nat):eD Pg .neq 47 (.tmp i) (.tmp j) (.agg ⟨[vi k,vi g,vi t]⟩) (.agg ⟨[vi k,vi g,vi t]⟩)=some (.bool false):=by
 show rX .neq (P7 Pg 47 (.tmp i) (.tmp j) _ _)=_
 have:P7 Pg 47 (.tmp i) (.tmp j) (.agg ⟨[vi k,vi g,vi t]⟩) (.agg ⟨[vi k,vi g,vi t]⟩)=some true:=by
  have e:gI Pg 47 (.agg ⟨[vi k,vi g,vi t]⟩) (.agg ⟨[vi k,vi g,vi t]⟩)=(av (Dk k k) (av (Dk g g) (av (Dk t t) (some true) (some false)) (some false)) (some false)):=by
   show(ai (Vf Pg 47) fun q=>_)=_
   rw[aci];rfl
  have r:∀x:Int,Dk x x=true:=fun x=>by rw[AP];simp
  rw[r,r,r]at e
  exact e
 rw[this];rfl
theorem ack{l:List Ed}(hw:Wf H)(h:eX F 47 H a l.length 3 (oJ l))(h':eX F' 47 H a' l.length 3 (oJ l))(hn:l.length≤16777216):ak Pg X 47 [.slice a l.length c,.slice a' l.length c'] H fun v H'=>v=.bool true∧H'=H:=by
 refine ce [0,1,4,5,12,13] ?_;refine tl ?_
 simp only[PP,Nat.reduceBEq]
 refine aG (fun hc=>absurd trivial hc) (fun _=>?_)
 refine JE 4 5 13 (I:=fun m x4 x5 bA H'=>∃i:Nat,bA=vn i∧i +m=l.length∧H'=H) ?_ l.length ⟨0,rfl,by omega,rfl⟩
 rintro m x4 x5 bA bW H1 ⟨i,rfl,him,rfl⟩
 refine tl ?_
 simp only[PP,Nat.reduceBEq]
 refine ah (fun hc2=>?_) (fun hc2=>?_)
 rotate_left
 ·refine tl ?_
  refine rr ?_;exact⟨rfl,rfl⟩
 have hi:i<l.length:=by omega
 refine Jz (H:=hN H1) (show eX F 47 (hN H1) a l.length 3 (oJ l)from h) hi fun p=>?_
 (try simp only[aj hw])
 refine Jz (H:=hN H1) (show eX F' 47 (hN H1) a' l.length 3 (oJ l)from h') hi fun p2=>?_
 (try simp only[aj hw])
 refine PU.of (acj ..) ?_
 simp only[PP,Nat.reduceBEq]
 refine bq (by simp only[gU,jh,fA]) ?_
 refine PU.of (au (by omega) (by omega)) ?_
 exact⟨l.length -(i +1),by omega,_,_,_,_,_,rfl,i +1,by rw[show((i:Int) +1)=((i +1:Nat):Int) by omega],by omega,rfl⟩
theorem PW{l:List Ed}(hw:Wf H)(h:eX F 47 H a l.length 3 (oJ l))(h':eX F' 47 H a' l.length 3 (oJ l))(hn:l.length≤16777216):ak Pg X 46 [.slice a l.length c,.slice a' l.length c'] H fun v H'=>v=.bool true∧H'=H:=by
 refine ce [0,1,4] ?_;refine tl ?_
 refine ak.mono (ack hw h h' hn) ?_
 rintro v H' ⟨rfl,rfl⟩
 refine rr ?_;exact⟨rfl,rfl⟩
theorem aab(hw:Wf H)(h:oQ F H A q)(h':oQ F' H A q')(ho:A.Ok):ak Pg X 45 [.slice q.ea A.ns q.ec,.slice q'.ea A.ns q'.ec,.func (.func 46) #[] #[]] H fun v H'=>v=.bool true∧H'=H:=by
 have hbig:=ho.big
 refine ce [0,1,2,6,7,8,9,15,16,17] ?_;refine tl ?_
 simp only[PP,Nat.reduceBEq]
 refine aG (fun hc=>absurd trivial hc) (fun _=>?_)
 refine TB 6 7 8 9 17 (I:=fun m x6 x7 x8 x9 gQ H'=>∃i:Nat,gQ=vn i∧i +m=A.ns∧H'=H) ?_ A.ns ⟨0,rfl,by omega,rfl⟩
 rintro m x6 x7 x8 x9 gQ bW H1 ⟨i,rfl,him,rfl⟩
 refine tl ?_
 simp only[PP,Nat.reduceBEq]
 refine ah (fun hc2=>?_) (fun hc2=>?_)
 rotate_left
 ·refine tl ?_
  refine rr ?_;exact⟨rfl,rfl⟩
 have hi:i<A.ns:=by omega
 have hlen:=ho.len i
 refine h.JH (Ext.refl _) hi fun p ra rc hf=>?_
 refine h'.JH (Ext.refl _) hi fun p2 ra2 rc2 hf2=>?_
 refine ak.mono (show ak Pg X 46 _ _ _ from PW hw hf hf2 (by omega)) ?_
 rintro v H' ⟨rfl,rfl⟩
 simp only[PP,Nat.reduceBEq]
 refine aB (fun hb=>by cases hb) (fun _=>?_)
 refine PU.of (au (by omega) (by omega)) ?_
 exact⟨A.ns -(i +1),by omega,_,_,_,_,_,_,_,rfl,i +1,by rw[show((i:Int) +1)=((i +1:Nat):Int) by omega],by omega,rfl⟩
theorem PX(hw:Wf H)(h:oQ F H A q)(h':oQ F' H A q')(ho:A.Ok):ak Pg X 16 [q.v A,q'.v A] H (Qe (fun v _=>v=.bool true) H):=by
 have hS:=SH.refl hw
 have hbig:=ho.big
 have DT:=ho.few
 refine ce [0,1,2,3,4] ?_;refine tl ?_
 refine hS.box rfl fun H1 r1 hS=>?_
 refine hS.box rfl fun H2 r2 hS=>?_
 have hS:SH [] H H2 [(r2,26,[.slice q'.na A.nr q'.nc,.slice q'.sa A.nr q'.sc,.slice q'.pa A.nr q'.pc,.slice q'.oa A.ns q'.oc,.slice q'.ea A.ns q'.ec,vn A.ty]),(r1,26,[.slice q.na A.nr q.nc,.slice q.sa A.nr q.sc,.slice q.pa A.nr q.pc,.slice q.oa A.ns q.oc,.slice q.ea A.ns q.ec,vn A.ty])]:=hS
 repeat(first|(simp only[PP,Nat.reduceBEq,aj hS.wf])|(refine hS.aZ ?_))
 refine ah (fun _=>?_) (fun hc=>absurd trivial hc)
 have g:=h.ex hS.ext
 have g':=h'.ex hS.ext
 repeat(refine hS.aZ ?_)
 refine ak.mono (aaa hS.wf g.n g'.n (by omega)) ?_
 rintro v _ ⟨rfl,rfl⟩
 simp only[PP,Nat.reduceBEq,aj hS.wf];refine hS.aZ ?_;refine hS.aZ ?_
 refine ak.mono (LQ hS.wf g.s g'.s (by omega)) ?_
 rintro v _ ⟨rfl,rfl⟩
 simp only[PP,Nat.reduceBEq,aj hS.wf];refine hS.aZ ?_;refine hS.aZ ?_
 refine ak.mono (LQ hS.wf g.p g'.p (by omega)) ?_
 rintro v _ ⟨rfl,rfl⟩
 simp only[PP,Nat.reduceBEq,aj hS.wf];refine hS.aZ ?_;refine hS.aZ ?_
 refine ak.mono (LQ hS.wf g.o g'.o (by omega)) ?_
 rintro v _ ⟨rfl,rfl⟩
 simp only[PP,Nat.reduceBEq,aj hS.wf];refine hS.aZ ?_;refine hS.aZ ?_
 refine ak.mono (aab hS.wf g g' ho) ?_
 rintro v _ ⟨rfl,rfl⟩
 refine rr ?_;exact⟨rfl,hS.ext⟩
end Go.Proofs.Lu
set_option maxRecDepth 100000
set_option maxHeartbeats 4000000
namespace Go.Proofs.Lu
open Go.Ae Go.Ae.M Go.Proofs.Lv
variable{F F':Nat→Prop}{H0 H:aa}{L M:List aL}{S:List Nat}{A:At}{q q':AV}{a a':Option Addr}
theorem zh(a b:Bool)(i j:Nat):eD Pg .neq 4 (.tmp i) (.tmp j) (.bool a) (.bool b)=some (.bool (!(a==b))):=by
 cases a<;>cases b<;>kernel_rfl
structure yl(H:aa)(A:At)(q:AV)(r:Nat):Prop where
 m:oQ (fun _=>True) H A q
 lt:r<H.next
 b:Bk H r 26 (q.cells A)
theorem yl.ex{H':aa}{r:Nat}(h:yl H A q r)(hx:Ext H H'):yl H' A q r:=⟨h.m.ex hx,Nat.lt_of_lt_of_le h.lt hx.next,h.b.ex h.lt hx⟩
theorem yl.n{r:Nat}(h:yl H A q r):yl (hN H) A q r:=⟨h.m.n',h.lt,h.b⟩
section ld
variable{r:Nat}{K:Value→aa→Prop}
theorem yl.NR(h:yl H A q r)(k:K (q.v A) H):ME (Go.Ae.ko (some 6) (pr r) H) K:=ME.sW (h.b.read (o:=0) (n:=6) (Nat.le_refl 6)) k
theorem yl.ld1(h:yl H A q r)(k:K (.slice q.sa A.nr q.sc) H):ME (Go.Ae.ko none (.pointer (some ⟨r,1,none⟩)) H) K:=ME.ld (h.b.cell (o:=1) rfl) k
theorem yl.ld0(h:yl H A q r)(k:K (.slice q.na A.nr q.nc) H):ME (Go.Ae.ko none (.pointer (some ⟨r,0,none⟩)) H) K:=ME.ld (h.b.cell (o:=0) rfl) k
theorem yl.ld2(h:yl H A q r)(k:K (.slice q.pa A.nr q.pc) H):ME (Go.Ae.ko none (.pointer (some ⟨r,2,none⟩)) H) K:=ME.ld (h.b.cell (o:=2) rfl) k
theorem yl.ld3(h:yl H A q r)(k:K (.slice q.oa A.ns q.oc) H):ME (Go.Ae.ko none (.pointer (some ⟨r,3,none⟩)) H) K:=ME.ld (h.b.cell (o:=3) rfl) k
theorem yl.WN(h:yl H A q r)(k:K (.slice q.ea A.ns q.ec) H):ME (Go.Ae.ko none (.pointer (some ⟨r,4,none⟩)) H) K:=ME.ld (h.b.cell (o:=4) rfl) k
end ld
theorem WO{b r3 r5:Nat}{va vt vp vq ve:Option Addr}{ca ct cp cq ce:Nat}{l1 l2 l3 l4 mk:List Bool}(hw:Wf H)(h3:yl H A q r3)(h5:yl H A.trim q' r5)(ho:A.Ok)
 (b1:Bs b H A.nr (.slice va A.nr ca) l1)(b2:Bs b H A.nr (.slice vt A.nr ct) l2)(b3:Bs b H A.nr (.slice vp A.nr cp) l3)(b4:Bs b H A.nr (.slice vq A.nr cq) l4)(b5:Bs b H A.ns (.slice ve A.ns ce) mk)
 (e1:∀r,r<A.nr→(on l1 r↔A.Mk true (A.S r)))(e2:∀r,r<A.nr→(on l2 r↔A.trim.Mk true (A.S r)))(e3:∀r,r<A.nr→(on l3 r↔A.Mk false (A.S r)))(e4:∀r,r<A.nr→(on l4 r↔A.trim.Mk false (A.S r)))(e5:∀s,on mk s↔A.Mk true s)
 {x0 x2 x4 a_ bP bA dL bI cr gQ fP iI x20 i_:Value}{bW:List (Nat×Value)}{K:Out→Prop}
 (kk:∀x2 a_ bW,aS Pg X (sub aH [1,1,1,1,1,1,1,1,1]) (aD x0 x2 (pr r3) x4 (pr r5) (.slice va A.nr ca) (.slice vt A.nr ct) (.slice vp A.nr cp) (.slice vq A.nr cq) (.slice ve A.ns ce) a_ bP bA dL bI cr gQ fP iI x20 i_ bW H) K):
 aS Pg X (sub aH [1,1,1,1,1,1,1,1]) (aD x0 x2 (pr r3) x4 (pr r5) (.slice va A.nr ca) (.slice vt A.nr ct) (.slice vp A.nr cp) (.slice vq A.nr cq) (.slice ve A.ns ce) a_ bP bA dL bI cr gQ fP iI x20 i_ bW H) K:=by
 have DT:=ho.few
 refine tl ?_
 refine lp2 2 11 (I:=fun m x2 a_ H'=>∃i:Nat,a_=vn i∧i +m=A.nr∧H'=H) ?_ A.nr ⟨0,rfl,by omega,rfl⟩
 rintro m x2 a_ bW H1 ⟨i,rfl,him,rfl⟩
 refine tl ?_
 simp only[PP,Nat.reduceBEq]
 refine ah (fun hc=>?_) (fun hc=>?_)
 rotate_left
 ·exact kk _ _ _
 have hi:i<A.nr:=by omega
 have hs:=(ho.s i hi).1
 have hmt:A.met (A.S i):=At.Ui hi
 have same:∀{tok:Bool},A.trim.Mk tok (A.S i)↔A.Mk tok (A.S i):=At.Wu ho hmt
 refine(b1.n').at hi fun p1 t1 ht1=>?_
 (try simp only[aj hw])
 refine(b2.n').at hi fun p2 t2 ht2=>?_
 (try simp only[aj hw])
 have e12:t1=t2:=by
  rw[Bool.eq_iff_iff,ht1,ht2,e1 i hi,e2 i hi,same]
 subst e12
 refine PU.of (zh ..) ?_
 simp only[beq_self_eq_true,Bool.not_true]
 simp only[PP,Nat.reduceBEq]
 refine(b3.n').at hi fun p3 t3 ht3=>?_
 (try simp only[aj hw])
 refine(b4.n').at hi fun p4 t4 ht4=>?_
 (try simp only[aj hw])
 have e34:t3=t4:=by
  rw[Bool.eq_iff_iff,ht3,ht4,e3 i hi,e4 i hi,same]
 subst e34
 refine PU.of (zh ..) ?_
 simp only[beq_self_eq_true,Bool.not_true]
 simp only[PP,Nat.reduceBEq]
 refine(b1.n').at hi fun p5 t5 ht5=>?_
 (try simp only[aj hw])
 refine h3.n.ld1 ?_
 (try simp only[aj hw])
 refine h3.n.m.ldS ho hi fun p6=>?_
 (try simp only[aj hw])
 refine(b5.n').at hs fun p7 t7 ht7=>?_
 (try simp only[aj hw])
 have e57:t5=t7:=by
  rw[Bool.eq_iff_iff,ht5,ht7,e1 i hi,e5]
 subst e57
 refine PU.of (zh ..) ?_
 simp only[beq_self_eq_true,Bool.not_true]
 simp only[PP,Nat.reduceBEq]
 refine(b3.n').at hi fun p8 t8 ht8=>?_
 (try simp only[aj hw])
 refine aB (fun hb=>?_) (fun hb=>?_)
 ·refine(b1.n').at hi fun p9 t9 ht9=>?_
  (try simp only[aj hw])
  have:t9=true:=ht9.2 ((e1 i hi).2 ((e3 i hi).1 (ht8.1 hb)).mono)
  subst this
  simp only[PP,Nat.reduceBEq]
  refine bq (by simp only[gU,jh,fA]) ?_
  refine aB (fun hb=>by cases hb) (fun _=>?_)
  refine PU.of (au (by omega) (by omega)) ?_
  exact⟨A.nr -(i +1),by omega,_,_,_,_,rfl,i +1,by rw[show((i:Int) +1)=((i +1:Nat):Int) by omega],by omega,rfl⟩
 ·refine bq (by simp only[gU,jh,fA]) ?_
  refine PU.of (au (by omega) (by omega)) ?_
  exact⟨A.nr -(i +1),by omega,_,_,_,_,rfl,i +1,by rw[show((i:Int) +1)=((i +1:Nat):Int) by omega],by omega,rfl⟩
end Go.Proofs.Lu
set_option maxRecDepth 100000
set_option maxHeartbeats 4000000
namespace Go.Proofs.Lu
open Go.Ae Go.Ae.M Go.Proofs.Lv
variable{F F':Nat→Prop}{H0 H:aa}{L M:List aL}{S:List Nat}{A:At}{q q':AV}{a a':Option Addr}
def cf(mk:List Bool):Nat:=(mk.filter (fun b=>!b)).length
theorem Uy:∀{mk:List Bool}{k:Nat},mk[k]?=some false→cf (mk.set k true) +1=cf mk
 |[],k,h=>by simp at h
 |b::mk,0,h=>by
  simp at h;subst h;rfl
 |b::mk,k +1,h=>by
  have:=Uy (mk:=mk) (k:=k) (by simpa using h)
  show((b::mk.set k true).filter _).length +1=((b::mk).filter _).length
  unfold cf at this
  cases b
  ·simp only[List.filter_cons,Bool.not_false,if_true,List.length_cons]at this⊢;omega
  ·simp only[List.filter_cons,Bool.not_true]at this⊢;exact this
theorem LU{mk:List Bool}{k s:Nat}(hk:k<mk.length):on (mk.set k true) s↔s=k∨on mk s:=by
 unfold on
 rw[List.getElem?_set]
 by_cases h:k=s
 ·subst h;simp[hk]
 ·rw[if_neg h]
  constructor
  ·exact fun h=>.inr h
  ·rintro(rfl|h')
   ·exact absurd rfl h
   ·exact h'
theorem EP(mk:List Bool)(k:Nat)(b:Bool):(bools mk).set k (.bool b)=bools (mk.set k b):=List.map_set.symm
theorem C9{mk:List Bool}{k:Nat}(hk:k<mk.length):∃t:Bool,(bools mk)[k]?=some (.bool t)∧(t=true↔on mk k)∧mk[k]?=some t:=by
 refine⟨mk[k],by rw[List.getElem?_map,List.getElem?_eq_getElem hk];rfl,?_,List.getElem?_eq_getElem hk⟩
 unfold on
 rw[List.getElem?_eq_getElem hk];simp
theorem acm{l:List Ed}{c k f:Nat}{v:Value}{K:Value→Value→Value→aa→Prop}(h:eX F 47 H a l.length 3 (oJ l))(hk:k<l.length)(hf:f<3)(hv:[vn l[k].1,vn l[k].2.1,vn l[k].2.2][f]?=some v)(kk:∀p p2,K p p2 v H):PU (sU 3 (.slice a l.length c) (vn k)) fun p=>PU (fld f p) fun p2=>ME (Go.Ae.ko none p2 H) (K p p2):=by
 obtain⟨r,o,h1,h2,h3,_⟩:=h.1.idx (c:=c) (by omega) hk
 refine PU.of h1 ?_
 refine ME.ld (h3 f v hf ?_) (kk _ _)
 rw[←hv]
 have:=Ls (List.getElem?_eq_getElem hk)
 have:=congrArg (fun l=>l[f]?) this
 simp only[je,if_pos hf]at this
 exact this
theorem WR{r3:Nat}(hw:Wf H)(h3:yl H A q r3)(ho:A.Ok)
 {x0 x2 x4 x5 x6 x7 x8 x9 aW a_ bP bA dL bI cr gQ fP iI x20 i_:Value}{bW:List (Nat×Value)}{K:Out→Prop}
 (kk:∀rc mk bA bW H',SH [] H H' [(rc,4,bools mk)]→mk.length=A.ns→(∀s,on mk s↔A.P8 s)→aS Pg X (sub aH [1,1,1,1,1,1,1,1,1,1,1]) (aD x0 x2 (pr r3) x4 x5 x6 x7 x8 x9 aW a_ (.slice (some ⟨rc,0,none⟩) A.ns A.ns) bA dL bI cr gQ fP iI x20 i_ bW H') K):
 aS Pg X (sub aH [1,1,1,1,1,1,1,1,1]) (aD x0 x2 (pr r3) x4 x5 x6 x7 x8 x9 aW a_ bP bA dL bI cr gQ fP iI x20 i_ bW H) K:=by
 have DT:=ho.few
 have hbig:=ho.big
 have hS:=SH.refl hw
 refine tl ?_
 refine h3.NR ?_
 refine ak.mono (jG hw q A) ?_
 rintro v H1 ⟨rfl,hx⟩
 have hS:=hS.call hx
 refine hS.mkS (Nat.le_refl _) (by omega) fun H2 rc hS=>?_
 rw[iV]at hS
 have hS:SH [] H H2 [(rc,4,bools (List.replicate A.ns false))]:=hS.to (by simp)
 refine xQ 13 (I:=fun m bA H'=>∃i mk,bA=vn i∧i +m=A.nr∧mk.length=A.ns∧(∀s,on mk s↔∃r,r<i∧s=A.S r)∧SH [] H H' [(rc,4,bools mk)]) ?_ A.nr ⟨0,_,rfl,by omega,by simp,fun s=>?_,hS⟩
 rotate_left
 ·unfold on
  constructor
  ·intro h
   obtain⟨h1,h2⟩:=List.getElem?_eq_some_iff.1 h
   simp at h2
  ·rintro⟨r,hr,_⟩;omega
 clear hS
 rintro m bA bW H3 ⟨i,mk,rfl,him,hml,hon,hS⟩
 refine tl ?_
 have h3':=h3.ex hS.ext
 simp only[PP,Nat.reduceBEq]
 refine h3'.ld1 ?_
 simp only[PP,Nat.reduceBEq]
 refine ah (fun hc=>?_) (fun hc=>?_)
 rotate_left
 ·obtain rfl:i=A.nr:=by omega
  exact kk rc mk _ _ _ hS hml hon
 have hi:i<A.nr:=by omega
 refine h3'.ld1 ?_
 refine h3'.m.ldS ho hi fun p=>?_
 refine hS.Xz (ho.s i hi).1 (by simpa [hml]using(ho.s i hi).1) (kk:=fun p H4 hS=>?_)
 refine PU.of (au (by omega) (by omega)) ?_
 refine⟨A.nr -(i +1),by omega,_,_,_,rfl,i +1,mk.set (A.S i) true,by rw[show((i:Int) +1)=((i +1:Nat):Int) by omega],by omega,by rw[List.length_set];exact hml,fun s=>?_,?_⟩
 ·rw[LU (by rw[hml];exact(ho.s i hi).1),hon]
  constructor
  ·rintro(rfl|⟨r,hr,rfl⟩)
   ·exact⟨i,by omega,rfl⟩
   ·exact⟨r,by omega,rfl⟩
  ·rintro⟨r,hr,rfl⟩
   rcases Nat.lt_or_ge r i with h|h
   ·exact .inr ⟨r,h,rfl⟩
   ·obtain rfl:r=i:=by omega
    exact .inl rfl
 ·rw[←EP];exact hS
end Go.Proofs.Lu
set_option maxRecDepth 100000
set_option maxHeartbeats 4000000
namespace Go.Proofs.Lu
open Go.Ae Go.Ae.M Go.Proofs.Lv
variable{F F':Nat→Prop}{H0 H:aa}{L M:List aL}{S:List Nat}{A:At}{q q':AV}{a a':Option Addr}
structure Cm(A:At)(mk:List Bool):Prop where
 len:mk.length=A.ns
 st:∀s,A.P8 s→on mk s
 so:∀s,on mk s→A.met s
def shut(A:At)(mk:List Bool)(k:Nat):Prop:=on mk k→∀e∈A.trim.E k,on mk e.2.2
def WS(P:List Bool→Prop)(JJ mk:List Bool)(ag:Bool):Prop:=(ag=false∧mk=JJ∧P mk)∨(ag=true∧cf mk<cf JJ)
theorem WS.mono{P Q:List Bool→Prop}{JJ mk:List Bool}{ag:Bool}(h:WS P JJ mk ag)(hPQ:P mk→Q mk):WS Q JJ mk ag:=h.imp (fun⟨a,b,c⟩=>⟨a,b,hPQ c⟩) id
theorem WS.le{P:List Bool→Prop}{JJ mk:List Bool}{ag:Bool}(h:WS P JJ mk ag):cf mk≤cf JJ:=by
 rcases h with⟨_,h,_⟩|⟨_,h⟩
 ·rw[h];exact Nat.le_refl _
 ·omega
theorem Cm.done{mk:List Bool}(h:Cm A mk)(ho:A.Ok)(hc:∀k,k<A.ns→shut A mk k)(s:Nat):on mk s↔A.met s:=by
 refine⟨h.so s,fun hm=>?_⟩
 have:=(At.Lr (w:=fun _=>True) ho (fun _ _ _=>trivial) (s:=s)).2 hm
 induction this with
 |base s hs=>exact h.st s hs
 |step s e hs he _ ih=>
  have hms:=(At.Lr (w:=fun _=>True) ho (fun _ _ _=>trivial)).1 hs
  have hon:=ih hms
  exact hc s (by rw[←h.len];exact(List.getElem?_eq_some_iff.1 hon).1) hon e he
theorem Cm.set{mk:List Bool}(h:Cm A mk)(ho:A.Ok){k:Nat}(hk:on mk k){e:Ed}(he:e∈A.trim.E k)(ht:e.2.2<A.ns):Cm A (mk.set e.2.2 true):=by
 have hl:e.2.2<mk.length:=by rw[h.len];exact ht
 refine⟨by rw[List.length_set];exact h.len,fun s hs=>(LU hl).2 (.inr (h.st s hs)),fun s hs=>?_⟩
 rcases(LU hl).1 hs with rfl|hs
 ·obtain⟨h1,h2,h3⟩:=(At.oG ho).1 he
  exact At.CS h1 h2 h3
 ·exact h.so s hs
theorem Uz{r5 rc k:Nat}{JJ U':List Bool}{ag1:Bool}{H1:aa}(h5:yl H A.trim q' r5)(ho:A.Ok)(hk:k<A.ns)
 (hC:Cm A U')(hg:WS (fun mk=>∀k',k'<k→shut A mk k') JJ U' ag1)(hS:SH [] H H1 [(rc,4,bools U')])
 {x0 x2 x3 x4 x6 x7 x8 x9 aW a_ bA gQ fP iI x20 i_:Value}{bW:List (Nat×Value)}{K:Out→Prop}
 (kk:∀mk ag cr bW H',Cm A mk→WS (fun mk=>∀k',k'<k +1→shut A mk k') JJ mk ag→SH [] H H' [(rc,4,bools mk)]→K (.exit 8 (aD x0 x2 x3 x4 (pr r5) x6 x7 x8 x9 aW a_ (.slice (some ⟨rc,0,none⟩) A.ns A.ns) bA (.bool ag) (vn k) cr gQ fP iI x20 i_ bW H'))):
 aS Pg X (.loop (sub aH [1,1,1,1,1,1,1,1,1,1,1,0,1,0,0,1,0,1,1,0,0,1,0,0,1,0,0])) (aD x0 x2 x3 x4 (pr r5) x6 x7 x8 x9 aW a_ (.slice (some ⟨rc,0,none⟩) A.ns A.ns) bA (.bool ag1) (vn k) (vi 0) gQ fP iI x20 i_ bW H1) K:=by
 have UA:=At.uQ ho
 have hkt:k<A.trim.ns:=hk
 have hlen:=UA.len k
 refine lp2 14 16 (I:=fun m dL cr H'=>∃i mk ag,cr=vn i∧i +m=(A.trim.E k).length∧dL=.bool ag∧Cm A mk∧WS (fun mk=>(∀k',k'<k→shut A mk k')∧∀i',i'<i→∀e,(A.trim.E k)[i']?=some e→on mk e.2.2) JJ mk ag∧SH [] H H' [(rc,4,bools mk)]) ?_ (A.trim.E k).length ⟨0,U',ag1,rfl,by omega,rfl,hC,hg.mono (fun h=>⟨h,fun i' hi'=>absurd hi' (by omega)⟩),hS⟩
 clear hS hC hg
 rintro m dL cr bW H2 ⟨i,mk,ag,rfl,him,rfl,hC,hg,hS⟩
 have h5':=h5.ex hS.ext
 have hkm:k<mk.length:=by rw[hC.len];exact hk
 refine tl ?_
 obtain⟨t,hv,PY,hvk⟩:=C9 hkm
 refine hS.ix hk hv fun p=>?_
 simp only[PP,Nat.reduceBEq]
 refine aB (fun hb=>?_) (fun hb=>?_)
 rotate_left
 ·refine kk mk ag _ _ _ hC (hg.mono fun h k' hk'=>?_) hS
  rcases Nat.lt_or_ge k' k with h1|h1
  ·exact h.1 k' h1
  ·obtain rfl:k'=k:=by omega
   intro hon
   rw[hb]at PY
   exact absurd (PY.2 hon) (by simp)
 have hon:on mk k:=PY.1 hb
 refine h5'.WN ?_
 refine h5'.m.JH (Ext.refl _) hkt fun p ea ec hf=>?_
 simp only[PP,Nat.reduceBEq]
 refine ah (fun hc=>?_) (fun hc=>?_)
 rotate_left
 ·refine kk mk ag _ _ _ hC (hg.mono fun h k' hk'=>?_) hS
  rcases Nat.lt_or_ge k' k with h1|h1
  ·exact h.1 k' h1
  ·obtain rfl:k'=k:=by omega
   intro _ e he
   obtain⟨i',hi',rfl⟩:=List.getElem_of_mem he
   exact h.2 i' (by omega) _ (List.getElem?_eq_getElem hi')
 have hi:i<(A.trim.E k).length:=by omega
 have hmem:(A.trim.E k)[i]∈A.trim.E k:=List.getElem_mem hi
 have hto:(A.trim.E k)[i].2.2<A.ns:=(UA.e k hkt _ hmem).1
 refine tl ?_
 simp only[PP,Nat.reduceBEq]
 refine h5'.WN ?_
 refine h5'.m.JH (Ext.refl _) hkt fun p ea ec hf=>?_
 refine acm (f:=2) hf hi (by omega) rfl fun p p2=>?_
 obtain⟨t2,hv2,acn,aco⟩:=C9 (mk:=mk) (k:=(A.trim.E k)[i].2.2) (by rw[hC.len];exact hto)
 refine hS.ix hto hv2 fun p=>?_
 simp only[PP,Nat.reduceBEq]
 refine aB (fun hb2=>?_) (fun hb2=>?_)
 ·refine h5'.WN ?_
  refine h5'.m.JH (Ext.refl _) hkt fun p ea ec hf=>?_
  refine acm (f:=2) hf hi (by omega) rfl fun p p2=>?_
  refine hS.Xz hto (by simpa [hC.len]using hto) (kk:=fun p H4 hS=>?_)
  refine PU.of (au (by omega) (by omega)) ?_
  have h2f:t2=false:=by cases t2<;>simp_all
  rw[h2f]at aco
  have hcf:=Uy aco
  refine⟨(A.trim.E k).length -(i +1),by omega,_,_,_,_,rfl,i +1,mk.set (A.trim.E k)[i].2.2 true,true,by rw[show((i:Int) +1)=((i +1:Nat):Int) by omega],by omega,rfl,hC.set ho hon hmem hto,.inr ⟨rfl,by have:=hg.le;omega⟩,?_⟩
  rw[←EP];exact hS
 ·refine PU.of (au (by omega) (by omega)) ?_
  have h2t:t2=true:=by cases t2<;>simp_all
  refine⟨(A.trim.E k).length -(i +1),by omega,_,_,_,_,rfl,i +1,mk,ag,by rw[show((i:Int) +1)=((i +1:Nat):Int) by omega],by omega,rfl,hC,hg.mono fun h=>⟨h.1,fun i' hi' e he=>?_⟩,hS⟩
  rcases Nat.lt_or_ge i' i with h1|h1
  ·exact h.2 i' h1 e he
  ·obtain rfl:i'=i:=by omega
   rw[List.getElem?_eq_getElem hi]at he
   cases he
   exact acn.1 h2t
theorem WT{r3 r5 rc:Nat}{U':List Bool}{H1:aa}(h3:yl H A q r3)(h5:yl H A.trim q' r5)(ho:A.Ok)(hS:SH [] H H1 [(rc,4,bools U')])(hml:U'.length=A.ns)(hon:∀s,on U' s↔A.P8 s)
 {x0 x2 x4 x6 x7 x8 x9 aW a_ bA dL bI cr gQ fP iI x20 i_:Value}{bW:List (Nat×Value)}{K:Out→Prop}
 (kk:∀mk dL bI cr bW H',SH [] H H' [(rc,4,bools mk)]→mk.length=A.ns→(∀s,on mk s↔A.met s)→aS Pg X (sub aH [1,1,1,1,1,1,1,1,1,1,1,1]) (aD x0 x2 (pr r3) x4 (pr r5) x6 x7 x8 x9 aW a_ (.slice (some ⟨rc,0,none⟩) A.ns A.ns) bA dL bI cr gQ fP iI x20 i_ bW H') K):
 aS Pg X (sub aH [1,1,1,1,1,1,1,1,1,1,1]) (aD x0 x2 (pr r3) x4 (pr r5) x6 x7 x8 x9 aW a_ (.slice (some ⟨rc,0,none⟩) A.ns A.ns) bA dL bI cr gQ fP iI x20 i_ bW H1) K:=by
 have hbig:=ho.big
 refine tl ?_
 refine JE 14 15 16 (I:=fun m dL bI cr H'=>∃mk ag,dL=.bool ag∧m=2*cf mk +(if ag=true then 1 else 0)∧Cm A mk∧(ag=false→∀k,k<A.ns→shut A mk k)∧SH [] H H' [(rc,4,bools mk)]) ?_ (2*cf U' +1) ⟨U',true,rfl,rfl,⟨hml,fun s hs=>(hon s).2 hs,fun s hs=>.base s ((hon s).1 hs)⟩,fun h=>(by cases h),hS⟩
 clear hS hml hon
 rintro m dL bI cr bW H2 ⟨JJ,ag0,rfl,hm,hC,hsh,hS⟩
 refine tl ?_
 simp only[PP,Nat.reduceBEq]
 refine aB (fun hb=>?_) (fun hb=>?_)
 rotate_left
 ·exact kk JJ _ _ _ _ _ hS hC.len (hC.done ho (hsh hb))
 refine JE 14 15 16 (I:=fun m dL bI cr H'=>∃k mk ag,bI=vn k∧k +m=A.ns∧dL=.bool ag∧Cm A mk∧WS (fun mk=>∀k',k'<k→shut A mk k') JJ mk ag∧SH [] H H' [(rc,4,bools mk)]) ?_ A.ns ⟨0,JJ,false,rfl,by omega,rfl,hC,.inl ⟨rfl,rfl,fun k' h=>absurd h (by omega)⟩,hS⟩
 rw[hb,if_pos rfl]at hm
 clear hS hC hsh
 rintro m2 dL bI cr bW H3 ⟨k,mk,ag,rfl,hkm,rfl,hC,hg,hS⟩
 refine tl ?_
 have h3':=h3.ex hS.ext
 refine h3'.NR ?_
 refine ak.mono (jG hS.wf q A) ?_
 rintro v H4 ⟨rfl,hx⟩
 have hS:=hS.call hx
 simp only[PP,Nat.reduceBEq]
 refine ah (fun hc=>?_) (fun hc=>?_)
 rotate_left
 ·obtain rfl:k=A.ns:=by omega
  rcases hg with⟨rfl,rfl,hsh⟩|⟨rfl,hlt⟩
  ·exact⟨2*cf mk,by omega,_,_,_,_,_,rfl,mk,false,rfl,rfl,hC,fun _=>hsh,hS⟩
  ·exact⟨2*cf mk +1,by omega,_,_,_,_,_,rfl,mk,true,rfl,rfl,hC,fun h=>(by cases h),hS⟩
 have hk:k<A.ns:=by omega
 refine Uz h5 ho hk hC hg hS fun mk' ag' cr bW H5 hC hg hS=>?_
 simp only[PP,Nat.reduceBEq]
 refine tl ?_
 refine PU.of (au (by omega) (by omega)) ?_
 exact⟨A.ns -(k +1),by omega,_,_,_,_,_,rfl,k +1,mk',ag',by rw[show((k:Int) +1)=((k +1:Nat):Int) by omega],by omega,rfl,hC,hg,hS⟩
end Go.Proofs.Lu
set_option maxRecDepth 100000
set_option maxHeartbeats 4000000
namespace Go.Proofs.Lu
open Go.Ae Go.Ae.M Go.Proofs.Lv
variable{F F':Nat→Prop}{H0 H:aa}{L M:List aL}{S:List Nat}{A:At}{q q':AV}{a a':Option Addr}
namespace At
theorem UB{i:Nat}(j:Nat):∃l,A.wV i=A.oU i j++l:=by
 classical
 unfold wV oU
 by_cases h:A.met i
 ·rw[if_pos h,if_pos h]
  refine⟨((A.E i).drop j).filter (fun e=>decide (A.leads e)),?_⟩
  have:A.E i=(A.E i).take j++(A.E i).drop j:=(List.take_append_drop j _).symm
  conv=>lhs;rw[this]
  rw[List.filter_append]
 ·rw[if_neg h,if_neg h];exact⟨[],rfl⟩
theorem aac{i j:Nat}(hj:j<(A.E i).length)(hm:A.met i)(hl:A.leads (A.E i)[j]):(A.wV i)[(A.oU i j).length]?=some (A.E i)[j]:=by
 obtain⟨l,hl'⟩:=UB (A:=A) (i:=i) (j +1)
 rw[hl',Gx hj hm hl,List.append_assoc,List.getElem?_append_right (Nat.le_refl _),Nat.sub_self];rfl
theorem WU(ho:A.Ok){k:Nat}(hm:A.met k)(hk:A.Mk true k)(h0:A.wV k=[]):k=A.P (A.O k):=by
 cases hk with
 |stop r hr=>rw[(ho.p r hr).2]
 |edge _ e he h1 h2 h3=>
  have:e∈A.wV k:=NI.2 ⟨hm,he,h3,h2⟩
  rw[h0]at this;cases this
end At
theorem Gy{b r5 k i re:Nat}{ve:Option Addr}{ce:Nat}{mke:List Bool}{st:Bool}{H1:aa}(hw:Wf H1)(h5:yl H1 A.trim q' r5)(ho:A.Ok)(hk:k<A.ns)(hm:A.met k)(hi:i<(A.E k).length)(hst:st=true↔A.leads (A.E k)[i])
 (hre:H1.read re 0 3=some [vn (A.E k)[i].1,vn (A.E k)[i].2.1,vn (A.E k)[i].2.2])(b5:Bs b H1 A.ns (.slice ve A.ns ce) mke)(e5:∀s,on mke s↔A.Mk true s)
 {x0 x2 x3 x4 x6 x7 x8 x9 a_ bP bA dL bI cr iI:Value}{bW:List (Nat×Value)}{K:Out→Prop}
 (kk:∀bW,K (.norm (aD x0 x2 x3 x4 (pr r5) x6 x7 x8 x9 (.slice ve A.ns ce) a_ bP bA dL bI cr (vn k) (vn (A.oU k (i +1)).length) iI (pr re) (.bool st) bW H1))):
 aS Pg X (sub aH [1,1,1,1,1,1,1,1,1,1,1,1,0,1,0,0,1,0,0,1,1,0,1,0,0,1,0,0,1,1]) (aD x0 x2 x3 x4 (pr r5) x6 x7 x8 x9 (.slice ve A.ns ce) a_ bP bA dL bI cr (vn k) (vn (A.oU k i).length) iI (pr re) (.bool st) bW H1) K:=by
 have UA:=At.uQ ho
 have hkt:k<A.trim.ns:=hk
 have hE:=At.CR ho k
 have hlen:=UA.len k
 refine tl ?_
 simp only[PP,Nat.reduceBEq]
 refine aB (fun hb=>?_) (fun hb=>?_)
 ·have hle:=hst.1 hb
  have hat:=At.aac hi hm hle
  rw[←hE]at hat
  obtain⟨hj,hje⟩:=List.getElem?_eq_some_iff.1 hat
  refine h5.n.WN ?_
  (try simp only[aj hw])
  refine h5.n.m.JH (Ext.refl _) hkt fun p ea ec hf=>?_
  (try simp only[aj hw])
  simp only[PP,Nat.reduceBEq]
  refine ah (fun hc=>absurd hc (by omega)) (fun _=>?_)
  refine h5.n.WN ?_
  (try simp only[aj hw])
  refine h5.n.m.JH (Ext.refl _) hkt fun p ea ec hf=>?_
  (try simp only[aj hw])
  refine Jz hf hj fun p=>?_
  (try simp only[aj hw])
  rw[hje]
  refine ME.sW (H:=hN H1) hre ?_
  (try simp only[aj hw])
  refine PU.of (acj ..) ?_
  simp only[PP,Nat.reduceBEq]
  refine bq (by simp only[gU,jh,fA]) ?_
  refine PU.of (au (by omega) (by omega)) ?_
  refine tl ?_
  simp only[PP,Nat.reduceBEq]
  refine aB (fun _=>?_) (fun h=>absurd (h.symm.trans hb) (by simp))
  refine b5.at hk fun p t ht=>?_
  have ht1:t=true:=ht.2 ((e5 k).2 (.edge k _ (List.getElem_mem hi) (fun _=>rfl) hle.2 hle.1))
  subst ht1
  simp only[PP,Nat.reduceBEq]
  refine aB (fun h=>by cases h) (fun _=>?_)
  rw[show(((A.oU k i).length:Nat):Int) +1=(((A.oU k (i +1)).length:Nat):Int) by rw[At.Gx hi hm hle,List.length_append];rfl]
  exact kk _
 ·refine tl ?_
  simp only[PP,Nat.reduceBEq]
  refine aB (fun h=>absurd (h.symm.trans hb) (by simp)) (fun _=>?_)
  have hnl:¬A.leads (A.E k)[i]:=fun h=>by have:=hst.2 h;rw[hb]at this;cases this
  rw[←At.C8 hi (fun h=>hnl h.2)]
  exact kk _
theorem WV{b r3 r5 rc:Nat}{va ve:Option Addr}{ca ce:Nat}{l1 mke mk:List Bool}{H1:aa}(h3:yl H A q r3)(h5:yl H A.trim q' r5)(ho:A.Ok)
 (b1:Bs b H A.nr (.slice va A.nr ca) l1)(b5:Bs b H A.ns (.slice ve A.ns ce) mke)(e1:∀r,r<A.nr→(on l1 r↔A.Mk true (A.S r)))(e5:∀s,on mke s↔A.Mk true s)
 (hS:SH [] H H1 [(rc,4,bools mk)])(hml:mk.length=A.ns)(hmet:∀s,on mk s↔A.met s)
 {x0 x2 x4 x7 x8 x9 a_ bA dL bI cr gQ fP iI x20 i_:Value}{bW:List (Nat×Value)}{K:Out→Prop}
 (kk:∀x2 gQ fP iI x20 i_ bW H',SH [] H H' [(rc,4,bools mk)]→aS Pg X (sub aH [1,1,1,1,1,1,1,1,1,1,1,1,1]) (aD x0 x2 (pr r3) x4 (pr r5) (.slice va A.nr ca) x7 x8 x9 (.slice ve A.ns ce) a_ (.slice (some ⟨rc,0,none⟩) A.ns A.ns) bA dL bI cr gQ fP iI x20 i_ bW H') K):
 aS Pg X (sub aH [1,1,1,1,1,1,1,1,1,1,1,1]) (aD x0 x2 (pr r3) x4 (pr r5) (.slice va A.nr ca) x7 x8 x9 (.slice ve A.ns ce) a_ (.slice (some ⟨rc,0,none⟩) A.ns A.ns) bA dL bI cr gQ fP iI x20 i_ bW H1) K:=by
 have hbig:=ho.big
 refine tl ?_
 refine lp6 2 17 18 19 20 21 (I:=fun m x2 gQ fP iI x20 i_ H'=>∃k,gQ=vn k∧k +m=A.ns∧SH [] H H' [(rc,4,bools mk)]) ?_ A.ns ⟨0,rfl,by omega,hS⟩
 clear hS
 rintro m x2 gQ fP iI x20 i_ bW H2 ⟨k,rfl,hkm,hS⟩
 refine tl ?_
 refine(h3.ex hS.ext).NR ?_
 refine ak.mono (jG hS.wf q A) ?_
 rintro v H4 ⟨rfl,hx⟩
 have hS:=hS.call hx
 simp only[PP,Nat.reduceBEq]
 refine ah (fun hc=>?_) (fun hc=>?_)
 rotate_left
 ·exact kk _ _ _ _ _ _ _ _ hS
 have hk:k<A.ns:=by omega
 have UA:=At.uQ ho
 have hkt:k<A.trim.ns:=hk
 have hE:=At.CR ho k
 have hlen:=ho.len k
 obtain⟨t,hv,PY,hvk⟩:=C9 (mk:=mk) (k:=k) (by omega)
 refine hS.ix hk hv fun p=>?_
 simp only[PP,Nat.reduceBEq]
 refine aB (fun hb=>?_) (fun hb=>?_)
 ·have hnm:¬A.met k:=fun h=>by
   have:=PY.2 ((hmet k).2 h)
   rw[this]at hb;cases hb
  have h0:A.trim.E k=[]:=by rw[hE];unfold At.wV;rw[if_neg hnm]
  refine(h5.ex hS.ext).WN ?_
  refine(h5.ex hS.ext).m.JH (Ext.refl _) hkt fun p ea ec hf=>?_
  simp only[PP,Nat.reduceBEq]
  refine aG (fun hc=>absurd (show((A.trim.E k).length:Int)=0 by rw[h0];rfl) hc) (fun _=>?_)
  refine PU.of (au (by omega) (by omega)) ?_
  exact⟨A.ns -(k +1),by omega,_,_,_,_,_,_,_,_,rfl,k +1,by rw[show((k:Int) +1)=((k +1:Nat):Int) by omega],by omega,hS⟩
 have hm:A.met k:=(hmet k).1 (PY.1 (by cases t<;>simp_all))
 refine TB 2 18 19 20 21 (I:=fun m x2 fP iI x20 i_ H'=>∃i,iI=vn i∧i +m=(A.E k).length∧fP=vn (A.oU k i).length∧SH [] H H' [(rc,4,bools mk)]) ?_ (A.E k).length ⟨0,rfl,by omega,by rw[At.Uw];rfl,hS⟩
 clear hS
 rintro m2 x2 fP iI x20 i_ bW H5 ⟨i,rfl,him,rfl,hS⟩
 refine tl ?_
 have h3':=h3.ex hS.ext
 have h5':=h5.ex hS.ext
 simp only[PP,Nat.reduceBEq]
 refine h3'.WN ?_
 refine h3'.m.JH (Ext.refl _) hk fun p ea ec hf=>?_
 simp only[PP,Nat.reduceBEq]
 refine ah (fun hc=>?_) (fun hc=>?_)
 rotate_left
 ·obtain rfl:i=(A.E k).length:=by omega
  rw[At.JD]
  refine tl ?_
  simp only[PP,Nat.reduceBEq]
  refine h5'.n.WN ?_
  (try simp only[aj hS.wf])
  refine h5'.n.m.JH (Ext.refl _) hkt fun p ea ec hf=>?_
  (try simp only[aj hS.wf])
  simp only[PP,Nat.reduceBEq]
  refine aG (fun hc=>absurd (show((A.wV k).length:Int)=((A.trim.E k).length:Int) by rw[hE]) hc) (fun _=>?_)
  have fin:∀{x2 fP iI x20 i_ bW},aS Pg X (sub aH [1,1,1,1,1,1,1,1,1,1,1,1,0,1,0,0,1,1]) (aD x0 x2 (pr r3) x4 (pr r5) (.slice va A.nr ca) x7 x8 x9 (.slice ve A.ns ce) a_ (.slice (some ⟨rc,0,none⟩) A.ns A.ns) bA dL bI cr (vn k) fP iI x20 i_ bW H5) (vZ (iD x0 (pr r3) x4 (pr r5) (.slice va A.nr ca) x7 x8 x9 (.slice ve A.ns ce) a_ (.slice (some ⟨rc,0,none⟩) A.ns A.ns) bA dL bI cr fun m x2 gQ fP iI x20 i_ H'=>∃k,gQ=vn k∧k +m=A.ns∧SH [] H H' [(rc,4,bools mk)]) m (iq 10 (kP Pg X (sub aH [1,1,1,1,1,1,1,1,1,1,1,1,1]) K))):=by
   intro x2 fP iI x20 i_ bW
   refine tl ?_
   refine PU.of (au (by omega) (by omega)) ?_
   exact⟨A.ns -(k +1),by omega,_,_,_,_,_,_,_,_,rfl,k +1,by rw[show((k:Int) +1)=((k +1:Nat):Int) by omega],by omega,hS⟩
  refine((b5.ex hS.ext).n').at hk fun p t5 ht5=>?_
  (try simp only[aj hS.wf])
  refine aB (fun hb5=>?_) (fun hb5=>?_)
  ·refine ah (fun hc0=>?_) (fun hc0=>?_)
   ·have h0:A.wV k=[]:=List.length_eq_zero_iff.1 (by omega)
    have hst:=At.WU ho hm ((e5 k).1 (ht5.1 hb5)) h0
    have hO:=ho.o k hk
    refine h3'.n.ld2 ?_
    (try simp only[aj hS.wf])
    refine h3'.n.ld3 ?_
    (try simp only[aj hS.wf])
    refine h3'.n.m.Em hk fun p=>?_
    (try simp only[aj hS.wf])
    refine h3'.n.m.ldP ho hO fun p=>?_
    (try simp only[aj hS.wf])
    simp only[PP,Nat.reduceBEq]
    refine bq (by simp only[gU,jh,fA]) ?_
    refine aG (fun hc=>absurd (show((k:Nat):Int)=((A.P (A.O k):Nat):Int) by rw[←hst]) hc) (fun _=>?_)
    exact fin
   ·refine bq (by simp only[gU,jh,fA]) ?_
    exact fin
  ·refine bq (by simp only[gU,jh,fA]) ?_
   exact fin
 have hi:i<(A.E k).length:=by omega
 have hmem:(A.E k)[i]∈A.E k:=List.getElem_mem hi
 have hto:=(ho.e k hk _ hmem).1
 refine h3'.WN ?_
 refine h3'.m.JH (Ext.refl _) hk fun p ea ec hf=>?_
 refine Jz hf hi fun p=>?_
 refine hS.ns rfl rfl rfl fun H6 re hS hx6=>?_
 have hS:SH [] H H6 [(re,47,[vn (A.E k)[i].1,vn (A.E k)[i].2.1,vn (A.E k)[i].2.2]),(rc,4,bools mk)]:=hS
 simp only[PP,Nat.reduceBEq,aj hS.wf];refine hS.aZ ?_
 refine(b5.ex hS.ext).at hto fun p t1 ht1=>?_
 simp only[PP,Nat.reduceBEq]
 refine aB (fun hb1=>?_) (fun hb1=>?_)
 ·have hmt:=(e5 _).1 (ht1.1 hb1)
  refine hS.aZ ?_;simp only[PP,Nat.reduceBEq,aj hS.wf]
  refine aG (fun hc2=>?_) (fun hc2=>?_)
  ·refine Gy (st:=true) hS.wf (h5.ex hS.ext) ho hk hm hi ⟨fun _=>⟨hmt,fun h=>absurd (by omega) hc2⟩,fun _=>rfl⟩ ((hS.get 0 rfl).read (o:=0) (n:=3) (Nat.le_refl 3)) (b5.ex hS.ext) e5 fun bW=>?_
   simp only[PP,Nat.reduceBEq]
   refine tl ?_
   refine PU.of (au (by omega) (by omega)) ?_
   exact⟨(A.E k).length -(i +1),by omega,_,_,_,_,_,_,_,rfl,i +1,by rw[show((i:Int) +1)=((i +1:Nat):Int) by omega],by omega,rfl,SH.drop (A:=[_]) hS⟩
  have hca:=ho.call hmem (by omega)
  refine hS.aZ ?_
  refine(b1.ex hS.ext).at hca fun p t2 ht2=>?_
  refine Gy (st:=t2) hS.wf (h5.ex hS.ext) ho hk hm hi ⟨fun h=>⟨hmt,fun _=>(e1 _ hca).1 (ht2.1 h)⟩,fun h=>ht2.2 ((e1 _ hca).2 (h.2 (by omega)))⟩ ((hS.get 0 rfl).read (o:=0) (n:=3) (Nat.le_refl 3)) (b5.ex hS.ext) e5 fun bW=>?_
  simp only[PP,Nat.reduceBEq]
  refine tl ?_
  refine PU.of (au (by omega) (by omega)) ?_
  exact⟨(A.E k).length -(i +1),by omega,_,_,_,_,_,_,_,rfl,i +1,by rw[show((i:Int) +1)=((i +1:Nat):Int) by omega],by omega,rfl,SH.drop (A:=[_]) hS⟩
 ·refine Gy (st:=false) hS.wf (h5.ex hS.ext) ho hk hm hi ⟨fun h=>(by cases h),fun h=>absurd (ht1.2 ((e5 _).2 h.1)) (by rw[hb1];simp)⟩ ((hS.get 0 rfl).read (o:=0) (n:=3) (Nat.le_refl 3)) (b5.ex hS.ext) e5 fun bW=>?_
  simp only[PP,Nat.reduceBEq]
  refine tl ?_
  refine PU.of (au (by omega) (by omega)) ?_
  exact⟨(A.E k).length -(i +1),by omega,_,_,_,_,_,_,_,rfl,i +1,by rw[show((i:Int) +1)=((i +1:Nat):Int) by omega],by omega,rfl,SH.drop (A:=[_]) hS⟩
end Go.Proofs.Lu
set_option maxRecDepth 100000
set_option maxHeartbeats 4000000
namespace Go.Proofs.Lu
open Go.Ae Go.Ae.M Go.Proofs.Lv
variable{F F':Nat→Prop}{H0 H:aa}{L M:List aL}{S:List Nat}{A:At}{q q':AV}{a a':Option Addr}
theorem _root_.Go.Ae.ak.orc{P:Program}{X:Xt}{g:FuncId}{args:List Value}{v:Value}{H':aa}{K:Value→aa→Prop}(h:X.o g args H=some (v,H'))(k:K v H'):ak P X g args H K:=⟨v,H',⟨1,sM h⟩,k⟩
theorem WW:∀i,i<256→∃z:Nat,uS[i]?=some z∧(z=240∨z=241∨z=2∨z=19∨z=3∨z=35∨z=52∨z=4∨z=68):=by
 have h:((List.range 256).all fun i=>match uS[i]? with|some z=>decide (z=240∨z=241∨z=2∨z=19∨z=3∨z=35∨z=52∨z=4∨z=68)|none=>false)=true:=by decide +kernel
 intro i hi
 have:=List.all_eq_true.1 h i (List.mem_range.2 hi)
 cases hz:uS[i]? with
 |none=>rw[hz]at this;cases this
 |some z=>rw[hz]at this;exact⟨z,rfl,by simpa using this⟩
theorem WX:∀i,i<16→∃x y:Nat,Ah[i*2]?=some x∧Ah[i*2 +1]?=some y:=by
 intro i hi
 have hl:Ah.length=32:=rfl
 exact⟨_,_,List.getElem?_eq_getElem (by omega),List.getElem?_eq_getElem (by omega)⟩
theorem uf.of(h:qR H):uf H:=by
 obtain⟨h0,t1,t2,h1,h2⟩:=h
 refine⟨fun i hi=>?_,fun i hi=>?_,h0⟩
 ·obtain⟨z,hz,hv⟩:=WW i hi
  exact⟨z,by omega,Si h1 hz⟩
 ·obtain⟨x,y,hx,hy⟩:=WX i hi
  exact⟨x,y,OZ h2 hx hy⟩
theorem usefulTrims(hw:Wf H)(hT:qR H)(s:ByteArray):ak Pg X 4 [.string s] H fun v H'=>v=.bool true∧Ext H H':=by
 have hS:=SH.refl hw
 refine ce [0,2,3,4,5,6,7,8,9,10,11,12,13,14,15,16,17,18,19,20,21] ?_;refine tl ?_
 refine ak.mono (PT hw (uf.of hT) s) ?_
 rintro v H1 ⟨⟨x,ok,rfl,hl6,Yn,hA⟩,hx1⟩
 have hS:=hS.call hx1
 simp only[PP,Nat.reduceBEq]
 refine hS.ns hl6 rfl Yn fun H2 r3 hS hx2=>?_
 refine ah (fun hc=>?_) (fun hc=>?_)
 ·refine ak.orc (v:=.bool true) (H':=H2) (Sg (hT.ex hS.ext)) ?_
  refine rr ?_;exact⟨rfl,hS.ext⟩
 obtain⟨A,q,rfl,hA,ho,adv⟩:=hA hc
 have hS:SH [] H H2 [(r3,26,q.cells A)]:=hS
 have hA:=hA.ex hx2
 refine hS.sW 0 rfl (Nat.le_refl 6) ?_
 refine ak.mono (EO hS.wf hA ho) ?_
 rintro v H3 ⟨⟨q',rfl,hA'⟩,hx3⟩
 have hS:=hS.call hx3
 refine hS.ns rfl rfl rfl fun H4 r5 hS hx4=>?_
 have hS:SH [] H H4 [(r5,26,q'.cells A.trim),(r3,26,q.cells A)]:=hS
 have h3:yl H4 A q r3:=⟨((hA.ex hx3).ex hx4).wk fun _ _=>trivial,(hS.lo _ (List.mem_of_getElem? (i:=1) rfl)).2,hS.get 1 rfl⟩
 have h5:yl H4 A.trim q' r5:=⟨(hA'.ex hx4).wk fun _ _=>trivial,(hS.lo _ (List.mem_of_getElem? (i:=0) rfl)).2,hS.get 0 rfl⟩
 have hT:=hT.ex hS.ext
 have hw:=hS.wf
 have hx0:=hS.ext
 clear hS hA hA' hx1 hx2 hx3 hx4
 have UA:=At.uQ ho
 have hS:=SH.refl hw
 refine h5.n.NR ?_
 (try simp only[aj hw])
 refine ak.mono (oH (jJ H4) h5.n.m UA) ?_
 rintro v H5 ⟨rfl,hx5⟩
 have hS:=hS.iK hx5
 simp only[PP,Nat.reduceBEq]
 refine aB (fun hb=>by cases hb) (fun _=>?_)
 refine(h5.ex hS.ext).n.NR ?_
 (try simp only[aj hS.wf])
 refine ak.mono (EO (jJ _) (h5.ex hS.ext).n.m UA) ?_
 rintro v H6 ⟨⟨q2,rfl,hA2⟩,hx6⟩
 have lQ:=hS
 have hS:=hS.iK hx6
 refine(h5.ex hS.ext).n.NR ?_
 (try simp only[aj hS.wf])
 rw[At.PD ho]at hA2⊢
 refine ak.mono (PX (F:=((hN (hM H4 H5)).next≤·)) (jJ _) ⟨hA2.n,hA2.s,hA2.p,hA2.o,hA2.e⟩ (h5.ex hS.ext).n.m UA) ?_
 rintro v H7 ⟨rfl,hx7⟩
 have hS:=hS.iK hx7
 simp only[PP,Nat.reduceBEq]
 refine aB (fun hb=>by cases hb) (fun _=>?_)
 refine(h5.ex hS.ext).n.NR ?_
 (try simp only[aj hS.wf])
 refine ak.mono (jG (jJ _) q' A.trim) ?_
 rintro v H8 ⟨rfl,DJ⟩
 have hS:=hS.iK DJ
 refine(h3.ex hS.ext).n.NR ?_
 (try simp only[aj hS.wf])
 refine ak.mono (jG (jJ _) q A) ?_
 rintro v H9 ⟨rfl,Pz⟩
 have hS:=hS.iK Pz
 simp only[PP,Nat.reduceBEq]
 refine(show∀K:Prop,K→_∧K from fun K hK=>?_) _ ?_
 ·exact bq (by simp only[az hx5,az hx6,az hx7,az DJ,az Pz,gU,jh,NQ,fA]) hK
 refine aG (fun hc=>absurd (show((A.trim.ns:Nat):Int)=(A.ns:Int)from rfl) hc) (fun _=>?_)
 have h3:=h3.ex hS.ext
 have h5:=h5.ex hS.ext
 have hT:=hT.ex hS.ext
 have hw:=hS.wf
 have hx0:=hx0.trans hS.ext
 generalize hM (hM (hM (hM (hM H4 H5) H6) H7) H8) H9=Hb at*
 clear hS lQ hA2 hx5 hx6 hx7 DJ Pz
 have hS:=SH.refl hw
 have DT:=ho.few
 refine tl ?_
 refine h3.n.NR ?_
 (try simp only[aj hw])
 refine ak.mono (EL (jJ Hb) h3.n.m ho) ?_
 rintro v G1 ⟨⟨l1,b1,e1⟩,hx1⟩
 have hS:=hS.iK hx1
 have b1:Bs 0 (hM Hb G1) A.nr v l1:=b1.le (Nat.zero_le _)
 refine(h5.ex hS.ext).n.NR ?_
 (try simp only[aj hS.wf])
 refine ak.mono (EL (jJ _) (h5.ex hS.ext).n.m UA) ?_
 rintro v2 G2 ⟨⟨l2,b2,e2⟩,hx2⟩
 have hS:=hS.iK hx2
 have b1:=b1.ex hx2.draw
 have b2:Bs 0 (hM (hM Hb G1) G2) A.nr v2 l2:=b2.le (Nat.zero_le _)
 refine(h3.ex hS.ext).n.NR ?_
 (try simp only[aj hS.wf])
 refine ak.mono (C5 (jJ _) (h3.ex hS.ext).n.m ho) ?_
 rintro v3 G3 ⟨⟨l3,b3,e3⟩,hx3⟩
 have hS:=hS.iK hx3
 have b1:=b1.ex hx3.draw
 have b2:=b2.ex hx3.draw
 have b3:Bs 0 (hM (hM (hM Hb G1) G2) G3) A.nr v3 l3:=b3.le (Nat.zero_le _)
 refine(h5.ex hS.ext).n.NR ?_
 (try simp only[aj hS.wf])
 refine ak.mono (C5 (jJ _) (h5.ex hS.ext).n.m UA) ?_
 rintro v4 G4 ⟨⟨l4,b4,e4⟩,hx4⟩
 have hS:=hS.iK hx4
 have b1:=b1.ex hx4.draw
 have b2:=b2.ex hx4.draw
 have b3:=b3.ex hx4.draw
 have b4:Bs 0 (hM (hM (hM (hM Hb G1) G2) G3) G4) A.nr v4 l4:=b4.le (Nat.zero_le _)
 refine(show∀K:Prop,K→_∧K from fun K hK=>?_) _ ?_
 ·exact bq (by simp only[az hx1,az hx2,az hx3,az hx4,gU,jh,NQ,fA]) hK
 refine(h3.ex hS.ext).NR ?_
 refine ak.mono (PK hS.wf (h3.ex hS.ext).m ho) ?_
 rintro v5 G5 ⟨⟨mk,b5,e5⟩,hx5⟩
 have hS:=hS.call hx5
 have b1:=b1.ex hx5
 have b2:=b2.ex hx5
 have b3:=b3.ex hx5
 have b4:=b4.ex hx5
 have b5:Bs 0 G5 A.ns v5 mk:=b5.le (Nat.zero_le _)
 obtain⟨va,ca,rfl,_⟩:=id b1
 obtain⟨vt,ct,rfl,_⟩:=id b2
 obtain⟨vp,cp,rfl,_⟩:=id b3
 obtain⟨vq,cq,rfl,_⟩:=id b4
 obtain⟨ve,ce,rfl,_⟩:=id b5
 simp only[PP,Nat.reduceBEq]
 refine(h3.ex hS.ext).NR ?_
 refine ak.mono (jG hS.wf q A) ?_
 rintro v G6 ⟨rfl,hx6⟩
 have hS:=hS.call hx6
 simp only[PP,Nat.reduceBEq]
 refine aG (fun hc=>absurd trivial hc) (fun _=>?_)
 refine aG (fun hc=>absurd trivial hc) (fun _=>?_)
 refine aG (fun hc=>absurd trivial hc) (fun _=>?_)
 refine(h3.ex hS.ext).ld0 ?_
 simp only[PP,Nat.reduceBEq]
 refine aG (fun hc=>absurd trivial hc) (fun _=>?_)
 refine aG (fun hc=>absurd trivial hc) (fun _=>?_)
 have h3:=h3.ex hS.ext
 have h5:=h5.ex hS.ext
 have hT:=hT.ex hS.ext
 have hx0:=hx0.trans hS.ext
 have b5:=b5.ex hx6
 have b1:=b1.ex hx6
 refine WO hS.wf h3 h5 ho b1 (b2.ex hx6) (b3.ex hx6) (b4.ex hx6) b5 e1 e2 e3 e4 e5 fun x2 a_ bW=>?_
 refine WR hS.wf h3 ho fun rc yw bA bW G7 Aq hml hon=>?_
 refine WT h3 h5 ho Aq hml hon fun mk3 dL bI cr bW G8 Qf adt hmet=>?_
 refine WV h3 h5 ho b1 b5 e1 e5 Qf adt hmet fun x2 gQ fP iI x20 i_ bW G9 U9=>?_
 refine tl ?_
 refine ak.orc (v:=.bool true) (H':=G9) (Sg (hT.ex U9.ext)) ?_
 refine rr ?_;exact⟨rfl,hx0.trans U9.ext⟩
end Go.Proofs.Lu
namespace Go.Proofs.YtdkcdlnfeodaaaaGreatDoor
open Go.ChangeShapes Go.WideShapes Go.ChangeAt Go.RowKit
theorem WY:(Rows.usefulTrimsRow.wf (OpenSpec.ofChange Rows.usefulTrimsSpec))=true:=by kernel_rfl
theorem WZ:(laidOutB Tryz.prog)=true:=by kernel_rfl
theorem closed2:(mapsRowed Tryz.prog)=true:=by kernel_rfl
theorem W9:(Tryz.f4.params.all (Tryz.prog.readableRec ·))=true:=by kernel_rfl
theorem W_:(namedTie Tryz.prog Rows.usefulTrimsRow.named Rows.usefulTrimsSpec.vars)=true:=by kernel_rfl
theorem Xa:((Rows.usefulTrimsRow.stops==[]))=true:=by kernel_rfl
theorem Xb:((Tryz.prog.stops==[]))=true:=by kernel_rfl
theorem Xc:((Rows.usefulTrimsRow.knobs==[]))=true:=by kernel_rfl
theorem Xd:((Tryz.prog.stopKnobs==[]))=true:=by kernel_rfl
theorem Xe:((Rows.usefulTrimsRow.inPlace==Tryz.prog.inPlace 4))=true:=by kernel_rfl
theorem UC:((Rows.usefulTrimsRow.unfollowed==Tryz.prog.unfollowed 4))=true:=by kernel_rfl
theorem UD:((Rows.usefulTrimsRow.recurses==Tryz.prog.recurses 4))=true:=by kernel_rfl
theorem UE:((Rows.usefulTrimsRow.named==Tryz.prog.varsNamed 4))=true:=by kernel_rfl
theorem UF:((Rows.usefulTrimsRow.maps==(Tryz.f4.params.toList++Rows.usefulTrimsSpec.plain.varTypes Tryz.prog).any (Tryz.prog.mapsRec ·)))=true:=by kernel_rfl
theorem UG:((Rows.usefulTrimsRow.ifaces==(Tryz.f4.params.toList++Rows.usefulTrimsSpec.plain.varTypes Tryz.prog).any (Tryz.prog.ifacesRec ·)))=true:=by kernel_rfl
theorem UH:((Rows.usefulTrimsRow.mapsOut==Tryz.prog.mapsAmong Tryz.f4.resultTypes.toList))=true:=by kernel_rfl
theorem UI:((Rows.usefulTrimsRow.loops==(Tryz.f4.params.toList++Rows.usefulTrimsSpec.plain.varTypes Tryz.prog).any (Tryz.prog.loopsFrom ·)))=true:=by kernel_rfl
theorem UJ:((Rows.usefulTrimsRow.wideKeys==(Tryz.f4.params.toList++Rows.usefulTrimsSpec.plain.varTypes Tryz.prog++Tryz.f4.resultTypes.toList).any (Tryz.prog.wideKeysFrom ·)))=true:=by kernel_rfl
theorem UK:(Rows.usefulTrimsSpec.vars.all (Tryz.prog.varReadable ·))=true:=by kernel_rfl
theorem UL:(Tryz.f4.resultTypes.all (fun t=>Tryz.prog.readableRec t&&decide (t<Tryz.prog.types.size)))=true:=by kernel_rfl
theorem UM:((Rows.usefulTrimsRow.ifacesOut==Tryz.f4.resultTypes.toList.any (Tryz.prog.ifacesRec ·)))=true:=by kernel_rfl
theorem UN:((Rows.usefulTrimsRow.loopsOut==Tryz.f4.resultTypes.toList.any (Tryz.prog.loopsFrom ·)))=true:=by kernel_rfl
theorem UO:((Rows.usefulTrimsRow.plainKeys==Tryz.prog.plainKeys))=true:=by kernel_rfl
theorem UQ:(Rows.usefulTrimsRow.shortTexts.isNone)=true:=by kernel_rfl
theorem UR:(Tryz.prog.stopsHeard)=true:=by kernel_rfl
theorem US:(Tryz.prog.mayEnter)=true:=by kernel_rfl
theorem UT:((Rows.usefulTrimsRow.lifted==Tryz.prog.liftsFinal))=true:=by kernel_rfl
theorem UU:((Tryz.prog.make==some Rows.usefulTrimsRow.make))=true:=by kernel_rfl
theorem UW:((Rows.usefulTrimsRow.kinds==(if Rows.usefulTrimsRow.domain.isEmpty then[]else Tryz.f4.params.toList.map fun t=>match Tryz.prog.underlying t with|some (.int k)=>some k|_=>none)))=true:=by kernel_rfl
theorem UX:((Rows.usefulTrimsRow.pinned==Rows.usefulTrimsRow.pinnedBy))=true:=by kernel_rfl
theorem UY:((Rows.usefulTrimsRow.veiled==(Tryz.f4.params.toList++Rows.usefulTrimsSpec.plain.varTypes Tryz.prog++Tryz.f4.resultTypes.toList).any (Tryz.prog.veiledRec ·)))=true:=by kernel_rfl
theorem UZ:(Rows.usefulTrimsRow.veiledFits Tryz.prog Tryz.f4.params.toList (Tryz.f4.params.toList++Rows.usefulTrimsSpec.plain.varTypes Tryz.prog++Tryz.f4.resultTypes.toList))=true:=by kernel_rfl
set_option maxRecDepth 100000 in
theorem closed:joinedFacts Tryz.prog 4 Tryz.f4 Rows.usefulTrimsSpec Rows.usefulTrimsRow=true:=by
 unfold joinedFacts
 exact(Bool.and_eq_true_iff.2 ⟨(Bool.and_eq_true_iff.2 ⟨(Bool.and_eq_true_iff.2 ⟨(Bool.and_eq_true_iff.2 ⟨(Bool.and_eq_true_iff.2 ⟨(Bool.and_eq_true_iff.2 ⟨(Bool.and_eq_true_iff.2 ⟨(Bool.and_eq_true_iff.2 ⟨(Bool.and_eq_true_iff.2 ⟨(Bool.and_eq_true_iff.2 ⟨(Bool.and_eq_true_iff.2 ⟨(Bool.and_eq_true_iff.2 ⟨(Bool.and_eq_true_iff.2 ⟨(Bool.and_eq_true_iff.2 ⟨(Bool.and_eq_true_iff.2 ⟨(Bool.and_eq_true_iff.2 ⟨(Bool.and_eq_true_iff.2 ⟨(Bool.and_eq_true_iff.2 ⟨(Bool.and_eq_true_iff.2 ⟨(Bool.and_eq_true_iff.2 ⟨(Bool.and_eq_true_iff.2 ⟨(Bool.and_eq_true_iff.2 ⟨(Bool.and_eq_true_iff.2 ⟨(Bool.and_eq_true_iff.2 ⟨(Bool.and_eq_true_iff.2 ⟨(Bool.and_eq_true_iff.2 ⟨(Bool.and_eq_true_iff.2 ⟨(Bool.and_eq_true_iff.2 ⟨(Bool.and_eq_true_iff.2 ⟨(Bool.and_eq_true_iff.2 ⟨(Bool.and_eq_true_iff.2 ⟨WY,WZ⟩),closed2⟩),W9⟩),W_⟩),Xa⟩),Xb⟩),Xc⟩),Xd⟩),Xe⟩),UC⟩),UD⟩),UE⟩),UF⟩),UG⟩),UH⟩),UI⟩),UJ⟩),UK⟩),UL⟩),UM⟩),UN⟩),UO⟩),UQ⟩),UR⟩),US⟩),UT⟩),UU⟩),UW⟩),UX⟩),UY⟩),UZ⟩)
end Go.Proofs.YtdkcdlnfeodaaaaGreatDoor
set_option maxRecDepth 100000
namespace Go.Proofs.YtdkcdlnfeodaaaaGreatDoor
open Go.Ae Go.Proofs.Lu Go.ChangeShapes Go.WideShapes Go.ChangeAt Go.RowKit Go.Deep
theorem own:ownKnob Tryz.prog.godebug=none:=by kernel_rfl
theorem laidOut:laidOutB Tryz.prog=true:=by kernel_rfl
theorem Xf{W:World}(h:laidMetH Tryz.prog Rows.usefulTrimsRow.laid W):Lu.Laid W:=by
 rw[MakeChecks.laidMetH_plain _ _ _ (by kernel_rfl)]at h
 obtain⟨ps,⟨ga,ta,csa,fa,pa,qa,hga,hta,hva,hda,⟨gb,tb,csb,fb,pb,qb,hgb,htb,hvb,hdb,_⟩,_⟩,_,_⟩:=h
 obtain rfl:=Option.some.inj ((show Tryz.prog.globalNamed "unicode/utf8.acceptRanges" =some 2 by kernel_rfl).symm.trans hga)
 obtain rfl:=Option.some.inj ((show Tryz.prog.globalNamed "unicode/utf8.first" =some 1 by kernel_rfl).symm.trans hgb)
 obtain rfl:=Option.some.inj ((show(Tryz.prog.globals[2]?).map (·.type)=some 285 by kernel_rfl).symm.trans hta)
 obtain rfl:=Option.some.inj ((show(Tryz.prog.globals[1]?).map (·.type)=some 282 by kernel_rfl).symm.trans htb)
 have block:∀{n:String}{g:Nat}{cs:Array Value},Tryz.prog.globalNamed n=some g→W.var? Tryz.prog n=some cs→∃ty fr,W.heap[g]?=some (.cells cs ty fr):=by
  intro n g cs hg hv
  simp only[World.var?,hg,Option.bind_some]at hv
  split at hv
  ·next cs' ty fr hh=>cases hv;exact⟨ty,fr,hh⟩
  ·cases hv
 obtain⟨tya,fra,ba⟩:=block hga hva
 obtain⟨tyb,frb,bb⟩:=block hgb hvb
 refine⟨?_,⟨tyb,csb,frb,bb,TH hdb⟩,⟨tya,csa,fra,ba,O_ hda⟩⟩
 have:=(Array.getElem?_eq_some_iff.1 ba).1
 omega
theorem Xg{W:World}(hL:Lu.Laid W)(s:ByteArray)(hs:s.size≤maxLen):Calls Tryz.prog 4 #[.string s] W fun e w'=>e=.returned (.bool true)∧Below W.heap.size W w':=by
 have hwf:Wf (KF W T0):=Nat.le_refl _
 refine O1 (P:=Tryz.prog) (X:=X) (H:=KF W T0) (b:=true) (args:=[.string s]) hL.size mixed (pR.FI fns) xs ors Tryz.func4 (by kernel_rfl) ?_ (Nat.le_refl _) (V2 fun r o h=>nomatch h) (args':=[.string s]) (.cons _ _ _ _ (.sc _ rfl) .nil)
 exact(usefulTrims hwf hL.tabs s).mono fun v H' h=>⟨h.1,h.2.low _ (Nat.le_refl _) (Nat.le_refl _) fun r h=>nomatch h⟩
theorem lifted(os:Os)(started:os.Started)(H:Type)(enc:TypeId×Value→H):
 ReturnsInHanded {} Tryz.checked os 4 .any (fun w args=>(Rows.usefulTrimsSpec.pre enc Tryz.prog Tryz.f4 [] false w args∧laidMetH Tryz.prog Rows.usefulTrimsRow.laid w)∧sizedMet enc Tryz.prog Tryz.f4 (OpenSpec.ofChange Rows.usefulTrimsSpec) false w args)
  (Rows.usefulTrimsSpec.post enc Tryz.prog Tryz.f4 false true false false):=by
 refine returnsInHanded_of_change_and (C:=Tryz.checked) (X:=fun w _=>laidMetH Tryz.prog Rows.usefulTrimsRow.laid w) (fun _ _ _ hh h=>h.of_heap hh) own started (by kernel_rfl) Tryz.func4
  (ChangeSpec.witness_shaped (enc:=enc) (C:=Tryz.checked) (os:=os) (X:=fun w _=>laidMetH Tryz.prog Rows.usefulTrimsRow.laid w) false (World.laidAll Tryz.prog os Rows.usefulTrimsRow.laid) #[.string ⟨#[]⟩] 8 (World.laidAll_os _ _ _)
   (World.shaped_of_ZipB (by kernel_rfl) (by kernel_rfl)) (by kernel_rfl) (by kernel_rfl) (by kernel_rfl)
   (by rw[MakeChecks.laidMetH_plain _ _ _ (by kernel_rfl)];exact laidMet_laidAll _ (by kernel_rfl) (by kernel_rfl))) ?_
 intro W base args ds gs before hval0 hW _ hwt hL _
 have hval:∀(j:Nat) t v,Tryz.f4.params[j]?=some t→args[j]?=some v→Value.okWide Tryz.prog W .any base t v:=hval0
 have hW':=hW
 obtain⟨p,q,hA0,hV,rfl,_,_⟩:=hW
 have hA:DataW.TrodAll enc Tryz.prog W 0 (fun _=>true) true Tryz.f4.params.toList args.toList ds p:=hA0
 rw[Tryz.params4]at hA hval hwt
 obtain⟨v0,vs0,d0,ds0,p0,q0,hargs,rfl,rfl,h0,r0⟩:=trodAll_cons hA
 obtain⟨rfl,rfl,rfl⟩:=trodAll_nil r0
 obtain rfl:args=#[v0]:=by cases args;simp_all
 obtain⟨rfl,rfl⟩:=trodVars_none hV
 simp only[List.append_nil]at hW'
 obtain⟨fuel,hd⟩:=id h0
 obtain⟨s,rfl⟩:=okWide_string Tryz.underlying9 (hval 0 9 v0 rfl rfl)
 have hs:s.size≤maxLen:=by
  obtain⟨s',e1,_,e3⟩:=DataW.trod_string Tryz.underlying9 hd
  injection e1 with e1 _
  injection e1 with e1
  subst e1;exact e3
 refine(Xg (Xf hL) s hs).mono fun e W' ⟨he,hb⟩=>?_
 subst he
 have hlt:∀x∈p0,x.block<W.heap.size:=fun x hx=>hW'.lt x (by simpa using hx)
 have g0:DataW.Trod enc Tryz.prog W' 0 (fun b=>decide (b<W.heap.size)) true 9 (.string s) d0 p0:=
  WideElems.Trod_stays laidOut (by kernel_rfl) (of_decide_eq_true (by kernel_rfl)) h0 (fun x hx=>hb.same (hlt x hx)) (fun x hx=>by simpa using hlt x hx)
 refine⟨_,rfl,_,_,_,[],p0++[],[],hW',trodAll_mk1 (shut_bool Tryz.underlying4 _),trodAll_cons_mk g0 trodAll_mk0,rfl,?_,fun h=>by cases h⟩
 refine World.keptBut_mono (fun x hx=>⟨hx,?_⟩) (hb.frame (·∈p0))
 simpa using hx
theorem named:Tryz.pinned.checked.prog.funcNamed Rows.usefulTrimsRow.func=some 4:=by kernel_rfl
theorem PZ:Tryz.f4.isInstance Tryz.pinned.checked.prog Rows.usefulTrimsRow.origin Rows.usefulTrimsRow.targs:=of_decide_eq_true (by kernel_rfl)
theorem wrapper:Tryz.f4.isWrapper Tryz.pinned.checked.prog Rows.usefulTrimsRow.wrapper Rows.usefulTrimsRow.mainSum:=by
 unfold Func.isWrapper
 first|(rw[if_pos (by decide +kernel)];kernel_rfl)|(rw[if_neg (by decide +kernel)];exact⟨rfl,rfl⟩)
theorem holds:Rows.UsefulTrimsSaid:=
 OpenClaim.holds_of_wide 4 Tryz.f4 rfl rfl rfl rfl rfl rfl rfl ⟨rfl,rfl,rfl,rfl,rfl⟩ rfl rfl rfl rfl rfl named Tryz.func4 closed PZ wrapper (fun os started H enc _=>lifted os started H enc)
theorem Xh:Rows.usefulTrimsRow.wfByText (OpenSpec.ofChange Rows.usefulTrimsSpec)=true:=by kernel_rfl
theorem P4:Tryz.pinned.checked.prog.mainIs=some (true, "32f7528da065070f008ebf890a3bbb37ef6b53503a88d639bc554603bffb0775".toList):=by kernel_rfl
theorem LV:Tryz.prog.funcNamed "souffleur/souffleurlaw17.UsefulTrims" =some 4:=by kernel_rfl
theorem LW:false=Tryz.pinned.checked.prog.looks []:=by kernel_rfl
theorem LX:([9].all fun u=>!Tryz.prog.wantsStandIn u)=true:=by kernel_rfl
theorem P5:false=Rows.usefulTrimsRow.goesBy Tryz.pinned.checked.prog:=by kernel_rfl
theorem usefulTrims_card:Rows.UsefulTrimsCardSaid:=
 Claim7.holds_tied_plain_at .later [] [.data,.pinned] true (true, "32f7528da065070f008ebf890a3bbb37ef6b53503a88d639bc554603bffb0775") false holds (fun _ h=>by cases h) Xh (fun _ h=>by cases h) usefulTrims_row_tie rfl ⟨rfl,rfl⟩ P4 rfl
  (fun f fn hf hfn=>by
   obtain rfl:f=4:=Option.some.inj (LV.symm.trans hf)|>.symm
   obtain rfl:fn=Tryz.f4:=(Option.some.inj (Tryz.func4.symm.trans hfn)).symm
   exact⟨LW,fun j t ht=>by
    rw[Tryz.params4]at ht
    have hm:t∈[9]:=by simpa using Array.mem_of_getElem? ht
    exact(show Tryz.prog.wantsStandIn t=false by simpa using List.all_eq_true.1 LX t hm)⟩)
  P5
#print axioms usefulTrims_card
end Go.Proofs.YtdkcdlnfeodaaaaGreatDoor
