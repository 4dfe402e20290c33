/-
  Part 9 of the proof. No condition.
-/
import Derived.Test.YtdkcdlnfeodaaaaGreatDoorY08
set_option linter.unusedVariables false
set_option linter.unusedSimpArgs false
set_option maxRecDepth 100000
set_option maxHeartbeats 4000000
namespace Go.Proofs.Lu
open Go.Ae Go.Ae.M
variable{H0 H:aa}{L M:List aK}{S:List Nat}{F:Nat→Prop}{Q:Int→Prop}{r n c:Nat}{ty:TypeId}
theorem abX{b rg rv:Nat}{ra na:Option Addr}{rn rc nn nc:Nat}{rcs bW:List Value}(hG:Gr b H ra rn rcs na nn bW){x3:Value}{cs:List Value}{gb:List aK}{H1:aa}(hg:GB 149 4 x3 cs gb)(hT:uk cs)(hl:cs.length≤16000)(hS:SH [] H H1 ([(rv,79,[.slice none 0 0]),(rg,69,[.slice ra rn rc,.slice na nn nc])]++gb)){x4 x5 x7 x9 bn bT bJ oL zL oK rV x34 AA Y_ Za Kl:Value}{dI:List (Nat×Value)}:
 aR Pg X (sub lS [1,1,1,1,1,1]) (j5 (gV ra rn rc na nn nc) (pr rg) (pr rv) x3 x4 x5 x7 x9 bn bT bJ oL zL oK rV x34 AA Y_ Za Kl dI H1) (cB Pg [.cell 2 79] (Q1 (fun v H'=>∃a n c cs,v=vV a n c∧Vo (H.next≤·) H' a n cs) H)):=by
 have g2:=hG.2.1
 simp only[List.cons_append,List.nil_append]at hS
 refine tl ?_
 repeat(first|(simp only[PP,Nat.reduceBEq,aj hS.wf])|(refine hS.aZ ?_))
 refine Iv 3 12 13 76 (I:=fun m x3 bT bJ Kl H'=>∃i cs gb,Kl=vn i∧i +m=rn∧GB 149 4 x3 cs gb∧uk cs∧cs.length≤16000 +4*i∧SH [] H H' ([(rv,79,[.slice none 0 0]),(rg,69,[.slice ra rn rc,.slice na nn nc])]++gb)) ?_ rn ⟨0,cs,gb,rfl,by omega,hg,hT,by omega,hS⟩
 clear hg hT hl hS
 rintro m x3 bT bJ Kl dI H2 ⟨i,cs,gb,rfl,him,hg,hT,hl,hS⟩
 refine tl ?_
 simp only[PP,Nat.reduceBEq]
 refine ae (fun hc=>?_) (fun hc=>?_)
 rotate_left
 ·refine tl ?_
  obtain⟨k,hk,ht⟩:=hT
  have hS2:=hS.perm (List.perm_append_comm (l₁:=[_,_]))
  obtain⟨a,n,c,rfl,hn,hf⟩:=hg.fl hS2
  obtain rfl:n=k:=by omega
  refine ak.mono (TK hS.wf rfl hf (by omega) ht) ?_
  rintro v H3 ⟨⟨a',n',c',cs',rfl,hV⟩,hx⟩
  have hge:=hS.ext.next
  have hlt:=hS.lt
  have hS0:=hS.call hx
  refine PU.b1 rfl ?_
  have hS:=SH.own (M:=[(rv,79,[.slice none 0 0]),(rg,69,[.slice ra rn rc,.slice na nn nc])]) hS0
  simp only[PP,Nat.reduceBEq,aj hS.wf];refine hS.jd fun Hn hS=>?_
  refine rr ?_
  refine hS.bZ ?_
  have DK:=hS.ext
  exact⟨⟨a',n',c',cs',rfl,(hV.1.stay DK fun q hq=>.inl (by have:=hlt q (by simp at hq⊢;rcases hq with h|h<;>simp[h]);omega)).wk fun r h=>Nat.le_trans hge h,hV.2⟩,(SH.frame (M:=[_,_]) hS0 hS).ext⟩
 have hi:i<rn:=by omega
 obtain⟨r1,o1,mU,u1,f1,w1,c1,a1,e1,hl1,oV,jC,hsz,_⟩:=hG.ru hi rc
 rw[e1]
 simp only[PP,Nat.reduceBEq]
 refine hS.p_ oV hl1 ?_
 refine hS.jF rfl rfl rfl fun H5 ru hS hx5=>?_
 have hS:SH [] H H5 ((ru,141,kT mU u1 f1 w1 c1 (rootOf rcs i) a1)::(rv,79,[.slice none 0 0])::(rg,69,[.slice ra rn rc,.slice na nn nc])::gb):=hS
 repeat(first|(simp only[PP,Nat.reduceBEq,aj hS.wf])|(refine hS.aZ ?_))
 have yh:∀x3 cs gb dI H',GB 149 4 x3 cs gb→uk cs→cs.length≤16000 +4*(i +1)→SH [] H H' ((ru,141,kT mU u1 f1 w1 c1 (rootOf rcs i) a1)::(rv,79,[.slice none 0 0])::(rg,69,[.slice ra rn rc,.slice na nn nc])::gb)→
  aR Pg X (sub lS [1,1,1,1,1,1,0,1,0,0,1,1,1]) (j5 (gV ra rn rc na nn nc) (pr rg) (pr rv) x3 x4 x5 x7 x9 bn (vn i) (pr ru) oL zL oK rV x34 AA (.slice ra rn rc) (vn rn) (vn i) dI H')
   (wK (lg (gV ra rn rc na nn nc) (pr rg) (pr rv) x4 x5 x7 x9 bn oL zL oK rV x34 AA (.slice ra rn rc) (vn rn) fun m x3 bT bJ Kl H'=>∃i cs gb,Kl=vn i∧i +m=rn∧GB 149 4 x3 cs gb∧uk cs∧cs.length≤16000 +4*i∧SH [] H H' ([(rv,79,[.slice none 0 0]),(rg,69,[.slice ra rn rc,.slice na nn nc])]++gb)) m (gY 4 (kH Pg X (sub lS [1,1,1,1,1,1,1]) (cB Pg [.cell 2 79] (Q1 (fun v H'=>∃a n c cs,v=vV a n c∧Vo (H.next≤·) H' a n cs) H))))):=by
  intro x3 cs gb dI H' h1 h2 h3 h4
  refine tl ?_
  refine PU.of (au (by omega) (by omega)) ?_
  exact⟨rn -(i +1),by omega,_,_,_,_,_,_,rfl,i +1,cs,gb,by rw[show((i:Int) +1)=((i +1:Nat):Int) by omega],by omega,h1,h2,h3,SH.drop (A:=[_]) h4⟩
 have ap:(lkv:Bool)→∀dI,zZ dI 87=.bool lkv→aR Pg X (sub lS [1,1,1,1,1,1,0,1,0,0,1,1,0,0,1,1]) (j5 (gV ra rn rc na nn nc) (pr rg) (pr rv) x3 x4 x5 x7 x9 bn (vn i) (pr ru) oL zL oK rV x34 AA (.slice ra rn rc) (vn rn) (vn i) dI H5)
  (gY 5 (kH Pg X (sub lS [1,1,1,1,1,1,0,1,0,0,1,1,1]) (wK (lg (gV ra rn rc na nn nc) (pr rg) (pr rv) x4 x5 x7 x9 bn oL zL oK rV x34 AA (.slice ra rn rc) (vn rn) fun m x3 bT bJ Kl H'=>∃i cs gb,Kl=vn i∧i +m=rn∧GB 149 4 x3 cs gb∧uk cs∧cs.length≤16000 +4*i∧SH [] H H' ([(rv,79,[.slice none 0 0]),(rg,69,[.slice ra rn rc,.slice na nn nc])]++gb)) m (gY 4 (kH Pg X (sub lS [1,1,1,1,1,1,1]) (cB Pg [.cell 2 79] (Q1 (fun v H'=>∃a n c cs,v=vV a n c∧Vo (H.next≤·) H' a n cs) H))))))):=by
  intro b dI hb
  refine tl ?_
  rw[hb]
  refine aC (fun hb=>?_) (fun hb=>?_)
  rotate_left
  ·simp only[PP,Nat.reduceBEq]
   exact yh _ _ _ _ _ hg hT (by omega) hS
  repeat(first|(simp only[PP,Nat.reduceBEq,aj hS.wf])|(refine hS.jf ?_))
  refine ak.mono (wo (mP H5) mU hsz) ?_
  rintro v H6 ⟨rfl,hx6⟩
  have hS:=hS.j4 hx6
  repeat(first|(simp only[PP,Nat.reduceBEq,aj hS.wf])|(refine PU.b4 rfl ?_)|(refine hS.jf ?_))
  have hpt:ZC [.string mU,vn i,vi c1,.bool w1]:=⟨mU,i,c1,w1,rfl,hsz⟩
  refine hS.Vw rfl rfl rfl (by omega) fun H7 rx hS jC=>?_
  have hS:=hS.to (cs':=[.string mU,vn i,vi c1,.bool w1]) rfl
  refine hg.Ie (hS.perm (List.Perm.cons _ (List.perm_append_comm (l₁:=[_,_,_])))) (by omega) rfl rfl (by omega) fun v' H8 dD hg' hS _ _ nE=>?_
  have hS:=hS.perm (List.perm_append_comm (l₂:=[_,_,_]))
  simp only[List.cons_append,List.nil_append]at hS
  refine(show∀K:Prop,K→_∧K from fun K hK=>?_) _ ?_
  ·simp only[jC,aA,az hx6]
   rcases nE with e|e<;>rw[e]<;>apply RO (a:=ru) (by intros;rfl) (by kernel_rfl) (by kernel_rfl) hK
  exact yh _ _ _ _ _ hg' (hT.app hpt) (by rw[List.length_append];show cs.length +4≤_;omega) hS
 refine aC (fun hb=>?_) (fun hb=>?_)
 ·refine hS.aZ ?_;simp only[PP,Nat.reduceBEq,aj hS.wf]
  exact ap (!f1) _ rfl
 ·exact ap false _ rfl
theorem Jc(hw:Wf H){b:Nat}{ra na:Option Addr}{rn rc nn nc:Nat}{rcs bW:List Value}(hG:Gr b H ra rn rcs na nn bW)(hcap:na=none∨nc=aT 5):ak Pg X 31 [gV ra rn rc na nn nc] H (Q1 (fun v H'=>∃a n c cs,v=vV a n c∧Vo (H.next≤·) H' a n cs) H):=by
 have hS:=SH.refl hw
 have g2:=hG.2.1
 have g5:=hG.2.2.2.2.1
 refine ce [0,1,2,3,4,5,7,9,11,12,13,21,22,23,33,34,35,74,75,76] ?_;refine tl ?_
 refine hS.box rfl fun H1 rg hS=>?_
 refine hS.cZ fun Hn rv hS=>?_
 simp only[PP,Nat.reduceBEq,aj hS.wf];refine hS.bZ ?_
 refine ak.mono (CF hS.wf (hG.ex hS.ext)) ?_
 rintro v H2 ⟨⟨z,a,c,rfl,hcl⟩,hx⟩
 have hS:=hS.call hx
 rw[wC]
 simp only[PP,Nat.reduceBEq]
 refine aP (fun hc=>?_) (fun hc=>?_)
 ·refine PU.b1 rfl ?_
  refine hS.jd fun Hn hS=>?_
  refine rr ?_
  refine hS.bZ ?_
  exact⟨⟨none,0,0,[],rfl,fE.nil _ _ _ _ _,by omega,fun i h=>absurd h (by omega)⟩,hS.ext⟩
 have hC:=(hcl hc).1
 have hn1:=hC.2.1
 have hn0:0<nn:=by have:=hC.1.2 0 (by omega);omega
 have hge:=hS.ext.next
 refine ME.TJ hS qY fun H3 rm hm hx3 hrm hS=>?_
 have hrm:H.next≤rm:=by omega
 refine hS.aZ ?_;simp only[PP,Nat.reduceBEq,aj hS.wf]
 refine lp9 3 5 7 9 11 23 33 34 35 (I:=fun m x3 x5 x7 x9 bn oK rV x34 AA H'=>∃i mm cs gb,x5=vn (oH rcs i)∧oK=vn i∧i +m=rn∧jG H' rm mm∧GB 149 4 x3 cs gb∧uk cs∧cs.length≤4*oH rcs i∧SH [] H H' ([(rv,79,[.slice none 0 0]),(rg,69,[.slice ra rn rc,.slice na nn nc])]++gb)) ?_ rn ⟨0,[],[],[],rfl,rfl,by omega,hm,GB.nil _ _,uk.nil,Nat.zero_le _,hS⟩
 clear hS hm
 rintro m x3 x5 x7 x9 bn oK rV x34 AA dI H4 ⟨i,mm,cs,gb,rfl,rfl,him,hm,hg,hT,hl,hS⟩
 refine tl ?_
 simp only[PP,Nat.reduceBEq]
 refine ae (fun hc=>?_) (fun hc=>?_)
 rotate_left
 ·obtain rfl:i=rn:=by omega
  have hfr:=hC.from (i:=i -1) (by omega)
  rw[show i -1 +1=i by omega]at hfr
  exact abX hG hg hT (by omega) hS
 have hi:i<rn:=by omega
 have hfr:=hC.from hi
 obtain⟨r1,o1,mU,u1,f1,w1,c1,a1,e1,hl1,oV,jC,hsz,_⟩:=hG.ru hi rc
 rw[e1]
 simp only[PP,Nat.reduceBEq]
 refine hS.p_ oV hl1 ?_
 refine hS.jF rfl rfl rfl fun H5 ru hS hx5=>?_
 have hm:=hm.ex hx5 (fun h=>nomatch h)
 have hS:SH [] H H5 ((ru,141,kT mU u1 f1 w1 c1 (rootOf rcs i) a1)::(rv,79,[.slice none 0 0])::(rg,69,[.slice ra rn rc,.slice na nn nc])::gb):=hS
 simp only[PP,Nat.reduceBEq,aj hS.wf];refine hS.aZ ?_;refine hS.aZ ?_
 refine PU.of (au (by omega) (by omega)) ?_
 rw[←hfr.2.2]
 have hlo:oH rcs i≤oH rcs (i +1):=by omega
 have hhi:oH rcs (i +1)≤nn:=by omega
 generalize hh:oH rcs (i +1)=hi' at hlo hhi hfr⊢
 generalize oH rcs i=lo at hlo hl hfr⊢
 obtain⟨r2,o2,esl,hr2,hsub⟩:=hG.sub hcap hlo hhi hn0
 refine PU.of esl ?_
 simp only[PP,Nat.reduceBEq]
 refine Iv 3 9 11 35 (I:=fun m x3 x9 bn AA H'=>∃k mm cs gb,AA=vn k∧k +m=hi' -lo∧jG H' rm mm∧GB 149 4 x3 cs gb∧uk cs∧cs.length≤4*(lo +k)∧SH [] H H' ([(ru,141,kT mU u1 f1 w1 c1 (rootOf rcs i) a1),(rv,79,[.slice none 0 0]),(rg,69,[.slice ra rn rc,.slice na nn nc])]++gb)) ?_ (hi' -lo) ⟨0,mm,cs,gb,rfl,by omega,hm,hg,hT,by omega,hS⟩
 clear hS hm hg hT hl hc
 rintro m' y3 y9 y11 y35 yU H6 ⟨k,mm,cs,gb,rfl,hkm,hm,hg,hT,hl,hS⟩
 simp only[List.cons_append,List.nil_append]at hS
 refine tl ?_
 simp only[PP,Nat.reduceBEq]
 refine ae (fun hc=>?_) (fun hc=>?_)
 rotate_left
 ·obtain rfl:k=hi' -lo:=by omega
  refine tl ?_
  simp only[PP,Nat.reduceBEq,aj hS.wf];refine hS.aZ ?_
  refine PU.of (au (by omega) (by omega)) ?_
  refine tl ?_
  refine PU.of (au (by omega) (by omega)) ?_
  exact⟨rn -(i +1),by omega,_,_,_,_,_,_,_,_,_,_,_,rfl,i +1,mm,cs,gb,by rw[hh,←hfr.2.2],by rw[show((i:Int) +1)=((i +1:Nat):Int) by omega],by omega,hm,hg,hT,by omega,SH.drop (A:=[_]) hS⟩
 have hk:k<hi' -lo:=by omega
 obtain⟨eid,erd⟩:=hsub k hk
 refine PU.of eid ?_
 obtain⟨kd,ka,kn,kc,ks,t,xa,xn,xc,at',he,_,htz,_⟩:=hC.1.1 (lo +k) (by omega)
 rw[he]at erd
 refine hS.p_ erd hr2 ?_
 refine hS.jF rfl rfl rfl fun H7 rb hS hx7=>?_
 have hm:=hm.ex hx7 (fun h=>nomatch h)
 have hS:SH [] H H7 ((rb,145,[vi kd,.slice ka kn kc,.string t,.slice xa xn xc,vi at'])::(ru,141,kT mU u1 f1 w1 c1 (rootOf rcs i) a1)::(rv,79,[.slice none 0 0])::(rg,69,[.slice ra rn rc,.slice na nn nc])::gb):=hS
 simp only[PP,Nat.reduceBEq,aj hS.wf];refine hS.aZ ?_
 refine ME.I1 hm qY I4 UF fun f _ _=>?_
 simp only[PP,Nat.reduceBEq]
 have yh:∀{bn mm cs gb oU H8 x3},jG H8 rm mm→GB 149 4 x3 cs gb→uk cs→cs.length≤4*(lo +(k +1))→SH [] H H8 ((rb,145,[vi kd,.slice ka kn kc,.string t,.slice xa xn xc,vi at'])::(ru,141,kT mU u1 f1 w1 c1 (rootOf rcs i) a1)::(rv,79,[.slice none 0 0])::(rg,69,[.slice ra rn rc,.slice na nn nc])::gb)→
  ∃m_1,m_1<m'∧mE (gV ra rn rc na nn nc) (pr rg) (pr rv) (.map (some rm)) (vn lo) (pr ru) top top (.slice ra rn rc) (vn rn) (vn i) (.slice (some ⟨r2,o2 +lo*5,none⟩) (hi' -lo) (aT 5)) (vn (hi' -lo)) top top top (fun m x3 x9 bn AA H'=>∃k mm cs gb,AA=vn k∧k +m=hi' -lo∧jG H' rm mm∧GB 149 4 x3 cs gb∧uk cs∧cs.length≤4*(lo +k)∧SH [] H H' ([(ru,141,kT mU u1 f1 w1 c1 (rootOf rcs i) a1),(rv,79,[.slice none 0 0]),(rg,69,[.slice ra rn rc,.slice na nn nc])]++gb)) m_1
   (j5 (gV ra rn rc na nn nc) (pr rg) (pr rv) x3 (.map (some rm)) (vn lo) (pr ru) (pr rb) bn top top (.slice ra rn rc) (vn rn) (vn i) (.slice (some ⟨r2,o2 +lo*5,none⟩) (hi' -lo) (aT 5)) (vn (hi' -lo)) (vi ((k:Int) +1)) top top top oU H8):=by
  intro bn mm cs gb oU H8 x3 h1 h2 h3 h4 h5
  exact⟨hi' -lo -(k +1),by omega,_,_,_,_,_,_,rfl,k +1,mm,cs,gb,by rw[show((k:Int) +1)=((k +1:Nat):Int) by omega],by omega,h1,h2,h3,h4,SH.drop (A:=[_]) h5⟩
 refine aC (fun hb=>?_) (fun hb=>?_)
 ·refine PU.of (au (by omega) (by omega)) ?_
  exact yh hm hg hT (by omega) hS
 refine hS.aZ ?_;simp only[PP,Nat.reduceBEq,aj hS.wf]
 refine aC (fun hb2=>?_) (fun hb2=>?_)
 ·refine PU.of (au (by omega) (by omega)) ?_
  exact yh hm hg hT (by omega) hS
 refine hS.aZ ?_;simp only[PP,Nat.reduceBEq,aj hS.wf]
 refine aP (fun hc3=>?_) (fun hc3=>?_)
 ·refine PU.of (au (by omega) (by omega)) ?_
  exact yh hm hg hT (by omega) hS
 refine tl ?_
 simp only[PP,Nat.reduceBEq,aj hS.wf];refine hS.aZ ?_
 obtain⟨a3,n3,c3,rfl,hn3,_⟩:=hg.fl (hS.perm (List.perm_append_comm (l₁:=[_,_,_,_])))
 simp only[PP,Nat.reduceBEq]
 refine hS.upd (.inr hrm) hm qY UF fun H8 ZX hm2 _ hS=>?_
 refine hS.aZ ?_
 refine ak.mono (wo hS.wf t htz) ?_
 rintro v H9 ⟨rfl,ZE⟩
 have hm2:=hm2.ex ZE (fun h=>nomatch h)
 have hS:=hS.call ZE
 have adt:=hm2.1
 refine PU.b4 rfl ?_
 have hnm:=hS.wE hm2
 have hS:SH [] H H9 ([(rb,145,[vi kd,.slice ka kn kc,.string t,.slice xa xn xc,vi at']),(ru,141,kT mU u1 f1 w1 c1 (rootOf rcs i) a1),(rv,79,[.slice none 0 0]),(rg,69,[.slice ra rn rc,.slice na nn nc])]++gb):=hS
 have hS0:=hS
 have hS:=hS0.base
 refine ac4 hg hT (by omega) hS (l:=[.string t,vi (-1),vi 0,.bool false]) ⟨t,-1,0,false,rfl,htz⟩ fun w v' Zx dD hg' hT' hS'=>?_
 have IM:=hm2.ex hS'.ext hnm
 simp only[PP,Nat.reduceBEq]
 refine tl ?_
 refine PU.of (au (by omega) (by omega)) ?_
 exact yh IM hg' hT' (by rw[List.length_append];show cs.length +4≤_;omega) (hS0.over hS')
end Go.Proofs.Lu
set_option maxRecDepth 100000
set_option maxHeartbeats 4000000
namespace Go.Proofs.Lu
open Go.Ae Go.Ae.M
variable{H0 H:aa}{L M:List aK}{S:List Nat}{F:Nat→Prop}{Q:Int→Prop}{r n c:Nat}{ty:TypeId}
def oI(rcs:List Value):Nat→Nat
 |0=>0
 |i +1=>oI rcs i +(if xV rcs i=true then 0 else 1)
theorem yX(rcs:List Value){i j:Nat}(h:i≤j):oI rcs i≤oI rcs j:=by
 induction j with
 |zero=>obtain rfl:i=0:=by omega
        exact Nat.le_refl _
 |succ j ih=>
  rcases Nat.lt_or_ge i (j +1)with h1|h1
  ·have:=ih (by omega)
   show _≤oI rcs j +_
   omega
  ·obtain rfl:i=j +1:=by omega
   exact Nat.le_refl _
theorem F3(rcs:List Value):∀i,oI rcs i≤i
 |0=>Nat.le_refl _
 |i +1=>by
  have:=F3 rcs i
  show oI rcs i +_≤_
  split<;>omega
def kR(tn lw:Nat)(l:List Value):Prop:=∃k a:Nat,l=[vn k,vn a,vn 0]∧(k=0∨(k=1∧a<tn)∨(k=2∧a<lw))
theorem kR.zero(tn lw:Nat):kR tn lw [vi 0,vi 0,vi 0]:=⟨0,0,rfl,.inl rfl⟩
def Et(tn lw:Nat)(m:List (ByteArray×Value)):Prop:=∀p∈m,∃l,p.2=.agg ⟨l⟩∧kR tn lw l
theorem F4:qz Pg 189=some (9,47):=by kernel_rfl
theorem TL:uW Pg 47=some (.agg ⟨[vi 0,vi 0,vi 0]⟩):=by kernel_rfl
theorem Et.get{tn lw:Nat}{m:List (ByteArray×Value)}(h:Et tn lw m){k:ByteArray}{f:Option Value}(hf:∀v,f=some v→(k,v)∈m):∃l,f.getD (.agg ⟨[vi 0,vi 0,vi 0]⟩)=.agg ⟨l⟩∧kR tn lw l:=by
 cases f with
 |none=>exact⟨_,rfl,kR.zero _ _⟩
 |some v=>exact h _ (hf v rfl)
theorem TM{tn lw rm re ru rv rg:Nat}{va ra na:Option Addr}{vc rn rc nn nc:Nat}{mm:List (ByteArray×Value)}{nm:ByteArray}{u f w:Bool}{ch root at' kd ar:Int}{H1:aa}(hrm:H.next≤rm)(hm:jG H1 rm mm)(hE:Et tn lw mm)(hk:0≤ar→kR tn lw [vi kd,vi ar,vi 0])
 (hS:SH [] H H1 [(re,47,[vi kd,vi ar,vi 0]),(ru,141,kT nm u f w ch root at'),(rv,79,[.slice va tn vc]),(rg,69,[.slice ra rn rc,.slice na nn nc])]){x0 x1 x6 x7 bn bT bJ eF bL jH mJ x20 VI VJ Kn Jm:Value}{dI:List (Nat×Value)}{K:Out→Prop}
 (kk:∀bn PG oU H',jG H' rm PG→Et tn lw PG→SH [] H H' [(rv,79,[.slice va tn vc]),(rg,69,[.slice ra rn rc,.slice na nn nc])]→K (.norm (fU x0 x1 (pr rg) (pr rv) (.slice none 0 0) (.map (some rm)) x6 x7 (pr ru) (pr re) bn bT bJ eF bL jH mJ x20 VI VJ Kn Jm oU H'))):
 aR Pg X (sub mI [1,1,1,0,1,0,0,1,1,0,0,1,1,1]) (fU x0 x1 (pr rg) (pr rv) (.slice none 0 0) (.map (some rm)) x6 x7 (pr ru) (pr re) bn bT bJ eF bL jH mJ x20 VI VJ Kn Jm dI H1) K:=by
 refine tl ?_
 simp only[PP,Nat.reduceBEq,aj hS.wf];refine hS.aZ ?_
 refine ME.I1 hm F4 TL UF fun fo hf _=>?_
 simp only[PP,Nat.reduceBEq]
 obtain⟨l,e,hl⟩:=hE.get hf
 rw[e]
 obtain⟨k1,a1,rfl,hl⟩:=hl
 refine hS.jF rfl rfl rfl fun H2 rt hS hx=>?_
 have hm:=hm.ex hx (fun h=>nomatch h)
 have hS:SH [] H H2 ((rt,47,[vn k1,vn a1,vn 0])::[(re,47,[vi kd,vi ar,vi 0]),(ru,141,kT nm u f w ch root at'),(rv,79,[.slice va tn vc]),(rg,69,[.slice ra rn rc,.slice na nn nc])]):=hS
 have put:∀b:Bool,(b=true→0≤ar)→∀bn dI,zZ dI 48=.bool b→aR Pg X (sub mI [1,1,1,0,1,0,0,1,1,0,0,1,1,1,1,1]) (fU x0 x1 (pr rg) (pr rv) (.slice none 0 0) (.map (some rm)) x6 x7 (pr ru) (pr re) bn bT bJ eF bL jH mJ x20 VI VJ Kn Jm dI H2) K:=by
  intro b hb bn dI hlk
  refine tl ?_
  rw[hlk]
  refine aC (fun hb2=>?_) (fun hb2=>?_)
  ·simp only[PP,Nat.reduceBEq,aj hS.wf];refine hS.aZ ?_;refine hS.bZ ?_
   refine hS.upd (.inr hrm) hm F4 UF fun H3 ZX hm2 hmm hS=>?_
   refine kk _ ZX _ _ hm2 (fun p hp=>?_) (SH.drop (A:=[_,_,_]) hS)
   rcases hmm p hp with h|rfl
   ·exact hE p h
   ·exact⟨_,rfl,hk (hb hb2)⟩
  ·exact kk _ mm _ _ hm hE (SH.drop (A:=[_,_,_]) hS)
 refine aC (fun hb=>?_) (fun hb=>?_)
 ·refine hS.aZ ?_;simp only[PP,Nat.reduceBEq,aj hS.wf]
  exact put _ of_decide_eq_true _ _ rfl
 ·exact put false (fun h=>by cases h) _ _ rfl
theorem _root_.Go.Ae.SH.ac5{S:List Nat}{H0 H:aa}{L:List aK}{K:Value→aa→Prop}(hS:SH S H0 H L){e:TypeId}{z:List Value}{n m:Nat}(hn:n≤m)(hm:m≤16777216)
 (k:∀H1 r,SH S H0 H1 ((r,e,gM z m)::L)→Ext H H1→H.next≤r→K (.slice (some ⟨r,0,none⟩) n m) H1):ME (Go.Ae.mkS e z (vn n) (vn m) H) K:=
 (SH.refl hS.wf).mkS hn hm fun H1 r hO=>k H1 r (SH.frame (M:=[]) (L:=L) hS hO) hO.ext (hO.xA (List.mem_cons_self ..))
theorem ZF(z:List Value)(n:Nat):∀k,k<n→El (gM z n) z.length k=z:=by
 induction n with
 |zero=>intro k h;omega
 |succ n ih=>
  intro k h
  have e:gM z (n +1)=z++gM z n:=by show app z (gM z n)=_;rw[iY]
  rw[e]
  cases k with
  |zero=>unfold El;simp
  |succ k=>
   have:=ih k (by omega)
   unfold El at this⊢
   rw[show(k +1)*z.length=z.length +k*z.length by rw[Nat.add_mul];omega,List.drop_append,List.drop_of_length_le (by omega)]
   rw[show z.length +k*z.length -z.length=k*z.length by omega]
   exact this
theorem ZG{tn lw rm rv rg b:Nat}{va ra na:Option Addr}{vc rn rc nn nc:Nat}{rcs bW vcs:List Value}{mm:List (ByteArray×Value)}{H1:aa}(hG:Gr b H ra rn rcs na nn bW)(hR:∀i,i<nn→Tz (b≤·) H i (El bW 5 i))(hV:Vo F H va tn vcs)(hm:jG H1 rm mm)(hE:Et tn lw mm)
 (hS:SH [] H H1 [(rv,79,[.slice va tn vc]),(rg,69,[.slice ra rn rc,.slice na nn nc])]){x0 x1 x6 x7 x8 x9 bn bT bJ eF bL jH mJ x20 VI VJ Kn Jm:Value}{dI:List (Nat×Value)}:
 aR Pg X (sub mI [1,1,1,1]) (fU x0 x1 (pr rg) (pr rv) (.slice none 0 0) (.map (some rm)) x6 x7 x8 x9 bn bT bJ eF bL jH mJ x20 VI VJ Kn Jm dI H1)
  (cB Pg [.tmp 4] (Q1 (fun v H'=>∃rl cs,v=.slice (some ⟨rl,0,none⟩) nn nn∧H.next≤rl∧rl<H'.next∧Bk H' rl 47 cs∧cs.length=nn*3∧∀i,i<nn→kR tn lw (El cs 3 i)) H)):=by
 have g5:=hG.2.2.2.2.1
 have hnm:=hS.wE hm
 refine tl ?_
 repeat(first|(simp only[PP,Nat.reduceBEq,aj hS.wf])|(refine hS.aZ ?_))
 have adu:=hm.1
 refine hS.ac5 (Nat.le_refl _) (by omega) fun H2 rl hS hx2 hrl=>?_
 refine hS.ld 2 (o:=1) rfl rfl ?_
 simp only[PP,Nat.reduceBEq]
 have hm:=hm.ex hx2 (fun h=>nomatch h)
 have hin:∃cs,cs.length=nn*3∧(∀i,i<nn→kR tn lw (El cs 3 i))∧SH [] H H2 [(rl,47,cs),(rv,79,[.slice va tn vc]),(rg,69,[.slice ra rn rc,.slice na nn nc])]:=⟨_,D9 _ _,fun i hi=>by rw[show(3:Nat)=[Value.int .i64 0,Value.int .i64 0,Value.int .i64 0].length from rfl,ZF _ _ _ hi];exact kR.zero _ _,hS⟩
 refine VG 13 14 15 61 67 (I:=fun m bJ eF bL Kn Jm H'=>∃i cs,Kn=vn i∧i +m=nn∧jG H' rm mm∧cs.length=nn*3∧(∀i,i<nn→kR tn lw (El cs 3 i))∧SH [] H H' [(rl,47,cs),(rv,79,[.slice va tn vc]),(rg,69,[.slice ra rn rc,.slice na nn nc])]) ?_ nn ⟨0,hin.choose,rfl,by omega,hm,hin.choose_spec.1,hin.choose_spec.2.1,hin.choose_spec.2.2⟩
 clear hS hm hin
 rintro m bJ eF bL Kn Jm dI H3 ⟨i,cs,rfl,him,hm,hcl,hcs,hS⟩
 refine tl ?_
 simp only[PP,Nat.reduceBEq]
 refine ae (fun hc=>?_) (fun hc=>?_)
 rotate_left
 ·refine tl ?_
  refine rr ?_;exact⟨⟨rl,cs,rfl,hS.xA (List.mem_cons_self ..),(hS.lo _ (List.mem_cons_self ..)).2,hS.get 0 rfl,hcl,hcs⟩,hS.ext⟩
 have hi:i<nn:=by omega
 obtain⟨kd,ka,kn,kc,ks,t,xa,xn,xc,at',he,_,htz,_⟩:=hR i hi
 obtain⟨r2,o2,e2,hr2,hrd,_⟩:=hG.no hi nc he
 rw[e2]
 simp only[PP,Nat.reduceBEq]
 refine hS.p_ hrd hr2 ?_
 refine hS.jF rfl rfl rfl fun H4 rb hS hx4=>?_
 have hm:=hm.ex hx4 (fun h=>nomatch h)
 have hS:SH [] H H4 ((rb,145,[vi kd,.slice ka kn kc,.string t,.slice xa xn xc,vi at'])::[(rl,47,cs),(rv,79,[.slice va tn vc]),(rg,69,[.slice ra rn rc,.slice na nn nc])]):=hS
 have yh:∀{bL Jm oU H5 cs},jG H5 rm mm→cs.length=nn*3→(∀i,i<nn→kR tn lw (El cs 3 i))→SH [] H H5 ((rb,145,[vi kd,.slice ka kn kc,.string t,.slice xa xn xc,vi at'])::[(rl,47,cs),(rv,79,[.slice va tn vc]),(rg,69,[.slice ra rn rc,.slice na nn nc])])→
  ∃m_1,m_1<m∧oQ x0 x1 (pr rg) (pr rv) (.slice none 0 0) (.map (some rm)) x6 x7 x8 x9 bn (.slice (some ⟨rl,0,none⟩) nn nn) jH mJ x20 (.slice na nn nc) (vn nn) (fun m bJ eF bL Kn Jm H'=>∃i cs,Kn=vn i∧i +m=nn∧jG H' rm mm∧cs.length=nn*3∧(∀i,i<nn→kR tn lw (El cs 3 i))∧SH [] H H' [(rl,47,cs),(rv,79,[.slice va tn vc]),(rg,69,[.slice ra rn rc,.slice na nn nc])]) m_1
   (fU x0 x1 (pr rg) (pr rv) (.slice none 0 0) (.map (some rm)) x6 x7 x8 x9 bn (.slice (some ⟨rl,0,none⟩) nn nn) (vn i) (pr rb) bL jH mJ x20 (.slice na nn nc) (vn nn) (vi ((i:Int) +1)) Jm oU H5):=by
  intro bL Jm oU H5 cs h1 h2 h3 h4
  exact⟨nn -(i +1),by omega,_,_,_,_,_,_,_,rfl,i +1,cs,by rw[show((i:Int) +1)=((i +1:Nat):Int) by omega],by omega,h1,h2,h3,SH.drop (A:=[_]) h4⟩
 have put:∀{H5 l}{K:Value→Value→aa→Prop},jG H5 rm mm→kR tn lw l→SH [] H H5 ((rb,145,[vi kd,.slice ka kn kc,.string t,.slice xa xn xc,vi at'])::[(rl,47,cs),(rv,79,[.slice va tn vc]),(rg,69,[.slice ra rn rc,.slice na nn nc])])→
  (∀p H6 cs,jG H6 rm mm→cs.length=nn*3→(∀i,i<nn→kR tn lw (El cs 3 i))→SH [] H H6 ((rb,145,[vi kd,.slice ka kn kc,.string t,.slice xa xn xc,vi at'])::[(rl,47,cs),(rv,79,[.slice va tn vc]),(rg,69,[.slice ra rn rc,.slice na nn nc])])→K p undef H6)→
  PU (q_ 3 (.slice (some ⟨rl,0,none⟩) nn nn) (vn i)) fun p=>ME (Aw 3 p (.agg ⟨l⟩) H5) (K p):=by
  intro H5 l K hm hl hS kk
  refine PU.of (n_ hi) ?_
  rw[Nat.zero_add]
  obtain⟨k1,a1,rfl,_⟩:=id hl
  have hO:=hS.base
  refine hO.st 1 rfl rfl (by show i*3 +3≤cs.length;omega) rfl fun H6 hO6=>?_
  have hne:=hS.wE hm
  refine kk _ H6 _ (hm.ex hO6.ext hne) (by rw[dM (by show i*3 +3≤cs.length;omega)];exact hcl) (fun k hk=>?_) (hS.over hO6)
  show kR tn lw (El (splice cs (i*3) [vn k1,vn a1,vn 0]) 3 k)
  rw[yL (es:=3) (k:=i) rfl (by omega)]
  split
  ·exact hl
  ·exact hcs k hk
 repeat(first|(simp only[PP,Nat.reduceBEq,aj hS.wf])|(refine hS.aZ ?_))
 refine ae (fun hc1=>?_) (fun hc1=>?_)
 ·refine hS.aZ ?_
  refine ME.X5 hm F4 TL UF fun fo hf _=>?_
  obtain⟨l,e,hl⟩:=hE.get hf
  rw[e]
  refine put hm hl hS fun p H6 cs h1 h2 h3 h4=>?_
  refine PU.of (au (by omega) (by omega)) ?_
  exact yh h1 h2 h3 h4
 refine ae (fun hc2=>?_) (fun hc2=>?_)
 rotate_left
 ·refine PU.of (au (by omega) (by omega)) ?_
  exact yh hm hcl hcs hS
 refine hS.bZ ?_;refine hS.aZ ?_
 refine ak.mono (Dw hS.wf ⟨hV.1.ex hS.ext,hV.2⟩ t) ?_
 rintro v H5 ⟨⟨z,rfl,hz1,hz2⟩,hx5⟩
 have hS:=hS.call hx5
 have hm:=hm.ex hx5 (fun h=>nomatch h)
 simp only[PP,Nat.reduceBEq]
 refine ae (fun hc3=>?_) (fun hc3=>?_)
 ·obtain⟨z,rfl⟩:∃n:Nat,z=n:=⟨z.toNat,by omega⟩
  refine PU.b3 rfl ?_
  refine put (l:=[vi 1,vn z,vi 0]) hm ⟨1,z,rfl,.inr (.inl ⟨rfl,by omega⟩)⟩ hS fun p H6 cs h1 h2 h3 h4=>?_
  refine PU.of (au (by omega) (by omega)) ?_
  exact yh h1 h2 h3 h4
 ·refine PU.of (au (by omega) (by omega)) ?_
  exact yh hm hcl hcs hS
theorem KZ(hw:Wf H){b tn:Nat}{ra na va:Option Addr}{rn rc nn nc vc:Nat}{rcs bW vcs:List Value}(hG:Gr b H ra rn rcs na nn bW)(hR:∀i,i<nn→Tz (b≤·) H i (El bW 5 i))(hV:Vo F H va tn vcs):ak Pg X 76 [gV ra rn rc na nn nc,vV va tn vc] H
 (Q1 (fun v H'=>∃rl cs,v=.slice (some ⟨rl,0,none⟩) nn nn∧H.next≤rl∧rl<H'.next∧Bk H' rl 47 cs∧cs.length=nn*3∧∀i,i<nn→kR tn (oI rcs rn) (El cs 3 i)) H):=by
 have g2:=hG.2.1
 have hS:=SH.refl hw
 refine ce [0,1,2,3,4,5,6,7,8,9,11,12,13,14,15,18,19,20,59,60,61,67] ?_;refine tl ?_
 refine hS.box rfl fun H1 rg hS=>?_
 refine hS.box rfl fun H2 rv hS=>?_
 have hge:=hS.ext.next
 refine ME.TJ hS F4 fun H3 rm hm hx3 hrm hS=>?_
 have hrm:H.next≤rm:=by omega
 repeat(first|(simp only[PP,Nat.reduceBEq,aj hS.wf])|(refine hS.aZ ?_))
 refine lp6 6 7 8 9 11 20 (I:=fun m x6 x7 x8 x9 bn x20 H'=>∃i mm,x6=vn (oI rcs i)∧x20=vn i∧i +m=rn∧jG H' rm mm∧Et tn (oI rcs rn) mm∧SH [] H H' [(rv,79,[.slice va tn vc]),(rg,69,[.slice ra rn rc,.slice na nn nc])]) ?_ rn ⟨0,[],rfl,rfl,by omega,hm,(fun p h=>nomatch h),hS⟩
 clear hS hm
 rintro m x6 x7 x8 x9 bn x20 dI H4 ⟨i,mm,rfl,rfl,him,hm,hE,hS⟩
 refine tl ?_
 simp only[PP,Nat.reduceBEq]
 refine ae (fun hc=>?_) (fun hc=>?_)
 rotate_left
 ·exact ZG hG hR hV hm hE hS
 have hi:i<rn:=by omega
 obtain⟨r1,o1,mU,u1,f1,w1,c1,a1,e1,hl1,oV,jC,hsz,hel⟩:=hG.ru hi rc
 rw[e1]
 simp only[PP,Nat.reduceBEq]
 refine hS.p_ oV hl1 ?_
 refine hS.jF rfl rfl rfl fun H5 ru hS hx5=>?_
 have hm:=hm.ex hx5 (fun h=>nomatch h)
 refine PU.b3 rfl ?_
 refine hS.jF rfl rfl rfl fun H6 re hS hx6=>?_
 have hm:=hm.ex hx6 (fun h=>nomatch h)
 have hS:SH [] H H6 [(re,47,[vi 2,vn (oI rcs i),vi 0]),(ru,141,kT mU u1 f1 w1 c1 (rootOf rcs i) a1),(rv,79,[.slice va tn vc]),(rg,69,[.slice ra rn rc,.slice na nn nc])]:=hS
 have hlow:oI rcs (i +1)=oI rcs i +(if xV rcs i=true then 0 else 1):=rfl
 rw[AB hel]at hlow
 have hmo:=yX rcs (show i +1≤rn by omega)
 have ac6:=F3 rcs i
 repeat(first|(simp only[PP,Nat.reduceBEq,aj hS.wf])|(refine hS.aZ ?_))
 refine aC (fun hb=>?_) (fun hb=>?_)
 ·rw[if_pos hb]at hlow
  refine hS.bZ ?_
  refine ak.mono (KX hS.wf ⟨hV.1.ex hS.ext,hV.2⟩ i) ?_
  rintro v H7 ⟨⟨z,rfl,hz1,hz2⟩,hx7⟩
  have hS:=hS.call hx7
  have hm:=hm.ex hx7 (fun h=>nomatch h)
  refine PU.b3 rfl ?_
  have hO:=hS.base
  refine hO.st 0 rfl rfl (Nat.le_refl 3) rfl fun H8 hO8=>?_
  have hm:=hm.ex hO8.ext (hS.wE hm)
  have hS:SH [] H H8 [(re,47,[vi 1,vi z,vi 0]),(ru,141,kT mU u1 f1 w1 c1 (rootOf rcs i) a1),(rv,79,[.slice va tn vc]),(rg,69,[.slice ra rn rc,.slice na nn nc])]:=hS.over hO8
  refine TM hrm hm hE (fun h0=>by
   obtain⟨z,rfl⟩:∃n:Nat,z=n:=⟨z.toNat,by omega⟩
   exact⟨1,z,rfl,.inr (.inl ⟨rfl,by omega⟩)⟩) hS fun bn PG oU H9 g1 g2 g3=>?_
  simp only[PP,Nat.reduceBEq]
  refine tl ?_
  refine PU.of (au (by omega) (by omega)) ?_
  exact⟨rn -(i +1),by omega,_,_,_,_,_,_,_,_,rfl,i +1,PG,by rw[hlow];rfl,by rw[show((i:Int) +1)=((i +1:Nat):Int) by omega],by omega,g1,g2,g3⟩
 ·rw[if_neg (by rw[hb];simp)]at hlow
  refine PU.of (au (by omega) (by omega)) ?_
  rw[show((oI rcs i:Int) +1)=((oI rcs (i +1):Nat):Int) by omega]
  refine TM hrm hm hE (fun h0=>⟨2,oI rcs i,rfl,.inr (.inr ⟨rfl,by omega⟩)⟩) hS fun bn PG oU H9 g1 g2 g3=>?_
  simp only[PP,Nat.reduceBEq]
  refine tl ?_
  refine PU.of (au (by omega) (by omega)) ?_
  exact⟨rn -(i +1),by omega,_,_,_,_,_,_,_,_,rfl,i +1,PG,rfl,by rw[show((i:Int) +1)=((i +1:Nat):Int) by omega],by omega,g1,g2,g3⟩
end Go.Proofs.Lu
set_option maxRecDepth 100000
set_option maxHeartbeats 4000000
namespace Go.Proofs.Lu
open Go.Ae Go.Ae.M
variable{H0 H:aa}{L M:List aK}{S:List Nat}{F:Nat→Prop}{Q:Int→Prop}{r n c:Nat}{ty:TypeId}
def Nc(F:Nat→Prop)(H:aa)(nn:Nat)(bW:List Value)(kd:Nat→Int)(zs:Nat→List Nat):Prop:=∀i,i<nn→∃(a:Option Addr)(c:Nat)(t:ByteArray)(xa:Option Addr)(xn xc:Nat)(at':Int),El bW 5 i=[vi (kd i),.slice a (zs i).length c,.string t,.slice xa xn xc,vi at']∧fE F 3 H a (zs i).length 1 (bH (zs i))∧Cu (kd i) (zs i).length∧(∀z∈zs i,z<i)∧t.size≤1000000∧(zs i).length≤20001
theorem Nf:∀{ks:List Value}{i:Nat},(∀x∈ks,∃z:Nat,x=vn z∧z<i)→∃zs,ks=bH zs∧∀z∈zs,z<i
 |[],i,h=>⟨[],rfl,fun z h=>nomatch h⟩
 |x::ks,i,h=>by
  obtain⟨z,rfl,hz⟩:=h x (List.mem_cons_self ..)
  obtain⟨zs,rfl,h2⟩:=Nf (ks:=ks) (i:=i) fun y hy=>h y (List.mem_cons_of_mem _ hy)
  exact⟨z::zs,rfl,fun y hy=>by
   rcases List.mem_cons.1 hy with rfl|hy
   ·exact hz
   ·exact h2 y hy⟩
theorem Nc.of{nn:Nat}{bW:List Value}(h:∀i,i<nn→Tz F H i (El bW 5 i)):∃kd zs,Nc F H nn bW kd zs:=by
 have key:∀i,∃p:Int×List Nat,i<nn→∃(a:Option Addr)(c:Nat)(t:ByteArray)(xa:Option Addr)(xn xc:Nat)(at':Int),El bW 5 i=[vi p.1,.slice a p.2.length c,.string t,.slice xa xn xc,vi at']∧fE F 3 H a p.2.length 1 (bH p.2)∧Cu p.1 p.2.length∧(∀z∈p.2,z<i)∧t.size≤1000000∧p.2.length≤20001:=by
  intro i
  by_cases hi:i<nn
  ·obtain⟨kd,a,n,c,ks,t,xa,xn,xc,at',h1,h2,h3,h4,h5,h6⟩:=h i hi
   obtain⟨zs,rfl,h7⟩:=Nf h6
   have:n=zs.length:=by have:=h4.1.1;simp at this;omega
   subst this
   exact⟨(kd,zs),fun _=>⟨a,c,t,xa,xn,xc,at',h1,h4,h5,h7,h3,h2⟩⟩
  ·exact⟨(0,[]),fun h=>absurd h hi⟩
 exact⟨fun i=>(Classical.choose (key i)).1,fun i=>(Classical.choose (key i)).2,fun i hi=>Classical.choose_spec (key i) hi⟩
def W(ws:List Nat)(i:Nat):Nat:=ws[i]?.getD 0
def wN(kd:Int):Nat:=if kd=0 then 2 else if kd=1 then 0 else if kd=2∨kd=3∨kd=4 then 3 else 1
def Ai(kd:Int):Nat:=if kd=0 then 1 else 0
def h_(ws:List Nat)(kd:Int)(l:List Nat):Nat:=(l.map fun z=>W ws z +Ai kd).sum
def xX(kd:Nat→Int)(zs:Nat→List Nat)(ws:List Nat)(i:Nat):Prop:=W ws i=min (wN (kd i) +h_ ws (kd i) (zs i)) 4001
theorem X8{ws:List Nat}{i x z:Nat}(h:z≠i):W (ws.set i x) z=W ws z:=by
 unfold W;rw[List.getElem?_set,if_neg (fun e=>h e.symm)]
theorem ZH{ws:List Nat}{i x:Nat}(h:i<ws.length):W (ws.set i x) i=x:=by
 unfold W;rw[List.getElem?_set,if_pos rfl,if_pos h];rfl
theorem Jd{ws:List Nat}{i x:Nat}{kd:Int}{l:List Nat}(h:∀z∈l,z<i):h_ (ws.set i x) kd l=h_ ws kd l:=by
 unfold h_
 congr 1
 apply List.map_congr_left
 intro z hz
 rw[X8 (by have:=h z hz;omega)]
theorem abY{ws:List Nat}{kd:Nat→Int}{zs:Nat→List Nat}{i:Nat}(h:xX kd zs ws i):W ws i≤4001:=by
 unfold xX at h;omega
theorem ac7{nn rs rr rn rc nc i rb rg:Nat}{ra na xa:Option Addr}{t:ByteArray}{a:Option Addr}{c xn xc:Nat}{at':Int}{kd:Nat→Int}{zs:Nat→List Nat}{ws:List Nat}{bs:List Bool}{ok:Bool}{H1:aa}(hnn:nn≤4000)(hi:i<nn)(hwl:ws.length=nn)(hbl:bs.length=nn)
 (hf:fE F 3 H a (zs i).length 1 (bH (zs i)))(hzz:∀j,j<nn→∀z∈zs j,z<j)(hzl:(zs i).length≤20001)(hd:∀j,j<i→xX kd zs ws j)
 (hS:SH [] H H1 [(rb,145,[vi (kd i),.slice a (zs i).length c,.string t,.slice xa xn xc,vi at']),(rr,4,bools bs),(rs,3,bH ws),(rg,69,[.slice ra rn rc,.slice na nn nc])])
 {x0 x1 x4 x5 bJ oK x24 x25 x31 Ch z_ v_:Value}{dI:List (Nat×Value)}{K:Out→Prop}
 (kk:∀aW bn bJ Ch z_ v_ ws' bs' oU H',ws'.length=nn→bs'.length=nn→(∀j,j<i +1→xX kd zs ws' j)→SH [] H H' [(rb,145,[vi (kd i),.slice a (zs i).length c,.string t,.slice xa xn xc,vi at']),(rr,4,bools bs'),(rs,3,bH ws'),(rg,69,[.slice ra rn rc,.slice na nn nc])]→
  K (.norm (iP x0 x1 (pr rg) x4 x5 (.slice (some ⟨rs,0,none⟩) nn nn) (.slice (some ⟨rr,0,none⟩) nn nn) (vn i) (pr rb) aW bn bJ oK x24 x25 x31 Ch z_ v_ oU H'))):
 aR Pg X (sub eZ [1,1,1,0,1,0,0,1,1,0,0,1,1,1]) (iP x0 x1 (pr rg) x4 x5 (.slice (some ⟨rs,0,none⟩) nn nn) (.slice (some ⟨rr,0,none⟩) nn nn) (vn i) (pr rb) (vn (wN (kd i))) (.bool ok) bJ oK x24 x25 x31 Ch z_ v_ dI H1) K:=by
 have hz:=hzz i hi
 have adv:wN (kd i)≤3:=by unfold wN;split<;>(try split)<;>(try split)<;>omega
 refine tl ?_
 repeat(first|(simp only[PP,Nat.reduceBEq,aj hS.wf])|(refine hS.aZ ?_))
 refine Iv 10 11 13 51 (I:=fun m aW bn bJ v_ H'=>∃(k:Nat)(o:Bool),v_=vn k∧k +m=(zs i).length∧aW=vn (min (wN (kd i) +h_ ws (kd i) ((zs i).take k)) 4001)∧bn=.bool o∧SH [] H H' [(rb,145,[vi (kd i),.slice a (zs i).length c,.string t,.slice xa xn xc,vi at']),(rr,4,bools bs),(rs,3,bH ws),(rg,69,[.slice ra rn rc,.slice na nn nc])]) ?_ (zs i).length ⟨0,ok,rfl,by omega,by rw[List.take_zero,show h_ ws (kd i) []=0 from rfl,Nat.add_zero,Nat.min_eq_left (by omega)];rfl,rfl,hS⟩
 clear hS
 rintro m aW bn bJ v_ dI H2 ⟨k,o,rfl,hkm,rfl,rfl,hS⟩
 refine tl ?_
 simp only[PP,Nat.reduceBEq]
 refine ae (fun hc=>?_) (fun hc=>?_)
 rotate_left
 ·obtain rfl:k=(zs i).length:=by omega
  rw[List.take_length]
  refine tl ?_
  simp only[PP,Nat.reduceBEq]
  rw[show min ((min (wN (kd i) +h_ ws (kd i) (zs i)) 4001:Nat):Int) 4001=((min (wN (kd i) +h_ ws (kd i) (zs i)) 4001:Nat):Int) by omega]
  refine hS.Y4 hi (by simpa using(by omega:i<ws.length)) (kk:=fun p H3 hS=>?_)
  refine hS.Y4 hi (by simpa using(by omega:i<bs.length)) (kk:=fun p H4 hS=>?_)
  have e1:(bH ws).set i (vn (min (wN (kd i) +h_ ws (kd i) (zs i)) 4001))=bH (ws.set i (min (wN (kd i) +h_ ws (kd i) (zs i)) 4001)):=List.map_set.symm
  have e2:(bools bs).set i (.bool o)=bools (bs.set i o):=List.map_set.symm
  rw[e1,e2]at hS
  refine kk _ _ _ _ _ _ _ _ _ _ (by rw[List.length_set];exact hwl) (by rw[List.length_set];exact hbl) (fun j hj=>?_) hS
  unfold xX
  rcases Nat.lt_or_ge j i with h|h
  ·rw[X8 (by omega),Jd (fun z hz'=>Nat.lt_trans (hzz j (by omega) z hz') h)]
   exact hd j h
  ·obtain rfl:j=i:=by omega
   rw[ZH (by omega),Jd hz]
 have hk:k<(zs i).length:=by omega
 have NN:(zs i)[k]?=some (zs i)[k]:=List.getElem?_eq_getElem hk
 have hzi:=hz _ (List.getElem_mem hk)
 refine(hf.ex hS.ext).ix hk (kJ _ NN) fun p=>?_
 have hzn:(zs i)[k]<nn:=by omega
 have hks:h_ ws (kd i) ((zs i).take (k +1))=h_ ws (kd i) ((zs i).take k) +(W ws (zs i)[k] +Ai (kd i)):=by
  unfold h_
  rw[List.take_add_one,NN]
  show(List.map _ (_++[_])).sum=_
  rw[List.map_append,List.sum_append]
  rfl
 generalize(zs i)[k]=z at NN hzi hzn hks⊢
 have hwz:W ws z≤4001:=abY (hd z hzi)
 have hwv:(bH ws)[z]?=some (vn (W ws z)):=by
  rw[List.getElem?_map,List.getElem?_eq_getElem (show z<ws.length by omega)]
  show _=some (vn (ws[z]?.getD 0))
  rw[List.getElem?_eq_getElem (show z<ws.length by omega)];rfl
 obtain⟨bz,hbz⟩:∃b,bs[z]?=some b:=⟨_,List.getElem?_eq_getElem (by omega)⟩
 refine hS.ix hzn hwv fun p=>?_
 refine PU.of (au (by omega) (by omega)) ?_
 refine hS.aZ ?_;simp only[PP,Nat.reduceBEq,aj hS.wf]
 have fin:∀(T:Int),T=((min (wN (kd i) +h_ ws (kd i) ((zs i).take k)) 4001:Nat):Int) +(W ws z:Int) +(Ai (kd i):Int)→∀dI,aR Pg X (sub eZ [1,1,1,0,1,0,0,1,1,0,0,1,1,1,0,1,0,0,1,1,0,0,1,1,1]) (iP x0 x1 (pr rg) x4 x5 (.slice (some ⟨rs,0,none⟩) nn nn) (.slice (some ⟨rr,0,none⟩) nn nn) (vn i) (pr rb) (vi T) (.bool o) (vn z) oK x24 x25 x31 (.slice a (zs i).length c) (vn (zs i).length) (vn k) dI H2)
  (gY 4 (kH Pg X (sub eZ [1,1,1,0,1,0,0,1,1,0,0,1,1,1,0,1,0,0,1,1,1]) (wK (lU x0 x1 (pr rg) x4 x5 (.slice (some ⟨rs,0,none⟩) nn nn) (.slice (some ⟨rr,0,none⟩) nn nn) (vn i) (pr rb) oK x24 x25 x31 (.slice a (zs i).length c) (vn (zs i).length) fun m aW bn bJ v_ H'=>∃(k:Nat)(o:Bool),v_=vn k∧k +m=(zs i).length∧aW=vn (min (wN (kd i) +h_ ws (kd i) ((zs i).take k)) 4001)∧bn=.bool o∧SH [] H H' [(rb,145,[vi (kd i),.slice a (zs i).length c,.string t,.slice xa xn xc,vi at']),(rr,4,bools bs),(rs,3,bH ws),(rg,69,[.slice ra rn rc,.slice na nn nc])]) m (gY 3 (kH Pg X (sub eZ [1,1,1,0,1,0,0,1,1,0,0,1,1,1,1]) K))))):=by
  intro T hT dI
  refine tl ?_
  simp only[PP,Nat.reduceBEq]
  have eT:min T 4001=((min (wN (kd i) +h_ ws (kd i) ((zs i).take (k +1))) 4001:Nat):Int):=by rw[hT,hks];omega
  rw[eT]
  refine aC (fun hb=>?_) (fun hb=>?_)
  ·refine hS.ix (v:=.bool bz) hzn (kJ _ hbz) fun p=>?_
   refine tl ?_
   refine PU.of (au (by omega) (by omega)) ?_
   exact⟨(zs i).length -(k +1),by omega,_,_,_,_,_,_,rfl,k +1,bz,by rw[show((k:Int) +1)=((k +1:Nat):Int) by omega],by omega,rfl,rfl,hS⟩
  ·refine tl ?_
   refine PU.of (au (by omega) (by omega)) ?_
   exact⟨(zs i).length -(k +1),by omega,_,_,_,_,_,_,rfl,k +1,false,by rw[show((k:Int) +1)=((k +1:Nat):Int) by omega],by omega,rfl,rfl,hS⟩
 refine ae (fun hc2=>?_) (fun hc2=>?_)
 ·refine PU.of (au (by omega) (by omega)) ?_
  exact fin _ (by unfold Ai;rw[if_pos hc2];rfl) _
 ·exact fin _ (by unfold Ai;rw[if_neg hc2];rfl) _
theorem K3(hw:Wf H){b rl:Nat}{ra na:Option Addr}{rn rc nn nc:Nat}{rcs bW lcs:List Value}{tn lw lc:Nat}{kd:Nat→Int}{zs:Nat→List Nat}(hG:Gr b H ra rn rcs na nn bW)(ZI:Nc F H nn bW kd zs)(hl:Bk H rl 47 lcs)(hlr:rl<H.next)(hll:lcs.length=nn*3)(hlp:∀i,i<nn→kR tn lw (El lcs 3 i)):
 ak Pg X 77 [gV ra rn rc na nn nc,.slice (some ⟨rl,0,none⟩) nn lc] H (Q1 (fun v H'=>∃rs rr ws bs,v=.tuple ⟨[.slice (some ⟨rs,0,none⟩) nn nn,.slice (some ⟨rr,0,none⟩) nn nn]⟩∧(H.next≤rs∧rs<H'.next)∧(H.next≤rr∧rr<H'.next)∧Bk H' rs 3 (bH ws)∧Bk H' rr 4 (bools bs)∧ws.length=nn∧bs.length=nn∧∀j,j<nn→xX kd zs ws j) H):=by
 have g5:=hG.2.2.2.2.1
 have hzz:∀j,j<nn→∀z∈zs j,z<j:=fun j hj=>by obtain⟨_,_,_,_,_,_,_,_,_,_,h,_⟩:=ZI j hj;exact h
 have hS:=SH.refl hw
 refine ce [0,1,2,4,5,6,7,8,9,10,11,13,23,24,25,31,49,50,51] ?_;refine tl ?_
 refine hS.box rfl fun H1 rg hS=>?_
 repeat(first|(simp only[PP,Nat.reduceBEq,aj hS.wf])|(refine hS.aZ ?_))
 refine hS.mkS (Nat.le_refl _) (by omega) fun H2 rs hS=>?_
 rw[gP]at hS
 refine hS.aZ ?_;simp only[PP,Nat.reduceBEq,aj hS.wf]
 refine hS.mkS (Nat.le_refl _) (by omega) fun H3 rr hS=>?_
 rw[gP]at hS
 refine hS.aZ ?_;simp only[PP,Nat.reduceBEq,aj hS.wf]
 have hz:List.replicate nn (Value.int .i64 0)=bH (List.replicate nn 0):=by simp
 have hb:List.replicate nn (Value.bool false)=bools (List.replicate nn false):=by simp
 rw[hz,hb]at hS
 have hS:SH [] H H3 [(rr,4,bools (List.replicate nn false)),(rs,3,bH (List.replicate nn 0)),(rg,69,[.slice ra rn rc,.slice na nn nc])]:=hS
 refine abC 8 9 10 11 13 25 31 49 50 51 (I:=fun m x8 x9 aW bn bJ x25 x31 Ch z_ v_ H'=>∃i ws bs,x25=vn i∧i +m=nn∧ws.length=nn∧bs.length=nn∧(∀j,j<i→xX kd zs ws j)∧SH [] H H' [(rr,4,bools bs),(rs,3,bH ws),(rg,69,[.slice ra rn rc,.slice na nn nc])]) ?_ nn ⟨0,_,_,rfl,by omega,by simp,by simp,fun j h=>absurd h (by omega),hS⟩
 clear hS hz hb
 rintro m x8 x9 aW bn bJ x25 x31 Ch z_ v_ dI H4 ⟨i,ws,bs,rfl,him,hwl,hbl,hd,hS⟩
 refine tl ?_
 simp only[PP,Nat.reduceBEq]
 refine ae (fun hc=>?_) (fun hc=>?_)
 rotate_left
 ·refine tl ?_
  obtain rfl:i=nn:=by omega
  refine Lu.rr ?_;exact⟨⟨rs,rr,ws,bs,rfl,⟨hS.xA (List.mem_of_getElem? (i:=1) rfl),(hS.lo _ (List.mem_of_getElem? (i:=1) rfl)).2⟩,⟨hS.xA (List.mem_cons_self ..),(hS.lo _ (List.mem_cons_self ..)).2⟩,hS.get 1 rfl,hS.get 0 rfl,hwl,hbl,hd⟩,hS.ext⟩
 have hi:i<nn:=by omega
 obtain⟨a,c,t,xa,xn,xc,at',he,hf,hfit,_,htz,hzl⟩:=ZI i hi
 obtain⟨r2,o2,e2,hr2,hrd,_⟩:=hG.no hi nc he
 rw[e2]
 simp only[PP,Nat.reduceBEq]
 refine hS.p_ hrd hr2 ?_
 refine hS.jF rfl rfl rfl fun H5 rb hS hx5=>?_
 have hS:SH [] H H5 [(rb,145,[vi (kd i),.slice a (zs i).length c,.string t,.slice xa xn xc,vi at']),(rr,4,bools bs),(rs,3,bH ws),(rg,69,[.slice ra rn rc,.slice na nn nc])]:=hS
 repeat(first|(simp only[PP,Nat.reduceBEq,aj hS.wf])|(refine hS.aZ ?_))
 have fin:∀(ok:Bool){aW:Value},aW=vn (wN (kd i))→∀{dI},aR Pg X (sub eZ [1,1,1,0,1,0,0,1,1,0,0,1,1,1]) (iP (gV ra rn rc na nn nc) (.slice (some ⟨rl,0,none⟩) nn lc) (pr rg) (.slice none 0 0) (.slice none 0 0) (.slice (some ⟨rs,0,none⟩) nn nn) (.slice (some ⟨rr,0,none⟩) nn nn) (vn i) (pr rb) aW (.bool ok) bJ (.slice na nn nc) (vn nn) (vn i) (vi (kd i)) Ch z_ v_ dI H5)
  (gY 1 (kH Pg X (sub eZ [1,1,1,0,1,0,0,1,1,1]) (wK (mQ (gV ra rn rc na nn nc) (.slice (some ⟨rl,0,none⟩) nn lc) (pr rg) (.slice none 0 0) (.slice none 0 0) (.slice (some ⟨rs,0,none⟩) nn nn) (.slice (some ⟨rr,0,none⟩) nn nn) (.slice na nn nc) (vn nn) (fun m x8 x9 aW bn bJ x25 x31 Ch z_ v_ H'=>∃i ws bs,x25=vn i∧i +m=nn∧ws.length=nn∧bs.length=nn∧(∀j,j<i→xX kd zs ws j)∧SH [] H H' [(rr,4,bools bs),(rs,3,bH ws),(rg,69,[.slice ra rn rc,.slice na nn nc])])) m (gY 0 (kH Pg X (sub eZ [1,1,1,1]) (cB Pg [.tmp 4,.tmp 5] (Q1 (fun v H'=>∃rs rr ws bs,v=.tuple ⟨[.slice (some ⟨rs,0,none⟩) nn nn,.slice (some ⟨rr,0,none⟩) nn nn]⟩∧(H.next≤rs∧rs<H'.next)∧(H.next≤rr∧rr<H'.next)∧Bk H' rs 3 (bH ws)∧Bk H' rr 4 (bools bs)∧ws.length=nn∧bs.length=nn∧∀j,j<nn→xX kd zs ws j) H))))))):=by
  intro ok aW e10 dI
  subst e10
  refine ac7 g5 hi hwl hbl hf hzz hzl hd hS fun aW bn bJ Ch z_ v_ ws' bs' oU H' h1 h2 h3 h4=>?_
  simp only[PP,Nat.reduceBEq]
  refine tl ?_
  refine PU.of (au (by omega) (by omega)) ?_
  exact⟨nn -(i +1),by omega,_,_,_,_,_,_,_,_,_,_,_,_,rfl,i +1,ws',bs',by rw[show((i:Int) +1)=((i +1:Nat):Int) by omega],by omega,h1,h2,h3,SH.drop (A:=[_]) h4⟩
 have leaf:∀(b:Bool){bn:Value}{ok:Bool}{dI},bn=.bool ok→(b=true→wN (kd i)=1)→(b=false→wN (kd i)=0)→zZ dI 38=.bool b→aR Pg X (sub eZ [1,1,1,0,1,0,0,1,1,0,0,1,1,0,1,0,1,1,1,1,1]) (iP (gV ra rn rc na nn nc) (.slice (some ⟨rl,0,none⟩) nn lc) (pr rg) (.slice none 0 0) (.slice none 0 0) (.slice (some ⟨rs,0,none⟩) nn nn) (.slice (some ⟨rr,0,none⟩) nn nn) (vn i) (pr rb) (vn 0) bn bJ (.slice na nn nc) (vn nn) (vn i) (vi (kd i)) Ch z_ v_ dI H5)
  (gY 2 (kH Pg X (sub eZ [1,1,1,0,1,0,0,1,1,0,0,1,1,1]) (gY 1 (kH Pg X (sub eZ [1,1,1,0,1,0,0,1,1,1]) (wK (mQ (gV ra rn rc na nn nc) (.slice (some ⟨rl,0,none⟩) nn lc) (pr rg) (.slice none 0 0) (.slice none 0 0) (.slice (some ⟨rs,0,none⟩) nn nn) (.slice (some ⟨rr,0,none⟩) nn nn) (.slice na nn nc) (vn nn) (fun m x8 x9 aW bn bJ x25 x31 Ch z_ v_ H'=>∃i ws bs,x25=vn i∧i +m=nn∧ws.length=nn∧bs.length=nn∧(∀j,j<i→xX kd zs ws j)∧SH [] H H' [(rr,4,bools bs),(rs,3,bH ws),(rg,69,[.slice ra rn rc,.slice na nn nc])])) m (gY 0 (kH Pg X (sub eZ [1,1,1,1]) (cB Pg [.tmp 4,.tmp 5] (Q1 (fun v H'=>∃rs rr ws bs,v=.tuple ⟨[.slice (some ⟨rs,0,none⟩) nn nn,.slice (some ⟨rr,0,none⟩) nn nn]⟩∧(H.next≤rs∧rs<H'.next)∧(H.next≤rr∧rr<H'.next)∧Bk H' rs 3 (bH ws)∧Bk H' rr 4 (bools bs)∧ws.length=nn∧bs.length=nn∧∀j,j<nn→xX kd zs ws j) H))))))))):=by
  intro b bn ok dI e11 hb1 hb0 hlk
  subst e11
  refine tl ?_
  rw[hlk]
  refine aC (fun hb=>?_) (fun hb=>?_)
  ·obtain⟨k1,a1,hle,_⟩:=hlp i hi
   refine PU.of (n_ hi) ?_
   simp only[PP,Nat.reduceBEq]
   have hcell:H.cell rl (i*3)=some (vn k1):=by
    refine hl.cell ?_
    have:=congrArg (fun l=>l[0]?) hle
    simp only[jb]at this
    simpa using this
   refine hS.Dh hcell hlr ?_
   simp only[PP,Nat.reduceBEq,aj hS.wf];refine cK (by simp only[aA,az (Ext.refl (hN _))];rfl) ?_
   exact fin _ (by rw[hb1 hb];rfl)
  ·simp only[PP,Nat.reduceBEq]
   exact fin ok (by rw[hb0 hb])
 refine ae (fun h0=>?_) (fun h0=>?_)
 ·exact fin true (by unfold wN;rw[if_pos h0];rfl)
 have b3:kd i=2∨kd i=3∨kd i=4→wN (kd i)=3:=fun h=>by unfold wN;rw[if_neg (by omega),if_neg (by omega),if_pos h]
 have b1:kd i=5∨kd i=6∨kd i=7→wN (kd i)=1:=fun h=>by unfold wN;rw[if_neg (by omega),if_neg (by omega),if_neg (by omega)]
 refine ae (fun h2=>?_) (fun h2=>?_)
 ·refine tl ?_
  simp only[PP,Nat.reduceBEq]
  refine ae (fun _=>?_) (fun h=>absurd h2 h)
  exact fin true (by rw[b3 (by omega)]<;>rfl)
 refine ae (fun h3=>?_) (fun h3=>?_)
 ·refine tl ?_
  simp only[PP,Nat.reduceBEq]
  refine ae (fun _=>?_) (fun h=>absurd h3 h)
  exact fin true (by rw[b3 (by omega)]<;>rfl)
 refine tl ?_
 simp only[PP,Nat.reduceBEq]
 refine ae (fun h4=>?_) (fun h4=>?_)
 ·exact fin true (by rw[b3 (by omega)]<;>rfl)
 refine ae (fun h5=>?_) (fun h5=>?_)
 ·exact leaf (decide (kd i=5)) rfl (fun _=>b1 (by omega)) (fun h=>absurd h5 (of_decide_eq_false h)) rfl
 refine ae (fun h6=>?_) (fun h6=>?_)
 ·exact leaf (decide (kd i=6)) rfl (fun _=>b1 (by omega)) (fun h=>absurd h6 (of_decide_eq_false h)) rfl
 exact leaf (decide (kd i=7)) rfl (fun h=>b1 (by have:=of_decide_eq_true h;omega)) (fun h=>by
  have h7:=of_decide_eq_false h
  have:kd i=1:=by rcases hfit with h|h|h|h<;>omega
  unfold wN
  rw[if_neg h0,if_pos this]) rfl
end Go.Proofs.Lu
namespace Go.Proofs.Lu
open Go.Ae
abbrev Ed:=Nat×Nat×Nat
structure At where
 nm:List ByteArray
 st:List Nat
 sp:List Nat
 ow:List Nat
 eg:List (List Ed)
 ty:Nat
namespace At
def nr(A:At):Nat:=A.nm.length
def ns(A:At):Nat:=A.ow.length
def S(A:At)(r:Nat):Nat:=A.st[r]?.getD 0
def P(A:At)(r:Nat):Nat:=A.sp[r]?.getD 0
def O(A:At)(s:Nat):Nat:=A.ow[s]?.getD 0
def E(A:At)(s:Nat):List Ed:=A.eg[s]?.getD []
def abZ(A:At)(e:Ed):Prop:=e.1=0∨(e.1=1∧e.2.1<A.ty)∨(e.1=2∧e.2.1<A.nr)
structure Ok(A:At):Prop where
 pos:0<A.nr
 Jp:A.st.length=A.nr
 TN:A.sp.length=A.nr
 rW:A.eg.length=A.ns
 big:A.ns≤4000
 few:A.nr≤1000
 s:∀r,r<A.nr→A.S r<A.ns∧A.O (A.S r)=r
 p:∀r,r<A.nr→A.P r<A.ns∧A.O (A.P r)=r
 o:∀s,s<A.ns→A.O s<A.nr
 e:∀s,s<A.ns→∀e∈A.E s,e.2.2<A.ns∧A.O e.2.2=A.O s∧A.abZ e
 tot:(A.eg.map List.length).sum≤100000
theorem Je{A:At}{s:Nat}(h:A.eg.length=A.ns)(hs:¬s<A.ns):A.E s=[]:=by
 unfold E
 rw[List.getElem?_eq_none (by omega)];rfl
inductive Mk(A:At)(tok:Bool):Nat→Prop
 |stop (r:Nat):r<A.nr→Mk A tok (A.P r)
 |edge (s:Nat) (e:Ed):e∈A.E s→(e.1=1→tok=true)→(e.1=2→Mk A tok (A.S e.2.1))→Mk A tok e.2.2→Mk A tok s
inductive Rc(A:At)(f:Nat→Prop)(w:Ed→Prop):Nat→Prop
 |base (s:Nat):f s→Rc A f w s
 |step (s:Nat) (e:Ed):Rc A f w s→e∈A.E s→w e→Rc A f w e.2.2
def leads(A:At)(e:Ed):Prop:=A.Mk true e.2.2∧(e.1=2→A.Mk true (A.S e.2.1))
def U2(A:At)(s:Nat):Prop:=∃r,r<A.nr∧s=A.S r
def met(A:At)(s:Nat):Prop:=A.Rc A.U2 A.leads s
open Classical in
noncomputable def UH(A:At)(s:Nat):List Ed:=if A.met s then(A.E s).filter (fun e=>decide (A.leads e))else[]
noncomputable def trim(A:At):At:={A with eg:=(List.range A.ns).map A.UH}
variable{A:At}
theorem ZJ(h:A.Ok)(s:Nat):A.trim.E s=A.UH s:=by
 show((List.range A.ns).map A.UH)[s]?.getD []=_
 by_cases hs:s<A.ns
 ·rw[List.getElem?_map,List.getElem?_range hs];rfl
 ·rw[List.getElem?_eq_none (by simpa using hs)]
  show[]=A.UH s
  unfold UH
  rw[Je h.rW hs]
  split<;>rfl
theorem V2{s:Nat}{e:Ed}:e∈A.UH s↔A.met s∧e∈A.E s∧A.leads e:=by
 classical
 unfold UH
 split
 ·next h=>simp[h]
 ·next h=>simp[h]
theorem xY(h:A.Ok){s:Nat}{e:Ed}:e∈A.trim.E s↔A.met s∧e∈A.E s∧A.leads e:=by rw[ZJ h];exact V2
def pre(A:At)(i:Nat):Nat:=((A.eg.take i).map List.length).sum
theorem CG(h:A.Ok)(i:Nat):A.pre i≤100000:=by
 have:(A.eg.map List.length).sum=A.pre i +((A.eg.drop i).map List.length).sum:=by
  unfold pre
  rw[←List.sum_append,←List.map_append,List.take_append_drop]
 have:=h.tot
 omega
theorem CJ(h:A.Ok){i:Nat}(hi:i<A.ns):A.pre (i +1)=A.pre i +(A.E i).length:=by
 unfold pre E
 have:i<A.eg.length:=by rw[h.rW];exact hi
 rw[List.take_add_one,List.getElem?_eq_getElem this]
 simp only[List.map_append,List.sum_append,List.map_cons,List.map_nil,List.sum_cons,List.sum_nil,Option.toList,Option.getD_some];omega
theorem Ok.len(h:A.Ok)(s:Nat):(A.E s).length≤100000:=by
 by_cases hs:s<A.ns
 ·have:=CJ h hs
  have:=CG h (s +1)
  omega
 ·rw[Je h.rW hs];simp
theorem Mk.mono{tok:Bool}{s:Nat}(h:A.Mk tok s):A.Mk true s:=by
 induction h with
 |stop r hr=>exact .stop r hr
 |edge s e he _ _ _ ih1 ih2=>exact .edge s e he (fun _=>rfl) ih1 ih2
theorem Jf{s:Nat}{e:Ed}(h:A.met s)(he:e∈A.E s)(hl:A.leads e):A.met e.2.2:=.step s e h he hl
theorem ab0{r:Nat}(hr:r<A.nr):A.met (A.S r):=.base _ ⟨r,hr,rfl⟩
theorem Ok.call(h:A.Ok){s:Nat}{e:Ed}(he:e∈A.E s)(hk:e.1=2):e.2.1<A.nr:=by
 have hs:s<A.ns:=by
  apply Decidable.byContradiction
  intro hs
  rw[Je h.rW hs]at he;cases he
 obtain⟨_,_,h3⟩:=h.e s hs e he
 rcases h3 with h3|h3|h3<;>omega
theorem Ok.lt(h:A.Ok){s:Nat}{e:Ed}(he:e∈A.E s):s<A.ns:=by
 apply Decidable.byContradiction
 intro hs
 rw[Je h.rW hs]at he;cases he
theorem Mk.trim(h:A.Ok){tok:Bool}{s:Nat}(hm:A.Mk tok s):A.met s→A.trim.Mk tok s:=by
 induction hm with
 |stop r hr=>exact fun _=>.stop (A:=A.trim) r hr
 |edge s e he ht hc h2 ih1 ih2=>
  intro hs
  have hl:A.leads e:=⟨h2.mono,fun hk=>(hc hk).mono⟩
  exact .edge (A:=A.trim) s e ((xY h).2 ⟨hs,he,hl⟩) ht (fun hk=>ih1 hk (ab0 (h.call he hk))) (ih2 (Jf hs he hl))
theorem TP(h:A.Ok){w:Ed→Prop}(hw:∀s e,e∈A.trim.E s→w e){s:Nat}:A.trim.Rc A.U2 w s↔A.met s:=by
 constructor
 ·intro hs
  induction hs with
  |base s hs=>exact .base s hs
  |step s e _ he _ ih=>
   obtain⟨h1,h2,h3⟩:=(xY h).1 he
   exact .step s e ih h2 h3
 ·intro hs
  induction hs with
  |base s hs=>exact .base s hs
  |step s e h0 he hl ih=>
   have:e∈A.trim.E s:=(xY h).2 ⟨h0,he,hl⟩
   exact .step s e ih this (hw s e this)
def isF(A:At)(e:Ed):Prop:=e.1=0∨(e.1=2∧A.Mk false (A.S e.2.1))
def V3(A:At)(s:Nat):Nat→Prop:=A.Rc (·=s) A.isF
theorem Rc.own(h:A.Ok){f:Nat→Prop}{w:Ed→Prop}{k:Nat}(hf:∀s,f s→s<A.ns∧A.O s=k){s:Nat}(hs:A.Rc f w s):s<A.ns∧A.O s=k:=by
 induction hs with
 |base s hs=>exact hf s hs
 |step s e _ he _ ih=>
  obtain⟨h1,h2,_⟩:=h.e s ih.1 e he
  exact⟨h1,h2.trans ih.2⟩
theorem Mk.own(h:A.Ok){tok:Bool}{s:Nat}(hm:A.Mk tok s):s<A.ns:=by
 cases hm with
 |stop r hr=>exact(h.p r hr).1
 |edge _ e he _ _ _=>exact h.lt he
theorem TQ{s t:Nat}{e:Ed}(he:e∈A.E s)(hw:A.isF e)(ht:A.V3 e.2.2 t):A.V3 s t:=by
 induction ht with
 |base u hu=>subst hu;exact .step s e (.base s rfl) he hw
 |step u e2 _ he2 hw2 ih=>exact .step u e2 ih he2 hw2
theorem O1(h:A.Ok){r:Nat}(hr:r<A.nr):A.Mk false (A.S r)↔A.V3 (A.S r) (A.P r):=by
 have key:∀s,A.Mk false s→A.V3 s (A.P (A.O s)):=by
  intro s hm
  induction hm with
  |stop r hr=>rw[(h.p r hr).2];exact .base _ rfl
  |edge s e he ht hc h2 ih1 ih2=>
   have hs:=h.lt he
   obtain⟨h3,h4,h5⟩:=h.e s hs e he
   rw[h4]at ih2
   refine TQ he ?_ ih2
   rcases h5 with h5|h5|h5
   ·exact .inl h5
   ·exact absurd (ht h5.1) (by simp)
   ·exact .inr ⟨h5.1,hc h5.1⟩
 have back:∀s t,A.V3 s t→A.Mk false t→A.Mk false s:=by
  intro s t hf
  induction hf with
  |base u hu=>subst hu;exact id
  |step u e _ he hw ih=>
   intro hm
   refine ih (.edge u e he (fun h1=>?_) (fun h2=>?_) hm)
   ·rcases hw with hw|hw<;>omega
   ·rcases hw with hw|hw
    ·omega
    ·exact hw.2
 constructor
 ·intro hm
  have:=key _ hm
  rwa [(h.s r hr).2]at this
 ·exact fun hf=>back _ _ hf (.stop r hr)
end At
end Go.Proofs.Lu
namespace Go.Proofs.Lu
open Go.Ae
def on(mk:List Bool)(s:Nat):Prop:=mk[s]?=some true
theorem X9{mk:List Bool}{s:Nat}(h:on mk s):s<mk.length:=(List.getElem?_eq_some_iff.1 h).1
theorem pO{mk:List Bool}{s t:Nat}(hs:s<mk.length):on (mk.set s true) t↔s=t∨on mk t:=by
 unfold on
 rw[List.getElem?_set]
 by_cases h:s=t
 ·subst h;simp[hs]
 ·simp[h]
def off:List Bool→Nat
 |[]=>0
 |b::l=>(if b=true then 0 else 1) +off l
theorem AF:∀{mk:List Bool}{s:Nat},mk[s]?=some false→off (mk.set s true) +1=off mk
 |[],s,h=>by simp at h
 |b::l,0,h=>by
  simp at h;subst h
  simp[off];omega
 |b::l,s +1,h=>by
  have:=AF (mk:=l) (s:=s) (by simpa using h)
  simp only[List.set_cons_succ,off]
  omega
theorem AJ:∀n,off (List.replicate n false)=n
 |0=>rfl
 |n +1=>by
  have:=AJ n
  rw[List.replicate_succ]
  simp[off,this];omega
structure MJ(n:Nat)(Q P:Nat→Prop)(mk:List Bool)(nx:List Nat):Prop where
 len:mk.length=n
 snd:∀s,on mk s→Q s
 cov:∀s,on mk s→s∈nx∨P s
 pon:∀s,P s→on mk s
 X_:∀s∈nx,on mk s
def mu(mk:List Bool)(nx:List Nat):Nat:=2*off mk +nx.length
variable{n:Nat}{Q P:Nat→Prop}{mk:List Bool}{nx:List Nat}{s:Nat}
theorem MJ.nil(n:Nat)(Q:Nat→Prop):MJ n Q (fun _=>False) (List.replicate n false) []:=by
 refine⟨by simp,?_,?_,fun s h=>h.elim,fun s h=>nomatch h⟩<;>
 ·intro s h
  unfold on at h
  rw[List.getElem?_replicate]at h
  split at h<;>simp at h
theorem MJ.mark(h:MJ n Q P mk nx)(hs:mk[s]?=some false)(hq:Q s):MJ n Q P (mk.set s true) (nx++[s])∧on (mk.set s true) s∧(∀t,on mk t→on (mk.set s true) t)∧mu (mk.set s true) (nx++[s]) +1=mu mk nx:=by
 have hl:=(List.getElem?_eq_some_iff.1 hs).1
 refine⟨⟨by rw[List.length_set];exact h.len,fun t ht=>?_,fun t ht=>?_,fun t ht=>(pO hl).2 (.inr (h.pon t ht)),fun t ht=>?_⟩,(pO hl).2 (.inl rfl),fun t ht=>(pO hl).2 (.inr ht),?_⟩
 ·rcases(pO hl).1 ht with rfl|ht
  ·exact hq
  ·exact h.snd t ht
 ·rcases(pO hl).1 ht with rfl|ht
  ·exact .inl (by simp)
  ·exact(h.cov t ht).imp_left fun g=>List.mem_append_left _ g
 ·rcases List.mem_append.1 ht with ht|ht
  ·exact(pO hl).2 (.inr (h.X_ t ht))
  ·exact(pO hl).2 (.inl (List.mem_singleton.1 ht).symm)
 ·have:=AF hs
  unfold mu
  rw[List.length_append]
  show _ +(nx.length +1) +1=_
  omega
theorem MJ.pop(h:MJ n Q P mk (nx++[s])):MJ n Q (fun t=>P t∨t=s) mk nx:=by
 refine⟨h.len,h.snd,fun t ht=>?_,fun t ht=>?_,fun t ht=>h.X_ t (List.mem_append_left _ ht)⟩
 ·rcases h.cov t ht with h1|h1
  ·rcases List.mem_append.1 h1 with h1|h1
   ·exact .inl h1
   ·exact .inr (.inr (List.mem_singleton.1 h1))
  ·exact .inr (.inl h1)
 ·rcases ht with ht|rfl
  ·exact h.pon t ht
  ·exact h.X_ _ (by simp)
theorem TR(mk:List Bool)(nx:List Nat)(s:Nat):mu mk nx +1=mu mk (nx++[s]):=by
 unfold mu;rw[List.length_append];rfl
theorem MJ.wk{P':Nat→Prop}(h:MJ n Q P mk nx)(hp:∀t,P t↔P' t):MJ n Q P' mk nx:=
 ⟨h.len,h.snd,fun t ht=>(h.cov t ht).imp_right (hp t).1,fun t ht=>h.pon t ((hp t).2 ht),h.X_⟩
namespace At
variable{A:At}{tok:Bool}
def Ng(tok:Bool)(e:Ed):Prop:=e.1=1→tok=true
def Clo(A:At)(tok:Bool)(P:Nat→Prop)(mk:List Bool):Prop:=∀s e,e∈A.E s→Ng tok e→P e.2.2→(e.1=2→P (A.S e.2.1))→on mk s
theorem Clo.step{cur:Nat}{mk':List Bool}(h:A.Clo tok P mk)(hm:∀t,on mk t→on mk' t)
 (h1:∀s e,e∈A.E s→Ng tok e→e.2.2=cur→(e.1=2→P (A.S e.2.1)∨A.S e.2.1=cur)→on mk' s)
 (h2:∀s e,e∈A.E s→e.1=2→A.S e.2.1=cur→(P e.2.2∨e.2.2=cur)→on mk' s):A.Clo tok (fun t=>P t∨t=cur) mk':=by
 intro s e he hk ht hc
 rcases ht with ht|ht
 ·by_cases hc2:e.1=2∧A.S e.2.1=cur
  ·exact h2 s e he hc2.1 hc2.2 (.inl ht)
  ·refine hm s (h s e he hk ht fun hk2=>?_)
   rcases hc hk2 with h3|h3
   ·exact h3
   ·exact absurd ⟨hk2,h3⟩ hc2
 ·exact h1 s e he hk ht hc
theorem V4(ho:A.Ok)(h:MJ A.ns (A.Mk tok) P mk [])(hc:A.Clo tok P mk)(hp:∀r,r<A.nr→on mk (A.P r))(s:Nat):on mk s↔A.Mk tok s:=by
 refine⟨h.snd s,fun hm=>?_⟩
 have hP:∀t,on mk t→P t:=fun t ht=>(h.cov t ht).resolve_left (fun g=>nomatch g)
 induction hm with
 |stop r hr=>exact hp r hr
 |edge s e he ht _ _ ih1 ih2=>exact hc s e he ht (hP _ ih2) (fun hk=>hP _ (ih1 hk))
theorem Nh{f:Nat→Prop}{w:Ed→Prop}(h:MJ A.ns (A.Rc f w) P mk [])(hc:∀s e,P s→e∈A.E s→w e→on mk e.2.2)(hf:∀s,f s→on mk s)(s:Nat):on mk s↔A.Rc f w s:=by
 refine⟨h.snd s,fun hm=>?_⟩
 have hP:∀t,on mk t→P t:=fun t ht=>(h.cov t ht).resolve_left (fun g=>nomatch g)
 induction hm with
 |base s hs=>exact hf s hs
 |step s e _ he hw ih=>exact hc s e (hP _ ih) he hw
end At
end Go.Proofs.Lu
set_option maxRecDepth 100000
set_option maxHeartbeats 4000000
namespace Go.Proofs.Lv
open Go.Proofs.Lu
open Go.Ae Go.Ae.M
variable{H0 H:aa}{L M:List aK}{S:List Nat}{F:Nat→Prop}
def yY:List Ed→List Value
 |[]=>[]
 |e::l=>vn e.1::vn e.2.1::vn e.2.2::yY l
theorem F5:∀l,(yY l).length=l.length*3
 |[]=>rfl
 |e::l=>by
  have:=F5 l
  simp only[yY,List.length_cons];omega
theorem Ni:∀l l',yY (l++l')=yY l++yY l'
 |[],l'=>rfl
 |e::l,l'=>by simp only[List.cons_append,yY,Ni l l']
theorem F6:∀{l:List Ed}{i:Nat}{e:Ed},l[i]?=some e→El (yY l) 3 i=[vn e.1,vn e.2.1,vn e.2.2]
 |[],i,e,h=>by simp at h
 |x::l,0,e,h=>by
  simp at h;subst h
  simp[El,yY]
 |x::l,i +1,e,h=>by
  have:=F6 (l:=l) (i:=i) (by simpa using h)
  rw[←this]
  unfold El
  rw[show(i +1)*3=i*3 +3 by omega]
  rfl
structure AV where
 na:Option Addr
 sa:Option Addr
 pa:Option Addr
 oa:Option Addr
 ea:Option Addr
 nc:Nat
 sc:Nat
 pc:Nat
 oc:Nat
 ec:Nat
def AV.cells(q:AV)(A:At):List Value:=[.slice q.na A.nr q.nc,.slice q.sa A.nr q.sc,.slice q.pa A.nr q.pc,.slice q.oa A.ns q.oc,.slice q.ea A.ns q.ec,vn A.ty]
abbrev AV.v(q:AV)(A:At):Value:=.agg ⟨q.cells A⟩
def EdM(F:Nat→Prop)(H:aa)(A:At)(evs:List Value):Prop:=∀i,i<A.ns→∃a c,evs[i]?=some (.slice a (A.E i).length c)∧fE F 47 H a (A.E i).length 3 (yY (A.E i))
structure oW(F:Nat→Prop)(H:aa)(A:At)(q:AV):Prop where
 n:fE F 9 H q.na A.nr 1 (A.nm.map .string)
 s:fE F 3 H q.sa A.nr 1 (bH A.st)
 p:fE F 3 H q.pa A.nr 1 (bH A.sp)
 o:fE F 3 H q.oa A.ns 1 (bH A.ow)
 e:∃evs,fE F 45 H q.ea A.ns 1 evs∧EdM F H A evs
variable{A:At}{q:AV}
theorem oW.ex{H':aa}(h:oW F H A q)(hx:Ext H H'):oW F H' A q:=
 ⟨h.n.ex hx,h.s.ex hx,h.p.ex hx,h.o.ex hx,let⟨evs,h1,h2⟩:=h.e;⟨evs,h1.ex hx,fun i hi=>let⟨a,c,h3,h4⟩:=h2 i hi;⟨a,c,h3,h4.ex hx⟩⟩⟩
theorem oW.wk{F':Nat→Prop}(h:oW F H A q)(hF:∀r,F r→F' r):oW F' H A q:=
 ⟨h.n.wk hF,h.s.wk hF,h.p.wk hF,h.o.wk hF,let⟨evs,h1,h2⟩:=h.e;⟨evs,h1.wk hF,fun i hi=>let⟨a,c,h3,h4⟩:=h2 i hi;⟨a,c,h3,h4.wk hF⟩⟩⟩
theorem oW.stay{H':aa}(h:oW F H A q)(hx:kS S H H')(hS:∀r∈S,¬F r):oW F H' A q:=
 ⟨h.n.stay hx fun r hr=>.inl (hS r hr),h.s.stay hx fun r hr=>.inl (hS r hr),h.p.stay hx fun r hr=>.inl (hS r hr),h.o.stay hx fun r hr=>.inl (hS r hr),let⟨evs,h1,h2⟩:=h.e;⟨evs,h1.stay hx fun r hr=>.inl (hS r hr),fun i hi=>let⟨a,c,h3,h4⟩:=h2 i hi;⟨a,c,h3,h4.stay hx fun r hr=>.inl (hS r hr)⟩⟩⟩
theorem iH{l:List Nat}{k:Nat}(h:k<l.length):(bH l)[k]?=some (vn (l[k]?.getD 0)):=by
 rw[List.getElem?_map,List.getElem?_eq_getElem h];rfl
theorem jD(q:AV)(A:At):ay (q.v A)=q.cells A:=rfl
section steps
variable{k:Nat}{K:Value→Value→aa→Prop}
theorem oW.ldS(h:oW F H A q)(ho:A.Ok)(hk:k<A.nr)(kk:∀p,K p (vn (A.S k)) H):PU (q_ 1 (.slice q.sa A.nr q.sc) (vn k)) fun p=>ME (jX none p H) (K p):=h.s.ix hk (iH (by rw[ho.Jp];exact hk)) kk
theorem oW.ldP(h:oW F H A q)(ho:A.Ok)(hk:k<A.nr)(kk:∀p,K p (vn (A.P k)) H):PU (q_ 1 (.slice q.pa A.nr q.pc) (vn k)) fun p=>ME (jX none p H) (K p):=h.p.ix hk (iH (by rw[ho.TN];exact hk)) kk
theorem oW.Dg(h:oW F H A q)(hk:k<A.ns)(kk:∀p,K p (vn (A.O k)) H):PU (q_ 1 (.slice q.oa A.ns q.oc) (vn k)) fun p=>ME (jX none p H) (K p):=h.o.ix hk (iH hk) kk
theorem oW.ldE{H':aa}(h:oW F H A q)(hx:Ext H H')(hk:k<A.ns)(kk:∀p a c,fE F 47 H a (A.E k).length 3 (yY (A.E k))→K p (.slice a (A.E k).length c) H'):PU (q_ 1 (.slice q.ea A.ns q.ec) (vn k)) fun p=>ME (jX none p H') (K p):=by
 obtain⟨evs,h1,h2⟩:=h.e
 obtain⟨a,c,h3,h4⟩:=h2 k hk
 exact(h1.ex hx).ix hk h3 fun p=>kk p a c h4
theorem V5{l:List Ed}{a:Option Addr}{c:Nat}(h:fE F 47 H a l.length 3 (yY l))(hk:k<l.length)(kk:∀p,K p (.agg ⟨[vn l[k].1,vn l[k].2.1,vn l[k].2.2]⟩) H):PU (q_ 3 (.slice a l.length c) (vn k)) fun p=>ME (jX (some 3) p H) (K p):=
 h.ixN (by omega) hk (F6 (List.getElem?_eq_getElem hk)) kk
end steps
def Qe(p:Value→aa→Prop)(H:aa)(v:Value)(H':aa):Prop:=p v H'∧Ext H H'
theorem iX(hw:Wf H)(q:AV)(A:At):ak Pg X 17 [q.v A] H (Qe (fun v _=>v=vn A.ns) H):=by
 have hS:=SH.refl hw
 refine ce [0,1,2] ?_;refine tl ?_
 refine hS.box rfl fun H1 rg hS=>?_
 rw[jD]at hS
 unfold AV.cells at hS
 repeat(first|(simp only[PP,Nat.reduceBEq,aj hS.wf])|(refine hS.aZ ?_))
 refine rr ?_;exact⟨rfl,hS.ext⟩
end Go.Proofs.Lv
set_option maxRecDepth 100000
set_option maxHeartbeats 4000000
namespace Go.Proofs.Lv
open Go.Proofs.Lu
open Go.Ae Go.Ae.M
variable{H0 H:aa}{L M:List aK}{S:List Nat}{F:Nat→Prop}{A:At}{q:AV}
abbrev pt(r:Nat):Value:=.pointer (some ⟨r,0,none⟩)
theorem F7(hw:Wf H)(h:oW F H A q){rn rg s r:Nat}(h1:H.cell rn 0=some (vn A.ns))(h1':rn<H.next)(h2:H.cell rg 3=some (.slice q.oa A.ns q.oc))(h2':rg<H.next)(hs:s<A.ns)(hr:A.O s=r):
 ak Pg X 42 [vn s,vn r,pt rn,pt rg] H (Qe (fun v _=>v=.bool true) H):=by
 have hS:=SH.refl hw
 refine ce [0,1,2,3,6] ?_;refine tl ?_
 simp only[PP,Nat.reduceBEq]
 refine ae (fun hc=>?_) (fun hc=>absurd (by omega) hc)
 refine hS.Dg h1 h1' ?_
 simp only[PP,Nat.reduceBEq]
 refine ae (fun hc=>?_) (fun hc=>absurd (by omega) hc)
 refine hS.Dg h2 h2' ?_
 refine h.Dg hs fun p=>?_
 rw[hr]
 simp only[PP,Nat.reduceBEq]
 refine rr ?_;exact⟨by simp,Ext.refl _⟩
theorem q8(hw:Wf H)(h:oW F H A q)(ho:A.Ok):ak Pg X 15 [q.v A] H (Qe (fun v _=>v=.bool true) H):=by
 have hS:=SH.refl hw
 refine ce [0,1,2,3,4,5,6,7,8,10,45,46,71,72,73,89,90,91,102] ?_;refine tl ?_
 refine hS.box rfl fun H1 rg hS=>?_
 rw[jD]at hS
 unfold AV.cells at hS
 repeat(first|(simp only[PP,Nat.reduceBEq,aj hS.wf])|(refine hS.jf ?_))
 refine hS.nD fun H2 rn hS f1=>?_
 refine hS.qh fun Hn hS=>?_
 have n1:rn≠rg:=hS.nq 0 1 rfl rfl (by omega)
 refine(show∀K:Prop,K→_∧K from fun K hK=>?_) _ ?_
 ·simp only[f1,aA,aB]
  apply oh (a:=rn) (b:=rg) n1 (by intros;rfl) (by kernel_rfl) (by kernel_rfl) hK
 have hpos:=ho.pos
 have hbig:=ho.big
 have O3:=ho.few
 refine ae (fun hc=>absurd hc (by omega)) (fun hc=>?_)
 refine hS.aZ ?_;simp only[PP,Nat.reduceBEq,aj hS.wf]
 refine aP (fun hc=>absurd trivial hc) (fun _=>?_)
 refine hS.aZ ?_;simp only[PP,Nat.reduceBEq,aj hS.wf]
 refine aP (fun hc=>absurd trivial hc) (fun _=>?_)
 repeat(first|(simp only[PP,Nat.reduceBEq,aj hS.wf])|(refine hS.aZ ?_))
 refine aP (fun hc=>absurd trivial hc) (fun _=>?_)
 refine hS.aZ ?_;simp only[PP,Nat.reduceBEq,aj hS.wf]
 refine ae (fun hc=>absurd hc (by omega)) (fun _=>?_)
 have hS:SH [] H _ [(rn,3,[vn A.ns]),(rg,26,[.slice q.na A.nr q.nc,.slice q.sa A.nr q.sc,.slice q.pa A.nr q.pc,.slice q.oa A.ns q.oc,.slice q.ea A.ns q.ec,vn A.ty])]:=hS
 have key:∀{H':aa}{L':List aK},SH [] H H' L'→(rn,3,[vn A.ns])∈L'→(rg,26,q.cells A)∈L'→∀{s r:Nat},s<A.ns→A.O s=r→∀{K:Value→aa→Prop},(∀H2,SH [] H H2 L'→K (.bool true) H2)→fq Pg X (CW (.func (.func 42) ⟨[]⟩ ⟨[pt rn,pt rg]⟩)) [vn s,vn r] H' K:=by
  intro H' L' hS m1 m2 s r hs hr K kk
  show ak Pg X 42 [vn s,vn r,pt rn,pt rg] H' K
  refine ak.mono (F7 hS.wf (h.ex hS.ext) ((hS.bk _ m1).cell rfl) (hS.lo _ m1).2 ((hS.bk _ m2).cell (o:=3) rfl) (hS.lo _ m2).2 hs hr) ?_
  rintro v H2 ⟨rfl,hx⟩
  exact kk H2 (hS.call hx)
 have m1:((rn,3,[vn A.ns]):aK)∈([(rn,3,[vn A.ns]),(rg,26,q.cells A)]:List aK):=by simp
 have m2:((rg,26,q.cells A):aK)∈([(rn,3,[vn A.ns]),(rg,26,q.cells A)]:List aK):=by simp
 refine tl ?_
 refine PE 2 6 46 (I:=fun m x2 x6 x46 H'=>∃i:Nat,x46=vn i∧i +m=A.nr∧SH [] H H' [(rn,3,[vn A.ns]),(rg,26,[.slice q.na A.nr q.nc,.slice q.sa A.nr q.sc,.slice q.pa A.nr q.pc,.slice q.oa A.ns q.oc,.slice q.ea A.ns q.ec,vn A.ty])]) ?_ A.nr ⟨0,rfl,by omega,hS⟩
 clear hS
 rintro m x2 x6 x46 dI H3 ⟨i,rfl,him,hS⟩
 refine tl ?_
 simp only[PP,Nat.reduceBEq]
 refine ae (fun hc=>?_) (fun hc=>?_)
 ·have hi:i<A.nr:=by omega
  refine hS.aZ ?_
  refine(h.ex hS.ext).ldS ho hi fun p=>?_
  refine key hS m1 m2 (ho.s i hi).1 (ho.s i hi).2 fun H4 hS=>?_
  simp only[PP,Nat.reduceBEq]
  refine aC (fun hb=>by cases hb) (fun _=>?_)
  refine hS.aZ ?_
  refine(h.ex hS.ext).ldP ho hi fun p=>?_
  refine key hS m1 m2 (ho.p i hi).1 (ho.p i hi).2 fun H5 hS=>?_
  simp only[PP,Nat.reduceBEq]
  refine aC (fun hb=>by cases hb) (fun _=>?_)
  refine PU.of (au (by omega) (by omega)) ?_
  exact⟨A.nr -(i +1),by omega,_,_,_,_,_,rfl,i +1,by rw[show((i:Int) +1)=((i +1:Nat):Int) by omega],by omega,hS⟩
 refine tl ?_
 repeat(first|(simp only[PP,Nat.reduceBEq,aj hS.wf])|(refine hS.aZ ?_))
 refine lp9 2 7 8 10 73 89 90 91 102 (I:=fun m x2 x7 x8 aW x73 x89 x90 x91 x102 H'=>∃i:Nat,x73=vn i∧i +m=A.ns∧SH [] H H' [(rn,3,[vn A.ns]),(rg,26,[.slice q.na A.nr q.nc,.slice q.sa A.nr q.sc,.slice q.pa A.nr q.pc,.slice q.oa A.ns q.oc,.slice q.ea A.ns q.ec,vn A.ty])]) ?_ A.ns ⟨0,rfl,by omega,hS⟩
 clear hS hc him
 rintro m x2 x7 x8 aW x73 x89 x90 x91 x102 dI H4 ⟨s,rfl,him,hS⟩
 refine tl ?_
 simp only[PP,Nat.reduceBEq]
 refine ae (fun hc=>?_) (fun hc=>?_)
 rotate_left
 ·refine tl ?_
  refine rr ?_;exact⟨rfl,hS.ext⟩
 have hs:s<A.ns:=by omega
 refine(h.ex hS.ext).Dg hs fun p=>?_
 simp only[PP,Nat.reduceBEq]
 have hO:=ho.o s hs
 refine ae (fun hc=>absurd hc (by omega)) (fun _=>?_)
 refine ae (fun hc=>absurd hc (by omega)) (fun _=>?_)
 refine tl ?_
 simp only[PP,Nat.reduceBEq,aj hS.wf];refine hS.aZ ?_
 refine h.ldE hS.ext hs fun p ea ec hE=>?_
 simp only[PP,Nat.reduceBEq]
 have hx0:=hS.ext
 refine Iv 2 10 91 102 (I:=fun m x2 aW x91 x102 H'=>∃k:Nat,x91=vn k∧k +m=(A.E s).length∧SH [] H H' [(rn,3,[vn A.ns]),(rg,26,[.slice q.na A.nr q.nc,.slice q.sa A.nr q.sc,.slice q.pa A.nr q.pc,.slice q.oa A.ns q.oc,.slice q.ea A.ns q.ec,vn A.ty])]) ?_ (A.E s).length ⟨0,rfl,by omega,hS⟩
 clear hS hc
 rintro m' x2 aW x91 x102 dI H5 ⟨k,rfl,hkm,hS⟩
 refine tl ?_
 simp only[PP,Nat.reduceBEq]
 refine ae (fun hc=>?_) (fun hc=>?_)
 rotate_left
 ·refine tl ?_
  refine PU.of (au (by omega) (by omega)) ?_
  exact⟨A.ns -(s +1),by omega,_,_,_,_,_,_,_,_,_,_,_,rfl,s +1,by rw[show((s:Int) +1)=((s +1:Nat):Int) by omega],by omega,hS⟩
 have hk:k<(A.E s).length:=by omega
 refine V5 (hE.ex hS.ext) hk fun p=>?_
 have hmem:=List.getElem_mem hk
 obtain⟨g1,g2,g3⟩:=ho.e s hs _ hmem
 generalize hee:(A.E s)[k]=e at g1 g2 g3⊢
 refine hS.ns rfl rfl rfl fun H6 re hS hx6=>?_
 have hS:SH [] H H6 [(re,47,[vn e.1,vn e.2.1,vn e.2.2]),(rn,3,[vn A.ns]),(rg,26,[.slice q.na A.nr q.nc,.slice q.sa A.nr q.sc,.slice q.pa A.nr q.pc,.slice q.oa A.ns q.oc,.slice q.ea A.ns q.ec,vn A.ty])]:=hS
 simp only[PP,Nat.reduceBEq,aj hS.wf];refine hS.aZ ?_
 have hx5:=hS.ext
 have hS0:=hS
 refine key hS (List.mem_cons_of_mem _ m1) (List.mem_cons_of_mem _ m2) g1 g2 fun H7 hS=>?_
 simp only[PP,Nat.reduceBEq]
 refine aC (fun hb=>by cases hb) (fun _=>?_)
 have hS:SH [] H H7 ((re,47,[vn e.1,vn e.2.1,vn e.2.2])::[(rn,3,[vn A.ns]),(rg,26,[.slice q.na A.nr q.nc,.slice q.sa A.nr q.sc,.slice q.pa A.nr q.pc,.slice q.oa A.ns q.oc,.slice q.ea A.ns q.ec,vn A.ty])]):=hS
 refine hS.aZ ?_;simp only[PP,Nat.reduceBEq,aj hS.wf]
 have hkb:k<1000000000:=by
  have:=ho.len s
  omega
 rcases g3 with g3|⟨g3,g4⟩|⟨g3,g4⟩
 ·refine ae (fun _=>?_) (fun hc=>absurd (by omega) hc)
  refine PU.of (au (by omega) (by omega)) ?_
  exact⟨(A.E s).length -(k +1),by omega,_,_,_,_,_,_,rfl,k +1,by rw[show((k:Int) +1)=((k +1:Nat):Int) by omega],by omega,SH.drop (A:=[_]) hS⟩
 ·refine ae (fun hc=>absurd hc (by omega)) (fun _=>?_)
  refine ae (fun _=>?_) (fun hc=>absurd (by omega) hc)
  refine hS.aZ ?_;simp only[PP,Nat.reduceBEq,aj hS.wf]
  refine ae (fun hc=>absurd hc (by omega)) (fun _=>?_)
  refine hS.aZ ?_;refine hS.aZ ?_;simp only[PP,Nat.reduceBEq,aj hS.wf]
  refine ae (fun hc=>absurd hc (by omega)) (fun _=>?_)
  refine PU.of (au (by omega) (by omega)) ?_
  exact⟨(A.E s).length -(k +1),by omega,_,_,_,_,_,_,rfl,k +1,by rw[show((k:Int) +1)=((k +1:Nat):Int) by omega],by omega,SH.drop (A:=[_]) hS⟩
 ·refine ae (fun hc=>absurd hc (by omega)) (fun _=>?_)
  refine ae (fun hc=>absurd hc (by omega)) (fun _=>?_)
  refine ae (fun _=>?_) (fun hc=>absurd (by omega) hc)
  refine hS.aZ ?_;simp only[PP,Nat.reduceBEq,aj hS.wf]
  refine ae (fun hc=>absurd hc (by omega)) (fun _=>?_)
  refine hS.aZ ?_;simp only[PP,Nat.reduceBEq,aj hS.wf]
  refine ae (fun hc=>absurd hc (by omega)) (fun _=>?_)
  refine PU.of (au (by omega) (by omega)) ?_
  exact⟨(A.E s).length -(k +1),by omega,_,_,_,_,_,_,rfl,k +1,by rw[show((k:Int) +1)=((k +1:Nat):Int) by omega],by omega,SH.drop (A:=[_]) hS⟩
end Go.Proofs.Lv
set_option maxRecDepth 100000
set_option maxHeartbeats 4000000
namespace Go.Proofs.Lv
open Go.Proofs.Lu
open Go.Ae Go.Ae.M
variable{H0 H:aa}{L M:List aK}{S:List Nat}{F:Nat→Prop}{A:At}{q:AV}
theorem _root_.Go.Ae.GB.sl{ty:TypeId}{es:Nat}{v:Value}{cs:List Value}{gb:List aK}(h:GB ty es v cs gb):∃a n c,v=.slice a n c:=by
 rcases h with⟨rfl,_⟩|⟨r,n,aQ,rfl,_⟩<;>exact⟨_,_,_,rfl⟩
def Ms(m x dm n:Nat)(mk:List Bool)(nx:List Nat)(M:List aK):Prop:=∃nv gb,M=(m,36,[.slice (some ⟨dm,0,none⟩) n n])::(x,23,[nv])::(dm,4,bools mk)::gb∧GB 3 1 nv (bH nx) gb∧mk.length=n
def Mkd(s:Nat)(mk:List Bool)(nx:List Nat)(mk':List Bool)(nx':List Nat):Prop:=(mk[s]?=some true∧mk'=mk∧nx'=nx)∨(mk[s]?=some false∧mk'=mk.set s true∧nx'=nx++[s])
theorem yQ{m x dm n s:Nat}{mk:List Bool}{nx:List Nat}(hM:Ms m x dm n mk nx M)(hS:SH S H0 H (M++L))(hs:s<n)(hb:nx.length≤1000000):
 ak Pg X 89 [vn s,pt m,pt x] H fun v H'=>∃mk' nx' M',Ms m x dm n mk' nx' M'∧SH S H0 H' (M'++L)∧Mkd s mk nx mk' nx':=by
 obtain⟨nv,gb,rfl,hg,hl⟩:=hM
 have hS:SH S H0 H ((m,36,[.slice (some ⟨dm,0,none⟩) n n])::(x,23,[nv])::(dm,4,bools mk)::(gb++L)):=hS
 refine ce [0,1,2] ?_;refine tl ?_
 refine hS.aZ ?_
 obtain⟨b,hb1⟩:∃b,mk[s]?=some b:=⟨_,List.getElem?_eq_getElem (by omega)⟩
 refine hS.ix (v:=.bool b) hs (kJ _ hb1) fun p=>?_
 simp only[PP,Nat.reduceBEq]
 refine aC (fun hb2=>?_) (fun hb2=>?_)
 ·obtain rfl:b=false:=by cases b<;>simp_all
  refine hS.aZ ?_
  refine hS.Y4 hs (by simp;omega) (kk:=fun p H1 hS=>?_)
  refine hS.aZ ?_
  refine hg.push (hS.perm (eY [_,_,_] gb L)) (by omega) rfl rfl rfl rfl rfl (by omega) (by simpa using(by omega:nx.length≤16777216)) fun w v' H2 dD hg' hS=>?_
  have hS:=hS.perm (eY dD [(m,36,[.slice (some ⟨dm,0,none⟩) n n]),(x,23,[nv]),(dm,4,(bools mk).set s (.bool true))] L)
  simp only[List.cons_append,List.nil_append]at hS
  obtain⟨va,vl,vc,rfl⟩:=hg'.sl
  refine hS.jd fun Hn hS=>?_
  refine rn ?_;refine⟨mk.set s true,nx++[s],_,⟨.slice va vl vc,dD,rfl,?_,by rw[List.length_set];exact hl⟩,?_,.inr ⟨hb1,rfl,rfl⟩⟩
  ·have:bH (nx++[s])=bH nx++[vn s]:=by simp
   rw[this];exact hg'
  ·have:bools (mk.set s true)=(bools mk).set s (.bool true):=List.map_set
   rw[this];exact hS
 ·obtain rfl:b=true:=by cases b<;>simp_all
  refine rn ?_;exact⟨mk,nx,_,⟨nv,gb,rfl,hg,hl⟩,hS,.inl ⟨hb1,rfl,rfl⟩⟩
theorem O4{m x dm n s:Nat}{mk:List Bool}{nx:List Nat}(hM:Ms m x dm n mk nx M)(hS:SH S H0 H (M++L))(hs:s<n)(hb:nx.length≤1000000):
 ak Pg X 90 [vn s,pt m,pt x] H fun v H'=>∃mk' nx' M',Ms m x dm n mk' nx' M'∧SH S H0 H' (M'++L)∧Mkd s mk nx mk' nx':=by
 obtain⟨nv,gb,rfl,hg,hl⟩:=hM
 have hS:SH S H0 H ((m,36,[.slice (some ⟨dm,0,none⟩) n n])::(x,23,[nv])::(dm,4,bools mk)::(gb++L)):=hS
 refine ce [0,1,2] ?_;refine tl ?_
 refine hS.aZ ?_
 obtain⟨b,hb1⟩:∃b,mk[s]?=some b:=⟨_,List.getElem?_eq_getElem (by omega)⟩
 refine hS.ix (v:=.bool b) hs (kJ _ hb1) fun p=>?_
 simp only[PP,Nat.reduceBEq]
 refine aC (fun hb2=>?_) (fun hb2=>?_)
 ·obtain rfl:b=false:=by cases b<;>simp_all
  refine hS.aZ ?_
  refine hS.Y4 hs (by simp;omega) (kk:=fun p H1 hS=>?_)
  refine hS.aZ ?_
  refine hg.push (hS.perm (eY [_,_,_] gb L)) (by omega) rfl rfl rfl rfl rfl (by omega) (by simpa using(by omega:nx.length≤16777216)) fun w v' H2 dD hg' hS=>?_
  have hS:=hS.perm (eY dD [(m,36,[.slice (some ⟨dm,0,none⟩) n n]),(x,23,[nv]),(dm,4,(bools mk).set s (.bool true))] L)
  simp only[List.cons_append,List.nil_append]at hS
  obtain⟨va,vl,vc,rfl⟩:=hg'.sl
  refine hS.jd fun Hn hS=>?_
  refine rn ?_;refine⟨mk.set s true,nx++[s],_,⟨.slice va vl vc,dD,rfl,?_,by rw[List.length_set];exact hl⟩,?_,.inr ⟨hb1,rfl,rfl⟩⟩
  ·have:bH (nx++[s])=bH nx++[vn s]:=by simp
   rw[this];exact hg'
  ·have:bools (mk.set s true)=(bools mk).set s (.bool true):=List.map_set
   rw[this];exact hS
 ·obtain rfl:b=true:=by cases b<;>simp_all
  refine rn ?_;exact⟨mk,nx,_,⟨nv,gb,rfl,hg,hl⟩,hS,.inl ⟨hb1,rfl,rfl⟩⟩
end Go.Proofs.Lv
set_option maxRecDepth 100000
set_option maxHeartbeats 4000000
namespace Go.Proofs.Lv
open Go.Proofs.Lu
open Go.Ae Go.Ae.M
variable{H0 H:aa}{L M:List aK}{S:List Nat}{F:Nat→Prop}{A:At}{q:AV}{n s:Nat}{Q P:Nat→Prop}{mk mk':List Bool}{nx nx':List Nat}
theorem Mkd.mj(h:Mkd s mk nx mk' nx')(hJ:MJ n Q P mk nx)(hq:Q s):MJ n Q P mk' nx'∧on mk' s∧(∀t,on mk t→on mk' t)∧mu mk' nx'≤mu mk nx:=by
 rcases h with⟨h1,rfl,rfl⟩|⟨h1,rfl,rfl⟩
 ·exact⟨hJ,h1,fun t h=>h,Nat.le_refl _⟩
 ·obtain⟨a,b,c,d⟩:=hJ.mark h1 hq
  exact⟨a,b,c,by omega⟩
def Bs(b:Nat)(H:aa)(n:Nat)(v:Value)(mk:List Bool):Prop:=∃a c,v=.slice a n c∧mk.length=n∧fE (b≤·) 4 H a n 1 (bools mk)
theorem Bs.ex{b:Nat}{v:Value}{H':aa}(h:Bs b H n v mk)(hx:Ext H H'):Bs b H' n v mk:=let⟨a,c,h1,h2,h3⟩:=h;⟨a,c,h1,h2,h3.ex hx⟩
theorem Bs.le{b b':Nat}{v:Value}(h:Bs b H n v mk)(hb:b'≤b):Bs b' H n v mk:=let⟨a,c,h1,h2,h3⟩:=h;⟨a,c,h1,h2,h3.le hb⟩
def Wnt(A:At)(w:Ed→Prop)(H:aa)(wv:Value):Prop:=∀H' s e,Ext H H'→Wf H'→e∈A.E s→fq Pg X (CW wv) [.agg ⟨[vn e.1,vn e.2.1,vn e.2.2]⟩] H' (Qe (fun v _=>∃b:Bool,v=.bool b∧(b=true↔w e)) H')
theorem Nj(hJ:mu mk nx≤8000):nx.length≤1000000:=by unfold mu at hJ;omega
theorem Eu(hw:Wf H)(h:oW F H A q)(ho:A.Ok){fa:Option Addr}{fc:Nat}{fl:List Nat}(hf:fE F 3 H fa fl.length 1 (bH fl))(hfl:∀s∈fl,s<A.ns)(hfn:fl.length≤1000000){w:Ed→Prop}{wv:Value}(hwv:Wnt A w H wv):
 ak Pg X 40 [q.v A,.slice fa fl.length fc,wv] H (Qe (fun v H'=>∃mk,Bs H.next H' A.ns v mk∧∀s,on mk s↔A.Rc (·∈fl) w s) H):=by
 have hS:=SH.refl hw
 have hbig:=ho.big
 refine ce [0,1,2,3,6,7,8,9,11,12,14,19,20,21,47,48,49] ?_;refine tl ?_
 refine hS.box rfl fun H1 rg hS=>?_
 rw[jD]at hS
 refine hS.vW 0 rfl (by show 0 +6≤6;omega) ?_
 refine ak.mono (iX hS.wf q A) ?_
 rintro v H2 ⟨rfl,hx⟩
 have hS:=hS.call hx
 refine hS.mkS (Nat.le_refl _) (by omega) fun H3 dm hS=>?_
 rw[gP]at hS
 refine hS.cZ fun H4 mr hS=>?_
 simp only[PP,Nat.reduceBEq,aj hS.wf];refine hS.jd fun Hn hS=>?_
 refine hS.cZ fun H5 xr hS=>?_
 have hS:SH [] H H5 ([(xr,23,[.slice none 0 0]),(mr,36,[.slice (some ⟨dm,0,none⟩) A.ns A.ns]),(dm,4,List.replicate A.ns (.bool false)),(rg,26,q.cells A)]):=hS
 have hS:=hS.perm (L':=[(mr,36,[.slice (some ⟨dm,0,none⟩) A.ns A.ns]),(xr,23,[.slice none 0 0]),(dm,4,List.replicate A.ns (.bool false)),(rg,26,q.cells A)]) (List.Perm.swap _ _ _)
 have hM:Ms mr xr dm A.ns (List.replicate A.ns false) [] [(mr,36,[.slice (some ⟨dm,0,none⟩) A.ns A.ns]),(xr,23,[.slice none 0 0]),(dm,4,List.replicate A.ns (.bool false))]:=⟨.slice none 0 0,[],by simp,GB.nil _ _,by simp⟩
 have hmu:mu (List.replicate A.ns false) []≤8000:=by unfold mu;rw[AJ];show 2*A.ns +0≤8000;omega
 have call:∀{s:Nat}{mk:List Bool}{nx:List Nat}{M L:List aK}{H':aa}{P:Nat→Prop}{K:Value→aa→Prop},s<A.ns→Ms mr xr dm A.ns mk nx M→SH [] H H' (M++L)→MJ A.ns (A.Rc (·∈fl) w) P mk nx→mu mk nx≤8000→A.Rc (·∈fl) w s→
  (∀v H2 mk' nx' M',Ms mr xr dm A.ns mk' nx' M'→SH [] H H2 (M'++L)→MJ A.ns (A.Rc (·∈fl) w) P mk' nx'→on mk' s→(∀t,on mk t→on mk' t)→mu mk' nx'≤mu mk nx→K v H2)→
  fq Pg X (CW (.func (.func 90) ⟨[]⟩ ⟨[pt mr,pt xr]⟩)) [vn s] H' K:=by
  intro s mk nx M L H' P K hs hM hS hJ hmu hq kk
  show ak Pg X 90 [vn s,pt mr,pt xr] H' K
  refine ak.mono (O4 hM hS hs (Nj hmu)) ?_
  rintro v H2 ⟨mk',nx',M',hM',hS',hk⟩
  obtain⟨a,b,c,d⟩:=hk.mj hJ hq
  exact kk v H2 mk' nx' M' hM' hS' a b c d
 refine lp2 11 21 (I:=fun m bn oL H'=>∃i mk nx M,oL=vn i∧i +m=fl.length∧Ms mr xr dm A.ns mk nx M∧SH [] H H' (M++[(rg,26,q.cells A)])∧MJ A.ns (A.Rc (·∈fl) w) (fun _=>False) mk nx∧mu mk nx≤8000∧∀j s,j<i→fl[j]?=some s→on mk s) ?_ fl.length ⟨0,_,_,_,rfl,by omega,hM,hS,MJ.nil _ _,hmu,fun j s hj=>absurd hj (by omega)⟩
 clear hS hM hmu hx
 rintro m bn oL dI H6 ⟨i,mk,nx,M,rfl,him,hM,hS,hJ,hmu,hb⟩
 refine tl ?_
 simp only[PP,Nat.reduceBEq]
 refine ae (fun hc=>?_) (fun hc=>?_)
 ·have hi:i<fl.length:=by omega
  have hfi:fl[i]?=some fl[i]:=List.getElem?_eq_getElem hi
  refine(hf.ex hS.ext).ix hi (kJ _ hfi) fun p=>?_
  refine call (hfl _ (List.getElem_mem hi)) hM hS hJ hmu (.base _ (List.getElem_mem hi)) fun v H7 mk' nx' M' hM hS hJ hon hmo TS=>?_
  refine PU.of (au (by omega) (by omega)) ?_
  refine⟨fl.length -(i +1),by omega,_,_,_,_,rfl,i +1,mk',nx',M',by rw[show((i:Int) +1)=((i +1:Nat):Int) by omega],by omega,hM,hS,hJ,by omega,fun j s hj hs=>?_⟩
  rcases Nat.lt_or_ge j i with h1|h1
  ·exact hmo _ (hb j s h1 hs)
  ·obtain rfl:j=i:=by omega
   rw[hfi]at hs;cases hs;exact hon
 have hbase:∀s,s∈fl→on mk s:=fun s hs=>by
  obtain⟨j,hj,e⟩:=List.mem_iff_getElem.1 hs
  exact hb j s (by omega) (by rw[←e];exact List.getElem?_eq_getElem hj)
 clear hb hc him
 refine tl ?_
 refine VG 12 14 47 48 49 (I:=fun m bT eF x47 x48 Ch H'=>∃mk nx M P,Ms mr xr dm A.ns mk nx M∧SH [] H H' (M++[(rg,26,q.cells A)])∧MJ A.ns (A.Rc (·∈fl) w) P mk nx∧mu mk nx≤8000∧mu mk nx=m∧(∀s,s∈fl→on mk s)∧∀s e,P s→e∈A.E s→w e→on mk e.2.2) ?_ (mu mk nx) ⟨mk,nx,M,_,hM,hS,hJ,hmu,rfl,hbase,fun s e h=>h.elim⟩
 clear hS hM hJ hmu hbase
 rintro m bT eF x47 x48 Ch dI H6 ⟨mk,nx,M,P,hM,hS,hJ,hmu,rfl,hbase,K4⟩
 have hM0:=hM
 obtain⟨nv,gb,rfl,hg,hl⟩:=hM
 have hS:SH [] H H6 ((mr,36,[.slice (some ⟨dm,0,none⟩) A.ns A.ns])::(xr,23,[nv])::(dm,4,bools mk)::(gb++[(rg,26,q.cells A)])):=hS
 refine tl ?_
 simp only[PP,Nat.reduceBEq,aj hS.wf];refine hS.aZ ?_
 rcases hg with⟨rfl,hn,rfl⟩|⟨r,n,aQ,rfl,hn,rfl⟩
 ·obtain rfl:nx=[]:=by simpa using hn
  simp only[PP,Nat.reduceBEq]
  refine ae (fun hc=>absurd hc (by omega)) (fun _=>?_)
  refine tl ?_
  refine hS.aZ ?_
  refine rr ?_;refine⟨⟨mk,⟨_,_,rfl,hl,fE.one hS (List.mem_of_getElem? (i:=2) rfl) (by simpa using hl) (hS.xA (List.mem_of_getElem? (i:=2) rfl))⟩,A.Nh hJ K4 hbase⟩,hS.ext⟩
 have hn:nx.length=n:=by simpa using hn
 subst hn
 simp only[PP,Nat.reduceBEq]
 refine ae (fun hc=>?_) (fun hc=>?_)
 rotate_left
 ·have:nx=[]:=List.length_eq_zero_iff.1 (by omega)
  subst this
  refine tl ?_
  refine hS.aZ ?_
  refine rr ?_;refine⟨⟨mk,⟨_,_,rfl,hl,fE.one hS (List.mem_of_getElem? (i:=2) rfl) (by simpa using hl) (hS.xA (List.mem_of_getElem? (i:=2) rfl))⟩,A.Nh hJ K4 hbase⟩,hS.ext⟩
 obtain⟨uN,cur,rfl⟩:∃a b,nx=a++[b]:=⟨nx.dropLast,nx.getLast (fun e=>by subst e;simp at hc),(List.dropLast_concat_getLast _).symm⟩
 have hlen:(uN++[cur]).length=uN.length +1:=by simp
 rw[hlen]at hS
 simp only[List.cons_append,List.nil_append]at hS
 have ZK:=Nj hmu
 rw[hlen]at ZK
 refine hS.aZ ?_;refine hS.aZ ?_;simp only[PP,Nat.reduceBEq,aj hS.wf]
 refine PU.of (ax (by omega) (by omega)) ?_
 rw[show((uN.length +1:Nat):Int) -1=(uN.length:Nat) by omega]
 refine hS.ix (v:=vn cur) (by omega) (by simp) fun p=>?_
 refine hS.aZ ?_;refine hS.aZ ?_;simp only[PP,Nat.reduceBEq,aj hS.wf]
 refine PU.of (ax (by omega) (by omega)) ?_
 rw[show((uN.length +1:Nat):Int) -1=(uN.length:Nat) by omega]
 refine PU.of (vY (by omega)) ?_
 refine hS.jd fun Hn hS=>?_;refine hS.aZ ?_
 have K5:cur<A.ns:=by have:=X9 (hJ.X_ cur (by simp));rw[hJ.len]at this;exact this
 have hS:SH [] H _ ((mr,36,[.slice (some ⟨dm,0,none⟩) A.ns A.ns])::(xr,23,[.slice (some ⟨r,0,none⟩) uN.length (aT 1)])::(dm,4,bools mk)::([(r,3,bH (uN++[cur])++aQ)]++[(rg,26,q.cells A)])):=hS
 have hJ':=hJ.pop
 have K6:=TR mk uN cur
 have hM:Ms mr xr dm A.ns mk uN ((mr,36,[.slice (some ⟨dm,0,none⟩) A.ns A.ns])::(xr,23,[.slice (some ⟨r,0,none⟩) uN.length (aT 1)])::(dm,4,bools mk)::[(r,3,bH (uN++[cur])++aQ)]):=⟨_,_,rfl,.inr ⟨r,_,vn cur::aQ,rfl,by simp,by simp⟩,hl⟩
 refine h.ldE hS.ext K5 fun p ea ec hE=>?_
 simp only[PP,Nat.reduceBEq]
 have hS:SH [] H _ (((mr,36,[.slice (some ⟨dm,0,none⟩) A.ns A.ns])::(xr,23,[.slice (some ⟨r,0,none⟩) uN.length (aT 1)])::(dm,4,bools mk)::[(r,3,bH (uN++[cur])++aQ)])++[(rg,26,q.cells A)]):=hS
 have hrc:=hJ.snd cur (hJ.X_ cur (by simp))
 refine lp2 14 49 (I:=fun m eF Ch H'=>∃k mk' nx' M,Ch=vn k∧k +m=(A.E cur).length∧Ms mr xr dm A.ns mk' nx' M∧SH [] H H' (M++[(rg,26,q.cells A)])∧MJ A.ns (A.Rc (·∈fl) w) (fun t=>P t∨t=cur) mk' nx'∧mu mk' nx'≤mu mk uN∧(∀t,on mk t→on mk' t)∧∀j e,j<k→(A.E cur)[j]?=some e→w e→on mk' e.2.2) ?_ (A.E cur).length ⟨0,mk,uN,_,rfl,by omega,hM,hS,hJ',Nat.le_refl _,fun t h=>h,fun j e hj=>absurd hj (by omega)⟩
 clear hS hM hJ'
 rintro m' y14 y49 yU H7 ⟨k,mk',nx',M,rfl,hkm,hM,hS,hJ',TS,hmo,hdone⟩
 refine tl ?_
 simp only[PP,Nat.reduceBEq]
 refine ae (fun hc2=>?_) (fun hc2=>?_)
 rotate_left
 ·refine⟨mu mk' nx',by omega,_,_,_,_,_,_,_,rfl,mk',nx',M,_,hM,hS,hJ',by omega,rfl,fun s hs=>hmo s (hbase s hs),fun s e hs he K7=>?_⟩
  rcases hs with hs|rfl
  ·exact hmo _ (K4 s e hs he K7)
  ·obtain⟨j,hj,e1⟩:=List.mem_iff_getElem.1 he
   exact hdone j e (by omega) (by rw[←e1];exact List.getElem?_eq_getElem hj) K7
 have hk:k<(A.E cur).length:=by omega
 refine V5 (hE.ex hS.ext) hk fun p=>?_
 have hmem:=List.getElem_mem hk
 have TG:=ho.len cur
 obtain⟨g1,g2,g3⟩:=ho.e cur K5 _ hmem
 have hke:(A.E cur)[k]?=some (A.E cur)[k]:=List.getElem?_eq_getElem hk
 generalize hee:(A.E cur)[k]=e at g1 g2 g3 hke hmem⊢
 refine hS.ns rfl rfl rfl fun H8 re hS Jo=>?_
 have hS:SH [] H H8 ([(re,47,[vn e.1,vn e.2.1,vn e.2.2])]++(M++[(rg,26,q.cells A)])):=hS
 refine hS.vW 0 rfl (by show 0 +3≤3;omega) ?_
 refine fq.mono (hwv H8 cur e hS.ext hS.wf hmem) ?_
 rintro v H9 ⟨⟨b,rfl,hbw⟩,ZE⟩
 have hS:=hS.call ZE
 simp only[PP,Nat.reduceBEq]
 refine aC (fun hb2=>?_) (fun hb2=>?_)
 ·refine hS.ld 0 (o:=2) rfl rfl ?_
  refine call g1 hM (hS.perm (eY [_] M [_])) hJ' (by omega) (.step cur e hrc hmem (hbw.1 hb2)) fun v Zx um F8 M2 hM2 hS2 hJ2 K8 wH K6=>?_
  refine PU.of (au (by omega) (by omega)) ?_
  refine⟨(A.E cur).length -(k +1),by omega,_,_,_,_,rfl,k +1,um,F8,M2,by rw[show((k:Int) +1)=((k +1:Nat):Int) by omega],by omega,hM2,?_,hJ2,by omega,fun t ht=>wH t (hmo t ht),fun j e' hj he' K7=>?_⟩
  ·have:=hS2.perm (eY M2 [(re,47,[vn e.1,vn e.2.1,vn e.2.2])] [(rg,26,q.cells A)])
   exact SH.drop (A:=[_]) this
  ·rcases Nat.lt_or_ge j k with h1|h1
   ·exact wH _ (hdone j e' h1 he' K7)
   ·obtain rfl:j=k:=by omega
    rw[hke]at he';cases he';exact K8
 ·refine PU.of (au (by omega) (by omega)) ?_
  refine⟨(A.E cur).length -(k +1),by omega,_,_,_,_,rfl,k +1,mk',nx',M,by rw[show((k:Int) +1)=((k +1:Nat):Int) by omega],by omega,hM,SH.drop (A:=[_]) hS,hJ',by omega,hmo,fun j e' hj he' K7=>?_⟩
  rcases Nat.lt_or_ge j k with h1|h1
  ·exact hdone j e' h1 he' K7
  ·obtain rfl:j=k:=by omega
   rw[hke]at he';cases he'
   exact absurd (hbw.2 K7) (by rw[hb2];simp)
end Go.Proofs.Lv
set_option maxRecDepth 100000
set_option maxHeartbeats 4000000
namespace Go.Proofs.Lv
open Go.Proofs.Lu
open Go.Ae Go.Ae.M
variable{H0 H:aa}{L L' M:List aK}{S:List Nat}{F:Nat→Prop}{A:At}{q:AV}{n s:Nat}{Q P:Nat→Prop}{mk mk':List Bool}{nx nx':List Nat}
def Jq:List (Nat×Ed)→List Value
 |[]=>[]
 |p::l=>vn p.1::vn p.2.1::vn p.2.2.1::vn p.2.2.2::Jq l
theorem F9:∀l,(Jq l).length=l.length*4
 |[]=>rfl
 |e::l=>by
  have:=F9 l
  simp only[Jq,List.length_cons];omega
theorem Nk:∀l l',Jq (l++l')=Jq l++Jq l'
 |[],l'=>rfl
 |e::l,l'=>by simp only[List.cons_append,Jq,Nk l l']
theorem TT:∀{l:List (Nat×Ed)}{i:Nat}{p:Nat×Ed},l[i]?=some p→El (Jq l) 4 i=[vn p.1,vn p.2.1,vn p.2.2.1,vn p.2.2.2]
 |[],i,e,h=>by simp at h
 |x::l,0,e,h=>by
  simp at h;subst h
  simp[El,Jq]
 |x::l,i +1,e,h=>by
  have:=TT (l:=l) (i:=i) (by simpa using h)
  rw[←this]
  unfold El
  rw[show(i +1)*4=i*4 +4 by omega]
  rfl
section steps
variable{K:Value→Value→aa→Prop}{a:Option Addr}{ty:TypeId}{cs:List Value}{v:Value}{r c k:Nat}
theorem _root_.Go.Ae.SH.Dx(hS:SH S H0 H L)[hb:BV L r ty cs](hk:k<n)(hv:cs[k]?=some v)(kk:K (.pointer (some ⟨r,k,none⟩)) v (hN H)):
 PU (q_ 1 (.slice (some ⟨r,0,none⟩) n c) (vn k)) fun p=>ME (jX none p (hN H)) (K p):=by
 obtain⟨i,hi⟩:=hb.at'
 refine PU.of (VB hk) ?_
 rw[Nat.zero_add]
 exact hS.xH i hi hv kk
theorem _root_.Go.Ae.fE.Dx(h:fE F ty H a n 1 cs)(hk:k<n)(hv:cs[k]?=some v)(kk:∀r o,K (.pointer (some ⟨r,o,none⟩)) v (hN H)):
 PU (q_ 1 (.slice a n c) (vn k)) fun p=>ME (jX none p (hN H)) (K p):=by
 obtain⟨r,o,h1,h2,h3,_⟩:=h.1.idx (c:=c) (Nat.lt_succ_self 0) hk
 refine PU.of h1 ?_
 refine ME.ld (H:=hN H) ?_ (kk _ _)
 have:=h3 0 v (Nat.lt_succ_self 0) (by rw[Nat.mul_one,Nat.add_zero];exact hv)
 exact this
theorem oW.ab1(h:oW F H A q)(ho:A.Ok)(hk:k<A.nr)(kk:∀r o,K (.pointer (some ⟨r,o,none⟩)) (vn (A.S k)) (hN H)):PU (q_ 1 (.slice q.sa A.nr q.sc) (vn k)) fun p=>ME (jX none p (hN H)) (K p):=h.s.Dx hk (iH (by rw[ho.Jp];exact hk)) kk
theorem ab2{l:List (Nat×Ed)}(h:fE F 166 H a l.length 4 (Jq l))(hk:k<l.length)(kk:∀p,K p (.agg ⟨[vn l[k].1,vn l[k].2.1,vn l[k].2.2.1,vn l[k].2.2.2]⟩) H):PU (q_ 4 (.slice a l.length c) (vn k)) fun p=>ME (jX (some 4) p H) (K p):=
 h.ixN (by omega) hk (TT (List.getElem?_eq_getElem hk)) kk
end steps
def ab3(A:At)(tok:Bool)(t:Nat)(l:List (Nat×Ed)):Prop:=(∀p∈l,p.2∈A.E p.1∧p.2.2.2=t∧At.Ng tok p.2)∧∀s e,e∈A.E s→At.Ng tok e→e.2.2=t→(s,e)∈l
def ab4(A:At)(r:Nat)(l:List (Nat×Ed)):Prop:=(∀p∈l,p.2∈A.E p.1∧p.2.1=2∧p.2.2.1=r)∧∀s e,e∈A.E s→e.1=2→e.2.1=r→(s,e)∈l
def ZL(G:Nat→List (Nat×Ed)→Prop)(H:aa)(n:Nat)(a:Option Addr):Prop:=∃vs,fE (fun _=>True) 164 H a n 1 vs∧∀t,t<n→∃b c l,vs[t]?=some (.slice b l.length c)∧fE (fun _=>True) 166 H b l.length 4 (Jq l)∧G t l∧l.length≤1000000000
theorem ZL.ld{G:Nat→List (Nat×Ed)→Prop}{a:Option Addr}{t c:Nat}{H':aa}{K:Value→Value→aa→Prop}(h:ZL G H n a)(hx:Ext H H')(ht:t<n)(kk:∀p b c l,fE (fun _=>True) 166 H b l.length 4 (Jq l)→G t l→l.length≤1000000000→K p (.slice b l.length c) H'):PU (q_ 1 (.slice a n c) (vn t)) fun p=>ME (jX none p H') (K p):=by
 obtain⟨vs,h1,h2⟩:=h
 obtain⟨b,c,l,h3,h4,h5,h6⟩:=h2 t ht
 exact(h1.ex hx).ix ht h3 fun p=>kk p b c l h4 h5 h6
theorem V6{tok:Bool}{rg:Nat}{ia ca:Option Addr}{ic cc:Nat}(hw:Wf H)(h:oW F H A q)(ho:A.Ok)(hg:Bk H rg 26 (q.cells A))(hgl:rg<H.next)(hI:ZL (ab3 A tok) H A.ns ia)(hC:ZL (ab4 A) H A.nr ca){x4 x7 x8 aW bn bT bJ bL dL jH mJ oL x30 x31 x32 tL x38 x39 x88 x89 x90 x115 vZ qi x157 x158 x159:Value}{dI:List (Nat×Value)}:
 aR Pg X (sub gq [1,1,1,1]) (dF (q.v A) (.bool tok) (pt rg) x4 (.slice ia A.ns ic) (.slice ca A.nr cc) x7 x8 aW bn bT bJ bL dL jH mJ oL x30 x31 x32 tL x38 x39 x88 x89 x90 x115 vZ qi x157 x158 x159 dI H)
  (cB Pg [.tmp 4] (Qe (fun v H'=>∃mk,Bs H.next H' A.ns v mk∧∀s,on mk s↔A.Mk tok s) H)):=by
 have hS:=SH.refl hw
 have hbig:=ho.big
 have O3:=ho.few
 refine tl ?_
 refine ME.vW (vs:=q.cells A) (hg.read (by show 0 +6≤6;omega)) ?_
 refine ak.mono (iX hS.wf q A) ?_
 rintro v H2 ⟨rfl,hx⟩
 have hS:=hS.call hx
 refine hS.mkS (Nat.le_refl _) (by omega) fun H3 dm hS=>?_
 rw[gP]at hS
 refine hS.cZ fun H4 mr hS=>?_
 simp only[PP,Nat.reduceBEq,aj hS.wf];refine hS.jd fun Hn hS=>?_
 refine hS.cZ fun H5 xr hS=>?_
 refine hS.Dg (hg.cell (o:=2) rfl) hgl ?_
 simp only[PP,Nat.reduceBEq]
 have hS:SH [] H H5 ([(xr,23,[.slice none 0 0]),(mr,36,[.slice (some ⟨dm,0,none⟩) A.ns A.ns]),(dm,4,List.replicate A.ns (.bool false))]):=hS
 have hS:=hS.perm (L':=[(mr,36,[.slice (some ⟨dm,0,none⟩) A.ns A.ns]),(xr,23,[.slice none 0 0]),(dm,4,List.replicate A.ns (.bool false))]) (List.Perm.swap _ _ _)
 have hM:Ms mr xr dm A.ns (List.replicate A.ns false) [] [(mr,36,[.slice (some ⟨dm,0,none⟩) A.ns A.ns]),(xr,23,[.slice none 0 0]),(dm,4,List.replicate A.ns (.bool false))]:=⟨.slice none 0 0,[],by simp,GB.nil _ _,by simp⟩
 have hmu:mu (List.replicate A.ns false) []≤8000:=by unfold mu;rw[AJ];show 2*A.ns +0≤8000;omega
 have call:∀{s:Nat}{mk:List Bool}{nx:List Nat}{M L:List aK}{H':aa}{P:Nat→Prop}{K:Value→aa→Prop},s<A.ns→Ms mr xr dm A.ns mk nx M→SH [] H H' (M++L)→MJ A.ns (A.Mk tok) P mk nx→mu mk nx≤8000→A.Mk tok s→
  (∀v H2 mk' nx' M',Ms mr xr dm A.ns mk' nx' M'→SH [] H H2 (M'++L)→MJ A.ns (A.Mk tok) P mk' nx'→on mk' s→(∀t,on mk t→on mk' t)→mu mk' nx'≤mu mk nx→K v H2)→
  fq Pg X (CW (.func (.func 89) ⟨[]⟩ ⟨[pt mr,pt xr]⟩)) [vn s] H' K:=by
  intro s mk nx M L H' P K hs hM hS hJ hmu hq kk
  show ak Pg X 89 [vn s,pt mr,pt xr] H' K
  refine ak.mono (yQ hM hS hs (Nj hmu)) ?_
  rintro v H2 ⟨mk',nx',M',hM',hS',hk⟩
  obtain⟨a,b,c,d⟩:=hk.mj hJ hq
  exact kk v H2 mk' nx' M' hM' hS' a b c d
 refine lp2 15 90 (I:=fun m bL x90 H'=>∃i mk nx M,x90=vn i∧i +m=A.nr∧Ms mr xr dm A.ns mk nx M∧SH [] H H' (M++[])∧MJ A.ns (A.Mk tok) (fun _=>False) mk nx∧mu mk nx≤8000∧∀j,j<i→on mk (A.P j)) ?_ A.nr ⟨0,_,_,_,rfl,by omega,hM,hS,MJ.nil _ _,hmu,fun j hj=>absurd hj (by omega)⟩
 clear hS hM hmu hx
 rintro m bL x90 dI H6 ⟨i,mk,nx,M,rfl,him,hM,hS,hJ,hmu,hb⟩
 refine tl ?_
 simp only[PP,Nat.reduceBEq]
 refine ae (fun hc=>?_) (fun hc=>?_)
 ·have hi:i<A.nr:=by omega
  refine(h.ex hS.ext).ldP ho hi fun p=>?_
  refine call (ho.p i hi).1 hM hS hJ hmu (.stop i hi) fun v H7 mk' nx' M' hM hS hJ hon hmo TS=>?_
  refine PU.of (au (by omega) (by omega)) ?_
  refine⟨A.nr -(i +1),by omega,_,_,_,_,rfl,i +1,mk',nx',M',by rw[show((i:Int) +1)=((i +1:Nat):Int) by omega],by omega,hM,hS,hJ,by omega,fun j hj=>?_⟩
  rcases Nat.lt_or_ge j i with h1|h1
  ·exact hmo _ (hb j h1)
  ·obtain rfl:j=i:=by omega
   exact hon
 have hbase:∀r,r<A.nr→on mk (A.P r):=fun r hr=>hb r (by omega)
 clear hb hc him
 refine tl ?_
 refine abC 16 18 19 21 115 116 117 157 158 159 (I:=fun m dL jH mJ oL x115 vZ qi x157 x158 x159 H'=>∃mk nx M P,Ms mr xr dm A.ns mk nx M∧SH [] H H' (M++[])∧MJ A.ns (A.Mk tok) P mk nx∧mu mk nx≤8000∧mu mk nx=m∧(∀r,r<A.nr→on mk (A.P r))∧A.Clo tok P mk) ?_ (mu mk nx) ⟨mk,nx,M,_,hM,hS,hJ,hmu,rfl,hbase,fun s e _ _ h=>h.elim⟩
 clear hS hM hJ hmu hbase
 rintro m dL jH mJ oL x115 vZ qi x157 x158 x159 dI H6 ⟨mk,nx,M,P,hM,hS,hJ,hmu,rfl,hbase,K4⟩
 obtain⟨nv,gb,rfl,hgb,hl⟩:=hM
 have hS:SH [] H H6 ((mr,36,[.slice (some ⟨dm,0,none⟩) A.ns A.ns])::(xr,23,[nv])::(dm,4,bools mk)::(gb++[])):=hS
 refine tl ?_
 simp only[PP,Nat.reduceBEq,aj hS.wf];refine hS.aZ ?_
 have fin:nx=[]→∀dI,aR Pg X (sub gq [1,1,1,1,1,1,1,1,1]) (dF (q.v A) (.bool tok) (pt rg) x4 (.slice ia A.ns ic) (.slice ca A.nr cc) x7 x8 aW (pt mr) (pt xr) (.func (.func 89) ⟨[]⟩ ⟨[pt mr,pt xr]⟩) bL dL jH mJ oL x30 x31 x32 tL x38 x39 (.slice q.pa A.nr q.pc) (vn A.nr) (vn i) x115 vZ qi x157 x158 x159 dI H6)
  (cB Pg [.tmp 4] (Qe (fun v H'=>∃mk,Bs H.next H' A.ns v mk∧∀s,on mk s↔A.Mk tok s) H)):=by
  intro hn dI
  subst hn
  refine tl ?_
  refine hS.aZ ?_
  refine rr ?_;exact⟨⟨mk,⟨_,_,rfl,hl,fE.one hS (List.mem_of_getElem? (i:=2) rfl) (by simpa using hl) (hS.xA (List.mem_of_getElem? (i:=2) rfl))⟩,At.V4 ho hJ K4 hbase⟩,hS.ext⟩
 rcases hgb with⟨rfl,hn,rfl⟩|⟨r,n,aQ,rfl,hn,rfl⟩
 ·obtain rfl:nx=[]:=by simpa using hn
  simp only[PP,Nat.reduceBEq]
  refine ae (fun hc=>absurd hc (by omega)) (fun _=>?_)
  exact fin rfl _
 have hn:nx.length=n:=by simpa using hn
 subst hn
 simp only[PP,Nat.reduceBEq]
 refine ae (fun hc=>?_) (fun hc=>?_)
 rotate_left
 ·exact fin (List.length_eq_zero_iff.1 (by omega)) _
 clear fin
 obtain⟨uN,cur,rfl⟩:∃a b,nx=a++[b]:=⟨nx.dropLast,nx.getLast (fun e=>by subst e;simp at hc),(List.dropLast_concat_getLast _).symm⟩
 have hlen:(uN++[cur]).length=uN.length +1:=by simp
 rw[hlen]at hS
 simp only[List.cons_append,List.nil_append]at hS
 have ZK:=Nj hmu
 rw[hlen]at ZK
 refine hS.aZ ?_;refine hS.aZ ?_;simp only[PP,Nat.reduceBEq,aj hS.wf]
 refine PU.of (ax (by omega) (by omega)) ?_
 rw[show((uN.length +1:Nat):Int) -1=(uN.length:Nat) by omega]
 refine hS.ix (v:=vn cur) (by omega) (by simp) fun p=>?_
 refine hS.aZ ?_;refine hS.aZ ?_;simp only[PP,Nat.reduceBEq,aj hS.wf]
 refine PU.of (ax (by omega) (by omega)) ?_
 rw[show((uN.length +1:Nat):Int) -1=(uN.length:Nat) by omega]
 refine PU.of (vY (by omega)) ?_
 refine hS.jd fun Hn hS=>?_
 have K5:cur<A.ns:=by have:=X9 (hJ.X_ cur (by simp));rw[hJ.len]at this;exact this
 have hJ':=hJ.pop
 have K6:=TR mk uN cur
 have hM:Ms mr xr dm A.ns mk uN ((mr,36,[.slice (some ⟨dm,0,none⟩) A.ns A.ns])::(xr,23,[.slice (some ⟨r,0,none⟩) uN.length (aT 1)])::(dm,4,bools mk)::[(r,3,bH (uN++[cur])++aQ)]):=⟨_,_,rfl,.inr ⟨r,_,vn cur::aQ,rfl,by simp,by simp⟩,hl⟩
 refine hI.ld hS.ext K5 fun p ba bc l hl hG hln=>?_
 simp only[PP,Nat.reduceBEq]
 have hS:SH [] H _ (((mr,36,[.slice (some ⟨dm,0,none⟩) A.ns A.ns])::(xr,23,[.slice (some ⟨r,0,none⟩) uN.length (aT 1)])::(dm,4,bools mk)::[(r,3,bH (uN++[cur])++aQ)])++[]):=hS
 have hrc:=hJ.snd cur (hJ.X_ cur (by simp))
 refine lp2 18 117 (I:=fun m jH qi H'=>∃k mk' nx' M,qi=vn k∧k +m=l.length∧Ms mr xr dm A.ns mk' nx' M∧SH [] H H' (M++[])∧MJ A.ns (A.Mk tok) (fun t=>P t∨t=cur) mk' nx'∧mu mk' nx'≤mu mk uN∧(∀t,on mk t→on mk' t)∧∀(j:Nat)(p:Nat×Ed),j<k→l[j]?=some p→(p.2.1=2→P (A.S p.2.2.1)∨A.S p.2.2.1=cur)→on mk' p.1) ?_ l.length ⟨0,mk,uN,_,rfl,by omega,hM,hS,hJ',Nat.le_refl _,fun t h=>h,fun j e hj=>absurd hj (by omega)⟩
 clear hS hM hJ'
 rintro m' y18 adw yU H7 ⟨k,mk',nx',M,rfl,hkm,hM,hS,hJ',TS,hmo,hdone⟩
 refine tl ?_
 simp only[PP,Nat.reduceBEq]
 refine ae (fun hc2=>?_) (fun hc2=>?_)
 ·have hk:k<l.length:=by omega
  refine ab2 (hl.ex hS.ext) hk fun p=>?_
  have hmem:=List.getElem_mem hk
  have hke:l[k]?=some l[k]:=List.getElem?_eq_getElem hk
  obtain⟨g1,g2,g3⟩:=hG.1 _ hmem
  generalize hee:l[k]=pe at g1 g2 g3 hke hmem⊢
  obtain⟨s,e⟩:=pe
  replace g1:e∈A.E s:=g1
  replace g2:e.2.2=cur:=g2
  replace g3:At.Ng tok e:=g3
  have hss:=ho.lt g1
  refine hS.ns rfl rfl rfl fun H8 re hS Jo=>?_
  have hS:SH [] H H8 ((re,166,[vn s,vn e.1,vn e.2.1,vn e.2.2])::(M++[])):=hS
  have yh:∀y18 um F8 M2 oU H9,Ms mr xr dm A.ns um F8 M2→SH [] H H9 (M2++[])→MJ A.ns (A.Mk tok) (fun t=>P t∨t=cur) um F8→mu um F8≤mu mk' nx'→(∀t,on mk' t→on um t)→((e.1=2→P (A.S e.2.1)∨A.S e.2.1=cur)→on um s)→
   aR Pg X (sub gq [1,1,1,1,1,1,1,1,0,0,0,1,0,1,1,0,1,0,0,1,1,1]) (dF (q.v A) (.bool tok) (pt rg) x4 (.slice ia A.ns ic) (.slice ca A.nr cc) x7 x8 aW (pt mr) (pt xr) (.func (.func 89) ⟨[]⟩ ⟨[pt mr,pt xr]⟩) bL (vn cur) y18 mJ oL x30 x31 x32 tL x38 x39 (.slice q.pa A.nr q.pc) (vn A.nr) (vn i) (.slice ba l.length bc) (vn l.length) (vn k) x157 x158 x159 oU H9)
    (wK (jZ (q.v A) (.bool tok) (pt rg) x4 (.slice ia A.ns ic) (.slice ca A.nr cc) x7 x8 aW (pt mr) (pt xr) (.func (.func 89) ⟨[]⟩ ⟨[pt mr,pt xr]⟩) bL (vn cur) mJ oL x30 x31 x32 tL x38 x39 (.slice q.pa A.nr q.pc) (vn A.nr) (vn i) (.slice ba l.length bc) (vn l.length) x157 x158 x159 (fun m jH qi H'=>∃k mk' nx' M,qi=vn k∧k +m=l.length∧Ms mr xr dm A.ns mk' nx' M∧SH [] H H' (M++[])∧MJ A.ns (A.Mk tok) (fun t=>P t∨t=cur) mk' nx'∧mu mk' nx'≤mu mk uN∧(∀t,on mk t→on mk' t)∧∀(j:Nat)(p:Nat×Ed),j<k→l[j]?=some p→(p.2.1=2→P (A.S p.2.2.1)∨A.S p.2.2.1=cur)→on mk' p.1)) m' (gY 8 (kH Pg X (sub gq [1,1,1,1,1,1,1,1,0,0,0,1,0,1,1,1]) (gY 7 (wK (oD (q.v A) (.bool tok) (pt rg) x4 (.slice ia A.ns ic) (.slice ca A.nr cc) x7 x8 aW (pt mr) (pt xr) (.func (.func 89) ⟨[]⟩ ⟨[pt mr,pt xr]⟩) bL x30 x31 x32 tL x38 x39 (.slice q.pa A.nr q.pc) (vn A.nr) (vn i) (fun m dL jH mJ oL x115 vZ qi x157 x158 x159 H'=>∃mk nx M P,Ms mr xr dm A.ns mk nx M∧SH [] H H' (M++[])∧MJ A.ns (A.Mk tok) P mk nx∧mu mk nx≤8000∧mu mk nx=m∧(∀r,r<A.nr→on mk (A.P r))∧A.Clo tok P mk)) (mu mk (uN++[cur])) (gY 6 (kH Pg X (sub gq [1,1,1,1,1,1,1,1,1]) (cB Pg [.tmp 4] (Qe (fun v H'=>∃mk,Bs H.next H' A.ns v mk∧∀s,on mk s↔A.Mk tok s) H))))))))):=by
   intro y18 um F8 M2 oU H9 hM2 hS2 hJ2 K6 wH K8
   refine tl ?_
   refine PU.of (au (by omega) (by omega)) ?_
   refine⟨l.length -(k +1),by omega,_,_,_,_,rfl,k +1,um,F8,M2,by rw[show((k:Int) +1)=((k +1:Nat):Int) by omega],by omega,hM2,hS2,hJ2,by omega,fun t ht=>wH t (hmo t ht),fun j p' hj hp' K7=>?_⟩
   rcases Nat.lt_or_ge j k with h1|h1
   ·exact wH _ (hdone j p' h1 hp' K7)
   ·obtain rfl:j=k:=by omega
    rw[hke]at hp';cases hp';exact K8 K7
  repeat(first|(simp only[PP,Nat.reduceBEq,aj hS.wf])|(refine hS.jf ?_))
  refine aP (fun hc3=>?_) (fun hc3=>?_)
  ·refine cK (by simp only[aA,az (Ext.refl (hN _))];rfl) ?_
   refine tl ?_
   simp only[PP,Nat.reduceBEq,aj hS.wf];refine hS.aZ ?_
   refine call hss hM (hS.perm (eY [_] M [])) hJ' (by omega) (.edge s e g1 g3 (fun h2=>absurd (by omega) hc3) (by rw[g2];exact hrc)) fun v Zx um F8 M2 hM2 hS2 hJ2 K8 wH K6=>?_
   exact yh _ um F8 M2 _ _ hM2 (SH.drop (A:=[_]) (hS2.perm (eY M2 [_] []))) hJ2 K6 wH fun _=>K8
  ·have he2:e.1=2:=by omega
   have hca:=ho.call g1 he2
   have hM0:=hM
   have hSt:=ho.s _ hca
   obtain⟨nv',dD,rfl,hgb',hl'⟩:=hM
   simp only[List.cons_append]at hS
   refine hS.jf ?_;simp only[PP,Nat.reduceBEq,aj hS.wf]
   refine hS.Dh (hg.cell (o:=1) rfl) hgl ?_
   repeat(first|(simp only[PP,Nat.reduceBEq,aj hS.wf])|(refine hS.jf ?_))
   refine oW.ab1 (h.ex hS.ext) ho hca fun r1 o1=>?_
   simp only[PP,Nat.reduceBEq,aj hS.wf]
   obtain⟨b,hb1⟩:∃b,mk'[A.S e.2.1]?=some b:=⟨_,List.getElem?_eq_getElem (by omega)⟩
   refine hS.Dx hSt.1 (kJ _ hb1) ?_
   simp only[PP,Nat.reduceBEq,aj hS.wf];refine cK (by simp only[aA,az (Ext.refl (hN _))];rfl) ?_
   refine tl ?_
   simp only[PP,Nat.reduceBEq,aj hS.wf]
   refine aC (fun hb2=>?_) (fun hb2=>?_)
   ·refine hS.aZ ?_
    refine call hss hM0 (hS.perm (eY [_] (_::_::_::dD) [])) hJ' (by omega) (.edge s e g1 g3 (fun h2=>hJ'.snd _ (by unfold on;rw[hb1,hb2])) (by rw[g2];exact hrc)) fun v Zx um F8 M2 hM2 hS2 hJ2 K8 wH K6=>?_
    exact yh _ um F8 M2 _ _ hM2 (SH.drop (A:=[_]) (hS2.perm (eY M2 [_] []))) hJ2 K6 wH fun _=>K8
   ·refine yh _ mk' nx' _ _ _ hM0 (SH.drop (A:=[_]) hS) hJ' (Nat.le_refl _) (fun t h=>h) fun h2=>?_
    have:=hJ'.pon _ (h2 he2)
    unfold on at this
    rw[hb1]at this
    cases this
    cases hb2
 have hin:∀s e,e∈A.E s→At.Ng tok e→e.2.2=cur→(e.1=2→P (A.S e.2.1)∨A.S e.2.1=cur)→on mk' s:=fun s e he hk ht hc'=>by
  obtain⟨j,hj,e1⟩:=List.mem_iff_getElem.1 (hG.2 s e he hk ht)
  exact hdone j (s,e) (by omega) (by rw[←e1];exact List.getElem?_eq_getElem hj) hc'
 clear hdone hc2 hkm hl hG
 refine tl ?_
 simp only[PP,Nat.reduceBEq]
 refine hS.Dg (hg.cell (o:=3) rfl) hgl ?_
 refine(h.ex hS.ext).Dg K5 fun p=>?_
 refine hS.Dg (hg.cell (o:=1) rfl) hgl ?_
 refine(h.ex hS.ext).ldS ho (ho.o cur K5) fun p=>?_
 simp only[PP,Nat.reduceBEq]
 refine ae (fun hc3=>?_) (fun hc3=>?_)
 rotate_left
 ·refine⟨mu mk' nx',by omega,_,_,_,_,_,_,_,_,_,_,_,_,rfl,mk',nx',M,_,hM,hS,hJ',by omega,rfl,fun r hr=>hmo _ (hbase r hr),K4.step hmo hin fun s e he h2 hs _=>?_⟩
  have:=(ho.s _ (ho.call he h2)).2
  rw[hs]at this
  exact absurd (by rw[this,hs]) hc3
 have ac8:A.S (A.O cur)=cur:=by omega
 refine hC.ld hS.ext (ho.o cur K5) fun p ba bc l hl hG hln=>?_
 simp only[PP,Nat.reduceBEq]
 refine lp2 21 159 (I:=fun m oL x159 H'=>∃k um F8 M,x159=vn k∧k +m=l.length∧Ms mr xr dm A.ns um F8 M∧SH [] H H' (M++[])∧MJ A.ns (A.Mk tok) (fun t=>P t∨t=cur) um F8∧mu um F8≤mu mk uN∧(∀t,on mk' t→on um t)∧∀(j:Nat)(p:Nat×Ed),j<k→l[j]?=some p→(P p.2.2.2∨p.2.2.2=cur)→on um p.1) ?_ l.length ⟨0,mk',nx',M,rfl,by omega,hM,hS,hJ',by omega,fun t h=>h,fun j e hj=>absurd hj (by omega)⟩
 clear hS hM hJ' TS
 rintro m' y21 y159 yU H7 ⟨k,um,F8,M,rfl,hkm,hM,hS,hJ',TS,wH,hdone⟩
 refine tl ?_
 simp only[PP,Nat.reduceBEq]
 refine ae (fun hc2=>?_) (fun hc2=>?_)
 rotate_left
 ·refine⟨mu um F8,by omega,_,_,_,_,_,_,_,_,_,_,_,_,rfl,um,F8,M,_,hM,hS,hJ',by omega,rfl,fun r hr=>wH _ (hmo _ (hbase r hr)),K4.step (fun t ht=>wH t (hmo t ht)) (fun s e h1 h2 h3 h4=>wH _ (hin s e h1 h2 h3 h4)) fun s e he h2 hs ht=>?_⟩
  have hs2:=(ho.s _ (ho.call he h2)).2
  rw[hs]at hs2
  obtain⟨j,hj,e1⟩:=List.mem_iff_getElem.1 (hG.2 s e he h2 hs2.symm)
  exact hdone j (s,e) (by omega) (by rw[←e1];exact List.getElem?_eq_getElem hj) ht
 have hk:k<l.length:=by omega
 refine ab2 (hl.ex hS.ext) hk fun p=>?_
 have hmem:=List.getElem_mem hk
 have hke:l[k]?=some l[k]:=List.getElem?_eq_getElem hk
 obtain⟨g1,g2,g3⟩:=hG.1 _ hmem
 generalize hee:l[k]=pe at g1 g2 g3 hke hmem⊢
 obtain⟨s,e⟩:=pe
 replace g1:e∈A.E s:=g1
 replace g2:e.1=2:=g2
 replace g3:e.2.1=A.O cur:=g3
 have hss:=ho.lt g1
 have het:=(ho.e s hss e g1).1
 refine hS.ns rfl rfl rfl fun H8 re hS Jo=>?_
 have hM0:=hM
 obtain⟨nv',dD,rfl,hgb',hl'⟩:=hM
 have hS:SH [] H H8 ((re,166,[vn s,vn e.1,vn e.2.1,vn e.2.2])::(mr,36,[.slice (some ⟨dm,0,none⟩) A.ns A.ns])::(xr,23,[nv'])::(dm,4,bools um)::(dD++[])):=hS
 simp only[PP,Nat.reduceBEq,aj hS.wf];refine hS.aZ ?_;refine hS.aZ ?_
 obtain⟨b,hb1⟩:∃b,um[e.2.2]?=some b:=⟨_,List.getElem?_eq_getElem (by omega)⟩
 refine hS.ix het (kJ _ hb1) fun p=>?_
 simp only[PP,Nat.reduceBEq]
 refine aC (fun hb2=>?_) (fun hb2=>?_)
 ·refine hS.aZ ?_
  refine call hss hM0 (hS.perm (eY [_] (_::_::_::dD) [])) hJ' (by omega) (.edge s e g1 (fun h1=>by omega) (fun _=>by rw[g3,ac8];exact hrc) (hJ'.snd _ (by unfold on;rw[hb1,hb2]))) fun v Zx mk3 nx3 M3 hM3 k_ hJ3 ZM ab5 adx=>?_
  refine PU.of (au (by omega) (by omega)) ?_
  refine⟨l.length -(k +1),by omega,_,_,_,_,rfl,k +1,mk3,nx3,M3,by rw[show((k:Int) +1)=((k +1:Nat):Int) by omega],by omega,hM3,SH.drop (A:=[_]) (k_.perm (eY M3 [_] [])),hJ3,by omega,fun t ht=>ab5 t (wH t ht),fun j p' hj hp' K7=>?_⟩
  rcases Nat.lt_or_ge j k with h1|h1
  ·exact ab5 _ (hdone j p' h1 hp' K7)
  ·obtain rfl:j=k:=by omega
   rw[hke]at hp';cases hp';exact ZM
 ·refine PU.of (au (by omega) (by omega)) ?_
  refine⟨l.length -(k +1),by omega,_,_,_,_,rfl,k +1,um,F8,_,by rw[show((k:Int) +1)=((k +1:Nat):Int) by omega],by omega,hM0,SH.drop (A:=[_]) hS,hJ',by omega,wH,fun j p' hj hp' K7=>?_⟩
  rcases Nat.lt_or_ge j k with h1|h1
  ·exact hdone j p' h1 hp' K7
  ·obtain rfl:j=k:=by omega
   rw[hke]at hp';cases hp'
   have:=hJ'.pon _ K7
   unfold on at this
   rw[show((s,e):Nat×Ed).2.2.2=e.2.2 from rfl,hb1]at this
   cases this
   cases hb2
end Go.Proofs.Lv
set_option maxRecDepth 100000
set_option maxHeartbeats 4000000
namespace Go.Proofs.Lv
open Go.Proofs.Lu
open Go.Ae Go.Ae.M
variable{H0 H:aa}{L L' M:List aK}{S:List Nat}{F:Nat→Prop}{A:At}{q:AV}{n s:Nat}{Q P:Nat→Prop}{mk mk':List Bool}{nx nx':List Nat}
structure KD(A:At)(ok:Ed→Prop)(key:Ed→Nat)(D:Nat→Ed→Prop)(c:Nat)(b:List (List (Nat×Ed))):Prop where
 snd:∀(t:Nat) l,b[t]?=some l→∀p∈l,p.2∈A.E p.1∧key p.2=t∧ok p.2
 cpl:∀s e l,D s e→ok e→b[key e]?=some l→(s,e)∈l
 len:∀l∈b,l.length≤c
section kd
variable{ok:Ed→Prop}{key:Ed→Nat}{D D':Nat→Ed→Prop}{c:Nat}{b:List (List (Nat×Ed))}
theorem KD.nil(n:Nat):KD A ok key (fun _ _=>False) 0 (List.replicate n []):=by
 refine⟨fun t l h p hp=>?_,fun s e l h=>h.elim,fun l h=>?_⟩
 ·have:=List.mem_of_getElem? h
  rw[List.mem_replicate]at this
  rw[this.2]at hp;cases hp
 ·rw[List.mem_replicate]at h
  rw[h.2];exact Nat.le_refl _
theorem KD.wk(h:KD A ok key D c b)(hd:∀s e,D' s e→D s e){c':Nat}(hc:c≤c'):KD A ok key D' c' b:=⟨h.snd,fun s e l g=>h.cpl s e l (hd s e g),fun l g=>Nat.le_trans (h.len l g) hc⟩
theorem KD.add(h:KD A ok key D c b){s:Nat}{e:Ed}{l:List (Nat×Ed)}(he:e∈A.E s)(hk:ok e)(hl:b[key e]?=some l):KD A ok key (fun s' e'=>D s' e'∨(s'=s∧e'=e)) (c +1) (b.set (key e) (l++[(s,e)])):=by
 have hlt:=(List.getElem?_eq_some_iff.1 hl).1
 refine⟨fun t l' h' p hp=>?_,fun s' e' l' hd hk' h'=>?_,fun l' h'=>?_⟩
 ·rw[List.getElem?_set]at h'
  by_cases ht:key e=t
  ·rw[if_pos ht,if_pos hlt]at h'
   cases h'
   rcases List.mem_append.1 hp with hp|hp
   ·rw[←ht];exact h.snd _ l hl p hp
   ·rw[List.mem_singleton]at hp
    subst hp
    exact⟨he,ht,hk⟩
  ·rw[if_neg ht]at h'
   exact h.snd t l' h' p hp
 ·rw[List.getElem?_set]at h'
  by_cases ht:key e=key e'
  ·rw[if_pos ht,if_pos hlt]at h'
   cases h'
   rcases hd with hd|⟨rfl,rfl⟩
   ·exact List.mem_append_left _ (h.cpl s' e' l hd hk' (by rw[←ht];exact hl))
   ·simp
  ·rw[if_neg ht]at h'
   rcases hd with hd|⟨rfl,rfl⟩
   ·exact h.cpl s' e' l' hd hk' h'
   ·exact absurd rfl ht
 ·rcases List.mem_or_eq_of_mem_set h' with h1|rfl
  ·have:=h.len l' h1;omega
  ·have:=h.len l (List.mem_of_getElem? hl)
   rw[List.length_append]
   show l.length +1≤c +1
   omega
theorem KD.skip(h:KD A ok key D c b){s:Nat}{e:Ed}(hk:¬ok e):KD A ok key (fun s' e'=>D s' e'∨(s'=s∧e'=e)) (c +1) b:=by
 refine⟨h.snd,fun s' e' l hd hk' h'=>?_,fun l' h'=>Nat.le_succ_of_le (h.len l' h')⟩
 rcases hd with hd|⟨rfl,rfl⟩
 ·exact h.cpl s' e' l hd hk' h'
 ·exact absurd hk' hk
end kd
def Seen(A:At)(i k:Nat)(s:Nat)(e:Ed):Prop:=(s<i∧e∈A.E s)∨(s=i∧∃j:Nat,j<k∧(A.E i)[j]?=some e)
theorem Seen.next{i k:Nat}{e0:Ed}(h0:(A.E i)[k]?=some e0){s:Nat}{e:Ed}(h:Seen A i (k +1) s e):Seen A i k s e∨(s=i∧e=e0):=by
 rcases h with h|⟨h1,j,h2,h3⟩
 ·exact .inl (.inl h)
 ·rcases Nat.lt_or_ge j k with h4|h4
  ·exact .inl (.inr ⟨h1,j,h4,h3⟩)
  ·obtain rfl:j=k:=by omega
   rw[h0]at h3;cases h3
   exact .inr ⟨h1,rfl⟩
theorem Seen.all{i:Nat}{s:Nat}{e:Ed}(h:Seen A (i +1) 0 s e):Seen A i (A.E i).length s e:=by
 rcases h with⟨h1,h2⟩|⟨h1,j,h2,h3⟩
 ·rcases Nat.lt_or_ge s i with h4|h4
  ·exact .inl ⟨h4,h2⟩
  ·obtain rfl:s=i:=by omega
   obtain⟨j,hj,e1⟩:=List.mem_iff_getElem.1 h2
   exact .inr ⟨rfl,j,hj,by rw[←e1];exact List.getElem?_eq_getElem hj⟩
 ·omega
theorem _root_.Go.Ae.SH.V7{K:Value→Value→aa→Prop}{r k c:Nat}{ty:TypeId}{cs:List Value}{v:Value}(hS:SH S H0 H L)[hb:Fy L r (fun cs=>cs.set k v) ty cs L'](hk:k<n)(hl:k<cs.length)(hc:ay v=[v]:=by rfl)(ho:aU v=true:=by rfl)(kk:∀H1,SH S H0 (hM H H1) L'→K (.pointer (some ⟨r,k,none⟩)) undef H1):
 PU (q_ 1 (.slice (some ⟨r,0,none⟩) n c) (vn k)) fun p=>ME (Aw 1 p v (hN H)) (K p):=by
 obtain⟨i,hi,e⟩:=hb.at'
 refine PU.of (VB hk) ?_
 rw[Nat.zero_add]
 obtain⟨H1,h1,h2,hx⟩:=(SH.o8 hS).qN (vs:=[v]) (o:=k) i hi (by show k +1≤_;omega) (by show av (aU v) _ _=_;rw[ho];rfl)
 rw[Mx hl]at h2
 show ME (gd (Nat.beq (len (ay v)) 1) (ai ((Go.Ae.hN H).write r k (ay v)) fun H'=>some (undef,H'))) _
 rw[hc,aO,show Nat.beq [v].length 1=true from rfl,h1]
 refine kk H1 ?_
 rw[e]
 exact⟨kS.later hS.ext hx.draw (fun q hq=>by
  simp at hq;subst hq
  exact(hS.lo _ (List.mem_of_getElem? hi)).1),h2.bk,fun e he=>⟨(h2.lo e he).1,(h2.lo e he).2⟩,h2.ne,hx.draw.wf hS.wf⟩
def AL(ok:Ed→Prop)(key:Ed→Nat)(A:At)(D:Nat→Ed→Prop)(c n:Nat)(vs:List Value)(R:List aK):Prop:=∃b,KD A ok key D c b∧b.length=n∧Az 166 4 (b.map Jq) vs R
theorem AL.wk{ok:Ed→Prop}{key:Ed→Nat}{D D':Nat→Ed→Prop}{c c' n:Nat}{vs:List Value}{R:List aK}(h:AL ok key A D c n vs R)(hd:∀s e,D' s e→D s e)(hc:c≤c'):AL ok key A D' c' n vs R:=let⟨b,h1,h2,h3⟩:=h;⟨b,h1.wk hd hc,h2,h3⟩
theorem AL.skip{ok:Ed→Prop}{key:Ed→Nat}{D:Nat→Ed→Prop}{c n:Nat}{vs:List Value}{R:List aK}(h:AL ok key A D c n vs R){s:Nat}{e:Ed}(hk:¬ok e):AL ok key A (fun s' e'=>D s' e'∨(s'=s∧e'=e)) (c +1) n vs R:=let⟨b,h1,h2,h3⟩:=h;⟨b,h1.skip hk,h2,h3⟩
theorem AL.put{ok:Ed→Prop}{key:Ed→Nat}{D:Nat→Ed→Prop}{c n:Nat}{vs:List Value}{R P0 L0:List aK}{rx s:Nat}{e:Ed}{K:Value→aa→Prop}(h:AL ok key A D c n vs R)(hc:c≤1000000)(he:e∈A.E s)(hk:ok e)(hn:key e<n){v:Value}(hv:vs[key e]?=some v)(hS:SH S H0 H ((rx,166,[vn s,vn e.1,vn e.2.1,vn e.2.2])::(P0++(R++L0))))
 (kk:∀va vl vc H1 R',AL ok key A (fun s' e'=>D s' e'∨(s'=s∧e'=e)) (c +1) n (vs.set (key e) (.slice va vl vc)) R'→SH S H0 (hM H H1) (P0++(R'++L0))→(Df H H1=cl 1∨Df H H1=⟨2,0,0,0,H,H1⟩)→K (.slice va vl vc) H1):
 ME (xz 166 4 v (.slice (some ⟨rx,0,none⟩) 1 1) (hN H)) K:=by
 obtain⟨b,h1,h2,h3⟩:=h
 have hvl:vs.length=n:=by rw[←h3.len,List.length_map,h2]
 obtain⟨A',gb,B,rfl,hg,hput⟩:=h3.at (key e) (by omega)
 obtain⟨l,hl⟩:∃l,b[key e]?=some l:=⟨_,List.getElem?_eq_getElem (by omega)⟩
 have hll:=h1.len l (List.mem_of_getElem? hl)
 rw[List.getElem?_map,hl]at hg
 have hg:GB 166 4 vs[key e] (Jq l) gb:=hg
 rw[List.getElem?_eq_getElem (by omega)]at hv
 rw[Option.some.inj hv]at hg
 have e1:P0++((A'++(gb++B))++L0)=(P0++A')++(gb++(B++L0)):=by simp
 rw[e1]at hS
 refine hg.Ie (hS.perm (List.Perm.cons _ (eY (P0++A') gb (B++L0)))) (by omega) rfl rfl (by rw[F9];omega) fun v' H1 dD hg' hS' _ _ hcl=>?_
 obtain⟨va,vl,vc,rfl⟩:=hg'.sl
 have hS':=hS'.perm (eY dD (P0++A') (B++L0))
 have e2:(P0++A')++(dD++(B++L0))=P0++((A'++(dD++B))++L0):=by simp
 rw[e2]at hS'
 refine kk va vl vc H1 (A'++(dD++B)) ⟨b.set (key e) (l++[(s,e)]),h1.add he hk hl,by rw[List.length_set];exact h2,?_⟩ hS' hcl
 have:=hput (.slice va vl vc) (Jq (l++[(s,e)])) dD (by rw[Nk];exact hg')
 rw[List.map_set];exact this
theorem xZ{ty:TypeId}{es:Nat}:∀{x_:List (List Value)}{vs:List Value}{R:List aK},Az ty es x_ vs R→∀v∈vs,gD v v=true
 |[],[],R,h=>fun v hv=>nomatch hv
 |ks::x_,w::vs,R,⟨gb,R',_,h1,h2⟩=>fun v hv=>by
  rcases List.mem_cons.1 hv with rfl|hv
  ·rcases h1 with⟨rfl,_⟩|⟨r,n,aQ,rfl,_⟩
   ·exact jM _ _ _ fun x h=>by cases h
   ·exact jM _ _ _ fun x h=>by cases h;rfl
  ·exact xZ h2 v hv
 |[],v::vs,R,h=>h.elim
 |ks::x_,[],R,h=>h.elim
theorem AL.same{ok:Ed→Prop}{key:Ed→Nat}{D:Nat→Ed→Prop}{c n:Nat}{vs:List Value}{R:List aK}(h:AL ok key A D c n vs R):∀v∈vs,gD v v=true:=let⟨_,_,_,h3⟩:=h;xZ h3
theorem AM{l:List Value}(h:∃a b c:Nat,l=[vn a,vn b,vn c]){o n:Nat}:∀v∈(l.drop o).take n,gD v v=true:=fun v hv=>by
 obtain⟨a,b,c,rfl⟩:=h
 have:=List.mem_of_mem_drop (List.mem_of_mem_take hv)
 simp at this
 rcases this with rfl|rfl|rfl<;>exact nO _ _
end Go.Proofs.Lv
set_option maxRecDepth 100000
set_option maxHeartbeats 4000000
namespace Go.Proofs.Lv
open Go.Proofs.Lu
open Go.Ae Go.Ae.M
variable{H0 H:aa}{L L' M:List aK}{S:List Nat}{F:Nat→Prop}{A:At}{q:AV}{n s:Nat}{Q P:Nat→Prop}{mk mk':List Bool}{nx nx':List Nat}
theorem K9{rs:List ResultVar}{K K':Value→aa→Prop}(h:∀v H,K v H→K' v H):∀o,cB Pg rs K o→cB Pg rs K' o:=by
 have key:∀s:St,(s.df=[]∧@Option.rec (List Value) (fun _=>Prop) False (fun vs=>K (iZ vs) s.H) (dw Pg s rs))→(s.df=[]∧@Option.rec (List Value) (fun _=>Prop) False (fun vs=>K' (iZ vs) s.H) (dw Pg s rs)):=by
  rintro s ⟨h1,h2⟩
  refine⟨h1,?_⟩
  cases ha:dw Pg s rs with
  |none=>rw[ha]at h2;exact h2
  |some vs=>rw[ha]at h2;exact h _ _ h2
 intro o ho
 cases o with
 |norm s=>exact key s ho
 |ret s=>exact key s ho
 |fail=>exact ho
 |exit i s=>exact ho
 |goto l s=>exact ho
theorem AL.bk{ok:Ed→Prop}{key:Ed→Nat}{D:Nat→Ed→Prop}{c r:Nat}{vs:List Value}{R:List aK}(h:AL ok key A D c n vs R)(hc:c≤1000000)(hS:SH S H0 H (R++L))(hr:Bk H r 164 vs)(hl:r<H.next):
 ZL (fun t l=>(∀p∈l,p.2∈A.E p.1∧key p.2=t∧ok p.2)∧∀s e,D s e→ok e→key e=t→(s,e)∈l) H n (some ⟨r,0,none⟩):=by
 obtain⟨b,h1,h2,h3⟩:=h
 have hvl:vs.length=n:=by rw[←h3.len,List.length_map,h2]
 refine⟨vs,⟨hr.fl hl (by omega),fun r' o e _=>by cases e;exact⟨trivial,hl,hr.Py⟩⟩,fun t ht=>?_⟩
 obtain⟨a,m,c',e1,e2,hf⟩:=h3.all hS t (by omega)
 obtain⟨l,hl⟩:∃l,b[t]?=some l:=⟨_,List.getElem?_eq_getElem (by omega)⟩
 rw[List.getElem?_map,hl]at e2 hf
 have e2:(Jq l).length=m*4:=e2
 rw[F9]at e2
 obtain rfl:m=l.length:=by omega
 have:=h1.len l (List.mem_of_getElem? hl)
 exact⟨a,c',l,by rw[List.getElem?_eq_getElem (by omega),e1],hf.wk fun _ _=>trivial,⟨h1.snd t l hl,fun s e hd hk hkey=>h1.cpl s e l hd hk (by rw[hkey];exact hl)⟩,by omega⟩
abbrev Aj:Ed→Nat:=fun e=>e.2.2
abbrev CK:Ed→Nat:=fun e=>e.2.1
abbrev okC:Ed→Prop:=fun e=>e.1=2
theorem V8{tok:Bool}{e:Ed}{D:Nat→Ed→Prop}{c re dc di rg ic cc:Nat}{Dy CZ:List Value}{RI RC:List aK}{H1:aa}(hc:c≤1000000)(ho:A.Ok)(he:e∈A.E s)(hok:At.Ng tok e)(hI:AL (At.Ng tok) Aj A D c A.ns Dy RI)(hC:AL okC CK A D c A.nr CZ RC)
 (hS:SH [] H H1 ((re,47,[vn e.1,vn e.2.1,vn e.2.2])::(dc,164,CZ)::(di,164,Dy)::(rg,26,q.cells A)::(RI++RC))){K:Out→Prop}{x0 x1 x2 x4 x8 bn bT bJ bL dL jH mJ oL x30 x31 x32 tL x38 x39 x88 x89 x90 x115 vZ qi x157 x158 x159:Value}{dI:List (Nat×Value)}
 (kk:∀CL CO K_ O5 oU H',AL (At.Ng tok) Aj A (fun s' e'=>D s' e'∨(s'=s∧e'=e)) (c +1) A.ns CL K_→AL okC CK A (fun s' e'=>D s' e'∨(s'=s∧e'=e)) (c +1) A.nr CO O5→SH [] H H' ((re,47,[vn e.1,vn e.2.1,vn e.2.2])::(dc,164,CO)::(di,164,CL)::(rg,26,q.cells A)::(K_++O5))→
  K (.norm (dF x0 x1 x2 x4 (.slice (some ⟨di,0,none⟩) A.ns ic) (.slice (some ⟨dc,0,none⟩) A.nr cc) (vn s) x8 (pt re) bn bT bJ bL dL jH mJ oL x30 x31 x32 tL x38 x39 x88 x89 x90 x115 vZ qi x157 x158 x159 oU H'))):
 aR Pg X (sub gq [1,1,1,0,1,0,0,1,1,0,0,1,1,0,0,1,1,0,0,1,1]) (dF x0 x1 x2 x4 (.slice (some ⟨di,0,none⟩) A.ns ic) (.slice (some ⟨dc,0,none⟩) A.nr cc) (vn s) x8 (pt re) bn bT bJ bL dL jH mJ oL x30 x31 x32 tL x38 x39 x88 x89 x90 x115 vZ qi x157 x158 x159 dI H1) K:=by
 have hs:=ho.lt he
 have hto:Aj e<A.ns:=(ho.e s hs e he).1
 have hvI:Dy.length=A.ns:=let⟨b,_,h2,h3⟩:=hI;by rw[←h3.len,List.length_map,h2]
 have hvC:CZ.length=A.nr:=let⟨b,_,h2,h3⟩:=hC;by rw[←h3.len,List.length_map,h2]
 refine tl ?_
 repeat(first|(simp only[PP,Nat.reduceBEq,aj hS.wf])|(refine hS.jf ?_))
 obtain⟨v,hv,_⟩:∃v,Dy[Aj e]?=some v∧True:=⟨_,List.getElem?_eq_getElem (by omega),trivial⟩
 refine hS.Dx (k:=Aj e) hto hv ?_
 repeat(first|(simp only[PP,Nat.reduceBEq,aj hS.wf])|(refine PU.b4 rfl ?_)|(refine hS.og ?_))
 refine hS.Vw rfl rfl rfl (by omega) fun H2 rx hS jC=>?_
 have hS:SH [] H (hM H1 H2) ((rx,166,[vn s,vn e.1,vn e.2.1,vn e.2.2])::([(re,47,[vn e.1,vn e.2.1,vn e.2.2]),(dc,164,CZ),(di,164,Dy),(rg,26,q.cells A)]++(RI++RC))):=hS
 have hS0:=hS
 refine hI.put hc he hok hto hv hS fun va vl vc H3 K_ hI' hS nE=>?_
 simp only[List.cons_append,List.nil_append]at hS
 have hS1:=hS
 refine hS.V7 (k:=Aj e) hto (by omega) (kk:=fun H4 hS=>?_)
 have n1:re≠di:=hS.nq 0 2 rfl rfl (by omega)
 refine(show∀K:Prop,K→_∧K from fun K hK=>?_) _ ?_
 ·have r1:∀{o n:Nat}{a b:aa},o +n≤3→gI ⟨2,0,0,0,hM H1 H2,H3⟩ ⟨4,re,o,n,a,b⟩=true:=fun h=>kL (hS0.get 1 rfl) ((hS1.get 0 rfl).fO rfl) h (AM ⟨_,_,_,rfl⟩)
  have r2:∀{n:Nat}{a b:aa},n=1→gI ⟨2,0,0,0,hM H1 H2,H3⟩ ⟨4,di,Aj e,n,a,b⟩=true:=fun h=>kL (hS0.get 3 rfl) ((hS1.get 2 rfl).fO rfl) (by omega) fun v hv=>hI.same v (List.mem_of_mem_drop (List.mem_of_mem_take hv))
  simp only[jC,aA,aB]
  generalize hke:Aj e=ke at r2⊢
  rcases nE with e|e<;>rw[e]<;>apply MB (A:=hM H1 H2) (B:=H3) (a:=re) (b:=di) n1 (by rfl) (by kernel_rfl) (by kernel_rfl) hK<;>repeat' apply And.intro
  all_goals first|exact trivial|(intro h;cases h;done)|exact fun _=>⟨rfl,rfl⟩|exact fun _=>r1 (by omega)|exact fun _=>r2 rfl
 refine hS.aZ ?_;simp only[PP,Nat.reduceBEq,aj hS.wf]
 refine ae (fun hk=>?_) (fun hk=>?_)
 rotate_left
 ·exact kk _ CZ K_ RC _ _ hI' (hC.skip (s:=s) (e:=e) (fun h=>hk (by have:e.1=2:=h;omega))) hS
 have hk2:okC e:=by show e.1=2;omega
 have hca:CK e<A.nr:=ho.call he hk2
 clear hS0 hS1 jC nE n1
 generalize hM _ H4=Hz at hS⊢
 repeat(first|(simp only[PP,Nat.reduceBEq,aj hS.wf])|(refine hS.jf ?_))
 obtain⟨v,hv,_⟩:∃v,CZ[CK e]?=some v∧True:=⟨_,List.getElem?_eq_getElem (by omega),trivial⟩
 refine hS.Dx (k:=CK e) hca hv ?_
 repeat(first|(simp only[PP,Nat.reduceBEq,aj hS.wf])|(refine PU.b4 rfl ?_)|(refine hS.og ?_))
 refine hS.Vw rfl rfl rfl (by omega) fun H5 ry hS jC=>?_
 have hS0:=hS
 have hS:=(hS.to (cs':=[vn s,vn e.1,vn e.2.1,vn e.2.2]) rfl).cast (L':=(ry,166,[vn s,vn e.1,vn e.2.1,vn e.2.2])::(([(re,47,[vn e.1,vn e.2.1,vn e.2.2]),(dc,164,CZ),(di,164,Dy.set (Aj e) (.slice va vl vc)),(rg,26,q.cells A)]++K_)++(RC++[]))) (by simp)
 refine hC.put hc he hk2 hca hv hS fun vb vm vd H6 O5 hC' hS nE=>?_
 simp only[List.cons_append,List.nil_append,List.append_nil]at hS
 have hS1:=hS
 refine hS.V7 (k:=CK e) hca (by omega) (kk:=fun H7 hS=>?_)
 have n1:re≠dc:=hS.nq 0 1 rfl rfl (by omega)
 refine(show∀K:Prop,K→_∧K from fun K hK=>?_) _ ?_
 ·have r1:∀{o n:Nat}{a b:aa},o +n≤3→gI ⟨2,0,0,0,hM Hz H5,H6⟩ ⟨4,re,o,n,a,b⟩=true:=fun h=>kL (hS0.get 1 rfl) ((hS1.get 0 rfl).fO rfl) h (AM ⟨_,_,_,rfl⟩)
  have r2:∀{n:Nat}{a b:aa},n=1→gI ⟨2,0,0,0,hM Hz H5,H6⟩ ⟨4,dc,CK e,n,a,b⟩=true:=fun h=>kL (hS0.get 2 rfl) ((hS1.get 1 rfl).fO rfl) (by omega) fun v hv=>hC.same v (List.mem_of_mem_drop (List.mem_of_mem_take hv))
  simp only[jC,aA,aB]
  generalize hke:CK e=ke at r2⊢
  rcases nE with e|e<;>rw[e]<;>apply MB (A:=hM Hz H5) (B:=H6) (a:=re) (b:=dc) n1 (by rfl) (by kernel_rfl) (by kernel_rfl) hK<;>repeat' apply And.intro
  all_goals first|exact trivial|(intro h;cases h;done)|exact fun _=>⟨rfl,rfl⟩|exact fun _=>r1 (by omega)|exact fun _=>r2 rfl
 exact kk _ _ K_ O5 _ _ hI' hC' hS
end Go.Proofs.Lv
set_option maxRecDepth 100000
set_option maxHeartbeats 4000000
namespace Go.Proofs.Lv
open Go.Proofs.Lu
open Go.Ae Go.Ae.M
variable{H0 H:aa}{L L' M:List aK}{S:List Nat}{F:Nat→Prop}{A:At}{q:AV}{n s:Nat}{Q P:Nat→Prop}{mk mk':List Bool}{nx nx':List Nat}
theorem La(hw:Wf H)(h:oW F H A q)(ho:A.Ok)(tok:Bool):ak Pg X 38 [q.v A,.bool tok] H (Qe (fun v H'=>∃mk,Bs H.next H' A.ns v mk∧∀s,on mk s↔A.Mk tok s) H):=by
 have hS:=SH.refl hw
 have hbig:=ho.big
 have O3:=ho.few
 refine ce [0,1,2,4,5,6,7,8,10,11,12,13,15,16,18,19,21,30,31,32,37,38,39,88,89,90,115,116,117,157,158,159] ?_;refine tl ?_
 refine hS.box rfl fun H1 rg hS=>?_
 rw[jD]at hS
 refine hS.vW 0 rfl (by show 0 +6≤6;omega) ?_
 refine ak.mono (iX hS.wf q A) ?_
 rintro v H2 ⟨rfl,hx⟩
 have hS:=hS.call hx
 refine hS.mkS (Nat.le_refl _) (by omega) fun H3 di hS=>?_
 rw[gP]at hS
 simp only[PP,Nat.reduceBEq]
 refine hS.ld 1 (o:=0) rfl rfl ?_
 simp only[PP,Nat.reduceBEq]
 refine hS.mkS (Nat.le_refl _) (by omega) fun H4 dc hS=>?_
 rw[gP]at hS
 refine hS.ld 2 (o:=4) rfl rfl ?_
 simp only[PP,Nat.reduceBEq]
 have hS:SH [] H H4 ((dc,164,List.replicate A.nr (.slice none 0 0))::(di,164,List.replicate A.ns (.slice none 0 0))::(rg,26,q.cells A)::([]++[])):=hS
 have ini:∀(ok:Ed→Prop) key n,AL ok key A (Seen A 0 0) (A.pre 0) n (List.replicate n (.slice none 0 0)) []:=fun ok key n=>⟨List.replicate n [],(KD.nil n).wk (fun s e h=>by rcases h with⟨h,_⟩|⟨_,j,h,_⟩<;>omega) (Nat.zero_le _),by simp,by rw[List.map_replicate];exact Az.Oy n⟩
 refine lp7 7 8 10 32 37 38 39 (I:=fun m x7 x8 aW x32 tL x38 x39 H'=>∃i Dy CZ RI RC,x32=vn i∧i +m=A.ns∧AL (At.Ng tok) Aj A (Seen A i 0) (A.pre i) A.ns Dy RI∧AL okC CK A (Seen A i 0) (A.pre i) A.nr CZ RC∧SH [] H H' ((dc,164,CZ)::(di,164,Dy)::(rg,26,q.cells A)::(RI++RC))) ?_ A.ns ⟨0,_,_,[],[],rfl,by omega,ini _ _ _,ini _ _ _,hS⟩
 clear hS hx ini
 rintro m x7 x8 aW x32 tL x38 x39 dI H5 ⟨i,Dy,CZ,RI,RC,rfl,him,hI,hC,hS⟩
 refine tl ?_
 simp only[PP,Nat.reduceBEq]
 refine ae (fun hc=>?_) (fun hc=>?_)
 rotate_left
 ·obtain rfl:i=A.ns:=by omega
  have hpre:=At.CG ho A.ns
  have all:∀s e,e∈A.E s→Seen A A.ns 0 s e:=fun s e he=>.inl ⟨ho.lt he,he⟩
  have hS2:SH [] H H5 ((RI++RC)++[(dc,164,CZ),(di,164,Dy),(rg,26,q.cells A)]):=hS.perm (List.perm_append_comm (l₁:=[_,_,_]))
  have b1:=hI.bk (L:=RC++[(dc,164,CZ),(di,164,Dy),(rg,26,q.cells A)]) (by omega) (hS2.cast (by simp)) (hS.get 1 rfl) (hS.lo _ (List.mem_of_getElem? (i:=1) rfl)).2
  have b2:=hC.bk (L:=[(dc,164,CZ),(di,164,Dy),(rg,26,q.cells A)]) (by omega) (SH.drop (A:=RI) (hS2.cast (by simp))) (hS.get 0 rfl) (hS.lo _ (List.mem_of_getElem? (i:=0) rfl)).2
  have c1:ZL (ab3 A tok) H5 A.ns (some ⟨di,0,none⟩):=by
   obtain⟨vs,g1,g2⟩:=b1
   refine⟨vs,g1,fun t ht=>?_⟩
   obtain⟨b,c,l,g3,g4,⟨g5,g6⟩,g7⟩:=g2 t ht
   exact⟨b,c,l,g3,g4,⟨g5,fun s e he hk hkey=>g6 s e (all s e he) hk hkey⟩,g7⟩
  have c2:ZL (ab4 A) H5 A.nr (some ⟨dc,0,none⟩):=by
   obtain⟨vs,g1,g2⟩:=b2
   refine⟨vs,g1,fun t ht=>?_⟩
   obtain⟨b,c,l,g3,g4,⟨g5,g6⟩,g7⟩:=g2 t ht
   exact⟨b,c,l,g3,g4,⟨fun p hp=>⟨(g5 p hp).1,(g5 p hp).2.2,(g5 p hp).2.1⟩,fun s e he hk hkey=>g6 s e (all s e he) hk hkey⟩,g7⟩
  have hx:=hS.ext
  refine aR.mono (V6 hS.wf (h.ex hx) ho (hS.get 2 rfl) (hS.lo _ (List.mem_of_getElem? (i:=2) rfl)).2 c1 c2) (K9 ?_)
  rintro v H6 ⟨⟨mk,g1,g2⟩,g3⟩
  exact⟨⟨mk,g1.le hx.next,g2⟩,hx.trans g3⟩
 have hi:i<A.ns:=by omega
 refine h.ldE hS.ext hi fun p ea ec hE=>?_
 simp only[PP,Nat.reduceBEq]
 have hpre:=At.CJ ho hi
 have hpl:=At.CG ho (i +1)
 refine lp2 10 39 (I:=fun m aW x39 H'=>∃k Dy CZ RI RC,x39=vn k∧k +m=(A.E i).length∧AL (At.Ng tok) Aj A (Seen A i k) (A.pre i +k) A.ns Dy RI∧AL okC CK A (Seen A i k) (A.pre i +k) A.nr CZ RC∧SH [] H H' ((dc,164,CZ)::(di,164,Dy)::(rg,26,q.cells A)::(RI++RC))) ?_ (A.E i).length ⟨0,Dy,CZ,RI,RC,rfl,by omega,hI,hC,hS⟩
 clear hS hI hC hc
 rintro m' y10 y39 yU H6 ⟨k,Dy,CZ,RI,RC,rfl,hkm,hI,hC,hS⟩
 refine tl ?_
 simp only[PP,Nat.reduceBEq]
 refine ae (fun hc=>?_) (fun hc=>?_)
 rotate_left
 ·obtain rfl:k=(A.E i).length:=by omega
  refine tl ?_
  refine PU.of (au (by omega) (by omega)) ?_
  exact⟨A.ns -(i +1),by omega,_,_,_,_,_,_,_,_,_,rfl,i +1,Dy,CZ,RI,RC,by rw[show((i:Int) +1)=((i +1:Nat):Int) by omega],by omega,hI.wk (fun s e h=>h.all) (by omega),hC.wk (fun s e h=>h.all) (by omega),hS⟩
 have hk:k<(A.E i).length:=by omega
 refine V5 (hE.ex hS.ext) hk fun p=>?_
 have hmem:=List.getElem_mem hk
 have TG:=ho.len i
 have hke:(A.E i)[k]?=some (A.E i)[k]:=List.getElem?_eq_getElem hk
 generalize hee:(A.E i)[k]=e at hke hmem⊢
 refine hS.ns rfl rfl rfl fun H8 re hS Jo=>?_
 have hS:SH [] H H8 ((re,47,[vn e.1,vn e.2.1,vn e.2.2])::(dc,164,CZ)::(di,164,Dy)::(rg,26,q.cells A)::(RI++RC)):=hS
 have cm:At.Ng tok e→∀dI(K:Out→Prop),(∀CL CO K_ O5 oU H',AL (At.Ng tok) Aj A (Seen A i (k +1)) (A.pre i +(k +1)) A.ns CL K_→AL okC CK A (Seen A i (k +1)) (A.pre i +(k +1)) A.nr CO O5→SH [] H H' ((dc,164,CO)::(di,164,CL)::(rg,26,q.cells A)::(K_++O5))→
  K (.norm (dF (q.v A) (.bool tok) (pt rg) (.slice none 0 0) (.slice (some ⟨di,0,none⟩) A.ns A.ns) (.slice (some ⟨dc,0,none⟩) A.nr A.nr) (vn i) (.slice ea (A.E i).length ec) (pt re) top top top top top top top top (.slice q.ea A.ns q.ec) (vn A.ns) (vn i) (.slice ea (A.E i).length ec) (vn (A.E i).length) (vn k) top top top top top top top top top oU H')))→
  aR Pg X (sub gq [1,1,1,0,1,0,0,1,1,0,0,1,1,0,0,1,1,0,0,1,1]) (dF (q.v A) (.bool tok) (pt rg) (.slice none 0 0) (.slice (some ⟨di,0,none⟩) A.ns A.ns) (.slice (some ⟨dc,0,none⟩) A.nr A.nr) (vn i) (.slice ea (A.E i).length ec) (pt re) top top top top top top top top (.slice q.ea A.ns q.ec) (vn A.ns) (vn i) (.slice ea (A.E i).length ec) (vn (A.E i).length) (vn k) top top top top top top top top top dI H8) K:=by
  intro hok dI K kk
  refine V8 (by omega) ho hmem hok hI hC hS fun CL CO K_ O5 oU H' g1 g2 g3=>?_
  exact kk CL CO K_ O5 oU H' (g1.wk (fun s e h=>h.next hke) (Nat.le_refl _)) (g2.wk (fun s e h=>h.next hke) (Nat.le_refl _)) (SH.drop (A:=[_]) g3)
 repeat(first|(simp only[PP,Nat.reduceBEq,aj hS.wf])|(refine hS.aZ ?_))
 refine ae (fun hc1=>?_) (fun hc1=>?_)
 ·refine aC (fun hb=>?_) (fun hb=>?_)
  ·have hno:¬At.Ng tok e:=fun h=>by
    have:=h (by omega)
    subst this;cases hb
   refine PU.of (au (by omega) (by omega)) ?_
   exact⟨(A.E i).length -(k +1),by omega,_,_,_,_,rfl,k +1,Dy,CZ,RI,RC,by rw[show((k:Int) +1)=((k +1:Nat):Int) by omega],by omega,(hI.skip hno).wk (fun s e h=>h.next hke) (Nat.le_refl _),(hC.skip (fun h:e.1=2=>by omega)).wk (fun s e h=>h.next hke) (Nat.le_refl _),SH.drop (A:=[_]) hS⟩
  ·refine cm (fun _=>by cases tok<;>simp_all) _ _ fun CL CO K_ O5 oU H' g1 g2 g3=>?_
   simp only[PP,Nat.reduceBEq]
   refine tl ?_
   refine PU.of (au (by omega) (by omega)) ?_
   exact⟨(A.E i).length -(k +1),by omega,_,_,_,_,rfl,k +1,CL,CO,K_,O5,by rw[show((k:Int) +1)=((k +1:Nat):Int) by omega],by omega,g1,g2,g3⟩
 ·refine cm (fun h=>absurd (by omega) hc1) _ _ fun CL CO K_ O5 oU H' g1 g2 g3=>?_
  simp only[PP,Nat.reduceBEq]
  refine tl ?_
  refine PU.of (au (by omega) (by omega)) ?_
  exact⟨(A.E i).length -(k +1),by omega,_,_,_,_,rfl,k +1,CL,CO,K_,O5,by rw[show((k:Int) +1)=((k +1:Nat):Int) by omega],by omega,g1,g2,g3⟩
end Go.Proofs.Lv
set_option maxRecDepth 100000
set_option maxHeartbeats 4000000
namespace Go.Proofs.Lv
open Go.Proofs.Lu
open Go.Ae Go.Ae.M
variable{H0 H:aa}{L L' M:List aK}{S:List Nat}{F:Nat→Prop}{A:At}{q:AV}{n s:Nat}{Q P:Nat→Prop}{mk mk':List Bool}{nx nx':List Nat}
theorem oW.n'(h:oW F H A q):oW F (hN H) A q:=⟨h.n,h.s,h.p,h.o,h.e⟩
theorem Bs.at{b k c:Nat}{a:Option Addr}{K:Value→Value→aa→Prop}(h:Bs b H n (.slice a n c) mk)(hk:k<n)(kk:∀p t,(t=true↔on mk k)→K p (.bool t) H):PU (q_ 1 (.slice a n c) (vn k)) fun p=>ME (jX none p H) (K p):=by
 obtain⟨a',c',e,hl,hf⟩:=h
 cases e
 obtain⟨t,ht⟩:∃t,mk[k]?=some t:=⟨_,List.getElem?_eq_getElem (by omega)⟩
 refine hf.ix hk (kJ _ ht) fun p=>kk p t ?_
 unfold on
 rw[ht]
 simp
theorem Jg{b:Nat}{v:Value}(hw:Wf H)(h:oW F H A q)(ho:A.Ok)(hm:Bs b H A.ns v mk):ak Pg X 37 [q.v A,v] H (Qe (fun v H'=>∃l,Bs H.next H' A.nr v l∧∀r,r<A.nr→(on l r↔on mk (A.S r))) H):=by
 have hS:=SH.refl hw
 have O3:=ho.few
 obtain⟨ma,mc,rfl,_⟩:=id hm
 refine ce [0,1,2,4,5,6,7,13,14,15] ?_;refine tl ?_
 refine hS.box rfl fun H1 rg hS=>?_
 rw[jD]at hS
 simp only[PP,Nat.reduceBEq]
 refine hS.ld 0 (o:=0) rfl rfl ?_
 simp only[PP,Nat.reduceBEq]
 refine hS.mkS (Nat.le_refl _) (by omega) fun H2 rl hS=>?_
 rw[gP]at hS
 refine hS.ld 1 (o:=1) rfl rfl ?_
 simp only[PP,Nat.reduceBEq]
 have hS:SH [] H H2 [(rl,4,bools (List.replicate A.nr false)),(rg,26,q.cells A)]:=hS.to (by simp)
 refine PE 6 7 15 (I:=fun m x6 x7 bL H'=>∃i l,bL=vn i∧i +m=A.nr∧l.length=A.nr∧SH [] H H' [(rl,4,bools l),(rg,26,q.cells A)]∧∀r,r<i→(on l r↔on mk (A.S r))) ?_ A.nr ⟨0,_,rfl,by omega,by simp,hS,fun r hr=>absurd hr (by omega)⟩
 clear hS
 rintro m x6 x7 bL dI H3 ⟨i,l,rfl,him,hl,hS,hb⟩
 refine tl ?_
 simp only[PP,Nat.reduceBEq]
 refine ae (fun hc=>?_) (fun hc=>?_)
 rotate_left
 ·refine tl ?_
  obtain rfl:i=A.nr:=by omega
  refine rr ?_;exact⟨⟨l,⟨_,_,rfl,hl,fE.one hS (List.mem_cons_self ..) (by simpa using hl) (hS.xA (List.mem_cons_self ..))⟩,hb⟩,hS.ext⟩
 have hi:i<A.nr:=by omega
 refine(h.ex hS.ext).ldS ho hi fun p=>?_
 refine(hm.ex hS.ext).at (ho.s i hi).1 fun p t ht=>?_
 refine hS.Y4 hi (by simpa using(by omega:i<l.length)) (kk:=fun p H4 hS=>?_)
 refine PU.of (au (by omega) (by omega)) ?_
 refine⟨A.nr -(i +1),by omega,_,_,_,_,_,rfl,i +1,l.set i t,by rw[show((i:Int) +1)=((i +1:Nat):Int) by omega],by omega,by rw[List.length_set];exact hl,?_,fun r hr=>?_⟩
 ·have:bools (l.set i t)=(bools l).set i (.bool t):=List.map_set
  rw[this];exact hS
 ·unfold on
  rw[List.getElem?_set]
  by_cases e:i=r
  ·subst e
   rw[if_pos rfl,if_pos (by omega)]
   unfold on at ht
   rw[←ht];simp
  ·rw[if_neg e]
   exact hb r (by omega)
theorem CP(hw:Wf H)(h:oW F H A q)(ho:A.Ok):ak Pg X 12 [q.v A] H (Qe (fun v H'=>∃l,Bs H.next H' A.nr v l∧∀r,r<A.nr→(on l r↔A.Mk false (A.S r))) H):=by
 have hS:=SH.refl hw
 refine ce [0,1,2] ?_;refine tl ?_
 refine hS.box rfl fun H1 rg hS=>?_
 rw[jD]at hS
 refine hS.vW 0 rfl (by show 0 +6≤6;omega) ?_
 refine ak.mono (q8 hS.wf (h.ex hS.ext) ho) ?_
 rintro v H2 ⟨rfl,hx⟩
 have hS:=hS.call hx
 simp only[PP,Nat.reduceBEq]
 refine aC (fun hb=>by cases hb) (fun _=>?_)
 refine hS.YW 0 rfl (by show 0 +6≤6;omega) ?_
 (try simp only[aj hS.wf])
 refine hS.YW 0 rfl (by show 0 +6≤6;omega) ?_
 (try simp only[aj hS.wf])
 refine ak.mono (La (mP H2) (h.ex hS.ext).n' ho false) ?_
 rintro v H3 ⟨⟨mk,hm,hk⟩,hx3⟩
 have k_:=hS.j4 hx3
 have hm':Bs H2.next (hN (hM H2 H3)) A.ns v mk:=hm
 refine ak.mono (Jg (mP (hM H2 H3)) (h.ex k_.ext).n' ho hm') ?_
 rintro w H4 ⟨⟨l,hl,hlr⟩,hx4⟩
 have kg:=k_.j4 hx4
 refine cK (by simp only[aA,az hx3,az hx4];rfl) ?_
 have hge:H.next≤(hM H2 H3).next:=k_.ext.next
 have hl':Bs (hM H2 H3).next (hM (hM H2 H3) H4) A.nr w l:=hl
 refine rr ?_;exact⟨⟨l,hl'.le hge,fun r hr=>(hlr r hr).trans (hk _)⟩,kg.ext⟩
end Go.Proofs.Lv
set_option maxRecDepth 100000
set_option maxHeartbeats 4000000
namespace Go.Proofs.Lv
open Go.Proofs.Lu
open Go.Ae Go.Ae.M
variable{H0 H:aa}{L L' M:List aK}{S:List Nat}{F:Nat→Prop}{A:At}{q:AV}{n s:Nat}{Q P:Nat→Prop}{mk mk':List Bool}{nx nx':List Nat}
theorem _root_.Go.Ae.SH.bSx(hS:SH S H0 H L){e:TypeId}{z:List Value}{es:Nat}{v:Value}{K:Value→aa→Prop}(hz:z.length=es)(hv:kr v=true)(hc:(ay v).length=es)(he:es≤16777216)
 (k:∀H1 r,SH S H0 H1 ((r,e,ay v)::L)→Ext H H1→K (.slice (some ⟨r,0,none⟩) 1 1) H1):ME (Go.Ae.bS e z es 1 [(0,v)] H) K:=
 (SH.refl hS.wf).bS hz hv hc he fun H1 r hO=>k H1 r (SH.frame (M:=[]) (L:=L) hS hO) hO.ext
theorem O6{b re:Nat}{v:Value}{l:List Bool}(h:H.cell re 0=some v)(hr:re<H.next)(hl:Bs b H A.nr v l)(ho:A.Ok)(hlr:∀r,r<A.nr→(on l r↔A.Mk false (A.S r))):Wnt A A.isF H (.func (.func 48) ⟨[]⟩ ⟨[pt re]⟩):=by
 intro H' s e hx hw he
 have hl:=hl.ex hx
 have h:H'.cell re 0=some v:=(jq (hx.obj re hr (by simp)) 0).trans h
 have hr:=Nat.lt_of_lt_of_le hr hx.next
 show ak Pg X 48 [_,pt re] H' _
 have hS:=SH.refl hw
 refine ce [0,1,2,3] ?_;refine tl ?_
 refine hS.box rfl fun H1 rb hS=>?_
 have hS:SH [] H' H1 [(rb,47,[vn e.1,vn e.2.1,vn e.2.2])]:=hS
 repeat(first|(simp only[PP,Nat.reduceBEq,aj hS.wf])|(refine hS.aZ ?_))
 refine ae (fun hc=>?_) (fun hc=>?_)
 ·refine rr ?_;exact⟨⟨true,rfl,fun _=>.inl (by omega),fun _=>rfl⟩,hS.ext⟩
 refine hS.aZ ?_;simp only[PP,Nat.reduceBEq,aj hS.wf]
 refine ae (fun hc2=>?_) (fun hc2=>?_)
 ·have hca:=ho.call he (by omega)
  refine hS.Dg h hr ?_
  refine hS.aZ ?_
  obtain⟨ea,ec,rfl,_⟩:=id hl
  refine(hl.ex hS.ext).at hca fun p t ht=>?_
  refine rr ?_;refine⟨⟨t,rfl,fun h=>.inr ⟨by omega,(hlr _ hca).1 (ht.1 h)⟩,fun h=>?_⟩,hS.ext⟩
  rcases h with h|h
  ·exact absurd (by omega) hc
  ·exact ht.2 ((hlr _ hca).2 h.2)
 ·refine rr ?_;refine⟨⟨false,rfl,fun h=>(by cases h),fun h=>?_⟩,hS.ext⟩
  rcases h with h|h
  ·exact absurd (by omega) hc
  ·exact absurd (by have:=h.1;omega) hc2
def ac9(b:Nat)(H:aa)(v:Value)(p:Nat→Prop):Prop:=∃a c l,v=.slice a l.length c∧fE (b≤·) 3 H a l.length 1 (bH l)∧l.Pairwise (·<·)∧∀t,t∈l↔p t
def PK(mk:List Bool)(i:Nat):List Nat:=(List.range i).filter fun t=>mk[t]?==some true
theorem Jh(mk:List Bool)(i:Nat):PK mk (i +1)=PK mk i++(if mk[i]?==some true then[i]else[]):=by
 unfold PK
 rw[List.range_succ,List.filter_append]
 congr 1
 simp[List.filter_cons]
theorem V9(mk:List Bool)(i:Nat):(PK mk i).length≤i:=by
 unfold PK
 have:=List.length_filter_le (fun t=>mk[t]?==some true) (List.range i)
 rwa [List.length_range]at this
theorem free_spec(hw:Wf H)(h:oW F H A q)(ho:A.Ok)(hs:s<A.ns):ak Pg X 19 [q.v A,vn s] H (Qe (fun v H'=>ac9 H.next H' v (A.V3 s)) H):=by
 have hS:=SH.refl hw
 have hbig:=ho.big
 refine ce [0,1,2,4,5,6,7,8,9,30,31,32] ?_;refine tl ?_
 refine hS.box rfl fun H1 rg hS=>?_
 rw[jD]at hS
 refine hS.vW 0 rfl (by show 0 +6≤6;omega) ?_
 refine ak.mono (q8 hS.wf (h.ex hS.ext) ho) ?_
 rintro v H2 ⟨rfl,hx⟩
 have hS:=hS.call hx
 simp only[PP,Nat.reduceBEq]
 refine aC (fun hb=>by cases hb) (fun _=>?_)
 refine ae (fun hc=>absurd hc (by omega)) (fun _=>?_)
 refine hS.vW 0 rfl (by show 0 +6≤6;omega) ?_
 refine ak.mono (iX hS.wf q A) ?_
 rintro v H3 ⟨rfl,hx⟩
 have hS:=hS.call hx
 simp only[PP,Nat.reduceBEq]
 refine ae (fun hc=>absurd hc (by omega)) (fun _=>?_)
 refine tl ?_
 refine hS.vW 0 rfl (by show 0 +6≤6;omega) ?_
 refine ak.mono (CP hS.wf (h.ex hS.ext) ho) ?_
 rintro v H4 ⟨⟨l,hl,hlr⟩,hx⟩
 have hS:=hS.call hx
 obtain⟨ea,ec,rfl,_⟩:=id hl
 refine hS.ns rfl rfl rfl fun H5 re hS hx5=>?_
 have hS:SH [] H H5 [(re,36,[.slice ea A.nr ec]),(rg,26,q.cells A)]:=hS
 have hl5:=hl.ex hx5
 refine hS.vW 1 rfl (by show 0 +6≤6;omega) ?_
 refine hS.bSx rfl rfl rfl (by omega) fun H6 rx hS hx6=>?_
 have hS:SH [] H H6 [(rx,3,bH [s]),(re,36,[.slice ea A.nr ec]),(rg,26,q.cells A)]:=hS
 have hge:=hS.ext.next
 refine ak.mono (Eu (F:=fun _=>True) (fl:=[s]) (w:=A.isF) hS.wf ((h.ex hS.ext).wk fun _ _=>trivial) ho (fE.one hS (List.mem_cons_self ..) rfl trivial) (by simpa using hs) (by simp) (O6 ((hS.get 1 rfl).cell rfl) (hS.lo _ (List.mem_of_getElem? (i:=1) rfl)).2 (hl5.ex hx6) ho hlr)) ?_
 rintro v H7 ⟨⟨mk,hm,hk⟩,hx⟩
 have hS:=hS.call hx
 have hlen:mk.length=A.ns:=let⟨_,_,_,h,_⟩:=hm;h
 have hfr:∀t,on mk t↔A.V3 s t:=fun t=>by
  rw[hk]
  have:(·∈[s])=(·=s):=by funext x;simp
  rw[this];rfl
 obtain⟨ma,mc,rfl,_⟩:=id hm
 simp only[PP,Nat.reduceBEq]
 have hS0:=hS
 refine Iv 7 8 9 32 (I:=fun m x7 x8 x9 x32 H'=>∃i gb,x32=vn i∧i +m=A.ns∧GB 3 1 x7 (bH (PK mk i)) gb∧SH [] H7 H' (gb++[])) ?_ A.ns ⟨0,[],rfl,by omega,GB.nil _ _,SH.refl hS.wf⟩
 clear hS
 rintro m x7 x8 x9 x32 dI H8 ⟨i,gb,rfl,him,hg,hS⟩
 refine tl ?_
 simp only[PP,Nat.reduceBEq]
 refine ae (fun hc=>?_) (fun hc=>?_)
 rotate_left
 ·refine tl ?_
  obtain rfl:i=A.ns:=by omega
  obtain⟨a,n,c,rfl,hn,hf⟩:=hg.Pz hS
  have hn:(PK mk A.ns).length=n:=by simpa using hn
  subst hn
  refine rr ?_;refine⟨⟨a,c,PK mk A.ns,rfl,hf.le (Nat.le_trans hge hx.next),?_,fun t=>?_⟩,hS0.ext.trans hS.ext⟩
  ·exact List.Pairwise.filter _ List.pairwise_lt_range
  ·rw[←hfr]
   unfold PK on
   rw[List.mem_filter,List.mem_range]
   constructor
   ·intro h;simpa using h.2
   ·intro h
    exact⟨by have:=(List.getElem?_eq_some_iff.1 h).1;omega,by simpa using h⟩
 have hi:i<A.ns:=by omega
 have hol:=V9 mk i
 refine(hm.ex hS.ext).at hi fun p t ht=>?_
 simp only[PP,Nat.reduceBEq]
 refine aC (fun hb=>?_) (fun hb=>?_)
 ·subst hb
  refine hg.push hS (by omega) rfl rfl rfl rfl rfl (by omega) (by simpa using(by omega:(PK mk i).length≤16777216)) fun w v' H9 dD hg' hS=>?_
  refine PU.of (au (by omega) (by omega)) ?_
  refine⟨A.ns -(i +1),by omega,_,_,_,_,_,_,rfl,i +1,dD,by rw[show((i:Int) +1)=((i +1:Nat):Int) by omega],by omega,?_,hS⟩
  have h1:=ht.1 rfl
  unfold on at h1
  rw[Jh,h1]
  have:bH (PK mk i++if(some true==some true)=true then[i]else[])=bH (PK mk i)++ay (vn i):=by simp;rfl
  rw[this];exact hg'
 ·subst hb
  refine PU.of (au (by omega) (by omega)) ?_
  refine⟨A.ns -(i +1),by omega,_,_,_,_,_,_,rfl,i +1,gb,by rw[show((i:Int) +1)=((i +1:Nat):Int) by omega],by omega,?_,hS⟩
  have h1:¬on mk i:=fun h=>by cases ht.2 h
  unfold on at h1
  rw[Jh,if_neg (by simpa using h1),List.append_nil]
  exact hg
theorem O7(hw:Wf H)(h:oW F H A q)(ho:A.Ok):ak Pg X 19 [q.v A,vn A.ns] H (Qe (fun v H'=>v=.slice none 0 0) H):=by
 have hS:=SH.refl hw
 have hbig:=ho.big
 refine ce [0,1,2,4,5,6,7,8,9,30,31,32] ?_;refine tl ?_
 refine hS.box rfl fun H1 rg hS=>?_
 rw[jD]at hS
 refine hS.vW 0 rfl (by show 0 +6≤6;omega) ?_
 refine ak.mono (q8 hS.wf (h.ex hS.ext) ho) ?_
 rintro v H2 ⟨rfl,hx⟩
 have hS:=hS.call hx
 simp only[PP,Nat.reduceBEq]
 refine aC (fun hb=>by cases hb) (fun _=>?_)
 refine ae (fun hc=>absurd hc (by omega)) (fun _=>?_)
 refine hS.vW 0 rfl (by show 0 +6≤6;omega) ?_
 refine ak.mono (iX hS.wf q A) ?_
 rintro v H3 ⟨rfl,hx⟩
 have hS:=hS.call hx
 simp only[PP,Nat.reduceBEq]
 refine ae (fun _=>?_) (fun hc=>absurd (by simp) hc)
 refine rr ?_;exact⟨rfl,hS.ext⟩
end Go.Proofs.Lv
namespace Go.Proofs.Lu
open Go.Ae
namespace At
variable{A A' A2:At}{lw k k2 c c2 s:Nat}{e:Ed}
def fr(A:At):At:={A with ow:=A.ow++[A.nr -1],eg:=A.eg++[[]]}
def pu(A:At)(s:Nat)(e:Ed):At:={A with eg:=A.eg.set s (A.E s++[e])}
def tot(A:At):Nat:=(A.eg.map List.length).sum
def Ya(lw ty:Nat)(e:Ed):Prop:=e.1=0∨(e.1=1∧e.2.1<ty)∨(e.1=2∧e.2.1<lw)
structure Bu(lw:Nat)(A:At):Prop where
 rW:A.eg.length=A.ns
 o:∀s,s<A.ns→A.O s<A.nr
 e:∀s,s<A.ns→∀e∈A.E s,e.2.2<A.ns∧A.O e.2.2=A.O s∧Ya lw A.ty e
structure Gw(A A':At)(k c:Nat):Prop where
 nm:A'.nm=A.nm
 st:A'.st=A.st
 sp:A'.sp=A.sp
 ty:A'.ty=A.ty
 ow:A'.ow=A.ow++List.replicate k (A.nr -1)
 tt:A'.tot=A.tot +c
theorem Gw.refl(A:At):Gw A A 0 0:=⟨rfl,rfl,rfl,rfl,by simp,rfl⟩
theorem Gw.nr(h:Gw A A' k c):A'.nr=A.nr:=congrArg List.length h.nm
theorem Gw.ns(h:Gw A A' k c):A'.ns=A.ns +k:=by
 unfold At.ns;rw[h.ow];simp
theorem Gw.trans(h:Gw A A' k c)(h2:Gw A' A2 k2 c2):Gw A A2 (k +k2) (c +c2):=
 ⟨h2.nm.trans h.nm,h2.st.trans h.st,h2.sp.trans h.sp,h2.ty.trans h.ty,by rw[h2.ow,h.ow,h.nr,List.append_assoc,List.replicate_append_replicate],by rw[h2.tt,h.tt,Nat.add_assoc]⟩
theorem Gw.cast(h:Gw A A' k c)(hk:k=k2)(hc:c=c2):Gw A A' k2 c2:=by subst hk;subst hc;exact h
theorem Gw.O(h:Gw A A' k c)(hs:s<A.ns):A'.O s=A.O s:=by
 unfold At.O
 rw[h.ow,List.getElem?_append_left hs]
def cur(A:At)(s:Nat):Prop:=s<A.ns∧A.O s=A.nr -1
theorem cur.gw(h:A.cur s)(g:Gw A A' k c):A'.cur s:=⟨by rw[g.ns];have:=h.1;omega,by rw[g.O h.1,g.nr];exact h.2⟩
theorem Gw.fr(A:At):Gw A A.fr 1 0:=⟨rfl,rfl,rfl,rfl,rfl,by unfold At.tot At.fr;simp⟩
theorem TU(A:At):A.fr.cur A.ns:=by
 refine⟨by rw[(Gw.fr A).ns];omega,?_⟩
 show(A.ow++[A.nr -1])[A.ow.length]?.getD 0=_
 rw[List.getElem?_append_right (Nat.le_refl _),Nat.sub_self];rfl
theorem ada(hl:A.eg.length=A.ns)(s:Nat):A.fr.E s=A.E s:=by
 show(A.eg++[[]])[s]?.getD []=_
 unfold E
 rcases Nat.lt_or_ge s A.eg.length with h|h
 ·rw[List.getElem?_append_left h]
 ·rw[List.getElem?_append_right h,List.getElem?_eq_none (by omega:A.eg.length≤s)]
  cases s -A.eg.length<;>rfl
theorem Bu.fr(h:Bu lw A)(hp:1≤A.nr):Bu lw A.fr:=by
 have g:=Gw.fr A
 have hns:=g.ns
 refine⟨?_,fun s hs=>?_,fun s hs e he=>?_⟩
 ·show(A.eg++[[]]).length=_
  rw[List.length_append,hns,h.rW];rfl
 ·rcases Nat.lt_or_ge s A.ns with h1|h1
  ·rw[g.O h1,g.nr];exact h.o s h1
  ·obtain rfl:s=A.ns:=by omega
   rw[(TU A).2,g.nr];omega
 ·rw[ada h.rW]at he
  rcases Nat.lt_or_ge s A.ns with h1|h1
  ·obtain⟨a,b,c⟩:=h.e s h1 e he
   exact⟨by omega,by rw[g.O a,g.O h1];exact b,c⟩
  ·rw[Je h.rW (by omega)]at he;cases he
theorem V'{l:List (List Ed)}{s:Nat}{x:List Ed}{e:Ed}(hs:s<l.length)(hx:x=l[s]++[e]):((l.set s x).map List.length).sum=(l.map List.length).sum +1:=by
 induction l generalizing s with
 |nil=>simp at hs
 |cons y l ih=>
  cases s with
  |zero=>
   subst hx
   simp;omega
  |succ s=>
   have:=ih (s:=s) (by simpa using hs) (by simpa using hx)
   simp only[List.set_cons_succ,List.map_cons,List.sum_cons,this];omega
theorem Gw.pu(hl:A.eg.length=A.ns)(hs:s<A.ns)(e:Ed):Gw A (A.pu s e) 0 1:=
 ⟨rfl,rfl,rfl,rfl,by simp[At.pu],by
  have hs':s<A.eg.length:=by omega
  refine V' (e:=e) hs' ?_
  unfold E
  rw[List.getElem?_eq_getElem hs'];rfl⟩
theorem ZN(hl:A.eg.length=A.ns)(hs:s<A.ns)(t:Nat):(A.pu s e).E t=if t=s then A.E s++[e]else A.E t:=by
 show(A.eg.set s (A.E s++[e]))[t]?.getD []=_
 rw[List.getElem?_set]
 by_cases h:s=t
 ·subst h
  rw[if_pos rfl,if_pos (by omega),if_pos rfl];rfl
 ·rw[if_neg h,if_neg (fun e=>h e.symm)];rfl
theorem Bu.pu(h:Bu lw A)(hs:s<A.ns)(h1:e.2.2<A.ns)(h2:A.O e.2.2=A.O s)(h3:Ya lw A.ty e):Bu lw (A.pu s e):=by
 refine⟨?_,h.o,fun t ht e' he=>?_⟩
 ·show(A.eg.set s _).length=_
  rw[List.length_set];exact h.rW
 ·rw[ZN h.rW hs]at he
  split at he
  ·next ht2=>
   subst ht2
   rcases List.mem_append.1 he with he|he
   ·exact h.e t hs e' he
   ·rw[List.mem_singleton]at he
    subst he
    exact⟨h1,h2,h3⟩
  ·exact h.e t ht e' he
theorem Bu.puC(h:Bu lw A)(hs:A.cur s)(h1:A.cur e.2.2)(h3:Ya lw A.ty e):Bu lw (A.pu s e):=h.pu hs.1 h1.1 (h1.2.trans hs.2.symm) h3
def ru(A:At)(nm:ByteArray):At:={A with nm:=A.nm++[nm]}
def se(A:At)(a b:Nat):At:={A with st:=A.st++[a],sp:=A.sp++[b]}
structure Bs'(lw:Nat)(A:At):Prop where
 bu:Bu lw A
 Jp:A.st.length=A.nr
 TN:A.sp.length=A.nr
 s:∀r,r<A.nr→A.S r<A.ns∧A.O (A.S r)=r
 p:∀r,r<A.nr→A.P r<A.ns∧A.O (A.P r)=r
theorem Bu.ru(h:Bu lw A)(nm:ByteArray):Bu lw (A.ru nm):=
 ⟨h.rW,fun s hs=>by
   have:=h.o s hs
   show A.O s<(A.nm++[nm]).length
   rw[List.length_append]
   exact Nat.lt_succ_of_lt this,h.e⟩
theorem Bs'.next(h:Bs' lw A){nm:ByteArray}{a b:Nat}{A1 A2:At}(g:Gw (A.ru nm) A1 k c)(ha:A1.cur a)(hb:A1.cur b)(g2:Gw (A1.se a b) A2 k2 c2)(hB:Bu lw A2):Bs' lw A2:=by
 have e1:A2.nr=A.nr +1:=by rw[g2.nr];show A1.nr=_;rw[g.nr];show(A.nm++[nm]).length=_;rw[List.length_append];rfl
 have e2:A2.st=A.st++[a]:=by rw[g2.st];show A1.st++[a]=_;rw[g.st];rfl
 have e3:A2.sp=A.sp++[b]:=by rw[g2.sp];show A1.sp++[b]=_;rw[g.sp];rfl
 have n1:A1.ns=A.ns +k:=g.ns
 have n2:A2.ns=A1.ns +k2:=g2.ns
 have nr1:A1.nr=A.nr +1:=by rw[g.nr];show(A.nm++[nm]).length=_;rw[List.length_append];rfl
 have oo:∀t,t<A.ns→A2.O t=A.O t:=fun t ht=>by
  rw[g2.O (show t<A1.ns by omega)]
  exact g.O ht
 have oc:∀t,A1.cur t→A2.O t=A.nr:=fun t ht=>by
  rw[g2.O ht.1]
  show A1.O t=_
  rw[ht.2,nr1];omega
 refine⟨hB,by rw[e2,List.length_append,h.Jp,e1];rfl,by rw[e3,List.length_append,h.TN,e1];rfl,fun r hr=>?_,fun r hr=>?_⟩
 ·unfold S
  rw[e2]
  rcases Nat.lt_or_ge r A.nr with h1|h1
  ·rw[List.getElem?_append_left (by rw[h.Jp];exact h1)]
   have:=h.s r h1
   exact⟨Nat.lt_of_lt_of_le this.1 (by omega),(oo _ this.1).trans this.2⟩
  ·obtain rfl:r=A.nr:=by omega
   rw[List.getElem?_append_right (by rw[h.Jp];exact Nat.le_refl _),h.Jp,Nat.sub_self]
   exact⟨by show a<_;have:=ha.1;omega,oc a ha⟩
 ·unfold P
  rw[e3]
  rcases Nat.lt_or_ge r A.nr with h1|h1
  ·rw[List.getElem?_append_left (by rw[h.TN];exact h1)]
   have:=h.p r h1
   exact⟨Nat.lt_of_lt_of_le this.1 (by omega),(oo _ this.1).trans this.2⟩
  ·obtain rfl:r=A.nr:=by omega
   rw[List.getElem?_append_right (by rw[h.TN];exact Nat.le_refl _),h.TN,Nat.sub_self]
   exact⟨by show b<_;have:=hb.1;omega,oc b hb⟩
theorem Bs'.ok(h:Bs' lw A)(hl:A.nr=lw)(hp:1≤A.nr)(hf:A.nr≤1000)(hb:A.ns≤4000)(ht:A.tot≤100000):A.Ok where
 pos:=hp
 Jp:=h.Jp
 TN:=h.TN
 rW:=h.bu.rW
 big:=hb
 few:=hf
 s:=h.s
 p:=h.p
 o:=h.bu.o
 e:=fun s hs e he=>by
  obtain⟨a,b,c⟩:=h.bu.e s hs e he
  refine⟨a,b,?_⟩
  unfold Ya at c
  unfold abZ
  rw[hl];exact c
 tot:=ht
end At
end Go.Proofs.Lu
set_option maxRecDepth 100000
set_option maxHeartbeats 4000000
namespace Go.Proofs.Lu
open Go.Ae Go.Ae.M Go.Proofs.Lv
variable{H0 H:aa}{L M:List aK}{S:List Nat}{F:Nat→Prop}{A:At}
def Bd(ra:Nat)(A:At)(M:List aK):Prop:=∃nv sv pv ov ev evs gn gs gp go ge R,M=(ra,26,[nv,sv,pv,ov,ev,vn A.ty])::(gn++(gs++(gp++(go++(ge++R)))))∧GB 9 1 nv (A.nm.map .string) gn∧GB 3 1 sv (bH A.st) gs∧GB 3 1 pv (bH A.sp) gp∧GB 3 1 ov (bH A.ow) go∧GB 45 1 ev evs ge∧Az 47 3 (A.eg.map yY) evs R
theorem _root_.Go.Ae.GB.ES{ty:TypeId}{v:Value}{cs:List Value}{gb:List aK}(h:GB ty 1 v cs gb):∃a c,v=.slice a cs.length c:=by
 rcases h with⟨rfl,rfl,_⟩|⟨r,n,aQ,rfl,hn,_⟩
 ·exact⟨none,0,rfl⟩
 ·obtain rfl:n=cs.length:=by omega
  exact⟨_,_,rfl⟩
theorem Lb{ra:Nat}(hB:Bd ra A M)(hS:SH S H0 H (M++L))(hp:1≤A.nr)(hn:A.nr≤1000)(hs:A.ns≤100000)(hl:A.eg.length=A.ns):ak Pg X 118 [pr ra] H fun v H'=>v=vn A.ns∧∃M',Bd ra A.fr M'∧SH S H0 H' (M'++L):=by
 obtain⟨nv,sv,pv,ov,ev,evs,gn,gs,gp,go,ge,R,rfl,hgn,hgs,UI,hgo,hge,hR⟩:=hB
 have hS:=hS.cast (L':=(ra,26,[nv,sv,pv,ov,ev,vn A.ty])::(gn++(gs++(gp++(go++(ge++(R++L))))))) (by simp)
 have hev:evs.length=A.ns:=by rw[←hR.len,List.length_map,hl]
 refine ce [0,1] ?_;refine tl ?_
 simp only[PP,Nat.reduceBEq]
 refine hS.ld 0 (o:=3) rfl rfl ?_
 refine hS.ld 0 (o:=0) rfl rfl ?_
 obtain⟨na,nc,rfl⟩:=hgn.ES
 simp only[PP,Nat.reduceBEq]
 rw[List.length_map]
 refine PU.of (ax (by have:A.nr=A.nm.length:=rfl;omega) (by have:A.nr=A.nm.length:=rfl;omega)) ?_
 rw[show((A.nm.length:Int) -1)=((A.nr -1:Nat):Int) by have:A.nr=A.nm.length:=rfl;omega]
 have hS:=hS.perm (L':=go++((ra,26,[.slice na (A.nm.map Value.string).length nc,sv,pv,ov,ev,vn A.ty])::(gn++(gs++(gp++(ge++(R++L))))))) (by
  have:=eY ((ra,26,[.slice na (A.nm.map Value.string).length nc,sv,pv,ov,ev,vn A.ty])::(gn++(gs++gp))) go (ge++(R++L))
  simpa using this)
 refine hgo.push hS (by omega) rfl rfl rfl rfl rfl (by omega) (by simpa using(by unfold At.ns at hs;omega:A.ow.length≤16777216)) fun w v1 H1 go' hgo' hS=>?_
 have hS:=hS.perm (L':=(ra,26,[.slice na (A.nm.map Value.string).length nc,sv,pv,ov,ev,vn A.ty])::(go'++(gn++(gs++(gp++(ge++(R++L))))))) List.perm_middle
 obtain⟨oa,oc,rfl⟩:=hgo'.ES
 refine hS.st 0 rfl rfl (by show 3 +1≤6;omega) rfl fun H2 hS=>?_
 have hS:=hS.to (cs':=[.slice na (A.nm.map Value.string).length nc,sv,pv,.slice oa (bH A.ow++ay (vn (A.nr -1))).length oc,ev,vn A.ty]) rfl
 refine hS.ld 0 (o:=4) rfl rfl ?_
 have hS:=hS.perm (L':=ge++((ra,26,[.slice na (A.nm.map Value.string).length nc,sv,pv,.slice oa (bH A.ow++ay (vn (A.nr -1))).length oc,ev,vn A.ty])::(go'++(gn++(gs++(gp++(R++L))))))) (by
  have:=eY ((ra,26,[.slice na (A.nm.map Value.string).length nc,sv,pv,.slice oa (bH A.ow++ay (vn (A.nr -1))).length oc,ev,vn A.ty])::(go'++(gn++(gs++gp)))) ge (R++L)
  simpa using this)
 refine hge.push hS (by omega) rfl rfl rfl rfl rfl (by omega) (by omega) fun w v2 H3 ge' hge' hS=>?_
 have hS:=hS.perm (L':=(ra,26,[.slice na (A.nm.map Value.string).length nc,sv,pv,.slice oa (bH A.ow++ay (vn (A.nr -1))).length oc,ev,vn A.ty])::(ge'++(go'++(gn++(gs++(gp++(R++L))))))) List.perm_middle
 obtain⟨ea,ec,rfl⟩:=hge'.ES
 refine hS.st 0 rfl rfl (by show 4 +1≤6;omega) rfl fun H4 hS=>?_
 have hS:=hS.to (cs':=[.slice na (A.nm.map Value.string).length nc,sv,pv,.slice oa (bH A.ow++ay (vn (A.nr -1))).length oc,.slice ea (evs++ay (.slice none 0 0)).length ec,vn A.ty]) rfl
 refine hS.ld 0 (o:=3) rfl rfl ?_
 simp only[PP,Nat.reduceBEq]
 have ol:(bH A.ow++ay (vn (A.nr -1))).length=A.ns +1:=by rw[List.length_append,List.length_map];rfl
 rw[ol]at hS⊢
 refine PU.of (ax (by omega) (by omega)) ?_
 rw[show(((A.ns +1:Nat):Int) -1)=(A.ns:Int) by omega]
 refine rr ?_;refine⟨rfl,(ra,26,[.slice na (A.nm.map Value.string).length nc,sv,pv,.slice oa (A.ns +1) oc,.slice ea (evs++ay (.slice none 0 0)).length ec,vn A.ty])::(gn++(gs++(gp++(go'++(ge'++R))))),⟨_,_,_,_,_,evs++[.slice none 0 0],gn,gs,gp,go',ge',R,rfl,hgn,hgs,UI,?_,hge',?_⟩,?_⟩
 ·have:bH (A.fr).ow=bH A.ow++ay (vn (A.nr -1)):=by show bH (A.ow++[A.nr -1])=_;simp;rfl
  rw[this,←ol];exact hgo'
 ·have:(A.fr).eg.map yY=A.eg.map yY++[[]]:=by show(A.eg++[[]]).map yY=_;simp;rfl
  rw[this]
  have:=hR.snoc (GB.nil 47 3)
  rwa [List.append_nil]at this
 ·refine hS.perm ?_
  have p1:=eY ge' go' ((gn++(gs++gp))++(R++L))
  have p2:=eY (go'++ge') (gn++(gs++gp)) (R++L)
  simp only[List.append_assoc]at p1 p2
  have p3:=p1.trans p2
  simp only[List.cons_append,List.append_assoc]
  rw[ol]at*
  exact p3.cons _
end Go.Proofs.Lu
set_option maxRecDepth 100000
set_option maxHeartbeats 4000000
namespace Go.Proofs.Lu
open Go.Ae Go.Ae.M Go.Proofs.Lv
variable{H0 H:aa}{L M:List aK}{S:List Nat}{F:Nat→Prop}{A:At}
theorem TV:∀{l:List Nat}{x:Nat},x∈l→x≤l.sum
 |y::l,x,h=>by
  rw[List.sum_cons]
  rcases List.mem_cons.1 h with rfl|h
  ·omega
  ·have:=TV h
   omega
theorem O8{ra fr:Nat}{e:Ed}(hB:Bd ra A M)(hS:SH S H0 H (M++L))(hf:fr<A.ns)(hl:A.eg.length=A.ns)(ht:A.tot≤1000000):ak Pg X 119 [vn fr,.agg ⟨[vn e.1,vn e.2.1,vn e.2.2]⟩,pr ra] H fun v H'=>∃M',Bd ra (A.pu fr e) M'∧SH S H0 H' (M'++L):=by
 obtain⟨nv,sv,pv,ov,ev,evs,gn,gs,gp,go,ge,R,rfl,hgn,hgs,UI,hgo,hge,hR⟩:=hB
 have hev:evs.length=A.ns:=by rw[←hR.len,List.length_map,hl]
 rcases hge with⟨_,h0,_⟩|⟨rE,n,aQ,rfl,hn,rfl⟩
 ·rw[h0]at hev;simp at hev;omega
 obtain rfl:n=A.ns:=by omega
 obtain⟨A',gb,B,rfl,hgb,hput⟩:=hR.at fr (by omega)
 have hE:(A.eg.map yY)[fr]?.getD []=yY (A.E fr):=by
  unfold At.E
  rw[List.getElem?_map,List.getElem?_eq_getElem (show fr<A.eg.length by omega)];rfl
 rw[hE]at hgb
 have hEl:(A.E fr).length≤1000000:=by
  have:(A.E fr).length≤A.tot:=by
   unfold At.E At.tot
   rw[List.getElem?_eq_getElem (show fr<A.eg.length by omega)]
   exact TV (List.mem_map.2 ⟨_,List.getElem_mem _,rfl⟩)
  omega
 have hv0:(evs++aQ)[fr]?=some evs[fr]:=by rw[List.getElem?_append_left (by omega)];exact List.getElem?_eq_getElem (by omega)
 have hS:=hS.perm (L':=(ra,26,[nv,sv,pv,ov,.slice (some ⟨rE,0,none⟩) A.ns (aT 1),vn A.ty])::(rE,45,evs++aQ)::(gb++((gn++(gs++(gp++go)))++(A'++(B++L))))) (by
  have p1:=eY (gn++(gs++(gp++go))) [(rE,45,evs++aQ)] (A'++(gb++(B++L)))
  have p2:=eY ((gn++(gs++(gp++go)))++A') gb (B++L)
  simp only[List.append_assoc,List.cons_append,List.nil_append]at p1 p2⊢
  exact(p1.trans (p2.cons _)).cons _)
 refine ce [0,1,2,4] ?_;refine tl ?_
 refine hS.box rfl fun H1 re hS=>?_
 have hS:SH S H0 H1 ((re,47,[vn e.1,vn e.2.1,vn e.2.2])::(ra,26,[nv,sv,pv,ov,.slice (some ⟨rE,0,none⟩) A.ns (aT 1),vn A.ty])::(rE,45,evs++aQ)::(gb++((gn++(gs++(gp++go)))++(A'++(B++L))))):=hS
 repeat(first|(simp only[PP,Nat.reduceBEq,aj hS.wf])|(refine hS.jf ?_))
 refine hS.Dx hf hv0 ?_
 repeat(first|(simp only[PP,Nat.reduceBEq,aj hS.wf])|(refine hS.og ?_))
 refine hS.Vw rfl rfl rfl (by omega) fun H2 rx hS jC=>?_
 have hS0:=hS
 have hS:=(hS.to (cs':=[vn e.1,vn e.2.1,vn e.2.2]) rfl).perm (L':=(rx,47,[vn e.1,vn e.2.1,vn e.2.2])::(gb++([(re,47,[vn e.1,vn e.2.1,vn e.2.2]),(ra,26,[nv,sv,pv,ov,.slice (some ⟨rE,0,none⟩) A.ns (aT 1),vn A.ty]),(rE,45,evs++aQ)]++((gn++(gs++(gp++go)))++(A'++(B++L)))))) ((eY [_,_,_] gb _).cons _)
 refine hgb.Ie hS (by omega) rfl rfl (by rw[F5];omega) fun v' H3 dD hgb' hS _ _ nE=>?_
 have hS:=hS.perm (eY dD [_,_,_] _)
 simp only[List.cons_append,List.nil_append]at hS
 have hS1:=hS
 obtain⟨va,vl,vc,rfl⟩:=hgb'.sl
 refine hS.V7 hf (by rw[List.length_append];omega) (kk:=fun H4 hS=>?_)
 have n1:re≠ra:=hS.nq 0 1 rfl rfl (by omega)
 have n2:re≠rE:=hS.nq 0 2 rfl rfl (by omega)
 have n3:ra≠rE:=hS.nq 1 2 rfl rfl (by omega)
 refine(show∀K:Prop,K→_∧K from fun K hK=>?_) _ ?_
 ·have r1:∀{o n:Nat}{a b:aa},o +n≤3→gI ⟨2,0,0,0,hM H1 H2,H3⟩ ⟨4,re,o,n,a,b⟩=true:=fun h=>kL (hS0.get 1 rfl) ((hS1.get 0 rfl).fO rfl) h (AM ⟨_,_,_,rfl⟩)
  have r2:∀{a b:aa},gI ⟨2,0,0,0,hM H1 H2,H3⟩ ⟨4,ra,4,1,a,b⟩=true:=fun{a b}=>kL (hS0.get 2 rfl) ((hS1.get 1 rfl).fO rfl) (by show 4 +1≤6;omega) (by
   intro v hv
   have hv:v∈[Value.slice (some ⟨rE,0,none⟩) A.ns (aT 1)]:=hv
   rw[List.mem_singleton]at hv
   subst hv
   exact jM _ _ _ fun x h=>by cases h;rfl)
  have r3:∀{a b:aa},gI ⟨2,0,0,0,hM H1 H2,H3⟩ ⟨4,rE,fr,1,a,b⟩=true:=fun{a b}=>kL (hS0.get 3 rfl) ((hS1.get 2 rfl).fO rfl) (by rw[List.length_append];omega) (by
   intro v hv
   have:v=evs[fr]:=by
    have h1:((evs++aQ).drop fr).take 1=[evs[fr]]:=by
     rw[List.drop_eq_getElem_cons (by rw[List.length_append];omega),List.take_succ_cons,List.take_zero,List.getElem_append_left (by omega)]
    rw[h1,List.mem_singleton]at hv
    exact hv
   subst this
   exact xZ hR _ (List.getElem_mem _))
  simp only[jC,aA,aB]
  rcases nE with e|e<;>rw[e]<;>apply VC (A:=hM H1 H2) (B:=H3) (a:=re) (b:=ra) (c:=rE) n1 n2 n3 (by rfl) (by kernel_rfl) (by kernel_rfl) hK<;>repeat' apply And.intro
  all_goals first|exact trivial|(intro h;cases h;done)|exact fun _=>⟨rfl,rfl⟩|exact fun _=>r1 (by omega)|exact fun _=>r2|exact fun _=>r3
 refine rn ?_;refine⟨(ra,26,[nv,sv,pv,ov,.slice (some ⟨rE,0,none⟩) A.ns (aT 1),vn A.ty])::(gn++(gs++(gp++(go++([(rE,45,evs.set fr (.slice va vl vc)++aQ)]++(A'++(dD++B))))))),⟨nv,sv,pv,ov,_,evs.set fr (.slice va vl vc),gn,gs,gp,go,_,A'++(dD++B),rfl,hgn,hgs,UI,hgo,.inr ⟨rE,A.ns,aQ,rfl,by rw[List.length_set];omega,rfl⟩,?_⟩,?_⟩
 ·have:=hput (.slice va vl vc) (yY (A.E fr++[e])) dD (by rw[Ni];exact hgb')
  have e2:(A.pu fr e).eg.map yY=(A.eg.map yY).set fr (yY (A.E fr++[e])):=List.map_set
  rw[e2];exact this
 ·have hS:=SH.drop (A:=[_]) hS
  rw[List.set_append_left _ _ (by omega)]at hS
  refine hS.perm (List.Perm.symm ?_)
  have p1:=eY (gn++(gs++(gp++go))) [(rE,45,evs.set fr (.slice va vl vc)++aQ)] (A'++(dD++(B++L)))
  have p2:=eY ((gn++(gs++(gp++go)))++A') dD (B++L)
  simp only[List.append_assoc,List.cons_append,List.nil_append]at p1 p2⊢
  exact(p1.trans (p2.cons _)).cons _
theorem O9{ra:Nat}(hB:Bd ra A M)(hS:SH S H0 H (M++L))(hp:1≤A.nr)(hn:A.nr≤1000)(hs:A.ns≤100000)(hl:A.eg.length=A.ns):ak Pg X 118 [pr ra] H fun v H'=>v=vn A.ns∧∃M',Bd ra A.fr M'∧SH (M.map (·.1)) H H' M':=by
 refine ak.mono (Lb (L:=[]) hB ((SH.own hS).cast (List.append_nil M).symm) hp hn hs hl) ?_
 rintro v H' ⟨rfl,M',h1,h2⟩
 rw[List.append_nil]at h2
 exact⟨rfl,M',h1,h2⟩
theorem F_{ra fr:Nat}{e:Ed}(hB:Bd ra A M)(hS:SH S H0 H (M++L))(hf:fr<A.ns)(hl:A.eg.length=A.ns)(ht:A.tot≤1000000):ak Pg X 119 [vn fr,.agg ⟨[vn e.1,vn e.2.1,vn e.2.2]⟩,pr ra] H fun v H'=>∃M',Bd ra (A.pu fr e) M'∧SH (M.map (·.1)) H H' M':=by
 refine ak.mono (O8 (L:=[]) hB ((SH.own hS).cast (List.append_nil M).symm) hf hl ht) ?_
 rintro v H' ⟨M',h1,h2⟩
 rw[List.append_nil]at h2
 exact⟨M',h1,h2⟩
end Go.Proofs.Lu
set_option maxRecDepth 100000
set_option maxHeartbeats 4000000
namespace Go.Proofs.Lu
open Go.Ae Go.Ae.M Go.Proofs.Lv
variable{H0 H:aa}{L M:List aK}{S:List Nat}{K:Nat→Prop}{A:At}
structure WD where
 g:Nat
 s:Nat
 w:Nat
 f:Nat
 fe:Nat
 lo:Nat
 p:Nat
 l:Nat
 ra:Nat
 na:Option Addr
 nc:Nat
 nn:Nat
 rs:Nat
 rl:Nat
 bW:List Value
 lcs:List Value
 ws:List Nat
 kd:Nat→Int
 zs:Nat→List Nat
 tn:Nat
 lw:Nat
abbrev WD.ps(d:WD):List Value:=[pr d.g,pr d.s,pr d.w,pr d.f,pr d.fe,pr d.lo,pr d.p,pr d.l]
abbrev WD.wv(d:WD):Value:=.func (.func 160) ⟨[]⟩ ⟨d.ps⟩
abbrev WD.fev(d:WD):Value:=.func (.func 158) ⟨[]⟩ ⟨[pr d.p]⟩
abbrev WD.lov(d:WD):Value:=.func (.func 159) ⟨[]⟩ ⟨[pr d.f,pr d.fe,pr d.w]⟩
abbrev WD.fv(d:WD):Value:=.func (.func 118) ⟨[]⟩ ⟨[pr d.ra]⟩
abbrev WD.pv(d:WD):Value:=.func (.func 119) ⟨[]⟩ ⟨[pr d.ra]⟩
structure WE(K:Nat→Prop)(d:WD)(H:aa):Prop where
 hK:∀r,K r→r<H.next
 g:K d.g∧H.cell d.g 1=some (.slice d.na d.nn d.nc)
 s:K d.s∧H.cell d.s 0=some (.slice (some ⟨d.rs,0,none⟩) d.nn d.nn)
 w:K d.w∧H.cell d.w 0=some d.wv
 f:K d.f∧H.cell d.f 0=some d.fv
 fe:K d.fe∧H.cell d.fe 0=some d.fev
 lo:K d.lo∧H.cell d.lo 0=some d.lov
 p:K d.p∧H.cell d.p 0=some d.pv
 l:K d.l∧H.cell d.l 0=some (.slice (some ⟨d.rl,0,none⟩) d.nn d.nn)
 nd:fE K 145 H d.na d.nn 5 d.bW
 kid:Nc K H d.nn d.bW d.kd d.zs
 st:fE K 3 H (some ⟨d.rs,0,none⟩) d.nn 1 (bH d.ws)
 lf:fE K 47 H (some ⟨d.rl,0,none⟩) d.nn 3 d.lcs
variable{d:WD}
theorem WE.stay{H':aa}(h:WE K d H)(hx:kS S H H')(hS:∀r∈S,¬K r):WE K d H':=by
 have c:∀{r o v},K r∧H.cell r o=some v→K r∧H'.cell r o=some v:=fun{r o v}⟨h1,h2⟩=>⟨h1,(jq (hx.obj r (h.hK r h1) fun hr=>hS r hr h1) o).trans h2⟩
 exact⟨fun r hr=>Nat.lt_of_lt_of_le (h.hK r hr) hx.next,c h.g,c h.s,c h.w,c h.f,c h.fe,c h.lo,c h.p,c h.l,h.nd.stay hx fun q hq=>.inl (hS q hq),fun i hi=>let⟨a,c,t,xa,xn,xc,at',h1,h2,h3⟩:=h.kid i hi;⟨a,c,t,xa,xn,xc,at',h1,h2.stay hx fun q hq=>.inl (hS q hq),h3⟩,h.st.stay hx fun q hq=>.inl (hS q hq),h.lf.stay hx fun q hq=>.inl (hS q hq)⟩
theorem WE.n(h:WE K d H):WE K d (hN H):=⟨h.hK,h.g,h.s,h.w,h.f,h.fe,h.lo,h.p,h.l,h.nd,h.kid,h.st,h.lf⟩
structure RY(K:Nat→Prop)(d:WD)(S:List Nat)(H0 H:aa)(M L:List aK)(A:At):Prop where
 we:WE K d H
 nk:∀r∈M.map (·.1),¬K r
 bd:Bd d.ra A M
 sh:SH S H0 H (M++L)
 bu:At.Bu d.lw A
 ty:A.ty=d.tn
 pos:1≤A.nr
 few:A.nr≤1000
variable{A':At}{k c:Nat}{H':aa}{M':List aK}
theorem RY.step(h:RY K d S H0 H M L A)(hB:Bd d.ra A' M')(hS:SH (M.map (·.1)) H H' M')(g:At.Gw A A' k c)(hu:At.Bu d.lw A'):RY K d S H0 H' M' L A':=
 ⟨h.we.stay hS.ext h.nk,fun r hr hk=>by
   obtain⟨e,he,rfl⟩:=List.mem_map.1 hr
   rcases(hS.lo e he).1 with h1|h1
   ·exact h.nk _ h1 hk
   ·have:=h.we.hK _ hk;omega,hB,SH.frame h.sh hS,hu,g.ty.trans h.ty,by rw[g.nr];exact h.pos,by rw[g.nr];exact h.few⟩
theorem RY.TW(h:RY K d S H0 H M L A)(hB:Bd d.ra A' M')(hS:SH (M.map (·.1)) (hN H) H' M')(g:At.Gw A A' k c)(hu:At.Bu d.lw A'):RY K d S H0 (hM H H') M' L A':=
 ⟨h.we.stay hS.ext.draw h.nk,fun r hr hk=>by
   obtain⟨e,he,rfl⟩:=List.mem_map.1 hr
   rcases(hS.lo e he).1 with h1|h1
   ·exact h.nk _ h1 hk
   ·have h2:=h.we.hK _ hk
    have h1:H.next≤e.1:=h1
    omega,hB,SH.RP h.sh hS,hu,g.ty.trans h.ty,by rw[g.nr];exact h.pos,by rw[g.nr];exact h.few⟩
section steps
variable{Kp:Value→aa→Prop}{a b:Nat}
theorem RY.fresh(h:RY K d S H0 H M L A)(hs:A.ns≤100000)(kk:∀H' M' A',RY K d S H0 H' M' L A'→At.Gw A A' 1 0→A'.cur A.ns→Kp (vn A.ns) H'):fq Pg X (CW d.fv) [] H Kp:=by
 show ak Pg X 118 [pr d.ra] H Kp
 refine ak.mono (O9 h.bd h.sh h.pos h.few hs h.bu.rW) ?_
 rintro v H' ⟨rfl,M',h1,h2⟩
 exact kk H' M' _ (h.step h1 h2 (At.Gw.fr A) (h.bu.fr h.pos)) (At.Gw.fr A) (At.TU A)
theorem CQ(hW:WE K d H)(hB:Bd d.ra A M)(hS:SH S H0 H (M++L))(ha:a<A.ns)(hl:A.eg.length=A.ns)(ht:A.tot≤1000000):ak Pg X 158 [vn a,vn b,pr d.p] H fun v H'=>∃M',Bd d.ra (A.pu a (0,0,b)) M'∧SH (M.map (·.1)) H H' M':=by
 refine ce [0,1,2] ?_;refine tl ?_
 refine ME.ld hW.p.2 ?_
 refine PU.b3 rfl ?_
 show ak Pg X 119 [vn a,_,pr d.ra] H _
 refine ak.mono (F_ (e:=(0,0,b)) hB hS ha hl ht) ?_
 rintro v H' h
 refine rn ?_;exact h
theorem ZO(lw ty b:Nat):At.Ya lw ty (0,0,b):=.inl rfl
theorem RY.free(h:RY K d S H0 H M L A)(ha:A.cur a)(hb:A.cur b)(ht:A.tot≤1000000)(kk:∀v H' M' A',RY K d S H0 H' M' L A'→At.Gw A A' 0 1→Kp v H'):fq Pg X (CW d.fev) [vn a,vn b] H Kp:=by
 show ak Pg X 158 [vn a,vn b,pr d.p] H Kp
 refine ak.mono (CQ h.we h.bd h.sh ha.1 h.bu.rW ht) ?_
 rintro v H' ⟨M',h1,h2⟩
 exact kk v H' M' _ (h.step h1 h2 (At.Gw.pu h.bu.rW ha.1 _) (h.bu.puC (e:=(0,0,b)) ha hb (ZO ..))) (At.Gw.pu h.bu.rW ha.1 _)
theorem RY.Yb(h:RY K d S H0 H M L A)(ha:A.cur a)(hb:A.cur b)(ht:A.tot≤1000000)(kk:∀v H1 M' A',RY K d S H0 (hM H H1) M' L A'→At.Gw A A' 0 1→kS (M.map (·.1)) (hN H) H1→Kp v H1):fq Pg X (CW d.fev) [vn a,vn b] (hN H) Kp:=by
 show ak Pg X 158 [vn a,vn b,pr d.p] (hN H) Kp
 refine ak.mono (CQ h.we.n h.bd h.sh.o8 ha.1 h.bu.rW ht) ?_
 rintro v H' ⟨M',h1,h2⟩
 exact kk v H' M' _ (h.TW h1 h2 (At.Gw.pu h.bu.rW ha.1 _) (h.bu.puC (e:=(0,0,b)) ha hb (ZO ..))) (At.Gw.pu h.bu.rW ha.1 _) h2.ext
theorem RY.adb{e:Ed}(h:RY K d S H0 H M L A)(ha:A.cur a)(hb:A.cur e.2.2)(he:At.Ya d.lw A.ty e)(ht:A.tot≤1000000)(kk:∀v H1 M' A',RY K d S H0 (hM H H1) M' L A'→At.Gw A A' 0 1→kS (M.map (·.1)) (hN H) H1→Kp v H1):fq Pg X (CW d.pv) [vn a,.agg ⟨[vn e.1,vn e.2.1,vn e.2.2]⟩] (hN H) Kp:=by
 show ak Pg X 119 [vn a,_,pr d.ra] (hN H) Kp
 refine ak.mono (F_ (e:=e) h.bd h.sh.o8 ha.1 h.bu.rW ht) ?_
 rintro v H' ⟨M',h1,h2⟩
 exact kk v H' M' _ (h.TW h1 h2 (At.Gw.pu h.bu.rW ha.1 _) (h.bu.puC ha hb he)) (At.Gw.pu h.bu.rW ha.1 _) h2.ext
def ZP(d:WD)(i:Nat)(A:At)(M:List aK)(H:aa)(v:Value)(H':aa):Prop:=∃A' M' to c,v=vn to∧Bd d.ra A' M'∧SH (M.map (·.1)) H H' M'∧At.Gw A A' (W d.ws i) c∧c≤2*W d.ws i∧At.Bu d.lw A'∧A'.cur to
def zW(K:Nat→Prop)(d:WD)(i:Nat):Prop:=∀{S:List Nat}{H0 H:aa}{M L:List aK}{A:At}{fr:Nat},RY K d S H0 H M L A→A.ns +W d.ws i≤4000→A.tot +2*W d.ws i≤20000→A.cur fr→ak Pg X 160 (vn i::vn fr::d.ps) H (ZP d i A M H)
theorem RY.way{i fr:Nat}(hw:zW K d i)(h:RY K d S H0 H M L A)(h1:A.ns +W d.ws i≤4000)(h2:A.tot +2*W d.ws i≤20000)(hf:A.cur fr)(kk:∀to H' M' A' c,RY K d S H0 H' M' L A'→At.Gw A A' (W d.ws i) c→c≤2*W d.ws i→A'.cur to→Kp (vn to) H'):fq Pg X (CW d.wv) [vn i,vn fr] H Kp:=by
 show ak Pg X 160 (vn i::vn fr::d.ps) H Kp
 refine ak.mono (hw h h1 h2 hf) ?_
 rintro v H' ⟨A',M',to,c,rfl,g1,g2,g3,g4,g5,g6⟩
 exact kk to H' M' A' c (h.step g1 g2 g3 g5) g3 g4 g6
theorem RY.n(h:RY K d S H0 H M L A):RY K d S (hN H0) (hN H) M L A:=⟨h.we.n,h.nk,h.bd,h.sh.o8,h.bu,h.ty,h.pos,h.few⟩
theorem RY.ZQ{i fr:Nat}(hw:zW K d i)(h:RY K d S H0 H M L A)(h1:A.ns +W d.ws i≤4000)(h2:A.tot +2*W d.ws i≤20000)(hf:A.cur fr)(kk:∀to H1 M' A' c,RY K d S H0 (hM H H1) M' L A'→At.Gw A A' (W d.ws i) c→c≤2*W d.ws i→A'.cur to→kS (M.map (·.1)) (hN H) H1→Kp (vn to) H1):fq Pg X (CW d.wv) [vn i,vn fr] (hN H) Kp:=by
 show ak Pg X 160 (vn i::vn fr::d.ps) (hN H) Kp
 refine ak.mono (hw h.n h1 h2 hf) ?_
 rintro v H' ⟨A',M',to,c,rfl,g1,g2,g3,g4,g5,g6⟩
 exact kk to H' M' A' c (h.TW g1 g2 g3 g5) g3 g4 g6 g2.ext
end steps
end Go.Proofs.Lu
