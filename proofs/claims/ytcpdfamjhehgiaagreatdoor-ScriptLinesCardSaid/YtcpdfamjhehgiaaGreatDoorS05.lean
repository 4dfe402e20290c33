/-
  Part 05 of the proof. No condition.
-/
import Derived.Test.YtcpdfamjhehgiaaGreatDoorS04
set_option linter.unusedVariables false
set_option linter.unusedSimpArgs false
set_option maxRecDepth 100000
set_option maxHeartbeats 8000000
noncomputable section
namespace Go.Ae
def kN(g:Nat→Nat)(c:Cl):Cl:=⟨c.k,g c.r,c.off,c.n,c.a,c.b⟩
def zQ(m:Nat)(c:Cl):Bool:=au (Nat.beq c.k 3||Nat.beq c.k 4) (Nat.ble 1 c.r&&Nat.ble c.r m) true
def kill(c:Cl):Cl:=au (Nat.beq c.k 2) ⟨2,0,0,0,hh0,hh0⟩ c
theorem JX{g:Nat→Nat}{x y:Cl}(h:g x.r=g y.r→x.r=y.r):kC (kN g x) (kN g y)=kC x y:=by
 unfold kC kN
 have:Nat.beq (g x.r) (g y.r)=Nat.beq x.r y.r:=by
  rw[Bool.eq_iff_iff,Nat.beq_eq,Nat.beq_eq]
  exact⟨h,fun e=>by rw[e]⟩
 simp only[this]
theorem AP{a b:ag}{l:Cl}(ha:a=hh0)(hn:l.n≠0):uK ⟨2,0,0,0,a,b⟩ l=false:=by
 subst ha
 unfold uK sameAt
 show iO (ah (ag.read hh0 l.r l.off l.n) _)=false
 obtain⟨k,hk⟩:=Nat.exists_eq_succ_of_ne_zero hn
 rw[hk]
 rfl
theorem Ie{m:Nat}{x:Cl}(h:zQ m x=true)(hk:x.k=3∨x.k=4):1≤x.r∧x.r≤m:=by
 unfold zQ at h
 have:(Nat.beq x.k 3||Nat.beq x.k 4)=true:=by
  rcases hk with e|e<;>rw[e]<;>rfl
 rw[this]at h
 replace h:(Nat.ble 1 x.r&&Nat.ble x.r m)=true:=h
 rw[Bool.and_eq_true]at h
 exact⟨Nat.le_of_ble_eq_true h.1,Nat.le_of_ble_eq_true h.2⟩
theorem zR{a b:Nat}(h:a≠b):Nat.beq a b=false:=by rw[←Bool.not_eq_true];exact fun e=>h (Nat.eq_of_beq_eq_true e)
theorem MU{g:Nat→Nat}{m:Nat}(hg:∀i j,1≤i→i≤m→1≤j→j≤m→g i=g j→i=j){x y:Cl}(hx:zQ m x=true)(hy:zQ m y=true)(b:Bool)(h:eD (kill y) (kill x) b=true):eD (kN g y) (kN g x) b=true:=by
 cases b with
 |true=>
  unfold eD at h⊢
  simp only[Bool.true_or]at h⊢
  have ek:∀c:Cl,(kill c).k=c.k:=fun c=>by
   unfold kill
   by_cases e:c.k=2
   ·rw[e];rfl
   ·rw[zR e];rfl
  rw[ek,ek]at h
  show au (Nat.beq y.k 0||Nat.beq x.k 0||Nat.beq y.k 5||Nat.beq x.k 5) true _=true
  exact h
 |false=>
  by_cases hx2:x.k=2
  ·have kx:kill x=⟨2,0,0,0,hh0,hh0⟩:=by unfold kill;rw[hx2];rfl
   have ky:(kill y).k=y.k:=by
    unfold kill
    by_cases e:y.k=2
    ·rw[e];rfl
    ·rw[zR e];rfl
   unfold eD at h⊢
   rw[kx]at h
   simp only[ky]at h
   simp only[kN,hx2]
   simp only[show Nat.beq 2 0=false from rfl,show Nat.beq 2 5=false from rfl,show Nat.beq 2 3=false from rfl,show Nat.beq 2 4=false from rfl,show Nat.beq 2 1=false from rfl,show Nat.beq 2 2=true from rfl,Bool.or_false,Bool.false_or,Bool.false_and,Bool.and_false,bL,dP]at h⊢
   by_cases h0:(Nat.beq y.k 0||Nat.beq y.k 5)=true
   ·rw[h0];rfl
   ·rw[Bool.not_eq_true]at h0
    rw[h0]at h⊢
    by_cases h3:y.k=3
    ·rw[h3]at h;cases h
    ·rw[zR h3]at h⊢
     by_cases h4:y.k=4
     ·have hy2:kill y=y:=by unfold kill;rw[zR aa];rfl
      rw[hy2,h4]at h
      replace h:uK ⟨2,0,0,0,hh0,hh0⟩ y=true:=h
      by_cases hn:y.n=0
      ·rw[h4]
       show uK _ _=true
       unfold uK sameAt
       show iO (ah (ag.read x.a (g y.r) y.off y.n) fun u=>ah (ag.read x.b (g y.r) y.off y.n) fun v=>gd (CY u v) (some ()))=true
       rw[hn];rfl
      ·rw[AP rfl hn]at h;cases h
     ·rw[zR h4]at h;cases h
  ·have kx:kill x=x:=by unfold kill;rw[zR hx2];rfl
   by_cases hy2:y.k=2
   ·have ky:kill y=⟨2,0,0,0,hh0,hh0⟩:=by unfold kill;rw[hy2];rfl
    unfold eD at h⊢
    rw[ky,kx]at h
    simp only[kN,hy2]
    simp only[show Nat.beq 2 0=false from rfl,show Nat.beq 2 5=false from rfl,show Nat.beq 2 3=false from rfl,show Nat.beq 2 4=false from rfl,show Nat.beq 2 1=false from rfl,show Nat.beq 2 2=true from rfl,Bool.or_false,Bool.false_or,Bool.false_and,Bool.and_false,bL,dP]at h⊢
    by_cases h0:(Nat.beq x.k 0||Nat.beq x.k 5)=true
    ·rw[h0];rfl
    ·rw[Bool.not_eq_true]at h0
     rw[h0]at h⊢
     by_cases h3:x.k=3
     ·rw[h3]at h;cases h
     ·rw[zR h3]at h⊢
      by_cases h4:x.k=4
      ·rw[h4]at h
       replace h:uK ⟨2,0,0,0,hh0,hh0⟩ x=true:=h
       by_cases hn:x.n=0
       ·rw[h4]
        show uK _ _=true
        unfold uK sameAt
        show iO (ah (ag.read y.a (g x.r) x.off x.n) fun u=>ah (ag.read y.b (g x.r) x.off x.n) fun v=>gd (CY u v) (some ()))=true
        rw[hn];rfl
       ·rw[AP rfl hn]at h;cases h
      ·rw[zR h4]at h;cases h
   ·have ky:kill y=y:=by unfold kill;rw[zR hy2];rfl
    rw[kx,ky]at h
    by_cases hm:(x.k=3∨x.k=4)∧(y.k=3∨y.k=4)
    ·obtain⟨a1,a2⟩:=Ie hx hm.1
     obtain⟨b1,b2⟩:=Ie hy hm.2
     have e2:=JX (g:=g) (x:=x) (y:=y) (hg _ _ a1 a2 b1 b2)
     unfold eD at h⊢
     rw[e2]
     simp only[kN,zR hx2,zR hy2,bL]at h⊢
     exact h
    ·unfold eD at h⊢
     simp only[kN,zR hx2,zR hy2,bL]at h⊢
     by_cases x3:x.k=3
     ·have y3:y.k≠3:=fun e=>hm ⟨.inl x3,.inl e⟩
      have y4:y.k≠4:=fun e=>hm ⟨.inl x3,.inr e⟩
      rw[zR y3,zR y4]at h⊢
      exact h
     ·by_cases x4:x.k=4
      ·have y3:y.k≠3:=fun e=>hm ⟨.inr x4,.inl e⟩
       have y4:y.k≠4:=fun e=>hm ⟨.inr x4,.inr e⟩
       rw[zR y3,zR y4]at h⊢
       exact h
      ·rw[zR x3,zR x4]at h⊢
       exact h
theorem MV{a:Bool}{b:Bool}(h:au a b false=true):a=true∧b=true:=by
 cases a with
 |true=>exact⟨rfl,h⟩
 |false=>cases h
theorem MW{g:Nat→Nat}{m:Nat}(hg:∀i j,1≤i→i≤m→1≤j→j≤m→g i=g j→i=j):∀(ms:List Nat)(l:List Cl),(∀c∈l,zQ m c=true)→pairs eD ms (l.map kill)=true→pairs eD ms (l.map (kN g))=true:=by
 have row:∀(x:Cl)(k:Nat)(l:List Cl),zQ m x=true→(∀c∈l,zQ m c=true)→jh eD (kill x) k (l.map kill)=true→jh eD (kN g x) k (l.map (kN g))=true:=by
  intro x k l hx
  induction l with
  |nil=>intro _ _;rfl
  |cons y l ih=>
   intro h h1
   replace h1:au (eD (kill x) (kill y) (aS k (len (l.map kill)))) (jh eD (kill x) k (l.map kill)) false=true:=h1
   obtain⟨h2,h3⟩:=MV h1
   show au (eD (kN g x) (kN g y) (aS k (len (l.map (kN g))))) (jh eD (kN g x) k (l.map (kN g))) false=true
   rw[aJ,List.length_map]at h2⊢
   rw[MU hg (h y (List.mem_cons_self ..)) hx _ h2,ih (fun c hc=>h c (List.mem_cons_of_mem _ hc)) h3];rfl
 intro ms
 induction ms with
 |nil=>intro l _ _;rfl
 |cons k ms ih=>
  intro l h h1
  cases l with
  |nil=>rfl
  |cons x l=>
   replace h1:au (jh eD (kill x) k (l.map kill)) (pairs eD ms (l.map kill)) false=true:=h1
   obtain⟨h2,h3⟩:=MV h1
   show au (jh eD (kN g x) k (l.map (kN g))) (pairs eD ms (l.map (kN g))) false=true
   rw[row x k l (h x (List.mem_cons_self ..)) (fun c hc=>h c (List.mem_cons_of_mem _ hc)) h2,ih l (fun c hc=>h c (List.mem_cons_of_mem _ hc)) h3];rfl
theorem DY{g:Nat→Nat}{m:Nat}(hg:∀i j,1≤i→i≤m→1≤j→j≤m→g i=g j→i=j){ops:Array Oper}{l:List Cl}(hl:all' (zQ m) l=true)(h:dH ops (l.map kill)=true):dH ops (l.map (kN g))=true:=by
 rw[all_eq,List.all_eq_true]at hl
 have e:noTwo (l.map (kN g))=noTwo (l.map kill):=by
  unfold noTwo
  rw[all_eq,all_eq,List.all_map,List.all_map]
  congr 1
  funext c
  show(!(Nat.beq c.k 2||Nat.beq c.k 3))=(!(Nat.beq (kill c).k 2||Nat.beq (kill c).k 3))
  unfold kill
  by_cases e:c.k=2
  ·rw[e];rfl
  ·rw[zR e];rw[bL,zR e]
 unfold dH at h⊢
 rw[e]
 by_cases h2:noTwo (l.map kill)=true
 ·rw[h2];rfl
 ·rw[Bool.not_eq_true]at h2
  rw[h2]at h⊢
  exact MW hg _ l hl h
def g3(a b c d:Nat):Nat→Nat
 |1=>a
 |2=>b
 |3=>c
 |4=>d
 |_=>0
theorem TP{ops:Array Oper}{C:Nat→Nat→List Cl}{a b:Nat}{K:Prop}(hab:a≠b)(hC:∀a b,C a b=(C 1 2).map (kN (g3 a b 0 0)))(hk:all' (zQ 2) (C 1 2)=true)(h:dH ops ((C 1 2).map kill)=true)(k:K):dH ops (C a b)=true∧K:=by
 refine⟨?_,k⟩
 rw[hC]
 refine DY (m:=2) (fun i j h1 h2 h3 h4 e=>?_) hk h
 have hi:i=1∨i=2:=by omega
 have hj:j=1∨j=2:=by omega
 rcases hi with rfl|rfl<;>rcases hj with rfl|rfl<;>first|rfl|exact absurd e hab|exact absurd e.symm hab
theorem TQ{ops:Array Oper}{C:Nat→Nat→Nat→List Cl}{a b c:Nat}{K:Prop}(hab:a≠b)(hac:a≠c)(hbc:b≠c)(hC:∀a b c,C a b c=(C 1 2 3).map (kN (g3 a b c 0)))(hk:all' (zQ 3) (C 1 2 3)=true)(h:dH ops ((C 1 2 3).map kill)=true)(k:K):dH ops (C a b c)=true∧K:=by
 refine⟨?_,k⟩
 rw[hC]
 refine DY (m:=3) (fun i j h1 h2 h3 h4 e=>?_) hk h
 have hi:i=1∨i=2∨i=3:=by omega
 have hj:j=1∨j=2∨j=3:=by omega
 rcases hi with rfl|rfl|rfl<;>rcases hj with rfl|rfl|rfl<;>first|rfl|exact absurd e hab|exact absurd e.symm hab|exact absurd e hac|exact absurd e.symm hac|exact absurd e hbc|exact absurd e.symm hbc
theorem SH.apart{S:List Nat}{H0 H:ag}{A B:List bF}(hS:SH S H0 H (A++B)){x y:bF}(hx:x∈A)(hy:y∈B):x.1≠y.1:=(List.pairwise_append.1 hS.ne).2.2 x hx y hy
theorem tT.one{S:List Nat}{H0 H:ag}{L:List bF}{F:Nat→Prop}{r:Nat}{ty:TypeId}{es n:Nat}{cs:List Value}(hS:SH S H0 H L)(hm:((r,ty,cs):bF)∈L)(hn:cs.length=n*es)(hF:F r):tT F ty H (some ⟨r,0,none⟩) n es cs:=
 ⟨(hS.bk _ hm).fl (hS.lo _ hm).2 hn,fun r' o e _=>by cases e;exact⟨hF,(hS.lo _ hm).2,(hS.bk _ hm).XQ⟩⟩
theorem SH.nq{S:List Nat}{H0 H:ag}{L:List bF}(hS:SH S H0 H L)(i j:Nat){r r':Nat}{t t':TypeId}{x y:List Value}(hi:L[i]?=some (r,t,x))(hj:L[j]?=some (r',t',y))(hij:i<j):r≠r':=by
 obtain⟨h1,e1⟩:=List.getElem?_eq_some_iff.1 hi
 obtain⟨h2,e2⟩:=List.getElem?_eq_some_iff.1 hj
 have:=List.pairwise_iff_getElem.1 hS.ne i j h1 h2 hij
 rw[e1,e2]at this
 exact this
theorem SH.neq{S:List Nat}{H0 H:ag}{L:List bF}(hS:SH S H0 H L)(i j:Nat){x y:bF}(hi:L[i]?=some x)(hj:L[j]?=some y)(hij:i<j):x.1≠y.1:=by
 obtain⟨h1,rfl⟩:=List.getElem?_eq_some_iff.1 hi
 obtain⟨h2,rfl⟩:=List.getElem?_eq_some_iff.1 hj
 exact List.pairwise_iff_getElem.1 hS.ne i j h1 h2 hij
section
def OX(ty:TypeId)(es:Nat):List (List Value)→List Value→List bF→Prop
 |[],[],R=>R=[]
 |ks::B6,v::vs,R=>∃gb R',R=gb++R'∧GB ty es v ks gb∧OX ty es B6 vs R'
 |_,_,_=>False
variable{ty:TypeId}{es:Nat}
theorem OX.len:∀{B6:List (List Value)}{vs:List Value}{R:List bF},OX ty es B6 vs R→B6.length=vs.length
 |[],[],R,h=>rfl
 |ks::B6,v::vs,R,⟨gb,R',_,_,h⟩=>congrArg Nat.succ h.len
 |[],v::vs,R,h=>h.elim
 |ks::B6,[],R,h=>h.elim
theorem OX.at:∀{B6:List (List Value)}{vs:List Value}{R:List bF}(i:Nat),OX ty es B6 vs R→(h:i<vs.length)→∃A gb B,R=A++(gb++B)∧GB ty es vs[i] (B6[i]?.getD []) gb∧
 ∀v' ks' iF,GB ty es v' ks' iF→OX ty es (B6.set i ks') (vs.set i v') (A++(iF++B))
 |ks::B6,v::vs,R,0,h,_=>by
  obtain⟨gb,R',rfl,h1,h4⟩:=h
  exact⟨[],gb,R',rfl,h1,fun v' ks' iF g1=>⟨iF,R',rfl,g1,h4⟩⟩
 |ks::B6,v::vs,R,i +1,h,hi=>by
  obtain⟨gb,R',rfl,h1,h4⟩:=h
  obtain⟨A,gb2,B,rfl,g1,g4⟩:=OX.at i h4 (by simpa using hi)
  refine⟨gb++A,gb2,B,by rw[List.append_assoc],g1,fun v' ks' iF k1=>?_⟩
  exact⟨gb,A++(iF++B),by rw[List.append_assoc],h1,g4 v' ks' iF k1⟩
 |[],[],R,i,h,hi=>absurd hi (by simp)
 |[],v::vs,R,i,h,hi=>h.elim
 |ks::B6,[],R,i,h,hi=>h.elim
theorem OX.all{S:List Nat}{H0 H:ag}:∀{B6:List (List Value)}{vs:List Value}{R L:List bF},OX ty es B6 vs R→SH S H0 H (R++L)→∀i(h:i<vs.length),∃a n c,vs[i]=.slice a n c∧(B6[i]?.getD []).length=n*es∧tT (fun r=>r∈R.map (·.1)) ty H a n es (B6[i]?.getD [])
 |[],[],R,L,h,hS=>fun i hi=>absurd hi (by simp)
 |ks::B6,v::vs,R,L,⟨gb,R',h1,h2,h4⟩,hS=>by
  subst h1
  rw[List.append_assoc]at hS
  intro i hi
  cases i with
  |zero=>
   obtain⟨a,n,c,e,hl,hf⟩:=h2.ZE (F:=fun r=>r∈(gb++R').map (·.1)) hS fun e he=>List.mem_map.2 ⟨e,List.mem_append_left _ he,rfl⟩
   exact⟨a,n,c,e,hl,hf⟩
  |succ i=>
   obtain⟨a,n,c,e,hl,hf⟩:=OX.all h4 (SH.drop hS) i (by simpa using hi)
   refine⟨a,n,c,e,hl,hf.wk fun r hr=>?_⟩
   obtain⟨e,he,rfl⟩:=List.mem_map.1 hr
   exact List.mem_map.2 ⟨e,List.mem_append_right _ he,rfl⟩
 |[],v::vs,R,L,h,hS=>h.elim
 |ks::B6,[],R,L,h,hS=>h.elim
end
section
variable{S:List Nat}{H0 H:ag}{L L':List bF}{r n c k:Nat}{ty:TypeId}{cs:List Value}{v:Value}
theorem YJ(h:k<n){o:Nat}:DF 1 (.slice (some ⟨r,o,none⟩) n c) (vn k)=some (.pointer (some ⟨r,o +k,none⟩)):=by rw[nW h,Nat.mul_one]
theorem SH.ix{K:Value→Value→ag→Prop}(hS:SH S H0 H L)[hb:zP L r ty cs](hk:k<n)(hv:cs[k]?=some v)(kk:∀p,K p v H):
 PU (DF 1 (.slice (some ⟨r,0,none⟩) n c) (vn k)) fun p=>ME (mU none p H) (K p):=by
 obtain⟨i,hi⟩:=hb.at'
 refine PU.of (YJ hk) ?_
 rw[Nat.zero_add]
 exact hS.ld i hi hv (kk _)
theorem tT.ix{F:Nat→Prop}{a:Option Addr}{K:Value→Value→ag→Prop}(h:tT F ty H a n 1 cs)(hk:k<n)(hv:cs[k]?=some v)(kk:∀p,K p v H):
 PU (DF 1 (.slice a n c) (vn k)) fun p=>ME (mU none p H) (K p):=by
 obtain⟨r,o,h1,h2,h3,_⟩:=h.1.idx (c:=c) (Nat.lt_succ_self 0) hk
 refine PU.of h1 ?_
 refine ME.ld ?_ (kk _)
 have:=h3 0 v (Nat.lt_succ_self 0) (by rw[Nat.mul_one,Nat.add_zero];exact hv)
 exact this
theorem GB.push{es:Nat}{x z:List Value}{w:Value}{xs:List Value}{gb:List bF}{K:Value→Value→ag→Prop}(hg:GB ty es v xs gb)(hS:SH S H0 H (gb++L))(he:0<es)(hz:z.length=es)(hw:ax w=x)(hx:x.length=es)(ht:mq w=true)(hok:all' Go.Ae.aN x=true)(hb:es≤16777216)(hc:xs.length≤16777216)
 (kk:∀q v' H' iF,GB ty es v' (xs++x) iF→SH S H0 H' (iF++L)→K q v' H'):ME (bS ty z es 1 [(0,w)] H) fun q H1=>ME (zB ty es v q H1) (K q):=by
 refine hS.bS hz ht (by rw[hw];exact hx) hb fun H1 rx hS1=>?_
 rw[hw]at hS1
 obtain⟨v',H6,iF,e1,hg',hS6,_⟩:=hg.app (m:=0) (cx:=1) hS1 he aa hok aa hc
 exact ME.of e1 (kk _ v' H6 iF hg' hS6)
end
def g7(c:Cl):Cl:=au (Nat.beq c.k 2) ⟨7,0,0,0,hh0,hh0⟩ c
def Qf{α:Type}(p:α→Prop):List α→Prop
 |[]=>True
 |x::l=>p x∧Qf p l
theorem Qf.mem{α:Type}{p:α→Prop}:∀{l:List α},Qf p l→∀x∈l,p x
 |y::l,h,x,hx=>by
  rcases List.mem_cons.1 hx with rfl|hx
  ·exact h.1
  ·exact Qf.mem h.2 x hx
end Go.Ae
namespace Go.Ae.M
section
inductive Fr where
 |n
 |c(i:Nat)(v:Value)(l:Fr)
abbrev Rs:=List (Nat×Value)
def YK(l:Fr):Tr Value:=@Fr.rec (fun _=>Tr Value) .nil (fun i v _ r=>r.set top i v) l
def S(nl nt:Nat)(sl:Fr)(rg:Rs)(H:ag):St:=⟨nl,nt,rg,YK sl,[],H⟩
def lk(sl:Fr)(rg:Rs)(t:Nat):Value:=@Fr.rec (fun _=>Value) (look rg t) (fun i v _ r=>au (Nat.beq i t) v r) sl
def hs(sl:Fr)(t:Nat):Bool:=@Fr.rec (fun _=>Bool) false (fun i _ _ r=>au (Nat.beq i t) true r) sl
def up(sl:Fr)(t:Nat)(v:Value):Fr:=@Fr.rec (fun _=>Fr) .n (fun i w l r=>au (Nat.beq i t) (.c i v l) (.c i w r)) sl
def KB(nl nt:Nat)(sl:Fr):Bool:=Nat.ble (Nat.succ nl) (Nat.pow 2 nt)&&@Nat.rec (fun _=>Bool) true (fun t r=>au (hs sl t) (aS nl t) (!(aS nl t))&&r) nt&&@Fr.rec (fun _=>Bool) true (fun i _ _ r=>Nat.ble (Nat.succ i) nt&&r) sl
def eq'(sl:Fr)(rg:Rs)(x:Operand):Value:=@Operand.rec (fun _=>Value) (fun t=>lk sl rg t) (fun v=>v) (fun g=>.pointer (some ⟨g,0,none⟩)) (fun f=>.func (.func f) #[] #[]) x
def OY(ρ:Operand→Value)(x:Option Operand):Option Value:=@Option.rec Operand (fun _=>Option Value) none (fun x=>some (ρ x)) x
def MX(ρ:Operand→Value)(ps:Array (Nat×Operand)):Rs:=mp (fun p=>(p.1,ρ p.2)) ps.toList
def Qg(c:Callee):Program→(Operand→Value)→Option (FuncId×List Value×List Value):=
 @Callee.rec (fun _=>Program→(Operand→Value)→Option (FuncId×List Value×List Value))
  (fun f _ ρ=>VF (ρ f)) (fun r name P ρ=>ah (nM (ρ r)) fun p=>ah (methodOf P p.1 name) fun q=>some (q.1,[p.2],[]))
  (fun _ _ _=>none) c
def VN(P:Program)(X:Xt)(c:Call)(ρ:Operand→Value)(H:ag)(Kp:Value→Prop)(Km:Value→ag→Prop):Prop:=
 @Option.rec Builtin (fun _=>Prop) (lH P X (Qg c.callee P ρ) (mp ρ c.args.toList) H Km)
  (fun b=>pF b c.argTypes.toList (mp ρ c.args.toList) P H Kp Km) (isBuiltin c.callee)
def VO(o:Op):Program→Xt→(Operand→Value)→ag→(Value→Prop)→(Value→ag→Prop)→Prop:=
 @Op.rec (fun _=>Program→Xt→(Operand→Value)→ag→(Value→Prop)→(Value→ag→Prop)→Prop)
  (fun x P X ρ H Kp Km=>Kp (ρ x)) (fun x P X ρ H Kp Km=>Kp (ρ x)) (fun c a b P X ρ H Kp Km=>PU (xC (ρ c) (ρ a) (ρ b)) Kp) (fun e P X ρ H Kp Km=>ME (oU P e H) Km) (fun e x P X ρ H Kp Km=>ME (Bi e (ρ x) H) Km) (fun t ps P X ρ H Kp Km=>PU (oP P t (MX ρ ps)) Kp) (fun t n ps P X ρ H Kp Km=>ME (h_ P t n (MX ρ ps) H) Km) (fun t m k v P X ρ H Kp Km=>ME (gT P t (ρ m) (ρ k) (ρ v) H) Km) (fun t x P X ρ H Kp Km=>ME (jg P t (ρ x) H) Km) (fun t x v P X ρ H Kp Km=>ME (lg P t (ρ x) (ρ v) H) Km) (fun _ _ _ _ _ _ _=>False) (fun _ _ _ _ _ _ _=>False) (fun x P X ρ H Kp Km=>PU (Bh (ρ x)) Kp) (fun op t x y _ P X ρ H Kp Km=>PU (bq P op t x y (ρ x) (ρ y)) Kp) (fun op _ x P X ρ H Kp Km=>PU (bD (Op.unary op (ρ x))) Kp) (fun a b x P X ρ H Kp Km=>CV (oC P a b (ρ x)) (fK P a b (ρ x) H) Kp Km) (fun _ _ _ _ _ _ _ _=>False) (fun t x P X ρ H Kp Km=>PU (zG P t (ρ x)) Kp) (fun f fi ca P X ρ H Kp Km=>Kp (.func f ⟨mp ρ fi.toList⟩ ⟨mp ρ ca.toList⟩)) (fun t r P X ρ H Kp Km=>ME (jW P t (OY ρ r) H) Km) (fun _ _ _ _ _ _ _ _=>False) (fun t l c P X ρ H Kp Km=>ME (fB P t (ρ l) (ρ c) H) Km) (fun t x lo hi mx P X ρ H Kp Km=>PU (k_ P t (ρ x) (OY ρ lo) (OY ρ hi) (OY ρ mx)) Kp) (fun t x f P X ρ H Kp Km=>PU (g_ P t (ρ x) f) Kp) (fun t x f P X ρ H Kp Km=>PU (oO P t (ρ x) f) Kp) (fun t x i P X ρ H Kp Km=>PU (gm P t (ρ x) (ρ i)) Kp) (fun t x i P X ρ H Kp Km=>PU (oN P t (ρ x) (ρ i)) Kp) (fun t x k ok P X ρ H Kp Km=>ME (kG P t (ρ x) (ρ k) ok H) Km) (fun t m k v P X ρ H Kp Km=>ME (gT P t (ρ m) (ρ k) (ρ v) H) Km) (fun _ _ _ _ _ _ _ _ _=>False) (fun _ _ _ _ _ _ _ _ _ _=>False) (fun t x P X ρ H Kp Km=>ME (uI P t (ρ x) H) Km) (fun x b P X ρ H Kp Km=>ME (Ab (ρ x) b H) Km) (fun _ _ _ _ _ _ _=>False) (fun _ _ _ _ _ _ _ _ _ _=>False) (fun t i P X ρ H Kp Km=>PU (jV (ρ t) i) Kp) (fun c P X ρ H Kp Km=>VN P X c ρ H Kp Km) (fun _ _ _ _ _ _ _=>False) (fun _ _ _ _ _ _ _=>False) (fun _ _ _ _ _ _ _=>False) (fun _ _ _ _ _ _ _ _=>False) (fun _ _ _ _ _ _ _ _ _=>False) (fun _ _ _ _ _ _ _ _=>False) o
def MY(P:Program)(o:Op)(ρ:Operand→Value):Cl:=
 (ah (uJ o) fun p=>ah (fH (ρ p.2)) fun a=>ah (Kv P p.1) fun l=>some (Cl.mk 4 a.block a.off (l.getD 1) hh0 hh0)).getD (cl 1)
def qB(P:Program)(o:Op)(ρ:Operand→Value)(H H':ag):Cl:=
 @Option.rec (Operand×Operand) (fun _=>Cl) (au (Nat.ble H.next H'.low) (au (lV o) (cl 5) (MY P o ρ)) ⟨2,0,0,0,H,H'⟩)
  (fun p=>@Option.rec Addr (fun _=>Cl) ⟨2,0,0,0,H,H'⟩ (fun a=>⟨3,a.block,a.off,len (ax (ρ p.2)),hh0,hh0⟩) (fH (ρ p.1))) (nO o)
inductive Kd where
 |norm
 |exit(i:Nat)
 |goto(l:Nat)
 |ret
def Kd.out(k:Kd)(s:St):Out:=@Kd.rec (fun _=>Out) (.norm s) (fun i=>.exit i s) (fun l=>.goto l s) (.ret s) k
def Ri(id:Nat)(k:Kd):Kd:=@Kd.rec (fun _=>Kd) .norm (fun i=>au (Nat.beq i id) .norm (.exit i)) (fun l=>.goto l) .ret k
inductive Fm where
 |sq(p:List Nat)(c:Code)
 |sj(p:List Nat)
 |bk(id:Nat)
inductive Md where
 |pl
 |dr(O:Array Oper)(acc:List Cl)
def qT(m:Md):Md:=@Md.rec (fun _=>Md) .pl (fun O acc=>.dr O (cl 0::acc)) m
def zC(m:Md)(c:Cl):Md:=@Md.rec (fun _=>Md) .pl (fun O acc=>.dr O (c::acc)) m
def hX(m:Md)(H:ag):ag:=@Md.rec (fun _=>ag) H (fun _ _=>hN H) m
def hY(m:Md)(H H':ag):ag:=@Md.rec (fun _=>ag) H' (fun _ _=>hM H H') m
inductive Ct where
 |co(c:Code)(p:List Nat)
 |cd(v:Option Bool)(a b:Code)(p:List Nat)
 |ou(k:Kd)
 |op(L l:List Oper)(m:Md)(sk:List Nat)
 |gu(L l:List Oper)(m:Md)(sk:List Nat)(d:Option Nat)(o:Op)(gb:Bool)(t:Option Nat)
 |gv(L l:List Oper)(m:Md)(sk:List Nat)(d:Option Nat)(o:Op)(gb:Bool)(t:Nat)(e:Bool)(v:Option Bool)
 |ge(L l:List Oper)(m:Md)(sk:List Nat)(d:Option Nat)(o:Op)(b:Bool)
 |ex(L l:List Oper)(m:Md)(sk:List Nat)(d:Option Nat)(o:Op)
 |pk(L l:List Oper)(m:Md)(sk:List Nat)(d:Option Nat)(c:Option Bool)(a b:Value)
 |af(L l:List Oper)(m:Md)(sk:List Nat)(d:Option Nat)(v:Value)
 |pt(h:Bool)(t:Nat)(v:Value)(nx:Ct)
def lS(p:List Nat):List Nat→List Nat:=@List.rec Nat (fun _=>List Nat→List Nat) (fun q=>q) (fun i _ ih q=>ih (i::q)) p
def kO(P:Program)(X:Xt)(B:Code)(st:List Fm)(E:Out→Prop):Out→Prop:=
 @List.rec Fm (fun _=>Out→Prop) E (fun f _ r=>@Fm.rec (fun _=>Out→Prop) (fun p _=>pG P X (sub B (lS p [])) r) (fun p=>pG P X (sub B (lS p [])) r) (fun id=>nL id r) f) st
def UR(l:List Oper)(j:Nat):Option Nat:=ah (nth l j) fun o=>o.dst
def JY(sk:List Nat)(d:Option Nat):List Nat:=@Option.rec Nat (fun _=>List Nat) sk (fun d=>d::sk) d
def R(P:Program)(X:Xt)(nl nt:Nat)(B:Code):Nat→Ct→List Fm→Fr→Rs→ag→(Out→Prop)→Prop
 |0,_,_,_,_,_,_=>False
 |n +1,.co .skip _,st,sl,rg,H,E=>R P X nl nt B n (.ou .norm) st sl rg H E
 |n +1,.co (.region _ ops false) _,st,sl,_,H,E=>R P X nl nt B n (.op ops.toList ops.toList .pl []) st sl [] H E
 |n +1,.co (.region _ ops true) p,st,sl,_,H,E=>(bW ops&&eB ops)=true∧R P X nl nt B n (.op ops.toList ops.toList (.dr (opsOf (sub B (lS p []))) []) []) st sl [] H E
 |n +1,.co (.seq a b) p,st,sl,rg,H,E=>R P X nl nt B n (.co a (0::p)) (au (tu a b) (.sj (1::p)) (.sq (1::p) b)::st) sl rg H E
 |n +1,.co (.cond x a b) p,st,sl,rg,H,E=>R P X nl nt B n (.cd (bE (eq' sl rg x)) a b p) st sl rg H E
 |n +1,.co (.block id a) p,st,sl,rg,H,E=>R P X nl nt B n (.co a (0::p)) (.bk id::st) sl rg H E
 |_ +1,.co (.loop _) p,st,sl,rg,H,E=>bC P X (.loop (sub B (lS (0::p) []))) (S nl nt sl rg H) (kO P X B st E)
 |_ +1,.co (.scope _) p,st,sl,rg,H,E=>bC P X (.scope (sub B (lS (0::p) []))) (S nl nt sl rg H) (kO P X B st E)
 |n +1,.co (.exit i) _,st,sl,rg,H,E=>R P X nl nt B n (.ou (.exit i)) st sl rg H E
 |n +1,.co (.goto i) _,st,sl,rg,H,E=>R P X nl nt B n (.ou (.goto i)) st sl rg H E
 |n +1,.co (.label _) _,st,sl,rg,H,E=>R P X nl nt B n (.ou .norm) st sl rg H E
 |n +1,.co .ret _,st,sl,rg,H,E=>R P X nl nt B n (.ou .ret) st sl rg H E
 |_ +1,.co _ _,_,_,_,_,_=>False
 |n +1,.cd v a b p,st,sl,rg,H,E=>yu v (R P X nl nt B n (.co a (0::p)) st sl rg H E) (R P X nl nt B n (.co b (1::p)) st sl rg H E)
 |_ +1,.ou k,[],sl,rg,H,E=>E (k.out (S nl nt sl rg H))
 |n +1,.ou .norm,.sq p c::st,sl,rg,H,E=>R P X nl nt B n (.co c p) st sl rg H E
 |_ +1,.ou .norm,.sj p::st,sl,rg,H,E=>bC P X (sub B (lS p [])) (S nl nt sl rg H) (kO P X B st E)
 |n +1,.ou k,.bk id::st,sl,rg,H,E=>R P X nl nt B n (.ou (Ri id k)) st sl rg H E
 |n +1,.ou k,_::st,sl,rg,H,E=>R P X nl nt B n (.ou k) st sl rg H E
 |n +1,.op L [] m sk,st,sl,rg,H,E=>@Md.rec (fun _=>Prop) (R P X nl nt B n (.ou .norm) st sl rg H E) (fun O acc=>dH O acc=true∧R P X nl nt B n (.ou .norm) st sl rg H E) m
 |n +1,.op L (o::l) m sk,st,sl,rg,H,E=>@Option.rec (Nat×Bool) (fun _=>Prop) (R P X nl nt B n (.ex L l m sk o.dst o.op) st sl rg H E)
    (fun g=>R P X nl nt B n (.gu L l m sk o.dst o.op g.2 (UR L g.1)) st sl rg H E) o.guard
 |_ +1,.gu _ _ _ _ _ _ _ none,_,_,_,_,_=>False
 |n +1,.gu L l m sk d o gb (some t),st,sl,rg,H,E=>R P X nl nt B n (.gv L l m sk d o gb t (ny sk t) (bE (lk sl rg t))) st sl rg H E
 |n +1,.gv L l m sk d o gb t e v,st,sl,rg,H,E=>@Bool.rec (fun _=>Prop)
    (yu v (R P X nl nt B n (.pt (hs sl t) t (.bool true) (.ge L l m (dW sk t) d o (oz true gb))) st sl rg H E) (R P X nl nt B n (.pt (hs sl t) t (.bool false) (.ge L l m (dW sk t) d o (oz false gb))) st sl rg H E))
    (R P X nl nt B n (.ge L l m sk d o false) st sl rg H E) e
 |n +1,.ge L l m sk d o b,st,sl,rg,H,E=>@Bool.rec (fun _=>Prop) (R P X nl nt B n (.af L l (qT m) (JY sk d) d undef) st sl rg H E) (R P X nl nt B n (.ex L l m sk d o) st sl rg H E) b
 |n +1,.ex L l m sk d (.move x),st,sl,rg,H,E=>R P X nl nt B n (.af L l (qT m) (bQ sk d) d (eq' sl rg x)) st sl rg H E
 |n +1,.ex L l m sk d (.assign x),st,sl,rg,H,E=>R P X nl nt B n (.af L l (qT m) (bQ sk d) d (eq' sl rg x)) st sl rg H E
 |n +1,.ex L l m sk d (.makeFunc f XT ps2),st,sl,rg,H,E=>R P X nl nt B n (.af L l (qT m) (bQ sk d) d (.func f ⟨mp (eq' sl rg) XT.toList⟩ ⟨mp (eq' sl rg) ps2.toList⟩)) st sl rg H E
 |n +1,.ex L l m sk d (.pick c a b),st,sl,rg,H,E=>R P X nl nt B n (.pk L l (qT m) (bQ sk d) d (bE (eq' sl rg c)) (eq' sl rg a) (eq' sl rg b)) st sl rg H E
 |n +1,.ex L l m sk d o,st,sl,rg,H,E=>VO o P X (eq' sl rg) (hX m H) (fun v=>R P X nl nt B n (.af L l (qT m) (bQ sk d) d v) st sl rg H E) (fun v H'=>R P X nl nt B n (.af L l (zC m (qB P o (eq' sl rg) H H')) (bQ sk d) d v) st sl rg (hY m H H') E)
 |n +1,.pk L l m sk d c a b,st,sl,rg,H,E=>PU (ah c fun t=>some (au t a b)) fun v=>R P X nl nt B n (.af L l m sk d v) st sl rg H E
 |n +1,.af L l m sk none v,st,sl,rg,H,E=>R P X nl nt B n (.op L l m sk) st sl rg H E
 |n +1,.af L l m sk (some t) v,st,sl,rg,H,E=>R P X nl nt B n (.pt (hs sl t) t v (.op L l m sk)) st sl rg H E
 |n +1,.pt true t v nx,st,sl,rg,H,E=>R P X nl nt B n nx st (up sl t v) rg H E
 |n +1,.pt false t v nx,st,sl,rg,H,E=>R P X nl nt B n nx st sl ((t,v)::rg) H E
end
section eqs
variable{P:Program}{X:Xt}{nl nt n i j:Nat}{B a b c:Code}{p q sk:List Nat}{st:List Fm}{sl:Fr}{rg:Rs}{H H':ag}{E:Out→Prop}{L l:List Oper}{m:Md}{d:Option Nat}{o:Op}{gb:Bool}{t u:Nat}{v w:Value}{x y z:Operand}{k:Kd}{O:Array Oper}{acc:List Cl}{cs:Cl}{ρ:Operand→Value}{s:St}{ty:TypeId}{pos:String}{MZ:Array Edge}{nx:Ct}
theorem nr{α:Sort _}{a b:α}(h:a=b):a=b:=h
theorem VP{α:Type}{x y:α}:au true x y=x:=nr rfl
theorem VQ{α:Type}{x y:α}:au false x y=y:=nr rfl
theorem nb{i j:Nat}:Nat.beq i j=(i==j):=nr (by
 by_cases h:i=j
 ·subst h;rw[show Nat.beq i i=true from Nat.beq_refl i];simp
 ·rw[show(i==j)=false by simp[h]]
  rw[←Bool.not_eq_true];intro e;exact h (Nat.eq_of_beq_eq_true e))
theorem ct{α:Type}{b:Bool}{x y:α}:au b x y=if b=true then x else y:=by cases b<;>rfl
theorem cb{α:Type}{x y:α}:au (Nat.beq j i) x y=if(j==i)=true then x else y:=by rw[ct,nb]
theorem VS:lk .n rg i=Az rg i:=nr rfl
theorem VT:lk (.c j v sl) rg i=if(j==i)=true then v else lk sl rg i:=cb
theorem VU:Az [] i=top:=nr rfl
theorem VV:Az ((j,v)::rg) i=if(j==i)=true then v else Az rg i:=cb
theorem VW:hs .n i=false:=nr rfl
theorem VX:hs (.c j v sl) i=if(j==i)=true then true else hs sl i:=cb
theorem wL:up .n i v=.n:=nr rfl
theorem wM:up (.c j w sl) i v=if(j==i)=true then .c j v sl else .c j w (up sl i v):=cb
theorem Rj:eq' sl rg (.tmp i)=lk sl rg i:=nr rfl
theorem Ig:eq' sl rg (.const v)=v:=by cases v<;>rfl
theorem DZ:eq' sl rg (.global i)=.pointer (some ⟨i,0,none⟩):=nr rfl
theorem M0:eq' sl rg (.func i)=.func (.func i) #[] #[]:=nr rfl
theorem M3:OY ρ none=none:=nr rfl
theorem M4:OY ρ (some x)=some (ρ x):=nr rfl
theorem VY:bE (.bool true)=some true:=nr rfl
theorem VZ:bE (.bool false)=some false:=nr rfl
theorem M5{α β:Type}{f:α→β}:mp f []=[]:=nr rfl
theorem Ih{α β:Type}{f:α→β}{x:α}{l:List α}:mp f (x::l)=f x::mp f l:=nr rfl
theorem Rk{ps:Array (Nat×Operand)}:MX ρ ps=mp (fun p=>(p.1,ρ p.2)) ps.toList:=nr rfl
theorem M6{α:Type}(l:List α):app l []=l:=by rw[fV,List.append_nil]
theorem V2:Ri i .norm=.norm:=nr rfl
theorem V3:Ri i (.exit j)=if(j==i)=true then .norm else .exit j:=cb
theorem V4:Ri i (.goto j)=.goto j:=nr rfl
theorem V5:Ri i .ret=.ret:=nr rfl
theorem V6:Kd.out .norm s=.norm s:=nr rfl
theorem V7:Kd.out (.exit i) s=.exit i s:=nr rfl
theorem V8:Kd.out (.goto i) s=.goto i s:=nr rfl
theorem V9:Kd.out .ret s=.ret s:=nr rfl
theorem Rl:qT .pl=.pl:=nr rfl
theorem Rm:qT (.dr O acc)=.dr O (cl 0::acc):=nr rfl
theorem Rp:zC .pl cs=.pl:=nr rfl
theorem Rq:zC (.dr O acc) cs=.dr O (cs::acc):=nr rfl
theorem Ru:hX .pl H=H:=nr rfl
theorem Rv:hX (.dr O acc) H=hN H:=nr rfl
theorem Rw:hY .pl H H'=H':=nr rfl
theorem Rx:hY (.dr O acc) H H'=hM H H':=nr rfl
theorem V':lS [] q=q:=nr rfl
theorem V_:lS (i::p) q=lS p (i::q):=nr rfl
theorem Wd:kO P X B [] E=E:=nr rfl
theorem We:kO P X B (.sq p c::st) E=pG P X (sub B (lS p [])) (kO P X B st E):=nr rfl
theorem Wh:kO P X B (.sj p::st) E=pG P X (sub B (lS p [])) (kO P X B st E):=nr rfl
theorem Wi:kO P X B (.bk i::st) E=nL i (kO P X B st E):=nr rfl
theorem Wj{g:Option (Nat×Bool)}:UR (⟨d,o,ty,pos,MZ,g⟩::l) 0=d:=nr rfl
theorem Wk{o:Oper}:UR (o::l) (j +1)=UR l j:=nr rfl
theorem Ry:ny [] i=false:=nr rfl
theorem M7:ny (j::sk) i=if(j==i)=true then true else ny sk i:=cb
theorem M8:JY sk none=sk:=nr rfl
theorem M9:JY sk (some i)=i::sk:=nr rfl
theorem Rz:dW [] i=[]:=nr rfl
theorem M_:dW (j::sk) i=if(j==i)=true then dW sk i else j::dW sk i:=cb
theorem Na:bQ sk (some i)=dW sk i:=nr rfl
theorem Nb:bQ sk none=sk:=nr rfl
theorem RA:oz true true=true:=nr rfl
theorem RB:oz true false=false:=nr rfl
theorem RD:oz false true=false:=nr rfl
theorem RE:oz false false=true:=nr rfl
theorem Nc:R P X nl nt B (n +1) (.co .skip p) st sl rg H E=R P X nl nt B n (.ou .norm) st sl rg H E:=rfl
theorem RF:R P X nl nt B (n +1) (.co (.region i (List.toArray l) false) p) st sl rg H E=R P X nl nt B n (.op l l .pl []) st sl [] H E:=rfl
theorem TR(h:(bW (List.toArray l)&&eB (List.toArray l))=true):R P X nl nt B (n +1) (.co (.region i (List.toArray l) true) p) st sl rg H E=R P X nl nt B n (.op l l (.dr (opsOf (sub B (lS p []))) []) []) st sl [] H E:=by
 show((bW (List.toArray l)&&eB (List.toArray l))=true∧R P X nl nt B n (.op l l (.dr (opsOf (sub B (lS p []))) []) []) st sl [] H E)=_
 rw[h];simp
theorem TS(h:tu a b=true):R P X nl nt B (n +1) (.co (.seq a b) p) st sl rg H E=R P X nl nt B n (.co a (0::p)) (.sj (1::p)::st) sl rg H E:=by
 show R P X nl nt B n (.co a (0::p)) (au (tu a b) _ _::st) sl rg H E=_;rw[h];rfl
theorem TT(h:tu a b=false):R P X nl nt B (n +1) (.co (.seq a b) p) st sl rg H E=R P X nl nt B n (.co a (0::p)) (.sq (1::p) b::st) sl rg H E:=by
 show R P X nl nt B n (.co a (0::p)) (au (tu a b) _ _::st) sl rg H E=_;rw[h];rfl
theorem Nf:R P X nl nt B (n +1) (.co (.cond x a b) p) st sl rg H E=R P X nl nt B n (.cd (bE (eq' sl rg x)) a b p) st sl rg H E:=rfl
theorem Ii:R P X nl nt B (n +1) (.co (.block i a) p) st sl rg H E=R P X nl nt B n (.co a (0::p)) (.bk i::st) sl rg H E:=rfl
theorem Ng:R P X nl nt B (n +1) (.co (.loop a) p) st sl rg H E=bC P X (.loop (sub B (lS (0::p) []))) (S nl nt sl rg H) (kO P X B st E):=rfl
theorem Ij:R P X nl nt B (n +1) (.co (.scope a) p) st sl rg H E=bC P X (.scope (sub B (lS (0::p) []))) (S nl nt sl rg H) (kO P X B st E):=rfl
theorem Nh:R P X nl nt B (n +1) (.co (.exit i) p) st sl rg H E=R P X nl nt B n (.ou (.exit i)) st sl rg H E:=rfl
theorem Ni:R P X nl nt B (n +1) (.co (.goto i) p) st sl rg H E=R P X nl nt B n (.ou (.goto i)) st sl rg H E:=rfl
theorem Ik:R P X nl nt B (n +1) (.co (.label i) p) st sl rg H E=R P X nl nt B n (.ou .norm) st sl rg H E:=rfl
theorem RG:R P X nl nt B (n +1) (.co .ret p) st sl rg H E=R P X nl nt B n (.ou .ret) st sl rg H E:=rfl
theorem RI:R P X nl nt B (n +1) (.cd (some true) a b p) st sl rg H E=R P X nl nt B n (.co a (0::p)) st sl rg H E:=rfl
theorem RJ:R P X nl nt B (n +1) (.cd (some false) a b p) st sl rg H E=R P X nl nt B n (.co b (1::p)) st sl rg H E:=rfl
theorem RL:R P X nl nt B (n +1) (.cd (bE v) a b p) st sl rg H E=yu (bE v) (R P X nl nt B n (.co a (0::p)) st sl rg H E) (R P X nl nt B n (.co b (1::p)) st sl rg H E):=rfl
theorem TU:R P X nl nt B (n +1) (.ou k) [] sl rg H E=E (k.out (S nl nt sl rg H)):=by cases k<;>rfl
theorem Nj:R P X nl nt B (n +1) (.ou .norm) (.sq p c::st) sl rg H E=R P X nl nt B n (.co c p) st sl rg H E:=rfl
theorem Nk:R P X nl nt B (n +1) (.ou .norm) (.sj p::st) sl rg H E=bC P X (sub B (lS p [])) (S nl nt sl rg H) (kO P X B st E):=rfl
theorem FT:R P X nl nt B (n +1) (.ou k) (.bk i::st) sl rg H E=R P X nl nt B n (.ou (Ri i k)) st sl rg H E:=by cases k<;>rfl
theorem Nl:R P X nl nt B (n +1) (.ou (.exit i)) (.sq p c::st) sl rg H E=R P X nl nt B n (.ou (.exit i)) st sl rg H E:=rfl
theorem Nn:R P X nl nt B (n +1) (.ou (.exit i)) (.sj p::st) sl rg H E=R P X nl nt B n (.ou (.exit i)) st sl rg H E:=rfl
theorem Nq:R P X nl nt B (n +1) (.ou (.goto i)) (.sq p c::st) sl rg H E=R P X nl nt B n (.ou (.goto i)) st sl rg H E:=rfl
theorem Nr:R P X nl nt B (n +1) (.ou (.goto i)) (.sj p::st) sl rg H E=R P X nl nt B n (.ou (.goto i)) st sl rg H E:=rfl
theorem Ns:R P X nl nt B (n +1) (.ou .ret) (.sq p c::st) sl rg H E=R P X nl nt B n (.ou .ret) st sl rg H E:=rfl
theorem Nt:R P X nl nt B (n +1) (.ou .ret) (.sj p::st) sl rg H E=R P X nl nt B n (.ou .ret) st sl rg H E:=rfl
theorem RN:R P X nl nt B (n +1) (.op L [] .pl sk) st sl rg H E=R P X nl nt B n (.ou .norm) st sl rg H E:=rfl
theorem RO:R P X nl nt B (n +1) (.op L [] (.dr O acc) sk) st sl rg H E=(dH O acc=true∧R P X nl nt B n (.ou .norm) st sl rg H E):=rfl
theorem Wl:R P X nl nt B (n +1) (.op L (⟨d,o,ty,pos,MZ,none⟩::l) m sk) st sl rg H E=R P X nl nt B n (.ex L l m sk d o) st sl rg H E:=rfl
theorem RP:R P X nl nt B (n +1) (.op L (⟨d,o,ty,pos,MZ,some (j,gb)⟩::l) m sk) st sl rg H E=R P X nl nt B n (.gu L l m sk d o gb (UR L j)) st sl rg H E:=rfl
theorem Wm:R P X nl nt B (n +1) (.gu L l m sk d o gb (some t)) st sl rg H E=R P X nl nt B n (.gv L l m sk d o gb t (ny sk t) (bE (lk sl rg t))) st sl rg H E:=rfl
theorem RQ{v:Option Bool}:R P X nl nt B (n +1) (.gv L l m sk d o gb t true v) st sl rg H E=R P X nl nt B n (.ge L l m sk d o false) st sl rg H E:=rfl
theorem RS:R P X nl nt B (n +1) (.gv L l m sk d o gb t false (some true)) st sl rg H E=R P X nl nt B n (.pt (hs sl t) t (.bool true) (.ge L l m (dW sk t) d o (oz true gb))) st sl rg H E:=rfl
theorem RU:R P X nl nt B (n +1) (.gv L l m sk d o gb t false (some false)) st sl rg H E=R P X nl nt B n (.pt (hs sl t) t (.bool false) (.ge L l m (dW sk t) d o (oz false gb))) st sl rg H E:=rfl
theorem RV:R P X nl nt B (n +1) (.gv L l m sk d o gb t false (bE v)) st sl rg H E=yu (bE v) (R P X nl nt B n (.pt (hs sl t) t (.bool true) (.ge L l m (dW sk t) d o (oz true gb))) st sl rg H E) (R P X nl nt B n (.pt (hs sl t) t (.bool false) (.ge L l m (dW sk t) d o (oz false gb))) st sl rg H E):=rfl
theorem RX:R P X nl nt B (n +1) (.ge L l m sk d o true) st sl rg H E=R P X nl nt B n (.ex L l m sk d o) st sl rg H E:=rfl
theorem RY:R P X nl nt B (n +1) (.ge L l m sk d o false) st sl rg H E=R P X nl nt B n (.af L l (qT m) (JY sk d) d undef) st sl rg H E:=rfl
theorem Nu:R P X nl nt B (n +1) (.ex L l m sk d (.move x)) st sl rg H E=R P X nl nt B n (.af L l (qT m) (bQ sk d) d (eq' sl rg x)) st sl rg H E:=rfl
theorem D3:R P X nl nt B (n +1) (.ex L l m sk d (.assign x)) st sl rg H E=R P X nl nt B n (.af L l (qT m) (bQ sk d) d (eq' sl rg x)) st sl rg H E:=rfl
theorem Wo{f:Fn}{XT ps2:Array Operand}:R P X nl nt B (n +1) (.ex L l m sk d (.makeFunc f XT ps2)) st sl rg H E=R P X nl nt B n (.af L l (qT m) (bQ sk d) d (.func f ⟨mp (eq' sl rg) XT.toList⟩ ⟨mp (eq' sl rg) ps2.toList⟩)) st sl rg H E:=rfl
theorem Nv:R P X nl nt B (n +1) (.ex L l m sk d (.pick x y z)) st sl rg H E=R P X nl nt B n (.pk L l (qT m) (bQ sk d) d (bE (eq' sl rg x)) (eq' sl rg y) (eq' sl rg z)) st sl rg H E:=rfl
theorem RZ:R P X nl nt B (n +1) (.pk L l m sk d (some true) v w) st sl rg H E=R P X nl nt B n (.af L l m sk d v) st sl rg H E:=rfl
theorem R4:R P X nl nt B (n +1) (.pk L l m sk d (some false) v w) st sl rg H E=R P X nl nt B n (.af L l m sk d w) st sl rg H E:=rfl
theorem R5{u:Value}:R P X nl nt B (n +1) (.pk L l m sk d (bE u) v w) st sl rg H E=PU (xC u v w) fun v=>R P X nl nt B n (.af L l m sk d v) st sl rg H E:=rfl
theorem R6:R P X nl nt B (n +1) (.af L l m sk none v) st sl rg H E=R P X nl nt B n (.op L l m sk) st sl rg H E:=rfl
theorem R7:R P X nl nt B (n +1) (.af L l m sk (some t) v) st sl rg H E=R P X nl nt B n (.pt (hs sl t) t v (.op L l m sk)) st sl rg H E:=rfl
theorem R8:R P X nl nt B (n +1) (.pt true t v nx) st sl rg H E=R P X nl nt B n nx st (up sl t v) rg H E:=rfl
theorem R9:R P X nl nt B (n +1) (.pt false t v nx) st sl rg H E=R P X nl nt B n nx st sl ((t,v)::rg) H E:=rfl
theorem l_call{c:Call}:qB P (.call c) ρ H H'=Rh H H':=nr rfl
theorem Il:qB P (.store t x y) ρ H H'=ZA (ρ x) (ρ y) H H':=nr rfl
theorem Im:qB P (.alloc t) ρ H H'=UQ H H':=nr rfl
theorem R_:qB P (.box t x) ρ H H'=UQ H H':=nr rfl
theorem Wp{ps:Array (Nat×Operand)}:qB P (.buildSlice t i ps) ρ H H'=UQ H H':=nr rfl
theorem Wq:qB P (.makeSlice t x y) ρ H H'=UQ H H':=nr rfl
theorem Ws{r:Option Operand}:qB P (.makeMap t r) ρ H H'=UQ H H':=nr rfl
theorem D4{ok:Bool}:qB P (.lookup t x y ok) ρ H H'=Rh H H':=nr rfl
theorem l_conv:qB P (.convert t u x) ρ H H'=Rh H H':=nr rfl
theorem Nw{ok:Bool}:qB P (.next x ok) ρ H H'=Rh H H':=nr rfl
theorem Io:qB P (.range t x) ρ H H'=Rh H H':=nr rfl
theorem Wt:qB P (.mapUpdate t x y z) ρ H H'=Rh H H':=nr rfl
theorem Ip:R P X nl nt B (n +1) (.ex L l m sk d (.alloc t)) st sl rg H E=ME (oU P t (hX m H)) (fun v H'=>R P X nl nt B n (.af L l (zC m (qB P (.alloc t) (eq' sl rg) H H')) (bQ sk d) d v) st sl rg (hY m H H') E):=rfl
theorem Sa:R P X nl nt B (n +1) (.ex L l m sk d (.box t x)) st sl rg H E=ME (Bi t (eq' sl rg x) (hX m H)) (fun v H'=>R P X nl nt B n (.af L l (zC m (qB P (.box t x) (eq' sl rg) H H')) (bQ sk d) d v) st sl rg (hY m H H') E):=rfl
theorem Iq{ps:Array (Nat×Operand)}:R P X nl nt B (n +1) (.ex L l m sk d (.build t ps)) st sl rg H E=PU (oP P t (MX (eq' sl rg) ps)) (fun v=>R P X nl nt B n (.af L l (qT m) (bQ sk d) d v) st sl rg H E):=rfl
theorem tX{ps:Array (Nat×Operand)}:R P X nl nt B (n +1) (.ex L l m sk d (.buildSlice t i ps)) st sl rg H E=ME (h_ P t i (MX (eq' sl rg) ps) (hX m H)) (fun v H'=>R P X nl nt B n (.af L l (zC m (qB P (.buildSlice t i ps) (eq' sl rg) H H')) (bQ sk d) d v) st sl rg (hY m H H') E):=rfl
theorem D5:R P X nl nt B (n +1) (.ex L l m sk d (.insert t x y z)) st sl rg H E=ME (gT P t (eq' sl rg x) (eq' sl rg y) (eq' sl rg z) (hX m H)) (fun v H'=>R P X nl nt B n (.af L l (zC m (qB P (.insert t x y z) (eq' sl rg) H H')) (bQ sk d) d v) st sl rg (hY m H H') E):=rfl
theorem Ny:R P X nl nt B (n +1) (.ex L l m sk d (.load t x)) st sl rg H E=ME (jg P t (eq' sl rg x) (hX m H)) (fun v H'=>R P X nl nt B n (.af L l (zC m (qB P (.load t x) (eq' sl rg) H H')) (bQ sk d) d v) st sl rg (hY m H H') E):=rfl
theorem Ir:R P X nl nt B (n +1) (.ex L l m sk d (.store t x y)) st sl rg H E=ME (lg P t (eq' sl rg x) (eq' sl rg y) (hX m H)) (fun v H'=>R P X nl nt B n (.af L l (zC m (qB P (.store t x y) (eq' sl rg) H H')) (bQ sk d) d v) st sl rg (hY m H H') E):=rfl
theorem yM:R P X nl nt B (n +1) (.ex L l m sk d (.nilCheck x)) st sl rg H E=PU (Bh (eq' sl rg x)) (fun v=>R P X nl nt B n (.af L l (qT m) (bQ sk d) d v) st sl rg H E):=rfl
theorem Iu{bo:BinOp}{u:TypeId}:R P X nl nt B (n +1) (.ex L l m sk d (.binOp bo t x y u)) st sl rg H E=PU (bq P bo t x y (eq' sl rg x) (eq' sl rg y)) (fun v=>R P X nl nt B n (.af L l (qT m) (bQ sk d) d v) st sl rg H E):=rfl
theorem Nz{uo:UnOp}:R P X nl nt B (n +1) (.ex L l m sk d (.unOp uo t x)) st sl rg H E=PU (bD (Op.unary uo (eq' sl rg x))) (fun v=>R P X nl nt B n (.af L l (qT m) (bQ sk d) d v) st sl rg H E):=rfl
theorem AQ{u:TypeId}:R P X nl nt B (n +1) (.ex L l m sk d (.convert t u x)) st sl rg H E=CV (oC P t u (eq' sl rg x)) (fK P t u (eq' sl rg x) (hX m H)) (fun v=>R P X nl nt B n (.af L l (qT m) (bQ sk d) d v) st sl rg H E) (fun v H'=>R P X nl nt B n (.af L l (zC m (qB P (.convert t u x) (eq' sl rg) H H')) (bQ sk d) d v) st sl rg (hY m H H') E):=rfl
theorem oD:R P X nl nt B (n +1) (.ex L l m sk d (.makeInterface t x)) st sl rg H E=PU (zG P t (eq' sl rg x)) (fun v=>R P X nl nt B n (.af L l (qT m) (bQ sk d) d v) st sl rg H E):=rfl
theorem AR{r:Option Operand}:R P X nl nt B (n +1) (.ex L l m sk d (.makeMap t r)) st sl rg H E=ME (jW P t (OY (eq' sl rg) r) (hX m H)) (fun v H'=>R P X nl nt B n (.af L l (zC m (qB P (.makeMap t r) (eq' sl rg) H H')) (bQ sk d) d v) st sl rg (hY m H H') E):=rfl
theorem vW:R P X nl nt B (n +1) (.ex L l m sk d (.makeSlice t x y)) st sl rg H E=ME (fB P t (eq' sl rg x) (eq' sl rg y) (hX m H)) (fun v H'=>R P X nl nt B n (.af L l (zC m (qB P (.makeSlice t x y) (eq' sl rg) H H')) (bQ sk d) d v) st sl rg (hY m H H') E):=rfl
theorem Iv{lo:Option Operand}{hi:Option Operand}{mx:Option Operand}:R P X nl nt B (n +1) (.ex L l m sk d (.slice t x lo hi mx)) st sl rg H E=PU (k_ P t (eq' sl rg x) (OY (eq' sl rg) lo) (OY (eq' sl rg) hi) (OY (eq' sl rg) mx)) (fun v=>R P X nl nt B n (.af L l (qT m) (bQ sk d) d v) st sl rg H E):=rfl
theorem vX:R P X nl nt B (n +1) (.ex L l m sk d (.fieldAddr t x i)) st sl rg H E=PU (g_ P t (eq' sl rg x) i) (fun v=>R P X nl nt B n (.af L l (qT m) (bQ sk d) d v) st sl rg H E):=rfl
theorem Iw:R P X nl nt B (n +1) (.ex L l m sk d (.field t x i)) st sl rg H E=PU (oO P t (eq' sl rg x) i) (fun v=>R P X nl nt B n (.af L l (qT m) (bQ sk d) d v) st sl rg H E):=rfl
theorem vY:R P X nl nt B (n +1) (.ex L l m sk d (.indexAddr t x y)) st sl rg H E=PU (gm P t (eq' sl rg x) (eq' sl rg y)) (fun v=>R P X nl nt B n (.af L l (qT m) (bQ sk d) d v) st sl rg H E):=rfl
theorem Iy:R P X nl nt B (n +1) (.ex L l m sk d (.index t x y)) st sl rg H E=PU (oN P t (eq' sl rg x) (eq' sl rg y)) (fun v=>R P X nl nt B n (.af L l (qT m) (bQ sk d) d v) st sl rg H E):=rfl
theorem D6{ok:Bool}:R P X nl nt B (n +1) (.ex L l m sk d (.lookup t x y ok)) st sl rg H E=ME (kG P t (eq' sl rg x) (eq' sl rg y) ok (hX m H)) (fun v H'=>R P X nl nt B n (.af L l (zC m (qB P (.lookup t x y ok) (eq' sl rg) H H')) (bQ sk d) d v) st sl rg (hY m H H') E):=rfl
theorem vZ:R P X nl nt B (n +1) (.ex L l m sk d (.mapUpdate t x y z)) st sl rg H E=ME (gT P t (eq' sl rg x) (eq' sl rg y) (eq' sl rg z) (hX m H)) (fun v H'=>R P X nl nt B n (.af L l (zC m (qB P (.mapUpdate t x y z) (eq' sl rg) H H')) (bQ sk d) d v) st sl rg (hY m H H') E):=rfl
theorem Iz:R P X nl nt B (n +1) (.ex L l m sk d (.range t x)) st sl rg H E=ME (uI P t (eq' sl rg x) (hX m H)) (fun v H'=>R P X nl nt B n (.af L l (zC m (qB P (.range t x) (eq' sl rg) H H')) (bQ sk d) d v) st sl rg (hY m H H') E):=rfl
theorem NA{ok:Bool}:R P X nl nt B (n +1) (.ex L l m sk d (.next x ok)) st sl rg H E=ME (Ab (eq' sl rg x) ok (hX m H)) (fun v H'=>R P X nl nt B n (.af L l (zC m (qB P (.next x ok) (eq' sl rg) H H')) (bQ sk d) d v) st sl rg (hY m H H') E):=rfl
theorem AU:R P X nl nt B (n +1) (.ex L l m sk d (.extract x i)) st sl rg H E=PU (jV (eq' sl rg x) i) (fun v=>R P X nl nt B n (.af L l (qT m) (bQ sk d) d v) st sl rg H E):=rfl
theorem NB{args:Array Operand}{ats:Array TypeId}:R P X nl nt B (n +1) (.ex L l m sk d (.call ⟨.value (.func i),args,ats⟩)) st sl rg H E=aj P X i (mp (eq' sl rg) args.toList) (hX m H) (fun v H'=>R P X nl nt B n (.af L l (zC m (qB P (.call ⟨.value (.func i),args,ats⟩) (eq' sl rg) H H')) (bQ sk d) d v) st sl rg (hY m H H') E):=by
 show aj P X i (app [] (app (mp (eq' sl rg) args.toList) [])) (hX m H) _=_
 rw[M6];rfl
theorem Sb{args:Array Operand}{ats:Array TypeId}:R P X nl nt B (n +1) (.ex L l m sk d (.call ⟨.value (.tmp i),args,ats⟩)) st sl rg H E=lH P X (VF (lk sl rg i)) (mp (eq' sl rg) args.toList) (hX m H) (fun v H'=>R P X nl nt B n (.af L l (zC m (qB P (.call ⟨.value (.tmp i),args,ats⟩) (eq' sl rg) H H')) (bQ sk d) d v) st sl rg (hY m H H') E):=rfl
theorem IA{args:Array Operand}{ats:Array TypeId}:R P X nl nt B (n +1) (.ex L l m sk d (.call ⟨.value (.const w),args,ats⟩)) st sl rg H E=lH P X (VF w) (mp (eq' sl rg) args.toList) (hX m H) (fun v H'=>R P X nl nt B n (.af L l (zC m (qB P (.call ⟨.value (.const w),args,ats⟩) (eq' sl rg) H H')) (bQ sk d) d v) st sl rg (hY m H H') E):=rfl
theorem Sc{nm:String}{args:Array Operand}{ats:Array TypeId}:R P X nl nt B (n +1) (.ex L l m sk d (.call ⟨.invoke x nm,args,ats⟩)) st sl rg H E=lH P X (ah (nM (eq' sl rg x)) fun p=>ah (methodOf P p.1 nm) fun q=>some (q.1,[p.2],[])) (mp (eq' sl rg) args.toList) (hX m H) (fun v H'=>R P X nl nt B n (.af L l (zC m (qB P (.call ⟨.invoke x nm,args,ats⟩) (eq' sl rg) H H')) (bQ sk d) d v) st sl rg (hY m H H') E):=rfl
theorem Wu{bi:Builtin}{args:Array Operand}{ats:Array TypeId}:R P X nl nt B (n +1) (.ex L l m sk d (.call ⟨.builtin bi,args,ats⟩)) st sl rg H E=pF bi ats.toList (mp (eq' sl rg) args.toList) P (hX m H) (fun v=>R P X nl nt B n (.af L l (qT m) (bQ sk d) d v) st sl rg H E) (fun v H'=>R P X nl nt B n (.af L l (zC m (qB P (.call ⟨.builtin bi,args,ats⟩) (eq' sl rg) H H')) (bQ sk d) d v) st sl rg (hY m H H') E):=rfl
end eqs
theorem EE:type_of%(J @VS<|J @VT<|J @VU<|J @VV<|J @VW<|J @VX<|J @wL<|J @wM<|J @Rj<|J @Ig<|J @DZ<|J @M0<|J @M3<|J @M4<|J @VY<|J @VZ<|J @M5<|J @Ih<|J @Rk<|J @V2<|J @V3<|J @V4<|J @V5<|J @V6<|J @V7<|J @V8<|J @V9<|J @Rl<|J @Rm<|J @Rq<|J @Ru<|J @Rv<|J @Rw<|J @Rx<|J @V'<|J @V_<|J @Wd<|J @We<|J @Wh<|J @Wi<|J @Wj<|J @Wk<|J @Ry<|J @M7<|J @M8<|J @M9<|J @Rz<|J @M_<|J @Na<|J @Nb<|J @RA<|J @RB<|J @RD<|J @RE<|J @RI<|J @RJ<|J @RL<|J @TU<|J @Nj<|J @Nk<|J @FT<|J @Nl<|J @Nn<|J @Nq<|J @Nr<|J @Ns<|J @Nt<|J @RN<|J @RO<|J @Wl<|J @RP<|J @Wm<|J @RQ<|J @RS<|J @RU<|J @RV<|J @RX<|J @RY<|J @Nu<|J @D3<|J @Wo<|J @Nv<|J @RZ<|J @R4<|J @R5<|J @R6<|J @R7<|J @R8<|J @R9<|J @l_call<|J @Il<|J @Im<|J @R_<|J @Wp<|J @Wq<|J @Ws<|J @D4<|J @l_conv<|J @Nw<|J @Io<|J @Wt<|J @Ip<|J @Sa<|J @Iq<|J @tX<|J @D5<|J @Ny<|J @Ir<|J @yM<|J @Iu<|J @Nz<|J @AQ<|J @oD<|J @AR<|J @vW<|J @Iv<|J @vX<|J @Iw<|J @vY<|J @Iy<|J @D6<|J @vZ<|J @Iz<|J @NA<|J @AU<|J @NB<|J @Sb<|J @IA<|J @Sc @Wu):=J @VS<|J @VT<|J @VU<|J @VV<|J @VW<|J @VX<|J @wL<|J @wM<|J @Rj<|J @Ig<|J @DZ<|J @M0<|J @M3<|J @M4<|J @VY<|J @VZ<|J @M5<|J @Ih<|J @Rk<|J @V2<|J @V3<|J @V4<|J @V5<|J @V6<|J @V7<|J @V8<|J @V9<|J @Rl<|J @Rm<|J @Rq<|J @Ru<|J @Rv<|J @Rw<|J @Rx<|J @V'<|J @V_<|J @Wd<|J @We<|J @Wh<|J @Wi<|J @Wj<|J @Wk<|J @Ry<|J @M7<|J @M8<|J @M9<|J @Rz<|J @M_<|J @Na<|J @Nb<|J @RA<|J @RB<|J @RD<|J @RE<|J @RI<|J @RJ<|J @RL<|J @TU<|J @Nj<|J @Nk<|J @FT<|J @Nl<|J @Nn<|J @Nq<|J @Nr<|J @Ns<|J @Nt<|J @RN<|J @RO<|J @Wl<|J @RP<|J @Wm<|J @RQ<|J @RS<|J @RU<|J @RV<|J @RX<|J @RY<|J @Nu<|J @D3<|J @Wo<|J @Nv<|J @RZ<|J @R4<|J @R5<|J @R6<|J @R7<|J @R8<|J @R9<|J @l_call<|J @Il<|J @Im<|J @R_<|J @Wp<|J @Wq<|J @Ws<|J @D4<|J @l_conv<|J @Nw<|J @Io<|J @Wt<|J @Ip<|J @Sa<|J @Iq<|J @tX<|J @D5<|J @Ny<|J @Ir<|J @yM<|J @Iu<|J @Nz<|J @AQ<|J @oD<|J @AR<|J @vW<|J @Iv<|J @vX<|J @Iw<|J @vY<|J @Iy<|J @D6<|J @vZ<|J @Iz<|J @NA<|J @AU<|J @NB<|J @Sb<|J @IA<|J @Sc @Wu
theorem ED:type_of%(J @VP<|J @VQ<|J @Rp<|J @Nc<|J @RF<|J @Nf<|J @Ii<|J @Ng<|J @Ij<|J @Nh<|J @Ni<|J @Ik @RG):=J @VP<|J @VQ<|J @Rp<|J @Nc<|J @RF<|J @Nf<|J @Ii<|J @Ng<|J @Ij<|J @Nh<|J @Ni<|J @Ik @RG
section sound
variable{P:Program}{X:Xt}{nl nt:Nat}{B:Code}{sl:Fr}{rg:Rs}{H H':ag}{s:St}{st:List Fm}{E:Out→Prop}{t d u:Nat}{v:Value}
def KO(nl nt:Nat)(sl:Fr):Prop:=(∀t,hs sl t=aS nl t)∧∀t,aS nl t=true→t<nt
theorem yN{i t:Nat}(h:i≠t):Nat.beq i t=false:=by
 rw[←Bool.not_eq_true];exact fun g=>h (Nat.eq_of_beq_eq_true g)
theorem Sd:hs (up sl t v) u=hs sl u:=by
 induction sl with
 |n=>rfl
 |c i w l ih=>
  show hs (au (Nat.beq i t) (.c i v l) (.c i w (up l t v))) u=au (Nat.beq i u) true (hs l u)
  cases Nat.beq i t
  ·show au (Nat.beq i u) true (hs (up l t v) u)=_
   rw[ih]
  ·rfl
theorem KO.up(h:KO nl nt sl):KO nl nt (up sl t v):=⟨fun u=>by rw[Sd];exact h.1 u,h.2⟩
theorem yO:lk sl rg t=au (hs sl t) ((YK sl).get top t) (look rg t):=by
 induction sl with
 |n=>rfl
 |c i v l ih=>
  show au (Nat.beq i t) v (lk l rg t)=au (au (Nat.beq i t) true (hs l t)) (((YK l).set top i v).get top t) (look rg t)
  rw[Tr.gQ]
  by_cases e:i=t
  ·subst e;rw[show Nat.beq i i=true from Nat.beq_refl i,if_pos rfl];rfl
  ·rw[yN e,if_neg (fun h=>e h.symm),ih];rfl
theorem nY(h:KO nl nt sl)(t:Nat):aO (S nl nt sl rg H) t=lk sl rg t:=by
 rw[yO,h.1];rfl
theorem Wv:lk (up sl d v) rg t=au (hs sl d&&Nat.beq d t) v (lk sl rg t):=by
 induction sl with
 |n=>rfl
 |c i w l ih=>
  show lk (au (Nat.beq i d) (.c i v l) (.c i w (up l d v))) rg t=au (au (Nat.beq i d) true (hs l d)&&Nat.beq d t) v (au (Nat.beq i t) w (lk l rg t))
  by_cases e:i=d
  ·subst e
   rw[show Nat.beq i i=true from Nat.beq_refl i]
   show au (Nat.beq i t) v (lk l rg t)=au (Nat.beq i t) v (au (Nat.beq i t) w (lk l rg t))
   cases Nat.beq i t<;>rfl
  ·rw[yN e]
   show au (Nat.beq i t) w (lk (up l d v) rg t)=au (hs l d&&Nat.beq d t) v (au (Nat.beq i t) w (lk l rg t))
   rw[ih]
   by_cases e2:i=t
   ·subst e2
    rw[yN (fun h=>e h.symm),Bool.and_false];rfl
   ·rw[yN e2];rfl
theorem Ww(hk:KO nl nt sl)(he:dQ s (S nl nt sl rg H))(d:Nat)(v:Value)(H':ag):dQ (fC s d v H') (S nl nt (au (hs sl d) (up sl d v) sl) (au (hs sl d) rg ((d,v)::rg)) H'):=by
 refine(he.fC d v H').trans ?_
 obtain⟨a1,a2,a3,a4⟩:=xh (S nl nt sl rg H) d v H'
 refine⟨a1,a2,a3,a4,fun t=>?_⟩
 have hw:wr (S nl nt sl rg H) d=true:=by
  show au (aS nl d) (Nat.ble (Nat.succ d) nt) true=true
  cases hb:aS nl d with
  |true=>exact Nat.ble_eq_true_of_le (hk.2 d hb)
  |false=>rfl
 rw[kX,hw,nY hk]
 cases hh:hs sl d with
 |true=>
  show _=aO (S nl nt (up sl d v) rg H') t
  rw[nY hk.up,Wv,hh]
  by_cases e:d=t
  ·subst e;rw[if_pos ⟨rfl,rfl⟩,show Nat.beq d d=true from Nat.beq_refl d];rfl
  ·rw[if_neg (fun h=>e h.1),yN e];rfl
 |false=>
  show _=aO (S nl nt sl ((d,v)::rg) H') t
  rw[nY hk,yO,yO,qx]
  by_cases e:d=t
  ·subst e;rw[if_pos ⟨rfl,rfl⟩,if_pos rfl,hh];rfl
  ·rw[if_neg (fun h=>e h.1),if_neg e]
theorem YL(hk:KO nl nt sl)(he:dQ s (S nl nt sl rg H)):wr s d=true:=by
 show au (aS s.nl d) (Nat.ble (Nat.succ d) s.nt) true=true
 rw[he.nl,he.nt]
 show au (aS nl d) (Nat.ble (Nat.succ d) nt) true=true
 cases hb:aS nl d with
 |true=>exact Nat.ble_eq_true_of_le (hk.2 d hb)
 |false=>rfl
theorem KO.of(h:KB nl nt sl=true):KO nl nt sl:=by
 unfold KB at h
 rw[Bool.and_eq_true,Bool.and_eq_true]at h
 obtain⟨⟨h1,h2⟩,h3⟩:=h
 have hn:nl<2^nt:=Nat.le_of_ble_eq_true h1
 have hb:∀t,nt≤t→aS nl t=false:=fun t ht=>by
  show Nat.beq (Nat.mod (Nat.shiftRight nl t) 2) 1=false
  have:Nat.shiftRight nl t=0:=by
   show nl>>>t=0
   rw[Nat.shiftRight_eq_div_pow]
   exact Nat.div_eq_of_lt (Nat.lt_of_lt_of_le hn (Nat.pow_le_pow_right aa ht))
  rw[this];rfl
 have hq:∀t,t<nt→hs sl t=aS nl t:=by
  intro t ht
  clear h1 h3 hn hb
  induction nt with
  |zero=>omega
  |succ n ih=>
   replace h2:(au (hs sl n) (aS nl n) (!(aS nl n))&&_)=true:=h2
   rw[Bool.and_eq_true]at h2
   by_cases e:t=n
   ·subst e
    have:=h2.1
    cases h5:hs sl t with
    |true=>rw[h5]at this;exact this.symm
    |false=>rw[h5,bL]at this;rw[Bool.not_eq_true']at this;exact this.symm
   ·exact ih h2.2 aa
 have hz:∀t,nt≤t→hs sl t=false:=by
  intro t ht
  clear h1 h2 hn hb hq
  induction sl with
  |n=>rfl
  |c i w l ih=>
   replace h3:(Nat.ble (Nat.succ i) nt&&_)=true:=h3
   rw[Bool.and_eq_true]at h3
   have:=Nat.le_of_ble_eq_true h3.1
   show au (Nat.beq i t) true (hs l t)=false
   rw[yN aa]
   exact ih h3.2
 refine⟨fun t=>?_,fun t ht=>?_⟩
 ·by_cases h:t<nt
  ·exact hq t h
  ·rw[hz t aa,hb t aa]
 ·by_cases h:t<nt
  ·exact h
  ·rw[hb t aa]at ht;cases ht
theorem NC{o:Op}{Kp:Value→Prop}{Km:Value→ag→Prop}:KA o P X s Kp Km=VO o P X (ev s) s.H Kp Km:=by
 cases o with
 |call c=>
  obtain⟨callee,args,ats⟩:=c
  cases callee with
  |builtin b=>cases b<;>rfl
  |_=>rfl
 |_=>rfl
theorem YM{q:Option Value}{K K':Value→Prop}(hp:∀v,K v→K' v)(h:PU q K):PU q K':=by
 cases q with
 |none=>exact h.elim
 |some v=>exact hp v h
theorem XU{q:Option (Value×ag)}{K K':Value→ag→Prop}(hp:∀v H,K v H→K' v H)(h:ME q K):ME q K':=by
 cases q with
 |none=>exact h.elim
 |some v=>exact hp _ _ h
theorem ZF{q:Option Value}{r:Option (Value×ag)}{Kp Wx:Value→Prop}{K K':Value→ag→Prop}(hp:∀v,Kp v→Wx v)(hm:∀v H,K v H→K' v H)(h:CV q r Kp K):CV q r Wx K':=by
 cases q with
 |none=>exact XU hm h
 |some v=>exact hp _ h
theorem ND{q:Option (FuncId×List Value×List Value)}{args:List Value}{K K':Value→ag→Prop}(hm:∀v H,K v H→K' v H)(h:lH P X q args H K):lH P X q args H K':=by
 cases q with
 |none=>exact h.elim
 |some v=>exact aj.mono (K:=K) h hm
theorem D7{o:Op}{ρ:Operand→Value}{Kp Wx:Value→Prop}{Km ZG:Value→ag→Prop}(hp:∀v,Kp v→Wx v)(hm:∀v H,Km v H→ZG v H)(h:VO o P X ρ H Kp Km):VO o P X ρ H Wx ZG:=by
 cases o with
 |call c=>
  obtain⟨callee,args,ats⟩:=c
  cases callee with
  |builtin b=>cases b<;>first|exact ZF hp hm h|exact YM hp h|exact XU hm h|exact False.elim h
  |value f=>exact ND hm h
  |invoke r n=>exact ND hm h
 |_=>first|exact hp _ h|exact ZF hp hm h|exact YM hp h|exact XU hm h|exact False.elim h
def KK(P:Program)(X:Xt)(B:Code)(st:List Fm)(E:Out→Prop)(o:Out):Prop:=∃o',nK o o'∧kO P X B st E o'
theorem bC.kk{c:Code}(h:bC P X c s (KK P X B st E)):bC P X c s (kO P X B st E):=by
 obtain⟨o,o',h1,h2,o2,h3,h4⟩:=h
 exact⟨o,o2,h1,h2.trans h3,h4⟩
def WM(P:Program)(X:Xt)(B:Code)(st:List Fm)(E:Out→Prop)(L l:List Oper)(m:Md)(s:St)(sk:List Nat):Prop:=
 @Md.rec (fun _=>Prop) (nA P X ⟨L⟩ l s sk (fun s=>KK P X B st E (.norm s))) (fun O acc=>FH P X ⟨L⟩ l s sk acc (fun s cls=>dH O cls=true∧KK P X B st E (.norm s))) m
def KG(P:Program)(X:Xt)(B:Code)(st:List Fm)(E:Out→Prop)(L l:List Oper)(m:Md)(d:Option Nat)(o:Op)(b:Bool)(s:St)(sk:List Nat):Prop:=
 @Md.rec (fun _=>Prop)
  (@Bool.rec (fun _=>Prop) (nA P X ⟨L⟩ l (bA s d undef s.H) (zM s sk d) (fun s=>KK P X B st E (.norm s)))
    (@Option.rec Call (fun _=>Prop) (KA o P X s (fun v=>nA P X ⟨L⟩ l (bA s d v s.H) (bQ sk d) (fun s=>KK P X B st E (.norm s))) (fun v H=>nA P X ⟨L⟩ l (bA s d v H) (bQ sk d) (fun s=>KK P X B st E (.norm s)))) (fun _=>False) (gp o)) b)
  (fun O acc=>@Bool.rec (fun _=>Prop) (FH P X ⟨L⟩ l (bA s d undef s.H) (zM s sk d) (cl 0::acc) (fun s cls=>dH O cls=true∧KK P X B st E (.norm s)))
   (KA o P X (aM s) (fun v=>FH P X ⟨L⟩ l (bA s d v s.H) (bQ sk d) (cl 0::acc) (fun s cls=>dH O cls=true∧KK P X B st E (.norm s))) (fun v H=>FH P X ⟨L⟩ l (bA s d v ⟨H.jc,H.next,dR s.H.low H.low⟩) (bQ sk d) (gH P o s H::acc) (fun s cls=>dH O cls=true∧KK P X B st E (.norm s)))) b) m
def Sem(P:Program)(X:Xt)(B:Code)(st:List Fm)(E:Out→Prop):Ct→St→Prop
 |.co c _,s=>bC P X c s (kO P X B st E)
 |.cd v a b _,s=>yu v (bC P X a s (kO P X B st E)) (bC P X b s (kO P X B st E))
 |.ou k,s=>∃s',dQ s s'∧kO P X B st E (k.out s')
 |.op L l m sk,s=>WM P X B st E L l m s sk
 |.gu L l m sk d o gb t,s=>@Option.rec Nat (fun _=>Prop) False (fun t=>@Bool.rec (fun _=>Prop)
  (yu (bE (aO s t)) (KG P X B st E L l m d o (oz true gb) (fC s t (.bool true) s.H) (dW sk t)) (KG P X B st E L l m d o (oz false gb) (fC s t (.bool false) s.H) (dW sk t)))
  (KG P X B st E L l m d o false s sk) (ny sk t)) t
 |.gv L l m sk d o gb t e v,s=>@Bool.rec (fun _=>Prop)
  (yu v (KG P X B st E L l m d o (oz true gb) (fC s t (.bool true) s.H) (dW sk t)) (KG P X B st E L l m d o (oz false gb) (fC s t (.bool false) s.H) (dW sk t)))
  (KG P X B st E L l m d o false s sk) e
 |.ge L l m sk d o b,s=>KG P X B st E L l m d o b s sk
 |.ex L l m sk d o,s=>KG P X B st E L l m d o true s sk
 |.pk L l m sk d c a b,s=>PU (ah c fun t=>some (au t a b)) fun v=>WM P X B st E L l m (bA s d v s.H) sk
 |.af L l m sk d v,s=>WM P X B st E L l m (bA s d v s.H) sk
 |.pt _ t v nx,s=>Sem P X B st E nx (fC s t v s.H)
def YN(B:Code)(st:List Fm):Prop:=∀p c,Fm.sq p c∈st→sub B (lS p [])=c
def ZH(B:Code)(g:Nat→Bool):Ct→Prop
 |.co c p=>sub B (lS p [])=c
 |.cd _ a b p=>∃x,sub B (lS p [])=.cond x a b
 |.pt h t _ nx=>h=g t∧ZH B g nx
 |_=>True
theorem TV:∀{p q:List Nat},sub B (lS p q)=sub (sub B (lS p [])) q:=by
 intro p
 induction p with
 |nil=>intro q;rfl
 |cons i p ih=>
  intro q
  show sub B (lS p (i::q))=sub (sub B (lS p [i])) q
  rw[ih (q:=i::q),ih (q:=[i])];rfl
theorem yP{i:Nat}{p:List Nat}{c:Code}(h:sub B (lS p [])=c):sub B (lS (i::p) [])=kid c i:=by
 show sub B (lS p [i])=_
 rw[TV,h];rfl
theorem YO(hk:KO nl nt sl)(he:dQ s (S nl nt sl rg H)):ev s=eq' sl rg:=by
 rw[he.ev]
 funext x
 cases x with
 |tmp t=>exact nY hk t
 |_=>rfl
theorem snd:∀n ct st sl rg H s,YN B st→KO nl nt sl→ZH B (hs sl) ct→dQ s (S nl nt sl rg H)→R P X nl nt B n ct st sl rg H E→Sem P X B st E ct s:=by
 intro n
 induction n with
 |zero=>intro ct st sl rg H s _ _ _ _ h;exact False.elim (by simp only[R]at h)
 |succ n ih=>
  intro ct st sl rg H s hf hk hc he h
  have hH:s.H=H:=he.H
  have hev:=YO hk he
  cases ct with
  |co c p=>
   replace hc:sub B (lS p [])=c:=hc
   cases c with
   |skip=>
    obtain⟨s',e,h⟩:=ih (.ou .norm) st sl rg H s hf hk trivial he h
    exact⟨_,_,Ev.skip,.norm e,h⟩
   |region id ops dr=>
    have hcl:dQ (clear s) (S nl nt sl [] H):=by
     refine⟨he.nl,he.nt,he.df,he.H,fun t=>?_⟩
     rw[rO,he.lk,nY hk,nY hk,yO,yO,he.nl]
     show au (aS nl t) _ top=_
     rw[←hk.1]
     show au (hs sl t) (au (hs sl t) _ _) top=au (hs sl t) _ top
     cases hs sl t<;>rfl
    refine bC.kk (P6 ?_)
    cases dr with
    |false=>exact ih (.op ops.toList ops.toList .pl []) st sl [] H (clear s) hf hk trivial hcl h
    |true=>
     obtain⟨h1,h⟩:(bW ops&&eB ops)=true∧R P X nl nt B n (.op ops.toList ops.toList (.dr (opsOf (sub B (lS p []))) []) []) st sl [] H E:=h
     have h2:=ih (.op ops.toList ops.toList (.dr (opsOf (sub B (lS p []))) []) []) st sl [] H (clear s) hf hk trivial hcl h
     rw[hc]at h2
     show @Bool.rec (fun _=>Prop) False (FH P X ops ops.toList (clear s) [] [] (fun s cls=>dH ops cls=true∧KK P X B st E (.norm s))) (bW ops&&eB ops)
     rw[h1];exact h2
   |seq a b=>
    refine bC.seq ?_
    have h1:=yP (i:=1) hc
    have key:∀f:Fm,f=.sj (1::p)∨f=.sq (1::p) b→kO P X B (f::st) E=pG P X b (kO P X B st E)∧YN B (f::st):=by
     intro f ZI
     refine⟨?_,fun q c hq=>?_⟩
     ·rcases ZI with rfl|rfl<;>(show pG P X (sub B (lS (1::p) [])) _=_;rw[h1];rfl)
     ·rcases List.mem_cons.1 hq with e|hq
      ·rcases ZI with rfl|rfl
       ·cases e
       ·cases e;exact h1
      ·exact hf q c hq
    replace h:R P X nl nt B n (.co a (0::p)) (au (tu a b) (.sj (1::p)) (.sq (1::p) b)::st) sl rg H E:=h
    obtain⟨k1,k2⟩:=key (au (tu a b) (.sj (1::p)) (.sq (1::p) b)) (by cases tu a b;exact .inr rfl;exact .inl rfl)
    have:=ih (.co a (0::p)) _ sl rg H s k2 hk (yP (i:=0) hc) he h
    replace this:bC P X a s (kO P X B (au (tu a b) (.sj (1::p)) (.sq (1::p) b)::st) E):=this
    rw[k1]at this
    exact this
   |cond x a b=>
    have:=ih (.cd (bE (eq' sl rg x)) a b p) st sl rg H s hf hk ⟨x,hc⟩ he h
    replace this:yu (bE (eq' sl rg x)) (bC P X a s (kO P X B st E)) (bC P X b s (kO P X B st E)):=this
    rw[←hev]at this
    rcases BS this with⟨hv,h⟩|⟨hv,h⟩
    ·obtain⟨o,o',h1,h2,h3⟩:=h;exact⟨o,o',Ev.cond hv h1,h2,h3⟩
    ·obtain⟨o,o',h1,h2,h3⟩:=h;exact⟨o,o',Ev.cond hv h1,h2,h3⟩
   |block id a=>
    refine bC.block ?_
    exact ih (.co a (0::p)) (.bk id::st) sl rg H s (fun q c hq=>by
     rcases List.mem_cons.1 hq with e|hq
     ·cases e
     ·exact hf q c hq) hk (yP (i:=0) hc) he h
   |loop a=>
    replace h:bC P X (.loop (sub B (lS (0::p) []))) (S nl nt sl rg H) (kO P X B st E):=h
    rw[yP hc]at h
    exact bC.alike he h
   |scope a=>
    replace h:bC P X (.scope (sub B (lS (0::p) []))) (S nl nt sl rg H) (kO P X B st E):=h
    rw[yP hc]at h
    exact bC.alike he h
   |exit i=>
    obtain⟨s',e,h⟩:=ih (.ou (.exit i)) st sl rg H s hf hk trivial he h
    exact⟨_,_,Ev.exit,.exit i e,h⟩
   |goto i=>
    obtain⟨s',e,h⟩:=ih (.ou (.goto i)) st sl rg H s hf hk trivial he h
    exact⟨.goto i s,_,⟨by simp,0,rfl⟩,.goto i e,h⟩
   |label i=>
    obtain⟨s',e,h⟩:=ih (.ou .norm) st sl rg H s hf hk trivial he h
    exact⟨_,_,Ev.label,.norm e,h⟩
   |ret=>
    obtain⟨s',e,h⟩:=ih (.ou .ret) st sl rg H s hf hk trivial he h
    exact⟨_,_,Ev.ret,.ret e,h⟩
   |_=>exact False.elim h
  |cd v a b p=>
   obtain⟨x,hc⟩:=hc
   replace h:yu v (R P X nl nt B n (.co a (0::p)) st sl rg H E) (R P X nl nt B n (.co b (1::p)) st sl rg H E):=h
   show yu v (bC P X a s (kO P X B st E)) (bC P X b s (kO P X B st E))
   rcases BS h with⟨rfl,h⟩|⟨rfl,h⟩
   ·exact ih (.co a (0::p)) st sl rg H s hf hk (yP (i:=0) hc) he h
   ·exact ih (.co b (1::p)) st sl rg H s hf hk (yP (i:=1) hc) he h
  |ou k=>
   show∃s',dQ s s'∧kO P X B st E (k.out s')
   cases st with
   |nil=>
    rw[TU]at h
    exact⟨_,he,h⟩
   |cons f st=>
    have hf':YN B st:=fun q c hq=>hf q c (List.mem_cons_of_mem _ hq)
    cases f with
    |sq p c=>
     cases k with
     |norm=>
      have h1:bC P X c s (kO P X B st E):=ih (.co c p) st sl rg H s hf' hk (hf p c (List.mem_cons_self ..)) he h
      refine⟨s,dQ.refl s,?_⟩
      show bC P X (sub B (lS p [])) s (kO P X B st E)
      rw[hf p c (List.mem_cons_self ..)];exact h1
     |exit i=>exact ih (.ou (.exit i)) st sl rg H s hf' hk trivial he h
     |goto i=>exact ih (.ou (.goto i)) st sl rg H s hf' hk trivial he h
     |ret=>exact ih (.ou .ret) st sl rg H s hf' hk trivial he h
    |sj p=>
     cases k with
     |norm=>exact⟨_,he,h⟩
     |exit i=>exact ih (.ou (.exit i)) st sl rg H s hf' hk trivial he h
     |goto i=>exact ih (.ou (.goto i)) st sl rg H s hf' hk trivial he h
     |ret=>exact ih (.ou .ret) st sl rg H s hf' hk trivial he h
    |bk id=>
     rw[FT]at h
     obtain⟨s',e,h⟩:=ih (.ou (Ri id k)) st sl rg H s hf' hk trivial he h
     refine⟨s',e,?_⟩
     show kO P X B st E (jD id (k.out s'))
     have:jD id (k.out s')=(Ri id k).out s':=by
      cases k with
      |exit i=>
       show au (Nat.beq i id) _ _=Kd.out (au (Nat.beq i id) _ _) s'
       cases Nat.beq i id<;>rfl
      |_=>rfl
     rw[this];exact h
  |op L l m sk=>
   cases l with
   |nil=>
    cases m with
    |pl=>
     obtain⟨s',e,h⟩:=ih (.ou .norm) st sl rg H s hf hk trivial he h
     exact⟨_,.norm e,h⟩
    |dr O acc=>
     obtain⟨h1,h⟩:dH O acc=true∧R P X nl nt B n (.ou .norm) st sl rg H E:=h
     obtain⟨s',e,h⟩:=ih (.ou .norm) st sl rg H s hf hk trivial he h
     exact⟨h1,_,.norm e,h⟩
   |cons o l=>
    obtain⟨d,op,ty,pos,af,g⟩:=o
    cases g with
    |none=>
     have:=ih (.ex L l m sk d op) st sl rg H s hf hk trivial he h
     cases m<;>exact this
    |some g=>
     have:=ih (.gu L l m sk d op g.2 (UR L g.1)) st sl rg H s hf hk trivial he h
     replace this:@Option.rec Nat (fun _=>Prop) False _ (ah (nth L g.1) fun o=>o.dst):=this
     have key:Ty ⟨L⟩ s sk (some g) (KG P X B st E L l m d op):=by
      show @Option.rec Oper (fun _=>Prop) False _ (nth L g.1)
      cases hn:nth L g.1 with
      |none=>rw[hn]at this;exact this
      |some o=>
       rw[hn]at this
       replace this:@Option.rec Nat (fun _=>Prop) False _ o.dst:=this
       show @Option.rec Nat (fun _=>Prop) False _ o.dst
       cases ho:o.dst with
       |none=>rw[ho]at this;exact this
       |some t=>rw[ho]at this;exact this
     cases m<;>exact key
  |gu L l m sk d o gb t=>
   cases t with
   |none=>exact False.elim h
   |some t=>
    have:=ih (.gv L l m sk d o gb t (ny sk t) (bE (lk sl rg t))) st sl rg H s hf hk trivial he h
    have hl:aO s t=lk sl rg t:=by rw[he.lk,nY hk]
    rw[←hl]at this
    exact this
  |gv L l m sk d o gb t e v=>
   cases e with
   |true=>exact ih (.ge L l m sk d o false) st sl rg H s hf hk trivial he h
   |false=>
    replace h:yu v (R P X nl nt B n (.pt (hs sl t) t (.bool true) (.ge L l m (dW sk t) d o (oz true gb))) st sl rg H E) (R P X nl nt B n (.pt (hs sl t) t (.bool false) (.ge L l m (dW sk t) d o (oz false gb))) st sl rg H E):=h
    show yu v (KG P X B st E L l m d o (oz true gb) (fC s t (.bool true) s.H) (dW sk t)) (KG P X B st E L l m d o (oz false gb) (fC s t (.bool false) s.H) (dW sk t))
    rcases BS h with⟨rfl,h⟩|⟨rfl,h⟩
    ·exact ih (.pt (hs sl t) t (.bool true) (.ge L l m (dW sk t) d o (oz true gb))) st sl rg H s hf hk ⟨rfl,trivial⟩ he h
    ·exact ih (.pt (hs sl t) t (.bool false) (.ge L l m (dW sk t) d o (oz false gb))) st sl rg H s hf hk ⟨rfl,trivial⟩ he h
  |ge L l m sk d o b=>
   cases b with
   |true=>exact ih (.ex L l m sk d o) st sl rg H s hf hk trivial he h
   |false=>
    have:=ih (.af L l (qT m) (JY sk d) d undef) st sl rg H s hf hk trivial he h
    have ha:zM s sk d=JY sk d:=by
     cases d with
     |none=>rfl
     |some d=>show au (wr s d) _ _=_;rw[YL hk he];rfl
    cases m with
    |pl=>show nA P X ⟨L⟩ l (bA s d undef s.H) (zM s sk d) _;rw[ha];exact this
    |dr O acc=>show FH P X ⟨L⟩ l (bA s d undef s.H) (zM s sk d) (cl 0::acc) _;rw[ha];exact this
  |ex L l m sk d o=>
   show KG P X B st E L l m d o true s sk
   have val:∀v,R P X nl nt B n (.af L l (qT m) (bQ sk d) d v) st sl rg H E→WM P X B st E L l (qT m) (bA s d v s.H) (bQ sk d):=fun v hv=>ih (.af L l (qT m) (bQ sk d) d v) st sl rg H s hf hk trivial he hv
   have gen:gp o=none→VO o P X (eq' sl rg) (hX m H) (fun v=>R P X nl nt B n (.af L l (qT m) (bQ sk d) d v) st sl rg H E) (fun v H'=>R P X nl nt B n (.af L l (zC m (qB P o (eq' sl rg) H H')) (bQ sk d) d v) st sl rg (hY m H H') E)→KG P X B st E L l m d o true s sk:=by
    intro hd h
    have hmem:∀v H2 m2,R P X nl nt B n (.af L l m2 (bQ sk d) d v) st sl rg H2 E→WM P X B st E L l m2 (bA s d v H2) (bQ sk d):=by
     intro v H2 m2 hv
     have:=ih (.af L l m2 (bQ sk d) d v) st sl rg H2 ⟨s.nl,s.nt,s.reg,s.tm,s.df,H2⟩ hf hk trivial ⟨he.nl,he.nt,he.df,rfl,he.lk⟩ hv
     cases d<;>exact this
    cases m with
    |pl=>
     show @Option.rec Call (fun _=>Prop) _ (fun _=>False) (gp o)
     rw[hd]
     show KA o P X s _ _
     rw[NC,hev,hH]
     refine D7 (fun v hv=>?_) (fun v H' hv=>hmem v H' .pl hv) h
     have:=val v hv
     rw[hH]at this
     exact this
    |dr O acc=>
     show KA o P X (aM s) _ _
     rw[NC]
     have h1:ev (aM s)=ev s:=by funext x;cases x<;>rfl
     rw[h1,hev]
     have h2:(aM s).H=hN H:=by rw[←hH];rfl
     rw[h2]
     refine D7 (fun v hv=>val v hv) (fun v H' hv=>?_) h
     have h3:gH P o s H'=qB P o (eq' sl rg) H H':=by rw[←hev,←hH];rfl
     rw[h3,hH]
     exact hmem v _ _ hv
   cases o with
   |pick x y z=>
    have:=ih (.pk L l (qT m) (bQ sk d) d (bE (eq' sl rg x)) (eq' sl rg y) (eq' sl rg z)) st sl rg H s hf hk trivial he h
    rw[←hev]at this
    cases m with
    |pl=>exact this
    |dr O acc=>
     show KA (.pick x y z) P X (aM s) (fun v=>FH P X ⟨L⟩ l (bA s d v s.H) (bQ sk d) (cl 0::acc) (fun s cls=>dH O cls=true∧KK P X B st E (.norm s))) (fun _ _=>True)
     rw[NC,show ev (aM s)=ev s from by funext x;cases x<;>rfl]
     exact this
   |_=>first|exact gen rfl h|exact False.elim h
  |pk L l m sk d c a b=>
   exact YM (fun v hv=>ih (.af L l m sk d v) st sl rg H s hf hk trivial he hv) h
  |af L l m sk d v=>
   cases d with
   |none=>exact ih (.op L l m sk) st sl rg H s hf hk trivial he h
   |some t=>exact ih (.pt (hs sl t) t v (.op L l m sk)) st sl rg H s hf hk ⟨rfl,trivial⟩ he h
  |pt b t v nx=>
   obtain⟨rfl,hc⟩:=hc
   have h1:=Ww hk he t v s.H
   rw[hH]at h1
   show Sem P X B st E nx (fC s t v s.H)
   rw[hH]
   cases hb:hs sl t with
   |true=>
    rw[hb]at h h1
    exact ih nx st (up sl t v) rg H _ hf hk.up (by rw[show hs (up sl t v)=hs sl from funext fun u=>Sd];exact hc) h1 h
   |false=>
    rw[hb]at h h1
    exact ih nx st sl ((t,v)::rg) H _ hf hk hc h1 h
theorem bC.go{p:List Nat}{c:Code}{n:Nat}(hk:KB nl nt sl=true)(hc:sub B (lS p [])=c)(h:R P X nl nt B n (.co c p) [] sl rg H E):bC P X c (S nl nt sl rg H) E:=
 snd n (.co c p) [] sl rg H _ (fun p c h=>nomatch h) (KO.of hk) hc (dQ.refl _) h
end sound
section
def BG(P:Program)(g:Nat):Code:=@Option.rec Func (fun _=>Code) .skip (fun f=>BU f) (nth P.funcs.toList g)
def JZ(P:Program)(g:Nat):Nat:=@Option.rec Func (fun _=>Nat) 0 (fun f=>f.ntmps) (nth P.funcs.toList g)
def YP(P:Program)(g:Nat):List ResultVar:=@Option.rec Func (fun _=>List ResultVar) [] (fun f=>f.results.toList) (nth P.funcs.toList g)
abbrev F(P:Program)(g:Nat)(sl:Fr)(rg:Rs)(H:ag):St:=S (bV P g) (JZ P g) sl rg H
def yQ(l:List Value)(i:Nat):Value:=@Option.rec Value (fun _=>Value) top (fun v=>v) (nth l i)
def mkS(l:List Nat)(args:List Value):Fr:=@List.rec Nat (fun _=>Fr) .n (fun i _ r=>.c i (yQ args i) r) l
def okF(P:Program)(g:Nat)(l:List Nat)(n:Nat):Bool:=
 @Option.rec Func (fun _=>Bool) false (fun f=>@Option.rec Code (fun _=>Bool) false (fun _=>true) f.body&&Nat.ble n f.ntmps) (nth P.funcs.toList g)&&KB (bV P g) (JZ P g) (mkS l [])
def zS(P:Program)(rs:List ResultVar)(sl:Fr)(rg:Rs)(H:ag):(List Value→Prop)→Prop:=
 @List.rec ResultVar (fun _=>(List Value→Prop)→Prop) (fun k=>k []) (fun r _ ih k=>
  @ResultVar.rec (fun _=>Prop) (fun t=>ih (fun vs=>k (lk sl rg t::vs))) (fun a t=>ME (jg P t (lk sl rg a) H) fun v _=>ih (fun vs=>k (v::vs))) r) rs
end
section gen
variable{P:Program}{X:Xt}{g i j t:Nat}{q p l:List Nat}{sl:Fr}{rg:Rs}{H:ag}{K:Out→Prop}{rs:List ResultVar}{args:List Value}{k:List Value→Prop}{v w:Value}{vs:List Value}
theorem Wy:yQ [] i=top:=nr (by cases i<;>rfl)
theorem Wz:yQ (v::vs) 0=v:=nr rfl
theorem WA:yQ (v::vs) (i +1)=yQ vs i:=nr rfl
theorem WB:mkS [] args=.n:=nr rfl
theorem WC:mkS (i::l) args=.c i (yQ args i) (mkS l args):=nr rfl
theorem WE:zS P [] sl rg H k=k []:=nr rfl
theorem WG:zS P (.tmp t::rs) sl rg H k=zS P rs sl rg H (fun vs=>k (lk sl rg t::vs)):=nr rfl
theorem WH:zS P (.cell i t::rs) sl rg H k=ME (jg P t (lk sl rg i) H) fun v _=>zS P rs sl rg H (fun vs=>k (v::vs)):=nr rfl
theorem WI:eY [v]=v:=nr rfl
theorem WJ:eY (v::w::vs)=.tuple ⟨v::w::vs⟩:=nr rfl
theorem WK:eY []=.tuple ⟨[]⟩:=nr rfl
theorem EV:type_of%(J @Wy<|J @Wz<|J @WA<|J @WB<|J @WC<|J @WE<|J @WG<|J @WH<|J @WI<|J @WJ @WK):=J @Wy<|J @Wz<|J @WA<|J @WB<|J @WC<|J @WE<|J @WG<|J @WH<|J @WI<|J @WJ @WK
theorem WL:lS (lS q []) []=q:=by
 have:∀(q r:List Nat),lS (lS q r) []=lS r q:=by
  intro q
  induction q with
  |nil=>intro r;rfl
  |cons i q ih=>intro r;show lS (lS q (i::r)) []=_;rw[ih];rfl
 exact this q []
theorem goF{c:Code}{n:Nat}(h:R P X (bV P g) (JZ P g) (BG P g) n (.co c (lS q [])) [] sl rg H K)(hc:sub (BG P g) q=c)(hk:KB (bV P g) (JZ P g) sl=true):bC P X (sub (BG P g) q) (F P g sl rg H) K:=by
 have h1:sub (BG P g) (lS (lS q []) [])=c:=by rw[WL];exact hc
 rw[hc]
 exact bC.go hk h1 h
theorem WN(h:hs (mkS l args) t=true):lk (mkS l args) rg t=yQ args t:=by
 induction l with
 |nil=>cases h
 |cons i l ih=>
  replace h:au (Nat.beq i t) true (hs (mkS l args) t)=true:=h
  show au (Nat.beq i t) (yQ args i) (lk (mkS l args) rg t)=_
  by_cases e:i=t
  ·subst e;rw[show Nat.beq i i=true from Nat.beq_refl i];rfl
  ·rw[yN e]at h⊢;exact ih h
theorem WO{a b:List Value}:hs (mkS l a) t=hs (mkS l b) t:=by
 induction l with
 |nil=>rfl
 |cons i l ih=>
  show au (Nat.beq i t) true (hs (mkS l a) t)=au (Nat.beq i t) true (hs (mkS l b) t)
  rw[ih]
theorem NF:yQ args t=(Tr.iH top args 0 .nil).get top t:=by
 rw[Tr.cz]
 have:∀(a:List Value)(k:Nat),yQ a k=a.getD k top:=by
  intro a
  induction a with
  |nil=>intro k;cases k<;>rfl
  |cons x a ih=>intro k;cases k with
   |zero=>rfl
   |succ k=>exact ih k
 rw[this]
 split
 ·rfl
 ·rename_i h
  rw[List.getD_eq_getElem?_getD,List.getElem?_eq_none aa]
  rw[Tr.get_nil];rfl
theorem ceF{K:Value→ag→Prop}(h:bC P X (sub (BG P g) []) (F P g sl [] H) (fD P rs K))(hs':mkS l args=sl)(hr:YP P g=rs)(hor:X.o g args H=none)(hq:okF P g l (len args)=true):aj P X g args H K:=by
 unfold okF at hq
 rw[Bool.and_eq_true]at hq
 obtain⟨h1,h2⟩:=hq
 unfold BG F JZ at h
 unfold YP at hr
 unfold JZ at h2
 cases hg:nth P.funcs.toList g with
 |none=>rw[hg]at h1;cases h1
 |some fn=>
  rw[hg]at h h1 h2 hr
  replace h1:(@Option.rec Code (fun _=>Bool) false (fun _=>true) fn.body&&Nat.ble (len args) fn.ntmps)=true:=h1
  rw[Bool.and_eq_true]at h1
  replace h:bC P X (BU fn) (S (bV P g) fn.ntmps sl [] H) (fD P rs K):=h
  replace h2:KB (bV P g) fn.ntmps (mkS l [])=true:=h2
  cases hb:fn.body with
  |none=>rw[hb]at h1;cases h1.1
  |some c=>
   have hbo:BU fn=c:=by unfold BU;rw[hb]
   rw[hbo]at h
   replace hr:fn.results.toList=rs:=hr
   subst hr
   refine aj.body hor hg hb h1.2 rfl (bC.alike ?_ h)
   have hk:=KO.of h2
   have hk':KO (bV P g) fn.ntmps sl:=⟨fun t=>by rw[←hs',←hk.1 t];exact WO,hk.2⟩
   refine⟨rfl,rfl,rfl,rfl,fun t=>?_⟩
   rw[nY hk']
   show au (aS (bV P g) t) ((qy args fn.ntmps).get top t) top=_
   rw[←Dw,←NF,yO,hk'.1]
   cases hbit:aS (bV P g) t with
   |false=>rfl
   |true=>
    have h3:hs sl t=true:=by rw[hk'.1];exact hbit
    have h4:lk sl [] t=yQ args t:=by subst hs';exact WN h3
    rw[yO,h3]at h4
    exact h4.symm
theorem NG(hk:KB (bV P g) (JZ P g) sl=true):∀{rs:List ResultVar}{k:List Value→Prop},zS P rs sl rg H k→FI P (F P g sl rg H) rs k:=by
 have hk:=KO.of hk
 have hl:∀t,aO (F P g sl rg H) t=lk sl rg t:=nY hk
 intro rs
 induction rs with
 |nil=>intro k h;exact h
 |cons r rs ih=>
  intro k h
  cases r with
  |tmp t=>
   show FI P _ rs (fun vs=>k (aO _ t::vs))
   rw[hl]
   exact ih h
  |cell a t=>
   show ME (jg P t (aO _ a) H) fun v _=>FI P _ rs (fun vs=>k (v::vs))
   rw[hl]
   exact XU (fun v H' hv=>ih hv) h
theorem rrF{K:Value→ag→Prop}(h:zS P rs sl rg H (fun vs=>K (eY vs) H))(hk:KB (bV P g) (JZ P g) sl=true):fD P rs K (.ret (F P g sl rg H)):=MB rfl (NG hk h)
theorem rnF{K:Value→ag→Prop}(h:zS P rs sl rg H (fun vs=>K (eY vs) H))(hk:KB (bV P g) (JZ P g) sl=true):fD P rs K (.norm (F P g sl rg H)):=JS rfl (NG hk h)
theorem IB{sl':Value→Fr}(a0:Nat){I:Nat→Value→ag→Prop}(h:∀n(x0:Value)(rg:Rs)(H:ag),I n x0 H→bC P X (sub (BG P g) p) (F P g (sl' x0) rg H) (EI (fun m s=>∃(x0:Value)(rg:Rs)(H:ag),s=F P g (sl' x0) rg H∧I m x0 H) n K))(n:Nat)(h0:I n (lk sl [] a0) H)(hu:∀x0,up sl a0 x0=sl' x0:=by intros;conv=>lhs;simp only[wL,wM,↓reduceIte,Bool.false_eq_true,Nat.reduceBEq])(he:sl' (lk sl [] a0)=sl:=by rfl):bC P X (.loop (sub (BG P g) p)) (F P g sl rg H) K:=
 bC.qQ (R:=fun m s=>∃(x0:Value)(rg:Rs)(H:ag),s=F P g (sl' x0) rg H∧I m x0 H) (fun n s hs=>by obtain⟨x0,rg,H,rfl,hI⟩:=hs;exact h n x0 rg H hI) n _ ⟨_,rg,H,by rw[he],h0⟩
theorem lp2{sl':Value→Value→Fr}(a0 a1:Nat){I:Nat→Value→Value→ag→Prop}(h:∀n(x0 x1:Value)(rg:Rs)(H:ag),I n x0 x1 H→bC P X (sub (BG P g) p) (F P g (sl' x0 x1) rg H) (EI (fun m s=>∃(x0 x1:Value)(rg:Rs)(H:ag),s=F P g (sl' x0 x1) rg H∧I m x0 x1 H) n K))(n:Nat)(h0:I n (lk sl [] a0) (lk sl [] a1) H)(hu:∀x0 x1,up (up sl a0 x0) a1 x1=sl' x0 x1:=by intros;conv=>lhs;simp only[wL,wM,↓reduceIte,Bool.false_eq_true,Nat.reduceBEq])(he:sl' (lk sl [] a0) (lk sl [] a1)=sl:=by rfl):bC P X (.loop (sub (BG P g) p)) (F P g sl rg H) K:=
 bC.qQ (R:=fun m s=>∃(x0 x1:Value)(rg:Rs)(H:ag),s=F P g (sl' x0 x1) rg H∧I m x0 x1 H) (fun n s hs=>by obtain⟨x0,x1,rg,H,rfl,hI⟩:=hs;exact h n x0 x1 rg H hI) n _ ⟨_,_,rg,H,by rw[he],h0⟩
theorem Se{sl':Value→Value→Value→Fr}(a0 a1 a2:Nat){I:Nat→Value→Value→Value→ag→Prop}(h:∀n(x0 x1 x2:Value)(rg:Rs)(H:ag),I n x0 x1 x2 H→bC P X (sub (BG P g) p) (F P g (sl' x0 x1 x2) rg H) (EI (fun m s=>∃(x0 x1 x2:Value)(rg:Rs)(H:ag),s=F P g (sl' x0 x1 x2) rg H∧I m x0 x1 x2 H) n K))(n:Nat)(h0:I n (lk sl [] a0) (lk sl [] a1) (lk sl [] a2) H)(hu:∀x0 x1 x2,up (up (up sl a0 x0) a1 x1) a2 x2=sl' x0 x1 x2:=by intros;conv=>lhs;simp only[wL,wM,↓reduceIte,Bool.false_eq_true,Nat.reduceBEq])(he:sl' (lk sl [] a0) (lk sl [] a1) (lk sl [] a2)=sl:=by rfl):bC P X (.loop (sub (BG P g) p)) (F P g sl rg H) K:=
 bC.qQ (R:=fun m s=>∃(x0 x1 x2:Value)(rg:Rs)(H:ag),s=F P g (sl' x0 x1 x2) rg H∧I m x0 x1 x2 H) (fun n s hs=>by obtain⟨x0,x1,x2,rg,H,rfl,hI⟩:=hs;exact h n x0 x1 x2 rg H hI) n _ ⟨_,_,_,rg,H,by rw[he],h0⟩
theorem XV{sl':Value→Value→Value→Value→Fr}(a0 a1 a2 a3:Nat){I:Nat→Value→Value→Value→Value→ag→Prop}(h:∀n(x0 x1 x2 x3:Value)(rg:Rs)(H:ag),I n x0 x1 x2 x3 H→bC P X (sub (BG P g) p) (F P g (sl' x0 x1 x2 x3) rg H) (EI (fun m s=>∃(x0 x1 x2 x3:Value)(rg:Rs)(H:ag),s=F P g (sl' x0 x1 x2 x3) rg H∧I m x0 x1 x2 x3 H) n K))(n:Nat)(h0:I n (lk sl [] a0) (lk sl [] a1) (lk sl [] a2) (lk sl [] a3) H)(hu:∀x0 x1 x2 x3,up (up (up (up sl a0 x0) a1 x1) a2 x2) a3 x3=sl' x0 x1 x2 x3:=by intros;conv=>lhs;simp only[wL,wM,↓reduceIte,Bool.false_eq_true,Nat.reduceBEq])(he:sl' (lk sl [] a0) (lk sl [] a1) (lk sl [] a2) (lk sl [] a3)=sl:=by rfl):bC P X (.loop (sub (BG P g) p)) (F P g sl rg H) K:=
 bC.qQ (R:=fun m s=>∃(x0 x1 x2 x3:Value)(rg:Rs)(H:ag),s=F P g (sl' x0 x1 x2 x3) rg H∧I m x0 x1 x2 x3 H) (fun n s hs=>by obtain⟨x0,x1,x2,x3,rg,H,rfl,hI⟩:=hs;exact h n x0 x1 x2 x3 rg H hI) n _ ⟨_,_,_,_,rg,H,by rw[he],h0⟩
theorem XW{sl':Value→Value→Value→Value→Value→Fr}(a0 a1 a2 a3 a4:Nat){I:Nat→Value→Value→Value→Value→Value→ag→Prop}(h:∀n(x0 x1 x2 x3 x4:Value)(rg:Rs)(H:ag),I n x0 x1 x2 x3 x4 H→bC P X (sub (BG P g) p) (F P g (sl' x0 x1 x2 x3 x4) rg H) (EI (fun m s=>∃(x0 x1 x2 x3 x4:Value)(rg:Rs)(H:ag),s=F P g (sl' x0 x1 x2 x3 x4) rg H∧I m x0 x1 x2 x3 x4 H) n K))(n:Nat)(h0:I n (lk sl [] a0) (lk sl [] a1) (lk sl [] a2) (lk sl [] a3) (lk sl [] a4) H)(hu:∀x0 x1 x2 x3 x4,up (up (up (up (up sl a0 x0) a1 x1) a2 x2) a3 x3) a4 x4=sl' x0 x1 x2 x3 x4:=by intros;conv=>lhs;simp only[wL,wM,↓reduceIte,Bool.false_eq_true,Nat.reduceBEq])(he:sl' (lk sl [] a0) (lk sl [] a1) (lk sl [] a2) (lk sl [] a3) (lk sl [] a4)=sl:=by rfl):bC P X (.loop (sub (BG P g) p)) (F P g sl rg H) K:=
 bC.qQ (R:=fun m s=>∃(x0 x1 x2 x3 x4:Value)(rg:Rs)(H:ag),s=F P g (sl' x0 x1 x2 x3 x4) rg H∧I m x0 x1 x2 x3 x4 H) (fun n s hs=>by obtain⟨x0,x1,x2,x3,x4,rg,H,rfl,hI⟩:=hs;exact h n x0 x1 x2 x3 x4 rg H hI) n _ ⟨_,_,_,_,_,rg,H,by rw[he],h0⟩
theorem ZJ{sl':Value→Value→Value→Value→Value→Value→Fr}(a0 a1 a2 a3 a4 a5:Nat){I:Nat→Value→Value→Value→Value→Value→Value→ag→Prop}(h:∀n(x0 x1 x2 x3 x4 x5:Value)(rg:Rs)(H:ag),I n x0 x1 x2 x3 x4 x5 H→bC P X (sub (BG P g) p) (F P g (sl' x0 x1 x2 x3 x4 x5) rg H) (EI (fun m s=>∃(x0 x1 x2 x3 x4 x5:Value)(rg:Rs)(H:ag),s=F P g (sl' x0 x1 x2 x3 x4 x5) rg H∧I m x0 x1 x2 x3 x4 x5 H) n K))(n:Nat)(h0:I n (lk sl [] a0) (lk sl [] a1) (lk sl [] a2) (lk sl [] a3) (lk sl [] a4) (lk sl [] a5) H)(hu:∀x0 x1 x2 x3 x4 x5,up (up (up (up (up (up sl a0 x0) a1 x1) a2 x2) a3 x3) a4 x4) a5 x5=sl' x0 x1 x2 x3 x4 x5:=by intros;conv=>lhs;simp only[wL,wM,↓reduceIte,Bool.false_eq_true,Nat.reduceBEq])(he:sl' (lk sl [] a0) (lk sl [] a1) (lk sl [] a2) (lk sl [] a3) (lk sl [] a4) (lk sl [] a5)=sl:=by rfl):bC P X (.loop (sub (BG P g) p)) (F P g sl rg H) K:=
 bC.qQ (R:=fun m s=>∃(x0 x1 x2 x3 x4 x5:Value)(rg:Rs)(H:ag),s=F P g (sl' x0 x1 x2 x3 x4 x5) rg H∧I m x0 x1 x2 x3 x4 x5 H) (fun n s hs=>by obtain⟨x0,x1,x2,x3,x4,x5,rg,H,rfl,hI⟩:=hs;exact h n x0 x1 x2 x3 x4 x5 rg H hI) n _ ⟨_,_,_,_,_,_,rg,H,by rw[he],h0⟩
theorem lp7{sl':Value→Value→Value→Value→Value→Value→Value→Fr}(a0 a1 a2 a3 a4 a5 a6:Nat){I:Nat→Value→Value→Value→Value→Value→Value→Value→ag→Prop}(h:∀n(x0 x1 x2 x3 x4 x5 x6:Value)(rg:Rs)(H:ag),I n x0 x1 x2 x3 x4 x5 x6 H→bC P X (sub (BG P g) p) (F P g (sl' x0 x1 x2 x3 x4 x5 x6) rg H) (EI (fun m s=>∃(x0 x1 x2 x3 x4 x5 x6:Value)(rg:Rs)(H:ag),s=F P g (sl' x0 x1 x2 x3 x4 x5 x6) rg H∧I m x0 x1 x2 x3 x4 x5 x6 H) n K))(n:Nat)(h0:I n (lk sl [] a0) (lk sl [] a1) (lk sl [] a2) (lk sl [] a3) (lk sl [] a4) (lk sl [] a5) (lk sl [] a6) H)(hu:∀x0 x1 x2 x3 x4 x5 x6,up (up (up (up (up (up (up sl a0 x0) a1 x1) a2 x2) a3 x3) a4 x4) a5 x5) a6 x6=sl' x0 x1 x2 x3 x4 x5 x6:=by intros;conv=>lhs;simp only[wL,wM,↓reduceIte,Bool.false_eq_true,Nat.reduceBEq])(he:sl' (lk sl [] a0) (lk sl [] a1) (lk sl [] a2) (lk sl [] a3) (lk sl [] a4) (lk sl [] a5) (lk sl [] a6)=sl:=by rfl):bC P X (.loop (sub (BG P g) p)) (F P g sl rg H) K:=
 bC.qQ (R:=fun m s=>∃(x0 x1 x2 x3 x4 x5 x6:Value)(rg:Rs)(H:ag),s=F P g (sl' x0 x1 x2 x3 x4 x5 x6) rg H∧I m x0 x1 x2 x3 x4 x5 x6 H) (fun n s hs=>by obtain⟨x0,x1,x2,x3,x4,x5,x6,rg,H,rfl,hI⟩:=hs;exact h n x0 x1 x2 x3 x4 x5 x6 rg H hI) n _ ⟨_,_,_,_,_,_,_,rg,H,by rw[he],h0⟩
theorem ZK{sl':Value→Value→Value→Value→Value→Value→Value→Value→Fr}(a0 a1 a2 a3 a4 a5 a6 a7:Nat){I:Nat→Value→Value→Value→Value→Value→Value→Value→Value→ag→Prop}(h:∀n(x0 x1 x2 x3 x4 x5 x6 x7:Value)(rg:Rs)(H:ag),I n x0 x1 x2 x3 x4 x5 x6 x7 H→bC P X (sub (BG P g) p) (F P g (sl' x0 x1 x2 x3 x4 x5 x6 x7) rg H) (EI (fun m s=>∃(x0 x1 x2 x3 x4 x5 x6 x7:Value)(rg:Rs)(H:ag),s=F P g (sl' x0 x1 x2 x3 x4 x5 x6 x7) rg H∧I m x0 x1 x2 x3 x4 x5 x6 x7 H) n K))(n:Nat)(h0:I n (lk sl [] a0) (lk sl [] a1) (lk sl [] a2) (lk sl [] a3) (lk sl [] a4) (lk sl [] a5) (lk sl [] a6) (lk sl [] a7) H)(hu:∀x0 x1 x2 x3 x4 x5 x6 x7,up (up (up (up (up (up (up (up sl a0 x0) a1 x1) a2 x2) a3 x3) a4 x4) a5 x5) a6 x6) a7 x7=sl' x0 x1 x2 x3 x4 x5 x6 x7:=by intros;conv=>lhs;simp only[wL,wM,↓reduceIte,Bool.false_eq_true,Nat.reduceBEq])(he:sl' (lk sl [] a0) (lk sl [] a1) (lk sl [] a2) (lk sl [] a3) (lk sl [] a4) (lk sl [] a5) (lk sl [] a6) (lk sl [] a7)=sl:=by rfl):bC P X (.loop (sub (BG P g) p)) (F P g sl rg H) K:=
 bC.qQ (R:=fun m s=>∃(x0 x1 x2 x3 x4 x5 x6 x7:Value)(rg:Rs)(H:ag),s=F P g (sl' x0 x1 x2 x3 x4 x5 x6 x7) rg H∧I m x0 x1 x2 x3 x4 x5 x6 x7 H) (fun n s hs=>by obtain⟨x0,x1,x2,x3,x4,x5,x6,x7,rg,H,rfl,hI⟩:=hs;exact h n x0 x1 x2 x3 x4 x5 x6 x7 rg H hI) n _ ⟨_,_,_,_,_,_,_,_,rg,H,by rw[he],h0⟩
theorem lp9{sl':Value→Value→Value→Value→Value→Value→Value→Value→Value→Fr}(a0 a1 a2 a3 a4 a5 a6 a7 a8:Nat){I:Nat→Value→Value→Value→Value→Value→Value→Value→Value→Value→ag→Prop}(h:∀n(x0 x1 x2 x3 x4 x5 x6 x7 x8:Value)(rg:Rs)(H:ag),I n x0 x1 x2 x3 x4 x5 x6 x7 x8 H→bC P X (sub (BG P g) p) (F P g (sl' x0 x1 x2 x3 x4 x5 x6 x7 x8) rg H) (EI (fun m s=>∃(x0 x1 x2 x3 x4 x5 x6 x7 x8:Value)(rg:Rs)(H:ag),s=F P g (sl' x0 x1 x2 x3 x4 x5 x6 x7 x8) rg H∧I m x0 x1 x2 x3 x4 x5 x6 x7 x8 H) n K))(n:Nat)(h0:I n (lk sl [] a0) (lk sl [] a1) (lk sl [] a2) (lk sl [] a3) (lk sl [] a4) (lk sl [] a5) (lk sl [] a6) (lk sl [] a7) (lk sl [] a8) H)(hu:∀x0 x1 x2 x3 x4 x5 x6 x7 x8,up (up (up (up (up (up (up (up (up sl a0 x0) a1 x1) a2 x2) a3 x3) a4 x4) a5 x5) a6 x6) a7 x7) a8 x8=sl' x0 x1 x2 x3 x4 x5 x6 x7 x8:=by intros;conv=>lhs;simp only[wL,wM,↓reduceIte,Bool.false_eq_true,Nat.reduceBEq])(he:sl' (lk sl [] a0) (lk sl [] a1) (lk sl [] a2) (lk sl [] a3) (lk sl [] a4) (lk sl [] a5) (lk sl [] a6) (lk sl [] a7) (lk sl [] a8)=sl:=by rfl):bC P X (.loop (sub (BG P g) p)) (F P g sl rg H) K:=
 bC.qQ (R:=fun m s=>∃(x0 x1 x2 x3 x4 x5 x6 x7 x8:Value)(rg:Rs)(H:ag),s=F P g (sl' x0 x1 x2 x3 x4 x5 x6 x7 x8) rg H∧I m x0 x1 x2 x3 x4 x5 x6 x7 x8 H) (fun n s hs=>by obtain⟨x0,x1,x2,x3,x4,x5,x6,x7,x8,rg,H,rfl,hI⟩:=hs;exact h n x0 x1 x2 x3 x4 x5 x6 x7 x8 rg H hI) n _ ⟨_,_,_,_,_,_,_,_,_,rg,H,by rw[he],h0⟩
theorem WQ{sl':Value→Value→Value→Value→Value→Value→Value→Value→Value→Value→Value→Value→Value→Value→Fr}(a0 a1 a2 a3 a4 a5 a6 a7 a8 a9 YQ YR a12 YS:Nat){I:Nat→Value→Value→Value→Value→Value→Value→Value→Value→Value→Value→Value→Value→Value→Value→ag→Prop}(h:∀n(x0 x1 x2 x3 x4 x5 x6 x7 x8 x9 eZ jK nD mQ:Value)(rg:Rs)(H:ag),I n x0 x1 x2 x3 x4 x5 x6 x7 x8 x9 eZ jK nD mQ H→bC P X (sub (BG P g) p) (F P g (sl' x0 x1 x2 x3 x4 x5 x6 x7 x8 x9 eZ jK nD mQ) rg H) (EI (fun m s=>∃(x0 x1 x2 x3 x4 x5 x6 x7 x8 x9 eZ jK nD mQ:Value)(rg:Rs)(H:ag),s=F P g (sl' x0 x1 x2 x3 x4 x5 x6 x7 x8 x9 eZ jK nD mQ) rg H∧I m x0 x1 x2 x3 x4 x5 x6 x7 x8 x9 eZ jK nD mQ H) n K))(n:Nat)(h0:I n (lk sl [] a0) (lk sl [] a1) (lk sl [] a2) (lk sl [] a3) (lk sl [] a4) (lk sl [] a5) (lk sl [] a6) (lk sl [] a7) (lk sl [] a8) (lk sl [] a9) (lk sl [] YQ) (lk sl [] YR) (lk sl [] a12) (lk sl [] YS) H)(hu:∀x0 x1 x2 x3 x4 x5 x6 x7 x8 x9 eZ jK nD mQ,up (up (up (up (up (up (up (up (up (up (up (up (up (up sl a0 x0) a1 x1) a2 x2) a3 x3) a4 x4) a5 x5) a6 x6) a7 x7) a8 x8) a9 x9) YQ eZ) YR jK) a12 nD) YS mQ=sl' x0 x1 x2 x3 x4 x5 x6 x7 x8 x9 eZ jK nD mQ:=by intros;conv=>lhs;simp only[wL,wM,↓reduceIte,Bool.false_eq_true,Nat.reduceBEq])(he:sl' (lk sl [] a0) (lk sl [] a1) (lk sl [] a2) (lk sl [] a3) (lk sl [] a4) (lk sl [] a5) (lk sl [] a6) (lk sl [] a7) (lk sl [] a8) (lk sl [] a9) (lk sl [] YQ) (lk sl [] YR) (lk sl [] a12) (lk sl [] YS)=sl:=by rfl):bC P X (.loop (sub (BG P g) p)) (F P g sl rg H) K:=
 bC.qQ (R:=fun m s=>∃(x0 x1 x2 x3 x4 x5 x6 x7 x8 x9 eZ jK nD mQ:Value)(rg:Rs)(H:ag),s=F P g (sl' x0 x1 x2 x3 x4 x5 x6 x7 x8 x9 eZ jK nD mQ) rg H∧I m x0 x1 x2 x3 x4 x5 x6 x7 x8 x9 eZ jK nD mQ H) (fun n s hs=>by obtain⟨x0,x1,x2,x3,x4,x5,x6,x7,x8,x9,eZ,jK,nD,mQ,rg,H,rfl,hI⟩:=hs;exact h n x0 x1 x2 x3 x4 x5 x6 x7 x8 x9 eZ jK nD mQ rg H hI) n _ ⟨_,_,_,_,_,_,_,_,_,_,_,_,_,_,rg,H,by rw[he],h0⟩
end gen
end Go.Ae.M
namespace Go.Proofs.Lu
open Go.Ae Go.Ae.M
abbrev Pg:Program:=Tryz.prog
def X:Xt:=⟨fun g=>au (Nat.beq g 153) 1 (au (Nat.beq g 154) 2 (au (Nat.beq g 339) 3 (au (Nat.beq g 338) 4 0))),fun g args H=>au (Nat.beq g 10) (TL args H) none⟩
abbrev nZ:Code:=BG Pg 6
abbrev jS:Code:=BG Pg 11
abbrev jw:Code:=BG Pg 50
abbrev aQ:Code:=BG Pg 52
abbrev n_:Code:=BG Pg 55
abbrev bM:Code:=BG Pg 77
abbrev cZ:Code:=BG Pg 79
abbrev nE:Code:=BG Pg 84
abbrev D8:Code:=BG Pg 88
abbrev kP:Code:=BG Pg 137
abbrev yR:Code:=BG Pg 145
abbrev jT:Code:=BG Pg 146
abbrev fG:Code:=BG Pg 151
abbrev pM:Code:=BG Pg 238
abbrev og:Code:=BG Pg 240
abbrev l8:Code:=BG Pg 242
abbrev dM:Code:=BG Pg 269
abbrev yS:Code:=BG Pg 343
abbrev eU:Code:=BG Pg 409
abbrev b_:Code:=BG Pg 413
abbrev jd:Code:=BG Pg 443
abbrev eX:Code:=BG Pg 445
abbrev aF:Code:=BG Pg 448
abbrev eO:Code:=BG Pg 449
abbrev aR:Code:=BG Pg 450
abbrev fU:Code:=BG Pg 459
abbrev kE:Code:=BG Pg 480
abbrev gz(x0 x1 x4 x5:Value)(rg:Rs)(H:ag):St:=F Pg 79 (.c 0 x0<|.c 1 x1<|.c 4 x4<|.c 5 x5<|.n) rg H
abbrev mR(x0 x2:Value)(rg:Rs)(H:ag):St:=F Pg 84 (.c 0 x0<|.c 2 x2<|.n) rg H
abbrev AV(x0 x1 x4 x5 x6:Value)(rg:Rs)(H:ag):St:=F Pg 88 (.c 0 x0<|.c 1 x1<|.c 4 x4<|.c 5 x5<|.c 6 x6<|.n) rg H
abbrev v_(x0 x1 x4 x5 x6 x7:Value)(rg:Rs)(H:ag):St:=F Pg 145 (.c 0 x0<|.c 1 x1<|.c 4 x4<|.c 5 x5<|.c 6 x6<|.c 7 x7<|.n) rg H
abbrev lK(x0 x1 x4 x5 x6 x7 x8 x9 eZ jK:Value)(rg:Rs)(H:ag):St:=F Pg 146 (.c 0 x0<|.c 1 x1<|.c 4 x4<|.c 5 x5<|.c 6 x6<|.c 7 x7<|.c 8 x8<|.c 9 x9<|.c 10 eZ<|.c 11 jK<|.n) rg H
abbrev wN(x0 x2 x3 x4 x8:Value)(rg:Rs)(H:ag):St:=F Pg 238 (.c 0 x0<|.c 2 x2<|.c 3 x3<|.c 4 x4<|.c 8 x8<|.n) rg H
abbrev qU(x0 x2 x3 x4 x5 x6 x7 x8 x9 eZ:Value)(rg:Rs)(H:ag):St:=F Pg 240 (.c 0 x0<|.c 2 x2<|.c 3 x3<|.c 4 x4<|.c 5 x5<|.c 6 x6<|.c 7 x7<|.c 8 x8<|.c 9 x9<|.c 10 eZ<|.n) rg H
abbrev lM(x0 x2:Value)(rg:Rs)(H:ag):St:=F Pg 242 (.c 0 x0<|.c 2 x2<|.n) rg H
abbrev iX(x0 x2 x3 x5 x6 x8 x9 eZ jK x35 x36 TW:Value)(rg:Rs)(H:ag):St:=F Pg 269 (.c 0 x0<|.c 2 x2<|.c 3 x3<|.c 5 x5<|.c 6 x6<|.c 8 x8<|.c 9 x9<|.c 10 eZ<|.c 11 jK<|.c 35 x35<|.c 36 x36<|.c 37 TW<|.n) rg H
abbrev wO(x0 x2 x3 x4 x5 x6 x7 x8 eZ:Value)(rg:Rs)(H:ag):St:=F Pg 343 (.c 0 x0<|.c 2 x2<|.c 3 x3<|.c 4 x4<|.c 5 x5<|.c 6 x6<|.c 7 x7<|.c 8 x8<|.c 10 eZ<|.n) rg H
abbrev eP(x0 x1 x4 x5:Value)(rg:Rs)(H:ag):St:=F Pg 409 (.c 0 x0<|.c 1 x1<|.c 4 x4<|.c 5 x5<|.n) rg H
abbrev bY(x0 x1 x2 x3 x4 eZ jK nD mQ AX B_ Cb Cc D9 US x20:Value)(rg:Rs)(H:ag):St:=F Pg 413 (.c 0 x0<|.c 1 x1<|.c 2 x2<|.c 3 x3<|.c 4 x4<|.c 10 eZ<|.c 11 jK<|.c 12 nD<|.c 13 mQ<|.c 14 AX<|.c 15 B_<|.c 16 Cb<|.c 17 Cc<|.c 18 D9<|.c 19 US<|.c 20 x20<|.n) rg H
abbrev iY(x0 x1 x2 x3 x8 x9:Value)(rg:Rs)(H:ag):St:=F Pg 443 (.c 0 x0<|.c 1 x1<|.c 2 x2<|.c 3 x3<|.c 8 x8<|.c 9 x9<|.n) rg H
abbrev iZ(x0 x1 x2 x3 x8 x9 eZ jK nD:Value)(rg:Rs)(H:ag):St:=F Pg 445 (.c 0 x0<|.c 1 x1<|.c 2 x2<|.c 8 x8<|.c 9 x9<|.c 10 eZ<|.c 11 jK<|.c 12 nD<|.n) rg H
abbrev aZ(x0 x1 x2 x3 x8 x9 eZ jK nD:Value)(rg:Rs)(H:ag):St:=F Pg 448 (.c 0 x0<|.c 1 x1<|.c 2 x2<|.c 3 x3<|.c 8 x8<|.c 9 x9<|.c 10 eZ<|.c 11 jK<|.c 12 nD<|.n) rg H
abbrev dX(x0 x1 x2 x3 x4 eZ jK nD:Value)(rg:Rs)(H:ag):St:=F Pg 449 (.c 0 x0<|.c 1 x1<|.c 2 x2<|.c 3 x3<|.c 4 x4<|.c 10 eZ<|.c 11 jK<|.c 12 nD<|.n) rg H
abbrev aY(x0 x1 x2 x3 x4 eZ jK nD mQ:Value)(rg:Rs)(H:ag):St:=F Pg 450 (.c 0 x0<|.c 1 x1<|.c 2 x2<|.c 3 x3<|.c 4 x4<|.c 10 eZ<|.c 11 jK<|.c 12 nD<|.c 13 mQ<|.n) rg H
abbrev jL(x0 x1 x2 x6 x7 x8 x9 eZ jK nD XX:Value)(rg:Rs)(H:ag):St:=F Pg 459 (.c 0 x0<|.c 1 x1<|.c 2 x2<|.c 6 x6<|.c 7 x7<|.c 8 x8<|.c 9 x9<|.c 10 eZ<|.c 11 jK<|.c 12 nD<|.c 49 XX<|.n) rg H
abbrev kg(x0 x1 x2 x3 x4 eZ jK:Value)(rg:Rs)(H:ag):St:=F Pg 480 (.c 0 x0<|.c 1 x1<|.c 2 x2<|.c 3 x3<|.c 4 x4<|.c 10 eZ<|.c 11 jK<|.n) rg H
abbrev ko(x0 x1 x4 x5 x6:Value)(I:Nat→Value→Value→Value→Value→Value→ag→Prop)(m:Nat)(s:St):Prop:=∃(x7 x8 x9 eZ jK:Value)(rg:Rs)(H:ag),s=lK x0 x1 x4 x5 x6 x7 x8 x9 eZ jK rg H∧I m x7 x8 x9 eZ jK H
abbrev J2(p0:Nat)(p2:List Value):Prop:=∀(H:ag),oU Pg p0 H=fE p0 p2 H
abbrev Sf(p0:List Nat)(p1:Nat)(p2:Nat):Prop:=∀(x y:Value)(H:ag),pZ Pg p0 [x,y] H=zB p1 p2 x y H
abbrev YT(p0:Nat)(p1:Nat)(p2:Nat)(p3:List Value):Prop:=∀(ps:Rs)(H:ag),h_ Pg p0 p1 ps H=bS p2 p3 p1 p1 ps H
abbrev OZ(p0:Nat)(p1:Nat)(p2:Nat)(p3:List Value)(p4:Nat):Prop:=∀(ps:Rs)(H:ag),h_ Pg p0 p1 ps H=bS p2 p3 p4 p1 ps H
abbrev J3(p0:Nat)(p1:List (Nat×Nat))(p2:List Value):Prop:=∀(ps:Rs),oP Pg p0 ps=ZB p1 p2 ps
abbrev CK(p0:Nat)(p1:Nat):Prop:=∀(x:Operand)(ρ:Operand→Value)(H H':ag),qB Pg (.load p0 x) ρ H H'=Zz p1 (ρ x) H H'
abbrev ZL(p0:List Nat)(p1:Nat):Prop:=∀(x y:Value)(H:ag),Aa Pg p0 [x,y] H=YB p1 x y H
abbrev CL(p0:Nat)(p1:Nat)(p4:IntKind):Prop:=∀(x:Value)(H:ag)(Kp:Value→Prop)(Km:Value→ag→Prop),CV (oC Pg p0 p1 x) (fK Pg p0 p1 x H) Kp Km=PU (ZC p4 x) Kp
abbrev sh8(p0:Nat)(p1:Nat):Prop:=∀(x:Value)(H:ag)(Kp:Value→Prop)(Km:Value→ag→Prop),CV (oC Pg p0 p1 x) (fK Pg p0 p1 x H) Kp Km=PU (YE x) Kp
abbrev Ce(p0:Nat)(p1:Nat):Prop:=∀(x:Value),g_ Pg p0 x p1=Zx p1 x
abbrev YU(p0:Nat)(p1:Nat)(p2:Option Nat):Prop:=∀(x:Value),oO Pg p0 x p1=YA p2 p1 x
abbrev FU(p0:Nat)(p1:Nat):Prop:=∀(x y:Value),gm Pg p0 x y=DF p1 x y
abbrev FV(p0:Nat)(p1:Nat)(p2:Nat):Prop:=∀(x y:Value),gm Pg p0 x y=Zy p1 p2 x y
abbrev YV(p0:Nat):Prop:=∀(x y:Value),oN Pg p0 x y=BV x y
abbrev oL(p0:Nat)(p1:Option Nat):Prop:=∀(x:Value)(H:ag),jg Pg p0 x H=mU p1 x H
abbrev J4(p0:List Nat):Prop:=∀(ρ:Operand→Value)(x:Operand)(H:ag)(Kp:Value→Prop)(Km:Value→ag→Prop),CV (one (xD Pg) (Array.toList (List.toArray p0)) (mp ρ (Array.toList (List.toArray [x])))) (xI Pg (Array.toList (List.toArray p0)) (mp ρ (Array.toList (List.toArray [x]))) H) Kp Km=PU (VD (ρ x)) Kp
abbrev YW(p0:List Nat):Prop:=∀(ρ:Operand→Value)(x:Operand)(H:ag)(Kp:Value→Prop)(Km:Value→ag→Prop),CV (one (xD Pg) (Array.toList (List.toArray p0)) (mp ρ (Array.toList (List.toArray [x])))) (xI Pg (Array.toList (List.toArray p0)) (mp ρ (Array.toList (List.toArray [x]))) H) Kp Km=PU (VE (ρ x)) Kp
abbrev WR(p0:Nat)(p1:Nat)(p2:List Value):Prop:=∀(x y:Value)(H:ag),fB Pg p0 x y H=mkS p1 p2 x y H
abbrev TX(p0:Nat)(p1:Nat):Prop:=∀(x:Value)(a b c:Option Value),k_ Pg p0 x a b c=UO p1 x a b c
abbrev YX(p0:Nat):Prop:=∀(x:Value)(a b c:Option Value),k_ Pg p0 x a b c=Hq x a b c
abbrev qK(p0:Nat)(p1:Nat):Prop:=∀(x v:Value)(H:ag),lg Pg p0 x v H=EH p1 x v H
theorem TD:CL 129 2 .i64∧CL 129 369 .u32∧CL 129 5 .u8∧CL 174 3 .i64∧CL 174 369 .u32∧CL 2 129 .u64∧CL 21 2 .i64∧CL 21 369 .u32∧CL 21 5 .u8∧sh8 21 9∧CL 3 129 .u64∧CL 3 174 .u64∧CL 3 5 .u8∧CL 3 574 .u64∧CL 369 5 .u8∧CL 5 12 .u64∧CL 5 129 .u64∧CL 5 21 .i32∧CL 5 3 .i64∧J4 [101]∧J4 [110]∧J4 [22]∧J4 [39]∧YW [9]∧J4 [91]∧J4 [96]:=by
 repeat' apply And.intro
 all_goals((repeat intro _);kernel_rfl)
theorem TF:J2 103 [(Value.pointer none),(Value.slice none 0 0)]∧J2 113 [(Value.int .i64 0),(Value.int .i64 0),(Value.int .i32 0),(Value.bool false)]∧J2 172 [(Value.int .u8 0),(Value.int .u8 0)]∧J2 24 [(Value.int .i64 0),(Value.slice none 0 0),(Value.string (ByteArray.mk #[]))]∧J2 264 [(Value.int .u8 0),(Value.int .u8 0),(Value.int .u8 0),(Value.int .u8 0),(Value.int .u8 0),(Value.int .u8 0),(Value.int .u8 0),(Value.int .u8 0),(Value.int .u8 0),(Value.int .u8 0),(Value.int .u8 0),(Value.int .u8 0),(Value.int .u8 0),(Value.int .u8 0),(Value.int .u8 0),(Value.int .u8 0),(Value.int .u8 0),(Value.int .u8 0),(Value.int .u8 0),(Value.int .u8 0),(Value.int .u8 0),(Value.int .u8 0),(Value.int .u8 0),(Value.int .u8 0)]∧J2 3 [(Value.int .i64 0)]∧J2 301 [(Value.int .i32 0),(Value.int .i32 0)]∧J2 370 [(Value.int .u8 0),(Value.int .u8 0),(Value.int .u8 0),(Value.int .u8 0),(Value.int .u8 0),(Value.int .u8 0),(Value.int .u8 0),(Value.int .u8 0),(Value.int .u8 0),(Value.int .u8 0),(Value.int .u8 0),(Value.int .u8 0),(Value.int .u8 0),(Value.int .u8 0),(Value.int .u8 0),(Value.int .u8 0),(Value.int .u8 0),(Value.int .u8 0),(Value.int .u8 0),(Value.int .u8 0),(Value.int .u8 0),(Value.int .u8 0),(Value.int .u8 0),(Value.int .u8 0),(Value.int .u8 0),(Value.int .u8 0),(Value.int .u8 0),(Value.int .u8 0),(Value.int .u8 0),(Value.int .u8 0),(Value.int .u8 0),(Value.int .u8 0),(Value.int .u8 0),(Value.int .u8 0),(Value.int .u8 0),(Value.int .u8 0),(Value.int .u8 0),(Value.int .u8 0),(Value.int .u8 0),(Value.int .u8 0),(Value.int .u8 0),(Value.int .u8 0),(Value.int .u8 0),(Value.int .u8 0),(Value.int .u8 0),(Value.int .u8 0),(Value.int .u8 0),(Value.int .u8 0),(Value.int .u8 0),(Value.int .u8 0),(Value.int .u8 0),(Value.int .u8 0),(Value.int .u8 0),(Value.int .u8 0),(Value.int .u8 0),(Value.int .u8 0),(Value.int .u8 0),(Value.int .u8 0),(Value.int .u8 0),(Value.int .u8 0),(Value.int .u8 0),(Value.int .u8 0),(Value.int .u8 0),(Value.int .u8 0),(Value.int .u8 0)]∧J2 49 [(Value.int .i64 0),(Value.int .i64 0)]∧J2 574 [(Value.int .u64 0)]∧J2 92 [(Value.int .i64 0),(Value.int .i64 0)]∧J2 98 [(Value.int .i64 0),(Value.int .i64 0),(Value.int .i64 0),(Value.string (ByteArray.mk #[])),(Value.slice none 0 0)]∧J2 99 [(Value.string (ByteArray.mk #[])),(Value.string (ByteArray.mk #[])),(Value.string (ByteArray.mk #[])),(Value.string (ByteArray.mk #[])),(Value.string (ByteArray.mk #[])),(Value.string (ByteArray.mk #[])),(Value.string (ByteArray.mk #[])),(Value.string (ByteArray.mk #[])),(Value.string (ByteArray.mk #[])),(Value.string (ByteArray.mk #[])),(Value.string (ByteArray.mk #[]))]∧Sf [101,101] 5 1∧Sf [101,9] 5 1∧Sf [110,110] 113 4∧Sf [22,22] 3 1∧Sf [39,39] 9 1∧Sf [91,91] 98 5∧Sf [95,95] 301 2∧Sf [96,96] 301 2∧YT 101 1 5 [(Value.int .u8 0)]∧OZ 101 2 5 [(Value.int .u8 0)] 1∧OZ 101 3 5 [(Value.int .u8 0)] 1∧OZ 101 4 5 [(Value.int .u8 0)] 1∧OZ 110 1 113 [(Value.int .i64 0),(Value.int .i64 0),(Value.int .i32 0),(Value.bool false)] 4∧YT 22 1 3 [(Value.int .i64 0)]∧OZ 22 11 3 [(Value.int .i64 0)] 1∧YT 39 1 9 [(Value.string (ByteArray.mk #[]))]∧OZ 39 11 9 [(Value.string (ByteArray.mk #[]))] 1∧OZ 91 1 98 [(Value.int .i64 0),(Value.int .i64 0),(Value.int .i64 0),(Value.string (ByteArray.mk #[])),(Value.slice none 0 0)] 5∧OZ 95 0 301 [(Value.int .i32 0),(Value.int .i32 0)] 2∧OZ 96 0 301 [(Value.int .i32 0),(Value.int .i32 0)] 2∧OZ 96 1 301 [(Value.int .i32 0),(Value.int .i32 0)] 2∧J3 113 [(0,1),(1,1),(2,1),(3,1)] [(Value.int .i64 0),(Value.int .i64 0),(Value.int .i32 0),(Value.bool false)]∧J3 160 [(0,1),(1,1),(2,1),(3,1),(4,3)] [(Value.int .i64 0),(Value.map none),(Value.pointer none),(Value.pointer none),(Value.int .i64 0),(Value.int .i64 0),(Value.int .i64 0)]∧J3 24 [(0,1),(1,1),(2,1)] [(Value.int .i64 0),(Value.slice none 0 0),(Value.string (ByteArray.mk #[]))]∧J3 301 [(0,1),(1,1)] [(Value.int .i32 0),(Value.int .i32 0)]∧J3 360 [(0,1),(1,1),(2,1)] [(Value.string (ByteArray.mk #[])),(Value.string (ByteArray.mk #[])),Value.nilIface]∧J3 54 [(0,1),(1,1),(2,1)] [(Value.int .i64 0),(Value.int .i64 0),(Value.string (ByteArray.mk #[]))]∧J3 60 [(0,1),(1,1),(2,1)] [(Value.slice none 0 0),(Value.slice none 0 0),(Value.bool false)]∧J3 71 [(0,1),(1,1),(2,1)] [(Value.pointer none),(Value.map none),(Value.int .i64 0)]∧J3 73 [(0,1)] [(Value.pointer none)]∧J3 75 [(0,3),(3,1)] [(Value.pointer none),(Value.map none),(Value.int .i64 0),(Value.pointer none)]∧J3 81 [(0,1),(1,1),(2,1),(3,1),(4,3),(7,1),(8,1)] [(Value.pointer none),(Value.pointer none),(Value.string (ByteArray.mk #[])),(Value.slice none 0 0),(Value.slice none 0 0),(Value.slice none 0 0),(Value.bool false),(Value.int .i64 0),(Value.map none)]∧J3 92 [(0,1),(1,1)] [(Value.int .i64 0),(Value.int .i64 0)]∧J3 98 [(0,1),(1,1),(2,1),(3,1),(4,1)] [(Value.int .i64 0),(Value.int .i64 0),(Value.int .i64 0),(Value.string (ByteArray.mk #[])),(Value.slice none 0 0)]∧CK 100 1∧CK 101 1∧CK 113 4∧CK 129 1∧CK 172 2∧CK 21 1∧CK 22 1∧CK 24 3∧CK 3 1∧CK 301 2∧CK 32 1∧CK 4 1∧CK 5 1∧CK 574 1∧CK 88 1∧CK 9 1∧CK 92 2∧CK 98 5∧ZL [101,101] 1∧ZL [101,9] 1∧Ce 103 0∧Ce 103 1∧Ce 113 1∧Ce 113 2∧Ce 113 3∧Ce 172 0∧Ce 172 1∧Ce 24 0∧Ce 24 1∧Ce 24 2∧Ce 301 0∧Ce 301 1∧Ce 49 0∧Ce 49 1∧Ce 92 0∧Ce 92 1∧Ce 98 0∧Ce 98 2∧Ce 98 3∧YU 113 1 none∧FU 101 1∧FU 110 4∧FV 170 256 1∧FV 173 16 2∧FU 22 1∧FV 264 24 1∧FV 368 20 1∧FV 370 65 1∧FU 39 1∧FV 484 64 1∧FU 91 5∧FU 95 2∧FU 96 2∧FV 99 11 1∧YV 9∧oL 100 none∧oL 101 none∧oL 113 (some 4)∧oL 129 none∧oL 172 (some 2)∧oL 21 none∧oL 22 none∧oL 24 (some 3)∧oL 3 none∧oL 301 (some 2)∧oL 32 none∧oL 4 none∧oL 5 none∧oL 574 none∧oL 88 none∧oL 9 none∧oL 92 (some 2)∧oL 98 (some 5)∧WR 101 5 [(Value.int .u8 0)]∧WR 110 113 [(Value.int .i64 0),(Value.int .i64 0),(Value.int .i32 0),(Value.bool false)]∧TX 101 1∧TX 39 1∧YX 9∧TX 96 2∧qK 100 1∧qK 101 1∧qK 113 4∧qK 172 2∧qK 21 1∧qK 22 1∧qK 24 3∧qK 3 1∧qK 301 2∧qK 49 2∧qK 5 1∧qK 574 1∧qK 9 1∧qK 92 2∧qK 98 5∧qK 99 11:=by
 repeat' apply And.intro
 all_goals((repeat intro _);kernel_rfl)
theorem XY:type_of%TF:=TF
theorem TDq:type_of%TD:=TD
section steps
variable{g:Nat}{q l:List Nat}{c:Code}{sl:Fr}{rg:Rs}{H:ag}{rs:List ResultVar}{args:List Value}
theorem tl{K:Out→Prop}{A:(Out→Prop)→Prop}(h:A K)(hc:sub (BG Pg g) q=c:=by conv=>lhs;whnf)(he:∀K,R Pg X (bV Pg g) (JZ Pg g) (BG Pg g) 9999 (.co c (lS q [])) [] sl rg H K=A K:=by intro K;conv=>lhs;simp(config:={maxSteps:=4000000}) (disch:=decide)only[↓TS,↓TT,↓TR,↓pF,↓ED,EE,XY,↓TDq,↓reduceIte,Bool.false_eq_true,Nat.reduceBEq])(hk:KB (bV Pg g) (JZ Pg g) sl=true:=by kernel_rfl):bC Pg X (sub (BG Pg g) q) (F Pg g sl rg H) K:=
 goF (n:=9999) (by rw[he];exact h) hc hk
theorem ce(l:List Nat){K:Value→ag→Prop}(h:bC Pg X (sub (BG Pg g) []) (F Pg g sl [] H) (fD Pg rs K))(hs:mkS l args=sl:=by conv=>lhs;simp only[EV,EE,XY,↓reduceIte,Bool.false_eq_true,Nat.reduceBEq])(hr:YP Pg g=rs:=by conv=>lhs;whnf)(ho:X.o g args H=none:=by kernel_rfl)(hq:okF Pg g l (len args)=true:=by kernel_rfl):aj Pg X g args H K:=ceF h hs hr ho hq
theorem rr{K:Value→ag→Prop}{A:(Value→ag→Prop)→Prop}(h:A K)(he:∀K:Value→ag→Prop,zS Pg rs sl rg H (fun vs=>K (eY vs) H)=A K:=by intro K;conv=>lhs;simp only[EV,EE,XY,↓reduceIte,Bool.false_eq_true,Nat.reduceBEq])(hk:KB (bV Pg g) (JZ Pg g) sl=true:=by kernel_rfl):fD Pg rs K (.ret (F Pg g sl rg H)):=rrF (by rw[he];exact h) hk
theorem rn{K:Value→ag→Prop}{A:(Value→ag→Prop)→Prop}(h:A K)(he:∀K:Value→ag→Prop,zS Pg rs sl rg H (fun vs=>K (eY vs) H)=A K:=by intro K;conv=>lhs;simp only[EV,EE,XY,↓reduceIte,Bool.false_eq_true,Nat.reduceBEq])(hk:KB (bV Pg g) (JZ Pg g) sl=true:=by kernel_rfl):fD Pg rs K (.norm (F Pg g sl rg H)):=rnF (by rw[he];exact h) hk
end steps
end Go.Proofs.Lu
