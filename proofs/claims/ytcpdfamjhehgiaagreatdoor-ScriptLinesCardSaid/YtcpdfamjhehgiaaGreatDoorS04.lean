/-
  Part 04 of the proof. No condition.
-/
import Derived.Test.YtcpdfamjhehgiaaGreatDoorS03
set_option linter.unusedVariables false
set_option linter.unusedSimpArgs false
set_option maxRecDepth 100000
set_option maxHeartbeats 8000000
noncomputable section
namespace Go.Ae
theorem j5{o:Option Unit}(h:iO o=true):o=some ():=by
 cases o with
 |none=>cases h
 |some u=>rfl
theorem Aq{a b:Addr}(h:addrEq a b=true):a=b:=by
 obtain⟨r,o,s⟩:=a
 obtain⟨r',o',s'⟩:=b
 simp only[addrEq,Bool.and_eq_true]at h
 obtain⟨⟨⟨h1,h2⟩,h3⟩,h4⟩:=h
 have h1:=Nat.eq_of_beq_eq_true h1
 have h2:=Nat.eq_of_beq_eq_true h2
 cases s with
 |some _=>cases h3
 |none=>cases s' with
  |some _=>cases h4
  |none=>rw[h1,h2]
theorem Fw{a b:Option Addr}(h:Gx a b=true):a=b:=by
 cases a with
 |none=>cases b with
  |none=>rfl
  |some _=>cases h
 |some x=>cases b with
  |none=>cases h
  |some y=>rw[Aq (show addrEq x y=true from h)]
theorem JK{a b:Option Nat}(h:KS a b=true):a=b:=by
 cases a with
 |none=>cases b with
  |none=>rfl
  |some _=>cases h
 |some x=>cases b with
  |none=>cases h
  |some y=>rw[Nat.eq_of_beq_eq_true (show Nat.beq x y=true from h)]
theorem Dk{x y:Value}(h:Gy x y=true):x=y:=by
 unfold Gy at h
 simp only[Bool.or_eq_true]at h
 rcases h with h|h|h|h|h|h|h
 ·replace h:=j5 h
  (replace h:=ae h;obtain⟨a,ha,h⟩:=h)
  (replace h:=ae h;obtain⟨b,hb,h⟩:=h)
  (replace h:=aB h;obtain⟨hg,h⟩:=h)
  rw[Bool.and_eq_true,xM,beq_iff_eq]at hg
  rw[eT ha,eT hb,ng hg.1,hg.2]
 ·replace h:=j5 h
  (replace h:=ae h;obtain⟨a,ha,h⟩:=h)
  (replace h:=ae h;obtain⟨b,hb,h⟩:=h)
  (replace h:=aB h;obtain⟨hg,h⟩:=h)
  rw[dS ha,dS hb,Aq hg]
 ·replace h:=j5 h
  (replace h:=ae h;obtain⟨a,ha,h⟩:=h)
  (replace h:=ae h;obtain⟨b,hb,h⟩:=h)
  (replace h:=aB h;obtain⟨hg,h⟩:=h)
  rw[Bool.and_eq_true,Bool.and_eq_true]at hg
  rw[ji ha,ji hb,Fw hg.1.1,Nat.eq_of_beq_eq_true hg.1.2,Nat.eq_of_beq_eq_true hg.2]
 ·replace h:=j5 h
  (replace h:=ae h;obtain⟨a,ha,h⟩:=h)
  (replace h:=ae h;obtain⟨b,hb,h⟩:=h)
  (replace h:=aB h;obtain⟨hg,h⟩:=h)
  rw[xN,beq_iff_eq]at hg
  rw[eF ha,eF hb,hg]
 ·replace h:=j5 h
  (replace h:=ae h;obtain⟨a,ha,h⟩:=h)
  (replace h:=ae h;obtain⟨b,hb,h⟩:=h)
  (replace h:=aB h;obtain⟨hg,h⟩:=h)
  rw[lD,beq_iff_eq,ByteArray.toList_eq,ByteArray.toList_eq]at hg
  have:a=b:=by
   obtain⟨⟨la⟩⟩:=a
   obtain⟨⟨lb⟩⟩:=b
   simp at hg
   rw[hg]
  rw[dU ha,dU hb,this]
 ·replace h:=j5 h
  (replace h:=ae h;obtain⟨a,ha,h⟩:=h)
  (replace h:=ae h;obtain⟨b,hb,h⟩:=h)
  (replace h:=aB h;obtain⟨hg,h⟩:=h)
  rw[lY ha,lY hb,JK hg]
 ·unfold Q5 at h
  rw[Bool.and_eq_true,Bool.and_eq_true]at h
  obtain⟨⟨h1,h2⟩,h3⟩:=h
  cases x<;>first|(replace h1:false=true:=h1;cases h1;done)|skip
  all_goals cases y<;>first|rfl|(replace h2:false=true:=h2;cases h2;done)|(replace h3:false=true:=h3;cases h3;done)|skip
  all_goals
   rename_i p q
   cases p<;>cases q<;>first|rfl|(replace h1:false=true:=h1;cases h1;done)|(replace h2:false=true:=h2;cases h2;done)
theorem Ar{f:Value→Value→Bool}(hf:∀{x y:Value},f x y=true→x=y):∀{xs ys:List Value},Bj f xs ys=true→xs=ys:=by
 intro xs
 induction xs with
 |nil=>
  intro ys h
  cases ys with
  |nil=>rfl
  |cons y ys=>cases h
 |cons x xs ih=>
  intro ys h
  cases ys with
  |nil=>cases h
  |cons y ys=>
   replace h:au (f x y) (Bj f xs ys) false=true:=h
   cases h1:f x y with
   |false=>rw[h1]at h;cases h
   |true=>
    rw[h1]at h
    rw[hf h1,ih h]
theorem Dl{f:Value→Value→Bool}(hf:∀{x y:Value},f x y=true→x=y){x y:Value}(h:KT f x y=true):x=y:=by
 replace h:=j5 h
 (replace h:=ae h;obtain⟨a,ha,h⟩:=h)
 (replace h:=ae h;obtain⟨b,hb,h⟩:=h)
 (replace h:=ae h;obtain⟨g,hg,h⟩:=h)
 (replace h:=ae h;obtain⟨k,hk,h⟩:=h)
 (replace h:=aB h;obtain⟨hh,h⟩:=h)
 rw[Bool.and_eq_true,Bool.and_eq_true]at hh
 rw[xK ha,xK hb,xL hg,xL hk,Nat.eq_of_beq_eq_true hh.1.1,Ar hf hh.1.2,Ar hf hh.2]
theorem L8{x y:Value}(h:CX x y=true):x=y:=by
 have h00:∀{x y:Value},Bl x y=true→x=y:=by
  intro x y h
  unfold Bl at h
  rw[Bool.or_eq_true]at h
  rcases h with h|h
  ·exact Dk h
  ·exact Dl Dk h
 unfold CX at h
 rw[Bool.or_eq_true]at h
 rcases h with h|h
 ·exact h00 h
 ·exact Dl h00 h
theorem L9:∀{xs ys:List Value},CY xs ys=true→xs=ys:=by
 intro xs
 induction xs with
 |nil=>
  intro ys h
  cases ys with
  |nil=>rfl
  |cons y ys=>cases h
 |cons x xs ih=>
  intro ys h
  cases ys with
  |nil=>cases h
  |cons y ys=>
   replace h:au (CX x y) (CY xs ys) false=true:=h
   cases h1:CX x y with
   |false=>rw[h1]at h;cases h
   |true=>
    rw[h1]at h
    rw[L8 h1,ih h]
theorem rH{H:ag}{r off k:Nat}{vs:List Value}(h:H.read r off k=some vs):∀j,j<k→bZ (H.obj r) (off +j)=vs[j]?∧j<vs.length:=by
 intro j hj
 cases k with
 |zero=>omega
 |succ k=>
  replace h:(ah (jy (H.obj r)) fun w=>gd (Nat.ble (Nat.add off (k +1)) w.n) (some (Tr.vz top w.cells off (k +1))))=some vs:=h
  (replace h:=ae h;obtain⟨R,hR,h⟩:=h)
  (replace h:=aB h;obtain⟨hg,h⟩:=h)
  cases h
  have hg:off +(k +1)≤R.n:=Nat.le_of_ble_eq_true hg
  rw[iN hR,GJ _ _ _ _ _ hj,GI]
  refine⟨?_,hj⟩
  simp only[bZ]
  rw[if_pos aa]
theorem BP{A B:ag}{r off k:Nat}(h:sameAt A B r off k=true):∀j,off≤j→j<off +k→bZ (A.obj r) j=bZ (B.obj r) j:=by
 replace h:=j5 h
 (replace h:=ae h;obtain⟨x,hx,h⟩:=h)
 (replace h:=ae h;obtain⟨y,hy,h⟩:=h)
 (replace h:=aB h;obtain⟨hg,h⟩:=h)
 intro j h1 h2
 have a1:=(rH hx (j -off) aa).1
 have a2:=(rH hy (j -off) aa).1
 rw[show off +(j -off)=j from by omega]at a1 a2
 rw[a1,a2,L9 hg]
theorem L_{o o':bR}(e:yh o=yh o')(i:Nat):(bZ o i).isSome=(bZ o' i).isSome:=by
 cases o<;>cases o'<;>simp only[yh]at e<;>first|rfl|cases e|skip
 case row.row R R'=>
  simp only[bR.row.injEq,Row.mk.injEq]at e
  simp only[bZ,e.2.2.1]
  split<;>rfl
theorem uV{H H':ag}{r off:Nat}{vs:List Value}(h:H.write r off vs=some H'):
 H'.next=H.next∧(∀k,k≠r→H'.obj k=H.obj k)∧yh (H'.obj r)=yh (H.obj r)∧(∀i,¬(off≤i∧i<off +vs.length)→bZ (H'.obj r) i=bZ (H.obj r) i)∧
   (∀i,off≤i→i<off +vs.length→bZ (H'.obj r) i=vs[i -off]?)∧(vs≠[]→H'.low≤r):=by
 cases vs with
 |nil=>
  cases h
  exact⟨rfl,fun _ _=>rfl,rfl,fun _ _=>rfl,fun i a b=>by simp at b;omega,fun h=>absurd rfl h⟩
 |cons v vs=>
  replace h:(ah (jy (H.obj r)) fun w=>
   gd (!w.bX&&Nat.ble (Nat.add off (len (v::vs))) w.n&&Nat.ble w.fz off&&all' aN (v::vs))
   (some (H.put r (.row ⟨w.ty,Tr.iH top (v::vs) off w.cells,w.n,false,w.fz⟩))))=some H':=h
  (replace h:=ae h;obtain⟨R,hR,h⟩:=h)
  (replace h:=aB h;obtain⟨hg,h⟩:=h)
  cases h
  have zz:=iN hR
  simp only[Bool.and_eq_true,aJ]at hg
  obtain⟨⟨⟨g0,g1⟩,g2⟩,g3⟩:=hg
  have g1:off +(v::vs).length≤R.n:=Nat.le_of_ble_eq_true g1
  have g0:R.bX=false:=by simpa using g0
  have oK:(H.put r (.row ⟨R.ty,Tr.iH top (v::vs) off R.cells,R.n,false,R.fz⟩)).obj r=.row ⟨R.ty,Tr.iH top (v::vs) off R.cells,R.n,false,R.fz⟩:=by rw[jk,if_pos rfl]
  refine⟨rfl,fun k hk=>by rw[jk,if_neg hk],?_,?_,?_,fun _=>(xe _ _ _).1⟩
  ·rw[oK,zz]
   simp only[yh,g0]
  ·intro i hi
   rw[oK,zz]
   simp only[bZ]
   rw[Tr.cz,if_neg hi]
  ·intro i h1 h2
   rw[oK]
   simp only[bZ]
   rw[if_pos aa,Tr.cz,if_pos ⟨h1,h2⟩,List.getD_eq_getElem?_getD,List.getElem?_eq_getElem aa]
   rfl
section rg
variable{P:Program}{cf:bO}{ops:Array Oper}{n nt:Nat}{S:Nat→St}{C:Nat→Cl}{m0:Mp}{w0:World}
theorem Fx{o:Op}{p:Operand×Operand}(h:nO o=some p):∃t,o=.store t p.1 p.2:=by
 cases o<;>first|cases h|skip
 exact⟨_,rfl⟩
theorem JL{o:Op}{p:TypeId×Operand}(h:uJ o=some p):o=.load p.1 p.2:=by
 cases o<;>first|cases h|skip
 rfl
structure Tp(P:Program)(cf:bO)(ops:Array Oper)(o:Oper)(s s1:St)(c:Cl):Prop where
 ex:∃t x y a H',o.op=.store t x y∧fF ops s o.guard=some true∧fH (ev s x)=some a∧c=⟨3,a.block,a.off,len (ax (ev s y)),hh0,hh0⟩∧
  lg P t (ev s x) (ev s y) (aM s).H=some (undef,H')∧s1=bA s o.dst undef ⟨H'.jc,H'.next,dR s.H.low H'.low⟩∧
  (aM s).H.write a.block a.off (ax (ev s y))=some H'
theorem nu(s:St)(x:Operand):ev (aM s) x=ev s x:=by cases x<;>rfl
theorem uW{o:Oper}{s s1:St}{c:Cl}(h:yn P cf ops o s s1 c)(hc:c.k=3):Tp P cf ops o s s1 c:=by
 cases h with
 |skip hw=>cases hc
 |oH v hw hr=>cases hc
 |mem v H' hw hr=>
  rcases BO (P:=P) (o:=o.op) (s:=s) (H':=H')with⟨p,a,hs,ha,e⟩|e|⟨hlow,⟨_,e⟩|e|⟨p,a,l,hs,ha,hl,e⟩⟩
  ·obtain⟨t,hop⟩:=Fx hs
   rw[hop]at hr
   have h:=cO (o:=lg P t (ev (aM s) p.1) (ev (aM s) p.2) (aM s).H) hr
   rw[nu,nu]at h
   have h0:=h
   (replace h:=ae h;obtain⟨a',ha',h⟩:=h)
   (replace h:=ae h;obtain⟨s',hs',h⟩:=h)
   (replace h:=aB h;obtain⟨hg,h⟩:=h)
   (replace h:=ae h;obtain⟨H1,hH1,h⟩:=h)
   cases h
   rw[ha]at ha';cases ha'
   exact⟨t,p.1,p.2,a,_,hop,hw,ha,e,h0,rfl,hH1⟩
  all_goals(rw[e]at hc;cases hc)
theorem Rg.ja(g:Rg P cf ops n nt S C){κ:Option Nat}{j r:Nat}(hj:j<ops.size)(hc:(C j).k=3)(hne:at' S κ r j≠at' S κ r (j +1)):
 r=(C j).r∧∃i,κ=some i∧(C j).off≤i∧i<(C j).off +(C j).n:=by
 have hs:=uW (g.step j _ (Array.getElem?_eq_getElem hj)) hc
 obtain⟨t,x,y,a,H',hop,hw,ha,e,hst,hs1,hwr⟩:=hs.ex
 obtain⟨_,h1,h2,h3,_,_⟩:=uV hwr
 have Ma:∀k,(S (j +1)).H.obj k=H'.obj k:=by intro k;rw[hs1,bT];rfl
 have Tq:∀k,(aM (S j)).H.obj k=(S j).H.obj k:=fun _=>rfl
 rw[e]
 simp only[aJ]
 by_cases hr:r=a.block
 ·subst hr
  refine⟨rfl,?_⟩
  cases κ with
  |none=>exact absurd (by show Ct.shape _=Ct.shape _;rw[Ma,h2,Tq]) hne
  |some i=>
   refine⟨i,rfl,?_⟩
   apply Classical.byContradiction
   intro hni
   exact hne (by show Ct.cell _=Ct.cell _;rw[Ma,h3 i hni,Tq])
 ·exact absurd (by show cont κ _=cont κ _;rw[Ma,h1 r hr,Tq]) hne
theorem Rg.Fy(g:Rg P cf ops n nt S C){j r:Nat}(hj:j<ops.size)(hc:(C j).k=3)(hr:r≠(C j).r):(S (j +1)).H.obj r=(S j).H.obj r:=by
 have hs:=uW (g.step j _ (Array.getElem?_eq_getElem hj)) hc
 obtain⟨t,x,y,a,H',hop,hw,ha,e,hst,hs1,hwr⟩:=hs.ex
 rw[e]at hr
 rw[hs1,bT]
 exact(uV hwr).2.1 r hr
theorem nU{x y:Cl}(h:kC x y=true){i:Nat}(hr:x.r=y.r)(h1:x.off≤i)(h2:i<x.off +x.n)(h3:y.off≤i)(h4:i<y.off +y.n):False:=by
 unfold kC at h
 rw[Bool.or_eq_true,Bool.or_eq_true]at h
 rcases h with(h|h)|h
 ·rw[hr]at h
  rw[show Nat.beq y.r y.r=true from Nat.beq_refl _]at h
  cases h
 ·have:=Nat.le_of_ble_eq_true h
  have e:Nat.add x.off x.n=x.off +x.n:=rfl
  omega
 ·have:=Nat.le_of_ble_eq_true h
  have e:Nat.add y.off y.n=y.off +y.n:=rfl
  omega
theorem Rg.G6(g:Rg P cf ops n nt S C){j:Nat}{l:Cl}(hj:j<ops.size)(hc:(C j).k=2)(h:uK (C j) l=true){i:Nat}(h1:l.off≤i)(h2:i<l.off +l.n):at' S (some i) l.r j=at' S (some i) l.r (j +1):=by
 have hs:=g.step j _ (Array.getElem?_eq_getElem hj)
 generalize hcj:C j=c at hs hc h
 generalize hsj:S (j +1)=s1 at hs
 show Ct.cell (bZ ((S j).H.obj l.r) i)=Ct.cell (bZ ((S (j +1)).H.obj l.r) i)
 rw[hsj]
 cases hs with
 |skip hw=>rw[bT]
 |oH v hw hr=>rw[bT]
 |mem v H' hw hr=>
  rw[bT]
  rcases BO (P:=P) (o:=ops[j].op) (s:=S j) (H':=H')with⟨p,a,hs,ha,e⟩|e|⟨hlow,⟨_,e⟩|e|⟨p,a,l,hs,ha,hl,e⟩⟩
  ·rw[e]at hc;cases hc
  ·rw[e]at h
   have:=BP (show sameAt (S j).H H' l.r l.off l.n=true from h) i h1 h2
   rw[this]
   rfl
  all_goals(rw[e]at hc;cases hc)
theorem Rg.Yo(g:Rg P cf ops n nt S C){D:Nat→Prop}(hD:Closed ops D){i:Nat}(hi:i<ops.size)(qP:¬D i)(dN:∀e,e∈ops[i].after.toList→Region.binds .any e=true→D e.on)
 (hc:(C i).k=4){k:Nat}(h1:(C i).off≤k)(h2:k<(C i).off +(C i).n)(hr:(C i).r<nx S i):qO S ops.size D (some k) (C i).r i:=by
 refine⟨hr,fun j hj CF hne=>?_⟩
 have hcj:=g.turns hj CF hne
 have hoi:ops[i]?=some ops[i]:=Array.getElem?_eq_getElem hi
 have hoj:ops[j]?=some ops[j]:=Array.getElem?_eq_getElem hj
 have Rb:(C j).k=3→∀x y,kC x y=true→((x=C j∧y=C i)∨(x=C i∧y=C j))→False:=by
  intro h3 x y hno hxy
  obtain⟨e1,i',e2,e3,e4⟩:=g.ja hj h3 hne
  cases e2
  rcases hxy with⟨rfl,rfl⟩|⟨rfl,rfl⟩
  ·exact nU hno e1.symm e3 e4 h1 h2
  ·exact nU hno e1 h1 h2 e3 e4
 rcases Nat.lt_trichotomy j i with h|h|h
 ·refine⟨fun _=>h,fun _=>?_⟩
  have hd:=g.dyn j i h hi
  rcases hcj with hcj|hcj
  ·rcases Ti hd hcj hc with hb|hb
   ·exact dh g.back hD i _ hoi dN j hb
   ·exact absurd (g.G6 hj hcj hb h1 h2) hne
  ·rcases Tf hd hcj hc with hb|hb
   ·exact dh g.back hD i _ hoi dN j hb
   ·exact(Rb hcj _ _ hb (.inl ⟨rfl,rfl⟩)).elim
 ·subst h;exact⟨fun h=>absurd h qP,fun h=>absurd h (Nat.lt_irrefl _)⟩
 ·refine⟨fun zA=>?_,fun h'=>by omega⟩
  have hd:=g.dyn i j h hj
  have hb:aS (mI ops j) i=true:=by
   rcases hcj with hcj|hcj
   ·rcases Tg hd hc hcj with hb|hb
    ·exact hb
    ·exact absurd (g.G6 hj hcj hb h1 h2) hne
   ·rcases Td hd hc hcj with hb|hb
    ·exact hb
    ·exact(Rb hcj _ _ hb (.inr ⟨rfl,rfl⟩)).elim
  exact absurd (dh g.back hD j _ hoj (hD j _ hoj zA) i hb) qP
theorem Fz{m:Mp}{H H':ag}{w:World}{t:TypeId}{x x' v:Value}{a:Addr}{ld:Option Nat}{l:Loc}{ob:Obj}(h:jg P t x H=some (v,H'))(hx:VR m x x')(ha:fH x=some a)(hl:Kv P t=some ld)
 (hm:m a.block=some l)(Ma:w.heap[l.c]?=some ob)(hc:∀i u,a.off≤i→i<a.off +ld.getD 1→bZ (H.obj a.block) i=some u→jJ m l i u ob):
 ∃v',VR m v v'∧(Instr.loadAt t x').run P w=.ok v' w:=by
 (replace h:=ae h;obtain⟨a0,ha0,h⟩:=h)
 (replace h:=ae h;obtain⟨l0,hl0,h⟩:=h)
 rw[ha]at ha0;cases ha0
 rw[hl]at hl0;cases hl0
 rw[dS ha]at hx
 obtain⟨l1,hm1,hlo,hsp,rfl⟩:=hx.gL
 rw[hm]at hm1;cases hm1
 have hcell:∀i u,a.off≤i→i<a.off +ld.getD 1→bZ (H.obj a.block) i=some u→∃u',VR m u u'∧w.cell? ⟨l.c,l.base +(i -l.lo),none⟩=some u':=by
  intro i u h1 h2 h3
  obtain⟨cs,ty,fr,u',e,h4,h5⟩:=hc i u h1 h2 h3
  subst e
  exact⟨u',h5,by rw[cell_of Ma];exact h4⟩
 obtain⟨d,i,hd,hi,hk⟩:=EP hl
 rcases hk with⟨hag,rfl⟩|⟨hag,rfl⟩
 ·replace h:(ah (H.read a.block a.off i.size) fun vs=>some (Value.agg ⟨vs⟩,H))=some (v,H'):=h
  (replace h:=ae h;obtain⟨vs,hvs,h⟩:=h)
  cases h
  have hrc:=rH hvs
  have hvl:vs.length=i.size:=by
   cases hz:i.size with
   |zero=>rw[hz]at hvs;cases hvs;rfl
   |succ k=>
    rw[hz]at hvs
    have h:=hvs
    replace h:(ah (jy (H.obj a.block)) fun w=>gd (Nat.ble (Nat.add a.off (k +1)) w.n) (some (Tr.vz top w.cells a.off (k +1))))=some vs:=h
    (replace h:=ae h;obtain⟨R,hR,h⟩:=h)
    (replace h:=aB h;obtain⟨hg,h⟩:=h)
    cases h
    exact GI _ _ _ _
  have key:∀(q:List Value)(b:Nat),vs.drop b=q→∃q',bP m q q'∧∀j u,q'[j]?=some u→w.cell? ((⟨l.c,l.base +(a.off -l.lo),none⟩:Addr).add (b +j))=some u:=by
   intro q
   induction q with
   |nil=>intro b _;exact⟨[],.nil,by simp⟩
   |cons u q ih=>
    intro b hb
    have hbu:vs[b]?=some u:=by
     have:=congrArg List.head? hb
     rwa [List.head?_drop]at this
    have hbl:b<vs.length:=(List.getElem?_eq_some_iff.1 hbu).1
    obtain⟨q',h1,h2⟩:=ih (b +1) (by rw[←List.tail_drop,hb];rfl)
    obtain⟨u',h3,h4⟩:=hcell (a.off +b) u aa (by show a.off +b<a.off +i.size;omega) (by rw[(hrc b aa).1];exact hbu)
    refine⟨u'::q',.cons _ _ _ _ h3 h1,?_⟩
    intro j z hz
    cases j with
    |zero=>
     simp at hz;subst hz
     rw[Nat.add_zero,qj l a.off _ hlo]
     exact h4
    |succ j=>
     have:=h2 j z (by simpa using hz)
     rw[show b +(j +1)=b +1 +j from by omega]
     exact this
  obtain⟨vs',h1,h2⟩:=key vs 0 rfl
  have hrun:=run_loadCells_list (P:=P) w ⟨l.c,l.base +(a.off -l.lo),none⟩ vs' (fun j u hu=>by have:=h2 j u hu;rwa [Nat.zero_add]at this)
  rw[←h1.length,hvl]at hrun
  exact⟨.agg ⟨vs'⟩,.agg _ _ h1,by simp[Instr.loadAt,Instr.sureAddr,loadVar,jG hd,hag,bG hi,hrun]⟩
 ·replace h:(ah (H.cell a.block a.off) fun v=>some (v,H))=some (v,H'):=h
  (replace h:=ae h;obtain⟨u,hu,h⟩:=h)
  cases h
  have h:=hu
  (replace h:=ae h;obtain⟨R,hR,h⟩:=h)
  (replace h:=aB h;obtain⟨hg,h⟩:=h)
  cases h
  have hg:a.off +1≤R.n:=Nat.le_of_ble_eq_true hg
  obtain⟨v',h1,h2⟩:=hcell a.off (R.cells.get top a.off) (Nat.le_refl _) (by show a.off<a.off +1;omega) (by rw[iN hR];simp only[bZ];rw[if_pos aa])
  exact⟨v',h1,by simp[Instr.loadAt,Instr.sureAddr,loadVar,jG hd,hag,h2]⟩
theorem Mb{o:Op}{s:St}{v:Value}{H':ag}(hf:lV o=true)(h:kH o P cf s=.mem v H'):
 ∃ob,H'=s.H.new ob∧∀A:ag,A.next=s.H.next→kH o P cf ⟨s.nl,s.nt,s.reg,s.tm,s.df,A⟩=.mem v (A.new ob):=by
 cases o<;>first|cases hf|skip
 case alloc e=>
  replace h:=cO (o:=oU P e s.H) h
  (replace h:=ae h;obtain⟨z,hz,h⟩:=h)
  cases h
  refine⟨_,rfl,fun A hA=>?_⟩
  show rm (ah (my P e) fun z=>some (xF A.next,A.new (rowOf e z)))=_
  rw[hz,hA];rfl
 case box e x=>
  replace h:=cO (o:=Bi e (ev s x) s.H) h
  (replace h:=aB h;obtain⟨hg,h⟩:=h)
  cases h
  refine⟨_,rfl,fun A hA=>?_⟩
  have e1:ev ⟨s.nl,s.nt,s.reg,s.tm,s.df,A⟩ x=ev s x:=by cases x<;>rfl
  show rm (gd (mq (ev ⟨s.nl,s.nt,s.reg,s.tm,s.df,A⟩ x)) (some (xF A.next,A.new (rowOf e (ax (ev ⟨s.nl,s.nt,s.reg,s.tm,s.df,A⟩ x))))))=_
  rw[e1,hg,hA];rfl
 case makeMap t r=>
  replace h:=cO (o:=jW P t (wJ s r) s.H) h
  (replace h:=ae h;obtain⟨q,hq,h⟩:=h)
  (replace h:=aB h;obtain⟨hg,h⟩:=h)
  cases h
  refine⟨_,rfl,fun A hA=>?_⟩
  have e1:wJ ⟨s.nl,s.nt,s.reg,s.tm,s.df,A⟩ r=wJ s r:=by
   cases r with
   |none=>rfl
   |some x=>cases x<;>rfl
  show rm (ah (qH P t) fun _=>gd (@Option.rec Value (fun _=>Bool) true (fun v=>!(aD (gW v))) (wJ ⟨s.nl,s.nt,s.reg,s.tm,s.df,A⟩ r)) (some (Value.map (some A.next),A.new (.map []))))=_
  rw[e1,hq,hA]
  show rm (gd (@Option.rec Value (fun _=>Bool) true (fun v=>!(aD (gW v))) (wJ s r)) _)=_
  rw[hg];rfl
 case makeSlice t l c=>
  replace h:=cO (o:=fB P t (ev s l) (ev s c) s.H) h
  (replace h:=ae h;obtain⟨q,hq,h⟩:=h)
  (replace h:=ae h;obtain⟨i,hi,h⟩:=h)
  (replace h:=ae h;obtain⟨z,hz,h⟩:=h)
  (replace h:=ae h;obtain⟨k,hk,h⟩:=h)
  (replace h:=ae h;obtain⟨k2,hk2,h⟩:=h)
  (replace h:=aB h;obtain⟨hg,h⟩:=h)
  cases h
  refine⟨_,rfl,fun A hA=>?_⟩
  have e1:ev ⟨s.nl,s.nt,s.reg,s.tm,s.df,A⟩ l=ev s l:=by cases l<;>rfl
  have e2:ev ⟨s.nl,s.nt,s.reg,s.tm,s.df,A⟩ c=ev s c:=by cases c<;>rfl
  show rm (fB P t (ev ⟨s.nl,s.nt,s.reg,s.tm,s.df,A⟩ l) (ev ⟨s.nl,s.nt,s.reg,s.tm,s.df,A⟩ c) A)=_
  unfold fB
  rw[e1,e2,hq]
  show rm (ah (tI P q.1) _)=_
  rw[hi]
  show rm (ah (my P q.1) _)=_
  rw[hz]
  show rm (ah (mW (ev s l)) _)=_
  rw[hk]
  show rm (ah (mW (ev s c)) _)=_
  rw[hk2]
  show rm (gd _ _)=_
  rw[hg,hA];rfl
 case buildSlice t k ps=>
  replace h:=cO (o:=h_ P t k (Bp s ps) s.H) h
  (replace h:=ae h;obtain⟨q,hq,h⟩:=h)
  (replace h:=ae h;obtain⟨z,hz,h⟩:=h)
  (replace h:=aB h;obtain⟨hg,h⟩:=h)
  (replace h:=ae h;obtain⟨cs,hcs,h⟩:=h)
  cases h
  refine⟨_,rfl,fun A hA=>?_⟩
  have e1:Bp ⟨s.nl,s.nt,s.reg,s.tm,s.df,A⟩ ps=Bp s ps:=by
   obtain⟨ps⟩:=ps
   show mp (fun p=>(p.1,ev ⟨s.nl,s.nt,s.reg,s.tm,s.df,A⟩ p.2)) ps=mp (fun p=>(p.1,ev s p.2)) ps
   congr 1
   funext p
   cases p.2<;>rfl
  show rm (h_ P t k (Bp ⟨s.nl,s.nt,s.reg,s.tm,s.df,A⟩ ps) A)=_
  unfold h_
  rw[e1,hq]
  show rm (ah (my P q.1) _)=_
  rw[hz]
  show rm (gd _ _)=_
  rw[hg]
  show rm (ah (qM _ (Bp s ps) _) _)=_
  rw[hcs,hA];rfl
end rg
section rg
variable{P:Program}{cf:bO}{ops:Array Oper}{n nt:Nat}{S:Nat→St}{C:Nat→Cl}{m0:Mp}{w0:World}
theorem dm.cells{m:Mp}{l:Loc}{o:bR}{cs cs':Array Value}{ty:TypeId}{fr:Nat×Nat}(h:dm m l o (.cells cs ty fr))(hs:cs'.size=cs.size):dm m l o (.cells cs' ty fr):=by
 cases o with
 |dead=>trivial
 |row R=>
  obtain⟨h1,h2,h3,h4,h5,h6⟩:=h
  exact⟨h1,h2,by rw[hs];exact h3,h4,h5,h6⟩
 |map es=>exact h.elim
 |oM s p=>exact h.elim
theorem Rg.Yp(g:Rg P cf ops n nt S C){D:Nat→Prop}(hD:Closed ops D){i:Nat}(hi:i<ops.size)(qP:¬D i)(dN:∀e,e∈ops[i].after.toList→Region.binds .any e=true→D e.on)
 (hc:(C i).k=3):(∀j,j<ops.size→(C j).k=2→j<i∧D j)∧∀r,r<nx S i→qO S ops.size D none r i:=by
 have hoi:ops[i]?=some ops[i]:=Array.getElem?_eq_getElem hi
 have h2:∀j,j<ops.size→(C j).k=2→j<i∧D j:=by
  intro j hj hcj
  rcases Nat.lt_trichotomy j i with h|h|h
  ·exact⟨h,dh g.back hD i _ hoi dN j (GZ (g.dyn j i h hi) (.inr hcj) hc)⟩
  ·subst h;rw[hc]at hcj;cases hcj
  ·exact(GY (g.dyn i j h hj) hc (.inr hcj)).elim
 refine⟨h2,fun r hr=>⟨hr,fun j hj CF hne=>?_⟩⟩
 rcases g.turns hj CF hne with hcj|hcj
 ·have:=h2 j hj hcj
  exact⟨fun _=>this.1,fun _=>this.2⟩
 ·obtain⟨_,k,hk,_⟩:=g.ja hj hcj hne
  cases hk
theorem FB(p:Nat→Bool):∀d k,p k=true→p (k +d)=false→∃j,k≤j∧j<k +d∧p j=true∧p (j +1)=false:=by
 intro d
 induction d with
 |zero=>intro k h1 h2;rw[Nat.add_zero,h1]at h2;cases h2
 |succ d ih=>
  intro k h1 h2
  cases hp:p (k +1)with
  |false=>exact⟨k,Nat.le_refl _,aa,h1,hp⟩
  |true=>
   obtain⟨j,a1,a2,a3⟩:=ih (k +1) hp (by rw[show k +1 +d=k +(d +1)from by omega];exact h2)
   exact⟨j,aa,aa,a3⟩
theorem MInv.stored(g:Rg P cf ops n nt S C){D:Nat→Prop}(hD:Closed ops D){m:Mp}{w:World}(I:MInv S C ops.size m0 w0 D m w){i:Nat}(hi:i<ops.size)(qP:¬D i)
 (dN:∀e,e∈ops[i].after.toList→Region.binds .any e=true→D e.on)(hc:(C i).k=3){t:TypeId}{x y:Operand}{x' y':Value}{a:Addr}{H':ag}
 (ha:fH (ev (S i) x)=some a)(hcl:C i=⟨3,a.block,a.off,len (ax (ev (S i) y)),hh0,hh0⟩)(hst:lg P t (ev (S i) x) (ev (S i) y) (aM (S i)).H=some (undef,H'))
 (hs1:(S (i +1)).H=⟨H'.jc,H'.next,dR (S i).H.low H'.low⟩)(hwr:(aM (S i)).H.write a.block a.off (ax (ev (S i) y))=some H')
 (hx:VR (m.upto (nx S i)) (ev (S i) x) x')(hy:VR (m.upto (nx S i)) (ev (S i) y) y'):
 ∃w',(Instr.storeAt t x' y').run P w=.ok () w'∧MInv S C ops.size m0 w0 (sS D i) m w':=by
 have hmono:=g.mono
 have h0:=hst
 have h:=hst
 (replace h:=ae h;obtain⟨a1,ha1,h⟩:=h)
 (replace h:=ae h;obtain⟨sz,hsz,h⟩:=h)
 (replace h:=aB h;obtain⟨hgl,h⟩:=h)
 (replace h:=ae h;obtain⟨H1,hH1,h⟩:=h)
 cases h
 rw[ha]at ha1;cases ha1
 obtain⟨inf,iD,rfl⟩:=fM hsz
 have hlen:=Nat.eq_of_beq_eq_true hgl
 rw[aJ]at hlen
 rw[dS ha]at hx
 obtain⟨l,hml,hlo,hsp,rfl⟩:=hx.gL
 have hu:=Mp.dY hml
 have hnt:ev (S i) y≠top:=by
  intro e
  rw[e]at hwr
  replace hwr:(ah (jy ((aM (S i)).H.obj a.block)) fun w=>
   gd (!w.bX&&Nat.ble (Nat.add a.off (len [top])) w.n&&Nat.ble w.fz a.off&&all' aN [top])
   (some ((aM (S i)).H.put a.block (.row ⟨w.ty,Tr.iH top [top] a.off w.cells,w.n,false,w.fz⟩))))=some H':=hwr
  have h:=hwr
  (replace h:=ae h;obtain⟨R,hR,h⟩:=h)
  (replace h:=aB h;obtain⟨hg,h⟩:=h)
  simp[all_eq,aN,top]at hg
 have hcv:=nR hy hnt
 have Rc:∀w',(storeCells ⟨l.c,l.base +(a.off -l.lo),none⟩ (ax y')).run P w=.ok () w'→(Instr.storeAt t (.pointer (some ⟨l.c,l.base +(a.off -l.lo),none⟩)) y').run P w=.ok () w':=by
  intro w' hw'
  have hsz:y'.cells.size=inf.size:=by rw[oV];show(ax y').length=_;rw[←hcv.length,hlen]
  have hcl:y'.cells.toList=ax y':=(qh y').symm
  simp only[Instr.storeAt,Instr.sureAddr,storeVar,Sem.run_bind,Sem.run_pure,Result.andThen_ok,bG iD,hsz,ne_eq,not_true_eq_false,if_false,hcl]
  exact hw'
 have hwo:=uV hwr
 have Ma:∀k,(S (i +1)).H.obj k=H'.obj k:=by intro k;rw[hs1];rfl
 by_cases hnil:ax (ev (S i) y)=[]
 ·rw[hnil]at hwr
  have hHH:(aM (S i)).H=H':=by
   have:some (aM (S i)).H=some H':=hwr
   injection this
  have hn':ax y'=[]:=by
   have:=hcv.length
   rw[hnil]at this
   exact List.eq_nil_of_length_eq_zero this.symm
  refine⟨w,Rc w (by rw[hn'];simp[storeCells]),I.still hi fun r hr=>?_⟩
  rw[Ma,←hHH];rfl
 ·
  obtain⟨G7,FC⟩:=g.Yp hD hi qP dN hc
  obtain⟨ob,PO⟩:=I.JJ _ _ hu.2
  have hsh:=I.cnt none _ _ i ob aa hu.2 (FC _ hu.1) PO
  have hrow:∃R,(S i).H.obj a.block=.row R∧R.bX=false∧a.off +(ax (ev (S i) y)).length≤R.n∧R.fz≤a.off∧(ax (ev (S i) y)).all aN=true:=by
   cases hvs:ax (ev (S i) y)with
   |nil=>exact absurd hvs hnil
   |cons u us=>
    rw[hvs]at hwr
    replace hwr:(ah (jy ((aM (S i)).H.obj a.block)) fun w=>
     gd (!w.bX&&Nat.ble (Nat.add a.off (len (u::us))) w.n&&Nat.ble w.fz a.off&&all' aN (u::us))
     (some ((aM (S i)).H.put a.block (.row ⟨w.ty,Tr.iH top (u::us) a.off w.cells,w.n,false,w.fz⟩))))=some H':=hwr
    have h:=hwr
    (replace h:=ae h;obtain⟨R,hR,h⟩:=h)
    (replace h:=aB h;obtain⟨hg,h⟩:=h)
    simp only[Bool.and_eq_true,aJ,all_eq]at hg
    exact⟨R,iN hR,by simpa using hg.1.1.1,Nat.le_of_ble_eq_true hg.1.1.2,Nat.le_of_ble_eq_true hg.1.2,hg.2⟩
  obtain⟨R,hR,hse,hbd,hfz,hoc⟩:=hrow
  have Tt:dm (m.upto (nx S i)) l (.row R) ob:=by
   have:dm (m.upto (nx S i)) l (yh ((S i).H.obj a.block)) ob:=hsh
   rw[hR]at this
   exact this.Fp rfl
  cases ob with
  |cells cs ty fr=>
   obtain⟨⟨e1,e2⟩,e3,e4,e5,e6,e7⟩:=Tt
   have hlen':(ax y').length=(ax (ev (S i) y)).length:=hcv.length.symm
   obtain⟨w',cs',r1,r2,r3,r4,r5,r6,r7,r8,r9⟩:=lF (P:=P) l.c (l.base +(a.off -l.lo)) ty fr (ax y') 0 cs w PO (oW hcv hoc) (by rw[hlen'];omega)
    (fun j b1 b2 b3=>by have:=e7 hse;omega)
   refine⟨w',Rc w' r1,?_⟩
   have Tu:(C i).r=a.block:=by rw[hcl]
   have PR:(C i).off=a.off:=by rw[hcl]
   have Vr:(C i).n=(ax (ev (S i) y)).length:=by rw[hcl];exact aJ _
   have hnot:∀κ r,(r≠a.block∨∀k,κ=some k→¬(a.off≤k∧k<a.off +(ax (ev (S i) y)).length))→at' S κ r i=at' S κ r (i +1):=by
    intro κ r hor
    apply Classical.byContradiction
    intro hne
    obtain⟨f1,k,f2,f3,f4⟩:=g.ja hi hc hne
    rw[Tu]at f1;rw[PR]at f3;rw[PR,Vr]at f4
    rcases hor with h|h
    ·exact h f1
    ·exact h k f2 ⟨f3,f4⟩
   have Tv:(S i).H.obj a.block≠.dead:=by rw[hR];simp
   have hother:∀r l1 k κ,r≠a.block→m r=some l1→l1.c=l.c→k≤ops.size→qO S ops.size D κ r k→∀o,Rel κ (m.upto (nx S k)) l1 (at' S κ r k) o:=by
    intro r l1 k κ hne hm1 hcc hk hcon o
    have nk:∀k',k'≤ops.size→qO S ops.size D none r k'→(S k').H.obj r=.dead:=by
     intro k' hk' L6
     apply Classical.byContradiction
     intro hnd
     exact hne (I.sep r a.block l1 l k' i hm1 hu.2 hcc hk' aa L6 (FC _ hu.1) hnd Tv)
    cases κ with
    |none=>
     show Rel none _ _ (.shape (yh ((S k).H.obj r))) o
     rw[nk k hk hcon]
     trivial
    |some q=>
     show Rel (some q) _ _ (.cell (bZ ((S k).H.obj r) q)) o
     cases hca:bZ ((S k).H.obj r) q with
     |none=>trivial
     |some z=>
      exfalso
      have Mc:∀j,j<ops.size→r<nx S j→(C j).k≠2→(bZ ((S j).H.obj r) q).isSome=(bZ ((S (j +1)).H.obj r) q).isSome:=by
       intro j hj CF h2
       apply L_
       apply Classical.byContradiction
       intro hne'
       have hne2:at' S none r j≠at' S none r (j +1):=fun e=>hne' (by injection e)
       rcases g.turns hj CF hne2 with h3|h3
       ·exact h2 h3
       ·obtain⟨_,_,h4,_⟩:=g.ja hj h3 hne2
        cases h4
      by_cases XP:r<nx S i
      ·have hd:=nk i aa (FC r XP)
       have hz:bZ ((S i).H.obj r) q=none:=by rw[hd];rfl
       rcases Nat.lt_or_ge k i with hki|hki
       ·obtain⟨j,f1,f2,f3,f4⟩:=FB (fun k=>(bZ ((S k).H.obj r) q).isSome) (i -k) k (by simp[hca]) (by
         show(bZ ((S (k +(i -k))).H.obj r) q).isSome=false
         rw[show k +(i -k)=i from by omega,hz];rfl)
        have CF:r<nx S j:=Nat.lt_of_lt_of_le hcon.1 (hmono k j f1 aa)
        have hj2:(C j).k=2:=Classical.byContradiction fun e=>by
         have:=Mc j aa CF e
         rw[f3,f4]at this;cases this
        have Yq:at' S (some q) r j≠at' S (some q) r (j +1):=by
         intro e
         have e:bZ ((S j).H.obj r) q=bZ ((S (j +1)).H.obj r) q:=by injection e
         rw[e,f4]at f3;cases f3
        have:=(hcon.2 j aa CF Yq).1 (G7 j aa hj2).2
        omega
       ·have:∀d,i +d≤ops.size→(bZ ((S (i +d)).H.obj r) q).isSome=false:=by
         intro d
         induction d with
         |zero=>intro _;rw[Nat.add_zero,hz];rfl
         |succ d ih=>
          intro hd'
          have h9:=Mc (i +d) aa (Nat.lt_of_lt_of_le XP (hmono i (i +d) aa aa)) (fun e=>by
           have:=(G7 (i +d) aa e).1;omega)
          rw[show i +(d +1)=i +d +1 from rfl,←h9]
          exact ih aa
        have:=this (k -i) aa
        rw[show i +(k -i)=k from by omega,hca]at this
        cases this
      ·have hcn:qO S ops.size D none r k:=by
        refine⟨hcon.1,fun j hj CF hne'=>?_⟩
        exfalso
        rcases g.turns hj CF hne' with h3|h3
        ·have:=(G7 j hj h3).1
         have:=hmono j i aa aa
         omega
        ·obtain⟨_,_,h4,_⟩:=g.ja hj h3 hne'
         cases h4
       rw[nk k hk hcn]at hca
       cases hca
   refine⟨?_,?_,?_,?_,?_,?_,I.le,I.fresh,r7.trans I.os,r8.trans I.tape,r9.trans I.output,by rw[r6];exact I.size,?_⟩
   ·exact fun r l h=>(I.dom r l h).imp id fun⟨j,h1,h2,h3⟩=>⟨j,h1,.inl h2,h3⟩
   ·intro r l1 h1
    obtain⟨o,ho⟩:=I.JJ r l1 h1
    have:l1.c<w'.heap.size:=by rw[r6];exact fO ho
    exact⟨w'.heap[l1.c],Array.getElem?_eq_getElem this⟩
   ·
    intro κ r l1 k o hk hm1 hcon ho
    by_cases hr:r=a.block
    ·subst hr
     rw[hu.2]at hm1
     have hll:l=l1:=by injection hm1
     subst hll
     rw[r2]at ho
     have ho:Obj.cells cs' ty fr=o:=by injection ho
     subst ho
     by_cases hin:∃q,κ=some q∧a.off≤q∧q<a.off +(ax (ev (S i) y)).length
     ·obtain⟨q,rfl,q1,q2⟩:=hin
      have Vs:qO S ops.size (sS D i) (some q) a.block (i +1):=by
       refine⟨Nat.lt_of_lt_of_le hu.1 (g.Dj hi),fun j hj CF hne=>?_⟩
       rcases g.turns hj CF hne with h2|h3
       ·have:=G7 j hj h2
        exact⟨fun _=>by omega,fun _=>.inl this.2⟩
       ·obtain⟨f1,q',f2,f3,f4⟩:=g.ja hj h3 hne
        cases f2
        have hoi:ops[i]?=some ops[i]:=Array.getElem?_eq_getElem hi
        have hoj:ops[j]?=some ops[j]:=Array.getElem?_eq_getElem hj
        rcases Nat.lt_trichotomy j i with h|h|h
        ·rcases LZ (g.dyn j i h hi) h3 hc with hb|hb
         ·exact⟨fun _=>by omega,fun _=>.inl (dh g.back hD i _ hoi dN j hb)⟩
         ·exact(nU hb (by rw[←f1,Tu]) f3 f4 (by rw[PR];exact q1) (by rw[PR,Vr];exact q2)).elim
        ·subst h
         exact⟨fun _=>by omega,fun _=>.inr rfl⟩
        ·rcases LZ (g.dyn i j h hj) hc h3 with hb|hb
         ·refine⟨fun hw=>?_,fun h'=>by omega⟩
          rcases hw with zA|e
          ·exact absurd (dh g.back hD j _ hoj (hD j _ hoj zA) i hb) qP
          ·omega
         ·exact(nU hb (by rw[←f1,Tu]) (by rw[PR];exact q1) (by rw[PR,Vr];exact q2) f3 f4).elim
      have heq:at' S (some q) a.block (i +1)=at' S (some q) a.block k:=qO.eq hmono aa hk Vs hcon
      have hcell:bZ ((S (i +1)).H.obj a.block) q=(ax (ev (S i) y))[q -a.off]?:=by rw[Ma];exact hwo.2.2.2.2.1 q q1 q2
      have hrel:Rel (some q) (m.upto (nx S i)) l (at' S (some q) a.block k) (.cells cs' ty fr):=by
       rw[←heq]
       show Rel (some q) _ l (.cell (bZ ((S (i +1)).H.obj a.block) q)) _
       rw[hcell]
       cases hz:(ax (ev (S i) y))[q -a.off]? with
       |none=>trivial
       |some z=>
        intro hlq
        obtain⟨z',f1,f2⟩:=hcv.get _ hz
        refine⟨cs',ty,fr,z',rfl,?_,f2⟩
        rw[r4,if_pos (by rw[hlen'];omega),show l.base +(q -l.lo) -(l.base +(a.off -l.lo) +0)=q -a.off from by omega]
        exact f1
      rcases Nat.lt_or_ge i k with hik|hik
      ·exact hrel.mono (Mp.jI (fun _ _ h=>h) (hmono i k aa hk))
      ·have hni:at' S (some q) a.block i=at' S (some q) a.block (i +1):=by
        apply Classical.byContradiction
        intro hne
        have:=(hcon.2 i hi hu.1 hne).1 (.inr rfl)
        omega
       have hold:=I.cnt (some q) _ _ k _ hk hu.2 (hcon.less fun _=>hni) PO
       exact Rel.restrict (Mp.jI (fun _ _ h=>h) (hmono k i hik aa)) hrel hold
     ·have hni:at' S κ a.block i=at' S κ a.block (i +1):=hnot κ _ (.inr fun q e h=>hin ⟨q,e,h.1,h.2⟩)
      have hold:=I.cnt κ _ _ k _ hk hu.2 (hcon.less fun _=>hni) PO
      cases κ with
      |none=>
       have hold:dm (m.upto (nx S k)) l (yh ((S k).H.obj a.block)) (.cells cs ty fr):=hold
       exact hold.cells r3
      |some q=>
       have hold:Rel (some q) (m.upto (nx S k)) l (.cell (bZ ((S k).H.obj a.block) q)) (.cells cs ty fr):=hold
       show Rel (some q) (m.upto (nx S k)) l (.cell (bZ ((S k).H.obj a.block) q)) (.cells cs' ty fr)
       cases hz:bZ ((S k).H.obj a.block) q with
       |none=>trivial
       |some z=>
        rw[hz]at hold
        intro hlq
        obtain⟨cs0,ty0,fr0,v,f1,f2,f3⟩:=hold hlq
        cases f1
        refine⟨cs',ty,fr,v,rfl,?_,f3⟩
        rw[r4,if_neg]
        ·exact f2
        ·rw[hlen']
         intro hh
         exact hin ⟨q,rfl,aa,aa⟩
    ·have hni:at' S κ r i=at' S κ r (i +1):=hnot κ r (.inl hr)
     have Au:=hcon.less fun _=>hni
     by_cases hcc:l1.c=l.c
     ·exact hother r l1 k κ hr hm1 hcc hk Au o
     ·rw[r5 _ hcc]at ho
      exact I.cnt κ r l1 k o hk hm1 Au ho
   ·intro r r' l1 Yr k k' h1 h2 h3 h4 h5 h6 h7 h8 h9
    exact I.sep r r' l1 Yr k k' h1 h2 h3 h4 h5 (h6.less fun _=>hnot none r (.inr fun q e=>by cases e)) (h7.less fun _=>hnot none r' (.inr fun q e=>by cases e)) h8 h9
   ·exact fun r r' l1 Yr j h1 h2 h3 h4 h5 h6=>I.clash r r' l1 Yr j h1 h2 h3 h4 (fun h=>h5 (.inl h)) h6
   ·intro j r hj zA hr hmr
    rcases zA with h|rfl
    ·exact I.hid j r hj h hr hmr
    ·refine g.Fy hi hc ?_
     rw[Tu]
     intro e
     rw[e,hu.2]at hmr
     cases hmr
   ·intro c hcs hk
    rw[r5,I.keep c hcs hk]
    intro e
    have hlow:(S ops.size).H.low≤a.block:=by
     have f1:=g.low (i +1) ops.size aa (Nat.le_refl _)
     rw[hs1]at f1
     have f2:(S ops.size).H.low≤dR (S i).H.low H'.low:=f1
     exact Nat.le_trans f2 (Nat.le_trans (qw _ _).2 (hwo.2.2.2.2.2 hnil))
    cases h0':m0 a.block with
    |some l0=>
     have:=I.le _ _ h0'
     rw[hu.2]at this;cases this
     have:=hk _ _ h0' e.symm
     omega
    |none=>
     obtain⟨r0,l0,f1,f2,f3⟩:=I.fresh _ _ hu.2 h0' (by rw[←e];exact hcs)
     have:=hk r0 l0 f1 (by rw[f2,e])
     omega
  |map kz c=>exact Tt.elim
  |_=>exact Tt.elim
end rg
theorem kW{s:St}{d:Option Nat}{v:Value}{H:ag}(hd:yf s.nt d=true)(t:Nat):aO (bA s d v H) t=if d=some t then v else aO s t:=by
 cases d with
 |none=>rfl
 |some d=>
  have hd:d<s.nt:=Nat.le_of_ble_eq_true hd
  show aO (fC s d v H) t=_
  unfold fC
  cases hb:aS s.nl d with
  |true=>
   show aO ⟨s.nl,s.nt,s.reg,au (Nat.ble (Nat.succ d) s.nt) (s.tm.set top d v) s.tm,s.df,H⟩ t=_
   rw[show Nat.ble (Nat.succ d) s.nt=true from Nat.ble_eq_true_of_le hd]
   show au (aS s.nl t) ((s.tm.set top d v).get top t) (look s.reg t)=_
   rw[Tr.gQ]
   by_cases e:d=t
   ·subst e;rw[hb,if_pos rfl,if_pos rfl];rfl
   ·rw[if_neg (Ne.symm e),if_neg (by simpa using e)];rfl
  |false=>
   show au (aS s.nl t) (s.tm.get top t) (au (Nat.beq d t) v (look s.reg t))=_
   by_cases e:d=t
   ·subst e;rw[hb,if_pos rfl,show Nat.beq d d=true from Nat.beq_refl d];rfl
   ·rw[if_neg (by simpa using e),show Nat.beq d t=false from by rw[←Bool.not_eq_true];exact fun g=>e (Nat.eq_of_beq_eq_true g)];rfl
section rg
variable{P:Program}{cf:bO}{ops:Array Oper}{n nt:Nat}{S:Nat→St}{C:Nat→Cl}{m0:Mp}{w0:World}
def PS(ops:Array Oper)(D:Nat→Prop)(t k:Nat):Prop:=∀(j:Nat)(o:Oper),ops[j]?=some o→o.dst=some t→(D j↔j<k)
structure Inv(ops:Array Oper)(nt:Nat)(S:Nat→St)(C:Nat→Cl)(m0:Mp)(w0:World)(d0:List Deferred)(D:Nat→Prop)(m:Mp)(a:Act)(w:World):Prop where
 mem:MInv S C ops.size m0 w0 D m w
 size:a.tmps.size=nt
 slot:∀t k,k≤ops.size→PS ops D t k→VR (m.upto (nx S k)) (aO (S k) t) (a.tmps.getD t undef)
 de:a.defers=d0
theorem Rg.look(g:Rg P cf ops n nt S C){j:Nat}{o:Oper}(ho:ops[j]?=some o)(t:Nat)(h:o.dst≠some t):aO (S (j +1)) t=aO (S j) t:=by
 have hs:=g.step j o ho
 have hd:yf (S j).nt o.dst=true:=by
  have:=g.ok j o ho
  unfold iU at this
  rw[Bool.and_eq_true]at this
  rw[g.Yl j o ho];exact this.2
 generalize S (j +1)=s1 at hs
 generalize C j=c at hs
 cases hs with
 |skip hw=>rw[kW hd,if_neg h]
 |oH v hw hr=>rw[kW hd,if_neg h]
 |mem v H' hw hr=>rw[kW hd,if_neg h]
theorem get_put{a:Act}{d:Option Nat}{v:Value}{nt:Nat}(hs:a.tmps.size=nt)(hd:yf nt d=true)(t:Nat):(a.put d v).tmps.getD t undef=if d=some t then v else a.tmps.getD t undef:=by
 cases d with
 |none=>rfl
 |some d=>
  have hd:d<nt:=Nat.le_of_ble_eq_true hd
  show(a.tmps.setIfInBounds d v).getD t undef=_
  by_cases e:d=t
  ·subst e
   rw[if_pos rfl]
   simp[Array.getD,hs,hd]
  ·rw[if_neg (by simpa using e)]
   simp only[Array.getD_eq_getD_getElem?]
   rw[Array.getElem?_setIfInBounds_ne e]
theorem Me{a:Act}{d:Option Nat}{v:Value}:(a.put d v).tmps.size=a.tmps.size:=by
 cases d with
 |none=>rfl
 |some d=>show(a.tmps.setIfInBounds d v).size=_;simp
theorem JM(g:Rg P cf ops n nt S C){D:Nat→Prop}(hD:Closed ops D){m m':Mp}{a:Act}(hsz:a.tmps.size=nt)(hsl:∀t k,k≤ops.size→PS ops D t k→VR (m.upto (nx S k)) (aO (S k) t) (a.tmps.getD t undef))
 {i:Nat}(hi:i<ops.size)(qP:¬D i)(hm:Mp.le m m'){v v':Value}(hv:VR (m'.upto (nx S (i +1))) v v')(Av:∀t,ops[i].dst=some t→aO (S (i +1)) t=v):
 ∀t k,k≤ops.size→PS ops (sS D i) t k→VR (m'.upto (nx S k)) (aO (S k) t) ((a.put ops[i].dst v').tmps.getD t undef):=by
 intro t k hk hcon
 have hoi:ops[i]?=some ops[i]:=Array.getElem?_eq_getElem hi
 have hd:yf nt ops[i].dst=true:=by
  have:=g.ok i _ hoi
  unfold iU at this
  rw[Bool.and_eq_true]at this
  exact this.2
 rw[get_put hsz hd]
 by_cases e:ops[i].dst=some t
 ·rw[if_pos e]
  have hik:i<k:=(hcon i _ hoi e).1 (.inr rfl)
  have hsame:∀d,i +1 +d≤k→aO (S (i +1 +d)) t=v:=by
   intro d
   induction d with
   |zero=>intro _;exact Av t e
   |succ d ih=>
    intro hd'
    have hj:i +1 +d<ops.size:=by omega
    have hoj:ops[i +1 +d]?=some ops[i +1 +d]:=Array.getElem?_eq_getElem hj
    rw[show i +1 +(d +1)=i +1 +d +1 from rfl,g.look hoj t ?_,ih aa]
    intro e2
    have zA:D (i +1 +d):=((hcon _ _ hoj e2).2 aa).resolve_right aa
    rcases g.stat i (i +1 +d) _ _ aa hoi hoj with hb|hap
    ·exact qP (dh g.back hD _ _ hoj (hD _ _ hoj zA) i hb)
    ·exact(Oper.apart_spec hap).2.1 t e e2
  have:=hsame (k -(i +1)) aa
  rw[show i +1 +(k -(i +1))=k from by omega]at this
  rw[this]
  exact hv.mono (Mp.jI (fun _ _ h=>h) (g.mono _ _ hik hk))
 ·rw[if_neg e]
  refine(hsl t k hk ?_).mono (Mp.jI hm (Nat.le_refl _))
  intro j o hj hdj
  have hji:j≠i:=by
   intro e2;subst e2
   rw[hoi]at hj;cases hj
   exact e hdj
  rw[←hcon j o hj hdj]
  exact⟨.inl,fun h=>h.resolve_right hji⟩
theorem Mf(g:Rg P cf ops n nt S C){D:Nat→Prop}(hD:Closed ops D){i:Nat}(hi:i<ops.size)(qP:¬D i)
 (dN:∀e,e∈ops[i].after.toList→Region.binds .any e=true→D e.on){t:Nat}(ht:t∈ops[i].looksAt ops):PS ops D t i:=by
 intro j o hj hdj
 have hoi:ops[i]?=some ops[i]:=Array.getElem?_eq_getElem hi
 rcases Nat.lt_trichotomy j i with h|h|h
 ·refine⟨fun _=>h,fun _=>?_⟩
  rcases g.stat j i _ _ h hj hoi with hb|hap
  ·exact dh g.back hD i _ hoi dN j hb
  ·exact absurd ht ((Oper.apart_spec hap).1 t hdj)
 ·subst h;exact⟨fun h=>absurd h qP,fun h=>absurd h (Nat.lt_irrefl _)⟩
 ·refine⟨fun zA=>?_,fun h'=>by omega⟩
  rcases g.stat i j _ _ h hoi hj with hb|hap
  ·exact absurd (dh g.back hD j _ hj (hD j _ hj zA) i hb) qP
  ·exact absurd ht ((Oper.apart_spec hap).2.2 t hdj)
theorem JN{m:Mp}{s:St}{a:Act}{j:Nat}{y:Option Bool}(f:∀(o:Oper) t,ops[j]?=some o→o.dst=some t→VR m (aO s t) (a.tmps.getD t undef))(h:nN ops s j=some y):yielded ops a.tmps j=y:=by
 (replace h:=ae h;obtain⟨o,ho,h⟩:=h)
 (replace h:=ae h;obtain⟨t,ht,h⟩:=h)
 rw[cB,Array.getElem?_toList]at ho
 have hs:=f o t ho ht
 have hy:yielded ops a.tmps j=match a.tmps[t]? with|some (.bool b)=>some b|_=>none:=by
  unfold yielded
  rw[ho]
  show(match(o.dst).bind (a.tmps[·]?)with|some (.bool b)=>some b|_=>none)=_
  rw[ht]
  rfl
 rw[hy]
 cases hb:bE (aO s t)with
 |some b=>
  rw[hb]at h
  replace h:some (some b)=some y:=h
  cases h
  rw[eF hb]at hs
  have hs:=hs.of_bool
  rw[Array.getD_eq_getD_getElem?]at hs
  cases hq:a.tmps[t]? with
  |none=>rw[hq]at hs;cases hs
  |some x=>rw[hq]at hs;replace hs:x=.bool b:=hs;rw[hs]
 |none=>
  rw[hb]at h
  replace h:(gd (UL (aO s t)) (some (none:Option Bool)))=some y:=h
  (replace h:=aB h;obtain⟨hg,h⟩:=h)
  cases h
  rw[LH hg]at hs
  obtain⟨l',hl,hv⟩:=VR.Bq (x:=[]) hs
  cases hv
  rw[Array.getD_eq_getD_getElem?]at hl
  cases hq:a.tmps[t]? with
  |none=>rfl
  |some x=>rw[hq]at hl;replace hl:x=.tuple ⟨[]⟩:=hl;rw[hl]
theorem yo{m:Mp}{s:St}{a:Act}{o:Oper}{b:Bool}(f:∀t,t∈o.looksAt ops→VR m (aO s t) (a.tmps.getD t undef))(h:fF ops s o.guard=some b):Region.wanted o (yielded ops a.tmps)=b:=by
 unfold Region.wanted
 cases hg:o.guard with
 |none=>rw[hg]at h;cases h;rfl
 |some p=>
  rw[hg]at h
  replace h:(ah (nN ops s p.1) fun y=>some (@Option.rec Bool (fun _=>Bool) false (fun b=>oz b p.2) y))=some b:=h
  (replace h:=ae h;obtain⟨y,hy,h⟩:=h)
  cases h
  obtain⟨j,want⟩:=p
  simp only
  rw[JN (m:=m) (s:=s) (fun o' t ho' ht=>f t (by
   unfold Oper.looksAt
   rw[hg]
   refine List.mem_append_right _ ?_
   simp only[ho',Option.bind_some,ht]
   simp)) hy]
  cases y with
  |none=>rfl
  |some c=>cases c<;>cases want<;>rfl
theorem Tw{m:Mp}{s:St}{a:Act}{o:Oper}(gl:Gl n m)(hok:all' (rF n) o.op.operands.toList=true)(f:∀t,t∈o.looksAt ops→VR m (aO s t) (a.tmps.getD t undef)):Am m s a.eval o.op.operands.toList:=by
 refine⟨fun x hx=>?_⟩
 rw[all_eq]at hok
 have hx':=List.all_eq_true.1 hok x hx
 cases x with
 |tmp t=>
  refine f t ?_
  unfold Oper.looksAt
  refine List.mem_append_left _ ?_
  rw[List.mem_filterMap]
  exact⟨_,hx,rfl⟩
 |const v=>exact .sc v hx'
 |global k=>
  obtain⟨l,h1,h2,h3,h4⟩:=gl k (Nat.le_of_ble_eq_true hx')
  have:=VR.ptr (m:=m) k 0 l h1 aa
  rw[h2,h3,h4]at this
  exact this
 |func f=>exact .func (.func f) [] [] [] [] .nil .nil
theorem Mg{m:Mp}{s:St}{ρ:Operand→Value}{L:List Operand}(e:Am m s ρ L)(A:ag):Am m ⟨s.nl,s.nt,s.reg,s.tm,s.df,A⟩ ρ L:=⟨fun x hx=>by have:=e.all x hx;cases x<;>exact this⟩
theorem Inv.step(g:Rg P cf ops n nt S C)(hcf:qJ P n cf)(Yt:Gl n m0)(wK:∀r l,m0 r=some l→r<nx S 0){d0:List Deferred}{D:Nat→Prop}(hD:Closed ops D){m:Mp}{a:Act}{w:World}
 (I:Inv ops nt S C m0 w0 d0 D m a w){i:Nat}(hi:i<ops.size)(qP:¬D i)(dN:∀e,e∈ops[i].after.toList→Region.binds .any e=true→D e.on)
 {K:Act→World→Prop}{Q:Exit→Act→World→Prop}(HK:∀m' a' w',Inv ops nt S C m0 w0 d0 (sS D i) m' a' w'→K a' w'):wpOp P ops Q i K a w:=by
 have hoi:ops[i]?=some ops[i]:=Array.getElem?_eq_getElem hi
 have hst:=g.step i _ hoi
 have hok:=g.ok i _ hoi
 unfold iU at hok
 rw[Bool.and_eq_true]at hok
 have hdst:yf (S i).nt ops[i].dst=true:=by rw[g.Yl i _ hoi];exact hok.2
 have hsl:∀t,t∈ops[i].looksAt ops→VR (m.upto (nx S i)) (aO (S i) t) (a.tmps.getD t undef):=fun t ht=>I.slot t i aa (Mf g hD hi qP dN ht)
 have Yu:Gl n (m.upto (nx S i)):=by
  intro k hk
  obtain⟨l,h1,h2⟩:=Yt k hk
  exact⟨l,Mp.sP (I.mem.le _ _ h1) (Nat.lt_of_lt_of_le (wK _ _ h1) (g.mono 0 i aa aa)),h2⟩
 have e:=Tw Yu hok.1 hsl
 have fin:∀(v v':Value)(m':Mp)(w':World),MInv S C ops.size m0 w0 (sS D i) m' w'→Mp.le m m'→VR (m'.upto (nx S (i +1))) v v'→(∀t,ops[i].dst=some t→aO (S (i +1)) t=v)→K (a.put ops[i].dst v') w':=by
  intro v v' m' w' hM hle hv hl
  exact HK m' _ w' ⟨hM,by rw[Me];exact I.size,JM g hD I.size I.slot hi qP hle hv hl,by rw[put_defers];exact I.de⟩
 have Vt:Mp.le (m.upto (nx S i)) (m.upto (nx S (i +1))):=Mp.jI (fun _ _ h=>h) (g.Dj hi)
 unfold wpOp
 rw[hoi]
 generalize hs1:S (i +1)=s1 at hst
 generalize hci:C i=c at hst
 cases hst with
 |skip hw=>
  simp only[yo hsl hw,Bool.false_eq_true,if_false]
  refine fin undef undef m w (I.mem.still hi fun r _=>by rw[hs1,bT]) (fun _ _ h=>h) (.tuple [] [] .nil) ?_
  intro t ht
  rw[hs1,kW hdst,if_pos ht]
 |oH v hw hr=>
  simp only[yo hsl hw,if_true]
  left
  obtain⟨v',h1,h2⟩:=BJ hr e.aM (fun _=>rfl)
  unfold Oper.wp
  rw[h2 w]
  refine fin v v' m w (I.mem.still hi fun r _=>by rw[hs1,bT]) (fun _ _ h=>h) (h1.mono Vt) ?_
  intro t ht
  rw[hs1,kW hdst,if_pos ht]
 |mem v H' hw hr=>
  simp only[yo hsl hw,if_true]
  left
  have Av:∀t,ops[i].dst=some t→aO (S (i +1)) t=v:=by
   intro t ht
   rw[hs1,kW hdst,if_pos ht]
  have oK:∀r,(S (i +1)).H.obj r=H'.obj r:=by intro r;rw[hs1,bT];rfl
  have hnx:nx S (i +1)=H'.next:=by show(S (i +1)).H.next=_;rw[hs1,bT]
  have Vu:(S ops.size).H.low≤H'.low:=by
   have h1:=g.low (i +1) ops.size aa (Nat.le_refl _)
   rw[hs1,bT]at h1
   have h1:(S ops.size).H.low≤dR (S i).H.low H'.low:=h1
   exact Nat.le_trans h1 (qw _ _).2
  have G8:((C i).k=2∨((C i).k=1∧nx S i≤H'.low))→ops[i].wp P a w K Q:=by
   intro hk
   have PT:(C i).k=1∨(C i).k=2:=by
    rcases hk with h|h
    ·exact .inr h
    ·exact .inl h.1
   have rh:RH (m.upto (nx S i)) (aM (S i)).H w:=by
    refine⟨fun r l h=>(Mp.dY h).1,?_,?_⟩
    ·intro r l h
     have hu:=Mp.dY h
     obtain⟨o,ho⟩:=I.mem.JJ r l hu.2
     exact⟨o,ho,Rel.L5 fun κ=>I.mem.cnt κ r l i o aa hu.2 (g.G5 hD hi qP dN PT hu.1) ho⟩
    ·intro r r' l l' h h' hd hd' hc
     have hu:=Mp.dY h
     have hu':=Mp.dY h'
     exact I.mem.sep r r' l l' i i hu.2 hu'.2 hc aa aa (g.G5 hD hi qP dN PT hu.1) (g.G5 hD hi qP dN PT hu'.1) hd hd'
   refine ym hcf (s:=aM (S i)) rh Yu hr e.aM ?_
   intro m2 v' w' h1 h2 h3
   obtain⟨m',f1,f2,f3⟩:=I.mem.made g hD hi qP dN (A:=(aM (S i)).H) (A':=H') rfl hnx.symm h2 h3 (.inr Vu) (fun r _ _=>(oK r).symm)
    (by rcases PT with h|h<;>omega) (by
     rcases hk with h|h
     ·exact .inl ⟨h,fun r=>(oK r).symm,fun r=>rfl⟩
     ·exact .inr ⟨aa,h.2⟩)
   exact fin v v' m' w' f1 f2 (h1.mono f3) Av
  rcases BO (P:=P) (o:=ops[i].op) (s:=S i) (H':=H')with⟨p,ad,hs,ha,ec⟩|ec|⟨hlow,⟨hf,ec⟩|ec|⟨p,ad,l,hs,ha,hl,ec⟩⟩
  ·
   have hc3:(C i).k=3:=by rw[hci,ec]
   have hsk:=uW (g.step i _ hoi) hc3
   obtain⟨t,x,y,a1,H1,hop,hw1,ha1,hcl,Vv,Yv,hwr⟩:=hsk.ex
   have hv:v=undef∧H'=H1:=by
    rw[hop]at hr
    have h:=cO (o:=lg P t (ev (aM (S i)) x) (ev (aM (S i)) y) (aM (S i)).H) hr
    rw[nu,nu,Vv]at h
    cases h
    exact⟨rfl,rfl⟩
   obtain⟨w',r1,r2⟩:=I.mem.stored g hD hi qP dN hc3 ha1 hcl Vv (by rw[Yv,bT]) hwr (e.all x (by rw[hop];simp[Op.operands])) (e.all y (by rw[hop];simp[Op.operands]))
   have hrun:(execOp a.eval ops[i]).run P w=.ok .skip w':=by
    simp only[execOp,hop,Sem.run_bind,r1,Result.andThen_ok,Sem.run_pure]
   unfold Oper.wp
   rw[hrun]
   exact fin v undef m w' r2 (fun _ _ h=>h) (by rw[hv.1];exact .tuple [] [] .nil) Av
  ·exact G8 (.inl (by rw[hci,ec]))
  ·
   obtain⟨ob,e1,e2⟩:=Mb (cf:=cf) (s:=aM (S i)) hf hr
   have hA:=e2 ⟨.nil,nx S i,nx S i⟩ rfl
   have rh:RH (m.upto (nx S i)) ⟨.nil,nx S i,nx S i⟩ w:=by
    refine⟨fun r l h=>(Mp.dY h).1,?_,?_⟩
    ·intro r l h
     obtain⟨o,ho⟩:=I.mem.JJ r l (Mp.dY h).2
     refine⟨o,ho,?_⟩
     show iJ _ _ ((Tr.nil:Tr bR).get .dead r) _
     rw[Tr.get_nil]
     trivial
    ·intro r r' l l' _ _ hd _ _
     exact absurd (Tr.get_nil _ _) hd
   refine ym hcf (s:=⟨(S i).nl,(S i).nt,(S i).reg,(S i).tm,(S i).df,⟨.nil,nx S i,nx S i⟩⟩) rh Yu hA (Mg e _) ?_
   intro m2 v' w' h1 h2 h3
   have hc5:(C i).k=5:=by rw[hci,ec];rfl
   obtain⟨m',f1,f2,f3⟩:=I.mem.made g hD hi qP dN (A:=⟨.nil,nx S i,nx S i⟩) (A':=(ag.mk .nil (nx S i) (nx S i)).new ob) rfl (by rw[hnx,e1];rfl) h2 h3 (.inl (Nat.le_refl _)) (by
    intro r a1 a2
    rw[oK,e1,kK,kK]
    have:r=nx S i:=by
     rw[hnx,e1]at a2
     have:r<nx S i +1:=a2
     omega
    rw[if_pos this]
    exact(if_pos this).symm) aa (.inr ⟨aa,Nat.le_refl _⟩)
   exact fin v v' m' w' f1 f2 (h1.mono f3) Av
  ·exact G8 (.inr ⟨by rw[hci,ec];rfl,hlow⟩)
  ·
   have hc4:(C i).k=4:=by rw[hci,ec]
   have hop:=JL hs
   rw[hop]at hr
   have hld:=cO (o:=jg P p.1 (ev (aM (S i)) p.2) (aM (S i)).H) hr
   rw[nu]at hld
   have hx:=e.all p.2 (by rw[hop];simp[Op.operands])
   have hx0:=hx
   rw[dS ha]at hx0
   obtain⟨l1,hm1,_,_,_⟩:=hx0.gL
   have hu:=Mp.dY hm1
   obtain⟨ob,Ma⟩:=I.mem.JJ _ _ hu.2
   have Tu:(C i).r=ad.block:=by rw[hci,ec]
   have PR:(C i).off=ad.off:=by rw[hci,ec]
   have Vr:(C i).n=l.getD 1:=by rw[hci,ec]
   obtain⟨v',h1,h2⟩:=Fz (P:=P) (w:=w) (ob:=ob) hld hx ha hl hm1 Ma (by
    intro k u q1 q2 q3
    have hcon:=g.Yo hD hi qP dN hc4 (k:=k) (by rw[PR];exact q1) (by rw[PR,Vr];exact q2) (by rw[Tu];exact hu.1)
    rw[Tu]at hcon
    have hrel:=I.mem.cnt (some k) _ _ i ob aa hu.2 hcon Ma
    have hrel:Rel (some k) (m.upto (nx S i)) l1 (.cell (bZ ((S i).H.obj ad.block) k)) ob:=hrel
    replace q3:bZ ((S i).H.obj ad.block) k=some u:=q3
    rw[q3]at hrel
    by_cases hlk:l1.lo≤k
    ·exact hrel hlk
    ·exfalso
     have:=hx
     rw[dS ha]at this
     obtain⟨l2,g1,g2,_⟩:=this.gL
     rw[hm1]at g1;cases g1
     omega)
   have hrun:(execOp a.eval ops[i]).run P w=.ok (.value v') w:=by
    simp only[execOp,hop,Sem.run_bind,h2,Result.andThen_ok,Sem.run_pure]
   unfold Oper.wp
   rw[hrun]
   refine fin v v' m w (I.mem.still hi fun r hr'=>g.same hi aa aa hr') (fun _ _ h=>h) (h1.mono Vt) Av
end rg
section rg
variable{P:Program}{cf:bO}{ops:Array Oper}{n nt:Nat}{S:Nat→St}{C:Nat→Cl}
def left(N:Nat)(listed:Array Bool):Nat:=((List.range N).filter fun j=>!(listed.getD j false)).length
theorem filter_le(p q:Nat→Bool)(h:∀x,p x=true→q x=true):∀(l:List Nat),(l.filter p).length≤(l.filter q).length:=by
 intro l
 induction l with
 |nil=>exact Nat.le_refl _
 |cons y l ih=>
  simp only[List.filter_cons]
  cases hy:p y with
  |true=>rw[h y hy];simp only[if_true,List.length_cons];omega
  |false=>
   simp only[Bool.false_eq_true,if_false]
   split
   ·simp only[List.length_cons];omega
   ·exact ih
theorem filter_lt(p q:Nat→Bool)(h:∀x,p x=true→q x=true):∀(l:List Nat)(y:Nat),y∈l→q y=true→p y=false→(l.filter p).length<(l.filter q).length:=by
 intro l
 induction l with
 |nil=>intro y hy;cases hy
 |cons z l ih=>
  intro y hy hq hp
  simp only[List.filter_cons]
  rcases List.mem_cons.1 hy with e|hy
  ·rw[←e,hq,hp]
   have:=filter_le p q h l
   simp only[if_true,Bool.false_eq_true,if_false,List.length_cons]
   omega
  ·have:=ih y hy hq hp
   cases hz:p z with
   |true=>rw[h z hz];simp only[if_true,List.length_cons];omega
   |false=>
    simp only[Bool.false_eq_true,if_false]
    split
    ·simp only[List.length_cons];omega
    ·exact this
theorem JO{N:Nat}{listed:Array Bool}(h:left N listed=0):∀j,j<N→listed.getD j false=true:=by
 intro j hj
 have:=List.eq_nil_of_length_eq_zero h
 have hm:=List.filter_eq_nil_iff.1 this j (List.mem_range.2 hj)
 simpa using hm
theorem Mh{N:Nat}{listed:Array Bool}{i:Nat}(hs:listed.size=N)(hi:i<N)(hl:listed.getD i false=false):left N (listed.setIfInBounds i true)<left N listed:=by
 refine filter_lt _ _ ?_ _ i (List.mem_range.2 hi) (by rw[hl];rfl) ?_
 ·intro x hx
  cases h:listed.getD x false with
  |false=>rfl
  |true=>rw[getD_set_true h]at hx;exact hx
 ·have:(listed.setIfInBounds i true).getD i false=true:=by simp[hs,hi]
  rw[this];rfl
theorem FD(N:Nat):left N (Array.replicate N false)≤N:=by
 unfold left
 have:=List.length_filter_le (fun j=>!((Array.replicate N false).getD j false)) (List.range N)
 simpa using this
theorem any_ok(g:Rg P cf ops n nt S C)(hcf:qJ P n cf){m0:Mp}{w0:World}(Yt:Gl n m0)(wK:∀r l,m0 r=some l→r<nx S 0){d0:List Deferred}{Q:Exit→Act→World→Prop}
 (HQ:∀D m a w,(∀j,j<ops.size→D j)→Inv ops nt S C m0 w0 d0 D m a w→Q .normal a w):
 ∀(fuel:Nat)(listed:Array Bool)(m:Mp)(a:Act)(w:World),listed.size=ops.size→left ops.size listed≤fuel→Closed ops (fun j=>listed.getD j false=true)→
  Inv ops nt S C m0 w0 d0 (fun j=>listed.getD j false=true) m a w→wpAny P .any ops Q fuel listed a w:=by
 have hall:∀(listed:Array Bool),listed.size=ops.size→Region.ready .any ops listed=[]→∀j,j<ops.size→listed.getD j false=true:=by
  intro listed hsz hr j
  induction j using Nat.strongRecOn with
  |_ j ih=>
   intro hj
   cases hl:listed.getD j false with
   |true=>rfl
   |false=>
    have hoj:ops[j]?=some ops[j]:=Array.getElem?_eq_getElem hj
    have hmem:j∈Region.ready .any ops listed:=by
     rw[mem_ready]
     refine⟨by simp[hsz,hj]at hl⊢;exact hl,ops[j],hoj,fun e he hb=>?_⟩
     have hlt:=pq ops.toList 0 j ops[j] g.back (by rw[Array.getElem?_toList];exact hoj) e (by simpa using he) hb
     exact ih e.on aa aa
    rw[hr]at hmem
    cases hmem
 intro fuel
 induction fuel with
 |zero=>
  intro listed m a w hsz hle hD I
  have h1:=JO (Nat.le_zero.1 hle)
  refine⟨?_,HQ _ m a w h1 I⟩
  cases hr:Region.ready .any ops listed with
  |nil=>rfl
  |cons j l=>
   exfalso
   have hj:j∈Region.ready .any ops listed:=by rw[hr];exact List.mem_cons_self ..
   rw[mem_ready]at hj
   obtain⟨h2,o,ho,_⟩:=hj
   have hjs:j<ops.size:=(Array.getElem?_eq_some_iff.1 ho).1
   have:=h1 j hjs
   simp[hsz,hjs]at h2 this
   rw[h2]at this;cases this
 |succ fuel ih=>
  intro listed m a w hsz hle hD I
  refine⟨fun hr=>HQ _ m a w (hall listed hsz hr) I,fun i hi=>?_⟩
  rw[mem_ready]at hi
  obtain⟨h2,o,ho,h3⟩:=hi
  have his:i<ops.size:=(Array.getElem?_eq_some_iff.1 ho).1
  have hoo:ops[i]=o:=by
   have:=Array.getElem?_eq_getElem his
   rw[ho]at this;injection this with this;exact this.symm
  subst hoo
  have hun:listed.getD i false=false:=by simp[hsz,his]at h2⊢;exact h2
  have hset:∀j,((listed.setIfInBounds i true).getD j false=true)↔sS (fun j=>listed.getD j false=true) i j:=by
   intro j
   by_cases e:i=j
   ·subst e
    exact⟨fun _=>.inr rfl,fun _=>by simp[hsz,his]⟩
   ·rw[getD_set_ne false e]
    exact⟨.inl,fun h=>h.resolve_right (Ne.symm e)⟩
  refine Inv.step g hcf Yt wK hD I his (by rw[hun];simp) (fun e he hb=>h3 e (by simpa using he) hb) ?_
  intro m' a' w' I'
  have hfun:(fun j=>(listed.setIfInBounds i true).getD j false=true)=sS (fun j=>listed.getD j false=true) i:=by
   funext j
   exact propext (hset j)
  refine ih (listed.setIfInBounds i true) m' a' w' (by simpa using hsz) ?_ ?_ (by rw[hfun];exact I')
  ·have:=Mh (N:=ops.size) hsz his hun
   omega
  ·intro j o hj zA e he hb
   rcases(hset j).1 zA with h|h
   ·exact getD_set_true (hD j o hj h e he hb)
   ·subst h
    rw[ho]at hj;cases hj
    exact getD_set_true (h3 e (by simpa using he) hb)
end rg
section mem
variable{P:Program}
theorem PV(hmo:P.follows .mixedOrders=true){cf:bO}{n:Nat}(hcf:qJ P n cf)(nt:Nat):uT P cf n nt:=by
 intro id ops s m a w Q hall hnt rh f gl hpost
 replace hpost:Post m s.H w a.defers nt s.df Q (au (bW ops&&eB ops) (iR ops (bB P cf ops ops.toList (clear s) [])) .fail):=hpost
 cases hpl:bW ops with
 |false=>rw[hpl]at hpost;exact hpost.elim
 |true=>
 cases hst:eB ops with
 |false=>rw[hpl,hst]at hpost;exact hpost.elim
 |true=>
  rw[hpl,hst]at hpost
  replace hpost:Post m s.H w a.defers nt s.df Q (iR ops (bB P cf ops ops.toList (clear s) [])):=hpost
  cases hr:bB P cf ops ops.toList (clear s) []with
  |none=>rw[hr]at hpost;exact hpost.elim
  |some q=>
   obtain⟨s1,cls⟩:=q
   rw[hr]at hpost
   replace hpost:Post m s.H w a.defers nt s.df Q (au (dH ops cls) (.norm s1) .fail):=hpost
   cases hdy:dH ops cls with
   |false=>rw[hdy]at hpost;exact hpost.elim
   |true=>
    rw[hdy]at hpost
    replace hpost:To m s.H w a.defers nt s.df s1 (Q .normal):=hpost
    rw[all_eq,List.all_eq_true]at hall
    obtain⟨S,C,e0,eN,e3,e4,_,e6⟩:=trace hcf (ops:=ops) (nt:=nt) ops.toList (clear s) s1 [] cls m a w hall hnt rh f.clear gl hr
    simp only[Array.length_toList]at eN e3 e4
    have hto:∀(j:Nat)(o:Oper),ops[j]?=some o→ops.toList[j]?=some o:=fun j o h=>by rw[Array.getElem?_toList];exact h
    have hsp:=JI hst
    have hk5:∀j,j<ops.size→(C j).k≤5:=by
     intro j hj
     have hs:=(e6 j _ (hto j _ (Array.getElem?_eq_getElem hj))).1
     generalize S (j +1)=s2 at hs
     generalize C j=c at hs
     cases hs with
     |skip hw=>exact Nat.zero_le _
     |oH v hw hr=>exact Nat.zero_le _
     |mem v H' hw hr=>exact LX
    have g:Rg P cf ops n nt S C:=by
     refine⟨fun j o h=>(e6 j o (hto j o h)).1,fun j o h=>(e6 j o (hto j o h)).2.1,fun j o h=>(e6 j o (hto j o h)).2.2,?_,hsp.1,hsp.2,?_⟩
     ·intro j o h
      exact hall o (List.mem_of_getElem? (hto j o h))
     ·exact LY hdy (by simpa using e3) e4 hk5
    have JP:nx S 0=s.H.next:=by show(S 0).H.next=_;rw[e0];rfl
    have Dm:∀r,(S 0).H.obj r=s.H.obj r:=by intro r;rw[e0];rfl
    have wK:∀r l,m r=some l→r<nx S 0:=fun r l h=>by rw[JP];exact rh.dom r l h
    have hup:∀k,k≤ops.size→Mp.le m (m.upto (nx S k)):=fun k hk r l h=>Mp.sP h (Nat.lt_of_lt_of_le (wK r l h) (g.mono 0 k aa hk))
    have Yw:∀j,j≤ops.size→(S j).df=s.df:=by
     intro j
     induction j with
     |zero=>intro _;rw[e0];rfl
     |succ j ih=>
      intro hj
      have hs:=g.step j _ (Array.getElem?_eq_getElem hj)
      rw[←ih aa]
      generalize S (j +1)=s2 at hs
      generalize C j=c at hs
      cases hs with
      |skip hw=>rw[BK]
      |oH v hw hr=>rw[BK]
      |mem v H' hw hr=>rw[BK]
    have Vw:(S ops.size).nt=nt:=by
     cases hz:ops.size with
     |zero=>rw[e0];exact hnt
     |succ k=>
      have hj:k<ops.size:=by omega
      have hoj:=Array.getElem?_eq_getElem hj
      have hs:=g.step k _ hoj
      rw[←g.Yl k _ hoj]
      generalize S (k +1)=s2 at hs
      generalize C k=c at hs
      cases hs with
      |skip hw=>rw[jQ]
      |oH v hw hr=>rw[jQ]
      |mem v H' hw hr=>rw[jQ]
    have hfalse:∀j,((Array.replicate ops.size false).getD j false=true)↔False:=by
     intro j
     simp only[Array.getD_eq_getD_getElem?,Array.getElem?_replicate,iff_false]
     split<;>simp
    have Au:∀κ r k,k≤ops.size→qO S ops.size (fun j=>(Array.replicate ops.size false).getD j false=true) κ r k→r<nx S 0→at' S κ r 0=at' S κ r k:=by
     intro κ r k hk hcon hr
     refine qO.eq g.mono aa hk ⟨hr,fun j _ _ _=>?_⟩ hcon
     rw[hfalse]
     exact⟨fun h=>h.elim,fun h=>by omega⟩
    have hI:Inv ops nt S C m w.drew a.defers (fun j=>(Array.replicate ops.size false).getD j false=true) m a w.drew:=by
     refine⟨⟨?_,?_,?_,?_,?_,?_,fun _ _ h=>h,?_,rfl,rfl,rfl,Nat.le_refl _,fun _ _ _=>rfl⟩,by rw[f.size];exact hnt,?_,rfl⟩
     ·exact fun r l h=>.inl ⟨h,wK r l h⟩
     ·intro r l h
      obtain⟨o,ho,_⟩:=rh.ok r l h
      exact⟨o,ho⟩
     ·intro κ r l k o hk hm hcon ho
      obtain⟨o',ho',hok⟩:=rh.ok r l hm
      have:o'=o:=by
       have h1:w.heap[l.c]?=some o:=ho
       rw[ho']at h1;injection h1
      subst this
      rw[←Dm]at hok
      have hrel:Rel κ m l (at' S κ r 0) o':=Rel.mJ hok
      rw[Au κ r k hk hcon (wK r l hm)]at hrel
      exact hrel.mono (hup k hk)
     ·intro r r' l l' k k' h1 h2 h3 h4 h5 h6 h7 h8 h9
      refine rh.sep r r' l l' h1 h2 ?_ ?_ h3
      ·rw[←Dm]
       exact nT (Au none r k h4 h6 (wK r l h1)).symm h8
      ·rw[←Dm]
       exact nT (Au none r' k' h5 h7 (wK r' l' h2)).symm h9
     ·intro r r' l l' j h1 h2 _ hj _ _
      have hm:=g.mono 0 j aa aa
      exact⟨fun _=>Nat.lt_of_lt_of_le (wK r' l' h2) hm,fun _=>Nat.lt_of_lt_of_le (wK r l h1) hm⟩
     ·intro j r _ zA
      exact((hfalse j).1 zA).elim
     ·intro r l h h0;rw[h]at h0;cases h0
     ·intro t k hk hcon
      have hsame:∀d,d≤k→aO (S d) t=aO (S 0) t:=by
       intro d
       induction d with
       |zero=>intro _;rfl
       |succ d ih=>
        intro hd
        have hj:d<ops.size:=by omega
        have hoj:ops[d]?=some ops[d]:=Array.getElem?_eq_getElem hj
        rw[g.look hoj t ?_,ih aa]
        intro e
        exact(hfalse d).1 ((hcon d _ hoj e).2 aa)
      rw[hsame k (Nat.le_refl _),e0]
      exact(f.clear.slot t).mono (hup k hk)
    refine wp_region_any hmo ?_
    refine any_ok g hcf gl wK ?_ ops.size (Array.replicate ops.size false) m a w.drew (by simp) (FD _) (fun j o _ h=>((hfalse j).1 h).elim) hI
    intro D m' a' w' hD I
    have Mi:∀κ r,r<nx S ops.size→qO S ops.size D κ r ops.size:=fun κ r hr=>⟨hr,fun j hj _ _=>⟨fun _=>hj,fun _=>hD j hj⟩⟩
    have G9:∀r l,m' r=some l→r<nx S ops.size:=by
     intro r l h
     rcases I.mem.dom r l h with⟨_,h1⟩|⟨j,hj,_,_,h1⟩
     ·exact Nat.lt_of_lt_of_le h1 (g.mono 0 _ aa (Nat.le_refl _))
     ·exact Nat.lt_of_lt_of_le h1 (g.mono _ _ aa (Nat.le_refl _))
    have hnone:∀r,r<nx S 0→m r=none→m' r=none:=by
     intro r hr h
     cases h1:m' r with
     |none=>rfl
     |some l=>
      rcases I.mem.dom r l h1 with⟨h2,_⟩|⟨j,hj,_,h2,_⟩
      ·rw[h]at h2;cases h2
      ·have:=g.mono 0 j aa aa;omega
    refine hpost m' a' w' ⟨⟨?_,?_,?_⟩,⟨?_,?_,?_⟩,?_,?_⟩
    ·rw[←eN,Vw];exact I.size
    ·intro t
     rw[←eN]
     refine(I.slot t ops.size (Nat.le_refl _) ?_).mono (Mp.GX _ _)
     intro j o hj _
     have:j<ops.size:=(Array.getElem?_eq_some_iff.1 hj).1
     exact⟨fun _=>this,fun _=>hD j this⟩
    ·rw[I.de,←eN,Yw _ (Nat.le_refl _)]
     exact f.df.mono I.mem.le
    ·intro r l h;rw[←eN];exact G9 r l h
    ·intro r l h
     obtain⟨o,ho⟩:=I.mem.JJ r l h
     rw[←eN]
     exact⟨o,ho,(Rel.L5 fun κ=>I.mem.cnt κ r l ops.size o (Nat.le_refl _) h (Mi κ r (G9 r l h)) ho).mono (Mp.GX _ _)⟩
    ·intro r r' l l' h h' hd hd' hc
     rw[←eN]at hd hd'
     exact I.mem.sep r r' l l' _ _ h h' hc (Nat.le_refl _) (Nat.le_refl _) (Mi none r (G9 r l h)) (Mi none r' (G9 r' l' h')) hd hd'
    ·have hex:Ex m m' s.H s1.H w.drew w':=by
      rw[←eN]
      refine⟨I.mem.le,?_,?_,I.mem.os,I.mem.tape,I.mem.output,I.mem.size,I.mem.keep,?_,?_,?_,?_⟩
      ·intro r l h h0
       rcases I.mem.dom r l h with⟨h2,_⟩|⟨j,hj,_,h2,_⟩
       ·rw[h0]at h2;cases h2
       ·rw[←JP]
        exact Nat.le_trans (g.mono 0 j aa aa) h2
      ·exact I.mem.fresh
      ·rw[←JP];exact g.mono 0 _ aa (Nat.le_refl _)
      ·have:=g.low 0 ops.size aa (Nat.le_refl _)
       rw[e0]at this;exact this
      ·intro r h1 h2
       have:∀d,d≤ops.size→(S d).H.obj r=s.H.obj r:=by
        intro d
        induction d with
        |zero=>intro _;exact Dm r
        |succ d ih=>
         intro hd
         rw[g.PN (j:=d) aa (Nat.lt_of_lt_of_le (by rw[JP];exact h1) (g.mono 0 d aa aa)) h2,ih aa]
       exact this ops.size (Nat.le_refl _)
      ·intro r h1 h2
       have hmn:=hnone r (by rw[JP];exact h1) h2
       have:∀d,d≤ops.size→(S d).H.obj r=s.H.obj r:=by
        intro d
        induction d with
        |zero=>intro _;exact Dm r
        |succ d ih=>
         intro hd
         rw[I.mem.hid d r aa (hD d aa) (Nat.lt_of_lt_of_le (by rw[JP];exact h1) (g.mono 0 d aa aa)) hmn,ih aa]
       exact this ops.size (Nat.le_refl _)
     exact(Ex.drew m s.H w).trans hex
    ·rw[←eN];exact Vw
theorem levels(hmo:P.follows .mixedOrders=true){X:Xt}{n:Nat}(hP:l5 P n)(hX:Ky P X)(hO:yg P X n)(k:Nat):BL P n (a_ P X k):=
 (LQ hP hX hO (fun _ hcf nt=>PV hmo hcf nt) k).2.2
end mem
section mem
variable{P:Program}
theorem l5.Mj{n:Nat}(h:all' (JD n) P.funcs.toList=true):l5 P n:=by
 intro g fn hg
 rw[all_eq,List.all_eq_true]at h
 exact h fn (List.mem_of_getElem? (by rw[Array.getElem?_toList];exact hg))
end mem
def rJ(cf lQ:bO):Prop:=∀g args H r,cf g args H=some r→lQ g args H=some r
def BQ(cx CG:Code→St→Out):Prop:=∀c s,cx c s≠.fail→CG c s=cx c s
section mem
variable{P:Program}
theorem Re{o:Option (Value×ag)}(h:rm o≠.fail):∃r,o=some r:=by
 cases o with
 |none=>exact absurd rfl h
 |some r=>exact⟨r,rfl⟩
theorem Dn{cf lQ:bO}(h:rJ cf lQ){o:Op}{s:St}(hne:kH o P cf s≠.fail):kH o P lQ s=kH o P cf s:=by
 cases o with
 |call c=>
  replace hne:jv c P cf s≠.fail:=hne
  show jv c P lQ s=jv c P cf s
  obtain⟨callee,args,ats⟩:=c
  cases callee with
  |builtin b=>rfl
  |value f=>
   obtain⟨r,hr⟩:=Re (o:=ah (dG (.value f) P s) fun q=>cf q.1 (app q.2.1 (app (mp (ev s) args.toList) q.2.2)) s.H) hne
   show rm (ah (dG (.value f) P s) fun q=>lQ q.1 (app q.2.1 (app (mp (ev s) args.toList) q.2.2)) s.H)=rm (ah (dG (.value f) P s) fun q=>cf q.1 (app q.2.1 (app (mp (ev s) args.toList) q.2.2)) s.H)
   rw[hr]
   obtain⟨q,h1,h2⟩:=ae hr
   rw[h1]
   show rm (lQ _ _ _)=_
   rw[h _ _ _ _ h2]
  |invoke f nm=>
   obtain⟨r,hr⟩:=Re (o:=ah (dG (.invoke f nm) P s) fun q=>cf q.1 (app q.2.1 (app (mp (ev s) args.toList) q.2.2)) s.H) hne
   show rm (ah (dG (.invoke f nm) P s) fun q=>lQ q.1 (app q.2.1 (app (mp (ev s) args.toList) q.2.2)) s.H)=rm (ah (dG (.invoke f nm) P s) fun q=>cf q.1 (app q.2.1 (app (mp (ev s) args.toList) q.2.2)) s.H)
   rw[hr]
   obtain⟨q,h1,h2⟩:=ae hr
   rw[h1]
   show rm (lQ _ _ _)=_
   rw[h _ _ _ _ h2]
 |_=>rfl
theorem JQ{cf lQ:bO}(h:rJ cf lQ){o:Oper}{s s1:St}(hs:kI P cf o s=some s1):kI P lQ o s=some s1:=by
 unfold kI at hs⊢
 cases hd:gp o.op with
 |some c=>rw[hd]at hs;exact hs
 |none=>
  rw[hd]at hs
  replace hs:q8 o s (kH o.op P cf s)=some s1:=hs
  show q8 o s (kH o.op P lQ s)=some s1
  rw[Dn h (by intro e;rw[e]at hs;cases hs)]
  exact hs
theorem vK{cf lQ:bO}(h:rJ cf lQ){ops:Array Oper}{o:Oper}{s s1:St}(hs:cK P cf ops o s=some s1):cK P lQ ops o s=some s1:=by
 obtain⟨b,hb,h2⟩:=ae hs
 unfold cK
 rw[hb]
 cases b with
 |true=>exact JQ h h2
 |false=>exact h2
theorem vL{cf lQ:bO}(h:rJ cf lQ){ops:Array Oper}:∀{l:List Oper}{s s1:St},di P cf ops l s=some s1→di P lQ ops l s=some s1:=by
 intro l
 induction l with
 |nil=>intro s s1 hs;exact hs
 |cons o l ih=>
  intro s s1 hs
  replace hs:(ah (cK P cf ops o s) fun s=>di P cf ops l s)=some s1:=hs
  obtain⟨s2,h1,h2⟩:=ae hs
  show(ah (cK P lQ ops o s) fun s=>di P lQ ops l s)=some s1
  rw[vK h h1]
  exact ih h2
theorem sU{cf lQ:bO}(h:rJ cf lQ){ops:Array Oper}{o:Oper}{s:St}{r:St×Cl}(hs:bU P cf ops o s=some r):bU P lQ ops o s=some r:=by
 obtain⟨b,hb,h2⟩:=ae hs
 unfold bU
 rw[hb]
 cases b with
 |true=>
  replace h2:vE P o s (kH o.op P cf (aM s))=some r:=h2
  show vE P o s (kH o.op P lQ (aM s))=some r
  rw[Dn h (by intro e;rw[e]at h2;cases h2)]
  exact h2
 |false=>exact h2
theorem sV{cf lQ:bO}(h:rJ cf lQ){ops:Array Oper}:∀{l:List Oper}{s:St}{acc:List Cl}{r:St×List Cl},bB P cf ops l s acc=some r→bB P lQ ops l s acc=some r:=by
 intro l
 induction l with
 |nil=>intro s acc r hs;exact hs
 |cons o l ih=>
  intro s acc r hs
  replace hs:(ah (bU P cf ops o s) fun q=>bB P cf ops l q.1 (q.2::acc))=some r:=hs
  obtain⟨s2,h1,h2⟩:=ae hs
  show(ah (bU P lQ ops o s) fun q=>bB P lQ ops l q.1 (q.2::acc))=some r
  rw[sU h h1]
  exact ih h2
theorem Dp{cf lQ:bO}(h:rJ cf lQ){ops:Array Oper}{d:Bool}{s:St}(hne:region P cf ops d s≠.fail):region P lQ ops d s=region P cf ops d s:=by
 cases d with
 |false=>
  replace hne:vG (di P cf ops ops.toList (clear s))≠.fail:=hne
  show vG (di P lQ ops ops.toList (clear s))=vG (di P cf ops ops.toList (clear s))
  cases hr:di P cf ops ops.toList (clear s)with
  |none=>rw[hr]at hne;exact absurd rfl hne
  |some s1=>rw[vL h hr]
 |true=>
  replace hne:au (bW ops&&eB ops) (iR ops (bB P cf ops ops.toList (clear s) [])) .fail≠.fail:=hne
  show au (bW ops&&eB ops) (iR ops (bB P lQ ops ops.toList (clear s) [])) .fail=au (bW ops&&eB ops) (iR ops (bB P cf ops ops.toList (clear s) [])) .fail
  cases hb:(bW ops&&eB ops)with
  |false=>rfl
  |true=>
   rw[hb]at hne
   replace hne:iR ops (bB P cf ops ops.toList (clear s) [])≠.fail:=hne
   show iR ops (bB P lQ ops ops.toList (clear s) [])=iR ops (bB P cf ops ops.toList (clear s) [])
   cases hr:bB P cf ops ops.toList (clear s) []with
   |none=>rw[hr]at hne;exact absurd rfl hne
   |some r=>rw[sV h hr]
theorem sW{o o':Out}{k k':St→Out}(ho:o≠.fail→o'=o)(hk:∀s,k s≠.fail→k' s=k s)(hne:andThen o k≠.fail):andThen o' k'=andThen o k:=by
 cases o with
 |fail=>exact absurd rfl hne
 |norm s=>rw[ho (by simp)];exact hk s hne
 |exit i s=>rw[ho (by simp)];rfl
 |goto l s=>rw[ho (by simp)];rfl
 |ret s=>rw[ho (by simp)];rfl
theorem yt{f f':St→Out}(hf:∀s,f s≠.fail→f' s=f s):∀(n n':Nat),n≤n'→∀s,jY n f s≠.fail→jY n' f' s=jY n f s:=by
 intro n
 induction n with
 |zero=>intro n' _ s h;exact absurd rfl h
 |succ n ih=>
  intro n' hn s h
  cases n' with
  |zero=>omega
  |succ n'=>
   show andThen (f' s) (jY n' f')=andThen (f s) (jY n f)
   exact sW (hf s) (fun s' h'=>ih n' aa s' h') h
theorem pz{cx CG:Code→St→Out}(hx:BQ cx CG)(body:Code):∀(n n':Nat),n≤n'→∀o,dI cx n body o≠.fail→dI CG n' body o=dI cx n body o:=by
 intro n
 induction n with
 |zero=>intro n' _ o h;exact absurd rfl h
 |succ n ih=>
  intro n' hn o h
  cases n' with
  |zero=>omega
  |succ n'=>
   cases o with
   |goto l s=>
    replace h:(@Option.rec Code (fun _=>Out) (.goto l s) (fun rest=>dI cx n body (cx rest s)) (findLabel body l):Out)≠.fail:=h
    show(@Option.rec Code (fun _=>Out) (.goto l s) (fun rest=>dI CG n' body (CG rest s)) (findLabel body l):Out)=(@Option.rec Code (fun _=>Out) (.goto l s) (fun rest=>dI cx n body (cx rest s)) (findLabel body l):Out)
    cases hf:findLabel body l with
    |none=>rfl
    |some rest=>
     rw[hf]at h
     replace h:dI cx n body (cx rest s)≠.fail:=h
     show dI CG n' body (CG rest s)=dI cx n body (cx rest s)
     have hne:cx rest s≠.fail:=by
      intro e
      rw[e]at h
      cases n with
      |zero=>exact h rfl
      |succ n=>exact h rfl
     rw[hx rest s hne]
     exact ih n' aa _ h
   |_=>rfl
theorem uX{cf lQ:bO}(h:rJ cf lQ){cx CG:Code→St→Out}(hx:BQ cx CG){n n':Nat}(hn:n≤n'):∀(c:Code)(s:St),exec P cf cx n c s≠.fail→exec P lQ CG n' c s=exec P cf cx n c s:=by
 intro c
 induction c with
 |region id ops d=>intro s hne;exact Dp h hne
 |seq a b iha ihb=>
  intro s hne
  exact sW (o:=exec P cf cx n a s) (o':=exec P lQ CG n' a s) (k:=exec P cf cx n b) (k':=exec P lQ CG n' b) (iha s) ihb hne
 |cond c a b iha ihb=>
  intro s hne
  replace hne:vF (bE (ev s c)) (exec P cf cx n a s) (exec P cf cx n b s)≠.fail:=hne
  show vF (bE (ev s c)) (exec P lQ CG n' a s) (exec P lQ CG n' b s)=vF (bE (ev s c)) (exec P cf cx n a s) (exec P cf cx n b s)
  cases hb:bE (ev s c)with
  |none=>rfl
  |some b'=>
   rw[hb]at hne
   cases b' with
   |true=>exact iha s hne
   |false=>exact ihb s hne
 |block id a ih=>
  intro s hne
  replace hne:jD id (exec P cf cx n a s)≠.fail:=hne
  show jD id (exec P lQ CG n' a s)=jD id (exec P cf cx n a s)
  rw[ih s (by intro e;rw[e]at hne;exact hne rfl)]
 |loop a ih=>intro s hne;exact yt ih n n' hn s hne
 |scope a ih=>
  intro s hne
  replace hne:dI cx n a (exec P cf cx n a s)≠.fail:=hne
  show dI CG n' a (exec P lQ CG n' a s)=dI cx n a (exec P cf cx n a s)
  have hne2:exec P cf cx n a s≠.fail:=by
   intro e
   rw[e]at hne
   cases n with
   |zero=>exact hne rfl
   |succ n=>exact hne rfl
  rw[ih s hne2]
  exact pz hx a n n' hn _ hne
 |_=>intro s _;rfl
theorem vM{L L':Lv}(h:rJ L.ca L'.ca)(hx:BQ L.cx L'.cx){n n':Nat}(hn:n≤n'){g:Nat}{fn:Func}{c:Code}{args:List Value}{H:ag}{s:St}(h1:ig P L n g fn c args H=some s):ig P L' n' g fn c args H=some s:=by
 unfold ig at h1⊢
 obtain⟨h3,h5⟩:=aB h1
 rw[h3,uX h hx hn c _ (by intro e;rw[e]at h5;cases h5)]
 exact h5
theorem Dq{L L':Lv}(h:rJ L.ca L'.ca)(hx:BQ L.cx L'.cx){n n':Nat}(hn:n≤n'){d:Deferred}{H H':ag}(h1:q_ P L n d H=some H'):q_ P L' n' d H=some H':=by
 unfold q_ at h1⊢
 obtain⟨q,hq,h1⟩:=ae h1
 obtain⟨fn,hf,h1⟩:=ae h1
 rw[hq]
 show(ah (nth P.funcs.toList q.1) fun fn=>@Option.rec Code (fun _=>Option ag) none (fun c=>ah (ig P L' n' q.1 fn c (app d.args.toList q.2) H) fun s=>ah (q9 P fn s) fun r=>some r.2) fn.body)=some H'
 rw[hf]
 show(@Option.rec Code (fun _=>Option ag) none (fun c=>ah (ig P L' n' q.1 fn c (app d.args.toList q.2) H) fun s=>ah (q9 P fn s) fun r=>some r.2) fn.body)=some H'
 cases hb:fn.body with
 |none=>rw[hb]at h1;cases h1
 |some c=>
  rw[hb]at h1
  obtain⟨s,hs,h1⟩:=ae h1
  show(ah (ig P L' n' q.1 fn c (app d.args.toList q.2) H) fun s=>ah (q9 P fn s) fun r=>some r.2)=some H'
  rw[vM h hx hn hs]
  exact h1
theorem Dr{L L':Lv}(h:rJ L.ca L'.ca)(hx:BQ L.cx L'.cx){n n':Nat}(hn:n≤n'):∀{l:List Deferred}{H H':ag},mF P L n l H=some H'→mF P L' n' l H=some H':=by
 intro l
 induction l with
 |nil=>intro H H' h1;exact h1
 |cons d l ih=>
  intro H H' h1
  replace h1:(ah (q_ P L n d H) fun H=>mF P L n l H)=some H':=h1
  obtain⟨H1,h2,h3⟩:=ae h1
  show(ah (q_ P L' n' d H) fun H=>mF P L' n' l H)=some H'
  rw[Dq h hx hn h2]
  exact ih h3
theorem FE{L L':Lv}(h:rJ L.ca L'.ca)(hx:BQ L.cx L'.cx){n n':Nat}(hn:n≤n'){fn:Func}{s:St}{r:Value×ag}(h1:m_ P L n fn s=some r):m_ P L' n' fn s=some r:=by
 unfold m_ at h1⊢
 cases hd:Nat.beq (len s.df) 0 with
 |true=>rw[hd]at h1;exact h1
 |false=>
  rw[hd]at h1
  replace h1:(ah (mF P L n s.df s.H) fun H'=>ah (bK P ⟨s.nl,s.nt,s.reg,s.tm,[],H'⟩ fn.results.toList) fun vs=>some (eY vs,H'))=some r:=h1
  obtain⟨H1,h2,h3⟩:=ae h1
  show(ah (mF P L' n' s.df s.H) fun H'=>ah (bK P ⟨s.nl,s.nt,s.reg,s.tm,[],H'⟩ fn.results.toList) fun vs=>some (eY vs,H'))=some r
  rw[Dr h hx hn h2]
  exact h3
theorem Dt{X:Xt}{L L':Lv}(h:rJ L.ca L'.ca)(hx:BQ L.cx L'.cx){n n':Nat}(hn:n≤n'):rJ (nP P X L n) (nP P X L' n'):=by
 intro g args H r hr
 cases hor:X.o g args H with
 |some q=>rw[o9 hor]at hr⊢;exact hr
 |none=>
 rw[j4 hor]at hr⊢
 obtain⟨fn,h1,h2⟩:=ae hr
 rw[h1]
 show I1 P L' n' g (X g) fn args H=some r
 unfold I1 at h2⊢
 cases hb:fn.body with
 |none=>rw[hb]at h2;exact h2
 |some c=>
  rw[hb]at h2
  replace h2:(ah (ig P L n g fn c args H) fun s=>m_ P L n fn s)=some r:=h2
  obtain⟨s,h5,h6⟩:=ae h2
  show(ah (ig P L' n' g fn c args H) fun s=>m_ P L' n' fn s)=some r
  rw[vM h hx hn h5]
  exact FE h hx hn h6
theorem kM{X:Xt}:∀(n n':Nat),n≤n'→rJ (lv P X n).ca (lv P X n').ca∧BQ (lv P X n).cx (lv P X n').cx:=by
 intro n
 induction n with
 |zero=>intro n' _;exact⟨(fun g args H r h=>by cases h),(fun c s h=>absurd rfl h)⟩
 |succ n ih=>
  intro n' hn
  cases n' with
  |zero=>omega
  |succ n'=>
   obtain⟨h1,h2⟩:=ih n' aa
   exact⟨Dt h1 h2 aa,fun c s h=>uX h1 h2 aa c s h⟩
def Ca(P:Program)(X:Xt)(g:FuncId)(args:List Value)(H:ag)(v:Value)(H':ag):Prop:=∃k,a_ P X k g args H=some (v,H')
def sZ(P:Program)(X:Xt)(k:Nat)(c:Code)(s:St):Out:=exec P (lv P X k).ca (lv P X k).cx k c s
def Ev(P:Program)(X:Xt)(c:Code)(s:St)(o:Out):Prop:=o≠.fail∧∃k,sZ P X k c s=o
def Ro(P:Program)(X:Xt)(ops:Array Oper)(l:List Oper)(s s':St):Prop:=∃k,di P (a_ P X k) ops l s=some s'
def Tx(P:Program)(X:Xt)(ops:Array Oper)(l:List Oper)(s:St)(acc:List Cl)(r:St×List Cl):Prop:=∃k,bB P (a_ P X k) ops l s acc=some r
variable{X:Xt}
theorem Ca.le{g:FuncId}{args:List Value}{H H':ag}{v:Value}{k k':Nat}(h:a_ P X k g args H=some (v,H'))(hk:k≤k'):a_ P X k' g args H=some (v,H'):=(kM k k' hk).1 _ _ _ _ h
theorem nV{c:Code}{s:St}{o:Out}{k k':Nat}(h:sZ P X k c s=o)(ho:o≠.fail)(hk:k≤k'):sZ P X k' c s=o:=by
 rw[←h]
 exact uX (kM k k' hk).1 (kM k k' hk).2 hk c s (by show sZ P X k c s≠_;rw[h];exact ho)
section rules
variable{s s1:St}{o:Out}{a b c:Code}
theorem Ev.skip:Ev P X .skip s (.norm s):=⟨by simp,0,rfl⟩
theorem Ev.label{l:Nat}:Ev P X (.label l) s (.norm s):=⟨by simp,0,rfl⟩
theorem Ev.exit{i:Nat}:Ev P X (.exit i) s (.exit i s):=⟨by simp,0,rfl⟩
theorem Ev.ret:Ev P X .ret s (.ret s):=⟨by simp,0,rfl⟩
theorem Ev.seq(h1:Ev P X a s (.norm s1))(h2:Ev P X b s1 o):Ev P X (.seq a b) s o:=by
 obtain⟨n1,k1,h1⟩:=h1
 obtain⟨n2,k2,h2⟩:=h2
 refine⟨n2,max k1 k2,?_⟩
 show andThen (sZ P X (max k1 k2) a s) (sZ P X (max k1 k2) b)=o
 rw[nV h1 n1 (Nat.le_max_left _ _)]
 exact nV h2 n2 (Nat.le_max_right _ _)
theorem Ev.PW(h1:Ev P X a s (.ret s1)):Ev P X (.seq a b) s (.ret s1):=by
 obtain⟨n1,k1,h1⟩:=h1
 refine⟨n1,k1,?_⟩
 show andThen (sZ P X k1 a s) (sZ P X k1 b)=_
 rw[h1];rfl
theorem Ev.Mk{i:Nat}(h1:Ev P X a s (.exit i s1)):Ev P X (.seq a b) s (.exit i s1):=by
 obtain⟨n1,k1,h1⟩:=h1
 refine⟨n1,k1,?_⟩
 show andThen (sZ P X k1 a s) (sZ P X k1 b)=_
 rw[h1];rfl
theorem Ev.cond{x:Operand}{t:Bool}(hx:bE (ev s x)=some t)(h:Ev P X (if t then a else b) s o):Ev P X (.cond x a b) s o:=by
 obtain⟨n1,k1,h1⟩:=h
 refine⟨n1,k1,?_⟩
 show vF (bE (ev s x)) (sZ P X k1 a s) (sZ P X k1 b s)=o
 rw[hx]
 cases t with
 |true=>exact h1
 |false=>exact h1
theorem Ev.block{i:Nat}(h:Ev P X a s (.norm s1)):Ev P X (.block i a) s (.norm s1):=by
 obtain⟨n1,k1,h1⟩:=h
 refine⟨n1,k1,?_⟩
 show jD i (sZ P X k1 a s)=_
 rw[h1];rfl
theorem Ev.PX(h1:Ev P X a s (.norm s1))(h2:Ev P X (.loop a) s1 o):Ev P X (.loop a) s o:=by
 obtain⟨n1,k1,h1⟩:=h1
 obtain⟨n2,k2,h2⟩:=h2
 refine⟨n2,max k1 k2 +1,?_⟩
 show andThen (sZ P X (max k1 k2 +1) a s) (jY (max k1 k2) (sZ P X (max k1 k2 +1) a))=o
 rw[nV h1 n1 (Nat.le_trans (Nat.le_max_left _ _) (Nat.le_succ _))]
 show jY (max k1 k2) (sZ P X (max k1 k2 +1) a) s1=o
 replace h2:jY k2 (sZ P X k2 a) s1=o:=h2
 rw[←h2]
 refine yt ?_ k2 _ (Nat.le_max_right _ _) s1 (by rw[h2];exact n2)
 intro s2 hne
 exact nV rfl hne (Nat.le_trans (Nat.le_max_right _ _) (Nat.le_succ _))
theorem Ev.Ml{i:Nat}(h:Ev P X a s (.exit i s1)):Ev P X (.loop a) s (.exit i s1):=by
 obtain⟨n1,k1,h1⟩:=h
 refine⟨n1,k1 +1,?_⟩
 show andThen (sZ P X (k1 +1) a s) _=_
 rw[nV h1 n1 (Nat.le_succ _)];rfl
theorem Ev.Mm(h:Ev P X a s (.ret s1)):Ev P X (.loop a) s (.ret s1):=by
 obtain⟨n1,k1,h1⟩:=h
 refine⟨n1,k1 +1,?_⟩
 show andThen (sZ P X (k1 +1) a s) _=_
 rw[nV h1 n1 (Nat.le_succ _)];rfl
theorem Ev.region{id:Nat}{ops:Array Oper}(h:Ro P X ops ops.toList (clear s) s1):Ev P X (.region id ops false) s (.norm s1):=by
 obtain⟨k,h⟩:=h
 refine⟨by simp,k,?_⟩
 show vG (di P (a_ P X k) ops ops.toList (clear s))=_
 rw[h];rfl
theorem Ev.Du{id:Nat}{ops:Array Oper}{cls:List Cl}(hp:(bW ops&&eB ops)=true)(h:Tx P X ops ops.toList (clear s) [] (s1,cls))(hd:dH ops cls=true):Ev P X (.region id ops true) s (.norm s1):=by
 obtain⟨k,h⟩:=h
 refine⟨by simp,k,?_⟩
 show au (bW ops&&eB ops) (iR ops (bB P (a_ P X k) ops ops.toList (clear s) [])) .fail=_
 rw[hp]
 show iR ops (bB P (a_ P X k) ops ops.toList (clear s) [])=_
 rw[h]
 show au (dH ops cls) (Out.norm s1) Out.fail=_
 rw[hd];rfl
theorem Ro.nil{ops:Array Oper}:Ro P X ops [] s s:=⟨0,rfl⟩
def So(P:Program)(X:Xt)(ops:Array Oper)(p:Oper)(s s':St):Prop:=∃k,cK P (a_ P X k) ops p s=some s'
theorem Ro.cons{ops:Array Oper}{p:Oper}{l:List Oper}{s2:St}(h1:So P X ops p s s1)(h2:Ro P X ops l s1 s2):Ro P X ops (p::l) s s2:=by
 obtain⟨k1,h1⟩:=h1
 obtain⟨k2,h2⟩:=h2
 refine⟨max k1 k2,?_⟩
 show(ah (cK P (a_ P X (max k1 k2)) ops p s) fun s=>di P (a_ P X (max k1 k2)) ops l s)=_
 rw[show cK P (a_ P X (max k1 k2)) ops p s=some s1 from vK (kM k1 _ (Nat.le_max_left k1 k2)).1 h1]
 exact vL (kM k2 _ (Nat.le_max_right k1 k2)).1 h2
theorem So.oH{ops:Array Oper}{p:Oper}{v:Value}(hw:fF ops s p.guard=some true)(hd:gp p.op=none)(h:∀cf,kH p.op P cf s=.oH v):So P X ops p s (bA s p.dst v s.H):=by
 refine⟨0,?_⟩
 unfold cK
 rw[hw]
 show kI P _ p s=_
 unfold kI
 rw[hd]
 show q8 p s (kH p.op P _ s)=_
 rw[h];rfl
theorem So.mem{ops:Array Oper}{p:Oper}{v:Value}{H':ag}(hw:fF ops s p.guard=some true)(hd:gp p.op=none)(h:∀cf,kH p.op P cf s=.mem v H'):So P X ops p s (bA s p.dst v H'):=by
 refine⟨0,?_⟩
 unfold cK
 rw[hw]
 show kI P _ p s=_
 unfold kI
 rw[hd]
 show q8 p s (kH p.op P _ s)=_
 rw[h];rfl
theorem So.skip{ops:Array Oper}{p:Oper}(hw:fF ops s p.guard=some false):So P X ops p s (bA s p.dst undef s.H):=by
 refine⟨0,?_⟩
 unfold cK
 rw[hw];rfl
theorem So.call{ops:Array Oper}{p:Oper}{q:Call}{g:FuncId}{pre post:List Value}{v:Value}{H':ag}(hw:fF ops s p.guard=some true)(hop:p.op=.call q)(hb:isBuiltin q.callee=none)(hc:dG q.callee P s=some (g,pre,post))
 (h:Ca P X g (app pre (app (mp (ev s) q.args.toList) post)) s.H v H'):So P X ops p s (bA s p.dst v H'):=by
 obtain⟨k,h⟩:=h
 refine⟨k,?_⟩
 unfold cK
 rw[hw]
 show kI P _ p s=_
 unfold kI
 rw[show gp p.op=none from by rw[hop];rfl]
 show q8 p s (kH p.op P (a_ P X k) s)=_
 have:kH p.op P (a_ P X k) s=.mem v H':=by
  rw[hop]
  show jv q P (a_ P X k) s=_
  unfold jv
  rw[hb]
  show rm (ah (dG q.callee P s) fun z=>a_ P X k z.1 (app z.2.1 (app (mp (ev s) q.args.toList) z.2.2)) s.H)=_
  rw[hc]
  show rm (a_ P X k g (app pre (app (mp (ev s) q.args.toList) post)) s.H)=_
  rw[h];rfl
 rw[this];rfl
theorem Ca.body{g:FuncId}{fn:Func}{c:Code}{args:List Value}{H:ag}{o:Out}{s1:St}{vs:List Value}(hor:X.o g args H=none)(hg:nth P.funcs.toList g=some fn)(hb:fn.body=some c)(hl:Nat.ble (len args) fn.ntmps=true)
 (h:Ev P X c ⟨bV P g,fn.ntmps,[],Tr.iH top args 0 .nil,[],H⟩ o)(ho:KU o=some s1)(hdf:Nat.beq (len s1.df) 0=true)(hr:bK P s1 fn.results.toList=some vs):Ca P X g args H (eY vs) s1.H:=by
 obtain⟨n1,k,h⟩:=h
 refine⟨k +1,?_⟩
 show nP P X (lv P X k) k g args H=_
 rw[j4 hor,hg]
 show I1 P (lv P X k) k g (X g) fn args H=_
 unfold I1
 rw[hb]
 show(ah (gd (Nat.ble (len args) fn.ntmps) (KU (sZ P X k c ⟨bV P g,fn.ntmps,[],Tr.iH top args 0 .nil,[],H⟩))) fun s=>m_ P (lv P X k) k fn s)=_
 rw[hl,h,ho]
 show m_ P (lv P X k) k fn s1=_
 unfold m_
 rw[hdf,hr];rfl
end rules
end mem
def Aw(P:Program)(g:FuncId)(c:Nat):Prop:=∀(fn:Func)(args:List Value)(v:Value)(H H':ag),P.funcs[g]?=some fn→IY P c fn.resultTypes.toList args H=some (v,H')→
 ∀m w args',RH m H w→bP m args args'→∃m' v' w',(callFunc g ⟨args'⟩).run P w=.ok (.value v') w'∧VR m' v v'∧RH m' H' w'∧Ex m m' H H' w w'
theorem Ky.of{P:Program}{X:Xt}(h:∀g,X g=0∨Aw P g (X g)):Ky P X:=by
 intro g fn args v H H' hg _ hx m w args' rh ha
 rcases h g with h0|h1
 ·rw[h0]at hx;cases hx
 ·exact h1 fn args v H H' hg hx m w args' rh ha
section mem
variable{P:Program}{g:FuncId}{fn:Func}
theorem Aw.BR{c:Nat}{e:Array Value→Sem Value}(hg:P.funcs[g]?=some fn)(hname:(fn.name== "runtime.NumGoroutine")=false)(hb:fn.body.isNone=true)(hn:Extern.findNext fn=none)(he:Extern.find fn=some e)
 (h:∀(args:List Value)(v:Value)(H H':ag),IY P c fn.resultTypes.toList args H=some (v,H')→∀m w args',RH m H w→bP m args args'→iq P m H w (e ⟨args'⟩) v H'):Aw P g c:=by
 intro fn' args v H H' hg' hx m w args' rh ha
 rw[hg]at hg';cases hg'
 obtain⟨m',v',w',h1,h2,h3,h4⟩:=h args v H H' hx m w args' rh ha
 refine⟨m',v',w',?_,h2,h3,h4⟩
 rw[run_callFunc_extern hg hname hb hn he,h1]
 rfl
theorem Aw.same(hg:P.funcs[g]?=some fn)(hname:(fn.name== "runtime.NumGoroutine")=false)(hb:fn.body.isNone=true)(hn:Extern.findNext fn=none)(he:Extern.find fn=some Extern.AbiNoEscape.same):Aw P g 1:=by
 refine Aw.BR hg hname hb hn he ?_
 intro args v H H' h m w args' rh ha
 replace h:(gd (Nat.beq (len args) 1) (ah (nth args 0) fun x=>some (x,H)))=some (v,H'):=h
 (replace h:=aB h;obtain⟨hl,h⟩:=h)
 (replace h:=ae h;obtain⟨x,hx,h⟩:=h)
 cases h
 rw[cB]at hx
 rw[aJ]at hl
 obtain⟨v',h1,h2⟩:=PE (P:=P) (w:=w) (Nat.eq_of_beq_eq_true hl) hx ha
 exact⟨m,v',w,h2,h1,rh,Ex.refl _ _ _⟩
theorem Aw.index(hg:P.funcs[g]?=some fn)(hname:(fn.name== "runtime.NumGoroutine")=false)(hb:fn.body.isNone=true)(hn:Extern.findNext fn=none)(he:Extern.find fn=some Extern.BytealgIndexByte.indexByte):Aw P g 3:=by
 refine Aw.BR hg hname hb hn he ?_
 intro args v H H' h m w args' rh ha
 replace h:(ah (xJ args) fun x=>some (Bo (iI x.2 x.1.data.toList 0),H))=some (v,H'):=h
 (replace h:=ae h;obtain⟨q,hq,h⟩:=h)
 cases h
 obtain⟨h1,h2⟩:=BH (P:=P) (w:=w) hq ha
 exact⟨m,_,w,h2,h1,rh,Ex.refl _ _ _⟩
theorem Aw.count(hg:P.funcs[g]?=some fn)(hname:(fn.name== "runtime.NumGoroutine")=false)(hb:fn.body.isNone=true)(hn:Extern.findNext fn=none)(he:Extern.find fn=some Extern.BytealgCount.count):Aw P g 4:=by
 refine Aw.BR hg hname hb hn he ?_
 intro args v H H' h m w args' rh ha
 replace h:(ah (xJ args) fun x=>some (Value.int .i64 (.ofNat (countB x.2 x.1.data.toList)),H))=some (v,H'):=h
 (replace h:=ae h;obtain⟨q,hq,h⟩:=h)
 cases h
 obtain⟨h1,h2⟩:=BI (P:=P) (w:=w) hq ha
 exact⟨m,_,w,h2,h1,rh,Ex.refl _ _ _⟩
theorem Aw.room(hg:P.funcs[g]?=some fn)(hname:(fn.name== "runtime.NumGoroutine")=false)(hb:fn.body.isNone=true)(hn:Extern.findNext fn=none)(he:Extern.find fn=some (Extern.BytealgMakeNoZero.makeNoZero fn.params fn.resultTypes)):Aw P g 2:=by
 refine Aw.BR hg hname hb hn he ?_
 intro args v H H' h m w args' rh ha
 replace h:(gd (Nat.beq (len args) 1) (ah (nth args 0) fun x=>ah (gW x) fun p=>ah (wG p.2) fun n=>ah (nth fn.resultTypes.toList 0) fun t=>ah (z8 P t) fun q=>
  gd (mX p.1&&Nat.ble n 16777216&&Nat.beq q.2 1) (some (Value.slice (some ⟨H.next,0,none⟩) n (bH 1),H.new (.row ⟨q.1,.nil,n,false,0⟩)))))=some (v,H'):=h
 (replace h:=aB h;obtain⟨hl,h⟩:=h)
 (replace h:=ae h;obtain⟨x,hx,h⟩:=h)
 (replace h:=ae h;obtain⟨p,hp,h⟩:=h)
 (replace h:=ae h;obtain⟨n,hn',h⟩:=h)
 (replace h:=ae h;obtain⟨t,ht,h⟩:=h)
 (replace h:=ae h;obtain⟨q,hq,h⟩:=h)
 (replace h:=aB h;obtain⟨hgg,h⟩:=h)
 cases h
 simp only[Bool.and_eq_true]at hgg
 obtain⟨⟨g1,g2⟩,g3⟩:=hgg
 rw[cB]at hx ht
 rw[aJ]at hl
 have hl:=Nat.eq_of_beq_eq_true hl
 obtain⟨x',h1,h2⟩:=ha.get 0 hx
 have he':args'=[.int .i64 n]:=by
  have hl':args'.length=1:=by rw[←ha.length,hl]
  rw[eT hp,KY g1,wY hn']at h2
  match args',hl',h1 with
  |[y],_,h0=>cases h0;rw[h2.of_int]
 subst he'
 have:=Jz (P:=P) (pt:=fn.params.toList) rh ht hq (Nat.eq_of_beq_eq_true g3) (Nat.le_of_ble_eq_true g2)
 simpa using this
end mem
def dO(ty:TypeId)(k:IntKind)(l:List Nat):bR:=.row ⟨ty,Tr.iH top (mp (fun n=>Value.int k (Int.ofNat n)) l) 0 .nil,len l,true,0⟩
def TabAt(w:World)(o:bR)(r:Nat):Prop:=o=.dead∨∃(ty:TypeId)(k:IntKind)(l:List Nat)(cs:Array Value)(fr:Nat×Nat),o=dO ty k l∧w.heap[r]?=some (.cells cs ty fr)∧∀(i z:Nat),l[i]?=some z→cs[i]?=some (Value.int k (z:Nat))
def Vx:bR→Nat
 |.row R=>R.n
 |_=>0
def pE(w:World)(r:Nat):Nat:=match w.heap[r]? with|some (.cells cs _ _)=>cs.size|_=>0
def rM(w:World)(H:ag):Mp:=fun r=>if r<H.next then some ⟨r,0,0,pE w r,Vx (H.obj r)⟩else none
section mem
variable{P:Program}
theorem G_(w:World)(H:ag):Gl H.next (rM w H):=fun g hg=>⟨⟨g,0,0,pE w g,Vx (H.obj g)⟩,by unfold rM;rw[if_pos hg],rfl,rfl,rfl⟩
theorem PY{w:World}{H:ag}(h:H.next≤w.heap.size)(ht:∀r,r<H.next→TabAt w (H.obj r) r):RH (rM w H) H w:=by
 refine⟨?_,?_,?_⟩
 ·intro r l hr
  unfold rM at hr
  split at hr
  ·next h1=>exact h1
  ·cases hr
 ·intro r l hr
  unfold rM at hr
  split at hr
  ·next h1=>
   cases hr
   refine⟨w.heap[r]'aa,Array.getElem?_eq_getElem (i:=r) aa,?_⟩
   rcases ht r h1 with h2|⟨ty,k,l,cs,fr,h2,h3,h4⟩
   ·rw[h2];trivial
   ·have hcn:pE w r=cs.size:=by unfold pE;rw[h3]
    have hget:w.heap[r]'aa=.cells cs ty fr:=by
     have:=Array.getElem?_eq_getElem (xs:=w.heap) (i:=r) aa
     rw[h3]at this;injection this with this;exact this.symm
    rw[hget,h2]
    show iJ _ _ (dO ty k l) _
    have hlen:∀i,i<l.length→i<cs.size:=by
     intro i hi
     exact(Array.getElem?_eq_some_iff.1 (h4 i _ (List.getElem?_eq_getElem hi))).1
    have hle:l.length≤cs.size:=by
     rcases Nat.lt_or_ge cs.size l.length with h5|h5
     ·have:=hlen cs.size h5;omega
     ·exact h5
    refine⟨⟨rfl,rfl⟩,rfl,hcn.symm,Nat.zero_le _,?_,?_,?_⟩
    ·show 0 +(len l -0)≤pE w r
     rw[hcn,aJ];omega
    ·intro hse;cases hse
    ·intro i _ hi
     have hi:i<len l:=hi
     rw[aJ]at hi
     refine⟨.int k (l[i]:Nat),?_,?_⟩
     ·simp only[Nat.zero_add,Nat.sub_zero]
      exact h4 i _ (List.getElem?_eq_getElem hi)
     ·show VR _ ((Tr.iH top (mp (fun n=>Value.int k (Int.ofNat n)) l) 0 .nil).get top i) _
      rw[Tr.cz,qL,if_pos (by simp;omega)]
      rw[List.getD_eq_getElem?_getD]
      simp[hi]
      exact .sc _ rfl
  ·cases hr
 ·intro r r' l l' hr hr' _ _ hc
  unfold rM at hr hr'
  split at hr
  ·split at hr'
   ·cases hr;cases hr';exact hc
   ·cases hr'
  ·cases hr
theorem FF{X:Xt}{k:Nat}{H:ag}(hmo:P.follows .mixedOrders=true)(hP:l5 P H.next)(hX:Ky P X)(hO:yg P X H.next){g:FuncId}{fn:Func}(hg:P.funcs[g]?=some fn)(hb:fn.body.isSome=true)
 {args:List Value}{v:Value}{H':ag}(h:a_ P X k g args H=some (v,H'))(hlow:H.next≤H'.low)(hv:dD v=true)(ha:args.all dD=true){w:World}(hw:H.next≤w.heap.size)
 (ht:∀r,r<H.next→TabAt w (H.obj r) r):
 Calls P g ⟨args⟩ w fun e w'=>e=.returned v∧Go.RowKit.Below w.heap.size w w':=by
 refine(levels hmo hP hX hO k g args v _ H' fn h hg hb (rM w H) w args (PY hw ht) (G_ w H) (bP.dD ha)).mono ?_
 rintro e w' ⟨m',v',rfl,h1,h2,h3⟩
 rw[h1.gU hv]
 refine⟨rfl,⟨h3.os,h3.tape,h3.output,h3.size,fun c hc=>h3.keep c hc ?_⟩⟩
 intro r l hr _
 unfold rM at hr
 split at hr
 ·next h4=>exact Nat.lt_of_lt_of_le h4 hlow
 ·cases hr
def Mo(n:Nat)(b:Bool)(o:Option (Value×ag)):Bool:=@Option.rec (Value×ag) (fun _=>Bool) false (fun p=>(@Option.rec Bool (fun _=>Bool) false (fun x=>oz x b) (bE p.1))&&Nat.ble n p.2.low) o
theorem Mq{n:Nat}{b:Bool}{o:Option (Value×ag)}(h:Mo n b o=true):∃H',o=some (.bool b,H')∧n≤H'.low:=by
 cases o with
 |none=>cases h
 |some p=>
  replace h:((@Option.rec Bool (fun _=>Bool) false (fun x=>oz x b) (bE p.1))&&Nat.ble n p.2.low)=true:=h
  rw[Bool.and_eq_true]at h
  cases hb:bE p.1 with
  |none=>rw[hb]at h;cases h.1
  |some x=>
   rw[hb]at h
   have h1:oz x b=true:=h.1
   rw[xN,beq_iff_eq]at h1
   exact⟨p.2,by rw[←h1,←eF hb],Nat.le_of_ble_eq_true h.2⟩
end mem
theorem J{a b:Prop}(x:a)(y:b):a∧b:=⟨x,y⟩
structure dQ(s s':St):Prop where
 nl:s.nl=s'.nl
 nt:s.nt=s'.nt
 df:s.df=s'.df
 H:s.H=s'.H
 lk:∀t,aO s t=aO s' t
inductive nK:Out→Out→Prop where
 |fail:nK .fail .fail
 |norm {s s':St} (h:dQ s s'):nK (.norm s) (.norm s')
 |exit (i:Nat) {s s':St} (h:dQ s s'):nK (.exit i s) (.exit i s')
 |goto (l:Nat) {s s':St} (h:dQ s s'):nK (.goto l s) (.goto l s')
 |ret {s s':St} (h:dQ s s'):nK (.ret s) (.ret s')
theorem dQ.look{s s':St}(h:dQ s s'):aO s=aO s':=funext h.lk
theorem dQ.ev{s s':St}(h:dQ s s'):ev s=ev s':=by
 funext x
 cases x with
 |tmp t=>exact congrFun h.look t
 |_=>rfl
theorem nK.refl(o:Out):nK o o:=by
 cases o with
 |fail=>exact .fail
 |norm s=>exact .norm ⟨rfl,rfl,rfl,rfl,fun _=>rfl⟩
 |exit i s=>exact .exit i ⟨rfl,rfl,rfl,rfl,fun _=>rfl⟩
 |goto l s=>exact .goto l ⟨rfl,rfl,rfl,rfl,fun _=>rfl⟩
 |ret s=>exact .ret ⟨rfl,rfl,rfl,rfl,fun _=>rfl⟩
theorem dQ.wJ{s s':St}(h:dQ s s'):wJ s=wJ s':=by
 funext x
 cases x with
 |none=>rfl
 |some x=>exact congrArg some (congrFun h.ev x)
theorem dQ.Bp{s s':St}(h:dQ s s'):Bp s=Bp s':=by
 funext ps
 unfold Go.Ae.Bp
 rw[h.ev]
theorem qx(d:Nat)(v:Value)(l:List (Nat×Value))(t:Nat):Go.Ae.look ((d,v)::l) t=if d=t then v else Go.Ae.look l t:=by
 show au (Nat.beq d t) v (Go.Ae.look l t)=_
 by_cases e:d=t
 ·subst e;rw[show Nat.beq d d=true from Nat.beq_refl d];simp[dP]
 ·rw[show Nat.beq d t=false from by rw[←Bool.not_eq_true];exact fun g=>e (Nat.eq_of_beq_eq_true g),if_neg e];rfl
def wr(s:St)(d:Nat):Bool:=au (aS s.nl d) (Nat.ble (Nat.succ d) s.nt) true
theorem kX(s:St)(d:Nat)(v:Value)(H:ag)(t:Nat):aO (fC s d v H) t=if d=t∧wr s d=true then v else aO s t:=by
 by_cases hb:aS s.nl d=true
 ·have e:fC s d v H=⟨s.nl,s.nt,s.reg,au (Nat.ble (Nat.succ d) s.nt) (s.tm.set top d v) s.tm,s.df,H⟩:=by unfold fC;rw[hb];rfl
  have ew:wr s d=Nat.ble (Nat.succ d) s.nt:=by unfold wr;rw[hb];rfl
  rw[e,ew]
  show au (aS s.nl t) ((au (Nat.ble (Nat.succ d) s.nt) (s.tm.set top d v) s.tm).get top t) (Go.Ae.look s.reg t)=if d=t∧Nat.ble (Nat.succ d) s.nt=true then v else au (aS s.nl t) (s.tm.get top t) (Go.Ae.look s.reg t)
  by_cases hn:Nat.ble (Nat.succ d) s.nt=true
  ·rw[hn]
   show au (aS s.nl t) ((s.tm.set top d v).get top t) (Go.Ae.look s.reg t)=_
   rw[Tr.gQ]
   by_cases e:d=t
   ·subst e
    rw[if_pos rfl,if_pos ⟨rfl,rfl⟩,hb];rfl
   ·rw[if_neg (fun h=>e h.symm),if_neg (fun h=>e h.1)]
  ·rw[Bool.not_eq_true]at hn
   rw[hn,if_neg (fun h=>by cases h.2)];rfl
 ·rw[Bool.not_eq_true]at hb
  have e:fC s d v H=⟨s.nl,s.nt,(d,v)::s.reg,s.tm,s.df,H⟩:=by unfold fC;rw[hb];rfl
  have ew:wr s d=true:=by unfold wr;rw[hb];rfl
  rw[e,ew]
  show au (aS s.nl t) (s.tm.get top t) (Go.Ae.look ((d,v)::s.reg) t)=if d=t∧true=true then v else au (aS s.nl t) (s.tm.get top t) (Go.Ae.look s.reg t)
  rw[qx]
  by_cases e:d=t
  ·subst e
   rw[if_pos rfl,if_pos ⟨rfl,rfl⟩,hb];rfl
  ·rw[if_neg e,if_neg (fun h=>e h.1)]
theorem xh(s:St)(d:Nat)(v:Value)(H:ag):(fC s d v H).nl=s.nl∧(fC s d v H).nt=s.nt∧(fC s d v H).df=s.df∧(fC s d v H).H=H:=by
 unfold fC
 cases aS s.nl d<;>exact⟨rfl,rfl,rfl,rfl⟩
theorem dQ.fC{s s':St}(h:dQ s s')(d:Nat)(v:Value)(H:ag):dQ (fC s d v H) (fC s' d v H):=by
 obtain⟨a1,a2,a3,a4⟩:=xh s d v H
 obtain⟨b1,b2,b3,b4⟩:=xh s' d v H
 refine⟨a1.trans (h.nl.trans b1.symm),a2.trans (h.nt.trans b2.symm),a3.trans (h.df.trans b3.symm),a4.trans b4.symm,fun t=>?_⟩
 rw[kX,kX,h.lk]
 have:wr s d=wr s' d:=by unfold wr;rw[h.nl,h.nt]
 rw[this]
theorem dQ.same(s:St)(t:Nat):dQ s (Go.Ae.fC s t (aO s t) s.H):=by
 obtain⟨b1,b2,b3,b4⟩:=xh s t (aO s t) s.H
 refine⟨b1.symm,b2.symm,b3.symm,b4.symm,fun u=>?_⟩
 rw[kX]
 split
 ·next h=>rw[h.1]
 ·rfl
theorem dQ.bA{s s':St}(h:dQ s s')(d:Option Nat)(v:Value)(H:ag):dQ (bA s d v H) (bA s' d v H):=by
 cases d with
 |none=>exact⟨h.nl,h.nt,h.df,rfl,h.lk⟩
 |some d=>exact h.fC d v H
theorem rO(s:St)(t:Nat):aO (clear s) t=au (aS s.nl t) (aO s t) top:=by
 unfold aO
 show au (aS s.nl t) (s.tm.get top t) (Go.Ae.look [] t)=_
 cases aS s.nl t<;>rfl
theorem dQ.clear{s s':St}(h:dQ s s'):dQ (clear s) (clear s'):=⟨h.nl,h.nt,h.df,h.H,fun t=>by rw[rO,rO,h.nl,h.lk]⟩
theorem dQ.aM{s s':St}(h:dQ s s'):dQ (aM s) (aM s'):=⟨h.nl,h.nt,h.df,by show ag.mk _ _ _=ag.mk _ _ _;rw[h.H],h.lk⟩
theorem dQ.heap{s s':St}(h:dQ s s')(d:List Deferred)(H:ag):dQ ⟨s.nl,s.nt,s.reg,s.tm,d,H⟩ ⟨s'.nl,s'.nt,s'.reg,s'.tm,d,H⟩:=⟨h.nl,h.nt,rfl,rfl,h.lk⟩
theorem dQ.refl(s:St):dQ s s:=⟨rfl,rfl,rfl,rfl,fun _=>rfl⟩
theorem dQ.symm{s s':St}(h:dQ s s'):dQ s' s:=⟨h.nl.symm,h.nt.symm,h.df.symm,h.H.symm,fun t=>(h.lk t).symm⟩
theorem dQ.trans{s s' s2:St}(h:dQ s s')(h2:dQ s' s2):dQ s s2:=⟨h.nl.trans h2.nl,h.nt.trans h2.nt,h.df.trans h2.df,h.H.trans h2.H,fun t=>(h.lk t).trans (h2.lk t)⟩
section mem
variable{P:Program}{cf:bO}
theorem dQ.dG{s s':St}(h:dQ s s')(c:Callee):dG c P s=dG c P s':=by
 cases c with
 |value f=>show(ah (Ku (Go.Ae.ev s f)) _)=_;rw[h.ev];rfl
 |invoke r n=>show(ah (nM (Go.Ae.ev s r)) _)=_;rw[h.ev];rfl
 |builtin b=>rfl
theorem dQ.kH{s s':St}(h:dQ s s')(o:Op):kH o P cf s=kH o P cf s':=by
 have e:=h.ev
 have e1:=h.wJ
 have e2:=h.Bp
 have e3:=h.H
 cases o with
 |call c=>
  show jv c P cf s=jv c P cf s'
  unfold jv
  rw[h.dG,e,e3]
 |move x=>show R3.oH (Go.Ae.ev s x)=_;rw[e];rfl
 |assign x=>show R3.oH (Go.Ae.ev s x)=_;rw[e];rfl
 |pick c a b=>show rp (xC (Go.Ae.ev s c) (Go.Ae.ev s a) (Go.Ae.ev s b))=_;rw[e];rfl
 |alloc t=>show rm (oU P t s.H)=_;rw[e3];rfl
 |box t x=>show rm (Bi t (Go.Ae.ev s x) s.H)=_;rw[e,e3];rfl
 |build t ps=>show rp (oP P t (Go.Ae.Bp s ps))=_;rw[e2];rfl
 |buildSlice t n ps=>show rm (h_ P t n (Go.Ae.Bp s ps) s.H)=_;rw[e2,e3];rfl
 |insert t m k v=>show rm (gT P t (Go.Ae.ev s m) (Go.Ae.ev s k) (Go.Ae.ev s v) s.H)=_;rw[e,e3];rfl
 |load t x=>show rm (jg P t (Go.Ae.ev s x) s.H)=_;rw[e,e3];rfl
 |store t x v=>show rm (lg P t (Go.Ae.ev s x) (Go.Ae.ev s v) s.H)=_;rw[e,e3];rfl
 |nilCheck x=>show rp (Bh (Go.Ae.ev s x))=_;rw[e];rfl
 |binOp op t x y u=>show rp (bq P op t x y (Go.Ae.ev s x) (Go.Ae.ev s y))=_;rw[e];rfl
 |unOp op t x=>show rp (bD (Op.unary op (Go.Ae.ev s x)))=_;rw[e];rfl
 |convert a b x=>show UK (oC P a b (Go.Ae.ev s x)) (rm (fK P a b (Go.Ae.ev s x) s.H))=_;rw[e,e3];rfl
 |makeInterface t x=>show rp (zG P t (Go.Ae.ev s x))=_;rw[e];rfl
 |makeFunc f fi ca=>show rp (some (.func f ⟨mp (Go.Ae.ev s) fi.toList⟩ ⟨mp (Go.Ae.ev s) ca.toList⟩))=_;rw[e];rfl
 |makeMap t r=>show rm (jW P t (Go.Ae.wJ s r) s.H)=_;rw[e1,e3];rfl
 |makeSlice t l c=>show rm (fB P t (Go.Ae.ev s l) (Go.Ae.ev s c) s.H)=_;rw[e,e3];rfl
 |slice t x lo hi mx=>show rp (k_ P t (Go.Ae.ev s x) (Go.Ae.wJ s lo) (Go.Ae.wJ s hi) (Go.Ae.wJ s mx))=_;rw[e,e1];rfl
 |fieldAddr t x f=>show rp (g_ P t (Go.Ae.ev s x) f)=_;rw[e];rfl
 |field t x f=>show rp (oO P t (Go.Ae.ev s x) f)=_;rw[e];rfl
 |indexAddr t x i=>show rp (gm P t (Go.Ae.ev s x) (Go.Ae.ev s i))=_;rw[e];rfl
 |index t x i=>show rp (oN P t (Go.Ae.ev s x) (Go.Ae.ev s i))=_;rw[e];rfl
 |lookup t x k ok=>show rm (kG P t (Go.Ae.ev s x) (Go.Ae.ev s k) ok s.H)=_;rw[e,e3];rfl
 |mapUpdate t m k v=>show rm (gT P t (Go.Ae.ev s m) (Go.Ae.ev s k) (Go.Ae.ev s v) s.H)=_;rw[e,e3];rfl
 |range t x=>show rm (uI P t (Go.Ae.ev s x) s.H)=_;rw[e,e3];rfl
 |next x b=>show rm (Ab (Go.Ae.ev s x) b s.H)=_;rw[e,e3];rfl
 |extract t i=>show rp (jV (Go.Ae.ev s t) i)=_;rw[e];rfl
 |_=>rfl
theorem dQ.mE{s s':St}(h:dQ s s')(c:Call):mE c P s=mE c P s':=by
 unfold Go.Ae.mE
 rw[h.ev]
inductive Kz:Option St→Option St→Prop where
 |none:Kz none none
 |some {s s':St} (h:dQ s s'):Kz (some s) (some s')
theorem dQ.fF{s s':St}(h:dQ s s')(ops:Array Oper)(g:Option (Nat×Bool)):fF ops s g=fF ops s' g:=by
 cases g with
 |none=>rfl
 |some g=>
  show Ac ops s g=Ac ops s' g
  unfold Ac nN
  rw[h.look]
theorem dQ.q8{s s':St}(h:dQ s s')(o:Oper)(r:R3):Kz (q8 o s r) (q8 o s' r):=by
 cases r with
 |fail=>exact .none
 |oH v=>show Kz (Option.some (Go.Ae.bA s o.dst v s.H)) (Option.some (Go.Ae.bA s' o.dst v s'.H));rw[h.H];exact .some (h.bA ..)
 |mem v H=>exact .some (h.bA ..)
theorem dQ.kI{s s':St}(h:dQ s s')(o:Oper):Kz (kI P cf o s) (kI P cf o s'):=by
 unfold Go.Ae.kI
 cases gp o.op with
 |none=>
  show Kz (Go.Ae.q8 o s (Go.Ae.kH o.op P cf s)) (Go.Ae.q8 o s' (Go.Ae.kH o.op P cf s'))
  rw[h.kH];exact h.q8 ..
 |some c=>
  show Kz (ah (Go.Ae.mE c P s) _) (ah (Go.Ae.mE c P s') _)
  rw[h.mE]
  cases Go.Ae.mE c P s' with
  |none=>exact .none
  |some d=>
   show Kz (Option.some (Go.Ae.bA ⟨s.nl,s.nt,s.reg,s.tm,d::s.df,s.H⟩ o.dst undef s.H)) (Option.some (Go.Ae.bA ⟨s'.nl,s'.nt,s'.reg,s'.tm,d::s'.df,s'.H⟩ o.dst undef s'.H))
   rw[h.df,h.H]
   exact .some ((h.heap _ _).bA ..)
theorem dQ.cK{s s':St}(h:dQ s s')(ops:Array Oper)(o:Oper):Kz (cK P cf ops o s) (cK P cf ops o s'):=by
 unfold Go.Ae.cK
 rw[h.fF]
 cases Go.Ae.fF ops s' o.guard with
 |none=>exact .none
 |some b=>cases b with
  |true=>exact h.kI o
  |false=>show Kz (Option.some (Go.Ae.bA s o.dst undef s.H)) (Option.some (Go.Ae.bA s' o.dst undef s'.H));rw[h.H];exact .some (h.bA ..)
theorem dQ.di(ops:Array Oper):∀(l:List Oper){s s':St},dQ s s'→Kz (di P cf ops l s) (di P cf ops l s'):=by
 intro l
 induction l with
 |nil=>intro s s' h;exact .some h
 |cons o l ih=>
  intro s s' h
  show Kz (ah (Go.Ae.cK P cf ops o s) (Go.Ae.di P cf ops l)) (ah (Go.Ae.cK P cf ops o s') (Go.Ae.di P cf ops l))
  have:=h.cK (P:=P) (cf:=cf) ops o
  generalize Go.Ae.cK P cf ops o s=a at this
  generalize Go.Ae.cK P cf ops o s'=b at this
  cases this with
  |none=>exact .none
  |some h1=>exact ih h1
inductive PZ{α:Type}:Option (St×α)→Option (St×α)→Prop where
 |none:PZ none none
 |some {s s':St} (x:α) (h:dQ s s'):PZ (some (s,x)) (some (s',x))
theorem dQ.gH{s s':St}(h:dQ s s')(o:Op)(H:ag):gH P o s H=gH P o s' H:=by
 unfold Go.Ae.gH lW
 rw[h.ev,h.H]
theorem dQ.bU{s s':St}(h:dQ s s')(ops:Array Oper)(o:Oper):PZ (bU P cf ops o s) (bU P cf ops o s'):=by
 unfold Go.Ae.bU
 rw[h.fF]
 cases Go.Ae.fF ops s' o.guard with
 |none=>exact .none
 |some b=>cases b with
  |true=>
   show PZ (vE P o s (Go.Ae.kH o.op P cf (Go.Ae.aM s))) (vE P o s' (Go.Ae.kH o.op P cf (Go.Ae.aM s')))
   rw[h.aM.kH]
   cases Go.Ae.kH o.op P cf (Go.Ae.aM s')with
   |fail=>exact .none
   |oH v=>show PZ (Option.some (Go.Ae.bA s o.dst v s.H,cl 0)) (Option.some (Go.Ae.bA s' o.dst v s'.H,cl 0));rw[h.H];exact .some _ (h.bA ..)
   |mem v H=>
    show PZ (Option.some (Go.Ae.bA s o.dst v ⟨H.jc,H.next,dR s.H.low H.low⟩,Go.Ae.gH P o.op s H)) (Option.some (Go.Ae.bA s' o.dst v ⟨H.jc,H.next,dR s'.H.low H.low⟩,Go.Ae.gH P o.op s' H))
    rw[h.gH,h.H];exact .some _ (h.bA ..)
  |false=>show PZ (Option.some (Go.Ae.bA s o.dst undef s.H,cl 0)) (Option.some (Go.Ae.bA s' o.dst undef s'.H,cl 0));rw[h.H];exact .some _ (h.bA ..)
theorem dQ.bB(ops:Array Oper):∀(l:List Oper){s s':St}(acc:List Cl),dQ s s'→PZ (bB P cf ops l s acc) (bB P cf ops l s' acc):=by
 intro l
 induction l with
 |nil=>intro s s' acc h;exact .some _ h
 |cons o l ih=>
  intro s s' acc h
  show PZ (ah (Go.Ae.bU P cf ops o s) fun q=>Go.Ae.bB P cf ops l q.1 (q.2::acc)) (ah (Go.Ae.bU P cf ops o s') fun q=>Go.Ae.bB P cf ops l q.1 (q.2::acc))
  have:=h.bU (P:=P) (cf:=cf) ops o
  generalize Go.Ae.bU P cf ops o s=a at this
  generalize Go.Ae.bU P cf ops o s'=b at this
  cases this with
  |none=>exact .none
  |some x h1=>exact ih _ h1
theorem dQ.region{s s':St}(h:dQ s s')(ops:Array Oper)(d:Bool):nK (region P cf ops d s) (region P cf ops d s'):=by
 cases d with
 |false=>
  show nK (vG (Go.Ae.di P cf ops ops.toList (Go.Ae.clear s))) (vG (Go.Ae.di P cf ops ops.toList (Go.Ae.clear s')))
  have:=dQ.di (P:=P) (cf:=cf) ops ops.toList h.clear
  generalize Go.Ae.di P cf ops ops.toList (Go.Ae.clear s)=a at this
  generalize Go.Ae.di P cf ops ops.toList (Go.Ae.clear s')=b at this
  cases this with
  |none=>exact .fail
  |some h1=>exact .norm h1
 |true=>
  show nK (au (bW ops&&eB ops) (iR ops (Go.Ae.bB P cf ops ops.toList (Go.Ae.clear s) [])) .fail) (au (bW ops&&eB ops) (iR ops (Go.Ae.bB P cf ops ops.toList (Go.Ae.clear s') [])) .fail)
  cases(bW ops&&eB ops)with
  |false=>exact .fail
  |true=>
   show nK (iR ops (Go.Ae.bB P cf ops ops.toList (Go.Ae.clear s) [])) (iR ops (Go.Ae.bB P cf ops ops.toList (Go.Ae.clear s') []))
   have:=dQ.bB (P:=P) (cf:=cf) ops ops.toList [] h.clear
   generalize Go.Ae.bB P cf ops ops.toList (Go.Ae.clear s) []=a at this
   generalize Go.Ae.bB P cf ops ops.toList (Go.Ae.clear s') []=b at this
   cases this with
   |none=>exact .fail
   |some x h1=>
    show nK (au (dH ops x) (.norm _) .fail) (au (dH ops x) (.norm _) .fail)
    cases dH ops x with
    |true=>exact .norm h1
    |false=>exact .fail
theorem nK.trans{a b c:Out}(h:nK a b)(h2:nK b c):nK a c:=by
 cases h with
 |fail=>exact h2
 |norm h=>cases h2 with|norm h2=>exact .norm (h.trans h2)
 |exit i h=>cases h2 with|exit _ h2=>exact .exit i (h.trans h2)
 |goto l h=>cases h2 with|goto _ h2=>exact .goto l (h.trans h2)
 |ret h=>cases h2 with|ret h2=>exact .ret (h.trans h2)
theorem Mr{f:St→Out}(hf:∀s s',dQ s s'→nK (f s) (f s')):∀n s s',dQ s s'→nK (jY n f s) (jY n f s'):=by
 intro n
 induction n with
 |zero=>intro s s' _;exact .fail
 |succ n ih=>
  intro s s' h
  show nK (andThen (f s) (jY n f)) (andThen (f s') (jY n f))
  have:=hf s s' h
  generalize f s=a at this
  generalize f s'=b at this
  cases this with
  |fail=>exact .fail
  |norm h1=>exact ih _ _ h1
  |exit i h1=>exact .exit i h1
  |goto l h1=>exact .goto l h1
  |ret h1=>exact .ret h1
theorem JR{cx:Code→St→Out}(hx:∀c s s',dQ s s'→nK (cx c s) (cx c s'))(body:Code):∀n o o',nK o o'→nK (dI cx n body o) (dI cx n body o'):=by
 intro n
 induction n with
 |zero=>intro o o' _;exact .fail
 |succ n ih=>
  intro o o' h
  cases h with
  |fail=>exact .fail
  |norm h1=>exact .norm h1
  |exit i h1=>exact .exit i h1
  |ret h1=>exact .ret h1
  |goto l h1=>
   rename_i s s'
   show nK (@Option.rec Code (fun _=>Out) (.goto l s) (fun rest=>dI cx n body (cx rest s)) (findLabel body l)) (@Option.rec Code (fun _=>Out) (.goto l s') (fun rest=>dI cx n body (cx rest s')) (findLabel body l))
   cases findLabel body l with
   |none=>exact .goto l h1
   |some rest=>exact ih _ _ (hx rest _ _ h1)
theorem He{cx:Code→St→Out}(hx:∀c s s',dQ s s'→nK (cx c s) (cx c s'))(n:Nat)(c:Code):∀s s',dQ s s'→nK (exec P cf cx n c s) (exec P cf cx n c s'):=by
 induction c with
 |skip=>intro s s' h;exact .norm h
 |region id ops d=>intro s s' h;exact h.region ops d
 |seq a b iha ihb=>
  intro s s' h
  show nK (andThen (exec P cf cx n a s) (exec P cf cx n b)) (andThen (exec P cf cx n a s') (exec P cf cx n b))
  have:=iha s s' h
  generalize exec P cf cx n a s=x at this
  generalize exec P cf cx n a s'=y at this
  cases this with
  |fail=>exact .fail
  |norm h1=>exact ihb _ _ h1
  |exit i h1=>exact .exit i h1
  |goto l h1=>exact .goto l h1
  |ret h1=>exact .ret h1
 |cond x a b iha ihb=>
  intro s s' h
  show nK (vF (bE (ev s x)) (exec P cf cx n a s) (exec P cf cx n b s)) (vF (bE (ev s' x)) (exec P cf cx n a s') (exec P cf cx n b s'))
  rw[h.ev]
  cases bE (ev s' x)with
  |none=>exact .fail
  |some t=>cases t with
   |true=>exact iha _ _ h
   |false=>exact ihb _ _ h
 |block id a ih=>
  intro s s' h
  show nK (jD id (exec P cf cx n a s)) (jD id (exec P cf cx n a s'))
  have:=ih s s' h
  generalize exec P cf cx n a s=x at this
  generalize exec P cf cx n a s'=y at this
  cases this with
  |fail=>exact .fail
  |norm h1=>exact .norm h1
  |exit i h1=>
   show nK (au (Nat.beq i id) _ _) (au (Nat.beq i id) _ _)
   cases Nat.beq i id with
   |true=>exact .norm h1
   |false=>exact .exit i h1
  |goto l h1=>exact .goto l h1
  |ret h1=>exact .ret h1
 |loop a ih=>intro s s' h;exact Mr ih n s s' h
 |scope a ih=>intro s s' h;exact JR hx a n _ _ (ih s s' h)
 |label l=>intro s s' h;exact .norm h
 |exit i=>intro s s' h;exact .exit i h
 |goto l=>intro s s' h;exact .goto l h
 |ret=>intro s s' h;exact .ret h
 |_=>intro s s' h;exact .fail
variable{X:Xt}
theorem Vy(n:Nat):∀c s s',dQ s s'→nK ((lv P X n).cx c s) ((lv P X n).cx c s'):=by
 induction n with
 |zero=>intro c s s' _;exact .fail
 |succ n ih=>intro c s s' h;exact He ih n c s s' h
theorem Ev.alike{c:Code}{s s':St}{o:Out}(he:dQ s s')(h:Ev P X c s o):∃o',nK o o'∧Ev P X c s' o':=by
 obtain⟨hne,k,hk⟩:=h
 have:=He (P:=P) (cf:=(lv P X k).ca) (Vy (P:=P) (X:=X) k) k c s s' he
 refine⟨sZ P X k c s',by rw[←hk];exact this,?_,k,rfl⟩
 intro hf
 replace this:nK (sZ P X k c s) (sZ P X k c s'):=this
 rw[hf,hk]at this
 cases this
 exact hne rfl
theorem dQ.bK{s s':St}(h:dQ s s')(l:List ResultVar):bK P s l=bK P s' l:=by
 induction l with
 |nil=>rfl
 |cons r l ih=>
  show(ah (p8 P s r) fun v=>ah (Go.Ae.bK P s l) fun vs=>some (v::vs))=(ah (p8 P s' r) fun v=>ah (Go.Ae.bK P s' l) fun vs=>some (v::vs))
  rw[ih]
  have:p8 P s r=p8 P s' r:=by
   cases r with
   |tmp t=>show some (aO s t)=some (aO s' t);rw[h.look]
   |cell a t=>show(ah (jg P t (aO s a) s.H) _)=(ah (jg P t (aO s' a) s'.H) _);rw[h.look,h.H]
  rw[this]
end mem
def PU(o:Option Value)(K:Value→Prop):Prop:=@Option.rec Value (fun _=>Prop) False (fun v=>K v) o
def ME(o:Option (Value×ag))(K:Value→ag→Prop):Prop:=@Option.rec (Value×ag) (fun _=>Prop) False (fun p=>K p.1 p.2) o
def CV(o:Option Value)(q:Option (Value×ag))(Kp:Value→Prop)(Km:Value→ag→Prop):Prop:=@Option.rec Value (fun _=>Prop) (ME q Km) (fun v=>Kp v) o
def aj(P:Program)(X:Xt)(g:FuncId)(args:List Value)(H:ag)(K:Value→ag→Prop):Prop:=∃v H',Ca P X g args H v H'∧K v H'
def lH(P:Program)(X:Xt)(q:Option (FuncId×List Value×List Value))(args:List Value)(H:ag)(K:Value→ag→Prop):Prop:=
 @Option.rec (FuncId×List Value×List Value) (fun _=>Prop) False (fun q=>aj P X q.1 (app q.2.1 (app args q.2.2)) H K) q
def pF(b:Builtin):List TypeId→List Value→Program→ag→(Value→Prop)→(Value→ag→Prop)→Prop:=
 @Builtin.rec (fun _=>List TypeId→List Value→Program→ag→(Value→Prop)→(Value→ag→Prop)→Prop)
  (fun ats args P H Kp Km=>ME (pZ P ats args H) Km) (fun ats args P H Kp Km=>PU (one (xE P) ats args) Kp) (fun ats args P H Kp Km=>ME (uH P ats args H) Km) (fun _ _ _ _ _ _=>False) (fun ats args P H Kp Km=>PU (oQ args) Kp) (fun ats args P H Kp Km=>ME (Aa P ats args H) Km) (fun ats args P H Kp Km=>ME (sG P ats args H) Km) (fun ats args P H Kp Km=>PU (CU args) Kp) (fun ats args P H Kp Km=>CV (one (xD P) ats args) (xI P ats args H) Kp Km) (fun _ _ _ _ _ _=>False) (fun ats args P H Kp Km=>PU (KP true args) Kp) (fun ats args P H Kp Km=>PU (KP false args) Kp) (fun _ _ _ _ _ _=>False) (fun _ _ _ _ _ _=>False) (fun _ _ _ _ _ _=>False) (fun _ _ _ _ _ _=>False) (fun ats args P H Kp Km=>PU (CS args) Kp) (fun _ _ _ _ _ _=>False) (fun _ _ _ _ _ _=>False) (fun _ _ _ _ _ _=>False) (fun ats args P H Kp Km=>ME (sH args H) Km) (fun ats args P H Kp Km=>ME (jB P ats args H) Km) (fun _ _ _ _ _ _=>False) (fun _ _ _ _ _ _=>False) (fun _ _ _ _ _ _=>False) (fun _ _ _ _ _ _=>False) b
def Ms(P:Program)(X:Xt)(c:Call)(s:St)(Kp:Value→Prop)(Km:Value→ag→Prop):Prop:=
 @Option.rec Builtin (fun _=>Prop) (lH P X (dG c.callee P s) (mp (ev s) c.args.toList) s.H Km)
  (fun b=>pF b c.argTypes.toList (mp (ev s) c.args.toList) P s.H Kp Km) (isBuiltin c.callee)
def KA(o:Op):Program→Xt→St→(Value→Prop)→(Value→ag→Prop)→Prop:=
 @Op.rec (fun _=>Program→Xt→St→(Value→Prop)→(Value→ag→Prop)→Prop)
  (fun x P X s Kp Km=>Kp (ev s x)) (fun x P X s Kp Km=>Kp (ev s x)) (fun c a b P X s Kp Km=>PU (xC (ev s c) (ev s a) (ev s b)) Kp) (fun e P X s Kp Km=>ME (oU P e s.H) Km) (fun e x P X s Kp Km=>ME (Bi e (ev s x) s.H) Km) (fun t ps P X s Kp Km=>PU (oP P t (Bp s ps)) Kp) (fun t n ps P X s Kp Km=>ME (h_ P t n (Bp s ps) s.H) Km) (fun t m k v P X s Kp Km=>ME (gT P t (ev s m) (ev s k) (ev s v) s.H) Km) (fun t x P X s Kp Km=>ME (jg P t (ev s x) s.H) Km) (fun t x v P X s Kp Km=>ME (lg P t (ev s x) (ev s v) s.H) Km) (fun _ _ _ _ _ _=>False) (fun _ _ _ _ _ _=>False) (fun x P X s Kp Km=>PU (Bh (ev s x)) Kp) (fun op t x y _ P X s Kp Km=>PU (bq P op t x y (ev s x) (ev s y)) Kp) (fun op _ x P X s Kp Km=>PU (bD (Op.unary op (ev s x))) Kp) (fun a b x P X s Kp Km=>CV (oC P a b (ev s x)) (fK P a b (ev s x) s.H) Kp Km) (fun _ _ _ _ _ _ _=>False) (fun t x P X s Kp Km=>PU (zG P t (ev s x)) Kp) (fun f fi ca P X s Kp Km=>Kp (.func f ⟨mp (ev s) fi.toList⟩ ⟨mp (ev s) ca.toList⟩)) (fun t r P X s Kp Km=>ME (jW P t (wJ s r) s.H) Km) (fun _ _ _ _ _ _ _=>False) (fun t l c P X s Kp Km=>ME (fB P t (ev s l) (ev s c) s.H) Km) (fun t x lo hi mx P X s Kp Km=>PU (k_ P t (ev s x) (wJ s lo) (wJ s hi) (wJ s mx)) Kp) (fun t x f P X s Kp Km=>PU (g_ P t (ev s x) f) Kp) (fun t x f P X s Kp Km=>PU (oO P t (ev s x) f) Kp) (fun t x i P X s Kp Km=>PU (gm P t (ev s x) (ev s i)) Kp) (fun t x i P X s Kp Km=>PU (oN P t (ev s x) (ev s i)) Kp) (fun t x k ok P X s Kp Km=>ME (kG P t (ev s x) (ev s k) ok s.H) Km) (fun t m k v P X s Kp Km=>ME (gT P t (ev s m) (ev s k) (ev s v) s.H) Km) (fun _ _ _ _ _ _ _ _=>False) (fun _ _ _ _ _ _ _ _ _=>False) (fun t x P X s Kp Km=>ME (uI P t (ev s x) s.H) Km) (fun x b P X s Kp Km=>ME (Ab (ev s x) b s.H) Km) (fun _ _ _ _ _ _=>False) (fun _ _ _ _ _ _ _ _ _=>False) (fun t i P X s Kp Km=>PU (jV (ev s t) i) Kp) (fun c P X s Kp Km=>Ms P X c s Kp Km) (fun _ _ _ _ _ _=>False) (fun _ _ _ _ _ _=>False) (fun _ _ _ _ _ _=>False) (fun _ _ _ _ _ _ _=>False) (fun _ _ _ _ _ _ _ _=>False) (fun _ _ _ _ _ _ _=>False) o
def yu(v:Option Bool)(A B:Prop):Prop:=@Option.rec Bool (fun _=>Prop) False (fun b=>@Bool.rec (fun _=>Prop) B A b) v
def ny(l:List Nat)(t:Nat):Bool:=@List.rec Nat (fun _=>Bool) false (fun x _ r=>au (Nat.beq x t) true r) l
def dW(l:List Nat)(t:Nat):List Nat:=@List.rec Nat (fun _=>List Nat) [] (fun x _ r=>au (Nat.beq x t) r (x::r)) l
def bQ(l:List Nat)(d:Option Nat):List Nat:=@Option.rec Nat (fun _=>List Nat) l (dW l) d
def zM(s:St)(l:List Nat)(d:Option Nat):List Nat:=@Option.rec Nat (fun _=>List Nat) l (fun d=>au (wr s d) (d::l) l) d
def Ty(ops:Array Oper)(s:St)(sk:List Nat)(g:Option (Nat×Bool))(K:Bool→St→List Nat→Prop):Prop:=
 @Option.rec (Nat×Bool) (fun _=>Prop) (K true s sk) (fun g=>
  @Option.rec Oper (fun _=>Prop) False (fun o=>@Option.rec Nat (fun _=>Prop) False (fun t=>
   @Bool.rec (fun _=>Prop)
    (yu (bE (aO s t)) (K (oz true g.2) (fC s t (.bool true) s.H) (dW sk t)) (K (oz false g.2) (fC s t (.bool false) s.H) (dW sk t)))
    (K false s sk) (ny sk t)) o.dst) (nth ops.toList g.1)) g
def nA(P:Program)(X:Xt)(ops:Array Oper)(l:List Oper):St→List Nat→(St→Prop)→Prop:=
 @List.rec Oper (fun _=>St→List Nat→(St→Prop)→Prop) (fun s _ K=>K s)
  (fun o _ ih s sk K=>Ty ops s sk o.guard (fun b s sk=>@Bool.rec (fun _=>Prop)
   (ih (bA s o.dst undef s.H) (zM s sk o.dst) K)
   (@Option.rec Call (fun _=>Prop) (KA o.op P X s (fun v=>ih (bA s o.dst v s.H) (bQ sk o.dst) K) (fun v H=>ih (bA s o.dst v H) (bQ sk o.dst) K)) (fun _=>False) (gp o.op))
   b)) l
def FH(P:Program)(X:Xt)(ops:Array Oper)(l:List Oper):St→List Nat→List Cl→(St→List Cl→Prop)→Prop:=
 @List.rec Oper (fun _=>St→List Nat→List Cl→(St→List Cl→Prop)→Prop) (fun s _ acc K=>K s acc)
  (fun o _ ih s sk acc K=>Ty ops s sk o.guard (fun b s sk=>@Bool.rec (fun _=>Prop)
   (ih (bA s o.dst undef s.H) (zM s sk o.dst) (cl 0::acc) K)
   (KA o.op P X (aM s) (fun v=>ih (bA s o.dst v s.H) (bQ sk o.dst) (cl 0::acc) K) (fun v H=>ih (bA s o.dst v ⟨H.jc,H.next,dR s.H.low H.low⟩) (bQ sk o.dst) (gH P o.op s H::acc) K))
   b)) l
def Yx(P:Program)(X:Xt)(ops:Array Oper)(draw:Bool)(s:St)(K:Out→Prop):Prop:=
 @Bool.rec (fun _=>Prop) (nA P X ops ops.toList (clear s) [] (fun s=>K (.norm s)))
  (@Bool.rec (fun _=>Prop) False (FH P X ops ops.toList (clear s) [] [] (fun s cls=>dH ops cls=true∧K (.norm s))) (bW ops&&eB ops)) draw
def nL(id:Nat)(K:Out→Prop):Out→Prop:=fun o=>K (jD id o)
def bC(P:Program)(X:Xt)(c:Code)(s:St)(K:Out→Prop):Prop:=∃o o',Ev P X c s o∧nK o o'∧K o'
def pG(P:Program)(X:Xt)(b:Code)(K:Out→Prop):Out→Prop:=
 fun o=>@Out.rec (fun _=>Prop) (K .fail) (fun s=>bC P X b s K) (fun i s=>K (.exit i s)) (fun l s=>K (.goto l s)) (fun s=>K (.ret s)) o
def Yy(l:List Oper):Nat:=@List.rec Oper (fun _=>Nat) 1 (fun o _ r=>@Option.rec (Nat×Bool) (fun _=>Nat) r (fun _=>2) o.guard) l
def Tz(c:Code)(i:Nat):Nat:=
 @Code.rec (fun _=>Nat) 0 (fun _ _ _=>0) (fun _ _ a b=>Nat.add a b) (fun _ _ _ a b=>Nat.add a b) (fun _ _ a=>a) (fun _ _=>0) (fun _ _ _ _ _ _=>0) (fun j=>au (Nat.beq j i) 1 0) (fun _ _=>0) (fun _=>0) (fun _=>0) 0 (fun _=>0) c
def Vz(c:Code):Nat:=
 @Code.rec (fun _=>Nat) 1 (fun _ ops _=>Yy ops.toList) (fun _ _ a b=>Nat.mul a b) (fun _ _ _ a b=>Nat.add a b) (fun i a r=>Nat.add r (Tz a i)) (fun _ _=>0) (fun _ _ _ _ _ _=>0) (fun _=>0) (fun _ _=>0) (fun _=>1) (fun _=>0) 0 (fun _=>0) c
def P4(c:Code):Nat:=
 @Code.rec (fun _=>Nat) 0 (fun _ ops _=>len ops.toList) (fun _ _ a b=>Nat.add a b) (fun _ _ _ a b=>Nat.add a b) (fun _ _ r=>r) (fun _ _=>4) (fun _ _ _ _ _ _=>0) (fun _=>0) (fun _ _=>4) (fun _=>0) (fun _=>0) 0 (fun _=>0) c
def tu(a b:Code):Bool:=Nat.ble 2 (Vz a)&&Nat.ble 4 (P4 b)
section mem
variable{P:Program}{X:Xt}
theorem VA{o:Option Value}{K:Value→Prop}(h:PU o K):∃v,o=some v∧K v:=by
 cases o with
 |none=>exact h.elim
 |some v=>exact⟨v,rfl,h⟩
theorem Rf{o:Option (Value×ag)}{K:Value→ag→Prop}(h:ME o K):∃v H,o=some (v,H)∧K v H:=by
 cases o with
 |none=>exact h.elim
 |some v=>exact⟨v.1,v.2,rfl,h⟩
def j6(P:Program)(X:Xt)(o:Op)(s:St)(Kp:Value→Prop)(Km:Value→ag→Prop):Prop:=
 ∃k,(∃v,kH o P (a_ P X k) s=.oH v∧Kp v)∨∃v H,kH o P (a_ P X k) s=.mem v H∧Km v H
theorem j6.pu{o:Op}{s:St}{Kp:Value→Prop}{Km:Value→ag→Prop}{q:Option Value}(hq:∀cf,kH o P cf s=rp q)(h:PU q Kp):j6 P X o s Kp Km:=by
 obtain⟨v,h1,h2⟩:=VA h
 exact⟨0,.inl ⟨v,by rw[hq,h1];rfl,h2⟩⟩
theorem j6.me{o:Op}{s:St}{Kp:Value→Prop}{Km:Value→ag→Prop}{q:Option (Value×ag)}(hq:∀cf,kH o P cf s=rm q)(h:ME q Km):j6 P X o s Kp Km:=by
 obtain⟨v,H,h1,h2⟩:=Rf h
 exact⟨0,.inr ⟨v,H,by rw[hq,h1];rfl,h2⟩⟩
theorem j6.cv{o:Op}{s:St}{Kp:Value→Prop}{Km:Value→ag→Prop}{q:Option Value}{r:Option (Value×ag)}(hq:∀cf,kH o P cf s=UK q (rm r))(h:CV q r Kp Km):j6 P X o s Kp Km:=by
 cases q with
 |none=>exact j6.me (q:=r) (fun cf=>hq cf) h
 |some v=>exact⟨0,.inl ⟨v,by rw[hq];rfl,h⟩⟩
theorem j6.cons{o:Op}{s:St}{Kp:Value→Prop}{Km:Value→ag→Prop}{v:Value}(hq:∀cf,kH o P cf s=.oH v)(h:Kp v):j6 P X o s Kp Km:=⟨0,.inl ⟨v,hq _,h⟩⟩
theorem Dv{b:Builtin}{c:Call}{s:St}{ats:List TypeId}{args:List Value}{Kp:Value→Prop}{Km:Value→ag→Prop}(hq:∀cf,kH (.call c) P cf s=mZ b ats args P s.H)(h:pF b ats args P s.H Kp Km):j6 P X (.call c) s Kp Km:=by
 cases b with
 |append=>exact j6.me hq h
 |cap=>exact j6.pu hq h
 |clear=>exact j6.me hq h
 |complex=>exact j6.pu hq h
 |copy=>exact j6.me hq h
 |delete=>exact j6.me hq h
 |imag=>exact j6.pu hq h
 |len=>exact j6.cv hq h
 |max=>exact j6.pu hq h
 |min=>exact j6.pu hq h
 |real=>exact j6.pu hq h
 |unsafeSliceData=>exact j6.me hq h
 |unsafeString=>exact j6.me hq h
 |_=>exact h.elim
theorem Mt{c:Call}{s:St}{Kp:Value→Prop}{Km:Value→ag→Prop}(h:Ms P X c s Kp Km):j6 P X (.call c) s Kp Km:=by
 unfold Ms at h
 cases hb:isBuiltin c.callee with
 |some b=>
  rw[hb]at h
  refine Dv (b:=b) (ats:=c.argTypes.toList) (args:=mp (ev s) c.args.toList) (fun cf=>?_) h
  show jv c P cf s=_
  unfold jv
  rw[hb]
 |none=>
  rw[hb]at h
  replace h:lH P X (dG c.callee P s) (mp (ev s) c.args.toList) s.H Km:=h
  unfold lH at h
  cases hc:dG c.callee P s with
  |none=>rw[hc]at h;exact h.elim
  |some q=>
   rw[hc]at h
   obtain⟨v,H',⟨k,h1⟩,h2⟩:=h
   refine⟨k,.inr ⟨v,H',?_,h2⟩⟩
   show jv c P (a_ P X k) s=_
   unfold jv
   rw[hb]
   show rm (ah (dG c.callee P s) fun z=>a_ P X k z.1 (app z.2.1 (app (mp (ev s) c.args.toList) z.2.2)) s.H)=_
   rw[hc]
   show rm (a_ P X k q.1 (app q.2.1 (app (mp (ev s) c.args.toList) q.2.2)) s.H)=_
   rw[h1];rfl
theorem Mv{o:Op}{s:St}{Kp:Value→Prop}{Km:Value→ag→Prop}(h:KA o P X s Kp Km):j6 P X o s Kp Km:=by
 cases o with
 |move _=>exact j6.cons (fun _=>rfl) h
 |assign _=>exact j6.cons (fun _=>rfl) h
 |pick _ _ _=>exact j6.pu (fun _=>rfl) h
 |alloc _=>exact j6.me (fun _=>rfl) h
 |box _ _=>exact j6.me (fun _=>rfl) h
 |build _ _=>exact j6.pu (fun _=>rfl) h
 |buildSlice _ _ _=>exact j6.me (fun _=>rfl) h
 |insert _ _ _ _=>exact j6.me (fun _=>rfl) h
 |load _ _=>exact j6.me (fun _=>rfl) h
 |store _ _ _=>exact j6.me (fun _=>rfl) h
 |nilCheck _=>exact j6.pu (fun _=>rfl) h
 |binOp _ _ _ _ _=>exact j6.pu (fun _=>rfl) h
 |unOp _ _ _=>exact j6.pu (fun _=>rfl) h
 |convert _ _ _=>exact j6.cv (fun _=>rfl) h
 |makeInterface _ _=>exact j6.pu (fun _=>rfl) h
 |makeFunc _ _ _=>exact j6.cons (fun _=>rfl) h
 |makeMap _ _=>exact j6.me (fun _=>rfl) h
 |makeSlice _ _ _=>exact j6.me (fun _=>rfl) h
 |slice _ _ _ _ _=>exact j6.pu (fun _=>rfl) h
 |fieldAddr _ _ _=>exact j6.pu (fun _=>rfl) h
 |field _ _ _=>exact j6.pu (fun _=>rfl) h
 |indexAddr _ _ _=>exact j6.pu (fun _=>rfl) h
 |index _ _ _=>exact j6.pu (fun _=>rfl) h
 |lookup _ _ _ _=>exact j6.me (fun _=>rfl) h
 |mapUpdate _ _ _ _=>exact j6.me (fun _=>rfl) h
 |range _ _=>exact j6.me (fun _=>rfl) h
 |next _ _=>exact j6.me (fun _=>rfl) h
 |extract _ _=>exact j6.pu (fun _=>rfl) h
 |call c=>exact Mt h
 |_=>exact h.elim
theorem Mw{l:List Nat}{t:Nat}:ny l t=true↔t∈l:=by
 induction l with
 |nil=>exact⟨(fun h=>by cases h),(fun h=>by cases h)⟩
 |cons x l ih=>
  show au (Nat.beq x t) true (ny l t)=true↔_
  by_cases e:x=t
  ·subst e;rw[show Nat.beq x x=true from Nat.beq_refl x];simp[dP]
  ·rw[show Nat.beq x t=false from by rw[←Bool.not_eq_true];exact fun g=>e (Nat.eq_of_beq_eq_true g)]
   rw[bL,ih,List.mem_cons]
   exact⟨.inr,fun h=>h.resolve_left (fun g=>e g.symm)⟩
theorem P5{l:List Nat}{t u:Nat}(h:u∈dW l t):u∈l∧u≠t:=by
 induction l with
 |nil=>cases h
 |cons x l ih=>
  replace h:u∈au (Nat.beq x t) (dW l t) (x::dW l t):=h
  by_cases e:x=t
  ·subst e
   rw[show Nat.beq x x=true from Nat.beq_refl x,dP]at h
   exact⟨List.mem_cons_of_mem _ (ih h).1,(ih h).2⟩
  ·rw[show Nat.beq x t=false from by rw[←Bool.not_eq_true];exact fun g=>e (Nat.eq_of_beq_eq_true g),bL,List.mem_cons]at h
   rcases h with h|h
   ·subst h;exact⟨List.mem_cons_self ..,e⟩
   ·exact⟨List.mem_cons_of_mem _ (ih h).1,(ih h).2⟩
def Left(s:St)(sk:List Nat):Prop:=∀t,t∈sk→aO s t=undef
theorem Left.put{s:St}{sk:List Nat}(h:Left s sk)(d:Option Nat)(v:Value)(H:ag):Left (bA s d v H) (bQ sk d):=by
 cases d with
 |none=>exact fun t ht=>h t ht
 |some d=>
  intro t ht
  obtain⟨h1,h2⟩:=P5 (l:=sk) ht
  show aO (fC s d v H) t=_
  rw[kX,if_neg (fun g=>h2 g.1.symm)]
  exact h t h1
theorem Left.skip{s:St}{sk:List Nat}(h:Left s sk)(d:Option Nat):Left (bA s d undef s.H) (zM s sk d):=by
 cases d with
 |none=>exact fun t ht=>h t ht
 |some d=>
  intro t ht
  show aO (fC s d undef s.H) t=_
  rw[kX]
  split
  ·rfl
  ·next hn=>
   replace ht:t∈au (wr s d) (d::sk) sk:=ht
   cases hw:wr s d with
   |true=>
    rw[hw,dP,List.mem_cons]at ht
    rcases ht with e|ht
    ·exact absurd ⟨e.symm,hw⟩ hn
    ·exact h t ht
   |false=>rw[hw]at ht;exact h t ht
theorem Left.aM{s:St}{sk:List Nat}(h:Left s sk):Left (aM s) sk:=h
theorem BS{v:Option Bool}{A B:Prop}(h:yu v A B):(v=some true∧A)∨(v=some false∧B):=by
 cases v with
 |none=>exact h.elim
 |some b=>cases b with
  |true=>exact .inl ⟨rfl,h⟩
  |false=>exact .inr ⟨rfl,h⟩
theorem Mx{ops:Array Oper}{s:St}{sk:List Nat}{g:Option (Nat×Bool)}{K:Bool→St→List Nat→Prop}(hl:Left s sk)(h:Ty ops s sk g K):
 ∃b s' VB,fF ops s g=some b∧dQ s s'∧Left s' VB∧K b s' VB:=by
 cases g with
 |none=>exact⟨true,s,sk,rfl,dQ.refl s,hl,h⟩
 |some g=>
  cases ho:nth ops.toList g.1 with
  |none=>
   unfold Ty at h
   replace h:@Option.rec Oper (fun _=>Prop) False _ (nth ops.toList g.1):=h
   rw[ho]at h
   exact h.elim
  |some o=>
   cases ht:o.dst with
   |none=>
    unfold Ty at h
    replace h:@Option.rec Oper (fun _=>Prop) False _ (nth ops.toList g.1):=h
    rw[ho]at h
    replace h:@Option.rec Nat (fun _=>Prop) False _ o.dst:=h
    rw[ht]at h
    exact h.elim
   |some t=>
    unfold Ty at h
    replace h:@Option.rec Oper (fun _=>Prop) False _ (nth ops.toList g.1):=h
    rw[ho]at h
    replace h:@Option.rec Nat (fun _=>Prop) False _ o.dst:=h
    rw[ht]at h
    have hy:∀y,(@Option.rec Bool (fun _=>Option (Option Bool)) (gd (UL (aO s t)) (some none)) (fun b=>some (some b)) (bE (aO s t)))=some y→nN ops s g.1=some y:=by
     intro y hy
     unfold nN
     rw[ho]
     show(ah o.dst _)=_
     rw[ht]
     exact hy
    have hw:∀y,nN ops s g.1=some y→fF ops s (some g)=some (@Option.rec Bool (fun _=>Bool) false (fun b=>oz b g.2) y):=by
     intro y hy
     show Ac ops s g=_
     unfold Ac
     rw[hy];rfl
    cases he:ny sk t with
    |true=>
     replace h:@Bool.rec (fun _=>Prop) _ (K false s sk) (ny sk t):=h
     rw[he]at h
     refine⟨false,s,sk,?_,dQ.refl s,hl,h⟩
     have hu:=hl t (Mw.1 he)
     exact hw none (hy none (by rw[hu];rfl))
    |false=>
     replace h:@Bool.rec (fun _=>Prop) (yu (bE (aO s t)) (K (oz true g.2) (fC s t (.bool true) s.H) (dW sk t)) (K (oz false g.2) (fC s t (.bool false) s.H) (dW sk t))) (K false s sk) (ny sk t):=h
     rw[he]at h
     have fin:∀b,bE (aO s t)=some b→K (oz b g.2) (fC s t (.bool b) s.H) (dW sk t)→∃b s' VB,fF ops s (some g)=some b∧dQ s s'∧Left s' VB∧K b s' VB:=by
      intro b hb hk
      refine⟨_,_,_,hw (some b) (hy (some b) (by rw[hb])),?_,Left.put hl (some t) _ _,hk⟩
      have hv:=eF hb
      have:=dQ.same s t
      rw[hv]at this
      exact this
     rcases BS h with⟨h1,h2⟩|⟨h1,h2⟩
     ·exact fin _ h1 h2
     ·exact fin _ h1 h2
theorem My{ops:Array Oper}:∀{l:List Oper}{s:St}{sk:List Nat}{K:St→Prop},Left s sk→nA P X ops l s sk K→∃s' s2,Ro P X ops l s s'∧dQ s' s2∧K s2:=by
 intro l
 induction l with
 |nil=>intro s sk K _ h;exact⟨s,s,Ro.nil,dQ.refl s,h⟩
 |cons o l ih=>
  intro s0 sk0 K hl0 h
  obtain⟨b,s,sk,hw,he,hl,h⟩:=Mx (K:=fun b s sk=>@Bool.rec (fun _=>Prop)
   (nA P X ops l (bA s o.dst undef s.H) (zM s sk o.dst) K)
   (@Option.rec Call (fun _=>Prop) (KA o.op P X s (fun v=>nA P X ops l (bA s o.dst v s.H) (bQ sk o.dst) K) (fun v H=>nA P X ops l (bA s o.dst v H) (bQ sk o.dst) K)) (fun _=>False) (gp o.op))
   b) hl0 h
  have fin:∀k s1 TA,cK P (a_ P X k) ops o s0=some s1∨cK P (a_ P X k) ops o s=some s1→Left s1 TA→nA P X ops l s1 TA K→∃s' s2,Ro P X ops (o::l) s0 s'∧dQ s' s2∧K s2:=by
   intro k s1 TA hst hl1 hK
   obtain⟨s',s2,h3,h4,h5⟩:=ih hl1 hK
   rcases hst with hst|hst
   ·exact⟨s',s2,Ro.cons ⟨k,hst⟩ h3,h4,h5⟩
   ·have hx:=he.cK (P:=P) (cf:=a_ P X k) ops o
    rw[hst]at hx
    generalize hz:cK P (a_ P X k) ops o s0=z at hx
    cases hx with
    |some hx=>
     rename_i s3
     obtain⟨k2,h3⟩:=h3
     have hy:=dQ.di (P:=P) (cf:=a_ P X k2) ops l hx
     rw[h3]at hy
     generalize hq:di P (a_ P X k2) ops l s3=q at hy
     cases hy with
     |some hy=>exact⟨_,s2,Ro.cons ⟨k,hz⟩ ⟨k2,hq⟩,hy.trans h4,h5⟩
  have hw':fF ops s o.guard=some b:=by rw[←he.fF];exact hw
  cases b with
  |false=>
   refine fin 0 _ _ (.inr ?_) (Left.skip hl o.dst) h
   unfold cK
   rw[hw'];rfl
  |true=>
   cases hd:gp o.op with
   |some c=>
    replace h:@Option.rec Call (fun _=>Prop) _ (fun _=>False) (gp o.op):=h
    rw[hd]at h;exact h.elim
   |none=>
    replace h:@Option.rec Call (fun _=>Prop) (KA o.op P X s (fun v=>nA P X ops l (bA s o.dst v s.H) (bQ sk o.dst) K) (fun v H=>nA P X ops l (bA s o.dst v H) (bQ sk o.dst) K)) (fun _=>False) (gp o.op):=h
    rw[hd]at h
    have st:∀k v H,q8 o s (kH o.op P (a_ P X k) s)=some (bA s o.dst v H)→cK P (a_ P X k) ops o s=some (bA s o.dst v H):=by
     intro k v H he
     unfold cK
     rw[hw']
     show kI P (a_ P X k) o s=_
     unfold kI
     rw[hd]
     exact he
    obtain⟨k,⟨v,h1,h2⟩|⟨v,H,h1,h2⟩⟩:=Mv h
    ·exact fin k _ _ (.inr (st k v s.H (by rw[h1];rfl))) (Left.put hl o.dst v s.H) h2
    ·exact fin k _ _ (.inr (st k v H (by rw[h1];rfl))) (Left.put hl o.dst v H) h2
theorem Tx.VC{ops:Array Oper}{o:Oper}{l:List Oper}{s s1:St}{c:Cl}{acc:List Cl}{r:St×List Cl}{k:Nat}(h1:bU P (a_ P X k) ops o s=some (s1,c))(h2:Tx P X ops l s1 (c::acc) r):Tx P X ops (o::l) s acc r:=by
 obtain⟨k2,h2⟩:=h2
 refine⟨max k k2,?_⟩
 show(ah (bU P (a_ P X (max k k2)) ops o s) fun q=>bB P (a_ P X (max k k2)) ops l q.1 (q.2::acc))=_
 rw[show bU P (a_ P X (max k k2)) ops o s=some (s1,c)from sU (kM k _ (Nat.le_max_left k k2)).1 h1]
 exact sV (kM k2 _ (Nat.le_max_right k k2)).1 h2
theorem TB{ops:Array Oper}:∀{l:List Oper}{s:St}{sk:List Nat}{acc:List Cl}{K:St→List Cl→Prop},Left s sk→FH P X ops l s sk acc K→∃s' s2 cls,Tx P X ops l s acc (s',cls)∧dQ s' s2∧K s2 cls:=by
 intro l
 induction l with
 |nil=>intro s sk acc K _ h;exact⟨s,s,acc,⟨0,rfl⟩,dQ.refl s,h⟩
 |cons o l ih=>
  intro s0 sk0 acc K hl0 h
  obtain⟨b,s,sk,hw,he,hl,h⟩:=Mx (K:=fun b s sk=>@Bool.rec (fun _=>Prop)
   (FH P X ops l (bA s o.dst undef s.H) (zM s sk o.dst) (cl 0::acc) K)
   (KA o.op P X (aM s) (fun v=>FH P X ops l (bA s o.dst v s.H) (bQ sk o.dst) (cl 0::acc) K) (fun v H=>FH P X ops l (bA s o.dst v ⟨H.jc,H.next,dR s.H.low H.low⟩) (bQ sk o.dst) (gH P o.op s H::acc) K))
   b) hl0 h
  have fin:∀k s1 TA c,bU P (a_ P X k) ops o s=some (s1,c)→Left s1 TA→FH P X ops l s1 TA (c::acc) K→∃s' s2 cls,Tx P X ops (o::l) s0 acc (s',cls)∧dQ s' s2∧K s2 cls:=by
   intro k s1 TA c hst hl1 hK
   obtain⟨s',s2,cls,h3,h4,h5⟩:=ih hl1 hK
   have hx:=he.bU (P:=P) (cf:=a_ P X k) ops o
   rw[hst]at hx
   generalize hz:bU P (a_ P X k) ops o s0=z at hx
   cases hx with
   |some _ hx=>
    rename_i s3
    obtain⟨k2,h3⟩:=h3
    have hy:=dQ.bB (P:=P) (cf:=a_ P X k2) ops l (c::acc) hx
    rw[h3]at hy
    generalize hq:bB P (a_ P X k2) ops l s3 (c::acc)=q at hy
    cases hy with
    |some _ hy=>exact⟨_,s2,cls,Tx.VC hz ⟨k2,hq⟩,hy.trans h4,h5⟩
  have hw':fF ops s o.guard=some b:=by rw[←he.fF];exact hw
  cases b with
  |false=>
   refine fin 0 _ _ (cl 0) ?_ (Left.skip hl o.dst) h
   unfold bU
   rw[hw'];rfl
  |true=>
   obtain⟨k,⟨v,h1,h2⟩|⟨v,H,h1,h2⟩⟩:=Mv h
   ·refine fin k _ _ (cl 0) ?_ (Left.put hl o.dst v s.H) h2
    unfold bU
    rw[hw']
    show vE P o s (kH o.op P (a_ P X k) (aM s))=_
    rw[h1];rfl
   ·refine fin k _ _ (gH P o.op s H) ?_ (Left.put hl o.dst v ⟨H.jc,H.next,dR s.H.low H.low⟩) h2
    unfold bU
    rw[hw']
    show vE P o s (kH o.op P (a_ P X k) (aM s))=_
    rw[h1];rfl
theorem bC.alike{c:Code}{s s':St}{K:Out→Prop}(he:dQ s s')(h:bC P X c s' K):bC P X c s K:=by
 obtain⟨o,o',h1,h2,h3⟩:=h
 obtain⟨o2,h4,h5⟩:=Ev.alike he.symm h1
 refine⟨o2,o',h5,?_,h3⟩
 have:nK o2 o:=by
  cases h4 with
  |fail=>exact .fail
  |norm h=>exact .norm h.symm
  |exit i h=>exact .exit i h.symm
  |goto l h=>exact .goto l h.symm
  |ret h=>exact .ret h.symm
 exact this.trans h2
theorem Left.nil(s:St):Left s []:=fun t h=>by cases h
theorem P6{id:Nat}{ops:Array Oper}{d:Bool}{s:St}{K:Out→Prop}(h:Yx P X ops d s K):bC P X (.region id ops d) s K:=by
 cases d with
 |false=>
  obtain⟨s',s2,h1,h2,h3⟩:=My (l:=ops.toList) (s:=clear s) (K:=fun s=>K (.norm s)) (Left.nil _) h
  exact⟨_,_,Ev.region h1,.norm h2,h3⟩
 |true=>
  cases hst:(bW ops&&eB ops)with
  |false=>
   have h':@Bool.rec (fun _=>Prop) False (FH P X ops ops.toList (clear s) [] [] (fun s cls=>dH ops cls=true∧K (.norm s))) (bW ops&&eB ops):=h
   rw[hst]at h'
   exact h'.elim
  |true=>
   have h':@Bool.rec (fun _=>Prop) False (FH P X ops ops.toList (clear s) [] [] (fun s cls=>dH ops cls=true∧K (.norm s))) (bW ops&&eB ops):=h
   rw[hst]at h'
   obtain⟨s',s2,cls,h1,he,h2,h3⟩:=TB (Left.nil _) h'
   exact⟨_,_,Ev.Du hst h1 h2,.norm he,h3⟩
theorem bC.mono{c:Code}{s:St}{K K':Out→Prop}(h:bC P X c s K)(hk:∀o,K o→K' o):bC P X c s K':=by
 obtain⟨o,o',h1,h2,h3⟩:=h
 exact⟨o,o',h1,h2,hk o' h3⟩
theorem bC.seq{a b:Code}{s:St}{K:Out→Prop}(h:bC P X a s (pG P X b K)):bC P X (.seq a b) s K:=by
 obtain⟨o,o1,h1,he,h2⟩:=h
 cases he with
 |fail=>exact absurd rfl h1.1
 |norm he=>
  obtain⟨o',o2,h3,h5,h4⟩:=bC.alike he (K:=K) h2
  exact⟨o',o2,Ev.seq h1 h3,h5,h4⟩
 |exit i he=>exact⟨_,_,Ev.Mk h1,.exit i he,h2⟩
 |goto l he=>
  refine⟨_,_,?_,.goto l he,h2⟩
  obtain⟨n1,k1,h1⟩:=h1
  refine⟨n1,k1,?_⟩
  show andThen (sZ P X k1 a s) (sZ P X k1 b)=_
  rw[h1];rfl
 |ret he=>exact⟨_,_,Ev.PW h1,.ret he,h2⟩
theorem bC.block{id:Nat}{a:Code}{s:St}{K:Out→Prop}(h:bC P X a s (nL id K)):bC P X (.block id a) s K:=by
 obtain⟨o,o',h1,he,h2⟩:=h
 refine⟨jD id o,_,?_,?_,h2⟩
 ·obtain⟨n1,k1,h1⟩:=h1
  refine⟨?_,k1,?_⟩
  ·cases o with
   |fail=>exact absurd rfl n1
   |exit i s'=>
    show au (Nat.beq i id) (Out.norm s') (Out.exit i s')≠.fail
    cases Nat.beq i id<;>simp[dP,bL]
   |_=>intro e;cases e
  ·show jD id (sZ P X k1 a s)=_
   rw[h1]
 ·cases he with
  |fail=>exact .fail
  |norm he=>exact .norm he
  |exit i he=>
   show nK (au (Nat.beq i id) _ _) (au (Nat.beq i id) _ _)
   cases Nat.beq i id with
   |true=>exact .norm he
   |false=>exact .exit i he
  |goto l he=>exact .goto l he
  |ret he=>exact .ret he
def TC{T:Type}(TE:T→St)(Inv:T→Prop)(μ:T→Nat)(n:Nat)(K:Out→Prop):Out→Prop:=fun o=>match o with
 |.norm s'=>∃t',s'=TE t'∧Inv t'∧μ t'<n
 |.fail=>False
 |o=>K o
theorem bC.loop{T:Type}{a:Code}{K:Out→Prop}(TE:T→St)(Inv:T→Prop)(μ:T→Nat)(h:∀t,Inv t→bC P X a (TE t) (TC TE Inv μ (μ t) K)):
 ∀(t:T),Inv t→bC P X (.loop a) (TE t) K:=by
 suffices∀n t,μ t<n→Inv t→bC P X (.loop a) (TE t) K from fun t ht=>this (μ t +1) t (Nat.lt_succ_self _) ht
 intro n
 induction n with
 |zero=>intro t hn;omega
 |succ n ih=>
  intro t hn hI
  obtain⟨o,o',h1,he,h2⟩:=h t hI
  cases he with
  |fail=>exact h2.elim
  |norm he=>
   obtain⟨t',rfl,h3,h4⟩:=h2
   obtain⟨o',o2,h5,h7,h6⟩:=bC.alike he (ih t' aa h3)
   exact⟨o',o2,Ev.PX h1 h5,h7,h6⟩
  |exit i he=>exact⟨_,_,Ev.Ml h1,.exit i he,h2⟩
  |goto l he=>
   refine⟨_,_,?_,.goto l he,h2⟩
   obtain⟨n1,k1,h1⟩:=h1
   refine⟨n1,k1 +1,?_⟩
   show andThen (sZ P X (k1 +1) a (TE t)) _=_
   rw[nV h1 n1 (Nat.le_succ _)];rfl
  |ret he=>exact⟨_,_,Ev.Mm h1,.ret he,h2⟩
theorem aj.mono{g:FuncId}{args:List Value}{H:ag}{K K':Value→ag→Prop}(h:aj P X g args H K)(hk:∀v H',K v H'→K' v H'):aj P X g args H K':=by
 obtain⟨v,H',h1,h2⟩:=h
 exact⟨v,H',h1,hk _ _ h2⟩
def fD(P:Program)(rs:List ResultVar)(K:Value→ag→Prop):Out→Prop:=fun o=>
 @Out.rec (fun _=>Prop) False (fun s=>s.df=[]∧@Option.rec (List Value) (fun _=>Prop) False (fun vs=>K (eY vs) s.H) (bK P s rs)) (fun _ _=>False) (fun _ _=>False)
  (fun s=>s.df=[]∧@Option.rec (List Value) (fun _=>Prop) False (fun vs=>K (eY vs) s.H) (bK P s rs)) o
def qy(args:List Value)(n:Nat):Tr Value:=Tr.iH top (app args (KL top (Nat.sub n (len args)))) 0 .nil
theorem Dw(args:List Value)(n k:Nat):(Tr.iH top args 0 .nil).get top k=(qy args n).get top k:=by
 unfold qy
 rw[Tr.cz,Tr.cz,fV]
 simp only[Nat.zero_le,true_and,Nat.zero_add,Nat.sub_zero]
 have hrep:∀m,(KL top m).length=m:=by intro m;induction m with|zero=>rfl|succ m ih=>exact congrArg Nat.succ ih
 have hget:∀m j,(KL top m).getD j top=top:=by
  intro m
  induction m with
  |zero=>intro j;rfl
  |succ m ih=>intro j;cases j with
   |zero=>rfl
   |succ j=>exact ih j
 by_cases h1:k<args.length
 ·rw[if_pos h1,if_pos (by simp;omega)]
  simp[List.getD_eq_getElem?_getD,List.getElem?_append_left h1]
 ·rw[if_neg h1]
  split
  ·rw[List.getD_eq_getElem?_getD,List.getElem?_append_right aa,←List.getD_eq_getElem?_getD,hget,Tr.get_nil]
  ·rfl
theorem aj.body{g:FuncId}{fn:Func}{c:Code}{args:List Value}{H:ag}{K:Value→ag→Prop}{nl:Nat}(hor:X.o g args H=none)(hg:nth P.funcs.toList g=some fn)(hb:fn.body=some c)(hl:Nat.ble (len args) fn.ntmps=true)(hn:bV P g=nl)
 (h:bC P X c ⟨nl,fn.ntmps,[],qy args fn.ntmps,[],H⟩ (fD P fn.results.toList K)):aj P X g args H K:=by
 obtain⟨o,o1,h1,h0,h2⟩:=h
 subst hn
 have he:dQ ⟨bV P g,fn.ntmps,[],qy args fn.ntmps,[],H⟩ ⟨bV P g,fn.ntmps,[],Tr.iH top args 0 .nil,[],H⟩:=⟨rfl,rfl,rfl,rfl,fun k=>by
  show au (aS (bV P g) k) ((qy args fn.ntmps).get top k) _=au (aS (bV P g) k) ((Tr.iH top args 0 .nil).get top k) _
  rw[Dw args fn.ntmps k]⟩
 obtain⟨o',h3,h4⟩:=Ev.alike he h1
 have fin:∀s s':St,dQ s' s→KU o'=some s'→(s.df=[]∧@Option.rec (List Value) (fun _=>Prop) False (fun vs=>K (eY vs) s.H) (bK P s fn.results.toList))→aj P X g args H K:=by
  intro s s' hs ho ⟨hd,hr⟩
  rw[←hs.bK]at hr
  cases ha:bK P s' fn.results.toList with
  |none=>rw[ha]at hr;exact hr.elim
  |some vs=>
   rw[ha]at hr
   refine⟨_,_,Ca.body hor hg hb hl h4 ho ?_ ha,?_⟩
   ·rw[hs.df,hd];rfl
   ·rw[hs.H];exact hr
 have Yz:nK o' o:=by
  cases h3 with
  |fail=>exact .fail
  |norm h=>exact .norm h.symm
  |exit i h=>exact .exit i h.symm
  |goto l h=>exact .goto l h.symm
  |ret h=>exact .ret h.symm
 have h5:=Yz.trans h0
 cases h5 with
 |fail=>exact h2.elim
 |norm hs=>exact fin _ _ hs rfl h2
 |exit i hs=>exact h2.elim
 |goto l hs=>exact h2.elim
 |ret hs=>exact fin _ _ hs rfl h2
theorem yw{b:Code}{K:Out→Prop}{s:St}:pG P X b K (.norm s)=bC P X b s K:=rfl
theorem Dx{b:Code}{K:Out→Prop}{s:St}{i:Nat}:pG P X b K (.exit i s)=K (.exit i s):=rfl
theorem Hf{b:Code}{K:Out→Prop}{s:St}:pG P X b K (.ret s)=K (.ret s):=rfl
theorem Dy{K:Out→Prop}{s:St}{i:Nat}:nL i K (.norm s)=K (.norm s):=rfl
theorem Hg{K:Out→Prop}{s:St}{i:Nat}:nL i K (.ret s)=K (.ret s):=rfl
theorem Dz{K:Out→Prop}{s:St}{i:Nat}:nL i K (.exit i s)=K (.norm s):=by
 show K (au (Nat.beq i i) _ _)=_
 rw[show Nat.beq i i=true from Nat.beq_refl i];rfl
theorem DC{K:Out→Prop}{s:St}{i j:Nat}(h:j≠i):nL i K (.exit j s)=K (.exit j s):=by
 show K (au (Nat.beq j i) _ _)=_
 rw[show Nat.beq j i=false from by rw[←Bool.not_eq_true];exact fun g=>h (Nat.eq_of_beq_eq_true g)];rfl
theorem DD{A B:Prop}:yu (some true) A B=A:=rfl
theorem Ay{A B:Prop}:yu (some false) A B=B:=rfl
theorem fJ{v:Value}{K:Value→Prop}:PU (some v) K=K v:=rfl
theorem Hl{v:Value}{H:ag}{K:Value→ag→Prop}:ME (some (v,H)) K=K v H:=rfl
theorem Ho{v:Value}{q:Option (Value×ag)}{Kp:Value→Prop}{Km:Value→ag→Prop}:CV (some v) q Kp Km=Kp v:=rfl
end mem
def kid(c:Code)(i:Nat):Code:=
 @Code.rec (fun _=>Nat→Code) (fun _=>.skip) (fun _ _ _ _=>.skip) (fun a b _ _ i=>@Nat.rec (fun _=>Code) a (fun _ _=>b) i)
  (fun _ a b _ _ i=>@Nat.rec (fun _=>Code) a (fun _ _=>b) i) (fun _ a _ _=>a) (fun a _ _=>a) (fun _ _ _ _ _ _ _=>.skip) (fun _ _=>.skip) (fun a _ _=>a) (fun _ _=>.skip) (fun _ _=>.skip) (fun _=>.skip) (fun _ _=>.skip) c i
def sub(c:Code)(p:List Nat):Code:=@List.rec Nat (fun _=>Code→Code) (fun c=>c) (fun i _ ih c=>ih (kid c i)) p c
def opsOf(c:Code):Array Oper:=
 @Code.rec (fun _=>Array Oper) #[] (fun _ ops _=>ops) (fun _ _ _ _=>#[]) (fun _ _ _ _ _=>#[]) (fun _ _ _=>#[]) (fun _ _=>#[]) (fun _ _ _ _ _ _=>#[]) (fun _=>#[]) (fun _ _=>#[]) (fun _=>#[]) (fun _=>#[]) #[] (fun _=>#[]) c
def BU(f:Func):Code:=@Option.rec Code (fun _=>Code) .skip (fun c=>c) f.body
def Zx(off:Nat)(x:Value):Option Value:=ah (fH x) fun a=>some (.pointer (some ⟨a.block,Nat.add a.off off,none⟩))
def YA(l:Option Nat)(off:Nat)(x:Value):Option Value:=ah (jq x) fun cs=>apart l cs off
def mU(l:Option Nat)(x:Value)(H:ag):Option (Value×ag):=ah (fH x) fun a=>loadAt l a H
def EH(n:Nat)(x v:Value)(H:ag):Option (Value×ag):=
 ah (fH x) fun a=>gd (Nat.beq (len (ax v)) n) (ah (H.write a.block a.off (ax v)) fun H'=>some (undef,H'))
def DF(es:Nat)(x i:Value):Option Value:=ah (mW i) fun k=>ah (wH x) fun p=>ah p.1 fun a=>gd (Nat.ble (Nat.succ k) p.2.1) (some (.pointer (some ⟨a.block,Nat.add a.off (Nat.mul k es),none⟩)))
def Zy(n es:Nat)(x i:Value):Option Value:=ah (mW i) fun k=>ah (fH x) fun a=>gd (Nat.ble (Nat.succ k) n) (some (.pointer (some ⟨a.block,Nat.add a.off (Nat.mul k es),none⟩)))
def BV(x i:Value):Option Value:=ah (mW i) fun k=>ah (gX x) fun s=>ah (nth s.data.toList k) fun b=>some (.int .u8 (.ofNat b.toNat))
def UO(es:Nat)(x:Value)(lo hi mx:Option Value):Option Value:=ah (wH x) fun p=>Gt es p lo hi mx
def Hq(x:Value)(lo hi mx:Option Value):Option Value:=ah (gX x) fun s=>gd (aD mx) (Bg s lo hi)
def VD(x:Value):Option Value:=ah (wH x) fun p=>some (.int .i64 (.ofNat p.2.1))
def VE(x:Value):Option Value:=ah (gX x) fun s=>some (.int .i64 (.ofNat (len s.data.toList)))
def fE(e:TypeId)(z:List Value)(H:ag):Option (Value×ag):=some (xF H.next,H.new (rowOf e z))
def mkS(e:TypeId)(z:List Value)(l c:Value)(H:ag):Option (Value×ag):=
 ah (mW l) fun n=>ah (mW c) fun m=>gd (Nat.ble n m&&Nat.ble m 16777216&&true) (some (.slice (some ⟨H.next,0,none⟩) n m,H.new (rowOf e (jf z m))))
def zB(e:TypeId)(es:Nat)(s x:Value)(H:ag):Option (Value×ag):=
 ah (wH s) fun p=>ah (appended H es x) fun r=>gd (Nat.ble r.1 16777216) (CW (e,es) s p r.1 r.2 H)
def YB(es:Nat)(d x:Value)(H:ag):Option (Value×ag):=
 ah (wH d) fun p=>ah (appended H es x) fun e=>
  @Option.rec Addr (fun _=>Option (Value×ag)) (gd (Nat.beq p.2.1 0) (some (.int .i64 0,H)))
   (fun a=>ah (H.write a.block a.off (tk (Nat.mul (au (Nat.ble e.1 p.2.1) e.1 p.2.1) es) e.2)) fun H'=>some (.int .i64 (.ofNat (au (Nat.ble e.1 p.2.1) e.1 p.2.1)),H')) p.1
def VF(x:Value):Option (FuncId×List Value×List Value):=ah (Ku x) fun q=>ah (Gr q.1) fun g=>some (g,q.2)
def hN(H:ag):ag:=⟨H.jc,H.next,H.next⟩
def hM(H H':ag):ag:=⟨H'.jc,H'.next,dR H.low H'.low⟩
def Rh(H H':ag):Cl:=au (Nat.ble H.next H'.low) (cl 1) ⟨2,0,0,0,H,H'⟩
def UQ(H H':ag):Cl:=au (Nat.ble H.next H'.low) (cl 5) ⟨2,0,0,0,H,H'⟩
def Zz(n:Nat)(x:Value)(H H':ag):Cl:=au (Nat.ble H.next H'.low) ((ah (fH x) fun a=>some (Cl.mk 4 a.block a.off n hh0 hh0)).getD (cl 1)) ⟨2,0,0,0,H,H'⟩
def ZA(x v:Value)(H H':ag):Cl:=@Option.rec Addr (fun _=>Cl) ⟨2,0,0,0,H,H'⟩ (fun a=>⟨3,a.block,a.off,len (ax v),hh0,hh0⟩) (fH x)
def EI(R:Nat→St→Prop)(n:Nat)(K:Out→Prop):Out→Prop:=fun o=>
 @Out.rec (fun _=>Prop) False (fun s=>∃m,m<n∧R m s) (fun i s=>K (.exit i s)) (fun l s=>K (.goto l s)) (fun s=>K (.ret s)) o
theorem yx{R:Nat→St→Prop}{n:Nat}{K:Out→Prop}{s:St}:EI R n K (.norm s)=∃m,m<n∧R m s:=rfl
theorem DI{R:Nat→St→Prop}{n:Nat}{K:Out→Prop}{s:St}{i:Nat}:EI R n K (.exit i s)=K (.exit i s):=rfl
theorem Hr{R:Nat→St→Prop}{n:Nat}{K:Out→Prop}{s:St}:EI R n K (.ret s)=K (.ret s):=rfl
theorem bC.qQ{P:Program}{X:Xt}{a:Code}{K:Out→Prop}{R:Nat→St→Prop}(h:∀n s,R n s→bC P X a s (EI R n K)):∀n s,R n s→bC P X (.loop a) s K:=by
 intro n s hs
 refine bC.loop (T:=Nat×St) (fun t=>t.2) (fun t=>R t.1 t.2) (fun t=>t.1) ?_ (n,s) hs
 rintro⟨n,s⟩ hR
 refine bC.mono (h n s hR) fun o ho=>?_
 cases o with
 |fail=>exact ho
 |norm s'=>
  obtain⟨m,h1,h2⟩:=ho
  exact⟨(m,s'),rfl,h2,h1⟩
 |exit i s'=>exact ho
 |goto l s'=>exact ho
 |ret s'=>exact ho
abbrev Az:=look
def FI(P:Program)(s:St)(rs:List ResultVar):(List Value→Prop)→Prop:=
 @List.rec ResultVar (fun _=>(List Value→Prop)→Prop) (fun k=>k []) (fun r _ ih k=>
  @ResultVar.rec (fun _=>Prop) (fun t=>ih (fun vs=>k (aO s t::vs))) (fun a t=>ME (jg P t (aO s a) s.H) fun v _=>ih (fun vs=>k (v::vs))) r) rs
theorem Ht{P:Program}{s:St}:∀{rs:List ResultVar}{k:List Value→Prop},FI P s rs k→∃vs,bK P s rs=some vs∧k vs:=by
 intro rs
 induction rs with
 |nil=>intro k h;exact⟨[],rfl,h⟩
 |cons r rs ih=>
  intro k h
  cases r with
  |tmp t=>
   obtain⟨vs,h1,h2⟩:=ih (k:=fun vs=>k (aO s t::vs)) h
   refine⟨aO s t::vs,?_,h2⟩
   show(ah (some (aO s t)) fun v=>ah (bK P s rs) fun vs=>some (v::vs))=_
   rw[h1];rfl
  |cell a t=>
   obtain⟨v,H',h0,h⟩:=Rf (K:=fun v _=>FI P s rs (fun vs=>k (v::vs))) h
   obtain⟨vs,h1,h2⟩:=ih (k:=fun vs=>k (v::vs)) h
   refine⟨v::vs,?_,h2⟩
   show(ah (ah (jg P t (aO s a) s.H) fun p=>some p.1) fun v=>ah (bK P s rs) fun vs=>some (v::vs))=_
   rw[h0,h1];rfl
theorem MB{P:Program}{s:St}{rs:List ResultVar}{K:Value→ag→Prop}(hd:s.df=[])(h:FI P s rs (fun vs=>K (eY vs) s.H)):fD P rs K (.ret s):=by
 obtain⟨vs,h1,h2⟩:=Ht h
 refine⟨hd,?_⟩
 rw[h1];exact h2
theorem JS{P:Program}{s:St}{rs:List ResultVar}{K:Value→ag→Prop}(hd:s.df=[])(h:FI P s rs (fun vs=>K (eY vs) s.H)):fD P rs K (.norm s):=by
 obtain⟨vs,h1,h2⟩:=Ht h
 refine⟨hd,?_⟩
 rw[h1];exact h2
section
theorem nC(H:ag)(r:Nat)(o:bR)(q:Nat):(H.put r o).obj q=if q=r then o else H.obj q:=Tr.gQ _ _ _ _ _
theorem j_(H:ag)(o:bR)(q:Nat):(H.new o).obj q=if q=H.next then o else H.obj q:=Tr.gQ _ _ _ _ _
theorem jl(H:ag)(r:Nat)(o:bR):(H.put r o).low=min H.low r:=by
 show au (Nat.ble H.low r) H.low r=_
 cases h:Nat.ble H.low r with
 |true=>have:=Nat.le_of_ble_eq_true h;rw[dP,Nat.min_eq_left this]
 |false=>
  have:¬H.low≤r:=fun g=>by rw[Nat.ble_eq_true_of_le g]at h;cases h
  rw[bL,Nat.min_eq_right aa]
def Bk(H:ag)(r:Nat)(ty:TypeId)(cs:List Value):Prop:=
 ∃R:Row,H.obj r=.row R∧R.ty=ty∧R.n=cs.length∧R.bX=false∧R.fz=0∧∀i(h:i<cs.length),R.cells.get top i=cs[i]
theorem Bk.cell{H:ag}{r:Nat}{ty:TypeId}{cs:List Value}(h:Bk H r ty cs){o:Nat}{v:Value}(hv:cs[o]?=some v):H.cell r o=some v:=by
 obtain⟨R,h1,_,h2,_,_,h3⟩:=h
 obtain⟨ho,hv⟩:=List.getElem?_eq_some_iff.1 hv
 unfold ag.cell
 rw[h1]
 show gd (Nat.ble (Nat.succ o) R.n) (some (R.cells.get top o))=_
 rw[h2,Nat.ble_eq_true_of_le aa,h3 o ho,hv];rfl
theorem Bk.mJ{H H':ag}{r:Nat}{ty:TypeId}{cs:List Value}(h:Bk H r ty cs)(e:H'.obj r=H.obj r):Bk H' r ty cs:=by
 obtain⟨R,h1,h2⟩:=h
 exact⟨R,e.trans h1,h2⟩
theorem fq{H H':ag}{r:Nat}(e:H'.obj r=H.obj r)(o:Nat):H'.cell r o=H.cell r o:=by unfold ag.cell;rw[e]
theorem pI{H H':ag}{r:Nat}(e:H'.obj r=H.obj r)(o n:Nat):H'.read r o n=H.read r o n:=by unfold ag.read;rw[e]
theorem Bk.new(H:ag)(ty:TypeId)(cs:List Value):Bk (H.new (rowOf ty cs)) H.next ty cs:=by
 refine⟨⟨ty,Tr.iH top cs 0 .nil,len cs,false,0⟩,by rw[j_,if_pos rfl];rfl,rfl,aJ cs,rfl,rfl,fun i h=>?_⟩
 rw[Tr.cz,if_pos aa,List.getD_eq_getElem?_getD]
 simp[h]
theorem MC{n:Nat}:∀{k:Nat}(t:Tr Value)(cs:List Value),k +n≤cs.length→(∀i(h:i<cs.length),t.get top i=cs[i])→Tr.vz top t k n=(cs.drop k).take n:=by
 induction n with
 |zero=>intro k t cs _ _;rw[Tr.xx];simp
 |succ n ih=>
  intro k t cs hk ht
  rw[Tr.mV,ih t cs aa ht,ht k aa,List.drop_eq_getElem_cons (by omega:k<cs.length),List.take_succ_cons]
theorem Bk.read{H:ag}{r:Nat}{ty:TypeId}{cs:List Value}(h:Bk H r ty cs){o n:Nat}(hn:o +n≤cs.length):H.read r o n=some ((cs.drop o).take n):=by
 obtain⟨R,h1,_,h2,_,_,h3⟩:=h
 cases n with
 |zero=>show some []=_;simp
 |succ n=>
  show(ah (jy (H.obj r)) fun w=>gd (Nat.ble (Nat.add o (n +1)) w.n) (some (Tr.vz top w.cells o (n +1))))=_
  rw[h1]
  show gd (Nat.ble (Nat.add o (n +1)) R.n) (some (Tr.vz top R.cells o (n +1)))=_
  rw[h2,Nat.ble_eq_true_of_le (by simpa using hn),MC R.cells cs hn h3];rfl
def splice(cs:List Value)(o:Nat)(vs:List Value):List Value:=cs.take o++vs++cs.drop (o +vs.length)
theorem bn{cs vs:List Value}{o:Nat}(h:o +vs.length≤cs.length):(splice cs o vs).length=cs.length:=by unfold splice;simp;omega
theorem dw{cs vs:List Value}{o:Nat}(h:o +vs.length≤cs.length)(i:Nat):(splice cs o vs)[i]?=if o≤i∧i<o +vs.length then vs[i -o]? else cs[i]?:=by
 unfold splice
 rw[List.append_assoc,List.getElem?_append,List.getElem?_append]
 simp only[List.length_take]
 by_cases h1:i<o
 ·rw[if_pos aa,if_neg aa,List.getElem?_take,if_pos h1]
 ·rw[if_neg aa]
  by_cases h2:i<o +vs.length
  ·rw[if_pos aa,if_pos ⟨aa,h2⟩];congr 1;omega
  ·rw[if_neg aa,if_neg aa,List.getElem?_drop];congr 1;omega
theorem Bk.write{H:ag}{r:Nat}{ty:TypeId}{cs vs:List Value}(h:Bk H r ty cs){o:Nat}(hn:o +vs.length≤cs.length)(hk:all' aN vs=true):
 ∃H',H.write r o vs=some H'∧Bk H' r ty (splice cs o vs)∧H'.next=H.next∧(∀q,q≠r→H'.obj q=H.obj q)∧(H'.low=min H.low r∨H'.low=H.low):=by
 obtain⟨R,h1,h2,h3,h4,h5,h6⟩:=h
 cases vs with
 |nil=>
  refine⟨H,rfl,⟨R,h1,h2,by rw[bn hn];exact h3,h4,h5,fun i hi=>?_⟩,rfl,fun _ _=>rfl,.inr rfl⟩
  have hi':i<cs.length:=by rwa [bn hn]at hi
  have:=dw hn i
  rw[if_neg (fun h=>absurd h.2 (by simp;omega)),List.getElem?_eq_getElem hi,List.getElem?_eq_getElem hi']at this
  rw[h6 i hi'];exact(Option.some.inj this).symm
 |cons v vs'=>
  have hw:H.write r o (v::vs')=some (H.put r (.row ⟨R.ty,Tr.iH top (v::vs') o R.cells,R.n,false,R.fz⟩)):=by
   show(ah (jy (H.obj r)) fun w=>gd (!w.bX&&Nat.ble (Nat.add o (len (v::vs'))) w.n&&Nat.ble w.fz o&&all' aN (v::vs')) (some (H.put r (.row ⟨w.ty,Tr.iH top (v::vs') o w.cells,w.n,false,w.fz⟩))))=_
   rw[h1]
   show gd (!R.bX&&Nat.ble (Nat.add o (len (v::vs'))) R.n&&Nat.ble R.fz o&&all' aN (v::vs')) _=_
   rw[hk,h4,h3,h5,aJ,Nat.ble_eq_true_of_le (by simpa using hn),Nat.ble_eq_true_of_le (Nat.zero_le o)];rfl
  refine⟨_,hw,⟨⟨R.ty,Tr.iH top (v::vs') o R.cells,R.n,false,R.fz⟩,by rw[nC,if_pos rfl],h2,by rw[bn hn];exact h3,rfl,h5,fun i hi=>?_⟩,rfl,fun q hq=>by rw[nC,if_neg hq],.inl (jl _ _ _)⟩
  have hi':i<cs.length:=by rwa [bn hn]at hi
  have hg:=dw hn i
  rw[List.getElem?_eq_getElem hi]at hg
  show(Tr.iH top (v::vs') o R.cells).get top i=_
  rw[Tr.cz]
  by_cases hc:o≤i∧i<o +(v::vs').length
  ·rw[if_pos hc]at hg⊢
   rw[List.getD_eq_getElem?_getD,←hg];rfl
  ·rw[if_neg hc]at hg⊢
   rw[h6 i hi']
   rw[List.getElem?_eq_getElem hi']at hg
   exact(Option.some.inj hg).symm
structure mK(S:List Nat)(H H':ag):Prop where
 next:H.next≤H'.next
 obj:∀r,r<H.next→r∉S→H'.obj r=H.obj r
 low:∀b,b≤H.low→b≤H.next→(∀r∈S,b≤r)→b≤H'.low
 wf:H.low≤H.next→H'.low≤H'.next
abbrev Wf(H:ag):Prop:=H.low≤H.next
abbrev Ext(H H':ag):Prop:=mK [] H H'
theorem Ext.refl(H:ag):Ext H H:=⟨Nat.le_refl _,fun _ _ _=>rfl,fun _ h _ _=>h,fun h=>h⟩
theorem mK.refl(S:List Nat)(H:ag):mK S H H:=⟨Nat.le_refl _,fun _ _ _=>rfl,fun _ h _ _=>h,fun h=>h⟩
theorem mK.trans{S:List Nat}{A B C:ag}(h1:mK S A B)(h2:mK S B C):mK S A C:=
 ⟨Nat.le_trans h1.next h2.next,fun r hr hS=>(h2.obj r (Nat.lt_of_lt_of_le hr h1.next) hS).trans (h1.obj r hr hS),fun b hl hn hS=>h2.low b (h1.low b hl hn hS) (Nat.le_trans hn h1.next) hS,fun h=>h2.wf (h1.wf h)⟩
theorem mK.later{S S':List Nat}{A B C:ag}(h1:mK S A B)(h2:mK S' B C)(hS:∀r∈S',r∈S∨A.next≤r):mK S A C:=
 ⟨Nat.le_trans h1.next h2.next,fun r hr hn=>(h2.obj r (Nat.lt_of_lt_of_le hr h1.next) (fun h=>by
     rcases hS r h with h|h
     ·exact hn h
     ·omega)).trans (h1.obj r hr hn),
  fun b hl hn hb=>h2.low b (h1.low b hl hn hb) (Nat.le_trans hn h1.next) (fun r hr=>by
   rcases hS r hr with h|h
   ·exact hb r h
   ·omega),fun h=>h2.wf (h1.wf h)⟩
theorem mK.weaken{S S':List Nat}{A B:ag}(h:mK S A B)(hs:∀r∈S,r∈S'):mK S' A B:=⟨h.next,fun r hr hn=>h.obj r hr (fun g=>hn (hs r g)),fun b hl hn hb=>h.low b hl hn (fun r hr=>hb r (hs r hr)),h.wf⟩
theorem Ext.new(H:ag)(o:bR):Ext H (H.new o):=⟨Nat.le_succ _,fun r hr _=>by rw[j_,if_neg aa],fun _ h _ _=>h,fun h=>Nat.le_succ_of_le h⟩
theorem mK.put(H:ag)(r:Nat)(o:bR):mK [r] H (H.put r o):=⟨Nat.le_refl _,fun q _ hq=>by rw[nC,if_neg (fun e=>hq (by simp[e]))],fun b h _ hb=>by rw[jl];have:=hb r (by simp);omega,fun h=>by rw[jl];show min H.low r≤H.next;omega⟩
abbrev bF:=Nat×TypeId×List Value
structure SH(S:List Nat)(H0 H:ag)(L:List bF):Prop where
 ext:mK S H0 H
 bk:∀e∈L,Bk H e.1 e.2.1 e.2.2
 lo:∀e∈L,(e.1∈S∨H0.next≤e.1)∧e.1<H.next
 ne:L.Pairwise (fun a b=>a.1≠b.1)
 wf:H.low≤H.next
variable{S:List Nat}
theorem SH.refl{H:ag}(hw:Wf H):SH [] H H []:=⟨Ext.refl H,(fun e h=>by cases h),(fun e h=>by cases h),List.Pairwise.nil,hw⟩
theorem SH.YC{H0 H:ag}{L:List bF}(hS:SH [] H0 H L){e:bF}(he:e∈L):H0.next≤e.1:=(hS.lo e he).1.resolve_left (fun h=>nomatch h)
theorem SH.get{H0 H:ag}{L:List bF}(hS:SH S H0 H L)(i:Nat){r:Nat}{ty:TypeId}{cs:List Value}(hi:L[i]?=some (r,ty,cs)):Bk H r ty cs:=hS.bk _ (List.mem_of_getElem? hi)
theorem SH.old{H0 H:ag}{L:List bF}(hS:SH [] H0 H L){r o:Nat}(hr:r<H0.next):H.cell r o=H0.cell r o:=fq (hS.ext.obj r hr (by simp)) o
theorem SH.grow{H0 H:ag}{L:List bF}(hS:SH S H0 H L)(ty:TypeId)(cs:List Value):SH S H0 (H.new (rowOf ty cs)) ((H.next,ty,cs)::L):=by
 refine⟨hS.ext.later (Ext.new _ _) (fun r h=>nomatch h),?_,?_,?_,(Ext.new _ _).wf hS.wf⟩
 ·intro e he
  rcases List.mem_cons.1 he with rfl|he
  ·exact Bk.new H ty cs
  ·exact(hS.bk e he).mJ (by rw[j_,if_neg (by have:=(hS.lo e he).2;omega)])
 ·intro e he
  rcases List.mem_cons.1 he with rfl|he
  ·exact⟨.inr hS.ext.next,Nat.lt_succ_self _⟩
  ·exact⟨(hS.lo e he).1,Nat.lt_succ_of_lt (hS.lo e he).2⟩
 ·refine List.Pairwise.cons (fun e he=>?_) hS.ne
  have:=(hS.lo e he).2
  show H.next≠e.1
  omega
theorem SH.turn{H0 H H':ag}{A A' L:List bF}(hS:SH S H0 H (A++L))(hx:mK (A.map (·.1)) H H')(hb:∀e∈A',Bk H' e.1 e.2.1 e.2.2∧(e.1∈A.map (·.1)∨H.next≤e.1)∧e.1<H'.next)(hn:A'.Pairwise (fun a b=>a.1≠b.1)):SH S H0 H' (A'++L):=by
 have hp:=List.pairwise_append.1 hS.ne
 have hA:∀r∈A.map (·.1),∃e∈A,e.1=r:=fun r hr=>by simpa using hr
 have hnot:∀e∈L,e.1∉A.map (·.1):=fun e he h=>by
  obtain⟨a,ha,e1⟩:=hA _ h
  exact hp.2.2 a ha e he e1
 refine⟨?_,?_,?_,?_,hx.wf hS.wf⟩
 ·refine mK.later hS.ext hx (fun r hr=>?_)
  obtain⟨a,ha,rfl⟩:=hA r hr
  exact(hS.lo a (List.mem_append_left _ ha)).1
 ·intro e he
  rcases List.mem_append.1 he with he|he
  ·exact(hb e he).1
  ·exact(hS.bk e (List.mem_append_right _ he)).mJ (hx.obj _ (hS.lo e (List.mem_append_right _ he)).2 (hnot e he))
 ·intro e he
  rcases List.mem_append.1 he with he|he
  ·refine⟨?_,(hb e he).2.2⟩
   rcases(hb e he).2.1 with h|h
   ·obtain⟨a,ha,e1⟩:=hA _ h
    rw[←e1];exact(hS.lo a (List.mem_append_left _ ha)).1
   ·have:=hS.ext.next;exact .inr aa
  ·have:=hS.lo e (List.mem_append_right _ he)
   exact⟨this.1,Nat.lt_of_lt_of_le this.2 hx.next⟩
 ·refine List.pairwise_append.2 ⟨hn,hp.2.1,fun a ha e he=>?_⟩
  rcases(hb a ha).2.1 with h|h
  ·exact fun e1=>hnot e he (by rw[←e1];exact h)
  ·have:=(hS.lo e (List.mem_append_right _ he)).2;omega
theorem SH.call{H0 H H':ag}{L:List bF}(hS:SH S H0 H L)(hx:Ext H H'):SH S H0 H' L:=SH.turn (A:=[]) (A':=[]) hS hx (fun e h=>nomatch h) List.Pairwise.nil
theorem SH.drop{H0 H:ag}{A L:List bF}(hS:SH S H0 H (A++L)):SH S H0 H L:=SH.turn (A:=A) (A':=[]) hS (mK.refl _ _) (fun e h=>nomatch h) List.Pairwise.nil
theorem SH.perm{H0 H:ag}{L L':List bF}(hS:SH S H0 H L)(hp:L.Perm L'):SH S H0 H L':=
 ⟨hS.ext,fun e he=>hS.bk e (hp.mem_iff.2 he),fun e he=>hS.lo e (hp.mem_iff.2 he),hp.pairwise hS.ne (fun h=>h.symm),hS.wf⟩
theorem SH.base{H0 H:ag}{L:List bF}(hS:SH S H0 H L):SH (L.map (·.1)) H H L:=
 ⟨mK.refl _ _,hS.bk,fun e he=>⟨.inl (List.mem_map.2 ⟨e,he,rfl⟩),(hS.lo e he).2⟩,hS.ne,hS.wf⟩
theorem SH.over{H0 H H':ag}{L L':List bF}(hS:SH S H0 H L)(h:SH (L.map (·.1)) H H' L'):SH S H0 H' L':=by
 have hA:∀r∈L.map (·.1),∃e∈L,e.1=r:=fun r hr=>by simpa using hr
 refine⟨mK.later hS.ext h.ext (fun r hr=>?_),h.bk,fun e he=>⟨?_,(h.lo e he).2⟩,h.ne,h.wf⟩
 ·obtain⟨a,ha,rfl⟩:=hA r hr
  exact(hS.lo a ha).1
 ·rcases(h.lo e he).1 with h1|h1
  ·obtain⟨a,ha,e1⟩:=hA _ h1
   rw[←e1];exact(hS.lo a ha).1
  ·have:=hS.ext.next;exact .inr aa
theorem SH.lt{H0 H:ag}{L:List bF}(hS:SH S H0 H L):∀r∈L.map (·.1),r<H.next:=fun r hr=>by
 obtain⟨e,he,rfl⟩:=List.mem_map.1 hr
 exact(hS.lo e he).2
theorem SH.weaken{S':List Nat}{H0 H:ag}{L:List bF}(hS:SH S H0 H L)(h:∀r∈S,r∈S'):SH S' H0 H L:=
 ⟨hS.ext.weaken h,hS.bk,fun e he=>⟨(hS.lo e he).1.imp_left (h _),(hS.lo e he).2⟩,hS.ne,hS.wf⟩
section steps
variable{H0 H:ag}{L:List bF}{K:Value→ag→Prop}
theorem SH.box(hS:SH S H0 H L){ty:TypeId}{x:Value}(hx:mq x=true)(k:∀H1 r,SH S H0 H1 ((r,ty,ax x)::L)→K (.pointer (some ⟨r,0,none⟩)) H1):ME (Bi ty x H) K:=by
 unfold Bi
 rw[hx]
 exact k _ _ (hS.grow ty (ax x))
theorem SH.fE(hS:SH S H0 H L){ty:TypeId}{z:List Value}(k:∀H1 r,SH S H0 H1 ((r,ty,z)::L)→K (.pointer (some ⟨r,0,none⟩)) H1):ME (Go.Ae.fE ty z H) K:=k _ _ (hS.grow ty z)
theorem ME.ld{r o:Nat}{v:Value}(h:H.cell r o=some v)(k:K v H):ME (mU none (.pointer (some ⟨r,o,none⟩)) H) K:=by
 show ME (ah (H.cell r o) fun v=>some (v,H)) K
 rw[h];exact k
theorem ME.BX{r o n:Nat}{vs:List Value}(h:H.read r o n=some vs)(k:K (.agg ⟨vs⟩) H):ME (mU (some n) (.pointer (some ⟨r,o,none⟩)) H) K:=by
 show ME (ah (H.read r o n) fun vs=>some (.agg ⟨vs⟩,H)) K
 rw[h];exact k
theorem SH.ld(hS:SH S H0 H L)(i:Nat){r o:Nat}{ty:TypeId}{cs:List Value}{v:Value}(hi:L[i]?=some (r,ty,cs))(hv:cs[o]?=some v)(k:K v H):ME (mU none (.pointer (some ⟨r,o,none⟩)) H) K:=ME.ld ((hS.get i hi).cell hv) k
theorem SH.BX(hS:SH S H0 H L)(i:Nat){r o n:Nat}{ty:TypeId}{cs:List Value}(hi:L[i]?=some (r,ty,cs))(hn:o +n≤cs.length)(k:K (.agg ⟨(cs.drop o).take n⟩) H):ME (mU (some n) (.pointer (some ⟨r,o,none⟩)) H) K:=ME.BX ((hS.get i hi).read hn) k
theorem SH.YD(hS:SH [] H0 H L){r o:Nat}{v:Value}(h:H0.cell r o=some v)(hr:r<H0.next)(k:K v H):ME (mU none (.pointer (some ⟨r,o,none⟩)) H) K:=ME.ld ((hS.old hr).trans h) k
theorem SH.MF(hS:SH [] H0 H L){r o n:Nat}{vs:List Value}(h:H0.read r o n=some vs)(hr:r<H0.next)(k:K (.agg ⟨vs⟩) H):ME (mU (some n) (.pointer (some ⟨r,o,none⟩)) H) K:=ME.BX ((pI (hS.ext.obj r hr (by simp)) o n).trans h) k
theorem yz{α:Type}:∀{l:List α}{i:Nat}(h:i<l.length),(l[i]::l.eraseIdx i).Perm l:=by
 intro l
 induction l with
 |nil=>intro i h;cases h
 |cons x l ih=>
  intro i h
  cases i with
  |zero=>exact List.Perm.refl _
  |succ i=>exact(List.Perm.swap x _ _).trans ((ih (by simpa using h)).cons x)
theorem SH.tC(hS:SH S H0 H L)(i:Nat){r o:Nat}{ty:TypeId}{cs vs:List Value}(hi:L[i]?=some (r,ty,cs))(hn:o +vs.length≤cs.length)(hk:all' aN vs=true):
 ∃H1,H.write r o vs=some H1∧SH S H0 H1 (L.set i (r,ty,splice cs o vs))∧mK [r] H H1:=by
 have hil:i<L.length:=(List.getElem?_eq_some_iff.1 hi).1
 have hig:L[i]=(r,ty,cs):=(List.getElem?_eq_some_iff.1 hi).2
 obtain⟨H1,h1,h2,h3,h4,h5⟩:=(hS.get i hi).write hn hk
 have hx:mK [r] H H1:=⟨aa,fun q _ hq=>h4 q (fun e=>hq (by simp[e])),fun b hl _ hb=>by
  have:=hb r (by simp)
  rcases h5 with h5|h5<;>omega,fun h=>by rcases h5 with h5|h5<;>omega⟩
 refine⟨H1,h1,?_,hx⟩
 have hp:L.Perm ((r,ty,cs)::L.eraseIdx i):=by rw[←hig];exact(yz hil).symm
 have hS2:SH S H0 H ([(r,ty,cs)]++L.eraseIdx i):=hS.perm hp
 have VG:=SH.turn (A':=[(r,ty,splice cs o vs)]) hS2 hx (fun e he=>by
  rw[List.mem_singleton]at he
  subst he
  refine⟨h2,.inl (by simp),?_⟩
  have:=(hS.lo _ (List.mem_of_getElem? hi)).2
  show r<H1.next
  omega) (List.pairwise_singleton _ _)
 refine VG.perm ?_
 have:(L.set i (r,ty,splice cs o vs)).eraseIdx i=L.eraseIdx i:=by rw[List.eraseIdx_set_eq]
 have hl:i<(L.set i (r,ty,splice cs o vs)).length:=by simpa using hil
 have hg:(L.set i (r,ty,splice cs o vs))[i]=(r,ty,splice cs o vs):=by simp
 have hq:=yz hl
 rw[hg,this]at hq
 exact hq
theorem SH.st(hS:SH S H0 H L)(i:Nat){r o n:Nat}{ty:TypeId}{cs:List Value}{v:Value}(hi:L[i]?=some (r,ty,cs))(hl:(ax v).length=n)(hn:o +n≤cs.length)(hk:all' aN (ax v)=true)
 (k:∀H1,SH S H0 H1 (L.set i (r,ty,splice cs o (ax v)))→K undef H1):ME (EH n (.pointer (some ⟨r,o,none⟩)) v H) K:=by
 obtain⟨H1,h1,h2,_⟩:=hS.tC (vs:=ax v) (o:=o) i hi aa hk
 show ME (gd (Nat.beq (len (ax v)) n) (ah (H.write r o (ax v)) fun H'=>some (undef,H'))) K
 rw[aJ,hl,Nat.beq_refl,h1]
 exact k H1 h2
end steps
theorem cr{H:ag}(h:H.low≤H.next):hM H (hN H)=H:=by
 show ag.mk H.jc H.next (au (Nat.ble H.low H.next) H.low H.next)=H
 rw[Nat.ble_eq_true_of_le h];rfl
theorem MG(H:ag):Wf (hN H):=Nat.le_refl _
theorem AA(a b:Nat):dR a b=min a b:=by
 show au (Nat.ble a b) a b=_
 cases h:Nat.ble a b with
 |true=>rw[dP,Nat.min_eq_left (Nat.le_of_ble_eq_true h)]
 |false=>
  have:¬a≤b:=fun g=>by rw[Nat.ble_eq_true_of_le g]at h;cases h
  rw[bL,Nat.min_eq_right aa]
theorem mK.draw{S:List Nat}{H H':ag}(hx:mK S (hN H) H'):mK S H (hM H H'):=
 ⟨hx.next,hx.obj,fun b hl hn hb=>by show b≤dR H.low H'.low;rw[AA];have:=hx.low b hn hn hb;omega,fun h=>by show dR H.low H'.low≤H'.next;rw[AA];have:H.next≤H'.next:=hx.next;omega⟩
theorem SH.MH{H0 H H':ag}{L:List bF}(hS:SH S H0 H L)(hx:Ext (hN H) H'):SH S H0 (hM H H') L:=hS.call hx.draw
theorem SH.hN{H0 H:ag}{L:List bF}(hS:SH S H0 H L):(∀r o,(Go.Ae.hN H).cell r o=H.cell r o)∧(∀r o n,(Go.Ae.hN H).read r o n=H.read r o n):=⟨fun _ _=>rfl,fun _ _ _=>rfl⟩
theorem az(n r o:Nat)(H:ag):Zz n (.pointer (some ⟨r,o,none⟩)) H (hN H)=⟨4,r,o,n,hh0,hh0⟩:=by
 show au (Nat.ble H.next H.next) _ _=_
 rw[Nat.ble_eq_true_of_le (Nat.le_refl _)];rfl
theorem av{H H':ag}(hx:Ext (hN H) H'):Rh H H'=cl 1:=by
 show au (Nat.ble H.next H'.low) _ _=_
 rw[Nat.ble_eq_true_of_le (hx.low H.next (Nat.le_refl _) (Nat.le_refl _) (fun r h=>nomatch h))];rfl
theorem Hu{H H':ag}(hx:Ext (hN H) H'):UQ H H'=cl 5:=by
 show au (Nat.ble H.next H'.low) _ _=_
 rw[Nat.ble_eq_true_of_le (hx.low H.next (Nat.le_refl _) (Nat.le_refl _) (fun r h=>nomatch h))];rfl
theorem ay(r o:Nat)(v:Value)(H H':ag):ZA (.pointer (some ⟨r,o,none⟩)) v H H'=⟨3,r,o,len (ax v),hh0,hh0⟩:=rfl
theorem aK{ops:Array Oper}{cls:List Cl}(h:noTwo cls=true):dH ops cls=true:=by
 unfold dH;rw[h];rfl
end
section
variable{S:List Nat}
abbrev vi(n:Int):Value:=.int .i64 n
abbrev vn(n:Nat):Value:=.int .i64 (n:Int)
theorem qz(a b:Int):zF a b=decide (a<b):=by
 cases a with
 |ofNat m=>cases b with
  |ofNat n=>show Nat.ble (Nat.succ m) n=_;rw[Bool.eq_iff_iff,Nat.ble_eq];simp;omega
  |negSucc n=>show false=_;symm;simp;omega
 |negSucc m=>cases b with
  |ofNat n=>show true=_;symm;simp;omega
  |negSucc n=>show Nat.ble (Nat.succ n) m=_;rw[Bool.eq_iff_iff,Nat.ble_eq];simp;omega
theorem Hw(a b:Int):Kw a b=decide (a=b):=by
 cases a with
 |ofNat m=>cases b with
  |ofNat n=>show Nat.beq m n=_;rw[Bool.eq_iff_iff,Nat.beq_eq];simp;omega
  |negSucc n=>show false=_;symm;simp
 |negSucc m=>cases b with
  |ofNat n=>show false=_;symm;simp
  |negSucc n=>show Nat.beq m n=_;rw[Bool.eq_iff_iff,Nat.beq_eq];simp
theorem fo{n:Int}(h1:-9223372036854775808≤n)(h2:n≤9223372036854775807):aT .i64 n=n:=by
 cases n with
 |ofNat m=>
  show au (mX .i64&&Nat.ble m 9223372036854775807) (Int.ofNat m) _=_
  rw[show(mX .i64&&Nat.ble m 9223372036854775807)=true from by
   rw[show mX .i64=true from rfl,Bool.true_and];exact Nat.ble_eq_true_of_le (by have:(m:Int)≤9223372036854775807:=h2;omega)];rfl
 |negSucc m=>
  show au (mX .i64&&Nat.ble m 9223372036854775807) (Int.negSucc m) _=_
  rw[show(mX .i64&&Nat.ble m 9223372036854775807)=true from by
   rw[show mX .i64=true from rfl,Bool.true_and];exact Nat.ble_eq_true_of_le aa];rfl
section bin
variable{P:Program}{t:TypeId}{ox oy:Operand}{a b:Int}{k:IntKind}
theorem rP:Nat.beq (fT k) (fT k)=true:=Nat.beq_refl _
theorem aV{op:BinOp}{v:Value}(hs:wX op=false)(h:IX op k a b=some v):bq P op t ox oy (.int k a) (.int k b)=some v:=by
 show au (wX op) (KN op t (.int k a) (.int k b)) (gd (Nat.beq (fT k) (fT k)) (IX op k a b))=_
 rw[hs,rP];exact h
theorem yA:bq P .lss t ox oy (.int k a) (.int k b)=some (.bool (decide (a<b))):=aV rfl (by show some (Value.bool (zF a b))=_;rw[qz])
theorem DJ:bq P .gtr t ox oy (.int k a) (.int k b)=some (.bool (decide (b<a))):=aV rfl (by show some (Value.bool (zF b a))=_;rw[qz])
theorem yB:bq P .leq t ox oy (.int k a) (.int k b)=some (.bool (decide (a≤b))):=aV rfl (by
 show some (Value.bool (!(zF b a)))=_
 rw[qz,←decide_not];simp[Int.not_lt])
theorem fP:bq P .geq t ox oy (.int k a) (.int k b)=some (.bool (decide (b≤a))):=aV rfl (by
 show some (Value.bool (!(zF a b)))=_
 rw[qz,←decide_not];simp[Int.not_lt])
theorem DK:bq P .eql t ox oy (.int k a) (.int k b)=some (.bool (decide (a=b))):=aV rfl (by show some (Value.bool (Kw a b))=_;rw[Hw])
theorem DL:bq P .neq t ox oy (.int k a) (.int k b)=some (.bool (!decide (a=b))):=aV rfl (by show some (Value.bool (!(Kw a b)))=_;rw[Hw])
theorem aH(h1:-9223372036854775808≤a +b)(h2:a +b≤9223372036854775807):bq P .add t ox oy (vi a) (vi b)=some (vi (a +b)):=aV rfl (by show some (Value.int .i64 (aT .i64 (a +b)))=_;rw[fo h1 h2])
theorem iL(h1:-9223372036854775808≤a -b)(h2:a -b≤9223372036854775807):bq P .sub t ox oy (vi a) (vi b)=some (vi (a -b)):=aV rfl (by show some (Value.int .i64 (aT .i64 (a -b)))=_;rw[fo h1 h2])
theorem tF(h1:-9223372036854775808≤a*b)(h2:a*b≤9223372036854775807):bq P .mul t ox oy (vi a) (vi b)=some (vi (a*b)):=aV rfl (by show some (Value.int .i64 (aT .i64 (a*b)))=_;rw[fo h1 h2])
end bin
theorem DN(b:Bool):bD (Op.unary .not (.bool b))=some (.bool !b):=rfl
theorem min2(k:IntKind)(a b:Int):KP false [.int k a,.int k b]=some (.int k (min a b)):=by
 show ah (gd (Nat.beq (fT k) (fT k)) (some (au (zF b a) (Value.int k b) (Value.int k a)))) some=_
 rw[rP,lT,xy,qz]
 by_cases h:b<a
 ·rw[decide_eq_true h,dP,Int.min_eq_right aa]
 ·rw[decide_eq_false h,bL,Int.min_eq_left aa]
theorem max2(k:IntKind)(a b:Int):KP true [.int k a,.int k b]=some (.int k (max a b)):=by
 show ah (gd (Nat.beq (fT k) (fT k)) (some (au (zF a b) (Value.int k b) (Value.int k a)))) some=_
 rw[rP,lT,xy,qz]
 by_cases h:a<b
 ·rw[decide_eq_true h,dP,Int.max_eq_right aa]
 ·rw[decide_eq_false h,bL,Int.max_eq_left aa]
theorem yC(b:Bool):bE (.bool b)=some b:=rfl
theorem Hy(off r o:Nat):Zx off (.pointer (some ⟨r,o,none⟩))=some (.pointer (some ⟨r,o +off,none⟩)):=rfl
theorem iA(a:Addr):Bh (.pointer (some a))=some (.pointer (some a)):=rfl
theorem Hz(a:Option Addr)(n c:Nat):VD (.slice a n c)=some (vn n):=rfl
theorem DR(s:ByteArray):VE (.string s)=some (vn s.size):=by
 show some (Value.int .i64 (Int.ofNat (len s.data.toList)))=_
 rw[aJ];rfl
theorem nW{es r o n c k:Nat}(h:k<n):DF es (.slice (some ⟨r,o,none⟩) n c) (vn k)=some (.pointer (some ⟨r,o +k*es,none⟩)):=by
 show gd (Nat.ble (Nat.succ k) n) (some (Value.pointer (some ⟨r,Nat.add o (Nat.mul k es),none⟩)))=_
 rw[Nat.ble_eq_true_of_le h];rfl
theorem gV{s:ByteArray}{k:Nat}(h:k<s.size):BV (.string s) (vn k)=some (.int .u8 ((s.data.toList[k]'(by simpa using h)).toNat:Int)):=by
 show(ah (nth s.data.toList k) fun b=>some (Value.int .u8 (.ofNat b.toNat)))=_
 rw[cB,List.getElem?_eq_getElem (by simpa using h)];rfl
def Fl(H:ag)(a:Option Addr)(n es:Nat)(cs:List Value):Prop:=
 cs.length=n*es∧∀(i:Nat)(x:Value),cs[i]?=some x→∃r o,a=some ⟨r,o,none⟩∧r<H.next∧H.cell r (o +i)=some x
theorem Fl.ext{S:List Nat}{H H':ag}{a:Option Addr}{n es:Nat}{cs:List Value}(h:Fl H a n es cs)(hx:mK S H H')(hS:∀r o,a=some ⟨r,o,none⟩→r∉S):Fl H' a n es cs:=
 ⟨h.1,fun i x hi=>by
   obtain⟨r,o,h1,h2,h3⟩:=h.2 i x hi
   exact⟨r,o,h1,Nat.lt_of_lt_of_le h2 hx.next,(fq (hx.obj r h2 (hS r o h1)) _).trans h3⟩⟩
theorem Fl.ex{H H':ag}{a:Option Addr}{n es:Nat}{cs:List Value}(h:Fl H a n es cs)(hx:Ext H H'):Fl H' a n es cs:=h.ext hx (fun r o _ h=>nomatch h)
theorem Fl.nil(H:ag)(a:Option Addr)(es:Nat):Fl H a 0 es []:=⟨by simp,fun i x h=>by simp at h⟩
theorem Fl.idx{H:ag}{a:Option Addr}{n es c:Nat}{cs:List Value}(h:Fl H a n es cs)(he:0<es){k:Nat}(hk:k<n):
 ∃r o,DF es (.slice a n c) (vn k)=some (.pointer (some ⟨r,o,none⟩))∧r<H.next∧(∀f x,f<es→cs[k*es +f]?=some x→H.cell r (o +f)=some x)∧(∃o0,a=some ⟨r,o0,none⟩∧o=o0 +k*es):=by
 have hl:k*es<cs.length:=by rw[h.1];exact Nat.mul_lt_mul_of_pos_right hk he
 obtain⟨r,o,rfl,h2,h3⟩:=h.2 (k*es) _ (List.getElem?_eq_getElem hl)
 refine⟨r,o +k*es,nW hk,h2,fun f x hf hx=>?_,o,rfl,rfl⟩
 obtain⟨r',o',h4,_,h5⟩:=h.2 _ _ hx
 cases h4
 rw[Nat.add_assoc];exact h5
theorem Bk.fl{H:ag}{r:Nat}{ty:TypeId}{cs:List Value}(h:Bk H r ty cs)(hr:r<H.next){n es:Nat}(hn:cs.length=n*es):Fl H (some ⟨r,0,none⟩) n es cs:=
 ⟨hn,fun i x hi=>⟨r,0,rfl,hr,by rw[Nat.zero_add];exact h.cell hi⟩⟩
theorem AB(z:List Value)(n:Nat):(jf z n).length=n*z.length:=by
 induction n with
 |zero=>show([]:List Value).length=_;simp
 |succ n ih=>show(app z (jf z n)).length=_;rw[fV,List.length_append,ih,Nat.succ_mul];omega
theorem SH.mkS{H0 H:ag}{L:List bF}{K:Value→ag→Prop}(hS:SH S H0 H L){e:TypeId}{z:List Value}{n m:Nat}(hn:n≤m)(hm:m≤16777216)
 (k:∀H1 r,SH S H0 H1 ((r,e,jf z m)::L)→K (.slice (some ⟨r,0,none⟩) n m) H1):ME (Go.Ae.mkS e z (vn n) (vn m) H) K:=by
 show ME (gd (Nat.ble n m&&Nat.ble m 16777216&&true) (some (Value.slice (some ⟨H.next,0,none⟩) n m,H.new (rowOf e (jf z m))))) K
 rw[Nat.ble_eq_true_of_le hn,Nat.ble_eq_true_of_le hm]
 exact k _ _ (hS.grow e _)
theorem SH.sub{H0 H:ag}{L L':List bF}(hS:SH S H0 H L)(h:L'.Sublist L):SH S H0 H L':=
 ⟨hS.ext,fun e he=>hS.bk e (h.mem he),fun e he=>hS.lo e (h.mem he),hS.ne.sublist h,hS.wf⟩
theorem SH.take{H0 H:ag}{L:List bF}(hS:SH S H0 H L)(n:Nat):SH S H0 H (L.take n):=hS.sub (List.take_sublist n L)
theorem SH.to{H0 H:ag}{L:List bF}{r:Nat}{ty:TypeId}{cs cs':List Value}(hS:SH S H0 H ((r,ty,cs)::L))(h:cs=cs'):SH S H0 H ((r,ty,cs')::L):=h▸hS
end
section
variable{S:List Nat}
def bS(e:TypeId)(z:List Value)(es n:Nat)(ps:List (Nat×Value))(H:ag):Option (Value×ag):=
 gd (Nat.ble (Nat.mul n es) 16777216) (ah (qM (fun k=>some (Nat.mul k es,es)) ps (jf z n)) fun cs=>some (.slice (some ⟨H.next,0,none⟩) n n,H.new (rowOf e cs)))
def ZB(pl:List (Nat×Nat))(z:List Value)(ps:List (Nat×Value)):Option Value:=ah (qM (nth pl) ps z) fun cs=>some (.agg ⟨cs⟩)
theorem PU.of{o:Option Value}{v:Value}{K:Value→Prop}(h:o=some v)(k:K v):PU o K:=by rw[h];exact k
theorem ME.of{o:Option (Value×ag)}{v:Value}{H:ag}{K:Value→ag→Prop}(h:o=some (v,H))(k:K v H):ME o K:=by rw[h];exact k
theorem MI:∀(vs:List Value)(k:Nat)(cs:List Value),k +vs.length≤cs.length→uF vs k cs=splice cs k vs:=by
 intro vs
 induction vs with
 |nil=>
  intro k cs h
  show cs=_
  unfold splice;simp
 |cons v vs ih=>
  intro k cs h
  have hset:∀(k:Nat)(cs:List Value),setAt v k cs=cs.set k v:=by
   intro k
   induction k with
   |zero=>intro cs;cases cs<;>rfl
   |succ k ihk=>intro cs;cases cs with
    |nil=>rfl
    |cons c cs=>exact congrArg (c::·) (ihk cs)
  show uF vs (Nat.succ k) (setAt v k cs)=_
  simp only[List.length_cons]at h
  rw[hset,ih (k +1) _ (by simp;omega)]
  apply List.ext_getElem?
  intro i
  rw[dw (by simp;omega),dw (by simp;omega),List.getElem?_set]
  by_cases h1:i=k
  ·subst h1
   rw[if_neg aa,if_pos rfl,if_pos aa,if_pos ⟨Nat.le_refl _,by simp⟩]
   simp
  ·by_cases h2:k +1≤i∧i<k +1 +vs.length
   ·rw[if_pos h2,if_pos (by simp;omega),show i -k=(i -(k +1)) +1 by omega];simp
   ·rw[if_neg h2,if_neg (fun e=>h1 e.symm),if_neg (by simp only[List.length_cons];omega)]
theorem tH(cs vs:List Value)(h:cs.length=vs.length):splice cs 0 vs=vs:=by
 unfold splice
 rw[List.drop_of_length_le aa];simp
theorem TG{e:TypeId}{z:List Value}{es:Nat}{v:Value}{H:ag}(hz:z.length=es)(hv:mq v=true)(hc:(ax v).length=es)(he:es≤16777216):
 bS e z es 1 [(0,v)] H=some (.slice (some ⟨H.next,0,none⟩) 1 1,H.new (rowOf e (ax v))):=by
 have hr:jf z 1=z:=by show app z []=z;rw[fV,List.append_nil]
 unfold bS
 rw[Nat.ble_eq_true_of_le (by show 1*es≤_;omega),hr]
 show(ah (gd (mq v&&Nat.beq (len (ax v)) es&&Nat.ble (Nat.add (Nat.mul 0 es) es) (len z)) (some (uF (ax v) (Nat.mul 0 es) z))) fun cs=>some (Value.slice (some ⟨H.next,0,none⟩) 1 1,H.new (rowOf e cs)))=_
 have e0:Nat.mul 0 es=0:=Nat.zero_mul es
 rw[hv,aJ,hc,Nat.beq_refl,aJ,hz,e0]
 rw[show Nat.ble (Nat.add 0 es) es=true from Nat.ble_eq_true_of_le (by show 0 +es≤es;omega),MI _ _ _ aa,tH _ _ aa]
 rfl
theorem pJ{H:ag}{r es k c:Nat}{ty:TypeId}{xs:List Value}(h:Bk H r ty xs)(hk:xs.length=k*es):appended H es (.slice (some ⟨r,0,none⟩) k c)=some (k,xs):=by
 show(ah (H.read r 0 (Nat.mul k es)) fun l=>some (k,l))=_
 have:H.read r 0 (Nat.mul k es)=some xs:=by
  rw[h.read (by show 0 +k*es≤_;omega)]
  simp only[List.drop_zero]
  rw[List.take_of_length_le (by show xs.length≤k*es;omega)]
 rw[this];rfl
theorem BZ{H:ag}{e:TypeId}{es k:Nat}{x:Value}{xs:List Value}(ha:appended H es x=some (k +1,xs))(hk:k +1≤16777216):
 zB e es (.slice none 0 0) x H=some (.slice (some ⟨H.next,0,none⟩) (k +1) (bH es),H.new (rowOf e xs)):=by
 unfold zB
 show(ah (appended H es x) fun r=>gd (Nat.ble r.1 16777216) (CW (e,es) (.slice none 0 0) (none,0,0) r.1 r.2 H))=_
 rw[ha]
 show gd (Nat.ble (k +1) 16777216) _=_
 rw[Nat.ble_eq_true_of_le hk];rfl
theorem uY(es:Nat):aP (bH es)=false:=by
 show Nat.ble (18446744073709551616 +es) 9223372036854775807=false
 rw[←Bool.not_eq_true];intro h;have:=Nat.le_of_ble_eq_true h;omega
theorem HV{H:ag}{e:TypeId}{es k n r:Nat}{x:Value}{cs dK xs:List Value}(he:0<es)(hb:Bk H r e (cs++dK))(hr:r<H.next)(hn:cs.length=n*es)(ha:appended H es x=some (k +1,xs))(hx:xs.length=(k +1)*es)(hok:all' aN xs=true)(hk:k +1≤16777216)(hnn:n≤16777216):
 ∃r' H' yD,zB e es (.slice (some ⟨r,0,none⟩) n (bH es)) x H=some (.slice (some ⟨r',0,none⟩) (n +(k +1)) (bH es),H')∧Bk H' r' e (cs++xs++yD)∧(r'=r∨r'=H.next)∧r'<H'.next∧mK [r] H H'∧(H'.low≤r):=by
 have hap:zB e es (.slice (some ⟨r,0,none⟩) n (bH es)) x H=ic (e,es) ⟨r,0,none⟩ n (bH es) (k +1) xs H:=by
  unfold zB
  show(ah (appended H es x) fun q=>gd (Nat.ble q.1 16777216) (CW (e,es) (.slice (some ⟨r,0,none⟩) n (bH es)) (some ⟨r,0,none⟩,n,bH es) q.1 q.2 H))=_
  rw[ha]
  show gd (Nat.ble (k +1) 16777216) (gd (Nat.ble n 16777216) (au (aP (bH es)) _ (gd (Nat.beq (bH es) (bH es)) (ic (e,es) ⟨r,0,none⟩ n (bH es) (k +1) xs H))))=_
  rw[Nat.ble_eq_true_of_le hk,Nat.ble_eq_true_of_le hnn,uY,Nat.beq_refl];rfl
 rw[hap]
 obtain⟨R,h1,h2,h3,h4,h5,h6⟩:=id hb
 have hmul:(n +(k +1))*es=n*es +(k +1)*es:=Nat.add_mul ..
 have hlen:(cs++dK).length=n*es +dK.length:=by rw[List.length_append,hn]
 have hun:ic (e,es) ⟨r,0,none⟩ n (bH es) (k +1) xs H=au (Nat.ble (Nat.add 0 (Nat.mul (Nat.add n (k +1)) es)) R.n)
  (ah (H.write r (Nat.add 0 (Nat.mul n es)) xs) fun H'=>some (Value.slice (some ⟨r,0,none⟩) (Nat.add n (k +1)) (bH es),H'))
  (gd (Nat.ble (Nat.add 0 (Nat.mul n es)) R.n&&Nat.ble R.fz (Nat.add 0 (Nat.mul n es))&&all' aN xs)
   (some (Value.slice (some ⟨H.next,0,none⟩) (Nat.add n (k +1)) (bH es),
    (H.put r .dead).new (.row ⟨R.ty,Tr.iH top xs (Nat.add 0 (Nat.mul n es)) R.cells,Nat.add 0 (Nat.mul (Nat.add n (k +1)) es),false,R.fz⟩)))):=by
  unfold ic
  show(ah (jy (H.obj r)) _)=_
  rw[h1]
  show gd (Nat.beq R.ty e&&!R.bX) _=_
  rw[h2,Nat.beq_refl,h4];rfl
 rw[hun]
 have e1:Nat.add 0 (Nat.mul n es)=n*es:=Nat.zero_add _
 have e2:Nat.add 0 (Nat.mul (Nat.add n (k +1)) es)=n*es +(k +1)*es:=(Nat.zero_add _).trans hmul
 rw[e1,e2,h3,hlen]
 by_cases hc:n*es +(k +1)*es≤n*es +dK.length
 ·rw[Nat.ble_eq_true_of_le hc,dP]
  obtain⟨H1,w1,w2,w3,w4,w5⟩:=hb.write (o:=n*es) (vs:=xs) (by rw[hlen];omega) hok
  rw[w1]
  have hlow:H1.low≤r:=by
   rcases w5 with w5|w5
   ·omega
   ·
    cases xs with
    |nil=>
     have h0:0<(k +1)*es:=Nat.mul_pos aa he
     rw[←hx]at h0;cases h0
    |cons v vs'=>
     have:H.write r (n*es) (v::vs')=some (H.put r (.row ⟨R.ty,Tr.iH top (v::vs') (n*es) R.cells,R.n,false,R.fz⟩)):=by
      show(ah (jy (H.obj r)) fun w=>gd (!w.bX&&Nat.ble (Nat.add (n*es) (len (v::vs'))) w.n&&Nat.ble w.fz (n*es)&&all' aN (v::vs')) (some (H.put r (.row ⟨w.ty,Tr.iH top (v::vs') (n*es) w.cells,w.n,false,w.fz⟩))))=_
      rw[h1]
      show gd (!R.bX&&Nat.ble (Nat.add (n*es) (len (v::vs'))) R.n&&Nat.ble R.fz (n*es)&&all' aN (v::vs')) _=_
      rw[hok,h4,h3,h5,aJ,Nat.ble_eq_true_of_le (by show n*es +(v::vs').length≤_;rw[hlen];omega),Nat.ble_eq_true_of_le (Nat.zero_le _)];rfl
     rw[this]at w1
     cases w1
     rw[jl];omega
  refine⟨r,H1,dK.drop xs.length,rfl,?_,.inl rfl,aa,⟨aa,fun q _ hq=>w4 q (fun e=>hq (by simp[e])),fun b hl _ hb=>by
   have:=hb r (by simp)
   rcases w5 with w5|w5<;>omega,fun h=>by rcases w5 with w5|w5<;>omega⟩,hlow⟩
  have:splice (cs++dK) (n*es) xs=cs++xs++dK.drop xs.length:=by
   unfold splice
   rw[←hn,List.take_left,List.drop_append,List.drop_of_length_le aa,List.nil_append,Nat.add_sub_cancel_left]
  rw[←this];exact w2
 ·have hb':Nat.ble (n*es +(k +1)*es) (n*es +dK.length)=false:=by
   rw[←Bool.not_eq_true];intro h;exact hc (Nat.le_of_ble_eq_true h)
  rw[hb',bL,Nat.ble_eq_true_of_le (by omega:n*es≤n*es +dK.length),h5,Nat.ble_eq_true_of_le (Nat.zero_le _),hok]
  refine⟨H.next,_,[],rfl,?_,.inr rfl,Nat.lt_succ_self _,⟨Nat.le_succ _,fun q hq hn'=>?_,fun b hl hn' hb=>?_,fun h=>?_⟩,?_⟩
  ·refine⟨⟨R.ty,Tr.iH top xs (n*es) R.cells,n*es +(k +1)*es,false,R.fz⟩,by rw[j_,if_pos (show H.next=(H.put r bR.dead).next from rfl),h5],h2,by simp;omega,rfl,h5,fun i hi=>?_⟩
   show(Tr.iH top xs (n*es) R.cells).get top i=_
   rw[Tr.cz]
   have hi':i<n*es +(k +1)*es:=by simp at hi;omega
   by_cases hc':n*es≤i∧i<n*es +xs.length
   ·rw[if_pos hc',List.getD_eq_getElem?_getD,List.getElem?_eq_getElem aa]
    simp only[List.append_nil,Option.getD_some]
    rw[List.getElem_append_right aa]
    congr 1;omega
   ·rw[if_neg hc']
    have hin:i<n*es:=by omega
    rw[h6 i (by rw[hlen];omega)]
    simp only[List.append_nil]
    rw[List.getElem_append_left aa,List.getElem_append_left aa]
  ·rw[j_,if_neg (by show q≠H.next;omega),nC,if_neg (fun e=>hn' (by simp[e]))]
  ·show b≤(H.put r bR.dead).low
   rw[jl];have:=hb r (by simp);omega
  ·show(H.put r bR.dead).low≤H.next +1
   rw[jl];omega
  ·show(H.put r bR.dead).low≤r
   rw[jl];omega
section steps
variable{H0 H:ag}{L:List bF}{K:Value→ag→Prop}
theorem SH.bS(hS:SH S H0 H L){e:TypeId}{z:List Value}{es:Nat}{v:Value}(hz:z.length=es)(hv:mq v=true)(hc:(ax v).length=es)(he:es≤16777216)
 (k:∀H1 r,SH S H0 H1 ((r,e,ax v)::L)→K (.slice (some ⟨r,0,none⟩) 1 1) H1):ME (Go.Ae.bS e z es 1 [(0,v)] H) K:=by
 rw[TG hz hv hc he]
 exact k _ _ (hS.grow e _)
end steps
end
section
variable{S:List Nat}
def GB(ty:TypeId)(es:Nat)(v:Value)(cs:List Value)(gb:List bF):Prop:=
 (v=.slice none 0 0∧cs=[]∧gb=[])∨∃r n dK,v=.slice (some ⟨r,0,none⟩) n (bH es)∧cs.length=n*es∧gb=[(r,ty,cs++dK)]
theorem GB.nil(ty:TypeId)(es:Nat):GB ty es (.slice none 0 0) [] []:=.inl ⟨rfl,rfl,rfl⟩
section steps
variable{H0 H:ag}{L:List bF}{K:Value→ag→Prop}{ty:TypeId}{es:Nat}{v:Value}{cs xs:List Value}{gb:List bF}{rx:Nat}
theorem P7{H H':ag}(h:H'.low<H.next):Rh H H'=⟨2,0,0,0,H,H'⟩:=by
 show au (Nat.ble H.next H'.low) _ _=_
 rw[show Nat.ble H.next H'.low=false from by rw[←Bool.not_eq_true];intro g;have:=Nat.le_of_ble_eq_true g;omega];rfl
theorem GB.app(hg:GB ty es v cs gb)(hS:SH S H0 H ((rx,ty,xs)::(gb++L))){m:Nat}(he:0<es)(hx:xs.length=(m +1)*es)(hok:all' aN xs=true)(hm:m +1≤16777216)(hc:cs.length≤16777216){cx:Nat}:
 ∃v' H1 iF,zB ty es v (.slice (some ⟨rx,0,none⟩) (m +1) cx) H=some (v',H1)∧GB ty es v' (cs++xs) iF∧SH S H0 H1 (iF++L)∧mK (gb.map (·.1)) H H1:=by
 have hbx:=hS.get 0 rfl
 have ha:=pJ (k:=m +1) (c:=cx) hbx hx
 have hS1:SH S H0 H (gb++L):=SH.drop (A:=[(rx,ty,xs)]) hS
 rcases hg with⟨rfl,rfl,rfl⟩|⟨r,n,dK,rfl,hn,rfl⟩
 ·refine⟨_,_,[(H.next,ty,xs)],BZ ha hm,.inr ⟨H.next,m +1,[],rfl,hx,by simp⟩,hS1.grow ty xs,Ext.new _ _⟩
 ·have hb:=hS1.get 0 rfl
  have hr:=(hS1.lo _ (List.mem_cons_self ..)).2
  have hnn:n≤16777216:=by
   have:n*1≤n*es:=Nat.mul_le_mul_left n he
   omega
  obtain⟨r',H1,yD,h1,h2,h3,h4,h5,h6⟩:=HV he hb hr hn ha hx hok hm hnn
  refine⟨_,H1,[(r',ty,cs++xs++yD)],h1,.inr ⟨r',n +(m +1),yD,rfl,?_,rfl⟩,?_,h5⟩
  ·rw[List.length_append,hn,hx,←Nat.add_mul]
  ·refine SH.turn (A:=[(r,ty,cs++dK)]) hS1 h5 (fun e he'=>?_) (List.pairwise_singleton _ _)
   rw[List.mem_singleton]at he'
   subst he'
   refine⟨h2,?_,h4⟩
   rcases h3 with h3|h3
   ·exact .inl (by simp[h3])
   ·exact .inr (by show H.next≤r';omega)
theorem GB.add(hg:GB ty es v cs gb)(hS:SH S H0 H ((rx,ty,xs)::(gb++L)))(he:0<es)(hx:xs.length=es)(hok:all' aN xs=true)(hc:cs.length≤16777216){cx:Nat}
 (k:∀v' H1 iF,GB ty es v' (cs++xs) iF→SH S H0 H1 (iF++L)→mK (gb.map (·.1)) H H1→K v' H1):ME (zB ty es v (.slice (some ⟨rx,0,none⟩) 1 cx) H) K:=by
 obtain⟨v',H1,iF,h1,h2,h3,h4⟩:=hg.app (m:=0) (cx:=cx) hS he aa hok aa hc
 rw[h1]
 exact k v' H1 iF h2 h3 h4
theorem SH.tJ(hS:SH S H0 H L):SH S (Go.Ae.hN H0) (Go.Ae.hN H) L:=
 ⟨⟨hS.ext.next,hS.ext.obj,fun b hl hn _=>Nat.le_trans hn hS.ext.next,fun _=>Nat.le_refl _⟩,hS.bk,hS.lo,hS.ne,Nat.le_refl _⟩
theorem GB.fl(hg:GB ty es v cs gb)(hS:SH S H0 H (gb++L)):∃a n c,v=.slice a n c∧cs.length=n*es∧Fl H a n es cs:=by
 rcases hg with⟨rfl,rfl,rfl⟩|⟨r,n,dK,rfl,hn,rfl⟩
 ·exact⟨none,0,0,rfl,by simp,Fl.nil _ _ _⟩
 ·refine⟨_,n,_,rfl,hn,hn,fun i x hi=>⟨r,0,rfl,(hS.lo _ (List.mem_cons_self ..)).2,?_⟩⟩
  rw[Nat.zero_add]
  refine(hS.get 0 rfl).cell ?_
  rw[List.getElem?_append_left (List.getElem?_eq_some_iff.1 hi).1];exact hi
theorem GB.aN(hg:GB ty es v cs gb):all' Go.Ae.aN (ax v)=true∧(ax v).length=1∧ax v=[v]:=by
 rcases hg with⟨rfl,_,_⟩|⟨r,n,dK,rfl,_,_⟩<;>exact⟨rfl,rfl,rfl⟩
end steps
end
section bin
variable{P:Program}{t:TypeId}{ox oy:Operand}{a b:Int}{k:IntKind}
end bin
theorem MJ:∀(a b:List UInt8),O4 a=O4 b→a=b:=by
 intro a
 induction a with
 |nil=>intro b h;cases b with
  |nil=>rfl
  |cons y b=>cases h
 |cons x a ih=>intro b h;cases b with
  |nil=>cases h
  |cons y b=>
   have h1:x.toNat=y.toNat:=(List.cons.inj h).1
   have h2:O4 a=O4 b:=(List.cons.inj h).2
   rw[ih b h2,UInt8.toNat_inj.1 h1]
theorem DT:∀(a b:List Nat),xB a b=true↔a=b:=by
 intro a
 induction a with
 |nil=>intro b;cases b with
  |nil=>exact⟨fun _=>rfl,fun _=>rfl⟩
  |cons y b=>exact⟨(fun h=>by cases h),(fun h=>by cases h)⟩
 |cons x a ih=>intro b;cases b with
  |nil=>exact⟨(fun h=>by cases h),(fun h=>by cases h)⟩
  |cons y b=>
   show au (Nat.beq x y) (xB a b) false=true↔_
   by_cases e:x=y
   ·subst e;rw[Nat.beq_refl,dP,ih];simp
   ·rw[show Nat.beq x y=false from by rw[←Bool.not_eq_true];exact fun g=>e (Nat.eq_of_beq_eq_true g),bL]
    simp[e]
theorem AF(a b:ByteArray):gY a b=decide (a=b):=by
 rw[Bool.eq_iff_iff,decide_eq_true_iff]
 unfold gY
 rw[DT]
 constructor
 ·intro h
  have:=MJ _ _ h
  obtain⟨⟨x⟩⟩:=a
  obtain⟨⟨y⟩⟩:=b
  exact congrArg (fun l=>ByteArray.mk (Array.mk l)) this
 ·intro h;rw[h]
section bin
variable{P:Program}{t:TypeId}{ox oy:Operand}
theorem AJ(a b:ByteArray):bq P .eql t ox oy (.string a) (.string b)=some (.bool (decide (a=b))):=by
 show some (Value.bool (gY a b))=_;rw[AF]
theorem AL(a b:ByteArray):bq P .neq t ox oy (.string a) (.string b)=some (.bool (!decide (a=b))):=by
 show some (Value.bool (!(gY a b)))=_;rw[AF]
end bin
def part(s:ByteArray)(lo hi:Nat):ByteArray:=⟨⟨(s.data.toList.drop lo).take (hi -lo)⟩⟩
theorem iG(s:ByteArray){lo hi:Nat}(h:lo≤hi)(h2:hi≤s.size):(part s lo hi).size=hi -lo:=by
 show((s.data.toList.drop lo).take (hi -lo)).length=_
 have:s.data.toList.length=s.size:=rfl
 simp;omega
theorem iM{s:ByteArray}{lo hi:Nat}(h:lo≤hi)(h2:hi≤s.size):Hq (.string s) (some (vn lo)) (some (vn hi)) none=some (.string (part s lo hi)):=by
 show gd (Nat.ble lo hi&&Nat.ble hi (len s.data.toList)) (some (Value.string ⟨⟨tk (Nat.sub hi lo) (dp lo s.data.toList)⟩⟩))=_
 rw[aJ,Nat.ble_eq_true_of_le h,Nat.ble_eq_true_of_le (show hi≤s.data.toList.length from h2),vB,zZ];rfl
theorem fu{s:ByteArray}{lo:Nat}(h:lo≤s.size):Hq (.string s) (some (vn lo)) none none=some (.string (part s lo s.size)):=by
 show gd (Nat.ble lo (len s.data.toList)&&Nat.ble (len s.data.toList) (len s.data.toList)) (some (Value.string ⟨⟨tk (Nat.sub (len s.data.toList) lo) (dp lo s.data.toList)⟩⟩))=_
 rw[aJ,Nat.ble_eq_true_of_le (show lo≤s.data.toList.length from h),Nat.ble_eq_true_of_le (Nat.le_refl _),vB,zZ];rfl
theorem MK{s:ByteArray}{hi:Nat}(h2:hi≤s.size):Hq (.string s) none (some (vn hi)) none=some (.string (part s 0 hi)):=by
 show gd (Nat.ble 0 hi&&Nat.ble hi (len s.data.toList)) (some (Value.string ⟨⟨tk (Nat.sub hi 0) (dp 0 s.data.toList)⟩⟩))=_
 rw[aJ,Nat.ble_eq_true_of_le (Nat.zero_le _),Nat.ble_eq_true_of_le (show hi≤s.data.toList.length from h2),vB,zZ];rfl
def ZC(k:IntKind)(x:Value):Option Value:=@Option.rec (IntKind×Int) (fun _=>Option Value) (ah (gX x) fun b=>gd false (some (.string b))) (fun a=>some (.int k (aT k a.2))) (gW x)
def YE(x:Value):Option Value:=@Option.rec (IntKind×Int) (fun _=>Option Value) (ah (gX x) fun b=>gd true (some (.string b))) (fun a=>some (.string (Utf8.encode a.2))) (gW x)
theorem dL(k k':IntKind)(a:Int):ZC k (.int k' a)=some (.int k (aT k a)):=rfl
theorem HY(k:IntKind)(a:Int):YE (.int k a)=some (.string (Utf8.encode a)):=rfl
theorem HZ(s:ByteArray):YE (.string s)=some (.string s):=rfl
theorem P8(vs:List Value)(i:Nat):jV (.tuple ⟨vs⟩) i=vs[i]?:=cB vs i
section
variable{S:List Nat}
theorem ai{p:Prop}[Decidable p]{A B:Prop}(h1:p→A)(h2:¬p→B):yu (some (decide p)) A B:=by
 by_cases h:p
 ·rw[decide_eq_true h];exact h1 h
 ·rw[decide_eq_false h];exact h2 h
theorem bz{p:Prop}[Decidable p]{A B:Prop}(h1:¬p→A)(h2:p→B):yu (some (!decide p)) A B:=by
 by_cases h:p
 ·rw[decide_eq_true h];exact h2 h
 ·rw[decide_eq_false h];exact h1 h
theorem aU{b:Bool}{A B:Prop}(h1:b=true→A)(h2:b=false→B):yu (some b) A B:=by
 cases b with
 |true=>exact h1 rfl
 |false=>exact h2 rfl
def gq(k:IntKind)(a b:Int):Int:=k.wrap (BitVec.toNat (BitVec.ofInt k.bits a&&&BitVec.ofInt k.bits b))
def FJ(k:IntKind)(a b:Int):Int:=k.wrap (BitVec.toNat (BitVec.ofInt k.bits a|||BitVec.ofInt k.bits b))
def B5(k:IntKind)(a b:Int):Int:=k.wrap (BitVec.toNat (BitVec.ofInt k.bits a&&&~~~BitVec.ofInt k.bits b))
def iV(k:IntKind)(a b:Int):Int:=k.wrap (a*2^min b.toNat k.bits)
def lI(k:IntKind)(a b:Int):Int:=a.fdiv (2^min b.toNat k.bits)
section bits
variable{P:Program}{t:TypeId}{ox oy:Operand}{a b:Int}{k:IntKind}
theorem qA:bq P .and t ox oy (.int k a) (.int k b)=some (.int k (gq k a b)):=aV rfl rfl
theorem yE:bq P .or t ox oy (.int k a) (.int k b)=some (.int k (FJ k a b)):=aV rfl rfl
theorem tK:bq P .andNot t ox oy (.int k a) (.int k b)=some (.int k (B5 k a b)):=aV rfl rfl
theorem jb(h:0≤b):bq P .shl t ox oy (.int k a) (.int .u64 b)=some (.int k (iV k a b)):=by
 show bD (Op.shift .shl k a .u64 b)=_
 unfold Op.shift
 rw[if_neg aa];rfl
theorem dZ(h:0≤b):bq P .shr t ox oy (.int k a) (.int .u64 b)=some (.int k (lI k a b)):=by
 show bD (Op.shift .shr k a .u64 b)=_
 unfold Op.shift
 rw[if_neg aa];rfl
theorem yF:bq P .shl t ox oy (.int k a) (.int .u64 4)=some (.int k (iV k a 4)):=jb (by decide)
theorem yG:bq P .shl t ox oy (.int k a) (.int .u64 6)=some (.int k (iV k a 6)):=jb (by decide)
theorem vN:bq P .shl t ox oy (.int k a) (.int .u64 12)=some (.int k (iV k a 12)):=jb (by decide)
theorem vO:bq P .shl t ox oy (.int k a) (.int .u64 18)=some (.int k (iV k a 18)):=jb (by decide)
theorem vP:bq P .shl t ox oy (.int k a) (.int .u64 31)=some (.int k (iV k a 31)):=jb (by decide)
theorem yH:bq P .shr t ox oy (.int k a) (.int .u64 4)=some (.int k (lI k a 4)):=dZ (by decide)
theorem yI:bq P .shr t ox oy (.int k a) (.int .u64 6)=some (.int k (lI k a 6)):=dZ (by decide)
theorem vQ:bq P .shr t ox oy (.int k a) (.int .u64 12)=some (.int k (lI k a 12)):=dZ (by decide)
theorem vR:bq P .shr t ox oy (.int k a) (.int .u64 18)=some (.int k (lI k a 18)):=dZ (by decide)
theorem vS:bq P .shr t ox oy (.int k a) (.int .u64 31)=some (.int k (lI k a 31)):=dZ (by decide)
end bits
theorem kD{n k es r o:Nat}{kk:IntKind}(h:k<n):Zy n es (.pointer (some ⟨r,o,none⟩)) (.int kk (k:Int))=some (.pointer (some ⟨r,o +k*es,none⟩)):=by
 show gd (Nat.ble (Nat.succ k) n) (some (Value.pointer (some ⟨r,Nat.add o (Nat.mul k es),none⟩)))=_
 rw[Nat.ble_eq_true_of_le h];rfl
section ar
variable{P:Program}{t:TypeId}{ox oy:Operand}{a b:Int}
theorem vT:bq P .add t ox oy (.int .u8 a) (.int .u8 b)=some (.int .u8 (aT .u8 (a +b))):=aV rfl rfl
theorem tL:bq P .add t ox oy (.int .i32 a) (.int .i32 b)=some (.int .i32 (aT .i32 (a +b))):=aV rfl rfl
theorem vU:bq P .sub t ox oy (.int .u8 a) (.int .u8 b)=some (.int .u8 (aT .u8 (a -b))):=aV rfl rfl
theorem tN:bq P .sub t ox oy (.int .i32 a) (.int .i32 b)=some (.int .i32 (aT .i32 (a -b))):=aV rfl rfl
theorem vV:bq P .mul t ox oy (.int .u8 a) (.int .u8 b)=some (.int .u8 (aT .u8 (a*b))):=aV rfl rfl
theorem tO:bq P .mul t ox oy (.int .i32 a) (.int .i32 b)=some (.int .i32 (aT .i32 (a*b))):=aV rfl rfl
end ar
theorem lJ{t:Nat}{v:Value}{l:List (Nat×Value)}:Az ((t,v)::l) t=v:=by
 show Go.Ae.look ((t,v)::l) t=v
 rw[qx,if_pos rfl]
theorem nX{d t:Nat}{v:Value}{l:List (Nat×Value)}(h:(d==t)=false):Az ((d,v)::l) t=Az l t:=by
 show Go.Ae.look ((d,v)::l) t=Go.Ae.look l t
 rw[qx,if_neg (by simpa using h)]
section quiet
variable{H0 H:ag}{L:List bF}{K:Value→ag→Prop}
theorem SH.uZ(hS:SH S H0 H L)(i:Nat){r o:Nat}{ty:TypeId}{cs:List Value}{v:Value}(hi:L[i]?=some (r,ty,cs))(hv:cs[o]?=some v)(k:K v (Go.Ae.hN H)):ME (mU none (.pointer (some ⟨r,o,none⟩)) (Go.Ae.hN H)) K:=
 ME.ld (H:=Go.Ae.hN H) ((hS.get i hi).cell hv) k
theorem SH.YF(hS:SH S H0 H L)(i:Nat){r o n:Nat}{ty:TypeId}{cs:List Value}(hi:L[i]?=some (r,ty,cs))(hn:o +n≤cs.length)(k:K (.agg ⟨(cs.drop o).take n⟩) (Go.Ae.hN H)):ME (mU (some n) (.pointer (some ⟨r,o,none⟩)) (Go.Ae.hN H)) K:=
 ME.BX (H:=Go.Ae.hN H) ((hS.get i hi).read hn) k
end quiet
section mem
variable{P:Program}{X:Xt}
def P9(a:Code)(R:Nat→Nat→St→Prop)(n:Nat)(K:Out→Prop):Out→Prop:=fun o=>
 @Out.rec (fun _=>Prop) False (fun s=>K (.norm s)) (fun i s=>K (.exit i s)) (fun l s=>@Option.rec Code (fun _=>Prop) (K (.goto l s)) (fun _=>∃m,m<n∧R m l s) (findLabel a l)) (fun s=>K (.ret s)) o
theorem H_{a:Code}{R:Nat→Nat→St→Prop}{n:Nat}{K:Out→Prop}{s:St}:P9 a R n K (.ret s)=K (.ret s):=rfl
theorem yJ{a rest:Code}{R:Nat→Nat→St→Prop}{n l:Nat}{K:Out→Prop}{s:St}(h:findLabel a l=some rest):P9 a R n K (.goto l s)=∃m,m<n∧R m l s:=by
 show(@Option.rec Code (fun _=>Prop) _ _ (findLabel a l))=_
 rw[h]
def ScP(P:Program)(X:Xt)(a:Code)(o:Out)(K:Out→Prop):Prop:=∃k o1 o2,dI (lv P X k).cx k a o=o1∧o1≠.fail∧nK o1 o2∧K o2
theorem ML{a:Code}{K:Out→Prop}{R:Nat→Nat→St→Prop}(h:∀n l s rest,R n l s→findLabel a l=some rest→bC P X rest s (P9 a R n K)):
 ∀n o o',nK o o'→o≠.fail→P9 a R n K o'→ScP P X a o K:=by
 intro n
 induction n using Nat.strongRecOn with
 |_ n ih=>
  intro o o' he hne hg
  cases he with
  |fail=>exact absurd rfl hne
  |norm he=>exact⟨1,.norm _,_,rfl,(fun h=>nomatch h),.norm he,hg⟩
  |exit i he=>exact⟨1,.exit i _,_,rfl,(fun h=>nomatch h),.exit i he,hg⟩
  |ret he=>exact⟨1,.ret _,_,rfl,(fun h=>nomatch h),.ret he,hg⟩
  |goto l he=>
   rename_i s s'
   cases hf:findLabel a l with
   |none=>
    have hg':K (.goto l s'):=by
     have:(@Option.rec Code (fun _=>Prop) (K (.goto l s')) (fun _=>∃m,m<n∧R m l s') (findLabel a l)):=hg
     rw[hf]at this;exact this
    refine⟨1,.goto l s,_,?_,by simp,.goto l he,hg'⟩
    show(@Option.rec Code (fun _=>Out) (.goto l s) _ (findLabel a l))=_
    rw[hf]
   |some rest=>
    rw[yJ hf]at hg
    obtain⟨m,hm,hR⟩:=hg
    obtain⟨o1,o1',h1,h2,h3⟩:=bC.alike he (h m l s' rest hR hf)
    obtain⟨n1,k1,h1⟩:=h1
    obtain⟨k2,o3,o4,h4,h5,h6,h7⟩:=ih m hm o1 o1' h2 n1 h3
    refine⟨max k1 k2 +1,o3,o4,?_,h5,h6,h7⟩
    show(@Option.rec Code (fun _=>Out) (.goto l s) (fun rest=>dI (lv P X (max k1 k2 +1)).cx (max k1 k2) a ((lv P X (max k1 k2 +1)).cx rest s)) (findLabel a l))=o3
    rw[hf]
    show dI (lv P X (max k1 k2 +1)).cx (max k1 k2) a (sZ P X (max k1 k2) rest s)=o3
    rw[nV h1 n1 (Nat.le_max_left _ _),←h4]
    have hx:BQ (lv P X k2).cx (lv P X (max k1 k2 +1)).cx:=(kM k2 _ aa).2
    refine pz hx a k2 _ (Nat.le_max_right _ _) o1 ?_
    rw[h4];exact h5
theorem bC.scope{a:Code}{K:Out→Prop}{s:St}(R:Nat→Nat→St→Prop)(h:∀n l s rest,R n l s→findLabel a l=some rest→bC P X rest s (P9 a R n K))(n:Nat)(h0:bC P X a s (P9 a R n K)):bC P X (.scope a) s K:=by
 obtain⟨o,o',h1,h2,h3⟩:=h0
 obtain⟨n1,k1,h1⟩:=h1
 obtain⟨k2,o3,o4,h4,h5,h6,h7⟩:=ML h n o o' h2 n1 h3
 refine⟨o3,o4,⟨h5,max k1 k2,?_⟩,h6,h7⟩
 show dI (lv P X (max k1 k2)).cx (max k1 k2) a (sZ P X (max k1 k2) a s)=o3
 rw[nV h1 n1 (Nat.le_max_left _ _),←h4]
 refine pz (kM k2 _ (Nat.le_max_right _ _)).2 a k2 _ (Nat.le_max_right _ _) o ?_
 rw[h4];exact h5
end mem
end
theorem P_{es r o n c:Nat}{z:Int}(h0:0≤z)(h:z<n):DF es (.slice (some ⟨r,o,none⟩) n c) (vi z)=some (.pointer (some ⟨r,o +z.toNat*es,none⟩)):=by
 obtain⟨k,rfl⟩:∃k:Nat,z=k:=⟨z.toNat,aa⟩
 exact nW aa
section bin
variable{P:Program}{t:TypeId}{ox oy:Operand}{a b:Int}
theorem yK(ha:0≤a)(hb:0<b)(h:a≤9223372036854775807):bq P .quo t ox oy (vi a) (vi b)=some (vi (a/b)):=aV rfl (by
 show bD (Op.intDiv .quo .i64 a b)=_
 unfold Op.intDiv
 rw[if_neg aa]
 show some (Value.int .i64 (IntKind.i64.wrap (a.tdiv b)))=_
 have h1:a.tdiv b=a/b:=Int.tdiv_eq_ediv_of_nonneg ha
 have h2:0≤a/b:=Int.ediv_nonneg ha aa
 have h3:a/b≤a:=Int.ediv_le_self b ha
 rw[h1]
 have:IntKind.i64.wrap (a/b)=a/b:=IntWalk.i64_in _ aa
 rw[this])
theorem PU.quo{K:Value→Prop}(ha:0≤a)(hb:0<b)(h:a≤9223372036854775807)(k:∀q:Int,0≤q→b*q≤a→a<b*q +b→K (vi q)):PU (bq P .quo t ox oy (vi a) (vi b)) K:=by
 rw[yK ha hb h]
 have h1:=Int.mul_ediv_add_emod a b
 have h2:=Int.emod_nonneg a (show b≠0 by omega)
 have h3:=Int.emod_lt_of_pos a hb
 exact k (a/b) (Int.ediv_nonneg ha aa) aa aa
end bin
theorem SH.MM{H0 H:ag}{L:List bF}{K:Value→ag→Prop}(hS:SH [] H0 H L)(i:Nat){r o n:Nat}{ty:TypeId}{cs:List Value}{v:Value}(hi:L[i]?=some (r,ty,cs))(hl:(ax v).length=n)(hn:o +n≤cs.length)(hk:all' aN (ax v)=true)
 (k:∀H1,SH [] H0 (hM H H1) (L.set i (r,ty,splice cs o (ax v)))→K undef H1):ME (EH n (.pointer (some ⟨r,o,none⟩)) v (Go.Ae.hN H)) K:=by
 obtain⟨H1,h1,h2,h3⟩:=hS.tJ.tC (vs:=ax v) (o:=o) i hi aa hk
 show ME (gd (Nat.beq (len (ax v)) n) (ah ((Go.Ae.hN H).write r o (ax v)) fun H'=>some (undef,H'))) K
 rw[aJ,hl,Nat.beq_refl,h1]
 refine k H1 ⟨hS.ext.later h3.draw (fun q hq=>.inr ?_),fun e he=>(h2.bk e he).mJ rfl,h2.lo,h2.ne,h3.draw.wf hS.wf⟩
 rw[List.mem_singleton]at hq
 subst hq
 exact hS.YC (List.mem_of_getElem? hi)
def El(cs:List Value)(es k:Nat):List Value:=(cs.drop (k*es)).take es
theorem mM(cs:List Value)(es k i:Nat):(El cs es k)[i]?=if i<es then cs[k*es +i]? else none:=by
 unfold El
 rw[List.getElem?_take]
 split
 ·rw[List.getElem?_drop]
 ·rfl
theorem AM{cs vs:List Value}{es k:Nat}(hv:vs.length=es)(h:k*es +es≤cs.length)(k':Nat):El (splice cs (k*es) vs) es k'=if k'=k then vs else El cs es k':=by
 apply List.ext_getElem?
 intro i
 rw[mM]
 by_cases hi:i<es
 ·rw[if_pos hi,dw aa]
  by_cases hk:k'=k
  ·subst hk
   rw[if_pos aa,if_pos rfl,Nat.add_sub_cancel_left]
  ·rw[if_neg hk,mM,if_pos hi,if_neg]
   rintro⟨h1,h2⟩
   rcases Nat.lt_or_ge k' k with h3|h3
   ·have:(k' +1)*es≤k*es:=Nat.mul_le_mul_right es h3
    rw[Nat.add_mul]at this
    omega
   ·have:(k +1)*es≤k'*es:=Nat.mul_le_mul_right es aa
    rw[Nat.add_mul]at this
    omega
 ·rw[if_neg hi]
  split
  ·symm;exact List.getElem?_eq_none aa
  ·rw[mM,if_neg hi]
def SB(P:List Value→Prop)(r:Nat)(ty:TypeId)(es n:Nat)(H0 H:ag)(L:List bF):Prop:=∃cs,n*es≤cs.length∧(∀k,k<n→P (El cs es k))∧SH [] H0 H ((r,ty,cs)::L)
section steps
variable{P:List Value→Prop}{r:Nat}{ty:TypeId}{es n:Nat}{H0 H:ag}{L:List bF}{K:Value→ag→Prop}
theorem SB.wf(h:SB P r ty es n H0 H L):Wf H:=by obtain⟨_,_,_,hS⟩:=h;exact hS.wf
theorem SB.ext(h:SB P r ty es n H0 H L):Ext H0 H:=by obtain⟨_,_,_,hS⟩:=h;exact hS.ext
theorem SB.call{H':ag}(h:SB P r ty es n H0 H L)(hx:Ext H H'):SB P r ty es n H0 H' L:=by obtain⟨cs,h1,h2,hS⟩:=h;exact⟨cs,h1,h2,hS.call hx⟩
theorem SB.new(h:SB P r ty es n H0 H L){t2:TypeId}{z:List Value}(k:∀H1 q,SB P r ty es n H0 H1 ((q,t2,z)::L)→K (.pointer (some ⟨q,0,none⟩)) H1):ME (fE t2 z H) K:=by
 obtain⟨cs,h1,h2,hS⟩:=h
 exact hS.fE fun H1 q hS=>k H1 q ⟨cs,h1,h2,hS.perm (List.Perm.swap _ _ _)⟩
theorem SB.ld(h:SB P r ty es n H0 H L)(i:Nat){q o:Nat}{t2:TypeId}{cs:List Value}{v:Value}(hi:L[i]?=some (q,t2,cs))(hv:cs[o]?=some v)(k:K v H):ME (mU none (.pointer (some ⟨q,o,none⟩)) H) K:=by
 obtain⟨cs,h1,h2,hS⟩:=h
 exact hS.ld (i +1) (by rw[List.getElem?_cons_succ];exact hi) hv k
theorem SB.uZ(h:SB P r ty es n H0 H L)(i:Nat){q o:Nat}{t2:TypeId}{cs:List Value}{v:Value}(hi:L[i]?=some (q,t2,cs))(hv:cs[o]?=some v)(k:K v (Go.Ae.hN H)):ME (mU none (.pointer (some ⟨q,o,none⟩)) (Go.Ae.hN H)) K:=by
 obtain⟨cs,h1,h2,hS⟩:=h
 exact hS.uZ (i +1) (by rw[List.getElem?_cons_succ];exact hi) hv k
theorem SB.st(h:SB P r ty es n H0 H L)(i:Nat){q o m:Nat}{t2:TypeId}{cs:List Value}{v:Value}(hi:L[i]?=some (q,t2,cs))(hl:(ax v).length=m)(hn:o +m≤cs.length)(hk:all' aN (ax v)=true)
 (k:∀H1,SB P r ty es n H0 H1 (L.set i (q,t2,splice cs o (ax v)))→K undef H1):ME (EH m (.pointer (some ⟨q,o,none⟩)) v H) K:=by
 obtain⟨ds,h1,h2,hS⟩:=h
 exact hS.st (i +1) (by rw[List.getElem?_cons_succ];exact hi) hl hn hk fun H1 hS=>k H1 ⟨ds,h1,h2,hS⟩
theorem SB.row(h:SB P r ty es n H0 H L){k:Nat}(hk:k<n):∃cs,SH [] H0 H ((r,ty,cs)::L)∧P (El cs es k)∧k*es +es≤cs.length:=by
 obtain⟨cs,h1,h2,hS⟩:=h
 refine⟨cs,hS,h2 k hk,?_⟩
 have:(k +1)*es≤n*es:=Nat.mul_le_mul_right es hk
 rw[Nat.add_mul]at this
 omega
theorem SB.e1(h:SB P r ty 1 n H0 H L){z:Int}(h0:0≤z)(hz:z<n)(k:∀v,P [v]→K v H):ME (mU none (.pointer (some ⟨r,z.toNat*1,none⟩)) H) K:=by
 obtain⟨cs,hS,hp,hl⟩:=h.row (k:=z.toNat) aa
 have hlt:z.toNat<cs.length:=by omega
 refine hS.ld 0 rfl (v:=cs[z.toNat]) (by rw[Nat.mul_one];exact List.getElem?_eq_getElem hlt) (k _ ?_)
 have:El cs 1 z.toNat=[cs[z.toNat]]:=by
  unfold El
  rw[Nat.mul_one,List.drop_eq_getElem_cons hlt];rfl
 rw[←this];exact hp
theorem SB.tJ(h:SB P r ty es n H0 H L):SB P r ty es n (Go.Ae.hN H0) (Go.Ae.hN H) L:=by obtain⟨cs,h1,h2,hS⟩:=h;exact⟨cs,h1,h2,hS.tJ⟩
theorem SB.e1Q(h:SB P r ty 1 n H0 H L){z:Int}(h0:0≤z)(hz:z<n)(k:∀v,P [v]→K v (Go.Ae.hN H)):ME (mU none (.pointer (some ⟨r,z.toNat*1,none⟩)) (Go.Ae.hN H)) K:=h.tJ.e1 h0 hz k
theorem SB.em(h:SB P r ty es n H0 H L){z:Int}(h0:0≤z)(hz:z<n)(k:∀l,P l→K (.agg ⟨l⟩) H):ME (mU (some es) (.pointer (some ⟨r,z.toNat*es,none⟩)) H) K:=by
 obtain⟨cs,hS,hp,hl⟩:=h.row (k:=z.toNat) aa
 exact hS.BX 0 rfl aa (k _ hp)
theorem SB.emQ(h:SB P r ty es n H0 H L){z:Int}(h0:0≤z)(hz:z<n)(k:∀l,P l→K (.agg ⟨l⟩) (Go.Ae.hN H)):ME (mU (some es) (.pointer (some ⟨r,z.toNat*es,none⟩)) (Go.Ae.hN H)) K:=h.tJ.em h0 hz k
theorem SB.w(h:SB P r ty es n H0 H L){z:Int}(h0:0≤z)(hz:z<n){v:Value}(hp:P (ax v))(hl:(ax v).length=es)(hk:all' aN (ax v)=true)(k:∀H1,SB P r ty es n H0 H1 L→K undef H1):
 ME (EH es (.pointer (some ⟨r,z.toNat*es,none⟩)) v H) K:=by
 obtain⟨cs,h1,h2,hS⟩:=h
 have hle:z.toNat*es +es≤cs.length:=by
  have:(z.toNat +1)*es≤n*es:=Nat.mul_le_mul_right es aa
  rw[Nat.add_mul]at this
  omega
 refine hS.st 0 rfl hl aa hk fun H1 hS=>k H1 ⟨splice cs (z.toNat*es) (ax v),?_,fun j hj=>?_,?_⟩
 ·rw[bn aa];exact h1
 ·rw[AM hl hle]
  split
  ·exact hp
  ·exact h2 j hj
 ·exact hS
theorem SB.wQ(h:SB P r ty es n H0 H L){z:Int}(h0:0≤z)(hz:z<n){v:Value}(hp:P (ax v))(hl:(ax v).length=es)(hk:all' aN (ax v)=true)(k:∀H1,SB P r ty es n H0 (hM H H1) L→K undef H1):
 ME (EH es (.pointer (some ⟨r,z.toNat*es,none⟩)) v (Go.Ae.hN H)) K:=by
 obtain⟨cs,h1,h2,hS⟩:=h
 have hle:z.toNat*es +es≤cs.length:=by
  have:(z.toNat +1)*es≤n*es:=Nat.mul_le_mul_right es aa
  rw[Nat.add_mul]at this
  omega
 refine hS.MM 0 rfl hl aa hk fun H1 hS=>k H1 ⟨splice cs (z.toNat*es) (ax v),?_,fun j hj=>?_,?_⟩
 ·rw[bn aa];exact h1
 ·rw[AM hl hle]
  split
  ·exact hp
  ·exact h2 j hj
 ·exact hS
def VH(Q:Int→Prop)(l:List Value):Prop:=∃z:Int,l=[vi z]∧Q z
theorem SB.i1{Q:Int→Prop}(h:SB (VH Q) r ty 1 n H0 H L){z:Int}(h0:0≤z)(hz:z<n)(k:∀x,Q x→K (vi x) H):ME (mU none (.pointer (some ⟨r,z.toNat*1,none⟩)) H) K:=
 h.e1 h0 hz fun v ⟨x,hx,hq⟩=>by cases hx;exact k x hq
theorem SB.ZD{Q:Int→Prop}(h:SB (VH Q) r ty 1 n H0 H L){z:Int}(h0:0≤z)(hz:z<n)(k:∀x,Q x→K (vi x) (Go.Ae.hN H)):ME (mU none (.pointer (some ⟨r,z.toNat*1,none⟩)) (Go.Ae.hN H)) K:=
 h.e1Q h0 hz fun v ⟨x,hx,hq⟩=>by cases hx;exact k x hq
end steps
theorem bC.l6{P:Program}{X:Xt}{c:Code}{s:St}{K:Out→Prop}(h:∀K',K'=K→bC P X c s K'):bC P X c s K:=h K rfl
theorem tQ{K:Out→Prop}{s:St}{i j:Nat}(h:(j==i)=false):nL i K (.exit j s)=K (.exit j s):=DC (by simpa using h)
theorem lH.mono{P:Program}{X:Xt}{q:Option (FuncId×List Value×List Value)}{args:List Value}{H:ag}{K K':Value→ag→Prop}(h:lH P X q args H K)(hk:∀v H',K v H'→K' v H'):lH P X q args H K':=by
 cases q with
 |none=>exact h
 |some q=>exact aj.mono h hk
def YG(k:IntKind)(a b:Int):Int:=k.wrap (BitVec.toNat (BitVec.ofInt k.bits a^^^BitVec.ofInt k.bits b))
section bin
variable{P:Program}{t:TypeId}{ox oy:Operand}{a b:Int}{k k2:IntKind}
theorem u6:bq P .xor t ox oy (.int k a) (.int k b)=some (.int k (YG k a b)):=aV rfl rfl
theorem u7(h:0≤b):bq P .shl t ox oy (.int k a) (.int k2 b)=some (.int k (iV k a b)):=by
 show bD (Op.shift .shl k a k2 b)=_
 unfold Op.shift
 rw[if_neg aa];rfl
theorem FK(h:k.wrap (a -b)=a -b):bq P .sub t ox oy (.int k a) (.int k b)=some (.int k (a -b)):=aV rfl (by
 show some (Value.int k (aT k (a -b)))=_
 rw[sK,h])
end bin
theorem eG{k:IntKind}{n:Int}(h:k.wrap n=n):aT k n=n:=by rw[sK,h]
theorem u64_in{n:Int}(h:0≤n∧n<18446744073709551616):IntKind.u64.wrap n=n:=by
 show n %18446744073709551616=n
 omega
theorem u8_in{n:Int}(h:0≤n∧n<256):IntKind.u8.wrap n=n:=by
 show n %256=n
 omega
theorem Qa{a b:Int}(h:0≤b∧b<18446744073709551616):0≤gq .u64 a b∧gq .u64 a b≤b:=by
 unfold gq
 have h1:(BitVec.ofInt IntKind.u64.bits a&&&BitVec.ofInt IntKind.u64.bits b).toNat≤(BitVec.ofInt IntKind.u64.bits b).toNat:=by
  rw[BitVec.toNat_and];exact Nat.and_le_right
 have h2:((BitVec.ofInt IntKind.u64.bits b).toNat:Int)=b:=by
  show((BitVec.ofInt 64 b).toNat:Int)=b
  rw[BitVec.toNat_ofInt]
  omega
 rw[u64_in aa]
 omega
theorem MN{l:Nat}(h:l≤32):iV .u64 1 (l:Int)=((2^l:Nat):Int):=by
 unfold iV
 have h1:min ((l:Int).toNat) IntKind.u64.bits=l:=by
  show min ((l:Int).toNat) 64=l
  omega
 rw[h1]
 have h2:(2:Nat)^l≤2^32:=Nat.pow_le_pow_right aa h
 have h3:(1:Int)*2^l=((2^l:Nat):Int):=by
  rw[Int.one_mul];simp
 rw[h3]
 have h4:(2:Nat)^l≤4294967296:=h2
 generalize(2:Nat)^l=m at h4
 exact u64_in aa
theorem Ia{k:IntKind}{a:Int}{n:Nat}(h:n≤32)(h2:32≤k.bits):lI k a (n:Int)=a.fdiv ((2^n:Nat):Int):=by
 unfold lI
 have:min ((n:Int).toNat) k.bits=n:=by omega
 rw[this]
 simp
def TH(s:ByteArray):Bool:=(List.range 256).all fun k=>match s.data.toList[k]? with
 |none=>false
 |some t=>Nat.ble t.toNat 8&&Nat.ble (2^t.toNat) (2*k +(if k=0 then 1 else 0))
theorem PU.TH{s:ByteArray}{y:Int}{K:Value→Prop}(ht:Go.Ae.TH s=true)(h0:0≤y)(h1:y<256)(h:∀t:Nat,t≤8→(1≤y→((2^t:Nat):Int)≤2*y)→K (.int .u8 (t:Int))):PU (BV (.string s) (.int .u8 y)) K:=by
 obtain⟨k,rfl⟩:∃k:Nat,y=k:=⟨y.toNat,aa⟩
 have hk:k<256:=by omega
 have:=List.all_eq_true.1 ht k (List.mem_range.2 hk)
 show PU (ah (nth s.data.toList k) fun b=>some (Value.int .u8 (.ofNat b.toNat))) K
 rw[cB]
 revert this
 cases s.data.toList[k]? with
 |none=>intro h;cases h
 |some t=>
  intro h2
  simp only[Bool.and_eq_true]at h2
  have h3:=Nat.le_of_ble_eq_true h2.1
  have h4:=Nat.le_of_ble_eq_true h2.2
  exact h t.toNat h3 fun h5=>by
   rw[if_neg aa]at h4
   omega
section steps
variable{P:List Value→Prop}{r:Nat}{ty:TypeId}{es n:Nat}{H0 H:ag}{L:List bF}{K:Value→ag→Prop}
theorem SB.MH{H':ag}(h:SB P r ty es n H0 H L)(hx:Ext (Go.Ae.hN H) H'):SB P r ty es n H0 (hM H H') L:=by obtain⟨cs,h1,h2,hS⟩:=h;exact⟨cs,h1,h2,hS.MH hx⟩
theorem SB.MM(h:SB P r ty es n H0 H L)(i:Nat){q o m:Nat}{t2:TypeId}{cs:List Value}{v:Value}(hi:L[i]?=some (q,t2,cs))(hl:(ax v).length=m)(hn:o +m≤cs.length)(hk:all' aN (ax v)=true)
 (k:∀H1,SB P r ty es n H0 (hM H H1) (L.set i (q,t2,splice cs o (ax v)))→K undef H1):ME (EH m (.pointer (some ⟨q,o,none⟩)) v (Go.Ae.hN H)) K:=by
 obtain⟨ds,h1,h2,hS⟩:=h
 exact hS.MM (i +1) (by rw[List.getElem?_cons_succ];exact hi) hl hn hk fun H1 hS=>k H1 ⟨ds,h1,h2,hS⟩
theorem SB.drop{b:bF}(h:SB P r ty es n H0 H (b::L)):SB P r ty es n H0 H L:=by
 obtain⟨cs,g1,g2,hS⟩:=h
 exact⟨cs,g1,g2,SH.drop (A:=[_]) (hS.perm (List.Perm.swap _ _ _))⟩
end steps
def CJ(l:List Value):Prop:=∃a b:Int,l=[.int .i32 a,.int .i32 b]
theorem SB.fQ{r:Nat}{ty:TypeId}{n:Nat}{H0 H:ag}{L:List bF}{K:Value→ag→Prop}(h:SB CJ r ty 2 n H0 H L){z:Int}(h0:0≤z)(hz:z<n)(k:∀a b,K (.agg ⟨[.int .i32 a,.int .i32 b]⟩) (Go.Ae.hN H)):ME (mU (some 2) (.pointer (some ⟨r,z.toNat*2,none⟩)) (Go.Ae.hN H)) K:=
 h.emQ h0 hz fun l hl=>by obtain⟨a,b,rfl⟩:=hl;exact k a b
theorem SB.r1{r:Nat}{ty:TypeId}{n:Nat}{H0 H:ag}{L:List bF}{K:Value→ag→Prop}(h:SB CJ r ty 2 n H0 H L){z:Int}(h0:0≤z)(hz:z<n)(k:∀a b,K (.agg ⟨[.int .i32 a,.int .i32 b]⟩) H):ME (mU (some 2) (.pointer (some ⟨r,z.toNat*2,none⟩)) H) K:=
 h.em h0 hz fun l hl=>by obtain⟨a,b,rfl⟩:=hl;exact k a b
theorem SB.gD{r:Nat}{ty:TypeId}{n:Nat}{H0 H:ag}{L:List bF}{K:Value→ag→Prop}(h:SB CJ r ty 2 n H0 H L){z:Int}(h0:0≤z)(hz:z<n){a b:Int}(k:∀H1,SB CJ r ty 2 n H0 (hM H H1) L→K undef H1):ME (EH 2 (.pointer (some ⟨r,z.toNat*2,none⟩)) (.agg ⟨[.int .i32 a,.int .i32 b]⟩) (Go.Ae.hN H)) K:=
 h.wQ h0 hz ⟨a,b,rfl⟩ rfl rfl k
theorem SB.rw'{r:Nat}{ty:TypeId}{n:Nat}{H0 H:ag}{L:List bF}{K:Value→ag→Prop}(h:SB CJ r ty 2 n H0 H L){z:Int}(h0:0≤z)(hz:z<n){a b:Int}(k:∀H1,SB CJ r ty 2 n H0 H1 L→K undef H1):ME (EH 2 (.pointer (some ⟨r,z.toNat*2,none⟩)) (.agg ⟨[.int .i32 a,.int .i32 b]⟩) H) K:=
 h.w h0 hz ⟨a,b,rfl⟩ rfl rfl k
def mO:List Nat:=List.replicate 128 240++(List.replicate 66 241++(List.replicate 30 2++(19::(List.replicate 12 3++([35,3,3,52,4,4,4,68]++List.replicate 11 241)))))
def gN:List Nat:=[128,191,160,191,128,159,144,191,128,143,0,0,0,0,0,0,0,0,0,0,0,0,0,0,0,0,0,0,0,0,0,0]
def FL(H:ag):Prop:=3≤H.next∧∃t1 t2,H.obj 1=dO t1 .u8 mO∧H.obj 2=dO t2 .u8 gN
theorem FL.ex{H H':ag}(h:FL H)(hx:Ext H H'):FL H':=by
 obtain⟨h0,t1,t2,h1,h2⟩:=h
 exact⟨Nat.le_trans h0 hx.next,t1,t2,(hx.obj 1 aa (by simp)).trans h1,(hx.obj 2 aa (by simp)).trans h2⟩
open Classical in
theorem yL{ty:TypeId}{k:IntKind}{l:List Nat}{H:ag}{r i z:Nat}(h:H.obj r=dO ty k l)(hz:l[i]?=some z):H.cell r i=some (.int k (z:Int)):=by
 have hi:i<l.length:=(List.getElem?_eq_some_iff.1 hz).1
 unfold ag.cell
 rw[h]
 show gd (Nat.ble (Nat.succ i) (len l)) (some ((Tr.iH top (mp (fun n=>Value.int k (Int.ofNat n)) l) 0 .nil).get top i))=_
 rw[aJ,Nat.ble_eq_true_of_le hi,lT,Tr.cz,qL,if_pos (by simp;omega),List.getD_eq_getElem?_getD,Nat.sub_zero,List.getElem?_map,hz];rfl
theorem JU{ty:TypeId}{k:IntKind}{l:List Nat}{H:ag}{r i x y:Nat}(h:H.obj r=dO ty k l)(hx:l[i]?=some x)(hy:l[i +1]?=some y):H.read r i 2=some [.int k (x:Int),.int k (y:Int)]:=by
 have hi:i +1<l.length:=(List.getElem?_eq_some_iff.1 hy).1
 show(ah (jy (H.obj r)) fun w=>gd (Nat.ble (Nat.add i 2) w.n) (some (Tr.vz top w.cells i 2)))=_
 rw[h]
 show gd (Nat.ble (i +2) (len l)) (some (Tr.vz top (Tr.iH top (mp (fun n=>Value.int k (Int.ofNat n)) l) 0 .nil) i 2))=_
 rw[aJ,Nat.ble_eq_true_of_le hi,lT,Tr.mV,Tr.mV,Tr.xx,Tr.cz,Tr.cz,qL,if_pos (by simp;omega),if_pos (by simp;omega),List.getD_eq_getElem?_getD,List.getD_eq_getElem?_getD,Nat.sub_zero,Nat.sub_zero,List.getElem?_map,List.getElem?_map,hx,hy];rfl
section
variable{S:List Nat}
theorem JV(t:Tr Value):∀(n k:Nat)(cs:List Value),cs.length=n→(∀i(h:i<cs.length),t.get top (k +i)=cs[i])→Tr.vz top t k n=cs:=by
 intro n
 induction n with
 |zero=>intro k cs h _;rw[Tr.xx];exact(List.length_eq_zero_iff.1 h).symm
 |succ n ih=>
  intro k cs h hc
  cases cs with
  |nil=>cases h
  |cons x cs=>
   rw[Tr.mV,ih (k +1) cs (by simpa using h) (fun i hi=>by
    have:=hc (i +1) (by simpa using hi)
    rw[show k +1 +i=k +(i +1) by omega,this];rfl)]
   have:=hc 0 (by simp)
   rw[Nat.add_zero]at this
   rw[this];rfl
theorem mP{H:ag}{r o:Nat}{cs:List Value}(h:∀i x,cs[i]?=some x→H.cell r (o +i)=some x):H.read r o cs.length=some cs:=by
 cases cs with
 |nil=>rfl
 |cons x cs=>
  have hrow:∃R,H.obj r=.row R:=by
   have:=h 0 x rfl
   unfold ag.cell at this
   obtain⟨R,h1,_⟩:=ae this
   exact⟨R,iN h1⟩
  obtain⟨R,hR⟩:=hrow
  have hcell:∀i(hi:i<(x::cs).length),o +i<R.n∧R.cells.get top (o +i)=(x::cs)[i]:=by
   intro i hi
   have h1:=h i _ (List.getElem?_eq_getElem hi)
   unfold ag.cell at h1
   rw[hR]at h1
   replace h1:gd (Nat.ble (Nat.succ (o +i)) R.n) (some (R.cells.get top (o +i)))=some _:=h1
   obtain⟨h2,h3⟩:=aB h1
   exact⟨Nat.le_of_ble_eq_true h2,Option.some.inj h3⟩
  show(ah (jy (H.obj r)) fun w=>gd (Nat.ble (Nat.add o (cs.length +1)) w.n) (some (Tr.vz top w.cells o (cs.length +1))))=_
  rw[hR]
  show gd (Nat.ble (o +(cs.length +1)) R.n) (some (Tr.vz top R.cells o (cs.length +1)))=_
  have hl:=(hcell cs.length (by simp)).1
  rw[Nat.ble_eq_true_of_le aa,lT,JV R.cells (cs.length +1) o (x::cs) rfl fun i hi=>(hcell i hi).2]
theorem Fl.read{H:ag}{a:Option Addr}{n es k:Nat}{cs:List Value}(h:Fl H a n es cs)(he:0<es)(hk:k<n)(c:Nat):
 ∃r o,DF es (.slice a n c) (vn k)=some (.pointer (some ⟨r,o,none⟩))∧r<H.next∧H.read r o es=some (El cs es k)∧(El cs es k).length=es∧∃o0,a=some ⟨r,o0,none⟩∧o=o0 +k*es:=by
 obtain⟨r,o,h1,h2,h3,h4⟩:=h.idx (c:=c) he hk
 have hl:(El cs es k).length=es:=by
  unfold El
  have:(k +1)*es≤n*es:=Nat.mul_le_mul_right es hk
  rw[Nat.add_mul]at this
  have:=h.1
  simp;omega
 refine⟨r,o,h1,h2,?_,hl,h4⟩
 have:=mP (H:=H) (r:=r) (o:=o) (cs:=El cs es k) fun i x hx=>by
  rw[mM]at hx
  split at hx
  ·next hi=>exact h3 i x hi hx
  ·cases hx
 rwa [hl]at this
theorem DU{H:ag}{a:Option Addr}{n es c:Nat}{cs:List Value}(h:Fl H a n es cs)(he:0<es):appended H es (.slice a n c)=some (n,cs):=by
 rcases Nat.eq_zero_or_pos n with rfl|hn
 ·have hc:cs=[]:=List.length_eq_zero_iff.1 (by have:=h.1;omega)
  subst hc
  cases a with
  |none=>rfl
  |some a=>
   show(ah (H.read a.block a.off (Nat.mul 0 es)) fun l=>some (0,l))=_
   rw[show Nat.mul 0 es=0 from Nat.zero_mul es];rfl
 ·have hl:0<cs.length:=by rw[h.1];exact Nat.mul_pos hn he
  obtain⟨r,o,rfl,_,_⟩:=h.2 0 _ (List.getElem?_eq_getElem hl)
  show(ah (H.read r o (Nat.mul n es)) fun l=>some (n,l))=_
  have h1:=mP (H:=H) (r:=r) (o:=o) (cs:=cs) fun i x hx=>by
   obtain⟨r',o',e,_,h5⟩:=h.2 i x hx
   cases e;exact h5
  rw[h.1]at h1
  rw[show Nat.mul n es=n*es from rfl,h1];rfl
theorem DV{H:ag}{e:TypeId}{es n:Nat}{v x:Value}{xs:List Value}(hv:v=.slice none 0 0∨∃a,v=.slice (some a) 0 0)(ha:appended H es x=some (n,xs))(hn:n≤16777216):
 zB e es v x H=if n=0 then some (v,H)else some (.slice (some ⟨H.next,0,none⟩) n (bH es),H.new (rowOf e xs)):=by
 cases n with
 |zero=>
  rw[if_pos rfl]
  rcases hv with rfl|⟨a,rfl⟩
  ·unfold zB
   rw[ha]
   show gd (Nat.ble 0 16777216) (some (Value.slice none 0 0,H))=_
   rw[Nat.ble_eq_true_of_le aa];rfl
  ·unfold zB
   rw[ha]
   show gd (Nat.ble 0 16777216) (some (Value.slice (some a) 0 0,H))=_
   rw[Nat.ble_eq_true_of_le aa];rfl
 |succ k=>
  rw[if_neg aa]
  rcases hv with rfl|⟨a,rfl⟩
  ·exact BZ ha hn
  ·unfold zB
   rw[ha]
   show gd (Nat.ble (k +1) 16777216) (gd (Nat.ble 0 16777216) (au (aP 0) (jX (e,es) a 0 0 (k +1) xs H) (gd (Nat.beq 0 (bH es)) (ic (e,es) a 0 0 (k +1) xs H))))=_
   rw[Nat.ble_eq_true_of_le hn,Nat.ble_eq_true_of_le aa,show aP 0=true from rfl]
   show jX (e,es) a 0 0 (k +1) xs H=_
   unfold jX
   have e1:Nat.ble (Nat.add 0 (k +1)) 0=false:=by
    rw[←Bool.not_eq_true];intro h;have:=Nat.le_of_ble_eq_true h;have e:Nat.add 0 (k +1)=k +1:=Nat.zero_add _;omega
   have e2:Nat.add 0 (k +1)=k +1:=Nat.zero_add _
   have e3:Nat.mul 0 es=0:=Nat.zero_mul es
   rw[e1,bL]
   show(ah (H.read a.block a.off (Nat.mul 0 es)) fun old=>some (mD e es (Nat.add 0 (k +1)) (app old xs) H))=_
   rw[e3,e2]
   rfl
section steps
variable{H0 H:ag}{L:List bF}{K:Value→ag→Prop}{ty:TypeId}{es n:Nat}{v x:Value}{cs xs:List Value}{gb:List bF}
end steps
theorem FM{r o n es w:Nat}(h:w≤n):UO es (.slice (some ⟨r,o,none⟩) n (bH es)) none (some (vn w)) none=some (.slice (some ⟨r,o,none⟩) w (bH es)):=by
 show au (aP (bH es)) _ (gd (Nat.beq (bH es) (bH es)) (gd (Nat.ble 0 w&&Nat.ble w n) (some (Value.slice (some ⟨r,Nat.add o (Nat.mul 0 es),none⟩) (Nat.sub w 0) (bH es)))))=_
 rw[uY,bL,Nat.beq_refl,Nat.ble_eq_true_of_le (Nat.zero_le _),Nat.ble_eq_true_of_le h,show Nat.mul 0 es=0 from Nat.zero_mul es];rfl
theorem MO{r o n es w:Nat}(h:w≤n):UO es (.slice (some ⟨r,o,none⟩) n (bH es)) (some (vn w)) none none=some (.slice (some ⟨r,o +w*es,none⟩) (n -w) (bH es)):=by
 show au (aP (bH es)) _ (gd (Nat.beq (bH es) (bH es)) (gd (Nat.ble w n&&Nat.ble n n) (some (Value.slice (some ⟨r,Nat.add o (Nat.mul w es),none⟩) (Nat.sub n w) (bH es)))))=_
 rw[uY,bL,Nat.beq_refl,Nat.ble_eq_true_of_le (Nat.le_refl _),Nat.ble_eq_true_of_le h];rfl
theorem Ib{es:Nat}:UO es (.slice none 0 0) none (some (vn 0)) none=some (.slice none 0 0):=rfl
theorem GB.cut{H0 H:ag}{L:List bF}{ty:TypeId}{es w:Nat}{v:Value}{cs:List Value}{gb:List bF}(hg:GB ty es v cs gb)(he:0<es)(hw:w*es≤cs.length){K:Value→Prop}(k:∀v',GB ty es v' (cs.take (w*es)) gb→K v'):PU (UO es v none (some (vn w)) none) K:=by
 rcases hg with⟨rfl,rfl,rfl⟩|⟨r,n,dK,rfl,hn,rfl⟩
 ·have:w=0:=by
   rcases Nat.eq_zero_or_pos w with h|h
   ·exact h
   ·have:=Nat.mul_pos h he
    have h2:w*es≤0:=hw
    omega
  subst this
  rw[Ib]
  exact k _ (.inl ⟨rfl,by simp,rfl⟩)
 ·have hwn:w≤n:=by rw[hn]at hw;exact Nat.le_of_mul_le_mul_right hw he
  rw[FM hwn]
  refine k _ (.inr ⟨r,w,cs.drop (w*es)++dK,rfl,?_,?_⟩)
  ·simp;omega
  ·rw[←List.append_assoc,List.take_append_drop]
section bin
variable{P:Program}{t:TypeId}{ox:Operand}
theorem DW{a:Option Addr}{n c:Nat}(ht:uD P t=2):bq P .eql t ox (.const (.slice none 0 0)) (.slice a n c) (.slice none 0 0)=some (.bool (aD a)):=by
 show sF .eql (z_ (uD P t) (.slice none 0 0) (.slice a n c))=_
 rw[ht];rfl
end bin
theorem YH{e:TypeId}{z:List Value}{es:Nat}{H:ag}(he:es≤16777216):bS e z es 0 [] H=some (.slice (some ⟨H.next,0,none⟩) 0 0,H.new (rowOf e [])):=by
 unfold bS
 rw[show Nat.mul 0 es=0 from Nat.zero_mul es,Nat.ble_eq_true_of_le (Nat.zero_le _)];rfl
end
def MP(w:World)(o:bR)(r:Nat):Prop:=o=.dead∨∃(R:Row)(cs:Array Value)(fr:Nat×Nat),o=.row R∧w.heap[r]?=some (.cells cs R.ty fr)∧R.bX=true∧R.n≤cs.size∧∀i,i<R.n→∃v,cs[i]?=some v∧(R.cells.get top i=top∨(dD v=true∧R.cells.get top i=v)∨∃t x,v=.iface t x∧R.cells.get top i=.iface t top)
theorem VI{w:World}{H:ag}(h:H.next≤w.heap.size)(ht:∀r,r<H.next→MP w (H.obj r) r):RH (rM w H) H w:=by
 refine⟨?_,?_,?_⟩
 ·intro r l hr
  unfold rM at hr
  split at hr
  ·next h1=>exact h1
  ·cases hr
 ·intro r l hr
  unfold rM at hr
  split at hr
  ·next h1=>
   cases hr
   refine⟨w.heap[r]'aa,Array.getElem?_eq_getElem (i:=r) aa,?_⟩
   rcases ht r h1 with h2|⟨R,cs,fr,h2,h3,hse,hle,h4⟩
   ·rw[h2];trivial
   ·have hcn:pE w r=cs.size:=by unfold pE;rw[h3]
    have hget:w.heap[r]'aa=.cells cs R.ty fr:=by
     have:=Array.getElem?_eq_getElem (xs:=w.heap) (i:=r) aa
     rw[h3]at this;injection this with this;exact this.symm
    rw[hget,h2]
    refine⟨⟨rfl,rfl⟩,rfl,hcn.symm,Nat.zero_le _,?_,?_,?_⟩
    ·show 0 +(R.n -0)≤pE w r
     rw[hcn];omega
    ·rw[hse];intro h;cases h
    ·intro i _ hi
     obtain⟨v,h5,h6⟩:=h4 i hi
     refine⟨v,by simpa using h5,?_⟩
     rcases h6 with h6|⟨h6,h7⟩|⟨t,x,rfl,h7⟩
     ·rw[h6];exact .top _
     ·rw[h7];exact .sc _ h6
     ·rw[h7];exact .iface t top x (.top x)
  ·cases hr
 ·intro r r' l l' hr hr' _ _ hc
  unfold rM at hr hr'
  split at hr
  ·split at hr'
   ·cases hr;cases hr';exact hc
   ·cases hr'
  ·cases hr
section mem
variable{P:Program}
theorem JW{X:Xt}{H:ag}{n:Nat}(hn:n≤H.next)(hmo:P.follows .mixedOrders=true)(hP:l5 P n)(hX:Ky P X)(hO:yg P X n){g:FuncId}{fn:Func}(hg:P.funcs[g]?=some fn)(hb:fn.body.isSome=true)
 {args:List Value}{b:Bool}(h:aj P X g args H fun v H'=>v=.bool b∧H.next≤H'.low){w:World}(hw:H.next≤w.heap.size)
 (ht:∀r,r<H.next→MP w (H.obj r) r){args':List Value}(ha:bP (rM w H) args args'):
 Calls P g ⟨args'⟩ w fun e w'=>e=.returned (.bool b)∧Go.RowKit.Below w.heap.size w w':=by
 obtain⟨v,H',⟨k,h⟩,rfl,hlow⟩:=h
 refine(levels hmo hP hX hO k g args _ _ H' fn h hg hb (rM w H) w args' (VI hw ht) (fun g hg=>G_ w H g aa) ha).mono ?_
 rintro e w' ⟨m',v',rfl,h1,h2,h3⟩
 rw[h1.of_bool]
 refine⟨rfl,⟨h3.os,h3.tape,h3.output,h3.size,fun c hc=>h3.keep c hc ?_⟩⟩
 intro r l hr _
 unfold rM at hr
 split at hr
 ·next h4=>exact Nat.lt_of_lt_of_le h4 hlow
 ·cases hr
def zN(v:Value):Value:=if dD v=true then v else match v with
 |.iface t _=>.iface t top
 |_=>top
def TI:Obj→bR
 |.cells cs ty _=>.row ⟨ty,Tr.iH top (cs.toList.map zN) 0 .nil,cs.size,true,0⟩
 |_=>.dead
def Qb(w:World)(T:Nat→Option bR)(r:Nat):bR:=(T r).getD (match w.heap[r]? with|some o=>TI o|none=>.dead)
def zO(w:World)(T:Nat→Option bR):ag:=⟨Tr.iH .dead ((List.range w.heap.size).map (Qb w T)) 0 .nil,w.heap.size,w.heap.size⟩
theorem DX(w:World)(T:Nat→Option bR){r:Nat}(h:r<w.heap.size):(zO w T).obj r=Qb w T r:=by
 show(Tr.iH .dead ((List.range w.heap.size).map (Qb w T)) 0 .nil).get .dead r=_
 rw[Tr.cz,if_pos (by simp;omega),List.getD_eq_getElem?_getD]
 simp[h]
theorem Qc{w:World}{T:Nat→Option bR}(hT:∀r o,T r=some o→MP w o r):∀r,r<(zO w T).next→MP w ((zO w T).obj r) r:=by
 intro r hr
 replace hr:r<w.heap.size:=hr
 rw[DX w T hr]
 unfold Qb
 cases hc:T r with
 |some o=>exact hT r o hc
 |none=>
  rw[Array.getElem?_eq_getElem hr]
  show MP w (TI _) r
  cases ho:w.heap[r]with
  |cells cs ty fr=>
   refine .inr ⟨_,cs,fr,rfl,by rw[Array.getElem?_eq_getElem hr,ho],rfl,Nat.le_refl _,fun i hi=>?_⟩
   replace hi:i<cs.size:=hi
   refine⟨cs[i],Array.getElem?_eq_getElem hi,?_⟩
   show(Tr.iH top (cs.toList.map zN) 0 .nil).get top i=top∨_
   have e:(Tr.iH top (cs.toList.map zN) 0 .nil).get top i=zN cs[i]:=by
    rw[Tr.cz,if_pos (by simp;omega),List.getD_eq_getElem?_getD]
    simp[hi]
   show(Tr.iH top (cs.toList.map zN) 0 .nil).get top i=top∨(dD cs[i]=true∧(Tr.iH top (cs.toList.map zN) 0 .nil).get top i=cs[i])∨∃t x,cs[i]=.iface t x∧(Tr.iH top (cs.toList.map zN) 0 .nil).get top i=.iface t top
   rw[e]
   unfold zN
   split
   ·next h=>exact .inr (.inl ⟨h,rfl⟩)
   ·split
    ·next t x e=>exact .inr (.inr ⟨t,x,e,rfl⟩)
    ·exact .inl rfl
  |_=>exact .inl rfl
end mem
section
variable{S:List Nat}
def GK(ty:TypeId)(es:Nat)(v:Value)(cs:List Value)(gb:List bF):Prop:=
 GB ty es v cs gb∨∃r n m dK,v=.slice (some ⟨r,0,none⟩) n m∧m≤16777216∧cs.length=n*es∧(cs++dK).length=m*es∧gb=[(r,ty,cs++dK)]
theorem pK{m:Nat}(h:m≤16777216):aP m=true:=Nat.ble_eq_true_of_le aa
section steps
variable{H0 H:ag}{L:List bF}{K:Value→ag→Prop}{ty:TypeId}{es:Nat}{v:Value}{cs xs:List Value}{gb:List bF}{rx:Nat}
theorem GK.app(hg:GK ty es v cs gb)(hS:SH S H0 H ((rx,ty,xs)::(gb++L))){m:Nat}(he:0<es)(hx:xs.length=(m +1)*es)(hok:all' aN xs=true)(hm:m +1≤16777216)(hc:cs.length≤16777216){cx:Nat}:
 ∃v' H1 iF,zB ty es v (.slice (some ⟨rx,0,none⟩) (m +1) cx) H=some (v',H1)∧GK ty es v' (cs++xs) iF∧SH S H0 H1 (iF++L)∧mK (gb.map (·.1)) H H1:=by
 rcases hg with hg|⟨r,n,mm,dK,rfl,hmm,hn,hj,rfl⟩
 ·obtain⟨v',H1,iF,h1,h2,h3,h4⟩:=hg.app (cx:=cx) hS he hx hok hm hc
  exact⟨v',H1,iF,h1,.inl h2,h3,h4⟩
 have hbx:=hS.get 0 rfl
 have ha:=pJ (k:=m +1) (c:=cx) hbx hx
 have hS1:SH S H0 H ([(r,ty,cs++dK)]++L):=SH.drop (A:=[(rx,ty,xs)]) hS
 have hb:=hS1.get 0 rfl
 have hnn:n≤16777216:=by
  have:n*1≤n*es:=Nat.mul_le_mul_left n he
  omega
 have hap:zB ty es (.slice (some ⟨r,0,none⟩) n mm) (.slice (some ⟨rx,0,none⟩) (m +1) cx) H=jX (ty,es) ⟨r,0,none⟩ n mm (m +1) xs H:=by
  unfold zB
  rw[ha]
  show gd (Nat.ble (m +1) 16777216) (gd (Nat.ble n 16777216) (au (aP mm) (jX (ty,es) ⟨r,0,none⟩ n mm (m +1) xs H) _))=_
  rw[Nat.ble_eq_true_of_le hm,Nat.ble_eq_true_of_le hnn,pK hmm];rfl
 rw[hap]
 unfold jX
 show∃v' H1 iF,au (Nat.ble (n +(m +1)) mm) (ah (H.write r (Nat.add 0 (n*es)) xs) fun H'=>some (Value.slice (some ⟨r,0,none⟩) (n +(m +1)) mm,H')) (ah (H.read r 0 (n*es)) fun old=>some (mD ty es (n +(m +1)) (Go.Ae.app old xs) H))=some (v',H1)∧_
 rw[show Nat.add 0 (n*es)=n*es from Nat.zero_add _]
 have hmul:(n +(m +1))*es=n*es +(m +1)*es:=Nat.add_mul ..
 by_cases hfit:n +(m +1)≤mm
 ·rw[Nat.ble_eq_true_of_le hfit,dP]
  have hle:(n +(m +1))*es≤mm*es:=Nat.mul_le_mul_right es hfit
  obtain⟨H1,h1,h2,h3⟩:=hS1.tC (vs:=xs) (o:=n*es) 0 rfl aa hok
  rw[h1]
  have hs:splice (cs++dK) (n*es) xs=cs++xs++dK.drop xs.length:=by
   unfold splice
   rw[←hn,List.take_left,List.drop_append,List.drop_of_length_le aa,List.nil_append,Nat.add_sub_cancel_left]
  rw[hs]at h2
  refine⟨_,H1,[(r,ty,cs++xs++dK.drop xs.length)],rfl,.inr ⟨r,n +(m +1),mm,dK.drop xs.length,rfl,hmm,?_,?_,rfl⟩,h2,h3⟩
  ·rw[List.length_append,hn,hx,hmul]
  ·rw[←hs,bn aa];exact hj
 ·rw[show Nat.ble (n +(m +1)) mm=false from by rw[←Bool.not_eq_true];intro h;exact hfit (Nat.le_of_ble_eq_true h),bL]
  have hrd:H.read r 0 (n*es)=some cs:=by
   rw[hb.read (by simp;omega)]
   simp only[List.drop_zero]
   rw[←hn,List.take_left]
  rw[hrd]
  show∃v' H1 iF,some (mD ty es (n +(m +1)) (Go.Ae.app cs xs) H)=some (v',H1)∧_
  rw[fV]
  refine⟨_,_,[(H.next,ty,cs++xs)],rfl,.inl (.inr ⟨H.next,n +(m +1),[],rfl,?_,by simp⟩),?_,(Ext.new _ _).weaken (fun _ h=>nomatch h)⟩
  ·rw[List.length_append,hn,hx,hmul]
  ·exact(SH.drop (A:=[(r,ty,cs++dK)]) hS1).grow ty (cs++xs)
theorem GK.fl(hg:GK ty es v cs gb)(hS:SH S H0 H (gb++L)):∃a n c,v=.slice a n c∧cs.length=n*es∧Fl H a n es cs:=by
 rcases hg with hg|⟨r,n,m,dK,rfl,hmm,hn,hj,rfl⟩
 ·exact hg.fl hS
 ·refine⟨_,n,_,rfl,hn,hn,fun i x hi=>⟨r,0,rfl,(hS.lo _ (List.mem_cons_self ..)).2,?_⟩⟩
  rw[Nat.zero_add]
  refine(hS.get 0 rfl).cell ?_
  rw[List.getElem?_append_left (List.getElem?_eq_some_iff.1 hi).1];exact hi
end steps
end
theorem PP:type_of%(J @tQ<|J @fJ<|J @Hl<|J @Ho<|J @Hy<|J @Hz<|J @DR<|J @yA<|J @DJ<|J @yB<|J @fP<|J @DK<|J @DL<|J @AJ<|J @AL<|J @DN<|J @yC<|J @DD<|J @Ay<|J @iA<|J @min2<|J @max2<|J @dL<|J @HY<|J @HZ<|J @yw<|J @Dx<|J @Hf<|J @Dy<|J @Hg<|J @Dz<|J @yx<|J @DI<|J @Hr<|J @lJ<|J @nX<|J @qA<|J @yE<|J @tK<|J @yF<|J @yG<|J @vN<|J @vO<|J @vP<|J @yH<|J @yI<|J @vQ<|J @vR<|J @vS<|J @vT<|J @tL<|J @vU<|J @tN<|J @vV<|J @tO<|J @P8<|J (@List.getElem?_cons_zero Value)<|J (@List.getElem?_cons_succ Value)<|J @Nat.zero_add<|J @Nat.add_zero<|J (@List.set_cons_zero bF) (@List.set_cons_succ bF)):=J @tQ<|J @fJ<|J @Hl<|J @Ho<|J @Hy<|J @Hz<|J @DR<|J @yA<|J @DJ<|J @yB<|J @fP<|J @DK<|J @DL<|J @AJ<|J @AL<|J @DN<|J @yC<|J @DD<|J @Ay<|J @iA<|J @min2<|J @max2<|J @dL<|J @HY<|J @HZ<|J @yw<|J @Dx<|J @Hf<|J @Dy<|J @Hg<|J @Dz<|J @yx<|J @DI<|J @Hr<|J @lJ<|J @nX<|J @qA<|J @yE<|J @tK<|J @yF<|J @yG<|J @vN<|J @vO<|J @vP<|J @yH<|J @yI<|J @vQ<|J @vR<|J @vS<|J @vT<|J @tL<|J @vU<|J @tN<|J @vV<|J @tO<|J @P8<|J (@List.getElem?_cons_zero Value)<|J (@List.getElem?_cons_succ Value)<|J @Nat.zero_add<|J @Nat.add_zero<|J (@List.set_cons_zero bF) (@List.set_cons_succ bF)
class zP (L:List bF) (r:Nat) (ty:outParam TypeId) (cs:outParam (List Value)):Prop where
 at':∃i:Nat,L[i]?=some ((r,ty,cs):bF)
instance zP.there{r:Nat}{ty:TypeId}{cs:List Value}{b:bF}{L:List bF}[h:zP L r ty cs]:zP (b::L) r ty cs:=⟨let⟨i,hi⟩:=h.at';⟨i +1,hi⟩⟩
instance zP.here{r:Nat}{ty:TypeId}{cs:List Value}{L:List bF}:zP ((r,ty,cs)::L) r ty cs:=⟨⟨0,rfl⟩⟩
class FN (L:List bF) (r:Nat) (F:List Value→List Value) (ty:outParam TypeId) (cs:outParam (List Value)) (L':outParam (List bF)):Prop where
 at':∃i:Nat,L[i]?=some ((r,ty,cs):bF)∧L'=L.set i (r,ty,F cs)
instance FN.there{r:Nat}{F:List Value→List Value}{ty:TypeId}{cs:List Value}{b:bF}{L L':List bF}[h:FN L r F ty cs L']:FN (b::L) r F ty cs (b::L'):=⟨let⟨i,hi,e⟩:=h.at';⟨i +1,hi,by rw[e];rfl⟩⟩
instance FN.here{r:Nat}{F:List Value→List Value}{ty:TypeId}{cs:List Value}{L:List bF}:FN ((r,ty,cs)::L) r F ty cs ((r,ty,F cs)::L):=⟨⟨0,rfl,rfl⟩⟩
section steps
variable{S:List Nat}{H0 H:ag}{L L':List bF}{K:Value→ag→Prop}{r o n:Nat}{ty:TypeId}{cs:List Value}{v:Value}
theorem SH.FO(hS:SH S H0 H L)[hb:zP L r ty cs](k:K v H)(hv:cs[o]?=some v:=by rfl):ME (mU none (.pointer (some ⟨r,o,none⟩)) H) K:=let⟨i,hi⟩:=hb.at';hS.ld i hi hv k
theorem SH.iW(hS:SH S H0 H L)[hb:zP L r ty cs](k:K (.agg ⟨(cs.drop o).take n⟩) H)(hn:o +n≤cs.length:=by exact Nat.le_of_ble_eq_true rfl):ME (mU (some n) (.pointer (some ⟨r,o,none⟩)) H) K:=let⟨i,hi⟩:=hb.at';hS.BX i hi hn k
theorem SH.TJ(hS:SH S H0 H L)[hb:zP L r ty cs](k:K v (Go.Ae.hN H))(hv:cs[o]?=some v:=by rfl):ME (mU none (.pointer (some ⟨r,o,none⟩)) (Go.Ae.hN H)) K:=let⟨i,hi⟩:=hb.at';hS.uZ i hi hv k
theorem SH.VJ(hS:SH S H0 H L)[hb:zP L r ty cs](k:K (.agg ⟨(cs.drop o).take n⟩) (Go.Ae.hN H))(hn:o +n≤cs.length:=by exact Nat.le_of_ble_eq_true rfl):ME (mU (some n) (.pointer (some ⟨r,o,none⟩)) (Go.Ae.hN H)) K:=let⟨i,hi⟩:=hb.at';hS.YF i hi hn k
theorem SH.qR(hS:SH S H0 H L)[hb:FN L r (fun cs=>splice cs o (ax v)) ty cs L'](k:∀H1,SH S H0 H1 L'→K undef H1)(hl:(ax v).length=n:=by rfl)(hn:o +n≤cs.length:=by exact Nat.le_of_ble_eq_true rfl)(hk:all' aN (ax v)=true:=by rfl):ME (EH n (.pointer (some ⟨r,o,none⟩)) v H) K:=by
 obtain⟨i,hi,e⟩:=hb.at'
 subst e
 exact hS.st i hi hl hn hk k
end steps
section agg
variable{q:Option Value}{K:Value→Prop}{a b c d e f g h i:Value}
theorem PU.b1(hq:q=some (.agg ⟨[a]⟩))(k:K (.agg ⟨[a]⟩)):PU q K:=.of hq k
theorem PU.b2(hq:q=some (.agg ⟨[a,b]⟩))(k:K (.agg ⟨[a,b]⟩)):PU q K:=.of hq k
theorem PU.b3(hq:q=some (.agg ⟨[a,b,c]⟩))(k:K (.agg ⟨[a,b,c]⟩)):PU q K:=.of hq k
theorem PU.b4(hq:q=some (.agg ⟨[a,b,c,d]⟩))(k:K (.agg ⟨[a,b,c,d]⟩)):PU q K:=.of hq k
theorem PU.b5(hq:q=some (.agg ⟨[a,b,c,d,e]⟩))(k:K (.agg ⟨[a,b,c,d,e]⟩)):PU q K:=.of hq k
end agg
def FP(H:ag)(r:Nat)(ty:TypeId):Prop:=∃R,H.obj r=.row R∧R.ty=ty
theorem FP.one{H:ag}{r:Nat}{ty ty':TypeId}(h:FP H r ty)(h':FP H r ty'):ty=ty':=by
 obtain⟨R,h1,h2⟩:=h
 obtain⟨R',h3,h4⟩:=h'
 rw[h1]at h3;cases h3
 rw[←h2,←h4]
theorem Bk.XQ{H:ag}{r:Nat}{ty:TypeId}{cs:List Value}(h:Bk H r ty cs):FP H r ty:=by
 obtain⟨R,h1,h2,_⟩:=h
 exact⟨R,h1,h2⟩
theorem FP.mJ{H H':ag}{r:Nat}{ty:TypeId}(h:FP H r ty)(e:H'.obj r=H.obj r):FP H' r ty:=by
 obtain⟨R,h1,h2⟩:=h
 exact⟨R,e.trans h1,h2⟩
def tT(F:Nat→Prop)(ty:TypeId)(H:ag)(a:Option Addr)(n es:Nat)(cs:List Value):Prop:=Fl H a n es cs∧∀r o,a=some ⟨r,o,none⟩→0<n→F r∧r<H.next∧FP H r ty
theorem tT.nil(F:Nat→Prop)(ty:TypeId)(H:ag)(a:Option Addr)(es:Nat):tT F ty H a 0 es []:=⟨Fl.nil _ _ _,fun _ _ _ h=>absurd h aa⟩
theorem tT.stay{S:List Nat}{F:Nat→Prop}{es n:Nat}{ty:TypeId}{a:Option Addr}{H H':ag}{cs:List Value}(h:tT F ty H a n es cs)(hx:mK S H H')(hS:∀q∈S,¬F q∨¬FP H q ty):tT F ty H' a n es cs:=by
 obtain⟨h1,h2⟩:=h
 have key:∀r o,a=some ⟨r,o,none⟩→0<n→r∉S:=fun r o e hn hr=>by
  obtain⟨h3,_,h4⟩:=h2 r o e hn
  rcases hS r hr with h5|h5
  ·exact h5 h3
  ·exact h5 h4
 rcases Nat.eq_zero_or_pos n with rfl|hn
 ·have:cs=[]:=List.length_eq_zero_iff.1 (by have:=h1.1;omega)
  subst this;exact tT.nil _ _ _ _ _
 ·refine⟨h1.ext hx fun r o e=>key r o e hn,fun r o e _=>?_⟩
  obtain⟨h3,h4,h5⟩:=h2 r o e hn
  exact⟨h3,Nat.lt_of_lt_of_le h4 hx.next,h5.mJ (hx.obj r h4 (key r o e hn))⟩
theorem tT.ex{F:Nat→Prop}{es n:Nat}{ty:TypeId}{a:Option Addr}{H H':ag}{cs:List Value}(h:tT F ty H a n es cs)(hx:Ext H H'):tT F ty H' a n es cs:=h.stay hx (fun q h=>nomatch h)
theorem tT.wk{F F':Nat→Prop}{es n:Nat}{ty:TypeId}{a:Option Addr}{H:ag}{cs:List Value}(h:tT F ty H a n es cs)(hb:∀r,F r→F' r):tT F' ty H a n es cs:=⟨h.1,fun r o e hn=>⟨hb _ (h.2 r o e hn).1,(h.2 r o e hn).2⟩⟩
theorem tT.le{b b' es n:Nat}{ty:TypeId}{a:Option Addr}{H:ag}{cs:List Value}(h:tT (b≤·) ty H a n es cs)(hb:b'≤b):tT (b'≤·) ty H a n es cs:=h.wk fun _ h=>Nat.le_trans hb h
theorem SH.VK{S:List Nat}{H0 H:ag}{L:List bF}(hS:SH S H0 H L){ty:TypeId}(h:L.all (fun e=>!(e.2.1==ty))=true):∀q∈L.map (·.1),¬FP H q ty:=fun q hq ht=>by
 obtain⟨e,he,rfl⟩:=List.mem_map.1 hq
 have h1:=(hS.bk e he).XQ.one ht
 have h2:=List.all_eq_true.1 h e he
 simp[h1]at h2
theorem GB.ZE{S:List Nat}{H0 H:ag}{L:List bF}{F:Nat→Prop}{ty:TypeId}{es:Nat}{v:Value}{cs:List Value}{gb:List bF}(hg:GB ty es v cs gb)(hS:SH S H0 H (gb++L))(hF:∀e∈gb,F e.1):∃a n c,v=.slice a n c∧cs.length=n*es∧tT F ty H a n es cs:=by
 rcases hg with⟨rfl,rfl,rfl⟩|⟨r,n,dK,rfl,hn,rfl⟩
 ·exact⟨none,0,0,rfl,by simp,tT.nil _ _ _ _ _⟩
 ·refine⟨_,n,_,rfl,hn,⟨hn,fun i x hi=>⟨r,0,rfl,(hS.lo _ (List.mem_cons_self ..)).2,?_⟩⟩,fun r' o e _=>?_⟩
  ·rw[Nat.zero_add]
   refine(hS.get 0 rfl).cell ?_
   rw[List.getElem?_append_left (List.getElem?_eq_some_iff.1 hi).1];exact hi
  ·cases e
   exact⟨hF _ (List.mem_cons_self ..),(hS.lo _ (List.mem_cons_self ..)).2,(hS.get 0 rfl).XQ⟩
theorem GB.flT{H0 H:ag}{L:List bF}{ty:TypeId}{es:Nat}{v:Value}{cs:List Value}{gb:List bF}(hg:GB ty es v cs gb)(hS:SH [] H0 H (gb++L)):∃a n c,v=.slice a n c∧cs.length=n*es∧tT (H0.next≤·) ty H a n es cs:=
 hg.ZE hS fun e he=>hS.YC (List.mem_append_left _ he)
theorem GB.all{ty ty':TypeId}{es:Nat}{v:Value}{cs:List Value}{gb:List bF}(hg:GB ty es v cs gb)(h:(ty==ty')=false):gb.all (fun e=>!(e.2.1==ty'))=true:=by
 rcases hg with⟨_,_,rfl⟩|⟨r,n,dK,_,_,rfl⟩
 ·rfl
 ·simp at h;simp[h]
section steps
variable{S:List Nat}{H0 H:ag}{L L':List bF}{K:Value→ag→Prop}{r o n:Nat}{ty:TypeId}{cs:List Value}{v:Value}
theorem SH.VL(hS:SH S H0 H L)[hb:FN L r (fun cs=>splice cs o (ax v)) ty cs L'](k:∀H1,SH S H0 (hM H H1) L'→K undef H1)(hl:(ax v).length=n:=by rfl)(hn:o +n≤cs.length:=by exact Nat.le_of_ble_eq_true rfl)(hk:all' aN (ax v)=true:=by rfl):ME (EH n (.pointer (some ⟨r,o,none⟩)) v (Go.Ae.hN H)) K:=by
 obtain⟨i,hi,e⟩:=hb.at'
 subst e
 obtain⟨H1,h1,h2,hx⟩:=(SH.tJ hS).tC (vs:=ax v) (o:=o) i hi aa hk
 show ME (gd (Nat.beq (len (ax v)) n) (ah ((Go.Ae.hN H).write r o (ax v)) fun H'=>some (undef,H'))) K
 rw[aJ,hl,Nat.beq_refl,h1]
 refine k H1 ?_
 have hm:hM H H1=hM H H1:=rfl
 exact⟨mK.later hS.ext hx.draw (fun q hq=>by
  simp at hq;subst hq
  exact(hS.lo _ (List.mem_of_getElem? hi)).1),h2.bk,fun e he=>⟨(h2.lo e he).1,(h2.lo e he).2⟩,h2.ne,hx.draw.wf hS.wf⟩
end steps
theorem SH.TK{S:List Nat}{H0 H:ag}{L:List bF}{K:Value→ag→Prop}{ty:TypeId}{es n:Nat}{v:Value}{xs:List Value}(hS:SH S H0 H L)(he:0<es)(hv:v=.slice none 0 0∨∃a,v=.slice (some a) 0 0){a:Option Addr}{c:Nat}(hx:Fl H a n es xs)(hn:n≤16777216)
 (k:∀a' c' H1 L',tT (H.next≤·) ty H1 a' n es xs→SH S H0 H1 (L'++L)→K (.slice a' n c') H1):ME (zB ty es v (.slice a n c) H) K:=by
 rw[DV hv (DU hx he) hn]
 split
 ·next h0=>
  subst h0
  have hc:xs=[]:=List.length_eq_zero_iff.1 (by have:=hx.1;omega)
  subst hc
  rcases hv with rfl|⟨a,rfl⟩
  ·exact k none 0 H [] (tT.nil _ _ _ _ _) hS
  ·exact k (some a) 0 H [] (tT.nil _ _ _ _ _) hS
 ·next h0=>
  have hb:=Bk.new H ty xs
  exact k _ _ _ [(H.next,ty,xs)] ⟨hb.fl (Nat.lt_succ_self _) hx.1,fun r o e _=>by cases e;exact⟨Nat.le_refl _,Nat.lt_succ_self _,hb.XQ⟩⟩ (hS.grow ty xs)
theorem SH.own{S:List Nat}{H0 H:ag}{M L:List bF}(hS:SH S H0 H (M++L)):SH (M.map (·.1)) H H M:=(hS.sub (List.sublist_append_left M L)).base
theorem SH.frame{S:List Nat}{H0 H H':ag}{M M' L:List bF}(hS:SH S H0 H (M++L))(h:SH (M.map (·.1)) H H' M'):SH S H0 H' (M'++L):=
 hS.turn h.ext (fun e he=>⟨h.bk e he,h.lo e he⟩) h.ne
theorem Ic(x:bF)(L:List bF):(x::(L++[])).Perm (L++[x]):=by rw[List.append_nil];exact List.perm_append_comm (l₁:=[x])
theorem VM(x y z:bF)(L:List bF):(x::y::z::(L++[])).Perm (L++[x,y,z]):=by rw[List.append_nil];exact List.perm_append_comm (l₁:=[x,y,z])
theorem MQ{ops:Array Oper}{cls:List Cl}{K:Prop}(h:noTwo cls=true)(k:K):dH ops cls=true∧K:=⟨aK h,k⟩
theorem tV{m:Mp}{H:ag}{w:World}(rh:RH m H w){n r:Nat}(gl:Gl n m)(hr:r<n){ty:TypeId}{k:IntKind}{l:List Nat}(h:H.obj r=dO ty k l):TabAt w (dO ty k l) r:=by
 obtain⟨lc,h1,h2,h3,h4⟩:=gl r hr
 obtain⟨o,h5,h6⟩:=rh.ok r lc h1
 rw[h2]at h5
 rw[h]at h6
 cases o with
 |cells cs ty' fr=>
  obtain⟨⟨e1,_⟩,e2,e3,e4,e5,e6,e7⟩:=h6
  have e1:ty'=ty:=e1
  subst e1
  refine .inr ⟨ty',k,l,cs,fr,rfl,h5,fun i z hz=>?_⟩
  have hi:i<l.length:=(List.getElem?_eq_some_iff.1 hz).1
  have hi':i<(len l):=by rw[aJ];exact hi
  obtain⟨v,g1,g2⟩:=e7 i aa hi'
  rw[h4,h3,Nat.zero_add,Nat.sub_zero]at g1
  have:VR m ((Tr.iH top (mp (fun n=>Value.int k (Int.ofNat n)) l) 0 .nil).get top i) v:=g2
  rw[Tr.cz,qL,if_pos (by simp;omega),List.getD_eq_getElem?_getD,Nat.sub_zero,List.getElem?_map,hz]at this
  rw[g1,this.of_int];rfl
 |_=>exact absurd h6 id
theorem Qd{m:Mp}{H:ag}{w:World}(rh:RH m H w){n:Nat}(gl:Gl n m):n≤w.heap.size:=by
 cases n with
 |zero=>exact Nat.zero_le _
 |succ n=>
  obtain⟨lc,h1,h2,_⟩:=gl n (Nat.lt_succ_self n)
  obtain⟨o,h5,_⟩:=rh.ok n lc h1
  have:=fO h5
  omega
theorem RH.below{m:Mp}{H:ag}{w w':World}(rh:RH m H w)(hb:Go.RowKit.Below w.heap.size w w'):RH m H w'∧Ex m m H H w w':=by
 refine⟨⟨rh.dom,fun r l hr=>?_,rh.sep⟩,?_⟩
 ·obtain⟨o,h1,h2⟩:=rh.ok r l hr
  exact⟨o,by rw[hb.block _ (fO h1)];exact h1,h2⟩
 ·exact⟨fun _ _ h=>h,fun r l h h'=>(by rw[h]at h';cases h'),fun r l h h'=>(by rw[h]at h';cases h'),hb.os,hb.tape,hb.output,hb.size,fun c hc _=>hb.block c hc,Nat.le_refl _,Nat.le_refl _,fun _ _ _=>rfl,fun _ _ _=>rfl⟩
section mem
variable{P:Program}
end mem
def FQ:List Nat:=[1,10,100,1000,10000,100000,1000000,10000000,100000000,1000000000,10000000000,100000000000,1000000000000,10000000000000,100000000000000,1000000000000000,10000000000000000,100000000000000000,1000000000000000000,10000000000000000000]
def rQ:List Nat:=[0,1,56,2,57,49,28,3,61,58,42,50,38,29,17,4,62,47,59,36,45,43,51,22,53,39,33,30,24,18,12,5,63,55,48,27,60,41,37,16,46,35,44,21,52,32,23,11,54,26,40,15,34,20,31,10,25,14,19,9,13,8,7,6]
def l7(H:ag):Prop:=8≤H.next∧∃t0 t1 t5 t6,H.obj 0=dO t0 .u8 mO∧H.obj 1=dO t1 .u8 gN∧H.obj 5=dO t5 .u64 FQ∧H.obj 6=dO t6 .u8 rQ
theorem l7.ex{H H':ag}(h:l7 H)(hx:Ext H H'):l7 H':=by
 obtain⟨h0,t0,t1,t5,t6,a0,a1,a5,a6⟩:=h
 exact⟨Nat.le_trans h0 hx.next,t0,t1,t5,t6,(hx.obj 0 aa (by simp)).trans a0,(hx.obj 1 aa (by simp)).trans a1,(hx.obj 5 aa (by simp)).trans a5,(hx.obj 6 aa (by simp)).trans a6⟩
open Classical in
def TL(args:List Value)(H:ag):Option (Value×ag):=if args=[]∧l7 H then some (.bool true,H)else none
theorem MR{H:ag}(h:l7 H):TL [] H=some (.bool true,H):=by unfold TL;rw[if_pos ⟨rfl,h⟩]
theorem TM{args:List Value}{v:Value}{H H':ag}(h:TL args H=some (v,H')):args=[]∧l7 H∧v=.bool true∧H'=H:=by
 unfold TL at h
 split at h
 ·next hc=>cases h;exact⟨hc.1,hc.2,rfl,rfl⟩
 ·cases h
def XR(n:Nat)(t0 t1 t5 t6:TypeId):ag:=⟨Tr.set .dead (Tr.set .dead (Tr.set .dead (Tr.set .dead .nil 0 (dO t0 .u8 mO)) 1 (dO t1 .u8 gN)) 5 (dO t5 .u64 FQ)) 6 (dO t6 .u8 rQ),n,n⟩
theorem Qe(n:Nat)(t0 t1 t5 t6:TypeId)(r:Nat):(XR n t0 t1 t5 t6).obj r=if r=6 then dO t6 .u8 rQ else if r=5 then dO t5 .u64 FQ else if r=1 then dO t1 .u8 gN else if r=0 then dO t0 .u8 mO else .dead:=by
 show(Tr.set .dead (Tr.set .dead (Tr.set .dead (Tr.set .dead .nil 0 (dO t0 .u8 mO)) 1 (dO t1 .u8 gN)) 5 (dO t5 .u64 FQ)) 6 (dO t6 .u8 rQ)).get .dead r=_
 rw[Tr.gQ,Tr.gQ,Tr.gQ,Tr.gQ,Tr.get_nil]
section mem
variable{P:Program}
theorem MS{X:Xt}{n k:Nat}(hn:8≤n)(hmo:P.follows .mixedOrders=true)(hP:l5 P n)(hX:Ky P X)(hO:yg P X n){g:FuncId}{fn:Func}(hg:P.funcs[g]?=some fn)(hb:fn.body.isSome=true)
 (h:∀t0 t1 t5 t6,Mo n true (a_ P X k g [] (XR n t0 t1 t5 t6))=true){args:List Value}{v:Value}{H H':ag}(ho:TL args H=some (v,H')):
 (∃fn,P.funcs[g]?=some fn∧fn.body.isSome=true)∧∀m w args',RH m H w→Gl n m→bP m args args'→
  Calls P g ⟨args'⟩ w fun e w'=>∃m' v',e=.returned v'∧VR m' v v'∧RH m' H' w'∧Ex m m' H H' w w':=by
 obtain⟨rfl,hT,rfl,rfl⟩:=TM ho
 refine⟨⟨fn,hg,hb⟩,fun m w args' rh gl ha=>?_⟩
 cases ha
 obtain⟨h0,t0,t1,t5,t6,a0,a1,a5,a6⟩:=hT
 obtain⟨H1,h1,h2⟩:=Mq (h t0 t1 t5 t6)
 refine(FF (H:=XR n t0 t1 t5 t6) hmo hP hX hO hg hb h1 h2 rfl rfl (Qd rh gl) ?_).mono ?_
 ·intro r hr
  rw[Qe]
  by_cases e6:r=6
  ·subst e6;rw[if_pos rfl];exact tV rh gl aa a6
  rw[if_neg e6]
  by_cases e5:r=5
  ·subst e5;rw[if_pos rfl];exact tV rh gl aa a5
  rw[if_neg e5]
  by_cases e1:r=1
  ·subst e1;rw[if_pos rfl];exact tV rh gl aa a1
  rw[if_neg e1]
  by_cases e0:r=0
  ·subst e0;rw[if_pos rfl];exact tV rh gl aa a0
  rw[if_neg e0];exact .inl rfl
 ·rintro e w' ⟨rfl,hbw⟩
  obtain⟨g1,g2⟩:=rh.below hbw
  exact⟨m,.bool true,rfl,.sc _ rfl,g1,g2⟩
end mem
def Np(R:List Int→Prop)(r:Nat)(ty:TypeId)(n:Nat)(H0 H:ag)(L:List bF):Prop:=∃cs vs,cs.length=n∧R cs∧SH [] H0 H ((r,ty,cs.map vi++vs)::L)
def Rn(R:List Int→Prop)(z x:Int)(cs:List Int):Prop:=R cs∧cs[z.toNat]?=some x
def Wn(R:List Int→Prop)(z x:Int)(cs:List Int):Prop:=∃c,R c∧cs=c.set z.toNat x
def Pn(c0 cs:List Int):Prop:=cs.Perm c0
class Bn (R:List Int→Prop) (c0:outParam (List Int)):Prop where
 h:∀cs,R cs→Pn c0 cs
instance Bn.s{c0:List Int}:Bn (Pn c0) c0:=⟨fun _ h=>h⟩
instance Bn.r{R:List Int→Prop}{z x:Int}{c0:List Int}[b:Bn R c0]:Bn (Rn R z x) c0:=⟨fun _ h=>b.h _ h.1⟩
theorem AO{c:List Int}{i j:Nat}{x y:Int}(hi:c[i]?=some x)(hj:c[j]?=some y):((c.set i y).set j x).Perm c:=by
 obtain⟨h1,rfl⟩:=List.getElem?_eq_some_iff.1 hi
 obtain⟨h2,rfl⟩:=List.getElem?_eq_some_iff.1 hj
 exact List.set_set_perm h1 h2
instance Bn.w{R:List Int→Prop}{c0:List Int}{p q x y:Int}[b:Bn R c0]:Bn (Wn (Wn (Rn (Rn R p x) q y) p y) q x) c0:=⟨fun _ ⟨_,⟨_,h,e⟩,e2⟩=>by
 subst e e2;exact(AO h.1.2 h.2).trans (b.h _ h.1.1)⟩
instance Bn.w'{R:List Int→Prop}{c0:List Int}{p q x y:Int}[b:Bn R c0]:Bn (Wn (Wn (Rn (Rn R p x) q y) q x) p y) c0:=⟨fun _ ⟨_,⟨_,h,e⟩,e2⟩=>by
 subst e e2;exact(AO h.2 h.1.2).trans (b.h _ h.1.1)⟩
section steps
variable{R R':List Int→Prop}{r:Nat}{ty:TypeId}{n:Nat}{H0 H:ag}{L:List bF}{K:Value→ag→Prop}
theorem Np.mono(h:Np R r ty n H0 H L)(hr:∀c,c.length=n→R c→R' c):Np R' r ty n H0 H L:=by obtain⟨cs,vs,h1,h2,hS⟩:=h;exact⟨cs,vs,h1,hr _ h1 h2,hS⟩
theorem Np.bk{c0:List Int}[b:Bn R c0](h:Np R r ty n H0 H L):Np (Pn c0) r ty n H0 H L:=h.mono fun c _=>b.h c
theorem Np.wf(h:Np R r ty n H0 H L):Wf H:=by obtain⟨_,_,_,_,hS⟩:=h;exact hS.wf
theorem Np.ext(h:Np R r ty n H0 H L):Ext H0 H:=by obtain⟨_,_,_,_,hS⟩:=h;exact hS.ext
theorem Np.new(h:Np R r ty n H0 H L){t2:TypeId}{z:List Value}(k:∀H1 q,Np R r ty n H0 H1 ((q,t2,z)::L)→K (.pointer (some ⟨q,0,none⟩)) H1):ME (fE t2 z H) K:=by
 obtain⟨cs,vs,h1,h2,hS⟩:=h
 exact hS.fE fun H1 q hS=>k H1 q ⟨cs,vs,h1,h2,hS.perm (List.Perm.swap _ _ _)⟩
theorem Np.ld(h:Np R r ty n H0 H L)(i:Nat){q o:Nat}{t2:TypeId}{cs:List Value}{v:Value}(hi:L[i]?=some (q,t2,cs))(hv:cs[o]?=some v)(k:K v H):ME (mU none (.pointer (some ⟨q,o,none⟩)) H) K:=by
 obtain⟨_,_,_,_,hS⟩:=h
 exact hS.ld (i +1) (by rw[List.getElem?_cons_succ];exact hi) hv k
theorem Np.uZ(h:Np R r ty n H0 H L)(i:Nat){q o:Nat}{t2:TypeId}{cs:List Value}{v:Value}(hi:L[i]?=some (q,t2,cs))(hv:cs[o]?=some v)(k:K v (Go.Ae.hN H)):ME (mU none (.pointer (some ⟨q,o,none⟩)) (Go.Ae.hN H)) K:=by
 obtain⟨_,_,_,_,hS⟩:=h
 exact hS.uZ (i +1) (by rw[List.getElem?_cons_succ];exact hi) hv k
theorem Np.st(h:Np R r ty n H0 H L)(i:Nat){q o m:Nat}{t2:TypeId}{cs:List Value}{v:Value}(hi:L[i]?=some (q,t2,cs))(hl:(ax v).length=m)(hn:o +m≤cs.length)(hk:all' aN (ax v)=true)
 (k:∀H1,Np R r ty n H0 H1 (L.set i (q,t2,splice cs o (ax v)))→K undef H1):ME (EH m (.pointer (some ⟨q,o,none⟩)) v H) K:=by
 obtain⟨ds,vs,h1,h2,hS⟩:=h
 exact hS.st (i +1) (by rw[List.getElem?_cons_succ];exact hi) hl hn hk fun H1 hS=>k H1 ⟨ds,vs,h1,h2,hS⟩
theorem Np.MM(h:Np R r ty n H0 H L)(i:Nat){q o m:Nat}{t2:TypeId}{cs:List Value}{v:Value}(hi:L[i]?=some (q,t2,cs))(hl:(ax v).length=m)(hn:o +m≤cs.length)(hk:all' aN (ax v)=true)
 (k:∀H1,Np R r ty n H0 (hM H H1) (L.set i (q,t2,splice cs o (ax v)))→K undef H1):ME (EH m (.pointer (some ⟨q,o,none⟩)) v (Go.Ae.hN H)) K:=by
 obtain⟨ds,vs,h1,h2,hS⟩:=h
 exact hS.MM (i +1) (by rw[List.getElem?_cons_succ];exact hi) hl hn hk fun H1 hS=>k H1 ⟨ds,vs,h1,h2,hS⟩
theorem Np.drop{b:bF}(h:Np R r ty n H0 H (b::L)):Np R r ty n H0 H L:=by
 obtain⟨cs,vs,h1,h2,hS⟩:=h
 exact⟨cs,vs,h1,h2,SH.drop (A:=[_]) (hS.perm (List.Perm.swap _ _ _))⟩
theorem Np.tJ(h:Np R r ty n H0 H L):Np R r ty n (Go.Ae.hN H0) (Go.Ae.hN H) L:=by obtain⟨cs,vs,h1,h2,hS⟩:=h;exact⟨cs,vs,h1,h2,hS.tJ⟩
theorem Np.i1N(h:Np R r ty n H0 H L){o:Nat}(hz:o<n)(k:∀x,Np (Rn R (o:Int) x) r ty n H0 H L→K (vi x) H):ME (mU none (.pointer (some ⟨r,o,none⟩)) H) K:=by
 obtain⟨cs,vs,h1,h2,hS⟩:=h
 have hlt:o<cs.length:=by omega
 refine hS.ld 0 rfl (v:=vi cs[o]) (by rw[List.getElem?_append_left (by rw[List.length_map];exact hlt),List.getElem?_map,List.getElem?_eq_getElem hlt];rfl) (k _ ⟨cs,vs,h1,⟨h2,?_⟩,hS⟩)
 exact List.getElem?_eq_getElem hlt
theorem Np.YI(h:Np R r ty n H0 H L){o:Nat}(hz:o<n)(k:∀x,Np (Rn R (o:Int) x) r ty n H0 H L→K (vi x) (Go.Ae.hN H)):ME (mU none (.pointer (some ⟨r,o,none⟩)) (Go.Ae.hN H)) K:=by
 obtain⟨cs,vs,h1,h2,hS⟩:=h
 have hlt:o<cs.length:=by omega
 refine hS.uZ 0 rfl (v:=vi cs[o]) (by rw[List.getElem?_append_left (by rw[List.length_map];exact hlt),List.getElem?_map,List.getElem?_eq_getElem hlt];rfl) (k _ ⟨cs,vs,h1,⟨h2,?_⟩,hS⟩)
 exact List.getElem?_eq_getElem hlt
variable{z:Int}(h0:0≤z)(hz:z<n)
include h0 hz
theorem Np.i1(h:Np R r ty n H0 H L)(k:∀x,Np (Rn R z x) r ty n H0 H L→K (vi x) H):ME (mU none (.pointer (some ⟨r,z.toNat*1,none⟩)) H) K:=by
 rw[Nat.mul_one];exact h.i1N aa fun x hB=>k x (hB.mono fun _ _ h=>h)
theorem Np.ZD(h:Np R r ty n H0 H L)(k:∀x,Np (Rn R z x) r ty n H0 H L→K (vi x) (Go.Ae.hN H)):ME (mU none (.pointer (some ⟨r,z.toNat*1,none⟩)) (Go.Ae.hN H)) K:=by
 rw[Nat.mul_one];exact h.YI aa fun x hB=>k x (hB.mono fun _ _ h=>h)
end steps
theorem ak{A B:Prop}(h:B)(he:A=B:=by simp only[PP,Nat.reduceBEq];rfl):A:=by rw[he];exact h
section aX
variable{A B:Prop}{S:List Nat}{H0 H:ag}{L:List bF}
theorem SH.aX(hS:SH S H0 H L)(h:B)(he:Wf H→A=B:=by intro w;simp only[PP,Nat.reduceBEq,cr w];rfl):A:=by rw[he hS.wf];exact h
theorem SB.aX{P:List Value→Prop}{r:Nat}{ty:TypeId}{es n:Nat}(hS:SB P r ty es n H0 H L)(h:B)(he:Wf H→A=B:=by intro w;simp only[PP,Nat.reduceBEq,cr w];rfl):A:=by rw[he hS.wf];exact h
theorem Np.aX{R:List Int→Prop}{r:Nat}{ty:TypeId}{n:Nat}(hS:Np R r ty n H0 H L)(h:B)(he:Wf H→A=B:=by intro w;simp only[PP,Nat.reduceBEq,cr w];rfl):A:=by rw[he hS.wf];exact h
end aX
section bin
variable{P:Program}{t:TypeId}{ox oy:Operand}{a b:Int}{K:Value→Prop}
theorem aC(k:K (vi (a +b)))(h1:-9223372036854775808≤a +b:=by omega)(h2:a +b≤9223372036854775807:=by omega):PU (bq P .add t ox oy (vi a) (vi b)) K:=PU.of (aH h1 h2) k
theorem aG(k:K (vi (a -b)))(h1:-9223372036854775808≤a -b:=by omega)(h2:a -b≤9223372036854775807:=by omega):PU (bq P .sub t ox oy (vi a) (vi b)) K:=PU.of (iL h1 h2) k
theorem aL(k:K (vi (a*b)))(h1:-9223372036854775808≤a*b:=by omega)(h2:a*b≤9223372036854775807:=by omega):PU (bq P .mul t ox oy (vi a) (vi b)) K:=PU.of (tF h1 h2) k
theorem aI{es r o n c:Nat}{z:Int}(k:K (.pointer (some ⟨r,o +z.toNat*es,none⟩)))(h0:0≤z:=by omega)(h:z<n:=by omega):PU (DF es (.slice (some ⟨r,o,none⟩) n c) (vi z)) K:=PU.of (P_ h0 h) k
end bin
theorem bJ{ops:Array Oper}{cls:List Cl}{q:Prop}(k:q)(h:dH ops cls=true:=by((try simp only[az,ay,av (Ext.refl (hN _))]);kernel_rfl)):dH ops cls=true∧q:=⟨h,k⟩
theorem TN{ops:Array Oper}{cls:List Cl}{q:Prop}(k:q)(h:noTwo cls=true:=by simp only[az,av (Ext.refl (hN _))];rfl):dH ops cls=true∧q:=MQ h k
end Go.Ae
