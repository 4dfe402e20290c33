/-
  Part 11 of the proof. No condition.
-/
import Derived.Test.YtpngmpbmokhmiaaGreatDoorZ09
set_option linter.unusedVariables false
set_option linter.unusedSimpArgs false
set_option maxRecDepth 100000
set_option maxHeartbeats 4000000
set_option linter.defProp false
open Option renaming some->Z,none->T
open Bool renaming true->f,false->aA
open Go renaming Value->C,TypeId->aI,Program->aX,Operand->cz,IntKind->f_
open Go.Value renaming int->a_,slice->J,bool->aO,string->aJ,pointer->bG,tuple->fJ,agg->dN,map->gz
open Nat renaming beq->aB,ble->aD,sub->dP
open List renaming length->u,replicate->aY,range->d_
open List.Perm renaming swap->iF,cons->fA
open BitVec renaming ofInt->kU
open And renaming intro->iZ
open Go.IntKind renaming i64->bC,wrap->oJ,u64->fO
noncomputable section
namespace Go.Proofs.Lu
open Go.Ae Go.Ae.hx Go.Proofs.Lv
variable{l:D Ed}
section
variable{cs F':Nat->Prop}{H0 H:R}{L hx:D eF}{S:D Nat}{A:At}{q q':AV}{a a':aC Addr}{n c c':Nat}
def WR{l:D Nat}(E:Wf H)(h:jC cs 3 H a n 1<|gq l)(K:jC F' 3 H a' n 1<|gq l)(V:n<=16777216):bM Pg X 81 [J a n c,J a' n c'] H λv Q=>v=aO f/\Q=H:=by
 have U:u l=n:=by have:=h.1.1;simpa using this
 refine GV [0,1,4,5,12,13] ?_;refine eU (λd=>absurd trivial d) λ_=>?_;refine Gg 4 5 13 (h1:=λm P T I Q=>∃i:Nat,I=W i/\i+m=n/\Q=H) ?_ n ⟨0,rfl,N,rfl⟩;rintro m P T I Y H1 ⟨i,rfl,M,rfl⟩;refine mG (λw=>?_) λw=>?_
 .refine tl<|rr ?_;exact⟨O,O⟩
 have B:i<n:=N;have hv:=AQ (l:=l) (show i<u l by omega);refine jC.ix (H:=hN H1) (show jC cs 3 (hN H1) a n 1 (gq l)from h) B hv λp=>?_
 try simp only[iU E]
 refine jC.ix (H:=hN H1) (show jC F' 3 (hN H1) a' n 1 (gq l)from K) B hv λp2=>?_
 try simp only[iU E]
 refine bN ?_;refine iY (by simp only[AR,Dr,Ah])<|eU (λd=>absurd trivial d) λ_=>?_;refine eD ?_;exact⟨n-(i+1),N,_,_,_,_,_,O,i+1,pq,N,O⟩
def ajP{l:D aZ}(E:Wf H)(h:jC cs 9 H a n 1<|l.map aJ)(K:jC F' 9 H a' n 1<|l.map aJ)(V:n<=16777216):bM Pg X 80 [J a n c,J a' n c'] H λv Q=>v=aO f/\Q=H:=by
 have U:u l=n:=by have:=h.1.1;simpa using this
 refine GV [0,1,4,5,12,13] ?_;refine eU (λd=>absurd trivial d) λ_=>?_;refine Gg 4 5 13 (h1:=λm P T I Q=>∃i:Nat,I=W i/\i+m=n/\Q=H) ?_ n ⟨0,rfl,N,rfl⟩;rintro m P T I Y H1 ⟨i,rfl,M,rfl⟩;refine mG (λw=>?_) λw=>?_
 .refine tl<|rr ?_;exact⟨O,O⟩
 have B:i<n:=N;have hv:(l.map aJ)[i]?=Z (aJ<|l[i]'N):=by rw[bL,av (show i<u l by omega)];rfl
 refine jC.ix (H:=hN H1) (show jC cs 9 (hN H1) a n 1 (l.map aJ)from h) B hv λp=>?_
 try simp only[iU E]
 refine jC.ix (H:=hN H1) (show jC F' 9 (hN H1) a' n 1 (l.map aJ)from K) B hv λp2=>?_
 try simp only[iU E]
 refine bN ?_;refine iY (by simp only[AR,Dr,Ah])<|ig (λd=>absurd d gB) λ_=>?_;refine eD ?_;exact⟨n-(i+1),N,_,_,_,_,_,O,i+1,pq,N,O⟩
def amA:tEq Pg 121=Z (.inr [1,1,1]):=fQ
def aoz(k g t:Int)(i j:Nat):mW Pg .neq 121 (.tmp i) (.tmp j) (dN ⟨[vi k,vi g,vi t]⟩) (dN ⟨[vi k,vi g,vi t]⟩)=Z (aO aA):=by
 show DX .neq (aeq Pg 121 (.tmp i) (.tmp j) _ _)=_
 have:aeq Pg 121 (.tmp i) (.tmp j) (dN ⟨[vi k,vi g,vi t]⟩) (dN ⟨[vi k,vi g,vi t]⟩)=Z f:=by
  have e:mU Pg 121 (dN ⟨[vi k,vi g,vi t]⟩) (dN ⟨[vi k,vi g,vi t]⟩)=(b_ (FI k k) (b_ (FI g g) (b_ (FI t t) (Z f)<|Z aA)<|Z aA)<|Z aA):=by
   show(aN (tEq Pg 121) λq=>_)=_;rw[amA];rfl
  have r:∀x:Int,FI x x=f:=λx=>by rw[Br];simp
  rw[r,r,r]at e;exact e
 rw[this];rfl
def amB(B:Wf H)(h:jC cs 121 H a (u l) 3<|Bf l)(I:jC F' 121 H a' (u l) 3<|Bf l)(U:u l<=16777216):bM Pg X 84 [J a (u l) c,J a' (u l) c'] H λv Q=>v=aO f/\Q=H:=by
 refine GV [0,1,4,5,12,13] ?_;refine eU (λK=>absurd trivial K) λ_=>?_;refine Gg 4 5 13 (h1:=λm P T E Q=>∃i:Nat,E=W i/\i+m=u l/\Q=H) ?_ (u l) ⟨0,rfl,N,rfl⟩;rintro m P T E V H1 ⟨i,rfl,M,rfl⟩;refine mG (λd=>?_) λd=>?_
 .refine tl<|rr ?_;exact⟨O,O⟩
 have w:i<u l:=N;refine KX (H:=hN H1) (show jC cs 121 (hN H1) a (u l) 3 (Bf l)from h) w λp=>?_
 try simp only[iU B]
 refine KX (H:=hN H1) (show jC F' 121 (hN H1) a' (u l) 3 (Bf l)from I) w λY=>?_
 try simp only[iU B]
 refine dA (aoz ..)<|bN ?_;refine iY (by simp only[AR,Dr,Ah]) ?_;refine eD ?_;exact⟨u l-(i+1),N,_,_,_,_,_,O,i+1,pq,N,O⟩
def aaF(w:Wf H)(h:jC cs 121 H a (u l) 3<|Bf l)(d:jC F' 121 H a' (u l) 3<|Bf l)(m:u l<=16777216):bM Pg X 83 [J a (u l) c,J a' (u l) c'] H λv Q=>v=aO f/\Q=H:=by
 refine lF [0,1,4] ?_;refine dn (amB w h d m) ?_;rintro v Q ⟨rfl,rfl⟩;refine rr ?_;exact⟨O,O⟩
def ajQ(Y:Wf H)(h:vF cs H A q)(M:vF F' H A q')(ho:A.Ok):bM Pg X 82 [J q.ea A.ns q.ec,J q'.ea A.ns q'.ec,.func (.func 83) #[] #[]] H λv Q=>v=aO f/\Q=H:=by
 have E:=ho.big;refine GV [0,1,2,6,7,8,9,15,16,17] ?_;refine eU (λT=>absurd trivial T) λ_=>?_;refine YA 6 7 8 9 17 (h1:=λm x6 x7 x8 x9 B Q=>∃i:Nat,B=W i/\i+m=A.ns/\Q=H) ?_ A.ns ⟨0,rfl,N,rfl⟩;rintro m x6 x7 x8 x9 B oW H1 ⟨i,rfl,V,rfl⟩;refine mG (λd=>?_) λd=>?_
 .refine tl<|rr ?_;exact⟨O,O⟩
 have I:i<A.ns:=N;have K:=ho.len i;refine h.ldE (Ext.refl _) I λp ra rc U=>M.ldE (Ext.refl _) I λp2 ab ac w=>dn (show bM Pg X 83 _ _ _ from aaF Y U w N) ?_;rintro v Q ⟨rfl,rfl⟩;refine bN ?_;refine ig (λP=>by cases P) λ_=>?_;refine eD ?_;exact⟨A.ns-(i+1),N,_,_,_,_,_,_,_,O,i+1,pq,N,O⟩
def aaG(I:Wf H)(h:vF cs H A q)(B:vF F' H A q')(ho:A.Ok):bM Pg X 53 [q.v A,q'.v A] H (Qe (λv _=>v=aO f) H):=by
 have G:=gM I;have m:=ho.big;have P:=ho.few;refine lF [0,1,2,3,4] ?_;refine G.box O λH1 K G=>?_;refine G.box O λw M G=>?_;have G:SH [] H w [(M,27,[J q'.na A.nr q'.nc,J q'.sa A.nr q'.sc,J q'.pa A.nr q'.pc,J q'.oa A.ns q'.oc,J q'.ea A.ns q'.ec,W A.ty]),(K,27,[J q.na A.nr q.nc,J q.sa A.nr q.sc,J q.pa A.nr q.pc,J q.oa A.ns q.oc,J q.ea A.ns q.ec,W A.ty])]:=G;refine fF ?_;refine aV (λ_=>?_) λE=>absurd trivial E;have g:=h.ex G.ext;have d:=B.ex G.ext;refine fF ?_;refine dn (ajP G.wf g.n d.n N) ?_;rintro v _ ⟨rfl,rfl⟩;refine fF ?_;refine dn (WR G.wf g.s d.s N) ?_;rintro v _ ⟨rfl,rfl⟩;refine fF ?_;refine dn (WR G.wf g.p d.p N) ?_;rintro v _ ⟨rfl,rfl⟩;refine fF ?_;refine dn (WR G.wf g.o d.o N) ?_;rintro v _ ⟨rfl,rfl⟩;refine fF ?_;refine dn (ajQ G.wf g d ho) ?_;rintro v _ ⟨rfl,rfl⟩;refine rr ?_;exact⟨O,G.ext⟩
end
end Go.Proofs.Lu
namespace Go.Proofs.Lv
open Go.Proofs.Lu
open Go.Ae Go.Ae.hx
section
variable{H0 H:R}{L hx:D eF}{S:D Nat}{cs:Nat->Prop}{A:At}{q:AV}{n s:Nat}
structure RB(n c:Nat)(b:D<|D Nat):Prop where
 len:u b=n
 lt:∀(i:Nat)(l:D Nat),b[i]?=Z l->(∀x∈l,x<n)/\u l<=c
structure Rch(b:D<|D Nat)(mk mk':D Bool):Prop where
 gr:∀t,on mk t->on mk' t
 ln:u mk'=u mk
 nw:∀x,on mk' x->¬on mk x->∀l:D Nat,b[x]?=Z l->∀y∈l,on mk' y
end
end Go.Proofs.Lv
namespace Go.Ae
def g5(a b c d e:Nat):Nat->Nat
 |1=>a
 |2=>b
 |3=>c
 |4=>d
 |5=>e
 |_=>0
end Go.Ae
namespace Go.Proofs.Lv
open Go.Proofs.Lu
open Go.Ae Go.Ae.hx
variable{L hx:D eF}{A:At}{q:AV}{H H0:R}{c es n s:Nat}
section
variable{S:D Nat}{cs:Nat->Prop}
structure KR(A:At)(mk:D Bool)(ak:Nat->Ed->Prop)(c:Nat)(b:D<|D Nat):Prop where
 rb:RB A.nr c b
 cp:∀s e,ak s e->e.1=2->on mk s->∃l,b[A.aj s]?=Z l/\e.2.1∈l
variable{mk:D Bool}{ak D':Nat->Ed->Prop}{b:D (D Nat)}
end
section
variable{S:D Nat}{cs:Nat->Prop}
def _root_.Go.Ae.jC.old{ty:aI}{a:aC Addr}{F:D C}(h:jC cs ty H a n es F):jC (·<H.bV) ty H a n es F:=⟨h.1,λr o e d=>let⟨_,B,h3⟩:=h.2 r o e d;⟨B,B,h3⟩⟩
def vF.old(h:vF cs H A q):vF (·<H.bV) H A q:=⟨h.n.old,h.s.old,h.p.old,h.o.old,let⟨evs,I,B⟩:=h.e;⟨evs,I.old,λi d=>let⟨a,c,h3,h4⟩:=B i d;⟨a,c,h3,h4.old⟩⟩⟩
def aip{α:Type}(a b c d e ay:α):[a,b,c,d,e,ay].Perm [ay,c,b,e,a,d]:=by
 refine List.Perm.trans (aG (l₁:=[a,b,c,d,e]) (l₂:=[ay]))<|fA ay ?_;refine List.Perm.trans (aG (l₁:=[a,b]) (l₂:=[c,d,e]))<|fA c ?_;refine List.Perm.trans (aG (l₁:=[d,e,a]) (l₂:=[b]))<|fA b ?_;exact List.Perm.trans (iF _ _ _)<|fA e<|iF _ _ _
end
end Go.Proofs.Lv
namespace Go.Ae
def SH.mN{H0 H Q:R}{L L':D eF}(G:SH [] H0 H L)(h:SH [] (Go.Ae.hN H0) Q L'):SH [] H0 (hM H Q) L':=by
 have w:=h.wf;have e:(hM H Q).low=pV H.low Q.low:=rfl;rw[Jj]at e;refine⟨⟨h.ext.bV,h.ext.obj,λb m d _=>?_,λ_=>?_⟩,λx M=>(h.bk x M).iB O,h.lo,h.ne,?_⟩
 .have I:=G.ext.low b m d (nofun);have B:=h.ext.low b d d<|nofun;omega
 .show(hM H Q).low<=Q.bV;omega
 .show(hM H Q).low<=Q.bV;omega
end Go.Ae
namespace Go.Proofs.Lv
open Go.Proofs.Lu
open Go.Ae Go.Ae.hx
variable{l zs:D Int}{b c i j k n r s:Nat}{L hx gb:D eF}{A:At}{q:AV}{H':Int->Prop}{v:C}{H H0:R}{a:aC Addr}{F fE ks vs:D C}
section
variable{S:D Nat}{cs:Nat->Prop}
def ad8(h:n<=1000000):Tc 1 (J (Z ⟨r,0,T⟩) n<|gK 1) T (Z<|W n) (Z<|W n)=Z (J (Z ⟨r,0,T⟩) n n):=by
 show b_ (gZ<|gK 1) (aN (Z n) λm=>gd (aD 0 n&&aD n m&&aD m (gK 1)&&(!(fT<|Z<|W n)||fT (Z<|W n)))<|Z<|J (Z ⟨r,sS m 0 0 1,T⟩) (dP n 0)<|dP m 0) (gd (aB (gK 1)<|gK 1)<|gd (aD 0 n&&aD n n&&aD n n&&f&&gZ n)<|Z<|J (Z ⟨r,sS n 0 0 1,T⟩) (dP n 0)<|dP n 0)=_;have d:gZ n=f:=aH N;have w:sS n 0 0 1=0:=by unfold sS;cases aB n 0<;>rfl
 rw[Af,lK,dW,aH<|bD _,aH<|ax _,d,w];rfl
def aaH(m:GB 3 1 v F gb)(hl:u F<=1000000)(w:Wf H):bM Pg X 161 [v] H λv' Q=>Q=H/\((∃c,v'=J T 0 c/\F=[]/\gb=[])\/∃r c fE,v'=J (Z ⟨r,0,T⟩) (u F) c/\gb=[(r,3,F++fE)]):=by
 have G:=gM w;rcases m with⟨rfl,rfl,rfl⟩|⟨r,n,fE,rfl,d,rfl⟩
 .refine GV [0,2] ?_;refine dA (v:=J T 0 0) O ?_;refine rr ?_;simp
 .rw[dY]at d;subst d;refine GV [0,2] ?_;refine dA (ad8 hl)<|rr ?_;exact⟨by trivial,.inr ⟨r,_,fE,rfl,rfl⟩⟩
def getD_in{l:D Nat}{h:k<u l}:l[k]?.getD 0=l[k]:=by rw[av h];rfl
def NQ(H':Int->Prop)(ks:D C):Prop:=∀x∈ks,∃z:Int,x=vi z/\H' z
def NQ.nm(hk:NQ H' ks)(G:SH [] H0 H<|(r,3,ks++fE)::L):Nm H' r 3 (u ks) H0 H L:=by
 refine⟨ks++fE,by rw[aU];omega,λk d=>?_,G⟩;have⟨z,e,hq⟩:=hk _<|bH d;refine⟨z,?_,hq⟩;rw[<-e];unfold El;rw[dY,eH (by rw[aU];omega),jy d];rfl
def aiq(h:Nm H' r 3 n H0 H L):∃d iX,u d=n/\NQ H' d/\GB 3 1 (sl r n<|gK 1) d iX/\SH [] H0 H (iX++L):=by
 have⟨F,I,B,h3⟩:=h;have m:u (F.take n)=n:=by rw[dS];omega
 refine⟨F.take n,[(r,3,F.take n++F.drop n)],m,λx M=>?_,.inr ⟨r,n,_,rfl,N,rfl⟩,by rw[jb];exact h3⟩;obtain⟨i,w,rfl⟩:=iM M;have⟨z,e,hq⟩:=B i N;refine⟨z,?_,hq⟩;unfold El at e;rw[dY,eH N]at e;rw[nT];exact(kK e).1
def agK(w:GB 3 1 v ks gb)(hl:u ks<=1000000)(hk:NQ H' ks)(G:SH [] H0 H<|gb++L):bM Pg X 160 [v] H λ_ Q=>∃d iX,u d=u ks/\NQ H' d/\GB 3 1 v d iX/\SH [] H0 Q (iX++L):=by
 rcases w with⟨rfl,rfl,rfl⟩|⟨r,n,fE,rfl,B,rfl⟩
 .refine dn adJ ?_;rintro _ _ rfl;exact⟨[],[],O,hk,GB.nil _ _,G⟩
 .obtain rfl:n=u ks:=N;refine dn (Nr hl<|hk.nm G) ?_;intro _ H1 m;exact aiq m
def agL(w:GB 3 1 v ks gb)(hl:u ks<=1000000)(hk:NQ H' ks)(G:SH [] H0 H<|gb++L):bM Pg X 162 [v] H λv' Q=>∃d iX,u d<=u ks/\NQ H' d/\GB 3 1 v' d iX/\SH [] H0 Q (iX++L):=by
 rcases w with⟨rfl,rfl,rfl⟩|⟨r,n,fE,rfl,K,rfl⟩
 .refine dn T_ ?_;rintro _ _ ⟨rfl,rfl⟩;exact⟨[],[],ax _,hk,GB.nil _ _,G⟩
 .obtain rfl:n=u ks:=N;refine dn (Ir hl<|hk.nm G) ?_;rintro _ H1 ⟨M,E,rfl,m⟩;have⟨d,iX,I,B,h3,h4⟩:=aiq m;exact⟨d,iX,N,B,h3,h4⟩
end
section
variable{S:D Nat}{cs:Nat->Prop}
def ad9(ho:A.Ok)(h:i<=j)(m:j<=A.ns):A.pre i<=A.pre j:=by
 induction j with
 |zero=>obtain rfl:i=0:=N
        exact ax _
 |succ j d=>
  rcases dH i (j+1)with I|I
  .have:=At.yg ho (i:=j) N;have:=d N N;omega
  .obtain rfl:i=j+1:=N;exact ax _
def YX(H':Int->Prop)(v:C)(az:D eF):Prop:=(∃c,v=J T 0 c)\/∃(r n c:Nat)(F fE:D C),v=J (Z ⟨r,0,T⟩) n c/\((r,3,F++fE):eF)∈az/\u F=n/\n<=100000/\NQ H' F
def YX.nums{az:D eF}(h:YX H' v az)(G:SH [] H0 H L)(d:∀e∈az,e∈L):Kk H0.bV 100000 H' H v:=by
 rcases h with⟨c,rfl⟩|⟨r,n,c,F,fE,rfl,m,rfl,E,I⟩
 .exact⟨T,0,c,[],O,jC.nil _ _ _ _ _,bD _,nofun⟩
 .have w:=G.bk _ (d _ m);exact⟨_,_,c,F,O,⟨⟨N,λi x B=>⟨r,0,rfl,(G.lo _<|d _ m).2,by rw[bB];apply w.cell;rw[bZ (bK.1 B).1];exact B⟩⟩,λr' o e _=>by cases e;exact⟨G.yu<|d _ m,(G.lo _<|d _ m).2,w.Gb⟩⟩,E,I⟩
theorem Ur(h:vF cs H0 A q)(ho:A.Ok){d dc xc E:Nat}{az:D eF}(hr:d<A.nr)(b4:u vs=A.nr)(hv:vs[d]?=Z (J T 0 0))(G:SH [] H0 H<|(dc,22,vs)::(xc,124,[J (Z ⟨dc,0,T⟩) A.nr A.nr])::(E,27,q.cells A)::az):
 bM Pg X 158 [W d,pt E,pt xc] H λ_ Q=>∃v gb,YX (Ua A.nr) v gb/\SH [] H0 Q ((dc,22,vs.set d v)::(xc,124,[J (Z ⟨dc,0,T⟩) A.nr A.nr])::(E,27,q.cells A)::(gb++az)):=by
 refine lF [0,1,2,5,7,14,15,16,24,25,26] ?_;have a5:=ho.s d hr;have ar:=G;refine G.MK 2 O (ax 6) ?_;refine fF ?_;refine(h.ex G.ext).n'.ldS ho hr λp=>?_;simp only[iU G.wf];refine dn (free_spec (cs:=cs) (oC H) (h.ex G.ext).n' ho a5.1) ?_;rintro _ H2 ⟨⟨fa,fc,l,rfl,am,a6,bh⟩,M⟩;have G:=G.oD M;have am:jC ((hN H).bV<=·) 3 (hM H H2) fa (u l) 1 (gq l):=am;refine bN ?_;refine iY (by simp only[fP M,AR,Dr,agI,Ah]) ?_
 have ap:vs.set d (J T 0 0)=vs:=by
  have⟨I,B⟩:=bK.1 hv;rw[<-B];exact sI I
 have a4:∀s∈l,s<A.ns:=λs hs=>(At.Rc.own ho (k:=d) (λt ht=>by subst ht;exact a5)<|(bh s).1 hs).1;have aw:=G;have G:=G.base;have hB:vF (·<H0.bV) (hM H H2) A q:=h.old.ex aw.ext;generalize amC:((dc,22,vs)::(xc,124,[J (Z ⟨dc,0,T⟩) A.nr A.nr])::(E,27,q.cells A)::az:D eF).map (λe:eF=>e.1)=ids at G
 have a3:∀r∈ids,H0.bV<=r/\r<H.bV:=λr U=>by
  rw[<-amC]at U;obtain⟨x,a8,rfl⟩:=bT.1 U;exact⟨ar.yu a8,(ar.lo x a8).2⟩
 have⟨evs,he1,he2⟩:=hB.e;have ab:∀r∈ids,¬r<H0.bV:=λr U=>by have:=a3 r U;omega
 have a9:∀i(h:i<u l),i<=l[i]:=λi=>by
  induction i with
  |zero=>exactλ_=>bD _
  |succ i ih=>
   intro h;have:=ih N;have:=lI.1 a6 i (i+1) N h N;omega
 have b1:u l<=4000:=by
  have:=ho.big;rcases gX (u l)with h0|h0
  .omega
  .have:=a9 (u l-1) N;have:=a4 _<|bH (show u l-1<u l by omega);omega
 have hF:∀{Q L'},SH ids (hM H H2) Q L'->jC ((hN H).bV<=·) 3 Q fa (u l) 1 (gq l):=λG=>am.stay G.ext λr U=>.inl (by have:=a3 r U;show¬H.bV<=r;omega);refine iC.yw λK hK=>lp6 5 7 16 24 25 26 (h1:=λm x5 x7 rT br bt ad Q=>∃(i c:Nat)(v:C)(gb:D eF)(P:D C),rT=W i/\i+m=u l/\GB 3 1 v P gb/\NQ (Ua A.nr) P/\u P<=A.pre c/\c<=A.ns/\(∀s∈l.drop i,c<=s)/\SH ids (hM H H2) Q ((dc,22,vs.set d v)::(xc,124,[J (Z ⟨dc,0,T⟩) A.nr A.nr])::(E,27,q.cells A)::(gb++az))) ?_ (u l) ⟨0,0,_,[],[],rfl,N,GB.nil _ _,nofun,bD _,bD _,λs _=>bD _,by rw[ap];exact G⟩;clear G;rintro m x5 x7 rT br bt ad oW H3 ⟨i,c,v,gb,P,rfl,bl,Y,hD,aE,bx,a0,G⟩;refine mG (λhc=>?_) λhc=>?_
 .subst hK;refine bN ?_;obtain rfl:i=u l:=N;have bv:u P<=100000:=by have:=At.AP ho c;omega
  clear a0 bl;subst amC;have G:=aw.over G;obtain⟨va,vl,vc,rfl⟩:=Y.sl;have ac:∀{w},(vs.set d w)[d]?=Z w:=by intro w;rw[dX,jj O,jj N]
  refine tl ?_;refine G.qE<|G.ix (k:=d) hr ac λp=>dn (agK Y N hD<|G.perm<|jB [_,_,_] gb az) ?_;rintro _ H4 ⟨F,bb,bw,bo,bi,V⟩;have G:=V.perm<|jB bb [_,_,_] az;simp only[bQ,bX]at G;refine fF ?_;refine G.R8 (k:=d) hr ac ?_;refine G.kN ?_;have al:=G;refine dn (agL bi N bo V.Bt) ?_;rintro w H5 ⟨ba,VQ,b0,bp,bj,wu⟩;have G:=(V.mN wu).perm<|jB VQ [_,_,_] az;simp only[bQ,bX]at G;have xG:=G;refine dn (aaH bj N<|oC _) ?_;rintro w' H6 ⟨rfl,a7⟩;refine G.kN ?_;obtain⟨xa,xl,xk,rfl⟩:∃a n c,w'=J a n c:=by rcases a7 with⟨c,h,_⟩|⟨r,c,j,h,_⟩<;>exact⟨_,_,_,h⟩
  refine G.Rj (k:=d) hr (by rw[bU];omega) (kk:=λHB G=>?_);refine splitK (λK hK=>?_) ?_
  .have n4:dc≠xc:=al.nq 0 1 O O N
   have r2:∀{n:Nat}{a b:R},n=1->oV ⟨2,0,0,0,H4,H5⟩ ⟨4,dc,d,n,a,b⟩=f:=λh=>sF (al.get 0 O) ((xG.get 0 O).iB O) (by rw[bU];omega) λv hv=>by
    subst h;rw[eH (by rw[bU];omega),jS,kR,aS,wG]at hv;subst hv;exact Y.same
   have r3:∀{n:Nat}{a b:R},n=1->oV ⟨2,0,0,0,H4,H5⟩ ⟨4,xc,0,n,a,b⟩=f:=λh=>sF (al.get 1 O) ((xG.get 1 O).iB O) (by subst h;exact ax 1) λv hv=>by
    have:=lV<|fG hv;simp at this;subst this;exact qR _ _ _ λx h=>by cases h;rfl
   simp only[fP (Ext.refl<|hN<|hM H4 H5),eZ,gN];generalize d=ke at r2|-;rcases xu H4 H5 with e|e<;>rw[e]<;>apply Ie (A:=H4) (h2:=H5) (a:=dc) (b:=xc) n4 (by rfl) fQ fQ hK<;>repeat' apply iZ
   all_goals first|exact trivial|(intro h;cases h;done)|exactλ_=>⟨rfl,rfl⟩|exactλ_=>r2 O|exactλ_=>r3 O
  rw[List.set_set]at G;refine rn ?_;refine⟨_,VQ,?_,G⟩;rcases a7 with⟨c,h,_⟩|⟨r,c,fE,h,B⟩
  .exact .inl ⟨c,h⟩
  .exact .inr ⟨r,_,c,ba,fE,h,by rw[B];exact aK ..,O,N,bp⟩
 have hi:i<u l:=N;have ao:=bH hi;have aq:=a4 _ ao;have bg:c<=l[i]:=a0 _ (by rw[eH hi];exact aK ..);have b3:=ad9 ho bg N;refine(hF G).ix hi (AQ hi) λp=>?_;rw[getD_in (h:=hi)];refine G.ld 2 (o:=4) O O ?_;have⟨ea,ec,he3,he4⟩:=he2 _ aq;refine(he1.stay G.ext λr U=>.inl<|ab r U).ix aq he3 λp=>?_;refine bN ?_;have bn:=At.yg ho aq;have b2:=At.AP ho<|l[i]+1;refine lp2 7 26 (h1:=λm x7 ad Q=>∃(k:Nat)(v:C)(gb:D eF)(P:D C),ad=W k/\k+m=u (A.rg l[i])/\GB 3 1 v P gb/\NQ (Ua A.nr) P/\u P<=A.pre l[i]+k/\SH ids (hM H H2) Q ((dc,22,vs.set d v)::(xc,124,[J (Z ⟨dc,0,T⟩) A.nr A.nr])::(E,27,q.cells A)::(gb++az))) ?_ (u<|A.rg l[i]) ⟨0,v,gb,P,rfl,N,Y,hD,N,G⟩;clear G Y hD aE;rintro m' x7 ad OH H4 ⟨k,v,gb,P,rfl,bz,Y,hD,aE,G⟩;refine mG (λbf=>?_) λbf=>?_
 .obtain rfl:k=u (A.rg l[i]):=N;refine tl ?_;refine eD ?_;subst hK;refine⟨u l-(i+1),N,_,_,_,_,_,_,_,_,O,i+1,l[i]+1,v,gb,P,pq,N,Y,hD,N,N,λs hs=>?_,G⟩
  .obtain⟨j,hj,rfl⟩:=iM hs;rw[List.getElem_drop];have:=lI.1 a6 i (i+1+j) hi (by rw[vW]at hj;omega) N;omega
 have an:k<u (A.rg l[i]):=N;refine KX (he4.stay G.ext λr U=>.inl<|ab r U) an λp=>?_;have a1:=bH an;have bm:(A.rg l[i])[k]?=Z (A.rg l[i])[k]:=av an;have YK:=ho.len l[i];generalize(A.rg l[i])[k]=e at bm a1|-;refine G.ns O O O λH8 re G z8=>?_;have G:SH ids (hM H H2) H8 ((re,121,[W e.1,W e.2.1,W e.2.2])::(dc,22,vs.set d v)::(xc,124,[J (Z ⟨dc,0,T⟩) A.nr A.nr])::(E,27,q.cells A)::(gb++az)):=G;refine acC (λbe=>?_) λbe=>?_
 .refine eD ?_;exact⟨u (A.rg l[i])-(k+1),N,_,_,_,_,O,k+1,v,gb,P,pq,N,Y,hD,N,fV (A:=[_]) G⟩
 have bd:=G;have G:=G.base;obtain⟨va,vl,vc,rfl⟩:=Y.sl;have ac:(vs.set d<|J va vl vc)[d]?=Z (J va vl vc):=by rw[dX,jj O,jj N]
 refine fF ?_;refine G.R8 (k:=d) hr ac<|fF ?_;refine G.R4 O O O N λH9 rx G uR=>?_;have n1:re≠dc:=G.nq 1 2 O O N;have n2:re≠xc:=G.nq 1 3 O O N;have n4:dc≠xc:=G.nq 2 3 O O N;have YI:=G;have G:=(G.to (cs':=[W e.2.1]) O).perm<|fA _<|jB [_,_,_,_] gb az;refine Y.KB G N O O N λv' HA iX a2 G _ _ xz=>?_;obtain⟨wa,wl,wc,rfl⟩:=a2.sl;have G:=G.perm<|jB iX [_,_,_,_] az;simp only[bQ,bX]at G;have V:=G;refine G.Rj (k:=d) hr (by rw[bU];omega) (kk:=λHB G=>?_);refine splitK (λK hK=>?_) ?_
 .have r1:∀{o n:Nat}{a b:R},o+n<=3->oV ⟨2,0,0,0,hM H8 H9,HA⟩ ⟨4,re,o,n,a,b⟩=f:=λh=>sF (YI.get 1 O) ((V.get 0 O).iB O) h (Iz ⟨_,_,_,rfl⟩)
  have r2:∀{n:Nat}{a b:R},n=1->oV ⟨2,0,0,0,hM H8 H9,HA⟩ ⟨4,dc,d,n,a,b⟩=f:=λh=>sF (YI.get 2 O) ((V.get 1 O).iB O) (by rw[bU];omega) λv hv=>by
   subst h;rw[eH (by rw[bU];omega),jS,kR,aS,wG]at hv;subst hv;exact Y.same
  have r3:∀{n:Nat}{a b:R},n=1->oV ⟨2,0,0,0,hM H8 H9,HA⟩ ⟨4,xc,0,n,a,b⟩=f:=λh=>sF (YI.get 3 O) ((V.get 2 O).iB O) (by subst h;exact ax 1) λv hv=>by
   have:=lV<|fG hv;simp at this;subst this;exact qR _ _ _ λx h=>by cases h;rfl
  simp only[uR,eZ,gN];generalize d=ke at r2|-;rcases xz with e|e<;>rw[e]<;>apply QO (A:=hM H8 H9) (h2:=HA) (a:=re) (b:=dc) (c:=xc) n1 n2 n4 (by rfl) fQ fQ hK<;>repeat' apply iZ
  all_goals first|exact trivial|(intro h;cases h;done)|exactλ_=>⟨rfl,rfl⟩|exactλ_=>r1 N|exactλ_=>r2 O|exactλ_=>r3 O
 refine eD ?_;rw[List.set_set]at G
 have bc:NQ (Ua A.nr) (P++[W e.2.1]):=λx M=>by
  rcases cB.1 M with M|M
  .exact hD x M
  .rw[aS]at M;subst M;exact⟨_,O,jG _,by have:=ho.call a1 N;omega⟩
 exact⟨u (A.rg l[i])-(k+1),N,_,_,_,_,O,k+1,_,iX,P++[W e.2.1],pq,N,a2,bc,by rw[aU];simp;omega,fV (A:=[_])<|bd.over G⟩
end
section
variable{S:D Nat}{cs:Nat->Prop}
def WT(hw:Wf H)(h:vF cs H A q)(ho:A.Ok):bM Pg X 132 [q.v A] H (Q1 (λv Q=>Li H.bV 100000 (Ua A.nr) A.nr Q v) H):=by
 have G:=gM hw;have Jz:=ho.few;refine lF [0,1,2,3,4,5,16,17] ?_;refine G.box O λH1 E G=>?_;rw[lM]at G;refine G.uE 0 O (ax 6) ?_;refine G.cm (vG G.wf (h.ex G.ext) ho) ?_;rintro v H2 rfl M G;refine bN ?_;refine ig (λhb=>by cases hb) λ_=>?_;refine G.ld 0 (o:=0) O O ?_;refine bN ?_;refine G.mkS (ax _) N λH4 K G=>?_;rw[nC]at G;refine G.jM λH5 Y G=>G.j_ λHn G=>?_;refine fF ?_;have G:SH [] H Hn [(K,22,aY A.nr<|J T 0 0),(Y,124,[J (Z ⟨K,0,T⟩) A.nr A.nr]),(E,27,q.cells A)]:=G.perm<|iF _ _ _;refine lp2 5 17 (h1:=λm x5 BV Q=>∃(i:Nat)(vs:D C)(az:D eF),BV=W i/\i+m=A.nr/\u vs=A.nr/\(∀j,i<=j->j<A.nr->vs[j]?=Z (J T 0 0))/\(∀x∈vs,YX (Ua A.nr) x az)/\SH [] H Q ((K,22,vs)::(Y,124,[J (Z ⟨K,0,T⟩) A.nr A.nr])::(E,27,q.cells A)::az)) ?_ A.nr ⟨0,_,[],rfl,N,jX ..,λj _ hj=>by rw[lZ,jj hj],λx M=>by rw[qp M];exact .inl ⟨0,O⟩,G⟩;clear G;rintro m x5 BV oW H6 ⟨i,vs,az,rfl,ab,w,d,hq,G⟩;refine mG (λhc=>?_) λhc=>?_
 .refine tl ?_;refine G.qE<|rr ?_;exact⟨⟨_,_,vs,O,jC.one G (aK ..) N<|G.yu<|aK ..,λx M=>(hq x M).nums G λe he=>by simp[he]⟩,G.ext⟩
 have hi:i<A.nr:=N;show bM Pg X 158 [W i,pt E,pt Y] H6 _;refine dn (Ur h ho hi w (d i (ax _) hi) G) ?_;rintro _ H7 ⟨v,gb,hv,G⟩;refine eD ?_;refine⟨A.nr-(i+1),N,_,_,_,_,O,i+1,vs.set i v,gb++az,pq,N,by rw[bU];exact w,λj I B=>?_,λx V=>?_,G⟩
 .rw[List.getElem?_set_ne N];exact d j N B
 .rcases iT V with g|rfl
  .exact(hq x g).imp_right λ⟨r,n,c,F,j,P,U,g3⟩=>⟨r,n,c,F,j,P,dL _ U,g3⟩
  .exact hv.imp_right λ⟨r,n,c,F,j,P,U,g3⟩=>⟨r,n,c,F,j,P,dM _ U,g3⟩
def index_spec{bs:D Bool}(T:Wf H)(P:u bs<=1000000)(E:jC cs 4 H a (u bs) 1<|bs.map aO):bM Pg X 156 [J a (u bs) c,aO f] H (Q0 (λv=>∃z:Int,v=vi z) H):=by
 refine GV [0,1,4,5,7,8] ?_;refine Gg 4 5 8 (h1:=λm K M w Q=>∃i:Nat,w=W i/\i+m=u bs/\Q=H) ?_ (u bs) ⟨0,rfl,N,rfl⟩;rintro m K M w U H1 ⟨i,rfl,I,rfl⟩;refine mG (λB=>?_) λB=>?_
 .refine tl<|rr ?_;exact⟨⟨_,O⟩,O⟩
 have d:i<u bs:=N;refine E.ix d (v:=aO bs[i]) (by rw[bL,av d];rfl) λp=>?_;refine dA (v:=aO bs[i]) (by cases bs[i]<;>kernel_rfl) ?_;refine sD (λ_=>?_) λ_=>?_
 .refine rr ?_;exact⟨⟨_,O⟩,O⟩
 .refine eD ?_;exact⟨u bs-(i+1),N,_,_,_,_,_,O,i+1,pq,N,O⟩
theorem WU(w:Wf H)(B:n<=1000)(h:Li b 100000 (Ua n) n H v):bM Pg X 131 [v] H (Q1 (λv _=>∃z:Int,v=vi z) H):=by
 refine lF [0,2] ?_;refine dn (Ko w B N ⟨b,h⟩) ?_;rintro _ H1 ⟨⟨a,c,K,rfl,d,m⟩,M⟩;rw[<-d]at m|-;have G:=(gM w).call M;refine dn (index_spec (cs:=(H.bV<=·)) G.wf N m) ?_;rintro _ I ⟨E,rfl⟩;refine rr ?_;exact⟨E,M⟩
def aaI(w:Wf H)(h:vF cs H A q)(ho:A.Ok):bM Pg X 98 [q.v A] H (Q1 (λv _=>∃z:Int,v=vi z) H):=by
 have G:=gM w;refine lF [0,1,2] ?_;refine G.box O λH1 E G=>?_;rw[lM]at G;refine G.uE 0 O (ax 6) ?_;refine G.cm (vG G.wf (h.ex G.ext) ho) ?_;rintro v I rfl M G;refine bN ?_;refine ig (λm=>by cases m) λ_=>?_;refine G.uE 0 O (ax 6) ?_;refine G.cm (WT G.wf (h.ex G.ext) ho) ?_;rintro v K d M G;refine G.cm (WU G.wf ho.few d) ?_;rintro v N B M G;refine rr ?_;exact⟨B,G.ext⟩
end
section
variable{S:D Nat}{cs:Nat->Prop}
def aoB(A:At)(H:R)(v:C):Prop:=∀(Q:R)(s:Nat)(e:Ed),Ext H Q->Wf Q->e∈A.rg s->qh Pg X (Oo v) [dN ⟨[W e.1,W e.2.1,W e.2.2]⟩] Q (Q1 (λv _=>∃b:Bool,v=aO b) Q)
def aaJ{d:Nat}{l:D Bool}(h:H.cell d 0=Z v)(m:d<H.bV)(hl:Bs b H A.nr v l)(ho:A.Ok):aoB A H (.func (.func 128) ⟨[]⟩ ⟨[pt d]⟩):=by
 intro Q s e M I E;have hl:=hl.ex M;have h:Q.cell d 0=Z v:=(l8 (M.obj d m gB) 0).trans h;have m:=aP m M.bV;show bM Pg X 128 [_,pt d] Q _;have G:=gM I;refine lF [0,1,2,3] ?_;refine G.box O λH1 K G=>?_;have G:SH [] Q H1 [(K,121,[W e.1,W e.2.1,W e.2.2])]:=G;refine ym (λB=>?_) λB=>?_
 .refine rr ?_;exact⟨⟨f,O⟩,G.ext⟩
 refine ym (λw=>?_) λw=>?_
 .refine G.CJ h m<|G.qE ?_;obtain⟨P,T,rfl,_⟩:=id hl;refine(hl.ex G.ext).at (ho.call E N) λp t U=>rr ?_;exact⟨⟨t,O⟩,G.ext⟩
 .refine rr ?_;exact⟨⟨aA,O⟩,G.ext⟩
def aea(z:Int):bM Pg X 130 [vi z] H (Q0 (λv=>∃b,v=aO b) H):=by
 refine GV [0,2] ?_;refine rr ?_;exact⟨⟨_,O⟩,O⟩
def Us(T:u zs<=1000000)(I:jC cs 3 H a (u zs) 1<|zs.map vi):bM Pg X 129 [J a (u zs) c,.func (.func 130) ⟨[]⟩ ⟨[]⟩] H (Q0 (λv=>∃z:Int,v=vi z) H):=by
 refine GV [0,1,4,5,7,8] ?_;refine Gg 4 5 8 (h1:=λm M P w Q=>∃i:Nat,w=W i/\i+m=u zs/\Q=H) ?_ (u zs) ⟨0,rfl,N,rfl⟩;rintro m M P w U H1 ⟨i,rfl,K,rfl⟩;refine mG (λE=>?_) λE=>?_
 .refine tl<|rr ?_;exact⟨⟨_,O⟩,O⟩
 have d:i<u zs:=N;refine I.ix d (jV _<|av d) λp=>?_;show bM Pg X 130 [vi zs[i]] H1 _;refine dn (aea _) ?_;rintro _ _ ⟨⟨b,rfl⟩,rfl⟩;refine sD (λB=>?_) λB=>?_
 .refine rr ?_;exact⟨⟨_,O⟩,O⟩
 .refine eD ?_;exact⟨u zs-(i+1),N,_,_,_,_,_,O,i+1,pq,N,O⟩
def Rv{v:Int}:(l.map vi).set k (vi v)=(l.set k v).map vi:=gW.symm
def Btw(a b:Int)(l:D Int):Prop:=∀z∈l,a<=z/\z<=b
def Btw.wk{a b a' b':Int}(h:Btw a b l)(I:a'<=a)(B:b<=b'):Btw a' b' l:=λz d=>⟨wQ I (h z d).1,wQ (h z d).2 B⟩
def Btw.set{a b z:Int}(h:Btw a b l)(I:a<=z)(B:z<=b):Btw a b (l.set k z):=λy d=>by
 rcases iT d with g|rfl
 .exact h y g
 .exact⟨I,B⟩
def pos(l:D Int):Nat:=l.countP λz=>decide<|0<z
def ajR(l:D Int):pos l<=u l:=List.countP_le_length
def agM(h:k<u l)(z:Int):pos (l.set k z)+(if 0<l[k]then 1 else 0)=pos l+(if 0<z then 1 else 0):=by
 unfold pos;rw[List.countP_set h]
 have:(if 0<l[k]then 1 else 0)<=l.countP λz=>decide (0<z):=by
  split
  .next g=>exact List.countP_pos_iff.2 ⟨_,bH h,om g⟩
  .exact bD _
 simp only[kX];omega
theorem JB(hw:Wf H)(h:vF cs H A q)(ho:A.Ok):bM Pg X 97 [q.v A] H (Q1 (λv _=>∃z:Int,v=vi z) H):=by
 have G:=gM hw;have bd:=ho.big;have Jz:=ho.few;refine lF [0,1,2,3,4,5,7,9,10,11,12,13,14,16,27,28,29,33,34,35,55,56,57,107,108,109] ?_;refine G.box O λH1 E G=>?_;rw[lM]at G;refine G.uE 0 O (ax 6) ?_;refine G.cm (vG G.wf (h.ex G.ext) ho) ?_;rintro v H2 rfl M G;refine bN ?_;refine ig (λhb=>by cases hb) λ_=>?_;refine G.uE 0 O (ax 6) ?_;refine G.cm (GH G.wf (h.ex G.ext) ho) ?_;rintro v H4 ⟨l,hl,_⟩ M G;obtain⟨ea,ec,rfl,_⟩:=id hl;refine G.ns O O O λH5 re G bi=>?_;have Y:SH [] H H5 [(re,34,[J ea A.nr ec]),(E,27,q.cells A)]:=G;have ac:E<H5.bV:=(Y.lo _<|aT (i:=1) O).2;have a8:=aaJ ((Y.get 0 O).cell O) (Y.lo _<|aT (i:=0) O).2 (hl.ex bi) ho;have cS:∀{k v},(q.cells A)[k]?=Z v->H5.cell E k=Z v:=λhv=>(Y.get 1 O).cell hv;have cN:H5.read E 0 6=Z (q.cells A):=(Y.get 1 O).read<|ax 6;have hA:vF cs H5 A q:=h.ex Y.ext;have a2:=Y.ext;have YD:=Y.wf;clear G M hl Y;have G:=gM YD;refine G.BN (o:=0) (n:=6) (vs:=q.cells A) cN ac<|dn (vR G.wf q A) ?_;rintro v H6 ⟨rfl,M⟩;have G:=G.call M;refine G.mkS (ax _) N λH7 di G=>?_;rw[nC]at G;refine G.CJ (cS (k:=4) O) ac ?_;refine bN ?_;have hz:∀n,aY n (a_ bC 0)=(aY n 0:D Int).map vi:=λn=>ko.symm;have b0:∀n,Btw 0 0 (aY n 0):=λn z h=>by rw[qp h];omega
 rw[hz]at G;refine iC.yw λK hK=>lp6 7 9 29 33 34 35 (h1:=λm x7 x9 a9 CK bl FP Q=>∃(i:Nat)(zs:D Int),a9=W i/\i+m=A.ns/\u zs=A.ns/\Btw 0 (A.pre i) zs/\SH [] H5 Q [(di,3,zs.map vi)]) ?_ A.ns ⟨0,_,rfl,N,jX ..,(b0 _).wk N N,G⟩;clear G;rintro m x7 x9 a9 CK bl FP oW H8 ⟨i,zs,rfl,bf,B,d,G⟩;refine mG (λhc=>?_) λhc=>?_
 .subst hK;refine bN ?_;have bz:=At.AP ho i;replace d:=d.wk (lX 0) (show(A.pre i:Int)<=100000 by omega);refine tp ?_;refine G.CJ (cS (k:=0) O) ac ?_;refine bN ?_;refine G.mkS (ax _) N λH9 dl G=>?_;rw[nC,hz]at G;refine Ov 11 12 13 57 (h1:=λm jh mQ jY ba Q=>∃(i:Nat)(gb:D eF)(V:D Int)(nx:D Nat),ba=W i/\i+m=A.ns/\u V=A.nr/\Btw 0 i V/\(∀s∈nx,s<A.ns)/\u nx<=i/\GB 3 1 jh (gq nx) gb/\SH [] H5 Q ((dl,3,V.map vi)::(di,3,zs.map vi)::gb)) ?_ A.ns ⟨0,[],_,[],rfl,N,jX ..,b0 _,nofun,ax _,GB.nil _ _,G⟩;clear G;rintro m jh mQ jY ba bp Cw ⟨i,gb,V,nx,rfl,bf,P,I,U,bx,hg,G⟩;refine mG (λhc=>?_) λhc=>?_
  .have b3:=ajR zs;refine tl ?_;refine lp6 11 14 16 107 108 109 (h1:=λm jh vE rT a0 bc an Q=>∃(aa:Nat)(gb:D eF)(V zs:D Int)(nx:D Nat),aa+m<=8000/\pos zs+u nx<=m/\u V=A.nr/\Btw (-aa) 4000 V/\u zs=A.ns/\Btw (-(aa*100000:Nat)) 100000 zs/\(∀s∈nx,s<A.ns)/\GB 3 1 jh (gq nx) gb/\SH [] H5 Q ((dl,3,V.map vi)::(di,3,zs.map vi)::gb)) ?_ (pos zs+u nx) ⟨0,gb,V,zs,nx,N,ax _,P,I.wk N N,B,d.wk N N,U,hg,G⟩;clear G hg U I P d B;rintro m jh vE rT a0 bc an br Rt ⟨aa,gb,V,zs,nx,b2,hm,P,I,B,d,U,hg,G⟩;refine tl ?_
   have a5:bM Pg X 129 [J (Z ⟨dl,0,T⟩) A.nr A.nr,.func (.func 130) ⟨[]⟩ ⟨[]⟩] Rt (Q0 (λv=>∃z:Int,v=vi z) Rt):=by
    have:=jC.one (cs:=λ_=>True) G (aK ..) (show _=A.nr*1 by rw[aM,P,dY]) trivial;rw[<-P]at this|-;exact Us N this
   rcases hg with⟨rfl,hn,rfl⟩|⟨r,n,fE,rfl,hn,rfl⟩
   .refine bN ?_;refine aV (λhc=>N) λ_=>?_;refine tl<|dn a5 ?_;rintro v Q ⟨hv,rfl⟩;refine rr ?_;exact⟨hv,a2.trans G.ext⟩
   have hn:u nx=n:=om hn;subst hn;refine MQ (λhc=>?_) λhc=>?_
   .refine tl<|dn a5 ?_;rintro v Q ⟨hv,rfl⟩;refine rr ?_;exact⟨hv,a2.trans G.ext⟩
   obtain⟨AY,cur,rfl⟩:∃a b,nx=a++[b]:=⟨nx.dropLast,nx.getLast (λe=>by subst e;simp at hc),(oL _).symm⟩;have aq:u (AY++[cur])=u AY+1:=gB;rw[aq]at hm|-;have KY:cur<A.ns:=U cur gB;refine rA ?_;rw[show((u AY+1:Nat):Int)-1=(u AY:Nat) by omega];refine G.ix (v:=W cur) N gB λp=>?_;refine rA ?_;rw[show((u AY+1:Nat):Int)-1=(u AY:Nat) by omega];refine dA (De N)<|G.CJ (cS (k:=3) O) ac<|(hA.ex G.ext).CJ KY λp=>?_;have a6:=ho.o cur KY;have aw:=I _<|bH (show A.aj cur<u V by omega);refine G.ix a6 (jV _<|av N) λp=>?_;refine rA ?_;refine G.Yi a6 (by rw[aM];omega) (kk:=λp am G=>?_);rw[Rv]at G;replace I:=(I.wk (a':=-((aa+1:Nat):Int)) N<|lX _).set (k:=A.aj cur) (z:=V[A.aj cur]-1) N N;replace P:u (V.set (A.aj cur)<|V[A.aj cur]-1)=A.nr:=by rw[bU];exact P
   generalize V.set (A.aj cur) (V[A.aj cur]-1)=ys' at I P G;clear aw;have G:SH [] H5 am ((dl,3,ys'.map vi)::(di,3,zs.map vi)::[(r,3,gq (AY++[cur])++fE)]):=G;refine G.CJ (cS (k:=4) O) ac<|hA.ldE G.ext KY λp fa fc hE=>?_;refine bN ?_;have hg:GB 3 1 (J (Z ⟨r,0,T⟩) (u AY)<|gK 1) (gq AY) [(r,3,gq (AY++[cur])++fE)]:=.inr ⟨r,_,W cur::fE,O,gB,gB⟩;have bw:=ho.len cur;refine Gg 11 16 109 (h1:=λm' jh rT an Q=>∃(k:Nat)(gb:D eF)(zs:D Int)(nx:D Nat),an=W k/\k+m'=u (A.rg cur)/\pos zs+u nx+1<=m/\u zs=A.ns/\Btw (-((aa*100000+k:Nat):Int)) 100000 zs/\(∀s∈nx,s<A.ns)/\GB 3 1 jh (gq nx) gb/\SH [] H5 Q ((di,3,zs.map vi)::(dl,3,ys'.map vi)::gb)) ?_ (u<|A.rg cur) ⟨0,_,zs,AY,rfl,N,N,B,d.wk N<|lX _,λs hs=>U s<|by simp[hs],hg,G.perm<|iF _ _ _⟩;clear G hg d B U hm;rintro m' b4 b5 bt bv bb ⟨k,gb,zs,nx,rfl,bg,hm,B,d,U,hg,G⟩;refine mG (λad=>?_) λad=>?_
   .exact⟨pos zs+u nx,N,_,_,_,_,_,_,_,_,O,aa+1,gb,ys',zs,nx,N,ax _,P,I,B,d.wk N<|lX _,U,hg,G.perm<|iF _ _ _⟩
   have al:k<u (A.rg cur):=N;refine KX (hE.ex G.ext) al λp=>?_;have ab:=bH al;have⟨g1,_,_⟩:=ho.e cur KY _ ab;generalize(A.rg cur)[k]=e at ab g1|-;have US:=d _<|bH (show e.2.2<u zs by omega);have ar:=agM (show e.2.2<u zs by omega)<|zs[e.2.2]-1;refine G.ns O O O λa1 aE G _=>?_;have G:SH [] H5 a1 ((aE,121,[W e.1,W e.2.1,W e.2.2])::(di,3,zs.map vi)::(dl,3,ys'.map vi)::gb):=G;refine G.uE 0 O (ax 3) ?_;refine qh.mono (a8 a1 cur e G.ext G.wf ab) ?_;rintro v bm ⟨⟨b,rfl⟩,GY⟩;have G:=G.call GY;refine sD (λao=>?_) λao=>?_
   .refine eD ?_;exact⟨u (A.rg cur)-(k+1),N,_,_,_,_,_,O,k+1,gb,zs,nx,pq,N,hm,B,d.wk N<|lX _,U,hg,fV (A:=[_]) G⟩
   refine G.ld 0 (o:=2) O O<|G.ix g1 (jV _<|av N) λp=>?_;refine rA ?_;refine G.Yi g1 (by rw[aM];omega) (kk:=λp bn G=>?_);rw[Rv]at G;have a3:=(d.wk (a':=-((aa*100000+(k+1):Nat):Int)) N<|lX _).set (k:=e.2.2) (z:=zs[e.2.2]-1) N N;have a4:u (zs.set e.2.2<|zs[e.2.2]-1)=A.ns:=by rw[bU];exact B
   have bj:(zs.set e.2.2<|zs[e.2.2]-1)[e.2.2]?=Z (zs[e.2.2]-1):=by rw[dX,jj O,jj N]
   refine G.ld 0 (o:=2) O O<|G.ix g1 (jV _ bj) λp=>?_;refine tJ (λbe=>?_) λbe=>?_
   .rw[jj N,jx N]at ar;refine G.ld 0 (o:=2) O O<|hg.push (G.perm<|aG (l₁:=[_,_,_]) (l₂:=gb)) N O O O O O N (by rw[aM];omega) λw v' bo iX ap G=>?_;have G:=G.perm<|aG (l₂:=[_,_,_]) (l₁:=iX);refine eD ?_;refine⟨u (A.rg cur)-(k+1),N,_,_,_,_,_,O,k+1,iX,_,nx++[e.2.2],pq,N,by rw[aU];simp;omega,a4,a3,λs hs=>?_,?_,fV (A:=[_]) G⟩
    .rcases cB.1 hs with hs|hs
     .exact U s hs
     .rw[aS]at hs;subst hs;exact g1
    .have e2:gq (nx++[e.2.2])=gq nx++[W e.2.2]:=gB;rw[e2];exact ap
   .refine eD ?_;refine⟨u (A.rg cur)-(k+1),N,_,_,_,_,_,O,k+1,gb,_,nx,pq,N,?_,a4,a3,U,hg,fV (A:=[_]) G⟩;split at ar<;>split at ar<;>omega
  have hi:i<A.ns:=N;refine G.ix hi (jV _<|av N) λp=>?_;refine bN ?_;refine G.CJ (cS (k:=3) O) ac<|(hA.ex G.ext).CJ hi λp=>?_;have a7:=ho.o i hi;have aw:=I _<|bH (show A.aj i<u V by omega);refine G.ix a7 (jV _<|av N) λp=>?_;refine eD ?_;refine G.Yi a7 (by rw[aM];omega) (kk:=λp am G=>?_);rw[Rv]at G;replace I:=(I.wk (b':=((i+1:Nat):Int)) (lX _) N).set (k:=A.aj i) (z:=V[A.aj i]+1) N N;replace P:u (V.set (A.aj i)<|V[A.aj i]+1)=A.nr:=by rw[bU];exact P
  generalize V.set (A.aj i) (V[A.aj i]+1)=ys' at I P G;clear aw;refine aV (λad=>?_) λad=>?_
  .refine hg.push (G.perm<|aG (l₁:=[_,_]) (l₂:=gb)) N O O O O O N (by rw[aM];omega) λw v' bb iX ap G=>?_;have G:=G.perm<|aG (l₂:=[_,_]) (l₁:=iX);refine eD ?_;refine⟨A.ns-(i+1),N,_,_,_,_,_,_,O,i+1,iX,ys',nx++[i],pq,N,P,I,λs hs=>?_,by rw[aU];simp;omega,?_,G⟩
   .rcases cB.1 hs with hs|hs
    .exact U s hs
    .rw[aS]at hs;omega
   .have e:gq (nx++[i])=gq nx++[W i]:=gB;rw[e];exact ap
  .refine eD ?_;exact⟨A.ns-(i+1),N,_,_,_,_,_,_,O,i+1,gb,ys',nx,pq,N,P,I,U,N,hg,G⟩
 have hi:i<A.ns:=N;refine hA.ldE G.ext hi λp fa fc hE=>?_;refine bN ?_;have bh:=At.yg ho hi;have b1:=At.AP ho<|i+1;refine lp2 9 35 (h1:=λm x9 FP Q=>∃(k:Nat)(zs:D Int),FP=W k/\k+m=u (A.rg i)/\u zs=A.ns/\Btw 0 ((A.pre i+k:Nat):Int) zs/\SH [] H5 Q [(di,3,zs.map vi)]) ?_ (u<|A.rg i) ⟨0,zs,rfl,N,B,d,G⟩;clear G B d;rintro m' x9 FP OH H9 ⟨k,zs,rfl,bg,B,d,G⟩;refine mG (λad=>?_) λad=>?_
 .refine tl ?_;refine eD ?_;subst hK;exact⟨A.ns-(i+1),N,_,_,_,_,_,_,_,_,O,i+1,zs,pq,N,B,d.wk (lX _) N,G⟩
 have al:k<u (A.rg i):=N;refine KX (hE.ex G.ext) al λp=>?_;have ab:=bH al;have YK:=ho.len i;have⟨g1,_,_⟩:=ho.e i hi _ ab;generalize(A.rg i)[k]=e at ab g1|-;have US:=d _<|bH (show e.2.2<u zs by omega);refine G.ns O O O λCw aE G _=>?_;have G:SH [] H5 Cw [(aE,121,[W e.1,W e.2.1,W e.2.2]),(di,3,zs.map vi)]:=G;refine G.uE 0 O (ax 3) ?_;refine qh.mono (a8 Cw i e G.ext G.wf ab) ?_;rintro v Rt ⟨⟨b,rfl⟩,GY⟩;have G:=G.call GY;refine sD (λao=>?_) λao=>?_
 .refine G.ld 0 (o:=2) O O<|G.ix g1 (jV _<|av N) λp=>?_;refine eD ?_;refine G.Yi g1 (by rw[aM];omega) (kk:=λp am G=>?_);have G:=fV (A:=[_]) G;rw[Rv]at G;refine eD ?_;exact⟨u (A.rg i)-(k+1),N,_,_,_,_,O,k+1,_,pq,N,by rw[bU];exact B,(d.wk (lX _) N).set N N,G⟩
 .refine eD ?_;exact⟨u (A.rg i)-(k+1),N,_,_,_,_,O,k+1,zs,pq,N,B,d.wk (lX _) N,fV (A:=[_]) G⟩
end
section
variable{S:D Nat}{cs:Nat->Prop}
def Use(A:At)(b:Nat)(H:R)(x:C):Prop:=∃q':AV,x=q'.v A/\vF (b<=·) H A q'
def NF(hw:Wf H)(h:vF cs H A q)(ho:A.Ok):bM Pg X 69 [q.v A] H (Qe (λv Q=>∃(x:C)(m z:Int),v=fJ ⟨[x,vi m,vi z]⟩/\u (cr x)=6/\all' gI (cr x)=f/\(m=0->Use A.trim H.bV Q x)) H):=by
 have G:=gM hw;have K:=At.Ll ho;refine lF [0,1,2,3,4,5,6,7] ?_;refine G.box O λH1 E G=>?_;rw[lM]at G;refine G.jM λH2 ro G=>G.uE 1 O (ax 6) ?_;refine G.cm (vG G.wf (h.ex G.ext) ho) ?_;rintro v H3 rfl M G;refine bN ?_;refine ig (λP=>by cases P) λ_=>?_;refine G.uE 1 O (ax 6) ?_;refine G.cm (aay G.wf (h.ex G.ext) ho) ?_;rintro v H4 ⟨l,hl,ab⟩ M G;obtain⟨ea,ec,rfl,_⟩:=id hl;refine hl.at ho.pos λp t ht=>?_;refine G.kN ?_;refine ig (λP=>?_) λP=>?_
 .refine PU.b6 O<|G.j_ λN G=>rr ?_;apply G.jl;exact⟨⟨_,_,_,O,O,O,λh=>absurd h jg⟩,G.ext⟩
 refine G.uE 1 O (ax 6) ?_;refine dn (PZ G.wf (h.ex G.ext) ho) ?_;rintro v H5 ⟨⟨q',rfl,d⟩,M⟩;have U:=G.ext.bV;have W:=(G.lo _<|aT (i:=0) O).2;have V:=(G.lo _<|aT (i:=1) O).2;have G:=G.call M;refine G.ns O O O λH6 rt G Y=>?_;have G:SH [] H H6 [(rt,27,q'.cells A.trim),(ro,27,[J T 0 0,J T 0 0,J T 0 0,J T 0 0,J T 0 0,vi 0]),(E,27,q.cells A)]:=G;have d:=d.ex Y;refine G.uE 0 O (ax 6) ?_;refine G.cm (JB G.wf d K) ?_;rintro _ H7 ⟨z,rfl⟩ M G;have d:=d.ex M;refine yl (λI=>?_) λI=>?_
 .refine PU.b6 O<|G.j_ λN G=>rr ?_;apply G.jl;exact⟨⟨_,_,_,O,O,O,λh=>absurd h jg⟩,G.ext⟩
 subst I;refine G.uE 0 O (ax 6) ?_;refine G.cm (aaI G.wf d K) ?_;rintro _ H8 ⟨z,rfl⟩ M G;have d:=d.ex M;refine yl (λI=>?_) λI=>?_
 .refine PU.b6 O<|G.j_ λN G=>rr ?_;apply G.jl;exact⟨⟨_,_,_,O,O,O,λh=>absurd h jg⟩,G.ext⟩
 subst I;refine G.uE 0 O (ax 6) ?_;have B:=fV (A:=[_]) G;have G:=B.base;refine G.j_ λN G=>rr ?_
 exact G.jl<|⟨⟨_,_,_,O,O,O,λ_=>⟨q',rfl,(d.stay G.ext λr w=>by
  have w:r∈[ro,E]:=w;simp at w;rcases w with rfl|rfl
  .exact fI W
  .exact fI V).wk λr w=>aR U w⟩⟩,(B.over G).ext⟩
abbrev agN:D C:=[J T 0 0,J T 0 0,J T 0 0,J T 0 0,J T 0 0,vi 0]
def WV(B:Wf H)(h:vF cs H A q)(ho:A.Ok):bM Pg X 51 [q.v A] H (Q1 (λv _=>∃d z:Int,v=fJ ⟨[vi d,vi z]⟩) H):=by
 have G:=gM B;refine lF [0,1,2,3,5,6] ?_;refine G.box O λH1 E G=>?_;rw[lM]at G;refine G.uE 0 O (ax 6) ?_;refine G.cm (NF G.wf (h.ex G.ext) ho) ?_;rintro v K ⟨x,d,z,rfl,m,w,_⟩ M G;refine bN ?_;refine G.ns m O w λN P G I=>rr ?_;exact⟨⟨_,_,O⟩,G.ext⟩
def At.aeb(h:A.Ok):A.trim.tot<=A.tot:=At.adR (λi d=>by
 classical
 have:A.rg i=A.eg[i]:=by unfold At.rg;rw[av d];rfl
 unfold At.Nu;split
 .rw[this];exact m_ _ _
 .exact bD _) (rQ h.AX.symm)
def amG(H:R)(v:C)(Q:R):Prop:=∃(x:C)(ok:Int),v=fJ ⟨[x,vi ok]⟩/\(ok=0->x=dN ⟨agN⟩)/\(ok≠0->∃A,At.Ok A/\A.ns<=300/\A.ty<=5000/\A.tot<=2*A.ns/\A.trim=A/\Use A H.bV Q x)
def Ut(hw:Wf H)(hT:Dl H)(s:aZ):bM Pg X 42 [aJ s] H (Q1 (amG H) H):=by
 have G:=gM hw;refine lF [0,2,3,4,5,6,7] ?_;refine G.jM λH1 ro G=>?_;refine dn (aaE G.wf (hT.ex G.ext) s) ?_;rintro v H2 ⟨⟨x,ok,rfl,N,P,d⟩,M⟩;have al:=G.ext.bV;have am:=(G.lo _<|aT (i:=0) O).2;have G:=G.call M;refine bN ?_;refine G.ns N O P λH3 ra G Y=>?_;refine aV (λhc=>?_) λhc=>?_
 .refine PU.b6 O<|G.j_ λK G=>rr ?_;exact G.jl<|⟨⟨_,_,O,λ_=>rfl,λh=>absurd O h⟩,G.ext⟩
 obtain⟨A,q,rfl,d,I,ad,W,UW⟩:=d hc;have d:=d.ex Y;refine G.uE 0 O (ax 6)<|dn (vR G.wf q A) ?_;rintro v H4 ⟨rfl,M⟩;have G:=G.call M;have d:=d.ex M;refine tJ (λV=>?_) λV=>?_
 .refine PU.b6 O<|G.j_ λK G=>rr ?_;exact G.jl<|⟨⟨_,_,O,λ_=>rfl,λh=>absurd O h⟩,G.ext⟩
 refine tl<|G.uE 0 O (ax 6)<|dn (NF G.wf d I) ?_;rintro v H5 ⟨⟨x,ab,z,rfl,N,P,hU⟩,M⟩;have E:=G.ext.bV;have T:=(G.lo _<|aT (i:=1) O).2;have G:=G.call M;refine bN ?_;refine G.ns N O P λH6 rt G ac=>eU (λB=>?_) λB=>?_
 .refine PU.b6 O<|G.j_ λK G=>rr ?_;exact G.jl<|⟨⟨_,_,O,λ_=>rfl,λh=>absurd O h⟩,G.ext⟩
 obtain⟨q',rfl,U⟩:=hU B;refine G.uE 0 O (ax 6) ?_;have w:=fV (A:=[_,_]) G;have G:=w.base;refine G.j_ λK G=>rr ?_;apply G.jl
 exact⟨⟨_,_,O,λh=>absurd h jg,λ_=>⟨A.trim,At.Ll I,by show A.ns<=300;omega,W,aR (At.aeb I) UW,At.aaw I,q',rfl,((U.ex ac).stay G.ext λr m=>by
  have m:r∈[ro]:=m;simp at m;subst m;exact fI T).wk λr m=>aR E m⟩⟩,(w.over G).ext⟩
end
end Go.Proofs.Lv
namespace Go.Proofs.Lu
variable{n r:Nat}
def IB{m:Nat}{l:D (Nat×Nat)}(h:l.Nodup)(E:∀p∈l,p.1<m/\p.2<n):u l<=m*n:=by
 have B:(l.map λp=>p.1*n+p.2).Nodup:=by
  refine List.pairwise_map.2<|List.Pairwise.imp_of_mem (λ{a b} O K w e=>?_) h;have I:=E _ O;have B:=E _ K;refine w<|Prod.ext ?_ ?_
  .have d:=eY (·/n) e;have P:0<n:=N;simp only[wR _ n,Nat.mul_add_div P,vY I.2,vY B.2]at d;omega
  .have d:=eY (·%n) e;simp only[wR _ n,Nat.mul_add_mod,v_ I.2,v_ B.2]at d;exact d
 have w:=B.length_le_of_subset (l₂:=d_<|m*n) λx M=>by
  obtain⟨p,T,rfl⟩:=bT.1 M;have:=E p T;rw[jR]
  calc p.1*n+p.2<p.1*n+n:=N
   _=(p.1+1)*n:=by rw[jN]
   _<=m*n:=fH _ N
 simpa using w
namespace Wk
variable{a i r:Nat}
abbrev Sp:=Nat×Nat
variable{ay:Nat->Sp}
abbrev Sk:=D<|Nat×Nat×D Nat
def mY(s:Sk)(k:Nat):Nat×Nat×D Nat:=s[k-1]?.getD (0,0,[])
def K4(s:Sk)(r a:Nat):aC Nat:=s.findIdx? λe=>e.1==r&&e.2.1==a
def put(s:Sk)(r a aa:Nat):Sk×Nat×Bool:=
 match K4 s r a with
 |some i=>if aa∈(mY s<|i+1).2.2 then(s,i+1,aA)else(s.set i (r,a,(mY s<|i+1).2.2++[aa]),i+1,f)
 |none=>(s++[(r,a,[aa])],u s+1,f)
structure Rn where
 sk:Sk
 sp:D Sp
 en:D Nat
 ok:Bool
 ht:D (Nat×Sp)
def Rn.meet(x:Rn)(p:Sp):Rn:=if p∈x.sp then x else{x with sp:=x.sp++[p]}
def Rn.back(x:Rn)(p:Sp):Rn:=
 if p.2=0 then{x with ok:=f}else if p.2∈x.en then x
 else(mY x.sk p.2).2.2.foldl (λy aa=>y.meet ((mY x.sk p.2).1,aa)) {x with en:=p.2::x.en}
def Rn.hop(x:Rn)(q:Nat×Bool)(p:Sp):Rn:=if q.1∈x.en/\q.2=f then x.meet p else x
variable(A:At)(a:Nat)
def Rn.along(p:Sp)(x:Rn)(e:Ed):Rn:=
 if e.1=1 then x
 else if e.1=2 then
  ({x with sk:=(put x.sk e.2.2 a p.2).1}.meet (A.S e.2.1,(put x.sk e.2.2 a p.2).2.1)).hop (put x.sk e.2.2 a p.2).2 (e.2.2,p.2)
 else x.meet (e.2.2,p.2)
def Rn.one(x:Rn)(p:Sp):Rn:=(A.rg p.1).foldl (Rn.along A a p) (if p.1∈A.sp then x.back p else x)
def go:Nat->Nat->Rn->Rn
 |0,_,x=>x
 |n+1,i,x=>match x.sp[i]? with
  |none=>x
  |some p=>go n (i+1)<|x.one A a p
def bnd:Nat:=A.ns*(A.ns*(a+1)+1)
def close(s:Sk)(l:D Sp):Rn:=go A a (bnd A a+1) 0<|l.foldl Rn.meet ⟨s,[],[],aA,[]⟩
structure Sk.vn(s:Sk):Prop where
 nd:(s.map λe=>(e.1,e.2.1)).Nodup
 b:∀e∈s,(e.1<A.ns/\e.2.1<=a)/\∀aa∈e.2.2,aa<=u s
 aa:∀e∈s,e.2.2.Nodup
structure Rn.vn(x:Rn):Prop where
 sk:Sk.vn A a x.sk
 nd:x.sp.Nodup
 b:∀p∈x.sp,p.1<A.ns/\p.2<=u x.sk
variable{A:At}{a:Nat}{x:Rn}{s:Sk}{p:Sp}
def Sk.vn.le(h:Sk.vn A a s):u s<=A.ns*(a+1):=by
 have:=IB h.nd (m:=A.ns) (n:=a+1) λp w=>by
  obtain⟨e,d,rfl⟩:=bT.1 w;have:=(h.b e d).1;exact⟨this.1,N⟩
 simpa using this
def Sk.vn.few(h:Sk.vn A a s)(n:Nat):(mY s n).2.2.length<=u s+1:=by
 unfold mY;cases e:s[n-1]? with
 |none=>exact bD _
 |some x=>
  have M:=aT e;have:=(h.aa x M).length_le_of_subset (l₂:=d_<|u s+1) λaa d=>by have:=(h.b x M).2 aa d;rw[jR];omega
  simpa using this
def Rn.vn.le(h:x.vn A a):u x.sp<=bnd A a:=by
 have I:=IB h.nd (m:=A.ns) (n:=u x.sk+1) λp d=>⟨(h.b p d).1,by have:=(h.b p d).2;omega⟩;exact aR I<|g_ _ (by have:=h.sk.le;omega)
def Rn.vn.meet(h:x.vn A a)(I:p.1<A.ns)(B:p.2<=u x.sk):(x.meet p).vn A a:=by
 unfold Rn.meet;split
 .exact h
 .next m=>
  refine⟨h.sk,?_,λq hq=>?_⟩
  .refine l7.2 ⟨h.nd,gB,λq hq r d e=>?_⟩;rw[aS]at d;exact m<|d▸e▸hq
  .rcases cB.1 hq with hq|hq
   .exact h.b q hq
   .rw[aS]at hq;subst hq;exact⟨I,B⟩
def Rn.pR:(x.meet p).sk=x.sk:=by unfold Rn.meet;split<;>rfl
def Rn.vn.meets(l:D Nat):∀y:Rn,y.vn A a->(∀aa∈l,(ay aa).1<A.ns/\(ay aa).2<=u y.sk)->(l.foldl (λy aa=>y.meet<|ay aa) y).vn A a:=by
 induction l with
 |nil=>exactλy h _=>h
 |cons aa l m=>exactλy h d=>m _ (h.meet (d aa gB).1 (d aa gB).2) λv hv=>by rw[Rn.pR];exact d v (by simp[hv])
def IC(h:K4 s r a=Z i):i<u s/\(mY s<|i+1).1=r/\(mY s<|i+1).2.1=a/\mY s (i+1)∈s:=by
 unfold K4 at h;rw[List.findIdx?_eq_some_iff_getElem]at h;have⟨I,B,_⟩:=h;have e:mY s (i+1)=s[i]:=by unfold mY;rw[jo,av I];rfl
 rw[e];simp at B;exact⟨I,B.1,B.2,bH I⟩
def air(h:Sk.vn A a s){aa:Nat}(E:r<A.ns)(P:aa<=u s):Sk.vn A a (put s r a aa).1/\(put s r a aa).2.1<=(put s r a aa).1.length/\u s<=(put s r a aa).1.length:=by
 unfold put;split
 .next i d=>
  have⟨I,B,h3,h4⟩:=IC d;split
  .exact⟨h,I,ax _⟩
  .next m=>
   refine⟨⟨?_,λe he=>?_,λe he=>?_⟩,by rw[bU];exact I,by rw[bU];exact ax _⟩
   .have:(s.set i (r,a,(mY s<|i+1).2.2++[aa])).map (λe=>(e.1,e.2.1))=s.map λe=>(e.1,e.2.1):=by
     rw[gW];refine iQ λj=>?_;rw[dX];split
     .next M=>
      subst M;have e:mY s (i+1)=s[i]:=by unfold mY;rw[jo,av I];rfl
      rw[e]at B h3;simp[I,B,h3]
     .rfl
    rw[this];exact h.nd
   .rw[bU];rcases iT he with he|rfl
    .exact h.b e he
    .refine⟨⟨E,ax _⟩,λv hv=>?_⟩;rcases cB.1 hv with hv|hv
     .exact(h.b _ h4).2 v hv
     .rw[aS]at hv;omega
   .rcases iT he with he|rfl
    .exact h.aa e he
    .exact l7.2 ⟨h.aa _ h4,gB,λv hv w K e=>m (by rw[aS]at K;subst K;subst e;exact hv)⟩
 .next d=>
  refine⟨⟨?_,λe he=>?_,λe he=>?_⟩,gB,gB⟩
  .rw[dK];refine l7.2 ⟨h.nd,gB,λq N v hv e=>?_⟩;obtain⟨z,O,rfl⟩:=bT.1 N;simp only[i_,kI,aS]at hv;subst hv;unfold K4 at d;rw[uy]at d;have:=d z O;simp at this e;exact this e.1 e.2
  .rw[aU];rcases cB.1 he with he|he
   .exact⟨(h.b e he).1,λv hv=>by have:=(h.b e he).2 v hv;simp;omega⟩
   .rw[aS]at he;subst he;exact⟨⟨E,ax _⟩,λv hv=>by rw[aS]at hv;simp;omega⟩
  .rcases cB.1 he with he|he
   .exact h.aa e he
   .rw[aS]at he;subst he;simp
theorem Rn.vn.back(h:x.vn A a)(d:p∈x.sp):(x.back p).vn A a:=by
 unfold Rn.back;split
 .exact⟨h.sk,h.nd,h.b⟩
 split
 .exact h
 .next w _=>
  have B:=(h.b p d).2
  have e:mY x.sk p.2∈x.sk:=by
   unfold mY;rw[av (show p.2-1<u x.sk by omega)];exact bH _
  exact Rn.vn.meets (ay:=λaa=>((mY x.sk p.2).1,aa)) _ _ ⟨h.sk,h.nd,h.b⟩ λaa m=>⟨(h.sk.b _ e).1.1,(h.sk.b _ e).2 aa m⟩
def Rn.vn.along(ho:A.Ok)(h:x.vn A a)(w:p.1<A.ns/\p.2<=u x.sk){e:Ed}(d:e∈A.rg p.1):(x.along A a p e).vn A a/\u x.sk<=(x.along A a p e).sk.length:=by
 have d:=ho.e _ w.1 e d;unfold Rn.along;split
 .exact⟨h,ax _⟩
 split
 .next I B=>
  have M:e.2.1<A.nr:=by rcases d.2.2 with h|h|h<;>omega
  have⟨w1,w2,w3⟩:=air h.sk d.1 w.2;have K:Rn.vn A a ({x with sk:=(put x.sk e.2.2 a p.2).1}.meet (A.S e.2.1,(put x.sk e.2.2 a p.2).2.1)):=Rn.vn.meet ⟨w1,h.nd,λq E=>⟨(h.b q E).1,aR (h.b q E).2 w3⟩⟩ (ho.s _ M).1 w2;have m:({x with sk:=(put x.sk e.2.2 a p.2).1}.meet (A.S e.2.1,(put x.sk e.2.2 a p.2).2.1):Rn).sk=(put x.sk e.2.2 a p.2).1:=Rn.pR;unfold Rn.hop;split
  .exact⟨K.meet d.1 (by rw[m];omega),by rw[Rn.pR,m];exact w3⟩
  .exact⟨K,by rw[m];exact w3⟩
 .exact⟨h.meet d.1 w.2,by rw[Rn.pR];exact ax _⟩
def Rn.Uv(l:D Nat):∀y:Rn,(l.foldl (λy aa=>y.meet<|ay aa) y).sk=y.sk:=by
 induction l with
 |nil=>exactλ_=>rfl
 |cons aa l d=>exactλy=>(d _).trans Rn.pR
def Rn.Ls:(x.back p).sk=x.sk:=by
 unfold Rn.back;split
 .rfl
 split
 .rfl
 .exact Rn.Uv _ _
def Rn.vn.EO(ho:A.Ok)(w:p.1<A.ns)(l:D Ed):∀y:Rn,(∀e∈l,e∈A.rg p.1)->y.vn A a->p.2<=u y.sk->(l.foldl (Rn.along A a p) y).vn A a/\u y.sk<=(l.foldl (Rn.along A a p) y).sk.length:=by
 induction l with
 |nil=>exactλ_ _ h _=>⟨h,ax _⟩
 |cons e l E=>
  intro y m h B;have⟨w1,w2⟩:=h.along ho ⟨w,B⟩<|m e gB;have⟨w3,w4⟩:=E _ (λd hd=>m d<|by simp[hd]) w1<|aR B w2;exact⟨w3,aR w2 w4⟩
def Rn.vn.one(ho:A.Ok)(h:x.vn A a)(m:p∈x.sp):(x.one A a p).vn A a:=by
 have d:=h.b p m;unfold Rn.one;split
 .exact(Rn.vn.EO ho d.1 _ _ (λ_ h=>h) (h.back m) (by rw[Rn.Ls];exact d.2)).1
 .exact(Rn.vn.EO ho d.1 _ _ (λ_ h=>h) h d.2).1
def amI(ho:A.Ok):∀n i x,Rn.vn A a x->(go A a n i x).vn A a
 |0,_,x,h=>h
 |n+1,i,x,h=>by
  show Rn.vn A a (match x.sp[i]? with|none=>x|some p=>go A a n (i+1)<|x.one A a p);cases hp:x.sp[i]? with
  |none=>exact h
  |some p=>exact amI ho n (i+1) _<|h.one ho<|aT hp
end Wk
namespace Wk
variable{a b k:Nat}{l:D Sp}{s:Sk}
variable(A:At)
def zO(l:D Sp)(t:Int):D Sp:=(l.flatMap λp=>((A.rg p.1).filter λe=>e.1==1&&((e.2.1:Nat):Int)==t).map λe=>(e.2.2,p.2)).foldl (λo p=>if p∈o then o else o++[p]) []
def off(l:D Sp)(t:Int):Prop:=∃p∈l,∃e∈A.rg p.1,e.1=1/\((e.2.1:Nat):Int)=t
instance(l:D Sp)(t:Int):Decidable (off A l t):=by unfold off;exact inferInstance
structure ai where
 sk:Sk
 sp:D Sp
 ok:Bool
 long:Nat
 st:Nat
 s0:Sk
 fr:D Sp
def ai.of(x:Rn)(n k:Nat)(s:Sk)(l:D Sp):ai:=⟨x.sk,x.sp,x.ok,n,k+u x.sp,s,l⟩
def ai.new:ai:=.of (close A 0 [] [(A.S 0,0)]) 0 0 [] [(A.S 0,0)]
def ai.on(z:ai)(t:Int):ai:=.of (close A (z.long+1) z.sk<|zO A z.sp t) (z.long+1) z.st z.sk<|zO A z.sp t
def ai.feed(z:ai)(t:Int):ai:=if off A z.sp t then z.on A t else z
def ai.all(z:ai)(l:D Int):ai:=l.foldl (ai.feed A) z
def pick:D Int->D Bool->D Int
 |t::l,b::bs=>if b=f then t::pick l bs else pick l bs
 |_,_=>[]
variable{A:At}
def ai.aed(l:D Int)(t:Int)(z:ai):z.all A (l++[t])=(z.all A l).feed A t:=by unfold ai.all;rw[iR];rfl
structure ai.vn(A:At)(z:ai):Prop where
 sk:Sk.vn A z.long z.sk
 b:∀p∈z.sp,p.1<A.ns/\p.2<=u z.sk
 le:u z.sp<=bnd A z.long
 st:z.st<=(z.long+1)*bnd A z.long
 c:z.sk=(close A z.long z.s0 z.fr).sk/\z.sp=(close A z.long z.s0 z.fr).sp/\z.ok=(close A z.long z.s0 z.fr).ok
 s0:Sk.vn A z.long z.s0
 lt:∀e∈z.s0,e.2.1<z.long
 fr:∀p∈z.fr,p.1<A.ns/\p.2<=u z.s0
variable{z:ai}
def Sk.vn.up(h:Sk.vn A a s)(m:a<=b):Sk.vn A b s:=⟨h.nd,λe d=>⟨⟨(h.b e d).1.1,aR (h.b e d).1.2 m⟩,(h.b e d).2⟩,h.aa⟩
def GM(h:a<=b):bnd A a<=bnd A b:=g_ _<|wh<|g_ _ N
def Dt:∀(l:D Sp)(x:Rn),x.vn A a->(∀p∈l,p.1<A.ns/\p.2<=u x.sk)->(l.foldl Rn.meet x).vn A a:=by
 intro l
 induction l with
 |nil=>exactλx h _=>h
 |cons p l w=>exactλx h d=>w _ (h.meet (d p gB).1 (d p gB).2) λq m=>by rw[Rn.pR];exact d q (by simp[m])
def YY(ho:A.Ok)(hs:Sk.vn A a s)(hl:∀p∈l,p.1<A.ns/\p.2<=u s):(close A a s l).vn A a:=
 amI ho _ _ _ (Dt l ⟨s,[],[],aA,[]⟩ ⟨hs,ji,nofun⟩ hl)
def YZ{t:Int}{q:Sp}(h:q∈zO A l t):∃p∈l,∃e∈A.rg p.1,e.1=1/\((e.2.1:Nat):Int)=t/\q=(e.2.2,p.2):=by
 have w:∀(m o:D Sp),q∈m.foldl (λo p=>if p∈o then o else o++[p]) o->q∈m\/q∈o:=by
  intro m
  induction m with
  |nil=>exactλo h=>.inr h
  |cons p m B=>
   intro o h;rcases B _ h with h|h
   .exact .inl (by simp[h])
   .have h:q∈(if p∈o then o else o++[p]):=h;split at h
    .exact .inr h
    .rcases cB.1 h with h|h
     .exact .inr h
     .rw[aS]at h;exact .inl (by simp[h])
 rcases w _ _ h with h|h
 .have⟨p,hp,h⟩:=sV.1 h;obtain⟨e,d,rfl⟩:=bT.1 h;have d:=List.mem_filter.1 d;simp at d;exact⟨p,hp,e,d.1,d.2.1,d.2.2,O⟩
 .cases h
def ai.amJ(ho:A.Ok)(hs:Sk.vn A a s)(hl:∀p∈l,p.1<A.ns/\p.2<=u s)(hk:k<=a*bnd A a)(d:∀e∈s,e.2.1<a):ai.vn A (.of (close A a s l) a k s l):=
 have h:=YY ho hs hl
 ⟨h.sk,h.b,h.le,by
   have:=h.le;show k+_<=(a+1)*bnd A a;rw[jN];omega,⟨rfl,rfl,rfl⟩,hs,d,hl⟩
def ai.amK(ho:A.Ok):ai.vn A (ai.new A):=ai.amJ ho ⟨ji,(λe h=>by cases h),λe h=>by cases h⟩ (λp h=>by
 rw[aS]at h;subst h;exact⟨(ho.s 0 ho.pos).1,bD _⟩) (bD _) nofun
def ai.vn.nx(ho:A.Ok)(h:ai.vn A z)(t:Int):∀p∈zO A z.sp t,p.1<A.ns/\p.2<=u z.sk:=λq w=>by
 obtain⟨p,d,e,m,_,_,rfl⟩:=YZ w;exact⟨(ho.e _ (h.b p d).1 e m).1,(h.b p d).2⟩
def ai.vn.on(ho:A.Ok)(h:ai.vn A z)(t:Int):ai.vn A (z.on A t):=
 ai.amJ ho (h.sk.up<|jr _) (h.nx ho t) (aR h.st<|g_ _<|GM<|jr _) λe d=>pz (h.sk.b e d).1.2
def ai.vn.feed(ho:A.Ok)(h:ai.vn A z)(t:Int):ai.vn A (z.feed A t):=by
 unfold ai.feed;split
 .exact h.on ho t
 .exact h
end Wk
open Classical in
def At.Em(A:At)(r:Nat):Bool:=decide<|A.Mk aA<|A.S r
def At.aee{A:At}:A.Em r=f<->A.Mk aA (A.S r):=by unfold At.Em;simp
namespace Wk
variable{g h:Nat×Sp}{v:Nat×Nat×D Nat}{ay:Nat->Sp}{l:D Sp}{a i k:Nat}{r:Sk}{z:Rn}
section
variable(A:At)(hd em:Nat->Bool)(a:Nat)
def scan(h:Nat×Sp):D (Nat×Sp)->Bool
 |[]=>aA
 |g::l=>if g.2=h.2 then(if g=h then f else scan h l)else aA
def Rn.hit(x:Rn)(h:Nat×Sp):Rn:=if scan h x.ht.reverse=f then x else{x with ht:=x.ht++[h]}
def Rn.iJ(p:Sp)(x:Rn)(e:Ed):Rn:=
 if e.1=2/\hd e.2.1=f then(if em e.2.1=f then(x.hit (e.2.1,p)).meet (e.2.2,p.2)else x.hit (e.2.1,p))else x.along A a p e
def Rn.tF(x:Rn)(p:Sp):Rn:=(A.rg p.1).foldl (Rn.iJ A hd em a p) (if p.1∈A.sp then x.back p else x)
def DV:Nat->Nat->Rn->Rn
 |0,_,x=>x
 |n+1,i,x=>match x.sp[i]? with
  |none=>x
  |some p=>DV n (i+1)<|x.tF A hd em a p
def lG(s:Sk)(l:D Sp):Rn:=DV A hd em a (bnd A a+1) 0<|l.foldl Rn.meet ⟨s,[],[],aA,[]⟩
end
variable{A:At}{hd em:Nat->Bool}{x y X:Rn}{s t:Sk}{p q:Sp}{e:Ed}
def NH:Rn.iJ A (λ_=>aA) em a p x e=x.along A a p e:=jx λh=>nomatch h.2
def Y0:∀n i x,DV A (λ_=>aA) em a n i x=go A a n i x
 |0,_,_=>rfl
 |n+1,i,x=>by
  show(match x.sp[i]? with|none=>x|some p=>DV A (λ_=>aA) em a n (i+1)<|x.tF A (λ_=>aA) em a p)=(match x.sp[i]? with|none=>x|some p=>go A a n (i+1)<|x.one A a p);cases x.sp[i]? with
  |none=>rfl
  |some p=>
   show DV _ _ _ _ n (i+1) _=_;rw[Y0 n]
   have:x.tF A (λ_=>aA) em a p=x.one A a p:=by
    unfold Rn.tF Rn.one;rw[show Rn.iJ A (λ_=>aA) em a p=Rn.along A a p from funext λx=>funext λe=>NH]
   rw[this]
def AU:lG A (λ_=>aA) em a s l=close A a s l:=Y0 _ _ _
def Uw:∀{l:D (Nat×Sp)},scan h l=f->h∈l
 |[],g=>nomatch g
 |k::l,g=>by
  have g:(if k.2=h.2 then(if k=h then f else scan h l)else aA)=f:=g;split at g
  .split at g
   .next e=>subst e;simp
   .exact bJ _<|Uw g
  .cases g
def Rn.vH:(x.hit h).sk=x.sk/\(x.hit h).sp=x.sp/\(x.hit h).en=x.en/\(x.hit h).ok=x.ok:=by unfold Rn.hit;split<;>exact⟨O,O,O,O⟩
def Rn.Rw:g∈(x.hit h).ht<->g∈x.ht\/g=h:=by
 unfold Rn.hit;split
 .next e=>
  have:=Uw e;rw[List.mem_reverse]at this;exact⟨.inl,λh=>h.elim id λe=>e▸this⟩
 .simp
def Rn.vn.hit(w:x.vn A a):(x.hit h).vn A a:=by
 have⟨I,B,_⟩:=Rn.vH (x:=x) (h:=h);exact⟨I▸w.sk,B▸w.nd,by rw[I,B];exact w.b⟩
def Rn.vn.iJ(ho:A.Ok)(h:x.vn A a)(d:p.1<A.ns/\p.2<=u x.sk)(m:e∈A.rg p.1):(x.iJ A hd em a p e).vn A a/\u x.sk<=(x.iJ A hd em a p e).sk.length:=by
 unfold Rn.iJ;split
 .split
  .exact⟨h.hit.meet (ho.e _ d.1 e m).1 (by rw[Rn.vH.1];exact d.2),by rw[Rn.pR,Rn.vH.1];exact ax _⟩
  .exact⟨h.hit,by rw[Rn.vH.1];exact ax _⟩
 .exact h.along ho d m
def Rn.vn.Rx(ho:A.Ok)(w:p.1<A.ns)(l:D Ed):∀y:Rn,(∀e∈l,e∈A.rg p.1)->y.vn A a->p.2<=u y.sk->(l.foldl (Rn.iJ A hd em a p) y).vn A a/\u y.sk<=(l.foldl (Rn.iJ A hd em a p) y).sk.length:=by
 induction l with
 |nil=>exactλ_ _ h _=>⟨h,ax _⟩
 |cons e l E=>
  intro y m h B;have⟨w1,w2⟩:=h.iJ (hd:=hd) (em:=em) ho ⟨w,B⟩<|m e gB;have⟨w3,w4⟩:=E _ (λd hd=>m d<|by simp[hd]) w1<|aR B w2;exact⟨w3,aR w2 w4⟩
def Rn.vn.tF(ho:A.Ok)(h:x.vn A a)(m:p∈x.sp):(x.tF A hd em a p).vn A a:=by
 have d:=h.b p m;unfold Rn.tF;split
 .exact(Rn.vn.Rx ho d.1 _ _ (λ_ h=>h) (h.back m) (by rw[Rn.Ls];exact d.2)).1
 .exact(Rn.vn.Rx ho d.1 _ _ (λ_ h=>h) h d.2).1
def ais(ho:A.Ok):∀n i x,Rn.vn A a x->(DV A hd em a n i x).vn A a
 |0,_,x,h=>h
 |n+1,i,x,h=>by
  show Rn.vn A a (match x.sp[i]? with|none=>x|some p=>DV A hd em a n (i+1)<|x.tF A hd em a p);cases hp:x.sp[i]? with
  |none=>exact h
  |some p=>exact ais ho n (i+1) _<|h.tF ho<|aT hp
def ID(ho:A.Ok)(hs:Sk.vn A a s)(hl:∀p∈l,p.1<A.ns/\p.2<=u s):(lG A hd em a s l).vn A a:=
 ais ho _ _ _ (Dt l ⟨s,[],[],aA,[]⟩ ⟨hs,ji,nofun⟩ hl)
structure Sk.Le(s t:Sk):Prop where
 len:u s<=u t
 key:∀k,1<=k->k<=u s->(mY t k).1=(mY s k).1/\(mY t k).2.1=(mY s k).2.1/\∀aa∈(mY s k).2.2,aa∈(mY t k).2.2
def Sk.Le.refl(s:Sk):s.Le s:=⟨ax _,λk _ _=>⟨rfl,rfl,λaa h=>h⟩⟩
def Sk.Le.trans(h:s.Le t)(g:t.Le r):s.Le r:=⟨aR h.len g.len,λk I B=>by
 have⟨a1,a2,a3⟩:=h.key k I B;have⟨b1,b2,b3⟩:=g.key k I<|aR B h.len;exact⟨b1.trans a1,b2.trans a2,λaa d=>b3 aa<|a3 aa d⟩⟩
structure Rn.Le(x y:Rn):Prop where
 sp:x.sp<+:y.sp
 en:∀k∈x.en,k∈y.en
 ok:x.ok=f->y.ok=f
 sk:x.sk.Le y.sk
 ht:x.ht<+:y.ht
def Rn.Le.refl(x:Rn):x.Le x:=⟨iO _,λ_ h=>h,λh=>h,.refl _,iO _⟩
def Rn.Le.trans(h:x.Le y)(g:y.Le z):x.Le z:=⟨h.sp.trans g.sp,λk d=>g.en k<|h.en k d,λd=>g.ok<|h.ok d,h.sk.trans g.sk,h.ht.trans g.ht⟩
def Rn.Le.mem(h:x.Le y)(d:p∈x.sp):p∈y.sp:=h.sp.subset d
def Rn.sW:x.Le (x.meet p)/\p∈(x.meet p).sp:=by
 unfold Rn.meet;split
 .next h=>exact⟨.refl _,h⟩
 .exact⟨⟨List.prefix_append _ _,λ_ h=>h,λh=>h,.refl _,iO _⟩,gB⟩
def Rn.Ux(l:D Nat):∀y:Rn,y.Le (l.foldl (λy aa=>y.meet<|ay aa) y)/\∀aa∈l,ay aa∈(l.foldl (λy aa=>y.meet<|ay aa) y).sp:=by
 induction l with
 |nil=>exactλy=>⟨.refl _,nofun⟩
 |cons v l m=>
  intro y;have⟨I,B⟩:=m<|y.meet<|ay v;have d:=Rn.sW (x:=y) (p:=ay v);refine⟨d.1.trans I,λaa hu=>?_⟩;rcases bW.1 hu with rfl|hu
  .exact I.mem d.2
  .exact B aa hu
theorem NI(hk:1<=k)(hi:i<u s):mY (s.set i v) k=if k=i+1 then v else mY s k:=by
 unfold mY;rw[dX]
 by_cases h:k=i+1
 .subst h;rw[jo,jj O,jj hi,jj O];rfl
 .rw[jx N,jx h]
theorem NJ(hk:1<=k):mY (s++[v]) k=if k=u s+1 then v else if k<=u s then mY s k else(0,0,[]):=by
 unfold mY
 by_cases h:k=u s+1
 .subst h;rw[jo,jj O,eB<|ax _,kJ];rfl
 .rw[jx h]
  by_cases B:k<=u s
  .rw[jj B,bZ N]
  .rw[jx B,dB (by rw[aU,sG];omega)];rfl
structure aoE(a:Nat)(s:Sk)(r aa:Nat)(q:Sk×Nat×Bool):Prop where
 le:s.Le q.1
 lo:1<=q.2.1
 hi:q.2.1<=u q.1
 kr:(mY q.1 q.2.1).1=r
 ka:(mY q.1 q.2.1).2.1=a
 ku:aa∈(mY q.1 q.2.1).2.2
 o:∀k,1<=k->k<=u q.1->∀v∈(mY q.1 k).2.2,(k<=u s/\v∈(mY s k).2.2)\/(k=q.2.1/\v=aa/\q.2.2=f)
 n:∀k,u s<k->k<=u q.1->k=q.2.1
theorem aef(s:Sk)(r a aa:Nat):aoE a s r aa (put s r a aa):=by
 unfold put;split
 .next i E=>
  have⟨I,B,h3,h4⟩:=IC E;split
  .next K=>exact⟨.refl _,qH ..,I,B,h3,K,λk _ m v hv=>.inl ⟨m,hv⟩,λk m d=>absurd m<|fu d⟩
  .next K=>
   have w:mY (s.set i (r,a,(mY s<|i+1).2.2++[aa])) (i+1)=(r,a,(mY s<|i+1).2.2++[aa]):=by rw[NI (qH ..) I,jj O]
   refine⟨⟨by rw[bU];exact ax _,λk m d=>?_⟩,qH ..,by rw[bU];exact I,by rw[w],by rw[w],by rw[w];simp,λk m d v hv=>?_,λk m d=>absurd m (by rw[bU]at d;omega)⟩
   .rw[NI m I];split
    .next h=>subst h;exact⟨B.symm,h3.symm,λv hv=>by simp[hv]⟩
    .exact⟨O,O,λv hv=>hv⟩
   .rw[bU]at d;rw[NI m I]at hv;split at hv
    .next h=>
     subst h;rcases cB.1 hv with hv|hv
     .exact .inl ⟨d,hv⟩
     .exact .inr ⟨O,aS.1 hv,O⟩
    .exact .inl ⟨d,hv⟩
 .next E=>
  have w:mY (s++[(r,a,[aa])]) (u s+1)=(r,a,[aa]):=by rw[NJ (qH ..),jj O]
  refine⟨⟨gB,λk m d=>?_⟩,qH ..,gB,by rw[w],by rw[w],by rw[w];simp,λk m d v hv=>?_,λk m d=>by rw[aU,sG]at d;show k=u s+1;omega⟩
  .rw[NJ m,jx N,jj d];exact⟨O,O,λv hv=>hv⟩
  .rw[aU,sG]at d
   by_cases h:k=u s+1
   .subst h;rw[w]at hv;exact .inr ⟨O,aS.1 hv,O⟩
   .rw[NJ m,jx h,jj N]at hv;exact .inl ⟨N,hv⟩
def Rn.En(x:Rn):Prop:=∀k∈x.en,1<=k/\k<=u x.sk/\∀aa∈(mY x.sk k).2.2,((mY x.sk k).1,aa)∈x.sp
def Rn.En.meet(h:x.En):(x.meet p).En:=λk d=>by
 have d:k∈x.en:=by unfold Rn.meet at d;split at d<;>exact d
 have⟨I,B,h3⟩:=h k d;rw[Rn.pR];exact⟨I,B,λaa m=>Rn.sW.1.mem<|h3 aa m⟩
def Rn.aeg(l:D Nat):∀y:Rn,(l.foldl (λy aa=>y.meet<|ay aa) y).en=y.en:=by
 induction l with
 |nil=>exactλ_=>rfl
 |cons aa l d=>exactλy=>(d _).trans (by show(y.meet<|ay aa).en=_;unfold Rn.meet;split<;>rfl)
def Rn.Y2(h:x.En)(w:p.2<=u x.sk):(x.back p).En/\x.Le (x.back p)/\(p.2=0->(x.back p).ok=f)/\(p.2≠0->p.2∈(x.back p).en):=by
 unfold Rn.back;split
 .next d=>exact⟨h,⟨iO _,λ_ h=>h,λ_=>rfl,.refl _,iO _⟩,λ_=>rfl,λg=>absurd d g⟩
 split
 .next d I=>exact⟨h,.refl _,λg=>absurd g d,λ_=>I⟩
 .next d I=>
  have⟨g1,g2⟩:=Rn.Ux (ay:=λaa=>((mY x.sk p.2).1,aa)) (mY x.sk p.2).2.2 {x with en:=p.2::x.en};have g3:=Rn.Uv (ay:=λaa=>((mY x.sk p.2).1,aa)) (mY x.sk p.2).2.2 {x with en:=p.2::x.en};have m:=Rn.aeg (ay:=λaa=>((mY x.sk p.2).1,aa)) (mY x.sk p.2).2.2 {x with en:=p.2::x.en};refine⟨λk hk=>?_,⟨g1.sp,λk hk=>g1.en k<|bJ _ hk,g1.ok,g1.sk,g1.ht⟩,λg=>absurd g d,λ_=>g1.en _<|aK ..⟩;rw[m]at hk;rw[g3];rcases bW.1 hk with rfl|hk
  .exact⟨N,w,g2⟩
  .have⟨I,B,h3⟩:=h k hk;exact⟨I,B,λaa E=>g1.mem<|h3 aa E⟩
def Rn.NK:x.Le (x.hit h)/\h∈(x.hit h).ht:=by
 have⟨I,B,h3,h4⟩:=Rn.vH (x:=x) (h:=h);exact⟨⟨by rw[B];exact iO _,λk d=>by rw[h3];exact d,λd=>by rw[h4];exact d,by rw[I];exact .refl _,by unfold Rn.hit;split;exact iO _;exact List.prefix_append _ _⟩,Rn.Rw.2<|.inr O⟩
def Rn.En.hit(g:x.En):(x.hit h).En:=by
 have⟨I,B,h3,_⟩:=Rn.vH (x:=x) (h:=h);unfold Rn.En;rw[I,B,h3];exact g
def P4(A:At)(hd em:Nat->Bool)(a:Nat)(p:Sp)(x:Rn)(e:Ed):Prop:=
 (e.1≠1->e.1≠2->(e.2.2,p.2)∈x.sp)/\
 (e.1=2->hd e.2.1=f->(e.2.1,p)∈x.ht/\(em e.2.1=f->(e.2.2,p.2)∈x.sp))/\
 (e.1=2->hd e.2.1=aA->∃k,1<=k/\k<=u x.sk/\(mY x.sk k).1=e.2.2/\(mY x.sk k).2.1=a/\p.2∈(mY x.sk k).2.2/\(A.S e.2.1,k)∈x.sp)
def P4.le(h:P4 A hd em a p x e)(g:x.Le y):P4 A hd em a p y e:=
 ⟨λI B=>g.mem<|h.1 I B,λI B=>⟨g.ht.subset (h.2.1 I B).1,λd=>g.mem<|(h.2.1 I B).2 d⟩,λI B=>by
  have⟨k,k1,k2,k3,k4,k5,k6⟩:=h.2.2 I B;have⟨g1,g2,g3⟩:=g.sk.key k k1 k2;exact⟨k,k1,aR k2 g.sk.len,g1.trans k3,g2.trans k4,g3 _ k5,g.mem k6⟩⟩
def Rn.P5(h:x.En):(x.iJ A hd em a p e).En/\x.Le (x.iJ A hd em a p e)/\P4 A hd em a p (x.iJ A hd em a p e) e:=by
 unfold Rn.iJ;split
 .next E=>
  have M:∀{P:Prop},hd e.2.1=aA->P:=λh=>by rw[E.2]at h;cases h
  have g0:(x.hit (e.2.1,p)).En:=h.hit;have w:=Rn.NK (x:=x) (h:=(e.2.1,p));split
  .exact⟨g0.meet,w.1.trans Rn.sW.1,λ_ B=>absurd E.1 B,λ_ _=>⟨Rn.sW.1.ht.subset w.2,λ_=>Rn.sW.2⟩,λ_ h=>M h⟩
  .next O=>exact⟨g0,w.1,λ_ B=>absurd E.1 B,λ_ _=>⟨w.2,λh=>absurd h O⟩,λ_ h=>M h⟩
 next E=>
 have M:∀{P:Prop},e.1=2->hd e.2.1=f->P:=λI B=>absurd ⟨I,B⟩ E;unfold Rn.along;split
 .next I=>exact⟨h,.refl _,λg=>absurd I g,λg=>absurd (I.symm.trans g) jg,λg=>absurd (I.symm.trans g) jg⟩
 next I=>
 split
 .next B=>
  have d:=aef x.sk e.2.2 a p.2;generalize put x.sk e.2.2 a p.2=H' at d|-;have w:x.Le ({x with sk:=H'.1}:Rn):=⟨iO _,λ_ h=>h,λh=>h,d.le,iO _⟩;have N:=Rn.sW (x:=({x with sk:=H'.1}:Rn)) (p:=(A.S e.2.1,H'.2.1));have g3:(({x with sk:=H'.1}:Rn).meet (A.S e.2.1,H'.2.1)).sk=H'.1:=Rn.pR;have K:(({x with sk:=H'.1}:Rn).meet (A.S e.2.1,H'.2.1)).en=x.en:=by unfold Rn.meet;split<;>rfl
  generalize({x with sk:=H'.1}:Rn).meet (A.S e.2.1,H'.2.1)=y at N g3 K|-;have g5:=w.trans N.1
  have U:y.Le (y.hop H'.2 (e.2.2,p.2)):=by
   unfold Rn.hop;split
   .exact Rn.sW.1
   .exact .refl _
  have m:(y.hop H'.2 (e.2.2,p.2)).sk=H'.1:=by
   unfold Rn.hop;split
   .rw[Rn.pR,g3]
   .exact g3
  have T:(y.hop H'.2 (e.2.2,p.2)).en=x.en:=by
   unfold Rn.hop;split
   .rw[<-K];unfold Rn.meet;split<;>rfl
   .exact K
  refine⟨λk V=>?_,g5.trans U,λ_ g=>absurd B g,λI B=>M I B,λ_ _=>⟨H'.2.1,d.lo,by rw[m];exact d.hi,by rw[m];exact d.kr,by rw[m];exact d.ka,by rw[m];exact d.ku,U.mem N.2⟩⟩;rw[T]at V;have⟨Y,k2,k3⟩:=h k V;rw[m];refine⟨Y,aR k2 d.le.len,λaa W=>?_⟩;rcases d.o k Y (aR k2 d.le.len) aa W with⟨_,W⟩|⟨rfl,rfl,hf⟩
  .rw[(d.le.key k Y k2).1];exact(g5.trans U).mem<|k3 aa W
  .rw[d.kr];unfold Rn.hop;rw[jj ⟨by rw[K];exact V,hf⟩];exact Rn.sW.2
 .next B=>exact⟨h.meet,Rn.sW.1,λ_ _=>Rn.sW.2,λg=>absurd g B,λg=>absurd g B⟩
def Rn.NL(l:D Ed):∀y:Rn,y.En->(l.foldl (Rn.iJ A hd em a p) y).En/\y.Le (l.foldl (Rn.iJ A hd em a p) y)/\∀e∈l,P4 A hd em a p (l.foldl (Rn.iJ A hd em a p) y) e:=by
 induction l with
 |nil=>exactλy h=>⟨h,.refl _,nofun⟩
 |cons e l m=>
  intro y h;have⟨I,B,h3⟩:=Rn.P5 (A:=A) (hd:=hd) (em:=em) (a:=a) (p:=p) (e:=e) h;have⟨g1,g2,g3⟩:=m _ I;refine⟨g1,B.trans g2,λd hd=>?_⟩;rcases bW.1 hd with rfl|hd
  .exact h3.le g2
  .exact g3 d hd
structure Done(A:At)(hd em:Nat->Bool)(a:Nat)(p:Sp)(x:Rn):Prop where
 z:p.1∈A.sp->p.2=0->x.ok=f
 b:p.1∈A.sp->p.2≠0->p.2∈x.en
 e:∀e∈A.rg p.1,P4 A hd em a p x e
def Done.le(h:Done A hd em a p x)(g:x.Le y):Done A hd em a p y:=⟨λI B=>g.ok<|h.z I B,λI B=>g.en _<|h.b I B,λe d=>(h.e e d).le g⟩
def Rn.Ry(h:x.En)(m:p.2<=u x.sk):(x.tF A hd em a p).En/\x.Le (x.tF A hd em a p)/\Done A hd em a p (x.tF A hd em a p):=by
 unfold Rn.tF;split
 .next hs=>
  have⟨b1,b2,b3,b4⟩:=Rn.Y2 h m;have⟨g1,g2,g3⟩:=Rn.NL (A:=A) (hd:=hd) (em:=em) (a:=a) (p:=p) (A.rg p.1) _ b1;exact⟨g1,b2.trans g2,λ_ d=>g2.ok<|b3 d,λ_ d=>g2.en _<|b4 d,g3⟩
 .next hs=>
  have⟨g1,g2,g3⟩:=Rn.NL (A:=A) (hd:=hd) (em:=em) (a:=a) (p:=p) (A.rg p.1) _ h;exact⟨g1,g2,λh=>absurd h hs,λh=>absurd h hs,g3⟩
structure Rn.Cl(A:At)(hd em:Nat->Bool)(a:Nat)(x:Rn):Prop where
 en:x.En
 d:∀p∈x.sp,Done A hd em a p x
def aeh(ho:A.Ok):∀n i x,Rn.vn A a x->x.En->(∀j p,j<i->x.sp[j]?=Z p->Done A hd em a p x)->bnd A a+1<=n+i->(DV A hd em a n i x).Cl A hd em a/\x.Le (DV A hd em a n i x)
 |0,i,x,h,he,hd,hn=>by
  refine⟨⟨he,λp d=>?_⟩,.refl _⟩;have d:p∈x.sp:=d;obtain⟨j,B,rfl⟩:=iM d;have:=h.le;exact hd j _ N<|av B
 |n+1,i,x,h,he,hd',hn=>by
  show(match x.sp[i]? with|none=>x|some p=>DV A hd em a n (i+1)<|x.tF A hd em a p).Cl A hd em a/\x.Le (match x.sp[i]? with|none=>x|some p=>DV A hd em a n (i+1)<|x.tF A hd em a p);cases d:x.sp[i]? with
  |none=>
   refine⟨⟨he,λp m=>?_⟩,.refl _⟩;have m:p∈x.sp:=m;obtain⟨j,B,rfl⟩:=iM m;rw[List.getElem?_eq_none_iff]at d;exact hd' j _ N<|av B
  |some p=>
   have E:=aT d;have⟨g1,g2,g3⟩:=Rn.Ry (A:=A) (hd:=hd) (em:=em) (a:=a) (p:=p) he (h.b p E).2
   have⟨k1,k2⟩:=aeh ho n (i+1) _ (h.tF (hd:=hd) (em:=em) ho E) g1 (λj q B w=>by
    have⟨t,ht⟩:=g2.sp;have I:i<u x.sp:=(bK.1 d).1
    have w:x.sp[j]?=Z q:=by
     rw[<-ht,bZ N]at w;exact w
    by_cases hji:j=i
    .subst hji;rw[d]at w;cases w;exact g3
    .exact(hd' j q N w).le g2) N
   exact⟨k1,g2.trans k2⟩
def aaK(ho:A.Ok)(hs:Sk.vn A a s)(hl:∀p∈l,p.1<A.ns/\p.2<=u s):(lG A hd em a s l).Cl A hd em a/\(l.foldl Rn.meet ⟨s,[],[],aA,[]⟩).Le (lG A hd em a s l):=by
 have w:∀(l:D Sp)(x:Rn),(l.foldl Rn.meet x).en=x.en:=by
  intro l
  induction l with
  |nil=>exactλ_=>rfl
  |cons p l B=>exactλx=>(B _).trans (by unfold Rn.meet;split<;>rfl)
 exact aeh ho _ 0 _ (Dt l ⟨s,[],[],aA,[]⟩ ⟨hs,ji,nofun⟩ hl) (λk d=>by rw[w]at d;cases d) (λj p m=>absurd m<|iN _)<|ax _
def Rn.Ho(A:At)(hd:Nat->Bool)(x:Rn):Prop:=∀h∈x.ht,hd h.1=f/\h.2∈x.sp/\∃e∈A.rg h.2.1,e.1=2/\e.2.1=h.1
def Rn.Ho.le(h:x.Ho A hd)(g:x.Le y)(e:y.ht=x.ht):y.Ho A hd:=λk d=>by
 rw[e]at d;have⟨I,B,h3⟩:=h k d;exact⟨I,g.mem B,h3⟩
def Rn.BB:(x.meet p).ht=x.ht:=by unfold Rn.meet;split<;>rfl
def Rn.aei(l:D Nat):∀y:Rn,(l.foldl (λy aa=>y.meet<|ay aa) y).ht=y.ht:=by
 induction l with
 |nil=>exactλ_=>rfl
 |cons aa l d=>exactλy=>(d _).trans (by show(y.meet<|ay aa).ht=_;unfold Rn.meet;split<;>rfl)
def Rn.Lt:(x.back p).ht=x.ht:=by
 unfold Rn.back;split
 .rfl
 split
 .rfl
 .exact Rn.aei _ _
def Rn.IE:(x.along A a p e).ht=x.ht:=by
 unfold Rn.along;split
 .rfl
 split
 .unfold Rn.hop;split
  .rw[Rn.BB,Rn.BB]
  .rw[Rn.BB]
 .exact Rn.BB
def Rn.Ho.EO(V:p∈x.sp)(l:D Ed):∀y:Rn,(∀e∈l,e∈A.rg p.1)->y.En->p∈y.sp->y.Ho A hd->(l.foldl (Rn.iJ A hd em a p) y).Ho A hd:=by
 induction l with
 |nil=>exactλ_ _ _ _ h=>h
 |cons e l U=>
  intro y M w N h;have⟨I,B,_⟩:=Rn.P5 (A:=A) (hd:=hd) (em:=em) (a:=a) (p:=p) (e:=e) w;refine U _ (λd hd=>M d<|by simp[hd]) I (B.mem N) λk m=>?_
  have E:k∈y.ht\/(k=(e.2.1,p)/\e.1=2/\hd e.2.1=f):=by
   unfold Rn.iJ at m;split at m
   .next K=>
    split at m
    .rw[Rn.BB]at m;exact(Rn.Rw.1 m).imp id λg=>⟨g,K⟩
    .exact(Rn.Rw.1 m).imp id λg=>⟨g,K⟩
   .rw[Rn.IE]at m;exact .inl m
  rcases E with m|⟨rfl,P,T⟩
  .have⟨a1,a2,a3⟩:=h k m;exact⟨a1,B.mem a2,a3⟩
  .exact⟨T,B.mem N,e,M e gB,P,O⟩
def aej:∀n i x,Rn.vn A a x->A.Ok->x.En->x.Ho A hd->(DV A hd em a n i x).Ho A hd
 |0,_,x,_,_,_,h=>h
 |n+1,i,x,hW,ho,hen,h=>by
  show(match x.sp[i]? with|none=>x|some p=>DV A hd em a n (i+1)<|x.tF A hd em a p).Ho A hd;cases hp:x.sp[i]? with
  |none=>exact h
  |some p=>
   have d:=aT hp;have m:=(hW.b p d).2;have⟨g1,g2,g3⟩:=Rn.Ry (A:=A) (hd:=hd) (em:=em) (a:=a) (p:=p) hen m;refine aej n (i+1) _ (hW.tF ho d) ho g1 ?_;unfold Rn.tF;split
   .have⟨b1,b2,_⟩:=Rn.Y2 hen m;exact Rn.Ho.EO d _ _ (λ_ h=>h) b1 (b2.mem d)<|h.le b2 Rn.Lt
   .exact Rn.Ho.EO d _ _ (λ_ h=>h) hen d h
def Rn.WW:x.ht<+:(x.iJ A hd em a p e).ht:=by
 unfold Rn.iJ;split
 .split
  .rw[Rn.BB];exact Rn.NK.1.ht
  .exact Rn.NK.1.ht
 .rw[Rn.IE];exact iO _
def Rn.BC:∀(l:D Ed)(y:Rn),y.ht<+:(l.foldl (Rn.iJ A hd em a p) y).ht
 |[],_=>iO _
 |e::l,y=>Rn.WW.trans<|Rn.BC l _
def Rn.Rz(l:D Ed)(k:Nat)(y:Rn):((l.take k).foldl (Rn.iJ A hd em a p) y).ht<+:(l.foldl (Rn.iJ A hd em a p) y).ht:=by
 have:=Rn.BC (A:=A) (hd:=hd) (em:=em) (a:=a) (p:=p) (l.drop k)<|(l.take k).foldl (Rn.iJ A hd em a p) y
 rwa [<-iR,jb]at this
def Y3:∀n i x,x.ht<+:(DV A hd em a n i x).ht
 |0,_,_=>iO _
 |n+1,i,x=>by
  show _<+:(match x.sp[i]? with|none=>x|some p=>DV A hd em a n (i+1)<|x.tF A hd em a p).ht;cases x.sp[i]? with
  |none=>exact iO _
  |some p=>
   refine List.IsPrefix.trans ?_<|Y3 n (i+1) _;unfold Rn.tF;split
   .have:=Rn.BC (A:=A) (hd:=hd) (em:=em) (a:=a) (p:=p) (A.rg p.1) (x.back p)
    rwa [Rn.Lt]at this
   .exact Rn.BC _ _
def NM:∀n i x,(DV A (λ_=>aA) em a n i x).ht=x.ht
 |0,_,_=>rfl
 |n+1,i,x=>by
  show(match x.sp[i]? with|none=>x|some p=>DV A (λ_=>aA) em a n (i+1)<|x.tF A (λ_=>aA) em a p).ht=_;cases x.sp[i]? with
  |none=>rfl
  |some p=>
   show(DV A _ em a n (i+1) _).ht=_;rw[NM n]
   have key:∀(l:D Ed)(y:Rn),(l.foldl (Rn.iJ A (λ_=>aA) em a p) y).ht=y.ht:=by
    intro l
    induction l with
    |nil=>exactλ_=>rfl
    |cons e l d=>exactλy=>(d _).trans (by rw[NH,Rn.IE])
   unfold Rn.tF;rw[key];split
   .exact Rn.Lt
   .rfl
def IG:∀(l:D Sp)(x:Rn),(l.foldl Rn.meet x).ht=x.ht
 |[],_=>rfl
 |p::l,x=>(IG l<|x.meet p).trans Rn.BB
def ze:(lG A (λ_=>aA) em a s l).ht=[]:=(NM _ _ _).trans<|IG _ _
end Wk
end Go.Proofs.Lu
namespace Go.Proofs.Lv
open Go.Proofs.Lu
open Go.Ae Go.Ae.hx
variable{L hx:D eF}{H Q H0:R}
section
variable{S:D Nat}{cs:Nat->Prop}{A:At}{q:AV}
def yU(w:Wf H)(h:vF cs H A q)(ho:A.Ok):bM Pg X 54 [q.v A] H (Q1 (λv Q=>∃q':AV,v=q'.v A/\vF (H.bV<=·) Q A q') H):=by
 refine dn (PY w h ho) ?_;rintro _ Q ⟨F,hx,rfl,⟨_,_,m⟩,G⟩;obtain⟨q',rfl,d⟩:=(m 0).atC (G.cast (bF hx).symm) ho;exact⟨⟨q',O,d⟩,G.ext⟩
def vF.both(h:vF cs H A q):vF (λr=>cs r/\r<H.bV) H A q:=by
 have d:∀{m n es a F},jC cs m H a n es F->jC (λr=>cs r/\r<H.bV) m H a n es F:=λh=>⟨h.1,λr o e E=>let⟨I,B,h3⟩:=h.2 r o e E;⟨⟨I,B⟩,B,h3⟩⟩;exact⟨d h.n,d h.s,d h.p,d h.o,let⟨evs,I,B⟩:=h.e;⟨evs,d I,λi w=>let⟨a,c,h3,h4⟩:=B i w;⟨a,c,h3,d h4⟩⟩⟩
def vF.m'(h:vF cs H A q):vF cs (hM H0 H) A q:=⟨h.n,h.s,h.p,h.o,h.e⟩
structure GN(cs:Nat->Prop)(H:R)(rw:Nat)(A:At)(q:AV)(ev sv:C)(sb:D Bool):Prop where
 k:cs rw/\rw<H.bV
 b:Bk H rw 114 (q.cells A++[ev,sv])
 a:vF cs H A q
 s:∃sa sc,sv=J sa A.ns sc/\jC cs 4 H sa A.ns 1 (bools sb)
 l:u sb=A.ns
 on:∀s,s<A.ns->sb[s]?=Z (decide<|s∈A.sp)
 e:∃eb ea ec,ev=J ea A.nr ec/\jC cs 4 H ea A.nr 1 (bools eb)/\∀r,r<A.nr->eb[r]?=Z (A.Em r)
def aek(hw:Wf H)(h:vF cs H A q)(ho:A.Ok)(ht:A.trim=A):bM Pg X 21 [q.v A] H (Q1 (λv Q=>∃(w:C)(K:Int),v=fJ ⟨[w,vi K]⟩/\(K≠0->w=bG T)/\(K=0->∃rw q' ev sv sb,w=pr rw/\GN (H.bV<=·) Q rw A q' ev sv sb)) H):=by
 have G:=gM hw;have ao:=ho.big;have Jz:=ho.few;refine lF [0,1,2,3,4,6,8,33,34,35] ?_;refine G.box O λH1 E G=>?_;rw[lM]at G;refine G.uE 0 O (ax 6) ?_;refine G.cm (WV G.wf (h.ex G.ext) ho) ?_;rintro v H2 ⟨K,z,rfl⟩ M G;refine yl (λhc=>?_) λhc=>?_
 .refine iY O<|rr ?_;exact⟨⟨_,_,O,λ_=>rfl,λh=>absurd h jg⟩,G.ext⟩
 subst hc;refine G.MK 0 O (ax 6) ?_;simp only[iU G.wf];refine dn (PZ (oC H2) (h.ex G.ext).n' ho) ?_;rintro v H3 ⟨⟨q1,rfl,I⟩,M⟩;have G:=G.oD M;refine G.MK 0 O (ax 6) ?_;simp only[iU G.wf];rw[ht]at I|-;have I:vF (H2.bV<=·) (hM H2 H3) A q1:=I.m';refine dn (aaG (oC _) I.n' (h.ex G.ext).n' ho) ?_;rintro v H4 ⟨rfl,an⟩;have G:=G.oD an;refine bN ?_;refine iY (by simp only[eZ,fP M,fP an];rfl) ?_;refine ig (λhb=>by cases hb) λ_=>?_;refine tl ?_;generalize hM (hM H2 H3) H4=H5 at G;refine G.MK 0 O (ax 6) ?_;simp only[iU G.wf];refine dn (yU (oC _) (h.ex G.ext).n' ho) ?_;rintro _ H6 ⟨⟨q2,rfl,B⟩,Y⟩;have ad:=G.ext.bV;have B:vF (H5.bV<=·) (hM H5 H6) A q2:=B.m';have aE:=(G.lo _<|aK ..).2;have G:=G.oD Y;refine G.MK 0 O (ax 6) ?_;simp only[iU G.wf];refine dn (GH (oC _) (h.ex G.ext).n' ho) ?_;rintro _ H7 ⟨⟨l,⟨ea,ec,rfl,a0,d⟩,ap⟩,ab⟩;have d:jC (H5.bV<=·) 4 (hM (hM H5 H6) H7) ea A.nr 1 (bools l):=d.le Y.bV;have B:=B.ex ab.draw;have G:=G.oD ab;refine G.MK 0 O (ax 6) ?_;simp only[iU G.wf];refine dn (vR (oC _) q A) ?_;rintro _ H8 ⟨rfl,z8⟩;have B:=B.ex z8.draw;have d:=d.ex z8.draw;have G:=G.oD z8;generalize hH:hM (hM (hM H5 H6) H7) H8=H9 at G B d|-;have B:=B.both;have d:jC (λr=>H5.bV<=r/\r<H9.bV) 4 H9 ea A.nr 1 (bools l):=⟨d.1,λr o e hn=>let⟨a,b,c⟩:=d.2 r o e hn;⟨⟨a,b⟩,b,c⟩⟩;have a3:=(G.lo _<|aK ..).2;refine G.amH (ax _) N λCw rs G c1 uD a4=>?_;rw[nC]at G;have B:=B.ex uD;have d:=d.ex uD;refine dA (v:=dN ⟨q2.cells A++[J ea A.nr ec,J (Z ⟨rs,0,T⟩) A.ns A.ns]⟩) O ?_;refine G.ajT O λRt rw G c2 OM a5=>?_;have B:=B.ex OM;have d:=d.ex OM;have G:SH [] H (hM (hM H9 Cw) Rt) [(rw,114,q2.cells A++[J ea A.nr ec,J (Z ⟨rs,0,T⟩) A.ns A.ns]),(rs,4,aY A.ns<|aO aA),(E,27,q.cells A)]:=G;refine iY (by simp only[eZ,fP Y,fP ab,fP z8,hH,c1,c2];rfl) ?_;generalize hM (hM H9 Cw) Rt=H12 at G B d|-;refine fF ?_;have a2:=ho.YO;have ac:=G;have G:=G.base;refine lp2 8 35 (h1:=λm x8 FP Q=>∃(i:Nat)(sb:D Bool),FP=W i/\i+m=A.nr/\u sb=A.ns/\(∀s,s<A.ns->sb[s]?=Z (decide<|s∈A.sp.take i))/\SH [rw,rs,E] H12 Q [(rw,114,q2.cells A++[J ea A.nr ec,J (Z ⟨rs,0,T⟩) A.ns A.ns]),(rs,4,bools sb),(E,27,q.cells A)]) ?_ A.nr ⟨0,aY A.ns aA,rfl,N,gB,λs hs=>by rw[lZ,jj hs];simp,by rw[show bools (aY A.ns aA)=aY A.ns (aO aA)from ko];exact G⟩;clear G;rintro m x8 FP oW ar ⟨i,sb,rfl,a1,am,al,G⟩
 have V:∀r∈[rw,rs,E],¬(H5.bV<=r/\r<H9.bV):=λr U=>by
  have h9:=uD.bV;simp only[bW,fq,je]at U;rcases U with rfl|rfl|rfl<;>omega
 have h3:=B.stay G.ext V;have d:=d.stay G.ext λr U=>.inl<|V r U;refine mG (λhc=>?_) λhc=>?_
 .refine tl ?_;have G:=ac.over G;have hm:((rs,4,bools sb):eF)∈[(rw,114,q2.cells A++[J ea A.nr ec,J (Z ⟨rs,0,T⟩) A.ns A.ns]),(rs,4,bools sb),(E,27,q.cells A)]:=gB;refine rr ?_;refine⟨⟨_,_,O,λh=>absurd O h,λ_=>⟨rw,q2,_,_,sb,rfl,⟨G.yu<|aK ..,(G.lo _<|aK ..).2⟩,G.get 0 O,h3.wk λr U=>aR ad U.1,⟨_,_,rfl,jC.one G hm (by rw[aM];omega)<|G.yu hm⟩,am,λs hs=>?_,l,_,_,rfl,d.wk λr U=>aR ad U.1,λr U=>?_⟩⟩,G.ext⟩
  .rw[al s hs,dV N]
  .have I:=ap r U;unfold on at I;rw[<-At.aee,av N]at I;rw[av N];cases he:A.Em r<;>cases hl:l[r]<;>simp_all
 have hi:i<A.nr:=N;have aq:=(ho.p i hi).1;refine(h.p.ex (ac.over G).ext).ix (v:=W<|A.P i) hi (AQ N) λp=>G.qE ?_;refine G.Yi aq (by rw[aM];omega) (kk:=λp aw G=>?_);refine eD ?_;refine⟨A.nr-(i+1),N,_,_,_,_,O,i+1,sb.set (A.P i) f,pq,N,by rw[bU];exact am,λs hs=>?_,by rw[show bools (sb.set (A.P i) f)=(bools sb).set (A.P i) (aO f)from gW];exact G⟩;have e:A.sp[i]?=Z (A.P i):=by unfold At.P;rw[av N];rfl
 rw[dX,dU,e];simp only[Option.toList,cB,aS]
 by_cases hp:A.P i=s
 .subst hp;rw[jj O,jj N,bY<|.inr O]
 .rw[jx hp,al s hs];have:s∈A.sp.take i\/s=A.P i<->s∈A.sp.take i:=⟨λh=>h.resolve_right λh=>hp h.symm,.inl⟩;simp only[this]
end
section
open Go.Proofs.Lu Go.Proofs.Lu.Wk
open Go.Ae Go.Ae.hx
variable{S:D Nat}
abbrev pE(p:Sp):C:=dN ⟨[W p.1,W p.2]⟩
abbrev u0:C:=dN ⟨[]⟩
abbrev vnE(n:Nat):C:=W n
def Uz(a b:Sp):b_ (FI (a.1:Int) b.1) (b_ (FI (a.2:Int) b.2) (Z f)<|Z aA) (Z aA)=Z (decide<|a=b):=by
 have⟨a1,a2⟩:=a;have⟨b1,b2⟩:=b;rw[Br,Br]
 by_cases I:a1=b1<;>by_cases B:a2=b2<;>simp[I,B]<;>first|rfl|(rw[dQ N];rfl)
def agO(a b:Sp):mU Pg 86 (pE a) (pE b)=Z (decide<|a=b):=Eq.trans fQ<|Uz a b
def aen(a b:Sp):mU Pg 161 (pE a) (pE b)=Z (decide<|a=b):=Eq.trans fQ<|Uz a b
def aeo(a b:Sp):mU Pg 163 (pE a) (pE b)=Z (decide<|a=b):=Eq.trans fQ<|Uz a b
def eq3(a b:Nat):mU Pg 3 (vnE a) (vnE b)=Z (decide<|a=b):=by
 have:mU Pg 3 (vnE a) (vnE b)=Z (FI (a:Int) b):=fQ;rw[this,Br]
 by_cases h:a=b
 .rw[bY h,bY N]
 .rw[dQ h,dQ N]
def JC:vk Pg 151=Z (86,133):=fQ
def RA:vk Pg 154=Z (3,133):=fQ
def NN:vk Pg 125=Z (161,3):=fQ
def NP:vk Pg 126=Z (163,133):=fQ
def Fj:zh Pg 133=Z u0:=fQ
def ajV:zh Pg 3=Z (vi 0):=fQ
def BR:D Sp->D C
 |[]=>[]
 |p::l=>W p.1::W p.2::BR l
def uu:∀l,u (BR l)=u l*2
 |[]=>rfl
 |p::l=>by have:=uu l;simp only[BR,cO];omega
def LA:∀l m,BR (l++m)=BR l++BR m
 |[],m=>rfl
 |p::l,m=>by simp only[bQ,BR,LA l m]
def EP:∀{l:D Sp}{i:Nat}{p:Sp},l[i]?=Z p->El (BR l) 2 i=[W p.1,W p.2]
 |[],i,p,h=>by simp at h
 |x::l,0,p,h=>by simp at h;subst h;simp[El,BR]
 |x::l,i+1,p,h=>by
  have:=EP (l:=l) (i:=i)<|om h;rw[<-this];unfold El;rw[show(i+1)*2=i*2+2 by omega];rfl
def hts(l:D<|Nat×Sp):D C:=l.flatMap λh=>[W h.1,W h.2.1,W h.2.2]
structure M4(H:R)(ms me mn ml:Nat)(x:Rn):Prop where
 s:BX pE H ms λp=>if p∈x.sp then Z u0 else T
 e:BX vnE H me λn=>if n∈x.en then Z u0 else T
 n:BX pE H mn λp=>(K4 x.sk p.1 p.2).map λk=>W<|k+1
 l:BX pE H ml λp=>if 0<p.1/\p.2∈(mY x.sk p.1).2.2 then Z u0 else T
variable{x:Rn}{rr rs ms me mn ml mo:Nat}
def M4.ex(h:M4 H ms me mn ml x)(M:pN S H Q)(d:∀m∈[ms,me,mn,ml],m∉S):M4 Q ms me mn ml x:=⟨h.s.ex M<|d _ gB,h.e.ex M<|d _ gB,h.n.ex M<|d _ gB,h.l.ex M<|d _ gB⟩
def M4.rows(h:M4 H ms me mn ml x)(G:SH S H0 H L)(M:pN (L.map (·.1)) H Q):M4 Q ms me mn ml x:=h.ex M λm d=>by
 simp only[bW,fq,je]at d;rcases d with rfl|rfl|rfl|rfl
 .exact G.zP h.s
 .exact G.zP h.e
 .exact G.zP h.n
 .exact G.zP h.l
def WS(S:D Nat)(H0 H:R)(rr rs ms me mn ml mo:Nat)(x:Rn):Prop:=∃sv I M K hv B w E az d,
 SH S H0 H ((rr,156,[sv,aO x.ok,hv,vi 0,gz<|Z ms,gz<|Z me,W mo])::(rs,128,[I,M,gz<|Z mn,gz<|Z ml])::(B++(w++(E++(az++d)))))/\
 GB 86 2 sv (BR x.sp) B/\GJ 161 2 I (vi (-1)::W 0::BR (x.sk.map λe=>(e.1,e.2.1))) w/\GJ 22 1 M K E/\Jm 3 1 ([]::x.sk.map λe=>gq e.2.2) K az/\GB 88 3 hv (hts x.ht) d/\
 M4 H ms me mn ml x/\[ms,me,mn,ml].Nodup/\∀m∈[ms,me,mn,ml],m∈S\/H0.bV<=m
def amM{p:Sp}(h:WS S H0 H rr rs ms me mn ml mo x)(hl:(x.meet p).sp.length<=mo)(T:(x.meet p).sp.length<=8000000):bM Pg X 87 [pr rr,pE p] H λv Q=>v=aO f/\WS S H0 Q rr rs ms me mn ml mo (x.meet p):=by
 have⟨sv,pv,uv,us,hv,gS,gP,gU,az,gH,h,gs,gp,gu,gR,gh,m,ne,lo⟩:=h;obtain⟨sa,sn,sc,rfl,V⟩:=gs.OL;rw[uu]at V;refine lF [0,1,3,4,6] ?_;have G:=h.base;refine G.box O λH1 w G=>?_;have G:SH _ H H1 ((w,86,[W p.1,W p.2])::(rr,156,[J sa sn sc,aO x.ok,hv,vi 0,gz<|Z ms,gz<|Z me,W mo])::(rs,128,[pv,uv,gz<|Z mn,gz<|Z ml])::(gS++(gP++(gU++(az++gH))))):=G;have n1:=G.nq 0 1 O O N;refine fF ?_;have m1:=m.rows h G.ext;refine BX.has (e:=pE) (k:=p) (H:=hN H1) m1.s JC Fj agO ?_;refine G.kN ?_;have I:=G.lt;refine G.aec λH2 rz G Y c1 ab=>?_;have M:=m1.ex Y nofun;refine G.kN ?_;refine splitK (λK E=>?_) ?_
 .have n2:rz≠w:=λe=>by have:=I w gB;omega
  have n3:rz≠rr:=λe=>by have:=I rr gB;omega
  simp only[c1,eZ,gN,fP<|Ext.refl<|hN _];apply AA (a:=rz) (b:=w) (c:=rr) n2 n3 n1 yX fQ fQ E
 have G:=h.over G;refine aV (λU=>?_) λU=>?_
 .have e:x.meet p=x:=jj U;rw[e];refine Lu.rr ?_;exact⟨O,_,_,_,_,_,_,_,_,_,_,fV (A:=[_]) G,gs,gp,gu,gR,gh,M,ne,lo⟩
 have e:x.meet p={x with sp:=x.sp++[p]}:=jx U;rw[e]at hl T|-;dsimp only at hl T;rw[aU]at hl T;simp only[cO,qG]at hl T;refine fF ?_;refine aV (λhc=>N) λ_=>?_;refine fF ?_;refine dA (v:=u0) O<|G.aem (e:=pE) (k:=p) (lo _ gB) M.s JC agO λP m3 G d c3=>?_;have e3:CG P (hN P)=cl 1:=fP<|Ext.refl _;refine splitK (λK E=>?_) ?_
 .simp only[eZ,c3];apply nE (a:=w) (b:=rr) n1 yX fQ fQ E
 have nn:∀{m},m∈[me,mn,ml]->m∉[ms]:=λ{m} hm h=>(jD.1 ne).1 (by rw[aS.1 h]at hm;exact hm);have m4:M4 (hM (hM H1 H2) P) ms me mn ml {x with sp:=x.sp++[p]}:=⟨m3.plus λj=>gB,M.e.ex d<|nn gB,M.n.ex d<|nn gB,M.l.ex d<|nn gB⟩;generalize hM (hM H1 H2) P=H4 at G m4|-;have h4:=G;have G:=G.base;refine fF ?_;refine gs.GL G O O O (by rw[uu];omega) λq H5 v' H6 iX B G c5 c6 _=>?_;obtain⟨ac,al,ad,rfl⟩:=B.sl;refine G.oq λHn G=>?_;refine splitK (λK E=>?_) ?_
 .simp only[eZ,gN,c5];rcases c6 with e|e<;>rw[e]<;>apply nE (a:=w) (b:=rr) n1 yX fQ fQ E
 have m5:=m4.rows h4 G.ext;have G:=fV (A:=[_])<|h4.over G;refine Lu.rr ?_;exact⟨O,_,_,_,_,_,_,_,_,_,_,G,by rw[LA];exact B,gp,gu,gR,gh,m5,ne,lo⟩
end
end Go.Proofs.Lv
namespace Go.Proofs.Lu.Wk
section
variable{s:Sk}{r a r' a' i n:Nat}{l:D Nat}
def UA(h:K4 s r a=T):K4 (s++[(r,a,l)]) r' a'=if(r',a')=(r,a)then Z (u s)else K4 s r' a':=by
 unfold K4 at h|-;rw[List.findIdx?_append]
 by_cases e:(r',a')=(r,a)
 .cases e;rw[h,jj O];simp
 .rw[jx e]
  have:(r==r'&&a==a')=aA:=by
   rw[<-dw];simp only[bE,ni];exactλg=>e (by rw[g.1,g.2])
  simp[this]
def aep:(mY (s++[(r,a,[])]) n).2.2=(mY s n).2.2:=by
 unfold mY;rw[tq];split
 .rfl
 .next h=>
  rw[dB (pZ h)];cases n-1-u s with
  |zero=>rfl
  |succ k=>rfl
def GQ(h:i<u s):mY s (i+1)=s[i]:=by unfold mY;rw[jo,av h];rfl
def agP(h:i<u s)(I:s[i].1=r)(B:s[i].2.1=a):K4 (s.set i (r,a,l)) r' a'=K4 s r' a':=by
 have e:∀t:Sk,K4 t r' a'=(t.map λe=>(e.1,e.2.1)).findIdx? λe=>e.1==r'&&e.2==a':=λt=>by rw[List.findIdx?_map];rfl
 rw[e,e,gW,show(r,a)=(s.map λe=>(e.1,e.2.1))[i]'(om h) by rw[iD,I,B],sI]
def agQ(h:i<u s)(d:0<n):(mY (s.set i (r,a,l)) n).2.2=if n=i+1 then l else(mY s n).2.2:=by
 unfold mY;rw[dX]
 by_cases e:n=i+1
 .subst e;rw[jj O,jj N,jj N];rfl
 .rw[jx e,jx N]
end
end Go.Proofs.Lu.Wk
namespace Go.Proofs.Lv
open Go.Proofs.Lu Go.Proofs.Lu.Wk
open Go.Ae Go.Ae.hx
variable{a c me ml mn mo ms n r rs rw' aa:Nat}{au:D Nat}{H Q H0 H1:R}{L hx:D eF}{x y:Rn}
section
variable{S:D Nat}{rr:Nat}
def WS.stk(h:WS S H0 H rr rs ms me mn ml mo x):∃L d w,SH S H0 H ((rs,128,[d,w,gz<|Z mn,gz<|Z ml])::L)/\(∃a c,d=J a (u x.sk+1) c/\Fl H a (u x.sk+1) 2 (vi (-1)::W 0::BR (x.sk.map λe=>(e.1,e.2.1))))/\∃us az a c L',w=J a (u x.sk+1) c/\Fl H a (u x.sk+1) 1 us/\Jm 3 1 ([]::x.sk.map λe=>gq e.2.2) us az/\SH S H0 H (az++L'):=by
 have⟨sv,d,w,us,hv,gS,gP,gU,az,gH,h,gs,gp,gu,gR,gh,m,ne,lo⟩:=h;have I:=fV (A:=[_,_]) h;have B:=fV I;have E:=fV B;obtain⟨V,n,Y,rfl,T,N⟩:=gp.fl B;obtain⟨ua,k,uc,rfl,U,P⟩:=gu.fl E;have K:n=u x.sk+1:=by simp only[cO,uu,aM]at T;omega
 have M:k=u x.sk+1:=by have:=gR.len;simp only[cO,aM]at this;omega
 subst K M;exact⟨_,_,_,fV (A:=[_]) h,⟨_,_,O,N⟩,us,az,_,_,gH,O,P,gR,fV E⟩
def JD{a:aC Addr}(d:H.cell rs 0=Z (J a n c)):bM Pg X 29 [pr rs] H (Q0 (λv=>v=W n) H):=by
 refine lF [0,2] ?_;refine dA (v:=aO aA) fQ ?_;refine bN ?_;refine iV d ?_;refine bN ?_;refine Lu.rr ?_;exact⟨O,O⟩
def amN(h:WS S H0 H rr rs ms me mn ml mo x):bM Pg X 29 [pr rs] H (Q0 (λv=>v=W (u x.sk+1)) H):=by
 obtain⟨L,d,m,G,⟨a,c,rfl,_⟩,_⟩:=h.stk;exact JD<|(G.get 0 O).cell O
def ajW(h:WS S H0 H rr rs ms me mn ml mo x)(m:n<=u x.sk):bM Pg X 116 [pr rs,W n] H (Q0 (λv=>v=aO f) H):=by
 obtain⟨L,w,B,G,⟨a,c,rfl,_⟩,_⟩:=h.stk;refine lF [0,1,4] ?_;refine dA (v:=aO f) fQ ?_;refine G.kN ?_;refine aV (λ_=>?_) λd=>absurd (jG n) d;refine fF ?_;refine Lu.rr ?_;exact⟨by rw[bY N],rfl⟩
def aoF(h:WS S H0 H rr rs ms me mn ml mo x)(B:0<n)(d:n<=u x.sk):bM Pg X 113 [pr rs,W n] H (Q0 (λv=>v=W (mY x.sk n).1) H):=by
 refine lF [0,1,4] ?_;refine dn (ajW h d) ?_;rintro _ _ ⟨rfl,rfl⟩;obtain⟨L,E,I,G,⟨a,c,rfl,w⟩,_⟩:=h.stk;refine G.kN ?_;refine ig (λm=>by cases m) λ_=>?_;apply G.qE;have⟨r,o,e1,hr,hcl,_⟩:=w.idx (c:=c) N (show n<u x.sk+1 by omega);refine dA e1<|G.kN ?_;obtain⟨k,rfl⟩:∃k,n=k+1:=⟨n-1,N⟩;refine iV (hcl 0 (W (mY x.sk<|k+1).1) N ?_) ?_
 .have:=EP (l:=x.sk.map λe=>(e.1,e.2.1)) (i:=k) (p:=((mY x.sk<|k+1).1,(mY x.sk<|k+1).2.1)) (by rw[bL,av d,GQ d];rfl);have:=eY (λl=>l[0]?) this;rw[show(k+1)*2+0=k*2+2 by omega];simp only[oN]at this;simpa using this
 refine Lu.rr ?_;exact⟨O,O⟩
def aoG(h:WS S H0 H rr rs ms me mn ml mo x)(h0:0<n)(B:n<=u x.sk)(T:(mY x.sk n).2.2.length<=8000000):bM Pg X 114 [pr rs,W n] H (Q1 (λv Q=>∃a c,v=J a (mY x.sk n).2.2.length c/\jC (H.bV<=·) 3 Q a (mY x.sk n).2.2.length 1 (gq (mY x.sk n).2.2)) H):=by
 refine lF [0,1,4] ?_;refine dn (ajW h B) ?_;rintro _ _ ⟨rfl,rfl⟩;obtain⟨L,pv,uv,G,_,us,az,a,c,L',rfl,V,P,d⟩:=h.stk;refine G.kN ?_;refine ig (λT=>by cases T) λ_=>?_;apply G.qE;have Y:=P.len;simp only[cO,aM]at Y;have⟨b,m,c2,e,hm,hg⟩:=P.all d n N;have⟨r,o,e1,hr,hcl,_⟩:=V.idx (c:=c) N (show n<u x.sk+1 by omega);refine dA e1<|iV (hcl 0 us[n] N (by rw[dY,dZ];exact av N)) ?_;rw[e];obtain⟨k,rfl⟩:∃k,n=k+1:=⟨n-1,N⟩;have U:([]::x.sk.map λe=>gq e.2.2)[k+1]?.getD []=gq (mY x.sk<|k+1).2.2:=by rw[iA,bL,av B,GQ B];rfl
 rw[U]at hm hg;rw[aM]at hm;obtain rfl:m=(mY x.sk<|k+1).2.2.length:=N;refine(gM G.wf).apG N hg.1 N λv' H1 gb w wu M=>?_;obtain⟨va,K,vc,rfl,I,E⟩:=w.UT wu;rw[aM]at I;obtain rfl:K=(mY x.sk<|k+1).2.2.length:=N;refine Lu.rr ?_;exact⟨⟨_,_,O,E⟩,M⟩
end
section
variable{S:D Nat}{rr:Nat}
def aer(s:Sk)(r a:Nat)(l:D Nat):BR ((s++[(r,a,l)]).map λe=>(e.1,e.2.1))=BR (s.map λe=>(e.1,e.2.1))++[W r,W a]:=by rw[dK,LA];rfl
theorem ait(h:WS S H0 H rr rs ms me mn ml mo x)(hn:n<u x.sk)(hr:x.sk[n].1=r)(ha:x.sk[n].2.1=a){fd:Bool}{x8 x9 jW jh mQ mO BV:C}(E:Rs)(ap:(mY x.sk<|n+1).2.2.length<=8000000){Kp:C->R->Prop}(k1:aa∈(mY x.sk<|n+1).2.2->∀Q,WS S H0 Q rr rs ms me mn ml mo x->Kp (fJ ⟨[W (n+1),aO<|!fd,aO aA,vi 0]⟩) Q)(k2:aa∉(mY x.sk<|n+1).2.2->∀Q,WS S H0 Q rr rs ms me mn ml mo {x with sk:=x.sk.set n (r,a,(mY x.sk<|n+1).2.2++[aa])}->Kp (fJ ⟨[W (n+1),aO<|!fd,aO f,vi 0]⟩) Q):
 iC Pg X (sub Ih [1,1,1,1,1,1]) (Gi (pr rs) (W r) (W a) (W aa) x8 x9 jW jh mQ (W<|n+1) (aO fd) mO BV E H) (jO Pg [.tmp 8,.tmp 9,.tmp 10,.tmp 11] Kp):=by
 have⟨sv,pv,uv,w,hv,gS,gP,gU,az,gH,h,gs,gp,gu,gR,gh,m,ne,lo⟩:=h;refine tl ?_;have G:=h.base;refine dA (v:=dN ⟨[W (n+1),W aa]⟩) O<|G.ns O O O λH1 M G _=>?_;have G:SH _ H H1 ((M,163,[W (n+1),W aa])::(rr,156,[sv,aO x.ok,hv,vi 0,gz<|Z ms,gz<|Z me,W mo])::(rs,128,[pv,uv,gz<|Z mn,gz<|Z ml])::(gS++(gP++(gU++(az++gH))))):=G;have n1:=G.nq 0 2 O O N;refine fF ?_;have m1:=m.rows h G.ext;refine BX.has (e:=pE) (k:=(n+1,aa)) (H:=hN H1) m1.l NP Fj aeo<|G.kN ?_;have ac:=G.lt;refine G.aec λH2 rz G an c1 ao=>?_;have m2:=m1.ex an nofun;refine G.kN ?_;refine splitK (λK V=>?_) ?_
 .have n2:rz≠M:=λe=>by have:=ac M gB;omega
  have n3:rz≠rs:=λe=>by have:=ac rs gB;omega
  simp only[c1,eZ,gN,fP<|Ext.refl<|hN _];apply AA (a:=rz) (b:=M) (c:=rs) n2 n3 n1 yX fQ fQ V
 have G:=h.over G;refine aV (λhp=>?_) λhp=>?_
 .exact Lu.rr<|k1 hp.2 _ ⟨_,_,_,_,_,_,_,_,_,_,fV (A:=[_]) G,gs,gp,gu,gR,gh,m2,ne,lo⟩
 have hp:aa∉(mY x.sk<|n+1).2.2:=λh=>hp ⟨wS n,h⟩;refine fF ?_;refine dA (v:=u0) O<|G.aem (e:=pE) (k:=(n+1,aa)) (lo _ gB) m2.l NP aeo λH3 m3 G I c3=>?_;refine splitK (λK V=>?_) ?_
 .simp only[eZ,c3];apply nE (a:=M) (b:=rs) n1 yX fQ fQ V
 have nn:∀{m},m∈[ms,me,mn]->m∉[ml]:=λ{m} hm h=>(l7.1 (show([ms,me,mn]++[ml]).Nodup from ne)).2.2 m hm m h O
 have m4:M4 (hM (hM H1 H2) H3) ms me mn ml {x with sk:=x.sk.set n (r,a,(mY x.sk<|n+1).2.2++[aa])}:=⟨m2.s.ex I<|nn gB,m2.e.ex I<|nn gB,by
  have:=m2.n.ex I<|nn gB
  simp only[agP hn hr ha];exact this,m3.plus λj=>by
   by_cases h0:0<j.1
   .rw[agQ hn h0]
    by_cases hj:j.1=n+1
    .rw[jj hj,hj];simp[zC,hj]
    .rw[jx hj];simp[zC,hj]
   .simp[zC,h0];omega⟩
 generalize hM (hM H1 H2) H3=H4 at G m4|-;have ad:u w=u x.sk+1:=by rw[<-gR.len];simp
 obtain⟨d,P,fE,rfl,rfl,mk⟩:∃d P fE,uv=J (Z ⟨d,0,T⟩) (u w) P/\gU=[(d,22,w++fE)]/\∀B,u B=u w->GJ 22 1 (J (Z ⟨d,0,T⟩) (u w) P) B [(d,22,B++fE)]:=by
  rcases id gu with(⟨_,e,_⟩|⟨d,k,fE,U,hk,e2⟩)|⟨d,k,U,hk,e2⟩
  .rw[e]at ad;simp at ad
  .obtain rfl:k=u w:=N;exact⟨d,_,fE,U,e2,λB he=>.inl<|.inr ⟨d,_,fE,rfl,N,rfl⟩⟩
  .obtain rfl:k=u w:=N;exact⟨d,_,[],U,by rw[e2,bF],λB he=>.inr ⟨d,_,rfl,N,by rw[bF]⟩⟩
 obtain⟨A',gb,h2,rfl,Y,ab⟩:=gR.at (n+1) N;have al:([]::x.sk.map λe=>gq e.2.2)[n+1]?.getD []=gq (mY x.sk<|n+1).2.2:=by rw[iA,bL,av hn,GQ hn];rfl
 rw[al]at Y;have G:=G.cast (L':=(M,163,[W (n+1),W aa])::(rr,156,[sv,aO x.ok,hv,vi 0,gz<|Z ms,gz<|Z me,W mo])::(rs,128,[pv,J (Z ⟨d,0,T⟩) (u w) P,gz<|Z mn,gz<|Z ml])::(gS++(gP++((d,22,w++fE)::((A'++(gb++h2))++gH))))) O;have am:(w++fE)[n+1]?=Z w[n+1]:=by rw[bZ N];exact av N
 have h4:=G;have G:=G.base;refine fF ?_;refine G.R8 (k:=n+1) N am<|G.kN ?_;refine Y.GL G O O O (by rw[aM];omega) λq H5 v' H6 iX VQ G c5 c6 h5=>?_;obtain⟨va,vl,vc,rfl⟩:=VQ.sl;have h6:=G;refine G.Rj (k:=n+1) N (by rw[aU];omega) (kk:=λH7 G=>?_);have n2:d≠rs:=h5.neT;refine splitK (λK V=>?_) ?_
 .have r1:∀{a b:R},oV ⟨2,0,0,0,hM H4 H5,H6⟩ ⟨4,rs,1,1,a,b⟩=f:=h5.rd h6 λv hv=>by
   have hv:v∈[J (Z ⟨d,0,T⟩) (u w) P]:=hv;rw[aS]at hv;subst hv;exact qR _ _ _ λx h=>by cases h;rfl
  have r2:∀{a b:R},oV ⟨2,0,0,0,hM H4 H5,H6⟩ ⟨4,d,n+1,1,a,b⟩=f:=h5.rd h6 (λv hv=>by
   rw[eH (by rw[aU];omega),jS,kR,jy N,aS]at hv;subst hv;exact Cx gR _<|bH _) (by rw[aU];omega)
  simp only[c5,eZ,gN];generalize n+1=k at r2|-;rcases c6 with e|e<;>rw[e]<;>apply Ie (A:=hM H4 H5) (h2:=H6) (a:=d) (b:=rs) n2 (by rfl) fQ fQ V<;>repeat' apply iZ
  all_goals first|exact trivial|(intro h;cases h;done)|exactλ_=>⟨rfl,rfl⟩|exactλ_=>r1|exactλ_=>r2
 have m5:=m4.rows h4 G.ext;have G:=(fV (A:=[_])<|h4.over G).cast (L':=_::_::(gS++(gP++([(d,22,w.set (n+1) (J va vl vc)++fE)]++((A'++(iX++h2))++gH))))) (by rw[nV _ _ N];rfl)
 have U:(x.sk.set n (r,a,(mY x.sk<|n+1).2.2++[aa])).map (λe=>(e.1,e.2.1))=x.sk.map λe=>(e.1,e.2.1):=by
  rw[gW,show(r,a)=(x.sk.map λe=>(e.1,e.2.1))[n]'(om hn) by rw[iD,hr,ha],sI]
 refine Lu.rr<|k2 hp _ ⟨_,_,_,_,_,_,_,_,_,_,G,gs,by dsimp only;rw[U];exact gp,mk _<|by rw[bU],?_,gh,m5,ne,lo⟩;have:=ab (J va vl vc) _ iX VQ;dsimp only;rw[gW,show gq ((mY x.sk<|n+1).2.2++[aa])=gq (mY x.sk<|n+1).2.2++[W aa]from dK,<-kC];exact this
def aoH(h:WS S H0 H rr rs ms me mn ml mo x)(hu:aa<=u x.sk)(hk:u x.sk<=1000000)(ac:∀n,(mY x.sk n).2.2.length<=8000000):bM Pg X 92 [pr rs,W r,W a,W aa] H λv Q=>∃b,v=fJ ⟨[W (put x.sk r a aa).2.1,aO b,aO (put x.sk r a aa).2.2,vi 0]⟩/\WS S H0 Q rr rs ms me mn ml mo {x with sk:=(put x.sk r a aa).1}:=by
 refine lF [0,1,2,3,8,9,10,11,12,13,14,15,17] ?_;refine dn (amN h) ?_;rintro _ H ⟨rfl,rfl⟩;refine bN ?_;refine aV (λY=>N) λ_=>?_;refine aV (λY=>N) λ_=>?_;refine aV (λY=>N) λ_=>?_;refine dn (ajW h hu) ?_;rintro _ H ⟨rfl,rfl⟩;refine bN ?_;refine tl ?_;refine ig (λP=>by cases P) λ_=>?_;refine tl ?_;have⟨sv,pv,uv,us,hv,gS,gP,gU,az,gH,h,gs,gp,gu,gR,gh,m,ne,lo⟩:=h;obtain⟨pa,pn,pc,rfl,ab⟩:=gp.OL;simp only[cO,uu,aM]at ab;obtain rfl:pn=u x.sk+1:=N;have G:=h.base;refine dA (v:=dN ⟨[W r,W a]⟩) O<|G.ns O O O λH1 T G _=>?_;have G:SH _ H H1 ((T,161,[W r,W a])::(rr,156,[sv,aO x.ok,hv,vi 0,gz<|Z ms,gz<|Z me,W mo])::(rs,128,[J pa (u x.sk+1) pc,uv,gz<|Z mn,gz<|Z ml])::(gS++(gP++(gU++(az++gH))))):=G;have n1:T≠rs:=G.neT;refine fF ?_;have E:=m.rows h G.ext;refine BX.Kj (e:=pE) (k:=(r,a)) (H:=hN H1) E.n NN ajV aen<|fF ?_;cases hf:K4 x.sk r a with
 |some k=>
  refine ig (λP=>by cases P) λ_=>?_;have⟨hk1,hk2,hk3,_⟩:=IC hf;rw[GQ hk1]at hk2 hk3;have e:∀b,put x.sk r a aa=b<->(if aa∈(mY x.sk<|k+1).2.2 then(x.sk,k+1,aA)else(x.sk.set k (r,a,(mY x.sk<|k+1).2.2++[aa]),k+1,f))=b:=λb=>by unfold put;rw[hf]
  refine ait (n:=k) (fd:=f) ⟨_,_,_,_,_,_,_,_,_,_,fV (A:=[_])<|h.over G,gs,gp,gu,gR,gh,E,ne,lo⟩ hk1 hk2 hk3 _ (ac _) (λd Q w=>?_) λd Q w=>?_
  .rw[(e _).2 (jj d)];exact⟨_,O,w⟩
  .rw[(e _).2 (jx d)];exact⟨_,O,w⟩
 |none=>
  refine ig (λ_=>?_) (λP=>by cases P);refine fF ?_
  with_reducible refine aV (λY=>N) λ_=>?_
  refine fF ?_;have G:=h.over G;refine G.aem (e:=pE) (k:=(r,a)) (lo _ gB) E.n NN aen λH3 m3 G B c3=>?_;refine splitK (λK V=>?_) ?_
  .simp only[eZ,c3];apply nE (a:=T) (b:=rs) n1 yX fQ fQ V
  have nn:∀{m},m∈[ms,me,ml]->m∉[mn]:=λ{m} d h=>by
   rw[aS.1 h]at d;have:=(jD.1 (jD.1 (jD.1 ne).2).2).1;simp only[jD,bW,fq,je,not_or]at ne d this;rcases d with h|h|h
   .exact ne.1.2.1 h.symm
   .exact ne.2.1.1 h.symm
   .exact this h
  have m4:M4 (hM H1 H3) ms me mn ml {x with sk:=x.sk++[(r,a,[])]}:=⟨E.s.ex B<|nn gB,E.e.ex B<|nn gB,by
   have:(λp:Sp=>(K4 (x.sk++[(r,a,[])]) p.1 p.2).map λk=>W<|k+1)=λj=>if j=(r,a)then Z (W<|u x.sk+1)else(K4 x.sk j.1 j.2).map λk=>W (k+1):=funext λj=>by
    rw[UA hf];split<;>rfl
   dsimp only;rw[this];exact m3,by
   have:=E.l.ex B<|nn gB;dsimp only;simp only[aep];exact this⟩
  generalize hM H1 H3=H4 at G m4|-;have h4:=G;have G:=G.base;refine fF ?_;refine gp.GL G O O O (by simp only[cO,uu,aM];omega) λq H5 v' H6 ad I G c5 c6 _=>?_;obtain⟨qa,qn,qc,rfl⟩:=I.sl;refine G.oq λHn G=>?_;refine splitK (λK V=>?_) ?_
  .simp only[eZ,gN,c5];rcases c6 with e|e<;>rw[e]<;>apply nE (a:=T) (b:=rs) n1 yX fQ fQ V
  apply G.qE;have am:u us=u x.sk+1:=by rw[<-gR.len];simp
  refine gu.NG G O O O N λq H9 v' al M G=>?_;obtain⟨ya,yn,yc,rfl⟩:=M.sl;refine G.j_ λHn G=>?_;have m5:=m4.rows h4 G.ext;have G:=fV (A:=[_])<|h4.over G;have hn:u x.sk<u (x.sk++[(r,a,[])]):=gB;have e:∀b,put x.sk r a aa=b<->(x.sk++[(r,a,[aa])],u x.sk+1,f)=b:=λb=>by unfold put;rw[hf]
  have U:(mY (x.sk++[(r,a,[])])<|u x.sk+1).2.2=[]:=by rw[GQ hn];simp
  refine ait (x:={x with sk:=x.sk++[(r,a,[])]}) (n:=u x.sk) (fd:=aA) (a:=a) (r:=r) ⟨_,_,_,_,_,_,_,_,_,_,G,gs,by dsimp only;rw[aer];exact .inl I,.inl M,?_,gh,m5,ne,lo⟩ hn gB gB _ (by dsimp only;rw[U];exact bD _) (λd=>?_) λd Q w=>?_
  .have:=gR.snoc (GB.nil 3 1);dsimp only;rw[bF]at this;rw[dK];exact this
  .dsimp only at d;rw[U]at d;cases d
  .dsimp only at w;rw[(e _).2 O];rw[U,sH _ _<|ax _,kJ]at w;exact⟨_,O,w⟩
end
section
variable{S:D Nat}{rr:Nat}{cs:Nat->Prop}{A:At}{q:AV}{ev sv:C}{sb:D Bool}
def GN.stay(h:GN cs H rw' A q ev sv sb)(M:pN S H Q)(G:∀r∈S,¬cs r):GN cs Q rw' A q ev sv sb:=
 ⟨⟨h.k.1,aP h.k.2 M.bV⟩,h.b.iB<|M.obj _ h.k.2 λd=>G _ d h.k.1,h.a.stay M G,let⟨sa,sc,e,hf⟩:=h.s;⟨sa,sc,e,hf.stay M λr d=>.inl<|G r d⟩,h.l,h.on,let⟨eb,ea,ec,e,hf,g⟩:=h.e;⟨eb,ea,ec,e,hf.stay M λr d=>.inl<|G r d,g⟩⟩
def agR(h:GN cs H rw' A q ev sv sb)(w:n<A.ns):bM Pg X 60 [pr rw',W n] H (Q0 (λv=>v=aO f) H):=by
 obtain⟨B,sc,rfl,m⟩:=h.s;refine GV [0,1,4] ?_;refine aV (λ_=>?_) λd=>absurd (jG n) d;refine iV (h.b.cell (o:=7) O) ?_;refine bN ?_;refine Lu.rr ?_;exact⟨by rw[bY N],rfl⟩
def RD(h:GN cs H rw' A q ev sv sb)(ho:A.Ok):bM Pg X 59 [pr rw'] H (Q0 (λv=>v=aO aA) H):=by
 obtain⟨w,sc,rfl,m⟩:=h.s;have d:=(ho.s 0 ho.pos).1;refine lF [0,2] ?_;refine dA (v:=aO aA) fQ ?_;refine bN ?_;refine iV (h.b.cell (o:=7) O) ?_;refine bN ?_;refine Lu.rr ?_;exact⟨by rw[dQ N],rfl⟩
def Ext.hN(H:R):Ext H (hN H):=⟨ax _,λ_ _ _=>rfl,λ_ _ h _=>h,λ_=>ax _⟩
def _root_.Go.Ae.pN.trans'{H'':R}(h:pN S H Q)(M:Ext Q H''):pN S H H'':=h.later M nofun
def WS.ext(h:WS S H0 H rr rs ms me mn ml mo x):pN S H0 H:=let⟨_,_,_,_,_,_,_,_,_,_,h,_⟩:=h;h.ext
def WS.wf(h:WS S H0 H rr rs ms me mn ml mo x):Wf H:=let⟨_,_,_,_,_,_,_,_,_,_,h,_⟩:=h;h.wf
def WS.call(h:WS S H0 H rr rs ms me mn ml mo x)(M:Ext H Q):WS S H0 Q rr rs ms me mn ml mo x:=
 let⟨sv,pv,uv,us,hv,gS,gP,gU,az,gH,h,gs,gp,gu,gR,gh,m,ne,lo⟩:=h
 ⟨sv,pv,uv,us,hv,gS,gP,gU,az,gH,h.call M,gs,gp,gu,gR,gh,m.ex M<|nofun,ne,lo⟩
def WS.own(h:WS S H0 H rr rs ms me mn ml mo x):∃au,(∀r∈au,r<H.bV/\(r∈S\/H0.bV<=r))/\∀Q,Ext H Q->WS au Q Q rr rs ms me mn ml mo x:=by
 have⟨sv,pv,uv,us,hv,gS,gP,gU,az,gH,h,gs,gp,gu,gR,gh,m,ne,lo⟩:=h;refine⟨[ms,me,mn,ml]++_,λr hr=>?_,λQ M=>⟨sv,pv,uv,us,hv,gS,gP,gU,az,gH,⟨pN.refl _ _,λe d=>(h.bk e d).iB<|M.obj _ (h.lo e d).2 nofun,λe d=>⟨.inl<|dL _<|bT.2 ⟨e,d,rfl⟩,aP (h.lo e d).2 M.bV⟩,h.ne,M.wf h.wf⟩,gs,gp,gu,gR,gh,m.ex M<|nofun,ne,λm w=>.inl<|dM _ w⟩⟩;rcases cB.1 hr with hr|hr
 .refine⟨?_,lo r hr⟩;simp only[bW,fq,je]at hr;rcases hr with rfl|rfl|rfl|rfl
  .have⟨_,h,_⟩:=m.s;exact h
  .have⟨_,h,_⟩:=m.e;exact h
  .have⟨_,h,_⟩:=m.n;exact h
  .have⟨_,h,_⟩:=m.l;exact h
 .obtain⟨e,d,rfl⟩:=bT.1 hr;exact⟨(h.lo e d).2,(h.lo e d).1⟩
def _root_.Go.Ae.SH.ajX{h2:R}(G:SH au h2 H L)(hl:∀e∈L,h2.bV<=e.1)(m:∀r∈au,r<h2.bV)(M:pN au H Q):SH au h2 Q L:=
 ⟨G.ext.trans M,λe d=>(G.bk e d).iB (M.obj _ (G.lo e d).2 λh=>by have:=m _ h;have:=hl e d;omega),λe d=>⟨(G.lo e d).1,aP (G.lo e d).2 M.bV⟩,G.ne,M.wf G.wf⟩
def WS.up{H2:R}(M:pN S H0 H1)(d:∀r∈au,r∈S\/H0.bV<=r)(h:WS au H1 H2 rr rs ms me mn ml mo y):WS S H0 H2 rr rs ms me mn ml mo y:=by
 have⟨sv,pv,uv,us,hv,gS,gP,gU,az,gH,h,gs,gp,gu,gR,gh,m,ne,lo⟩:=h;have up:∀r,r∈au\/H1.bV<=r->r∈S\/H0.bV<=r:=λr E=>E.elim (d r) λh=>.inr<|aR M.bV h;exact⟨sv,pv,uv,us,hv,gS,gP,gU,az,gH,⟨M.later h.ext d,h.bk,λe w=>⟨up _ (h.lo e w).1,(h.lo e w).2⟩,h.ne,h.wf⟩,gs,gp,gu,gR,gh,m,ne,λm B=>up m<|lo m B⟩
def WS.m(w:Wf H)(h:WS au (hN H) H1 rr rs ms me mn ml mo y):WS au H (hM H H1) rr rs ms me mn ml mo y:=by
 have⟨sv,pv,uv,us,hv,gS,gP,gU,az,gH,h,gs,gp,gu,gR,gh,m,ne,lo⟩:=h;have M:=h.ext.draw;exact⟨sv,pv,uv,us,hv,gS,gP,gU,az,gH,⟨M,λe d=>(h.bk e d).iB O,h.lo,h.ne,M.wf w⟩,gs,gp,gu,gR,gh,⟨m.s,m.e,m.n,m.l⟩,ne,lo⟩
structure Lim(A:At)(a mo:Nat):Prop where
 m:bnd A a<=mo
 b:bnd A a<=8000000
 s:A.ns*(a+1)<=1000000
variable{p:Sp}
abbrev fm(r:Nat)(l:D Nat)(y:Rn):Rn:=l.foldl (λy aa=>y.meet (r,aa)) y
def RE(h:WS S H0 H rr rs ms me mn ml mo x)(d:Lim A a mo)(w:(x.meet p).vn A a):bM Pg X 87 [pr rr,pE p] H λv Q=>v=aO f/\WS S H0 Q rr rs ms me mn ml mo (x.meet p):=amM h (aR w.le d.m)<|aR w.le d.b
theorem amO(hk:GN cs H0 rw' A q ev sv sb)(hF:∀r∈S,¬cs r)(h:WS S H0 H rr rs ms me mn ml mo x)(hL:Lim A a mo)(B:x.vn A a)(hp:p∈x.sp):bM Pg X 88 [pr rw',pr rr,pr rs,pE p] H λv Q=>v=aO f/\WS S H0 Q rr rs ms me mn ml mo (x.back p):=by
 have al:=B.b p hp;have⟨sv',pv,uv,us,hv,gS,gP,gU,az,gH,h,gs,gp,gu,gR,gh,m,ne,lo⟩:=h;refine lF [0,1,2,3,7,8,10,11,13,50,51,52] ?_;have G:=h.base;refine G.box O λH1 U G=>?_;have G:SH _ H H1 ((U,86,[W p.1,W p.2])::(rr,156,[sv',aO x.ok,hv,vi 0,gz<|Z ms,gz<|Z me,W mo])::(rs,128,[pv,uv,gz<|Z mn,gz<|Z ml])::(gS++(gP++(gU++(az++gH))))):=G;have n1:U≠rr:=G.neT;refine fF ?_;unfold Rn.back;refine aV (λhc=>?_) λhc=>?_
 .refine G.j_ λHn G=>?_;rw[jj N];have T:=m.rows h G.ext;refine Lu.rr ?_;exact⟨O,_,_,_,_,_,_,_,_,_,_,fV (A:=[_])<|h.over G,gs,gp,gu,gR,gh,⟨T.s,T.e,T.n,T.l⟩,ne,lo⟩
 rw[jx N];refine fF ?_;have T:=m.rows h G.ext;refine BX.has (e:=vnE) (k:=p.2) (H:=hN H1) T.e RA Fj eq3<|G.kN ?_;have Y:=G.lt;refine G.aec λH2 rz G ao c1 aw=>?_;have m2:=T.ex ao nofun;refine G.kN ?_;refine splitK (λK hK=>?_) ?_
 .have n2:rz≠U:=λe=>by have:=Y U gB;omega
  have n3:rz≠rr:=λe=>by have:=Y rr gB;omega
  simp only[c1,eZ,gN,fP<|Ext.refl<|hN _];apply AA (a:=rz) (b:=U) (c:=rr) n2 n3 n1 yX fQ fQ hK
 have G:=h.over G;refine aV (λhe=>?_) λhe=>?_
 .rw[jj he];refine Lu.rr ?_;exact⟨O,_,_,_,_,_,_,_,_,_,_,fV (A:=[_]) G,gs,gp,gu,gR,gh,m2,ne,lo⟩
 rw[jx he];refine fF ?_;refine dA (v:=u0) O<|G.aem (e:=vnE) (k:=p.2) (lo _ gB) m2.e RA eq3 λH3 m3 G P c3=>?_;refine splitK (λK hK=>?_) ?_
 .simp only[eZ,c3];apply nE (a:=U) (b:=rr) n1 yX fQ fQ hK
 have nn:∀{m},m∈[ms,mn,ml]->m∉[me]:=λ{m} hm h=>by
  rw[aS.1 h]at hm;simp only[jD,bW,fq,je,not_or]at ne hm;rcases hm with h|h|h
  .exact ne.1.1 h.symm
  .exact ne.2.1.1 h
  .exact ne.2.1.2 h
 have m4:M4 (hM (hM H1 H2) H3) ms me mn ml {x with en:=p.2::x.en}:=⟨m2.s.ex P<|nn gB,m3.plus λj=>by simp[or_comm],m2.n.ex P<|nn gB,m2.l.ex P<|nn gB⟩;generalize hM (hM H1 H2) H3=H4 at G m4|-;apply G.qE;have hw:WS S H0 H4 rr rs ms me mn ml mo {x with en:=p.2::x.en}:=⟨_,_,_,_,_,_,_,_,_,_,fV (A:=[_]) G,gs,gp,gu,gR,gh,m4,ne,lo⟩;have ab:p.2<=u x.sk:=al.2
 have ad:mY x.sk p.2∈x.sk:=by
  obtain⟨k,hk⟩:∃k,p.2=k+1:=⟨p.2-1,N⟩;rw[hk,GQ N];exact bH _
 have Jz:=B.sk.few p.2;have aq:=B.sk.le;have ar:=hL.s;have I:=B.sk.b _ ad;have ac:∀j,(fm (mY x.sk p.2).1 ((mY x.sk p.2).2.2.take j) {x with en:=p.2::x.en}).vn A a:=λj=>Rn.vn.meets (ay:=λaa=>((mY x.sk p.2).1,aa)) _ _ ⟨B.sk,B.nd,B.b⟩ λaa hu=>⟨I.1.1,I.2 aa<|fG hu⟩;refine dn (aoF hw N ab) ?_;rintro _ H4 ⟨rfl,rfl⟩;refine dn (agR (hk.stay hw.ext hF) I.1.1) ?_;rintro _ H4 ⟨rfl,rfl⟩;refine G.kN ?_;refine ig (λhb=>by cases hb) λ_=>?_;apply G.qE;have⟨au,hT,hwT⟩:=hw.own;refine dn (aoG hw N ab (by dsimp only;omega)) ?_;rintro _ H6 ⟨⟨ua,uc,rfl,hf⟩,M⟩;refine bN ?_;have am:=hwT H6 M;have ap:=hw.ext.trans' M;refine Gg 8 13 52 (h1:=λm x8 jY VZ Q=>∃j:Nat,VZ=W j/\j+m=(mY x.sk p.2).2.2.length/\WS au H6 Q rr rs ms me mn ml mo (fm (mY x.sk p.2).1 ((mY x.sk p.2).2.2.take j) {x with en:=p.2::x.en})) ?_ (mY x.sk p.2).2.2.length ⟨0,O,bB _,am⟩;rintro m' x8 jY VZ E H7 ⟨j,rfl,hj,w⟩;refine mG (λhc=>?_) λhc=>?_
 .rw[dV N]at w;refine tl<|Lu.rr ?_;exact⟨O,w.up ap λr hr=>(hT r hr).2⟩
 have d:j<(mY x.sk p.2).2.2.length:=N;refine(hf.stay w.ext λr hr=>.inl<|fI (hT r hr).1).ix d (AQ d) λ_=>?_;rw[getD_in (h:=d)];refine dA (v:=pE ((mY x.sk p.2).1,(mY x.sk p.2).2.2[j])) O ?_;have e:fm (mY x.sk p.2).1 ((mY x.sk p.2).2.2.take<|j+1) {x with en:=p.2::x.en}=(fm (mY x.sk p.2).1 ((mY x.sk p.2).2.2.take j) {x with en:=p.2::x.en}).meet ((mY x.sk p.2).1,(mY x.sk p.2).2.2[j]):=by unfold fm;rw[dU,av d,iR];rfl
 have V:=ac<|j+1;rw[e]at V;refine dn (RE w hL V) ?_;rintro _ H8 ⟨rfl,an⟩;refine bN ?_;refine ig (λhb=>by cases hb) λ_=>?_;refine eD ?_;exact⟨(mY x.sk p.2).2.2.length-(j+1),N,_,_,_,_,_,O,j+1,pq,N,by rw[e];exact an⟩
end
end Go.Proofs.Lv
namespace Go.Ae
variable{a j:Nat}{t:aI}{ox oy:cz}{b:Int}{k:f_}
def aaL{P:aX}{a:Int}{j:f_}(h:0<=b):mW P .shl t ox oy (a_ k a) (a_ j b)=Z (a_ k<|QL k a b):=by
 show lD (Op.shift .shl k a j b)=_;unfold Op.shift;rw[jx N];rfl
def P6{P:aX}{a:Int}{j:f_}(h:0<=b):mW P .shr t ox oy (a_ k a) (a_ j b)=Z (a_ k<|F_ k a b):=by
 show lD (Op.shift .shr k a j b)=_;unfold Op.shift;rw[jx N];rfl
def wrap64(h:a<2^64):oJ fO (a:Int)=(a:Int):=by
 simp[oJ,IntKind.bits,IntKind.signed];omega
def ofInt64(h:a<2^64):(kU 64 (a:Int)).toNat=a:=by
 rw[BitVec.toNat_ofInt];have:((a:Int) %((2^64:Nat):Int))=(a:Int):=Int.emod_eq_of_lt N (by exact_mod_cast h);rw[this];rfl
def amP{b:Nat}(d:a<2^64)(m:b<2^64):bOr fO (a:Int) (b:Int)=((a|||b:Nat):Int):=by
 unfold bOr;rw[show(fO).bits=64 from O,BitVec.toNat_or,ofInt64 d,ofInt64 m];exact wrap64<|uY d m
def amQ(d:j<64):QL fO 1 (j:Int)=((2^j:Nat):Int):=by
 unfold QL;rw[kV,show min j (fO).bits=j from jF (by show j<=64;omega),Int.one_mul,show(2:Int)^j=((2^j:Nat):Int) by push_cast;rfl];exact wrap64<|tu jg d
def aiu(d:a<2^64)(w:j<64):decide (af8 fO (F_ fO (a:Int) (j:Int)) 1=1)=a.testBit j:=by
 have e:F_ fO (a:Int) (j:Int)=((a/2^j:Nat):Int):=by
  unfold F_;rw[kV,show min j (fO).bits=j from jF (by show j<=64;omega),tN _<|Int.le_of_lt<|Int.pow_pos jg]
  push_cast;rfl
 have m:a/2^j<2^64:=Nat.lt_of_le_of_lt (Nat.div_le_self _ _) d;unfold af8;rw[e,show(1:Int)=((1:Nat):Int)from O,show(fO).bits=64 from O,BitVec.toNat_and,ofInt64 m,ofInt64 jg,Nat.and_one_is_mod,wrap64 N];rw[qz];exact wm.2 N
end Go.Ae
namespace Go.Proofs.Lv
open Go.Proofs.Lu Go.Proofs.Lu.Wk
open Go.Ae Go.Ae.hx
variable{sb:D Bool}{l o:D Sp}{ae a c fc htc htn me ml mn mo ms n r rs rw' st:Nat}{L hx gb:D eF}{fa II:aC Addr}{F':Nat->Prop}{p:Sp}{hd:Nat->Bool}{H Q H0:R}{A:At}{q:AV}{au ts:D Nat}{x:Rn}{hv sv v:C}{ok:Bool}{t:Int}{e:Ed}{s:Sk}
section
variable{S:D Nat}{cs:Nat->Prop}
abbrev zA(n:Nat):C:=a_ fO (n:Int)
def wd1(vn:D Nat)(t:Nat):D Nat:=vn.set (t/64)<|vn.getD (t/64) 0|||2^(t %64)
def top'(ts:D Nat):Int:=ts.foldl (λ(m:Int)(t:Nat)=>max m (t:Int)) (-1)
def OO(ts:D Nat):D Nat:=ts.foldl wd1<|aY ((top' ts+64)/64).toNat 0
def hasB(vn:D Nat)(t:Nat):Bool:=(vn.getD (t/64) 0).testBit<|t %64
def WX:∀(ts:D Nat)(m:Int),m<=ts.foldl (λ(m:Int)(t:Nat)=>max m (t:Int)) m/\∀t∈ts,(t:Int)<=ts.foldl (λ(m:Int)(t:Nat)=>max m (t:Int)) m
 |[],m=>⟨lX _,nofun⟩
 |aa::ts,m=>by
  have⟨I,B⟩:=WX ts<|max m aa;refine⟨wQ N I,λt ht=>?_⟩;rcases bW.1 ht with rfl|ht
  .exact wQ N I
  .exact B t ht
def aet{n:Int}:∀(ts:D Nat)(m:Int),m<n->(∀t∈ts,(t:Int)<n)->ts.foldl (λ(m:Int)(t:Nat)=>max m (t:Int)) m<n
 |[],m,h,_=>h
 |aa::ts,m,h,hb=>aet ts _ (by have:=hb aa gB;show max m (aa:Int)<n;omega) λt ht=>hb t (by simp[ht])
def Y6(vn:D Nat)(t:Nat):u (wd1 vn t)=u vn:=bU
theorem ajY{vn:D Nat}(h:∀w∈vn,w<2^64)(t:Nat):∀w∈wd1 vn t,w<2^64:=λw d=>by
 rcases iT d with g|rfl
 .exact h w g
 .refine uY ?_ (tu jg<|o8 _ jg);rw[aW];cases e:vn[t/64]? with
  |none=>exact w_ 64
  |some x=>exact h x<|aT e
def aeu{vn:D Nat}{t:Nat}(ht:t/64<u vn)(aa:Nat):hasB (wd1 vn t) aa=(hasB vn aa||decide (aa=t)):=by
 unfold hasB wd1;rw[aW,dX]
 by_cases h:t/64=aa/64
 .rw[jj h,jj ht,p9,xN,h,Nat.testBit_two_pow];congr 1;exact wm.2 N
 .rw[jx h,dQ N,nR,aW]
theorem aev(ts:D Nat):∀(vn:D Nat),(∀t∈ts,t/64<u vn)->∀aa,hasB (ts.foldl wd1 vn) aa=(hasB vn aa||decide (aa∈ts)):=by
 induction ts with
 |nil=>intro vn _ aa;simp
 |cons t ts d=>
  intro vn h aa;rw[lz,d _ (λs hs=>by rw[Y6];exact h s<|by simp[hs]),aeu<|h t gB,Bool.or_assoc];congr 1
  by_cases e:aa=t<;>simp[e]
def Fp(ts:D Nat)(aa:Nat):hasB (OO ts) aa=decide (aa∈ts):=by
 unfold OO
 rw[aev ts _ (λt d=>by
  rw[jX];have:=(WX ts (-1)).2 t d;unfold top';omega)]
 have:hasB (aY ((top' ts+64)/64).toNat 0) aa=aA:=by
  unfold hasB;rw[aW,lZ];split<;>simp
 rw[this,sZ]
def K5(cs:Nat->Prop)(H:R)(v:C)(vn:D Nat):Prop:=∃r,v=J (Z ⟨r,0,T⟩) (u vn) (u vn)/\cs r/\r<H.bV/\Bk H r 105 (vn.map zA)/\u vn<=1024/\∀w∈vn,w<2^64
def ER(z:Int):bM Pg X 67 [vi z] H (Q0 (λv=>v=aO (decide<|0<=z/\z<65536)) H):=by
 refine ce [0,2] ?_;refine tK (λh=>?_) λh=>?_
 .refine rr ?_;exact⟨by simp[h],rfl⟩
 .refine rr ?_;exact⟨by simp[h],rfl⟩
def aiv(z:Int):bM Pg X 50 [J T 0 0,vi z] H (Q0 (λv=>v=aO aA) H):=by
 refine lF [0,1,4] ?_;refine dn (ER z) ?_;rintro _ _ ⟨rfl,rfl⟩;refine tJ (λh=>?_) λh=>?_
 .refine dA (MM N N N) ?_;refine bN ?_;refine aV (λh=>N) λ_=>?_;refine rr ?_;exact⟨O,O⟩
 .refine rr ?_;exact⟨O,O⟩
def aaM{vn:D Nat}(hv:K5 cs H v vn)(z:Int):bM Pg X 50 [v,vi z] H (Q0 (λv=>v=aO (decide (0<=z/\z<65536)&&hasB vn z.toNat)) H):=by
 obtain⟨r,rfl,_,E,d,w,m⟩:=hv;refine lF [0,1,4] ?_;refine dn (ER z) ?_;rintro _ _ ⟨rfl,rfl⟩;refine MQ (λh=>?_) λh=>?_
 .refine rr ?_;exact⟨by simp only[dQ h];rfl,rfl⟩
 obtain⟨t,rfl⟩:∃t:Nat,z=t:=⟨z.toNat,N⟩;refine dA (NR 64 O jg N) ?_;refine tJ (λB=>?_) λB=>?_
 .refine dA (NR 64 O jg N)<|dA (uK N)<|iV (v:=zA vn[t/64]) (d.cell (by rw[bB,dY];exact jV _<|av N)) ?_;refine dA (sw 64 O jg N) ?_;refine dA (P6<|jG _) ?_;refine bN ?_;refine rr ?_;refine⟨?_,O⟩;rw[aiu (m _<|bH _) (o8 _ jg),bY h,nS];unfold hasB;rw[kV,aW,av (show t/64<u vn by omega)];rfl
 .refine rr ?_;refine⟨?_,O⟩;unfold hasB;rw[kV,aW,dB N];simp
def ES(T:Wf H){a:aC Addr}(hf:jC cs 3 H a (u ts) 1<|gq ts)(ht:∀t∈ts,t<65536)(hn:u ts<=16777216):bM Pg X 37 [J a (u ts) c] H (Q1 (λv Q=>K5 (H.bV<=·) Q v<|OO ts) H):=by
 refine GV [0,2,3,5,6,8,9,10,11,25,26,27] ?_;have I:=aet (n:=65536) ts (-1) N λt h=>by have:=ht t h;omega
 have ab:=WX ts (-1);refine Gg 3 5 11 (h1:=λm x3 x5 jh Q=>∃j:Nat,jh=W j/\j+m=u ts/\Q=H/\x3=vi ((ts.take j).foldl (λ(m:Int)(t:Nat)=>max m (t:Int)) (-1))) ?_ (u ts) ⟨0,rfl,bB _,rfl,rfl⟩;rintro m x3 x5 jh E H1 ⟨j,rfl,hj,rfl,rfl⟩;refine tK (λhc=>?_) λhc=>?_
 .have B:j<u ts:=N;refine hf.ix B (AQ B) λ_=>?_;rw[getD_in (h:=B)];refine dn (ER _) ?_;rintro _ _ ⟨rfl,rfl⟩;have:=ht _<|bH B;rw[bY ⟨jG _,N⟩];refine bN ?_;refine eD ?_;exact⟨u ts-(j+1),N,_,_,_,_,_,O,j+1,pq,N,O,by rw[dU,av B,iR];rfl⟩
 rw[dV N];obtain⟨n,hn⟩:∃n:Nat,(top' ts+64)/64=n:=⟨((top' ts+64)/64).toNat,by unfold top';omega⟩;have G:=gM T;have P:top' ts=ts.foldl (λ(m:Int)(t:Nat)=>max m (t:Int)) (-1):=rfl;refine tl ?_;refine eD ?_;refine dA (MM N N N) ?_;rw[<-P,hn];refine G.mkS (ax _) N λH2 r G=>?_;rw[nC]at G;refine bN ?_;refine lp2 8 27 (h1:=λm x8 U Q=>∃(j:Nat)(vn:D Nat),U=W j/\j+m=u ts/\vn=(ts.take j).foldl wd1 (aY n 0)/\u vn=n/\(∀w∈vn,w<2^64)/\SH [] H1 Q [(r,105,vn.map zA)]) ?_ (u ts) ⟨0,aY n 0,rfl,bB _,rfl,jX ..,λw h=>by rw[qp h];exact w_ 64,by rw[show(aY n 0).map zA=aY n (a_ fO 0)from ko];exact G⟩;clear G;rintro m x8 U ad H3 ⟨i,vn,rfl,hi,Y,hl,T,G⟩;refine mG (λhc=>?_) λhc=>?_
 .rw[dV N]at Y;have e:OO ts=vn:=by unfold OO;rw[hn,Y];rfl
  refine tl ?_;refine rr ?_;exact⟨⟨r,by rw[e,hl],G.yu<|aK ..,(G.lo _<|aK ..).2,by rw[e];exact G.get 0 O,by rw[e,hl];omega,by rw[e];exact T⟩,G.ext⟩
 have d:i<u ts:=N;refine(hf.ex G.ext).ix d (AQ d) λ_=>?_;rw[getD_in (h:=d)];refine dn (ER _) ?_;rintro _ H3 ⟨rfl,rfl⟩;have V:=ht _<|bH d;have UW:=ab.2 _<|bH d;have e1:(ts.take<|i+1).foldl wd1 (aY n 0)=wd1 vn ts[i]:=by rw[dU,av d,iR,<-Y];rfl
 have I:=ajY T ts[i];generalize ts[i]=t at V UW e1 I|-;have M:t/64<n:=N;have ev:vn[t/64]?=Z (vn.getD (t/64) 0):=by rw[aW,av N];rfl
 rw[bY ⟨jG _,N⟩];refine bN ?_;refine dA (NR 64 O jg N)<|G.R8 (k:=t/64) M (jV _ ev)<|dA (sw 64 O jg N)<|dA (aaL<|jG _) ?_;rw[amQ (o8 _ jg)];have ac:vn.getD (t/64) 0<2^64:=T _<|aT ev;refine G.kN ?_;rw[amP ac (tu jg<|o8 _ jg)];refine G.Rj (k:=t/64) M (by rw[aM];omega) (kk:=λH4 G=>?_);refine splitK (λK hK=>?_) ?_
 .simp only[eZ,gN];generalize t/64=k;apply Gc (a:=r) yX fQ fQ hK
 refine eD ?_;exact⟨u ts-(i+1),N,_,_,_,_,O,i+1,wd1 vn t,pq,N,e1.symm,by rw[Y6];exact hl,I,by rw[show(wd1 vn t).map zA=(vn.map zA).set (t/64) (zA<|vn.getD (t/64) 0|||2^(t %64))from gW];exact G⟩
def FE(vn:D Nat):Nat->Nat
 |0=>0
 |m+1=>if vn.getD m 0=0 then FE vn m else m+1
def Du(vn:D Nat):∀m,FE vn m<=m
 |0=>ax _
 |m+1=>by
  unfold FE;split
  .exact uW<|Du vn m
  .exact ax _
def LB{m:Nat}(h:m<=n)(w:n<=1000000):Tc 1 (J (Z ⟨r,0,T⟩) n n) T (Z<|W m) T=Z (J (Z ⟨r,0,T⟩) m n):=by
 show b_ (gZ n) (gd (aD 0 m&&aD m n&&aD n n&&f)<|Z<|J (Z ⟨r,sS n 0 0 1,T⟩) (dP m 0)<|dP n 0) _=_;have d:sS n 0 0 1=0:=by unfold sS;cases aB n 0<;>rfl
 rw[show gZ n=f from aH N,oU,aH<|bD _,aH h,aH<|ax _,d];rfl
end
section
open Go.Proofs.Lu Go.Proofs.Lu.Wk
open Go.Ae Go.Ae.hx
variable{S:D Nat}{rr:Nat}
def BD:∀l,u (hts l)=u l*3
 |[]=>rfl
 |p::l=>by have:=BD l;simp only[hts,lY,aU,cO,qG]at this|-;omega
def UB(l:D<|Nat×Sp)(h:Nat×Sp):hts (l++[h])=hts l++[W h.1,W h.2.1,W h.2.2]:=by simp[hts]
def RF:∀{l:D (Nat×Sp)}{i:Nat}{h:Nat×Sp}{j:D C},l[i]?=Z h->((hts l++j).drop<|i*3).take 3=[W h.1,W h.2.1,W h.2.2]
 |[],i,p,_,h=>by simp at h
 |x::l,0,p,_,h=>by simp at h;subst h;simp[hts]
 |x::l,i+1,p,j,h=>by
  have:=RF (l:=l) (i:=i) (j:=j)<|om h;rw[<-this,show(i+1)*3=i*3+3 by omega];rfl
def amR(a b:Sp)(i j:Nat):mW Pg .eql 86 (.tmp i) (.tmp j) (pE a) (pE b)=Z (aO<|decide<|a=b):=by
 have:mW Pg .eql 86 (.tmp i) (.tmp j) (pE a) (pE b)=aN (b_ (FI (a.1:Int) b.1) (b_ (FI (a.2:Int) b.2) (Z f)<|Z aA)<|Z aA) λb=>Z (aO b):=fQ;rw[this,Uz];rfl
def aiw(a b:Nat×Sp):b_ (FI (a.1:Int) b.1) (b_ (FI (a.2.1:Int) b.2.1) (b_ (FI (a.2.2:Int) b.2.2) (Z f)<|Z aA)<|Z aA) (Z aA)=Z (decide<|a=b):=by
 rw[Uz a.2 b.2,Br];have⟨d,a2⟩:=a;have⟨b1,b2⟩:=b
 by_cases I:d=b1
 .subst I;rw[bY O];show Z (decide<|a2=b2)=_;simp
 .rw[dQ (show¬((d:Nat):Int)=b1 by omega)];show Z aA=_;simp[I]
def amS(a b:Nat×Sp)(i j:Nat):mW Pg .eql 88 (.tmp i) (.tmp j) (dN ⟨[W a.1,W a.2.1,W a.2.2]⟩) (dN ⟨[W b.1,W b.2.1,W b.2.2]⟩)=Z (aO<|decide<|a=b):=by
 have:mW Pg .eql 88 (.tmp i) (.tmp j) (dN ⟨[W a.1,W a.2.1,W a.2.2]⟩) (dN ⟨[W b.1,W b.2.1,W b.2.2]⟩)=aN (b_ (FI (a.1:Int) b.1) (b_ (FI (a.2.1:Int) b.2.1) (b_ (FI (a.2.2:Int) b.2.2) (Z f)<|Z aA)<|Z aA)<|Z aA) λb=>Z (aO b):=fQ;rw[this,aiw];rfl
theorem aoI(h:WS S H0 H rr rs ms me mn ml mo x)(hl:u x.ht<=5592404)(k:Nat×Sp):bM Pg X 115 [pr rr,dN ⟨[W k.1,W k.2.1,W k.2.2]⟩] H λv Q=>WS S H0 Q rr rs ms me mn ml mo (x.hit k):=by
 have⟨sv,pv,uv,us,hv,gS,gP,gU,az,gH,h,gs,gp,gu,gR,Y,m,ne,lo⟩:=h;obtain⟨ha,hn,hc,rfl,ab⟩:=Y.OL;rw[BD]at ab;obtain rfl:hn=u x.ht:=N;refine lF [0,1,3,4] ?_;have G:=h.base;refine G.box O λH1 rb G=>?_;have G:SH _ H H1 ((rb,88,[W k.1,W k.2.1,W k.2.2])::(rr,156,[sv,aO x.ok,J ha (u x.ht) hc,vi 0,gz<|Z ms,gz<|Z me,W mo])::(rs,128,[pv,uv,gz<|Z mn,gz<|Z ml])::(gS++(gP++(gU++(az++gH))))):=G;have n1:rb≠rr:=G.neT;refine fF ?_;have ad:=G
 have P:scan k x.ht.reverse=aA->∀{V:C}{E:Rs},iC Pg X (sub Ii [1,1]) (Gj (pr rr) (dN ⟨[W k.1,W k.2.1,W k.2.2]⟩) (pr rb) V E H1) (jO Pg [] λv Q=>WS S H0 Q rr rs ms me mn ml mo<|x.hit k):=by
  intro hs V E;refine tm ?_;refine Y.GL G O O O (by rw[BD];omega) λq H5 v' H6 iX T G c5 c6 _=>?_;obtain⟨al,an,am,rfl⟩:=T.sl;refine G.oq λHn G=>?_;refine splitK (λK hK=>?_) ?_
  .simp only[eZ,gN,c5];rcases c6 with e|e<;>rw[e]<;>apply nE (a:=rb) (b:=rr) n1 yX fQ fQ hK
  have M:=m.rows h G.ext;have G:=fV (A:=[_])<|h.over G;have e:x.hit k={x with ht:=x.ht++[k]}:=jx (by rw[hs];decide);rw[e];refine rn ?_;exact⟨_,_,_,_,_,_,_,_,_,_,G,gs,gp,gu,gR,by dsimp only;rw[UB];exact T,⟨M.s,M.e,M.n,M.l⟩,ne,lo⟩
 refine rA ?_;refine VX 4 (h1:=λn V Q=>∃i:Nat,V=vi ((i:Int)-1)/\i=n/\i<=u x.ht/\scan k x.ht.reverse=scan k (x.ht.take i).reverse/\Q=H1) ?_ (u x.ht) ⟨u x.ht,rfl,rfl,ax _,by rw[jL],rfl⟩;rintro n V E H2 ⟨i,rfl,rfl,hi,d,rfl⟩;refine tl ?_;cases i with
 |zero=>
  refine G.kN ?_;refine aV (λh=>N) λ_=>?_;exact iY O<|P (by rw[d];rfl)
 |succ j=>
  rw[show(((j+1:Nat):Int)-1)=(j:Int) by omega];have hj:j<u x.ht:=N;rcases id Y with⟨_,h0,_⟩|⟨rH,nH,fE,e,ao,rfl⟩
  .have:=BD x.ht;rw[h0]at this;simp only[qG]at this;omega
  cases e;have w:=RF (j:=fE)<|av hj
  have U:scan k (x.ht.take<|j+1).reverse=if x.ht[j].2=k.2 then(if x.ht[j]=k then f else scan k (x.ht.take j).reverse)else aA:=by
   rw[dU,av hj,List.reverse_append];rfl
  rw[U]at d;generalize x.ht[j]=g at w d;refine G.kN ?_;refine aV (λ_=>?_) λh=>absurd (jG j) h;refine fF ?_;refine dA (uK hj) ?_;rw[bB];refine G.kN ?_;have ac:u (hts x.ht++fE)=u x.ht*3+u fE:=by rw[aU,BD]
  have e2:((hts x.ht++fE).drop<|j*3+1).take 2=[W g.2.1,W g.2.2]:=by
   rw[<-pM];have:=eY (List.drop 1) w
   rwa [List.drop_take]at this
  refine G.Py (r:=rH) (F:=hts x.ht++fE) ?_ N;rw[e2];refine fF ?_;refine dA (amR g.2 k.2 _ _)<|fF ?_;refine nO (λI=>?_) λI=>?_
  .rw[jx I]at d;exact P d
  rw[jj I]at d;refine tm ?_;refine dA (uK hj) ?_;rw[bB];refine G.Py (r:=rH) (F:=hts x.ht++fE) ?_ N;rw[w];refine fF ?_;refine dA (amS g k _ _)<|fF ?_;refine aV (λB=>?_) λB=>?_
  .rw[jj B]at d;have e:x.hit k=x:=jj d;rw[e];have M:=m.rows h G.ext;refine Lu.rr ?_;exact⟨_,_,_,_,_,_,_,_,_,_,fV (A:=[_])<|h.over G,gs,gp,gu,gR,Y,M,ne,lo⟩
  .rw[jx B]at d;refine rA ?_;exact⟨j,N,_,_,_,O,j,O,O,N,d,O⟩
end
section
open Go.Proofs.Lu Go.Proofs.Lu.Wk
open Go.Ae Go.Ae.hx
variable{S:D Nat}{rr:Nat}{cs:Nat->Prop}{ev:C}
theorem ajZ(hh:∀Q,pN S H0 Q->∀r,r<A.nr->bM Pg X 50 [hv,W r] Q (Q0 (λv=>v=aO (hd r)) Q))(aw:u x.ht<=5592404)(ho:A.Ok)(hk:GN cs H0 rw' A q ev sv sb)(hF:∀r,cs r->r<H0.bV/\r∉S)(h:WS S H0 H rr rs ms me mn ml mo x)(hL:Lim A a mo)(hW:x.vn A a)(hp:p.1<A.ns/\p.2<=u x.sk)(he:e∈A.rg p.1):
 bM Pg X 89 [pr rw',pr rr,pr rs,pE p,dN ⟨[W e.1,W e.2.1,W e.2.2]⟩,W a,hv] H λv Q=>v=vi 0/\WS S H0 Q rr rs ms me mn ml mo (x.iJ A hd A.Em a p e):=by
 have V:=ho.e _ hp.1 e he;have⟨au,hT,hwT⟩:=h.own;have am:∀r∈au,¬cs r:=λr Y h=>((hT r Y).2.elim (hF r h).2 λg=>absurd (hF r h).1<|fu g);have aE:=hk.stay h.ext λr Y h=>(hF r h).2 Y;refine lF [0,1,2,3,4,5,6,10,11,14,15,16,18,19,21] ?_;have G:=gM h.wf;refine G.box O λH1 rb G=>?_;refine G.box O λH2 re G=>?_;have G:SH [] H H2 [(re,121,[W e.1,W e.2.1,W e.2.2]),(rb,86,[W p.1,W p.2])]:=G;refine fF ?_;refine G.ns O O O λH3 rz G ac=>?_;have G:SH [] H H3 [(rz,86,[W e.2.2,W p.2]),(re,121,[W e.1,W e.2.1,W e.2.2]),(rb,86,[W p.1,W p.2])]:=G;have ab:=hwT H3 G.ext;have ac:=G.ext;have ap:=aE.stay G.ext nofun;have up:∀{Q y},WS au H3 Q rr rs ms me mn ml mo y->WS S H0 Q rr rs ms me mn ml mo y:=λhw=>hw.up (h.ext.trans' ac) λr Y=>(hT r Y).2;have bx:∀{Q},pN au H3 Q->SH au H Q [(rz,86,[W e.2.2,W p.2]),(re,121,[W e.1,W e.2.1,W e.2.2]),(rb,86,[W p.1,W p.2])]:=λM=>(G.weaken nofun).ajX (λe he=>G.yu he) (λr Y=>(hT r Y).1) M
 have T:∀{y z:Rn}{Q}{rT zX wB yS E},WS au H3 Q rr rs ms me mn ml mo y->(y.meet (e.2.2,p.2)).vn A a->y.meet (e.2.2,p.2)=z->iC Pg X (sub Et [1,1,1,1]) (DN (pr rw') (pr rr) (pr rs) (pE p) (dN ⟨[W e.1,W e.2.1,W e.2.2]⟩) (W a) hv (pr rb) (pr re) (vi 0) (pr rz) rT zX wB yS E Q) (jO Pg [.tmp 14] λv Q=>v=vi 0/\WS S H0 Q rr rs ms me mn ml mo z):=λ{y z Q}{rT zX wB yS E} hw hy ey=>by
  have G:=bx hw.ext;refine tl ?_;apply G.jl;refine dn (RE (p:=(e.2.2,p.2)) hw hL hy) ?_;rintro _ H4 ⟨rfl,hw⟩;refine bN ?_;refine ig (λh=>by cases h) λ_=>?_;refine Lu.rr ?_;exact⟨O,ey▸up hw⟩
 refine ym (λI=>?_) λI=>?_
 .have w:x.iJ A hd A.Em a p e=x:=by unfold Rn.iJ;rw[jx N];exact jj N
  rw[w];refine Lu.rr ?_;exact⟨O,up ab⟩
 refine acC (λB=>?_) λB=>?_
 .have w:x.iJ A hd A.Em a p e=x.meet (e.2.2,p.2):=by unfold Rn.iJ;rw[jx N];unfold Rn.along;rw[jx N,jx N]
  refine tm ?_;refine aV (λh=>absurd h B) λ_=>?_;exact T ab (hW.meet V.1 hp.2) w.symm
 have d:e.2.1<A.nr:=ho.call he N;have al:e.1=2:=N;cases hh1:hd e.2.1 with
 |true=>
  refine G.qE<|dn (hh _ (h.ext.trans' ac) _ d) ?_;rintro _ H4 ⟨rfl,rfl⟩;rw[hh1];refine tm ?_;refine dn (aoI ab aw (e.2.1,p)) ?_;rintro _ H5 U;have G:=bx U.ext;have ar:=ap.stay U.ext am;obtain⟨eb,ea,ec,rfl,ao,an⟩:=ar.e;refine iV (H:=hN H5) (ar.b.cell (o:=6) O) ?_;refine fF ?_;cases hem:A.Em e.2.1 with
  |false=>
   refine ao.R8 d (v:=aO aA) (by rw[bL,an _ d,hem];rfl) λr o=>?_;have w:x.iJ A hd A.Em a p e=x.hit (e.2.1,p):=by unfold Rn.iJ;rw[jj ⟨al,hh1⟩,jx (by rw[hem];decide)]
   rw[w];refine fF ?_;refine(show∀{a b:Prop},a->yN (Z !aA) a b fromλh=>h)<|Lu.rr ?_;exact⟨O,up U⟩
  |true=>
   refine ao.R8 d (v:=aO f) (by rw[bL,an _ d,hem];rfl) λr o=>?_;have w:x.iJ A hd A.Em a p e=(x.hit (e.2.1,p)).meet (e.2.2,p.2):=by unfold Rn.iJ;rw[jj ⟨al,hh1⟩,jj hem]
   refine fF ?_;exact(show∀{a b:Prop},b->yN (Z !f) a b fromλh=>h)<|T U (hW.hit.meet V.1 (by rw[Rn.vH.1];exact hp.2)) w.symm
 |false=>
 have a1:=(ho.s _ d).1;have⟨w1,w2,w3⟩:=air hW.sk (r:=e.2.2) V.1 hp.2;have w:x.iJ A hd A.Em a p e=({x with sk:=(put x.sk e.2.2 a p.2).1}.meet (A.S e.2.1,(put x.sk e.2.2 a p.2).2.1):Rn).hop (put x.sk e.2.2 a p.2).2 (e.2.2,p.2):=by unfold Rn.iJ;rw[jx (by rw[hh1];exactλh=>by cases h.2)];unfold Rn.along;rw[jx N,jj N]
 have hy:({x with sk:=(put x.sk e.2.2 a p.2).1}.meet (A.S e.2.1,(put x.sk e.2.2 a p.2).2.1):Rn).vn A a:=Rn.vn.meet ⟨w1,hW.nd,λq hq=>⟨(hW.b q hq).1,aR (hW.b q hq).2 w3⟩⟩ a1 w2;have a6:({x with sk:=(put x.sk e.2.2 a p.2).1}.meet (A.S e.2.1,(put x.sk e.2.2 a p.2).2.1):Rn).en=x.en:=by unfold Rn.meet;split<;>rfl
 have a3:({x with sk:=(put x.sk e.2.2 a p.2).1}.meet (A.S e.2.1,(put x.sk e.2.2 a p.2).2.1):Rn).sk=(put x.sk e.2.2 a p.2).1:=Rn.pR;have a4:=hW.sk.le;have a5:=hL.s;refine G.qE<|dn (hh _ (h.ext.trans' ac) _ d) ?_;rintro _ H4 ⟨rfl,rfl⟩;rw[hh1];refine tm ?_;refine aV (λ_=>?_) λh=>absurd B h;refine fF ?_;refine dn (aoH ab hp.2 N λn=>by have:=hW.sk.few n;omega) ?_;rintro _ H4 ⟨bn,rfl,P⟩;generalize hpt:put x.sk e.2.2 a p.2=pt' at*;have⟨s',n,fr⟩:=pt';dsimp only at*;have G:=bx P.ext;refine bN ?_;refine eU (λh=>absurd trivial h) λ_=>?_;have aq:=ap.stay P.ext am;refine iV (H:=hN H4) (aq.b.cell (o:=1) O) ?_;refine fF ?_;refine aq.a.ajI ho d λr o=>?_;refine fF ?_;have⟨T2,hT2,agS⟩:=P.own;refine dn (RE (p:=(A.S e.2.1,n)) (agS _<|Ext.hN H4) hL hy) ?_;rintro _ H5 ⟨rfl,U⟩;replace U:=(U.m P.wf).up P.ext λr Y=>(hT2 r Y).2;refine bN ?_;refine splitK (λK hK=>?_) ?_
 .simp only[eZ];rcases xu H4 H5 with e|e<;>rw[e]<;>exact aey fQ fQ hK
 generalize({x with sk:=s'}.meet (A.S e.2.1,n):Rn)=y at*;generalize hM H4 H5=H6 at U|-;have⟨_,_,_,_,_,_,_,_,_,_,G,_,_,_,_,_,m,_⟩:=id U;refine ig (λh=>by cases h) λ_=>?_;refine G.qE<|BX.has (e:=vnE) (k:=n) m.e RA Fj eq3<|G.kN ?_;refine G.ns O O O λH7 ru G a2=>?_;have ad:=U.call a2;have a0:p.2<=u y.sk:=by rw[a3];omega
 refine eU (λhn=>?_) λhn=>?_
 .rw[w];have e2:y.hop (n,fr) (e.2.2,p.2)=y:=jx λh=>hn h.1;rw[e2];refine Lu.rr ?_;exact⟨O,up ad⟩
 cases fr with
 |false=>
  refine ig (λ_=>?_) (λh=>by cases h);rw[w];have e2:y.hop (n,aA) (e.2.2,p.2)=y:=jx λh=>by cases h.2
  rw[e2];refine Lu.rr ?_;exact⟨O,up ad⟩
 |true=>
  refine ig (λh=>by cases h) λ_=>?_;exact T ad (hy.meet V.1 a0) (by rw[w];exact(jj ⟨hn,O⟩).symm)
end
section
open Go.Proofs.Lu Go.Proofs.Lu.Wk
open Go.Ae Go.Ae.hx
variable{S:D Nat}{rr:Nat}{cs:Nat->Prop}{ev:C}
def P7(au:D Nat)(H:R)(rs:Nat)(s:Sk):Prop:=∃mn ml w E B d m az,SH au H H ((rs,128,[w,E,gz<|Z mn,gz<|Z ml])::(d++(m++az)))/\
 GJ 161 2 w (vi (-1)::W 0::BR (s.map λe=>(e.1,e.2.1))) d/\GJ 22 1 E B m/\Jm 3 1 ([]::s.map λe=>gq e.2.2) B az/\
 BX pE H mn (λp=>(K4 s p.1 p.2).map λk=>W<|k+1)/\BX pE H ml (λp=>if 0<p.1/\p.2∈(mY s p.1).2.2 then Z u0 else T)/\mn≠ml/\mn∈au/\ml∈au
def P7.stay(h:P7 au H rs s)(M:pN S H Q)(G:∀r∈S,r∉au):P7 au Q rs s:=by
 have⟨mn,ml,pv,uv,us,gP,gU,az,h,gp,gu,gR,m,l,ne,hm,hl⟩:=h;have w:∀e∈(rs,128,[pv,uv,gz<|Z mn,gz<|Z ml])::(gP++(gU++az)),e.1∈au:=λe d=>(h.lo e d).1.resolve_right<|fI (h.lo e d).2;exact⟨mn,ml,pv,uv,us,gP,gU,az,⟨pN.refl _ _,λe d=>(h.bk e d).iB<|M.obj _ (h.lo e d).2 λB=>G _ B<|w e d,λe d=>⟨.inl<|w e d,aP (h.lo e d).2 M.bV⟩,h.ne,M.wf h.wf⟩,gp,gu,gR,m.ex M λB=>G _ B hm,l.ex M λB=>G _ B hl,ne,hm,hl⟩
theorem WS.done(h:WS S H0 H rr rs ms me mn ml mo x):∃au K sc I M,P7 au H rs x.sk/\(∀r∈au,r<H.bV/\(r∈S\/H0.bV<=r))/\Bk H rr 156 [J K (u x.sp) sc,aO x.ok,J I (u x.ht) M,vi 0,gz<|Z ms,gz<|Z me,W mo]/\rr∉au/\jC (·∉au) 86 H K (u x.sp) 2 (BR x.sp)/\jC (·∉au) 88 H I (u x.ht) 3 (hts x.ht):=by
 have⟨sv,pv,uv,us,hv,gS,gP,gU,az,gH,h,gs,gp,gu,gR,gh,m,ne,lo⟩:=h;obtain⟨K,sn,sc,rfl,Y⟩:=gs.OL;rw[uu]at Y;obtain rfl:sn=u x.sp:=N;obtain⟨I,U,M,rfl,T⟩:=gh.OL;rw[BD]at T;obtain rfl:U=u x.ht:=N
 have P:=h.perm (L':=gS++(gH++((rr,156,[J K (u x.sp) sc,aO x.ok,J I (u x.ht) M,vi 0,gz<|Z ms,gz<|Z me,W mo])::(rs,128,[pv,uv,gz<|Z mn,gz<|Z ml])::(gP++(gU++az))))) ((jB [_,_] gS _).trans (gT gS (by
  have:∀(a b:eF),[a,b]++(gP++(gU++(az++gH)))=([a,b]++(gP++(gU++az)))++gH:=λa b=>gB;rw[this];exact aG)))
 have B:=fV P;have hr:=fV B;have E:=fV (A:=[_]) hr
 have w:∀{m},m∈[mn,ml]->m<H.bV/\(m∈S\/H0.bV<=m)/\∀{S':D Nat}{h2 L},SH S' h2 H L->m∉L.map (·.1):=λ{m'} hm=>by
  simp only[bW,fq,je]at hm;rcases hm with rfl|rfl
  .have⟨_,hl,_⟩:=id m.n;exact⟨hl,lo _ gB,λG=>G.zP m.n⟩
  .have⟨_,hl,_⟩:=id m.l;exact⟨hl,lo _ gB,λG=>G.zP m.l⟩
 refine⟨[mn,ml]++((rs,128,[pv,uv,gz<|Z mn,gz<|Z ml])::(gP++(gU++az)):D eF).map (·.1),K,sc,I,M,⟨mn,ml,pv,uv,us,gP,gU,az,⟨pN.refl _ _,E.bk,λe d=>⟨.inl<|dL _<|bT.2 ⟨e,d,rfl⟩,(E.lo e d).2⟩,E.ne,E.wf⟩,gp,gu,gR,m.n,m.l,λe=>?_,gB,gB⟩,λr V=>?_,h.get 0 O,λhm=>?_,?_,?_⟩
 .have:=(jD.1 (jD.1 (jD.1 ne).2).2).1;exact this (by simp[e])
 .rcases cB.1 V with hm|hm
  .exact⟨(w hm).1,(w hm).2.1⟩
  .obtain⟨e,d,rfl⟩:=bT.1 hm;exact⟨(E.lo e d).2,(E.lo e d).1⟩
 .rcases cB.1 hm with hm|hm
  .exact(w hm).2.2 h<|aK ..
  .have⟨e,d,e2⟩:=bT.1 hm;exact(List.pairwise_cons.1 hr.ne).1 e d e2.symm
 .have⟨a,n,c,e,U,hf⟩:=gs.KE (cs:=(·∉[mn,ml]++((rs,128,[pv,uv,gz<|Z mn,gz<|Z ml])::(gP++(gU++az)):D eF).map (·.1))) P λe d hm=>by
   rcases cB.1 hm with hm|hm
   .exact(w hm).2.2 P<|bT.2 ⟨e,dM _ d,O⟩
   .have⟨e',he',e2⟩:=bT.1 hm;exact SH.apart P d (dL gH<|bJ _ he') e2.symm
  cases e;exact hf
 .have⟨a,n,c,e,U,hf⟩:=gh.KE (cs:=(·∉[mn,ml]++((rs,128,[pv,uv,gz<|Z mn,gz<|Z ml])::(gP++(gU++az)):D eF).map (·.1))) B λe d hm=>by
   rcases cB.1 hm with hm|hm
   .exact(w hm).2.2 B<|bT.2 ⟨e,dM _ d,O⟩
   .have⟨e',he',e2⟩:=bT.1 hm;exact SH.apart B d (bJ _ he') e2.symm
  cases e;exact hf
def WS.amT(h:WS S H0 H rr rs ms me mn ml mo x):∃d sc,H.cell rr 0=Z (J d (u x.sp) sc)/\jC (λ_=>True) 86 H d (u x.sp) 2 (BR x.sp):=let⟨_,d,sc,_,_,_,_,hr,_,hf,_⟩:=h.done;⟨d,sc,hr.cell (o:=0) O,hf.wk λ_ _=>trivial⟩
def _root_.Go.Ae.SH.plus{A:D eF}(d:SH [] H Q A)(m:SH au H H L):SH au H Q (A++L):=by
 refine⟨d.ext.weaken (λr h=>by cases h),λe w=>?_,λe w=>?_,nU.2 ⟨d.ne,m.ne,λx M y B e=>?_⟩,d.wf⟩
 .rcases cB.1 w with h|h
  .exact d.bk e h
  .exact(m.bk e h).iB<|d.ext.obj _ (m.lo e h).2 nofun
 .rcases cB.1 w with h|h
  .exact⟨.inr<|d.yu h,(d.lo e h).2⟩
  .exact⟨(m.lo e h).1,aP (m.lo e h).2 d.ext.bV⟩
 .have:=d.yu M;have:=(m.lo y B).2;omega
def _root_.Go.Ae.SH.reb{h2:R}(d:SH au H H L)(M:Ext H h2):SH au h2 h2 L:=⟨pN.refl _ _,λe m=>(d.bk e m).iB<|M.obj _ (d.lo e m).2 nofun,λe m=>⟨.inl<|(d.lo e m).1.resolve_right<|fI (d.lo e m).2,aP (d.lo e m).2 M.bV⟩,d.ne,M.wf d.wf⟩
theorem WY(hh:∀Q,pN au H Q->∀r,r<A.nr->bM Pg X 50 [hv,W r] Q (Q0 (λv=>v=aO (hd r)) Q))(ho:A.Ok)(hk:GN cs H rw' A q ev sv sb)(hF:∀r,cs r->r<H.bV/\r∉au)(hs:P7 au H rs s)(hT:∀r∈au,r<H.bV)(hf:jC F' 86 H fa (u l) 2<|BR l)(b2:∀r∈au,¬F' r)(hl:∀p∈l,p.1<A.ns/\p.2<=u s)(cg:Sk.vn A a s)(hL:Lim A a mo)(cw:u l<=8000000)(hB:(lG A hd A.Em a s l).ht.length<=5592404):
 bM Pg X 57 [pr rw',pr rs,J fa (u l) fc,W a,hv,W mo] H λv Q=>∃sa sc ha hc T',v=fJ ⟨[dN ⟨[J sa (lG A hd A.Em a s l).sp.length sc,aO (lG A hd A.Em a s l).ok,J ha (lG A hd A.Em a s l).ht.length hc,W (lG A hd A.Em a s l).sp.length]⟩,vi 0]⟩/\
  P7 T' Q rs (lG A hd A.Em a s l).sk/\(∀r∈T',r<Q.bV/\(r∈au\/H.bV<=r))/\pN au H Q/\jC (·∉T') 86 Q sa (lG A hd A.Em a s l).sp.length 2 (BR (lG A hd A.Em a s l).sp)/\jC (·∉T') 88 Q ha (lG A hd A.Em a s l).ht.length 3 (hts (lG A hd A.Em a s l).ht):=by
 have⟨mn,ml,pv,uv,us,gP,gU,az,hq,gp,gu,gR,mN,mL,hne,hmn,hml⟩:=hs;obtain⟨pa,pn,pc,rfl,b8⟩:=gp.OL;simp only[cO,uu,aM]at b8;obtain rfl:pn=u s+1:=N;have ab:∀{Q},Ext H Q->Q.cell rs 0=Z (J pa (u s+1) pc):=λM=>(l8 (M.obj _ (hq.lo _<|aK ..).2 nofun) 0).trans<|(hq.get 0 O).cell O;have b3:∀r∈au,¬cs r:=λr d h=>(hF r h).2 d;refine lF [0,1,2,3,4,5,12,13,15,16,18,19,20,21,23,32,33,34,65,66,67,119,120,121] ?_;have G:=gM hq.wf;refine G.jM λH1 rc G=>?_;have ca:=G.yu<|aK ..
 refine iC.yw λK hK=>?_;refine iC.scope (az:=λ_ _ _=>False) (λ_ _ _ _ h=>h.elim) 0 ?_;refine iC.yw λK2 b4=>?_;refine tl ?_;have a5:∀{Q},Ext H Q->GN cs Q rw' A q ev sv sb:=λM=>hk.stay M nofun;refine dn (RD (a5 G.ext) ho) ?_;rintro _ H1 ⟨rfl,rfl⟩;refine bN ?_;refine dn (JD<|ab G.ext) ?_;rintro _ H1 ⟨rfl,rfl⟩;refine bN ?_;refine aV (λhc=>N) λ_=>?_;refine tp ?_;refine Gg 13 15 34 (h1:=λm jY mO b1 Q=>∃i:Nat,b1=W i/\i+m=u l/\SH [] H Q [(rc,68,[J T 0 0,aO aA,J T 0 0,vi 0])]) ?_ (u l) ⟨0,rfl,bB _,G⟩;clear G;rintro m jY mO b1 E H1 ⟨i0,rfl,cn,G⟩;refine tK (λhc=>?_) λhc=>?_
 .have ac:i0<u l:=N;have bo:=hl _<|bH ac;refine(hf.ex G.ext).VS N ac (EP<|av ac) λ_=>?_;generalize l[i0]=p at bo|-;refine G.ns O O O λH2 rf G _=>?_;have G:SH [] H H2 [(rf,86,[W p.1,W p.2]),(rc,68,[J T 0 0,aO aA,J T 0 0,vi 0])]:=G;refine fF ?_;refine dn (agR ((a5 G.ext).stay (Ext.hN H2) nofun) bo.1) ?_;rintro _ _ ⟨rfl,rfl⟩;refine bN ?_;refine ig (λh=>by cases h) λ_=>?_;refine fF ?_;refine aV (λh=>N) λ_=>?_;refine fF ?_;refine dn (JD<|ab<|G.ext.trans'<|Ext.hN H2) ?_;rintro _ _ ⟨rfl,rfl⟩;refine fF ?_;refine aV (λh=>N) λ_=>?_;refine eD ?_;exact⟨u l-(i0+1),N,_,_,_,_,_,O,i0+1,pq,N,fV (A:=[_]) G⟩
 refine tp ?_;refine aV (λh=>N) λ_=>?_;have br:=(G.weaken nofun:SH au H H1 _);have bx:∀{Q},pN au H1 Q->SH au H Q [(rc,68,[J T 0 0,aO aA,J T 0 0,vi 0])]:=λM=>br.ajX (λe he=>G.yu he) hT M;have Y:=G.ext;have b7:=a5 Y;have bp:=hq.reb Y;have b6:=hf.ex Y;have G:=gM G.wf;refine G.mkMap (e:=pE) JC λH2 ms am bv bj G=>?_;refine G.mkMap (e:=vnE) RA λH3 me bn bw bh G=>?_;refine dA (v:=dN ⟨[J T 0 0,aO aA,J T 0 0,vi 0,gz<|Z ms,gz<|Z me,W mo]⟩) O ?_;have⟨_,l1,_⟩:=id am;have am:=am.ex bw nofun;have wu:=G;have G:=G.base;refine G.box O λH4 rr G=>?_;have a8:=am.ex G.ext nofun;have a9:=bn.ex G.ext nofun;have xG:=wu.over G;have a7:=xG.ext
 have bt:WS au H1 H4 rr rs ms me mn ml mo ⟨s,[],[],aA,[]⟩:=by
  have⟨_,l2,_⟩:=id mN;have⟨_,l3,_⟩:=id mL;have g0:=Y.bV;refine⟨_,_,_,_,_,[],gP,gU,az,[],(SH.plus xG bp).cast (by rw[bF];rfl),GB.nil _ _,gp,gu,gR,GB.nil _ _,⟨om a8,om a9,mN.ex (Y.trans a7) (λh=>by cases h),mL.ex (Y.trans a7) λh=>by cases h⟩,?_,?_⟩
  .simp only[jD,bW,fq,je,not_or,ji,zf,nW];omega
  .intro m hm;simp only[bW,fq,je]at hm;rcases hm with rfl|rfl|rfl|rfl
   .exact .inr bj
   .exact .inr<|aR bv.bV bh
   .exact .inl hmn
   .exact .inl hml
 clear a8 a9 xG a7 G wu am bn bj bh bv bw l1 bp mN mL gp gu gR hq;have bd:Rn.vn A a ⟨s,[],[],aA,[]⟩:=⟨cg,ji,nofun⟩;have a3:∀j,((l.take j).foldl Rn.meet ⟨s,[],[],aA,[]⟩).vn A a:=λj=>Dt _ _ bd λp hp=>hl p<|fG hp;have a2:∀r,cs r->r<H1.bV/\r∉au:=λr d=>⟨aP (hF r d).1 Y.bV,(hF r d).2⟩;refine Gg 13 18 67 (h1:=λm jY zX Ox Q=>∃j:Nat,Ox=W j/\j+m=u l/\WS au H1 Q rr rs ms me mn ml mo ((l.take j).foldl Rn.meet ⟨s,[],[],aA,[]⟩)) ?_ (u l) ⟨0,rfl,bB _,bt⟩;clear bt;rintro m jY zX Ox cA H5 ⟨j,rfl,hj,w⟩;refine tK (λhc=>?_) λhc=>?_
 .have a4:j<u l:=N;refine(b6.stay w.ext λr d=>.inl<|b2 r d).VS N a4 (EP<|av a4) λ_=>?_;refine(gM w.wf).ns O O O λH6 rf G ci=>?_;have G:SH [] H5 H6 [(rf,86,[W l[j].1,W l[j].2])]:=G;apply G.jl;have e:(l.take<|j+1).foldl Rn.meet ⟨s,[],[],aA,[]⟩=((l.take j).foldl Rn.meet ⟨s,[],[],aA,[]⟩).meet l[j]:=by rw[dU,av a4,iR];rfl
  have bg:=a3<|j+1;rw[e]at bg;refine dn (RE (w.call ci) hL bg) ?_;rintro _ H7 ⟨rfl,w⟩;refine bN ?_;refine ig (λh=>by cases h) λ_=>?_;refine eD ?_;exact⟨u l-(j+1),N,_,_,_,_,_,O,j+1,pq,N,by rw[e];exact w⟩
 have ar:=a3 j;rw[dV N]at w ar;refine tl ?_;generalize hy0:l.foldl Rn.meet ⟨s,[],[],aA,[]⟩=y0 at w ar;have hz:lG A hd A.Em a s l=DV A hd A.Em a (bnd A a+1) 0 y0:=by rw[<-hy0];rfl
 rw[hz]at hK;refine lp7 19 20 21 23 119 120 121 (h1:=λn wB b0 yS zK ao ap QT Q=>∃(i:Nat)(y:Rn),wB=vi 0/\b0=W i/\i+n=bnd A a+1/\DV A hd A.Em a n i y=DV A hd A.Em a (bnd A a+1) 0 y0/\y.vn A a/\WS au H1 Q rr rs ms me mn ml mo y) ?_ (bnd A a+1) ⟨0,y0,rfl,rfl,bB _,rfl,ar,w⟩;clear w ar a3 bd;rintro n wB b0 yS zK ao ap QT cC H6 ⟨i,y,rfl,rfl,cq,bi,hW,w⟩;have ck:=hW.le;have cm:=hL.b;have a0:=b7.stay w.ext b3;have⟨sa,sc,hsp,aoJ⟩:=w.amT;refine iC.yw λK3 bb=>?_;refine tl ?_;refine dA O ?_;refine bN ?_;refine iV hsp ?_;refine MQ (λhc=>?_) λhc=>?_
 .rw[bb];refine bN ?_
  have ey:y=DV A hd A.Em a (bnd A a+1) 0 y0:=by
   rw[<-bi];cases n with
   |zero=>rfl
   |succ n=>
    show y=match y.sp[i]? with|none=>y|some p=>DV A hd A.Em a n (i+1)<|y.tF A hd A.Em a p
    rw[dB N]
  rw[<-ey]at hK;have⟨T',ta,tc,ua,uc,aoK,hT',hrd,hrn,hft,hht⟩:=w.done;have⟨_,_,_,_,_,_,_,_,_,_,xJ,_⟩:=id w;have bm:=xJ.lo _<|aK ..
  refine tp ?_;refine eU (λh=>absurd trivial h) λ_=>?_;have xJ:SH [rr] H6 H6 [(rr,156,[J ta (u y.sp) tc,aO y.ok,J ua (u y.ht) uc,vi 0,gz<|Z ms,gz<|Z me,W mo])]:=⟨pN.refl _ _,λe he=>by rw[aS.1 he];exact hrd,λe he=>⟨.inl (by rw[aS.1 he];simp),by rw[aS.1 he];exact bm.2⟩,jE _ _,w.wf⟩;apply xJ.qE;refine bN ?_;refine xJ.j_ λH7 Jv=>?_;apply Jv.jl;have U:pN au H1 H7:=w.ext.later Jv.ext λr d=>by rw[aS.1 d];exact bm.1
  have hb:=bx U;refine hb.base.j_ λH8 bc=>?_;rw[b4];simp only[QM];rw[hK];have YI:=hb.over bc;refine Lu.rr ?_;apply YI.jl
  have b9:∀e∈[rc,rr],e∉T':=λe he hm=>by
   simp only[bW,fq,je]at he;rcases he with rfl|rfl
   .exact(hT' _ hm).2.elim (λh=>absurd (hT _ h)<|fu ca) λh=>absurd (br.lo _<|aK ..).2<|fu h
   .exact hrn hm
  have Jb:pN [rc,rr] H6 H8:=(Jv.ext.weaken λr h=>by simp[aS.1 h]).trans<|bc.ext.weaken λr h=>by simp[aS.1 h]
  refine⟨ta,tc,ua,uc,T',O,?_,λr d=>⟨aP (hT' r d).1 Jb.bV,(hT' r d).2.imp_right<|aR Y.bV⟩,YI.ext,hft.stay Jb λr d=>.inr ?_,hht.stay Jb λr d=>.inr ?_⟩
  .exact aoK.stay Jb b9
  all_goals
   simp only[bW,fq,je]at d;rcases d with rfl|rfl
   .exactλht=>absurd (ht.one ((bx w.ext).get 0 O).Gb) jg
   .exactλht=>absurd (ht.one hrd.Gb) jg
 have ac:i<u y.sp:=N;obtain⟨n,rfl⟩:∃k,n=k+1:=⟨n-1,N⟩;have an:=bH ac
 have a1:DV A hd A.Em a n (i+1) (y.tF A hd A.Em a y.sp[i])=DV A hd A.Em a (bnd A a+1) 0 y0:=by
  rw[<-bi];show _=match y.sp[i]? with|none=>y|some p=>DV A hd A.Em a n (i+1)<|y.tF A hd A.Em a p
  rw[av ac]
 refine iV hsp<|aoJ.VS N ac (EP<|av ac) λ_=>?_;generalize y.sp[i]=p at an a1|-;have V:=hW.b p an;refine(gM w.wf).ns O O O λH7 rf G U=>?_;have G:SH [] H6 H7 [(rf,86,[W p.1,W p.2])]:=G;have cy:=G.yu<|aK ..
 have⟨T2,hT2,agS⟩:=w.own;have aE:=a0.stay U nofun;have ba:∀r,cs r->r<H7.bV/\r∉T2:=λr h=>⟨aP (a2 r h).1<|aR w.ext.bV U.bV,λhm=>(hT2 r hm).2.elim (a2 r h).2 λg=>absurd (a2 r h).1<|fu g⟩;have aq:∀r∈T2,¬cs r:=λr d h=>(ba r h).2 d;have bf:∀{Q},pN T2 H7 Q->SH T2 H6 Q [(rf,86,[W p.1,W p.2])]:=λM=>(G.weaken nofun:SH T2 _ _ _).ajX (λe he=>G.yu he) (λr d=>(hT2 r d).1) M
 have bz:∀{H8 zK ao ap QT E},WS T2 H7 H8 rr rs ms me mn ml mo (if p.1∈A.sp then y.back p else y)->iC Pg X (sub zu [1,0,1,1,1,1,1,1,1,0,1,0,0,1,0,0,1,1]) (DL (pr rw') (pr rs) (J fa (u l) fc) (W a) hv (W mo) (pr rc) jY mO (pr rr) zX (vi 0) (W i) (pr rf) zK (J fa (u l) fc) (W<|u l) (W i0) (J fa (u l) fc) (W<|u l) (W j) ao ap QT E H8) (uk 5<|uQ Pg X (sub zu [1,0,1,1,1,1,1,1,1,0,1,0,0,1,1]) K3):=by
  intro H8 zK ao ap QT E P;have bl:=aE.stay P.ext aq;have G:=bf P.ext;refine tp ?_;refine iV (H:=hN H8) (bl.b.cell (o:=4) O) ?_;refine fF ?_;have⟨evs,he1,he2⟩:=aE.a.e;have⟨ea,ec,he3,hfe⟩:=he2 _ V.1;refine(he1.stay P.ext λr d=>.inl<|aq r d).R8 V.1 he3 λr o=>?_;refine fF ?_;have ad:y.tF A hd A.Em a p=(A.rg p.1).foldl (Rn.iJ A hd A.Em a p) (if p.1∈A.sp then y.back p else y):=rfl
  have aw:Rn.vn A a (if p.1∈A.sp then y.back p else y)/\p.2<=(if p.1∈A.sp then y.back p else y).sk.length:=by
   split
   .exact⟨hW.back an,by rw[Rn.Ls];exact V.2⟩
   .exact⟨hW,V.2⟩
  generalize(if p.1∈A.sp then y.back p else y)=y8 at P ad aw;have be:∀k,Rn.vn A a (((A.rg p.1).take k).foldl (Rn.iJ A hd A.Em a p) y8)/\u y8.sk<=(((A.rg p.1).take k).foldl (Rn.iJ A hd A.Em a p) y8).sk.length:=λk=>Rn.vn.Rx ho V.1 _ _ (λe he=>fG he) aw.1 aw.2
  have cj:u (A.rg p.1)<=100000:=by
   have:=At.AP ho<|p.1+1;have:=At.yg ho V.1;omega
  refine Gg 19 23 121 (h1:=λm wB zK QT Q=>∃k:Nat,wB=vi 0/\QT=W k/\k+m=u (A.rg p.1)/\WS T2 H7 Q rr rs ms me mn ml mo (((A.rg p.1).take k).foldl (Rn.iJ A hd A.Em a p) y8)) ?_ (u<|A.rg p.1) ⟨0,rfl,rfl,bB _,P⟩;clear P G bl;rintro m' wB zK QT cD H9 ⟨k,rfl,rfl,cu,al⟩;refine mG (λhc=>?_) λhc=>?_
  .refine tl ?_;refine eD ?_;rw[dV N,<-ad]at al;rw[bb];exact⟨n,dI n,_,_,_,_,_,_,_,_,_,O,i+1,_,O,pq,N,a1,hW.tF ho an,al.up (w.ext.trans' U) λr d=>(hT2 r d).2⟩
  have a6:k<u (A.rg p.1):=N;refine KX (hfe.stay al.ext λr d=>.inl<|aq r d) a6 λpe=>(gM al.wf).ns O O O λCw re G uD=>?_;have G:SH [] H9 Cw [(re,121,[W (A.rg p.1)[k].1,W (A.rg p.1)[k].2.1,W (A.rg p.1)[k].2.2])]:=G;refine(bf<|al.ext.trans' uD).jl<|G.jl ?_;have e:((A.rg p.1).take<|k+1).foldl (Rn.iJ A hd A.Em a p) y8=(((A.rg p.1).take k).foldl (Rn.iJ A hd A.Em a p) y8).iJ A hd A.Em a p (A.rg p.1)[k]:=by rw[dU,av a6,iR];rfl
  have b5:(((A.rg p.1).take k).foldl (Rn.iJ A hd A.Em a p) y8).ht.length<=5592404:=by
   have I:=(Rn.Rz (A:=A) (hd:=hd) (em:=A.Em) (a:=a) (p:=p) (A.rg p.1) k y8).length_le;rw[<-ad]at I;have B:=(Y3 (A:=A) (hd:=hd) (em:=A.Em) (a:=a) n (i+1)<|y.tF A hd A.Em a p).length_le;rw[a1,<-hz]at B;omega
  refine dn (ajZ (λQ M=>hh Q<|(Y.weaken (nofun):pN au H H1).later ((w.ext.trans' U).later M λr d=>(hT2 r d).2) λr d=>.inl d) b5 ho aE ba (al.call uD) hL (be k).1 ⟨V.1,aR aw.2 (be k).2⟩<|bH a6) ?_;rintro _ Rt ⟨rfl,w⟩;refine bN ?_;refine eU (λh=>absurd trivial h) λ_=>?_;refine eD ?_;exact⟨u (A.rg p.1)-(k+1),N,_,_,_,_,_,O,k+1,O,pq,N,by rw[e];exact w⟩
 refine G.kN ?_;refine iV (H:=hN H7) (aE.b.cell (o:=7) O) ?_;refine fF ?_;have⟨ta,tc,hsv,hsf⟩:=a0.s;rw[hsv];refine(hsf.ex U).R8 (v:=aO<|decide<|p.1∈A.sp) V.1 (by rw[bL,a0.on _ V.1];rfl) λr o=>?_;refine ig (λh=>?_) λh=>?_
 .refine fF ?_;refine dn (amO (a0.stay (U.trans'<|Ext.hN H7) nofun) aq (agS _<|U.trans'<|Ext.hN H7) hL hW an) ?_;rintro _ H8 ⟨rfl,P⟩;have P:=P.m G.wf;refine bN ?_;refine splitK (λK hK=>?_) ?_
  .simp only[eZ];rcases xu H7 H8 with e|e<;>rw[e]<;>exact aey fQ fQ hK
  refine ig (λh=>by cases h) λ_=>?_;exact bz (by rw[jj (gF h)];exact P)
 .refine fF ?_;exact bz (by rw[jx (oQ h)];exact agS _ U)
end
section
open Go.Proofs.Lu Go.Proofs.Lu.Wk
open Go.Ae Go.Ae.hx
variable{S:D Nat}{cs:Nat->Prop}{ev:C}
def aaN(h:n<=16777216):Tc 2 (J (Z ⟨r,0,T⟩) n<|gK 2) T (Z<|W n) (Z<|W n)=Z (J (Z ⟨r,0,T⟩) n n):=by
 show b_ (gZ<|gK 2) (aN (Z n) λm=>gd (aD 0 n&&aD n m&&aD m (gK 2)&&(!(fT<|Z<|W n)||fT (Z<|W n)))<|Z<|J (Z ⟨r,sS m 0 0 2,T⟩) (dP n 0)<|dP m 0) (gd (aB (gK 2)<|gK 2)<|gd (aD 0 n&&aD n n&&aD n n&&f&&gZ n)<|Z<|J (Z ⟨r,sS n 0 0 2,T⟩) (dP n 0)<|dP n 0)=_;have d:gZ n=f:=aH N;have w:sS n 0 0 2=0:=by unfold sS;cases aB n 0<;>rfl
 rw[Af,lK,dW,aH<|bD _,aH<|ax _,d,w];rfl
def amW(m:GB 86 2 v (BR o) gb)(hl:u o<=16777216):bM Pg X 86 [v] H (Q0 (λv'=>∃a c c',v=J a (u o) c/\v'=J a (u o) c') H):=by
 rcases m with⟨rfl,d,rfl⟩|⟨r,n,fE,rfl,w,rfl⟩
 .cases o with
  |cons p o=>cases d
  |nil=>
   refine GV [0,2] ?_;refine dA (v:=J T 0 0) O<|Lu.rr ?_;exact⟨⟨_,_,_,O,O⟩,O⟩
 .rw[uu]at w;obtain rfl:u o=n:=N;refine GV [0,2] ?_;refine dA (aaN hl)<|Lu.rr ?_;exact⟨⟨_,_,_,O,O⟩,O⟩
def R_(t:Int)(p:Sp)(o:D Sp)(e:Ed):D Sp:=if(e.2.2,p.2)∈o then o else if e.1=1 then if((e.2.1:Nat):Int)=t then o++[(e.2.2,p.2)]else o else o
abbrev RG(A:At)(t:Int)(o:D Sp)(p:Sp):D Sp:=(A.rg p.1).foldl (R_ t p) o
def aez(l:D Sp):zO A l t=l.foldl (RG A t) []:=by
 unfold zO;rw[List.foldl_flatMap];congr 1;funext o p;rw[List.foldl_map,List.foldl_filter];congr 1;funext o e;unfold R_
 by_cases I:e.1=1<;>by_cases B:((e.2.1:Nat):Int)=t<;>simp[I,B]
def RJ(A:At)(ae:Nat)(o:D Sp):Prop:=o.Nodup/\∀p∈o,p.1<A.ns/\p.2<=ae
def RJ.le(h:RJ A ae o):u o<=A.ns*(ae+1):=IB h.1 λp d=>⟨(h.2 p d).1,pz (h.2 p d).2⟩
theorem RJ.R_(h:RJ A ae o)(I:e.2.2<A.ns)(B:p.2<=ae):RJ A ae (R_ t p o e):=by
 unfold Lv.R_;split
 .exact h
 .next m=>
  split
  .split
   .refine⟨l7.2 ⟨h.1,gB,λq hq r d e=>?_⟩,λq hq=>?_⟩
    .rw[aS]at d;exact m<|d▸e▸hq
    .rcases cB.1 hq with hq|hq
     .exact h.2 q hq
     .rw[aS]at hq;subst hq;exact⟨I,B⟩
   .exact h
  .exact h
def RJ.aj1(B:p.2<=ae):∀(l:D Ed){o:D Sp},(∀e∈l,e.2.2<A.ns)->RJ A ae o->RJ A ae (l.foldl (Lv.R_ t p) o)
 |[],o,_,h=>h
 |e::l,o,hl,h=>RJ.aj1 B l (λd hd=>hl d<|by simp[hd])<|h.R_ (hl e gB) B
def RJ.fold(ho:A.Ok):∀(l:D Sp){o:D Sp},(∀p∈l,p.1<A.ns/\p.2<=ae)->RJ A ae o->RJ A ae (l.foldl (RG A t) o)
 |[],o,_,h=>h
 |p::l,o,hl,h=>RJ.fold ho l (λd hd=>hl d<|by simp[hd])<|RJ.aj1 (hl p gB).2 _ (λe m=>(ho.e _ (hl p gB).1 e m).1) h
theorem amX(ho:A.Ok)(hw:Wf H)(hk:GN cs H rw' A q ev sv sb)(hf:jC F' 86 H fa (u l) 2<|BR l)(hl:∀p∈l,p.1<A.ns/\p.2<=ae)(hb:A.ns*(ae+1)<=8000000)(a8:u l<=8000000):
 bM Pg X 56 [pr rw',dN ⟨[J fa (u l) fc,aO ok,J II htn htc,W st]⟩,vi t] H (Q1 (λv Q=>∃a c,v=J a (u<|zO A l t) c/\jC (H.bV<=·) 86 Q a (u<|zO A l t) 2 (BR<|zO A l t)) H):=by
 refine lF [0,1,2,4,6,7,8,10,12,13,15,20,21,22,39,40,41] ?_;have G:=gM hw;refine G.box O λH1 rc G=>?_;have G:SH [] H H1 [(rc,68,[J fa (u l) fc,aO ok,J II htn htc,W st])]:=G;have ad:∀{Q},Ext H Q->GN cs Q rw' A q ev sv sb:=λM=>hk.stay M nofun;refine dn (RD (ad G.ext) ho) ?_;rintro _ H1 ⟨rfl,rfl⟩;refine bN ?_;have V:=G.ext.bV;refine G.mkMap (e:=pE) JC λH2 mp aE a9 ar G=>?_;apply G.qE;refine bN ?_;have aw:BX pE H2 mp λk=>if k∈([]:D Sp)then Z u0 else T:=om aE
 have ao:∀i,RJ A ae ((l.take i).foldl (RG A t) []):=λi=>RJ.fold ho _ (λp hp=>hl p<|fG hp) ⟨ji,nofun⟩;have ap:H.bV<=mp:=aR V ar;refine lp9 8 10 12 13 15 22 39 40 41 (h1:=λm x8 jW mQ jY mO FQ a2 a3 ac Q=>∃(i:Nat)(gb:D eF),FQ=W i/\i+m=u l/\GB 86 2 x8 (BR<|(l.take i).foldl (RG A t) []) gb/\(BX pE Q mp λk=>if k∈(l.take i).foldl (RG A t) []then Z u0 else T)/\SH [] H Q ((rc,68,[J fa (u l) fc,aO ok,J II htn htc,W st])::gb)) ?_ (u l) ⟨0,[],rfl,bB _,GB.nil _ _,aw,G⟩;rintro m x8 jW mQ jY mO FQ a2 a3 ac E H3 ⟨i,gb,rfl,a6,w,d,G⟩;refine mG (λY=>?_) λY=>?_
 .refine tl ?_;refine dn (amW w (by have:=(ao i).le;omega)) ?_;rintro _ H4 ⟨⟨a,c,c',rfl,rfl⟩,rfl⟩;rw[dV N,<-aez]at w|-;refine Lu.rr ?_;refine⟨⟨a,c',O,?_⟩,G.ext⟩;have⟨a',n',c2,e,_,hf⟩:=w.KE (cs:=(H.bV<=·)) (G.perm (L':=gb++[(rc,68,[J fa (u l) fc,aO ok,J II htn htc,W st])])<|aG (l₁:=[_])) λe he=>G.yu<|bJ _ he;cases e;exact hf
 have ab:i<u l:=N;have K:=hl _<|bH ab;have e1:(l.take<|i+1).foldl (RG A t) []=RG A t ((l.take i).foldl (RG A t) []) l[i]:=by rw[dU,av ab,iR];rfl
 have aq:=ao i;refine(hf.ex G.ext).VS N ab (EP<|av ab) λ_=>?_;generalize(l.take i).foldl (RG A t) []=os at*;generalize l[i]=p at*;refine G.ns O O O λH4 rp G a0=>?_;have G:SH [] H H4 ((rp,86,[W p.1,W p.2])::(rc,68,[J fa (u l) fc,aO ok,J II htn htc,W st])::gb):=G;have d:=d.ex a0 nofun;refine fF ?_;refine dn (agR (ad G.ext) K.1) ?_;rintro _ H5 ⟨rfl,rfl⟩;refine bN ?_;refine ig (λh=>by cases h) λ_=>?_;refine iV (H:=hN H5) ((ad G.ext).b.cell (o:=4) O) ?_;refine fF ?_;have⟨evs,he1,he2⟩:=hk.a.e;have⟨ea,ec,he3,hfe⟩:=he2 _ K.1;refine(he1.ex G.ext).R8 K.1 he3 λr o=>?_;refine fF ?_
 have a4:u (A.rg p.1)<=100000:=by
  have:=At.AP ho<|p.1+1;have:=At.yg ho K.1;omega
 have am:∀k,RJ A ae (((A.rg p.1).take k).foldl (R_ t p) os):=λk=>RJ.aj1 K.2 _ (λe he=>(ho.e _ K.1 e<|fG he).1) aq;refine YA 8 12 13 15 41 (h1:=λm x8 mQ jY mO ac Q=>∃(k:Nat)(gb:D eF),ac=W k/\k+m=u (A.rg p.1)/\GB 86 2 x8 (BR<|((A.rg p.1).take k).foldl (R_ t p) os) gb/\(BX pE Q mp λj=>if j∈((A.rg p.1).take k).foldl (R_ t p) os then Z u0 else T)/\SH [] H Q ((rp,86,[W p.1,W p.2])::(rc,68,[J fa (u l) fc,aO ok,J II htn htc,W st])::gb)) ?_ (u<|A.rg p.1) ⟨0,gb,rfl,bB _,w,d,G⟩;clear w d G;rintro m' x8 mQ jY mO ac ba H6 ⟨k,gb,rfl,a7,w,d,G⟩;refine mG (λY=>?_) λY=>?_
 .refine tl ?_;refine eD ?_;rw[dV N]at w d;exact⟨u l-(i+1),N,_,_,_,_,_,_,_,_,_,_,_,O,i+1,gb,pq,N,by rw[e1];exact w,by rw[e1];exact d,fV (A:=[_]) G⟩
 have an:k<u (A.rg p.1):=N;refine KX (hfe.ex G.ext) an λpe=>?_;have U:((A.rg p.1).take<|k+1).foldl (R_ t p) os=R_ t p (((A.rg p.1).take k).foldl (R_ t p) os) (A.rg p.1)[k]:=by rw[dU,av an,iR];rfl
 have a5:=am k;have al:=(am<|k+1).le;rw[U]at al;generalize((A.rg p.1).take k).foldl (R_ t p) os=o2 at*;generalize(A.rg p.1)[k]=e at*;refine G.ns O O O λH7 re G a1=>?_;have G:SH [] H H7 ((re,121,[W e.1,W e.2.1,W e.2.2])::(rp,86,[W p.1,W p.2])::(rc,68,[J fa (u l) fc,aO ok,J II htn htc,W st])::gb):=G;have d:=d.ex a1 nofun;refine fF ?_;refine G.ns O O O λH8 rz G z8=>?_;have G:SH [] H H8 ((rz,86,[W e.2.2,W p.2])::(re,121,[W e.1,W e.2.1,W e.2.2])::(rp,86,[W p.1,W p.2])::(rc,68,[J fa (u l) fc,aO ok,J II htn htc,W st])::gb):=G;have d:=d.ex z8 nofun;apply G.jl;refine BX.has (e:=pE) (k:=(e.2.2,p.2)) d JC Fj agO ?_;refine G.kN ?_;refine G.ns O O O λH9 ru G GY=>?_;have d:=d.ex GY nofun;refine aV (λY=>?_) λY=>?_
 .have P:R_ t p o2 e=o2:=jj Y;refine eD ?_;exact⟨u (A.rg p.1)-(k+1),N,_,_,_,_,_,_,_,O,k+1,gb,pq,N,by rw[U,P];exact w,by rw[U,P];exact d,fV (A:=[_,_,_]) G⟩
 refine Oq (λI=>?_) λI=>?_
 .have P:R_ t p o2 e=o2:=(jx Y).trans (jx λh=>I N);refine eD ?_;exact⟨u (A.rg p.1)-(k+1),N,_,_,_,_,_,_,_,O,k+1,gb,pq,N,by rw[U,P];exact w,by rw[U,P];exact d,fV (A:=[_,_,_]) G⟩
 refine Oq (λB=>?_) λB=>?_
 .have P:R_ t p o2 e=o2:=(jx Y).trans ((jj N).trans<|jx B);refine eD ?_;exact⟨u (A.rg p.1)-(k+1),N,_,_,_,_,_,_,_,O,k+1,gb,pq,N,by rw[U,P];exact w,by rw[U,P];exact d,fV (A:=[_,_,_]) G⟩
 have P:R_ t p o2 e=o2++[(e.2.2,p.2)]:=(jx Y).trans<|(jj N).trans<|jj B;rw[P,aU]at al;refine tm ?_;refine dA (v:=u0) O<|G.ajU (e:=pE) (k:=(e.2.2,p.2)) (.inr ap) d JC agO λCw d G uD=>G.jl ?_;have V:=G;have G:=G.base;refine w.NG G O O O (by rw[uu];omega) λq' v' Rt iX w G=>?_;have d:=d.ex G.ext<|V.zP d;have G:=V.over G;refine tl ?_;refine eD ?_;exact⟨u (A.rg p.1)-(k+1),N,_,_,_,_,_,_,_,O,k+1,iX,pq,N,by rw[U,P,LA];exact w,by rw[U,P];exact d.plus λj=>gB,fV (A:=[_,_,_]) G⟩
end
section
open Go.Proofs.Lu Go.Proofs.Lu.Wk
open Go.Ae Go.Ae.hx
variable{S:D Nat}{cs:Nat->Prop}{ev:C}
def exC{α:Type}{p:α->Prop}{a:α}{l:D α}:(∃x∈a::l,p x)<->p a\/∃x∈l,p x:=gB
def WZ(ts:D Nat)(e:Ed):D Nat:=if e.1=1 then ts++[e.2.1]else ts
def UX(A:At)(x:D Nat×D Nat)(p:Sp):D Nat×D Nat:=if p.1∈x.1 then x else(p.1::x.1,(A.rg p.1).foldl WZ x.2)
def NS(A:At)(l:D Sp):D Nat:=(l.foldl (UX A) ([],[])).2
def Y7(aa:Nat):∀(l:D Ed)(ts:D Nat),aa∈l.foldl WZ ts<->aa∈ts\/∃e∈l,e.1=1/\e.2.1=aa
 |[],ts=>gB
 |e::l,ts=>by
  rw[lz,Y7 aa l];unfold WZ;split
  .next h=>simp[h,or_assoc,eq_comm]
  .next h=>simp[h]
def LC:∀(l:D Ed)(ts:D Nat),u (l.foldl WZ ts)<=u ts+u l
 |[],ts=>ax _
 |e::l,ts=>by
  have:=LC l<|WZ ts e;rw[lz,cO]
  have:u (WZ ts e)<=u ts+1:=by
   unfold WZ;split<;>simp
  omega
def cnt(A:At)(ms:D Nat):Nat->Nat
 |0=>0
 |n+1=>cnt A ms n+if n∈ms then u (A.rg n)else 0
def aeA(ho:A.Ok)(ms:D Nat):∀n,n<=A.ns->cnt A ms n<=A.pre n
 |0,_=>bD _
 |n+1,h=>by
  have:=aeA ho ms n N;rw[At.yg ho N];unfold cnt;split<;>omega
def UC{ms:D Nat}{s:Nat}(hs:s∉ms):∀n,cnt A (s::ms) n=cnt A ms n+if s<n then u (A.rg s)else 0
 |0=>rfl
 |n+1=>by
  unfold cnt;rw[UC hs n]
  by_cases h:n=s
  .subst h;simp[hs]
  .by_cases B:s<n
   .rw[jj B,jj (by omega:s<n+1)];simp only[bW,h,false_or];omega
   .rw[jx B,jx (by omega:¬s<n+1)];simp only[bW,h,false_or];omega
def W9(A:At)(x:D Nat×D Nat):Prop:=(∀aa,aa∈x.2<->∃s∈x.1,∃e∈A.rg s,e.1=1/\e.2.1=aa)/\u x.2<=cnt A x.1 A.ns
def W9.step{x:D Nat×D Nat}(h:W9 A x)(m:p.1<A.ns):W9 A (UX A x p):=by
 unfold UX;split
 .exact h
 .next d=>
  refine⟨λaa=>?_,?_⟩
  .rw[Y7,h.1];simp only[exC];exact or_comm
  .have:=LC (A.rg p.1) x.2;have:=h.2;show _<=cnt A (p.1::x.1) A.ns;rw[UC d,jj m];dsimp only;omega
def W9.fold:∀(l:D Sp){x:D Nat×D Nat},W9 A x->(∀p∈l,p.1<A.ns)->W9 A (l.foldl (UX A) x)
 |[],x,h,_=>h
 |p::l,x,h,hl=>W9.fold l (h.step<|hl p gB) λq d=>hl q (by simp[d])
def LD(s:Nat):∀(l:D Sp)(x:D Nat×D Nat),s∈(l.foldl (UX A) x).1<->s∈x.1\/∃p∈l,p.1=s
 |[],x=>gB
 |p::l,x=>by
  rw[lz,LD s l];unfold UX;split
  .next h=>
   simp only[exC];exact⟨λg=>g.elim .inl λg=>.inr<|.inr g,λg=>g.elim .inl λg=>g.elim (λg=>.inl<|g▸h) .inr⟩
  .rw[exC,bW];constructor
   .rintro((rfl|g)|g)
    .exact .inr<|.inl O
    .exact .inl g
    .exact .inr<|.inr g
   .rintro(g|rfl|g)
    .exact .inl<|.inr g
    .exact .inl<|.inl O
    .exact .inr g
def W9.nil:W9 A ([],[]):=⟨gB,bD _⟩
def ET(hl:∀p∈l,p.1<A.ns)(aa:Nat):aa∈NS A l<->off A l aa:=by
 unfold NS;rw[(W9.fold l W9.nil hl).1];constructor
 .rintro⟨s,hs,e,d,I,B⟩;rw[LD]at hs;rcases hs with hs|⟨p,m,rfl⟩
  .cases hs
  .exact⟨p,m,e,d,I,by rw[B]⟩
 .rintro⟨p,m,e,d,I,B⟩;exact⟨p.1,(LD _ _ _).2<|.inr ⟨p,m,O⟩,e,d,I,N⟩
def aeB(ho:A.Ok)(ht:A.ty<=65536)(hl:∀p∈l,p.1<A.ns)(t:Int):(decide (0<=t/\t<65536)&&hasB (OO<|NS A l) t.toNat)=decide (off A l t):=by
 rw[Fp]
 by_cases h:off A l t
 .have⟨p,hp,e,he,I,B⟩:=id h
  have m:e.2.1<A.ty:=by
   have hoe:=(ho.e _ (hl p hp) e he).2.2;unfold At.agv at hoe;rcases hoe with hoe|hoe|hoe<;>omega
  rw[bY h,bY N,bY];rfl;exact(ET hl _).2 (by rwa [show((t.toNat:Nat):Int)=t by omega])
 .rw[dQ h]
  by_cases h0:0<=t/\t<65536
  .rw[bY h0,dQ];rfl;intro d;have:=(ET hl _).1 d;rw[show((t.toNat:Nat):Int)=t by omega]at this;exact h this
  .rw[dQ h0];rfl
theorem Y8(ho:A.Ok)(ht:A.ty<=65536)(hw:Wf H)(hk:GN cs H rw' A q ev sv sb)(hf:jC F' 86 H fa (u l) 2<|BR l)(hl:∀p∈l,p.1<A.ns)(a1:u l<=8000000):
 bM Pg X 26 [pr rw',dN ⟨[J fa (u l) fc,aO ok,J II htn htc,W st]⟩] H (Q1 (λv Q=>K5 (H.bV<=·) Q v<|OO<|NS A l) H):=by
 have ao:=ho.big;refine lF [0,1,3,4,5,6,8,10,20,21,22,50,51,52] ?_;have G:=gM hw;refine G.box O λH1 rc G=>?_;have G:SH [] H H1 [(rc,68,[J fa (u l) fc,aO ok,J II htn htc,W st])]:=G;have T:∀{Q},Ext H Q->GN cs Q rw' A q ev sv sb:=λM=>hk.stay M nofun;refine dn (RD (T G.ext) ho) ?_;rintro _ H1 ⟨rfl,rfl⟩;refine bN ?_;refine iV ((T G.ext).b.cell (o:=7) O) ?_;have⟨ta,tc,hsv,hsf⟩:=hk.s;rw[hsv];refine bN ?_;refine G.mkS (ax _) N λH2 rm G=>?_;rw[nC]at G;apply G.qE;refine bN ?_;have hm:∀i,∀s,s∈((l.take i).foldl (UX A) ([],[])).1<->∃p∈l.take i,p.1=s:=λi s=>by rw[LD];simp
 have Y:∀i,W9 A ((l.take i).foldl (UX A) ([],[])):=λi=>W9.fold _ W9.nil λp hp=>hl p<|fG hp;have U:∀x:D Nat×D Nat,W9 A x->u x.2<=100000:=λx M=>aR M.2<|aR (aeA ho _ _<|ax _)<|At.AP ho _;refine lp7 6 8 10 22 50 51 52 (h1:=λm x6 x8 jW FQ Jq Fx VZ Q=>∃(i:Nat)(d:D Bool)(gb:D eF),FQ=W i/\i+m=u l/\u d=A.ns/\(∀s,s<A.ns->d[s]?=Z (decide<|s∈((l.take i).foldl (UX A) ([],[])).1))/\GB 3 1 x6 (gq ((l.take i).foldl (UX A) ([],[])).2) gb/\SH [] H Q ((rm,4,bools d)::(rc,68,[J fa (u l) fc,aO ok,J II htn htc,W st])::gb)) ?_ (u l) ⟨0,aY A.ns aA,[],rfl,bB _,gB,λs hs=>by rw[lZ,jj hs];simp,GB.nil _ _,by rw[show bools (aY A.ns aA)=aY A.ns (aO aA)from ko];exact G⟩;clear G;rintro m x6 x8 jW FQ Jq Fx VZ E H3 ⟨i,d,gb,rfl,aE,al,ab,K,G⟩;refine mG (λV=>?_) λV=>?_
 .refine tl ?_;rw[dV N]at K;obtain⟨a,n,c,rfl,hn,ap⟩:=K.KE (cs:=λ_=>True) (L:=[(rm,4,bools d),(rc,68,[J fa (u l) fc,aO ok,J II htn htc,W st])]) (G.perm<|aG (l₁:=[_,_])) λ_ _=>trivial;have aq:=U _<|Y<|u l;rw[dV (ax _)]at aq
  obtain rfl:n=u (NS A l):=by
   unfold NS;simp only[aM]at hn;omega
  refine dn (ES G.wf ap (λaa hu=>?_) (by unfold NS;omega)) ?_
  .have⟨p,hp,e,he,I,B⟩:=(ET hl _).1 hu;have hoe:=(ho.e _ (hl p hp) e he).2.2;unfold At.agv at hoe;rcases hoe with hoe|hoe|hoe<;>omega
  rintro v H4 ⟨hb,M⟩;refine Lu.rr ?_;have⟨r,I,B,h3⟩:=hb;exact⟨⟨r,I,aR G.ext.bV B,h3⟩,G.ext.trans' M⟩
 have P:i<u l:=N;have w:=hl _<|bH P;have e1:(l.take<|i+1).foldl (UX A) ([],[])=UX A ((l.take i).foldl (UX A) ([],[])) l[i]:=by rw[dU,av P,iR];rfl
 have am:=Y i;have ac:=U _<|Y<|i+1;rw[e1]at ac;refine(hf.ex G.ext).VS N P (EP<|av P) λ_=>?_;generalize(l.take i).foldl (UX A) ([],[])=x at*;generalize l[i]=p at*;refine G.ns O O O λH4 rp G a3=>?_;have G:SH [] H H4 ((rp,86,[W p.1,W p.2])::(rm,4,bools d)::(rc,68,[J fa (u l) fc,aO ok,J II htn htc,W st])::gb):=G;refine fF ?_;refine dn (agR (T G.ext) w) ?_;rintro _ H5 ⟨rfl,rfl⟩;refine bN ?_;refine ig (λh=>by cases h) λ_=>?_;refine G.qE<|G.ix (v:=aO<|decide<|p.1∈x.1) w (by rw[bL,ab _ w];rfl) λ_=>?_;refine aV (λV=>?_) λV=>?_
 .have e2:UX A x p=x:=jj V;refine eD ?_;exact⟨u l-(i+1),N,_,_,_,_,_,_,_,_,_,O,i+1,d,gb,pq,N,al,by rw[e1,e2];exact ab,by rw[e1,e2];exact K,fV (A:=[_]) G⟩
 have e2:UX A x p=(p.1::x.1,(A.rg p.1).foldl WZ x.2):=jx V;rw[e2]at e1 ac;refine tm ?_;refine G.Yi w (by rw[aM];omega) (kk:=λ_ H6 G=>?_)
 have G:SH [] H H6 ((rp,86,[W p.1,W p.2])::(rm,4,bools<|d.set p.1 f)::(rc,68,[J fa (u l) fc,aO ok,J II htn htc,W st])::gb):=by
  rw[show bools (d.set p.1 f)=(bools d).set p.1 (aO f)from gW];exact G
 have an:∀s,s<A.ns->(d.set p.1 f)[s]?=Z (decide<|s∈p.1::x.1):=λs hs=>by
  rw[dX]
  by_cases h:p.1=s
  .subst h;rw[jj O,jj N];simp
  .rw[jx h,ab s hs];simp[qI h]
 have W_:u (d.set p.1 f)=A.ns:=by rw[bU];exact al
 generalize d.set p.1 f=d at*;refine iV (H:=hN H6) ((T G.ext).b.cell (o:=4) O) ?_;refine fF ?_;have⟨evs,he1,he2⟩:=hk.a.e;have⟨ea,ec,he3,hfe⟩:=he2 _ w;refine(he1.ex G.ext).R8 w he3 λr o=>?_;refine fF ?_
 have aw:u (A.rg p.1)<=100000:=by
  have:=At.AP ho<|p.1+1;have:=At.yg ho w;omega
 have hts:=LC ((A.rg p.1)) x.2;have a2:=U _ am;refine Gg 6 10 52 (h1:=λm x6 jW VZ Q=>∃(k:Nat)(gb:D eF),VZ=W k/\k+m=u (A.rg p.1)/\GB 3 1 x6 (gq<|((A.rg p.1).take k).foldl WZ x.2) gb/\SH [] H Q ((rp,86,[W p.1,W p.2])::(rm,4,bools d)::(rc,68,[J fa (u l) fc,aO ok,J II htn htc,W st])::gb)) ?_ (u<|A.rg p.1) ⟨0,gb,rfl,bB _,K,G⟩;clear K G;rintro m' x6 jW VZ a5 H7 ⟨k,gb,rfl,a0,K,G⟩;refine mG (λV=>?_) λV=>?_
 .refine tl ?_;refine eD ?_;rw[dV N]at K;exact⟨u l-(i+1),N,_,_,_,_,_,_,_,_,_,O,i+1,d,gb,pq,N,W_,by rw[e1];exact an,by rw[e1];exact K,fV (A:=[_]) G⟩
 have ad:k<u (A.rg p.1):=N;refine KX (hfe.ex G.ext) ad λpe=>?_;have e3:((A.rg p.1).take<|k+1).foldl WZ x.2=WZ (((A.rg p.1).take k).foldl WZ x.2) (A.rg p.1)[k]:=by rw[dU,av ad,iR];rfl
 have ar:=LC ((A.rg p.1).take k) x.2;rw[dS]at ar;generalize((A.rg p.1).take k).foldl WZ x.2=ts at*;generalize(A.rg p.1)[k]=e at*;refine G.ns O O O λH8 re G a4=>?_;have G:SH [] H H8 ((re,121,[W e.1,W e.2.1,W e.2.2])::(rp,86,[W p.1,W p.2])::(rm,4,bools d)::(rc,68,[J fa (u l) fc,aO ok,J II htn htc,W st])::gb):=G;refine ym (λI=>?_) λI=>?_
 .have e4:WZ ts e=ts++[e.2.1]:=jj N;refine G.qE<|K.NG G O O O (by rw[aM];omega) λq' v' Rt iX K G=>?_;refine eD ?_;exact⟨u (A.rg p.1)-(k+1),N,_,_,_,_,_,O,k+1,iX,pq,N,by rw[e3,e4,show gq (ts++[e.2.1])=gq ts++[W e.2.1]from dK];exact K,fV (A:=[_]) G⟩
 .have e4:WZ ts e=ts:=jx N;refine eD ?_;exact⟨u (A.rg p.1)-(k+1),N,_,_,_,_,_,O,k+1,gb,pq,N,by rw[e3,e4];exact K,fV (A:=[_]) G⟩
end
end Go.Proofs.Lv
