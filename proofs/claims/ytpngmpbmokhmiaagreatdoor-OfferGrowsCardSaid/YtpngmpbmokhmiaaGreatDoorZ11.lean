/-
  Part 11 of the proof. No condition.
-/
import Derived.Test.YtpngmpbmokhmiaaGreatDoorZ09
set_option linter.unusedVariables false
set_option linter.unusedSimpArgs false
set_option maxRecDepth 100000
set_option maxHeartbeats 4000000
set_option linter.defProp false
open Option renaming some->Z,none->T
open Bool renaming true->F,false->aA
open Go renaming Value->D,TypeId->aH,Program->aX,Operand->cB,IntKind->gm
open Go.Value renaming int->bq,slice->u,bool->aR,string->aJ,pointer->bG,tuple->fO,agg->dP,map->fK
open Nat renaming beq->aB,ble->aD,sub->dQ
open List renaming length->J,replicate->aY,range->dZ
open List.Perm renaming swap->gX,cons->eX
open BitVec renaming ofInt->kW
open And renaming intro->iZ
open Go.IntKind renaming i64->bC,wrap->oG,u64->fB
def jj:=@if_pos
def jk:=@if_neg
noncomputable section
namespace Go.Proofs.Lu
open Go.Ae Go.Ae.hx Go.Proofs.Lv
variable{l:C Ed}
section
variable{ay F':Nat->Prop}{H0 H:R}{L hx:C eB}{S:C Nat}{A:At}{q q':AV}{a a':aC Addr}{n c c':Nat}
def WI{l:C Nat}(I:Wf H)(h:jJ ay 3 H a n 1<|gq l)(M:jJ F' 3 H a' n 1<|gq l)(W:n<=16777216):bQ Pg X 81 [u a n c,u a' n c'] H λv Q=>v=aR F/\Q=H:=by
 have V:J l=n:=by have:=h.1.1;simpa using this
 refine GY [0,1,4,5,12,13] ?_;refine fP (λd=>absurd trivial d) λ_=>?_;refine Ik 4 5 13 (h1:=λm T U K Q=>∃i:Nat,K=B i/\i+m=n/\Q=H) ?_ n ⟨0,rfl,N,rfl⟩;rintro m T U K Y H1 ⟨i,rfl,P,rfl⟩;refine lX (λw=>?_) λw=>?_
 .refine tl<|rr ?_;exact⟨O,O⟩
 have E:i<n:=N;have hv:=A_ (l:=l) (show i<J l by omega);refine jJ.ix (H:=hN H1) (show jJ ay 3 (hN H1) a n 1 (gq l)from h) E hv λp=>?_
 try simp only[iT I]
 refine jJ.ix (H:=hN H1) (show jJ F' 3 (hN H1) a' n 1 (gq l)from M) E hv λp2=>?_
 try simp only[iT I]
 refine bM ?_;refine ji (by simp only[Bb,Dx,zg])<|fP (λd=>absurd trivial d) λ_=>?_;refine eG ?_;exact⟨n-(i+1),N,_,_,_,_,_,O,i+1,pJ,N,O⟩
def ajP{l:C aZ}(I:Wf H)(h:jJ ay 9 H a n 1<|l.map aJ)(M:jJ F' 9 H a' n 1<|l.map aJ)(W:n<=16777216):bQ Pg X 80 [u a n c,u a' n c'] H λv Q=>v=aR F/\Q=H:=by
 have V:J l=n:=by have:=h.1.1;simpa using this
 refine GY [0,1,4,5,12,13] ?_;refine fP (λd=>absurd trivial d) λ_=>?_;refine Ik 4 5 13 (h1:=λm T U K Q=>∃i:Nat,K=B i/\i+m=n/\Q=H) ?_ n ⟨0,rfl,N,rfl⟩;rintro m T U K Y H1 ⟨i,rfl,P,rfl⟩;refine lX (λw=>?_) λw=>?_
 .refine tl<|rr ?_;exact⟨O,O⟩
 have E:i<n:=N;have hv:(l.map aJ)[i]?=Z (aJ<|l[i]'N):=by rw[bK,av (show i<J l by omega)];rfl
 refine jJ.ix (H:=hN H1) (show jJ ay 9 (hN H1) a n 1 (l.map aJ)from h) E hv λp=>?_
 try simp only[iT I]
 refine jJ.ix (H:=hN H1) (show jJ F' 9 (hN H1) a' n 1 (l.map aJ)from M) E hv λp2=>?_
 try simp only[iT I]
 refine bM ?_;refine ji (by simp only[Bb,Dx,zg])<|iI (λd=>absurd d gD) λ_=>?_;refine eG ?_;exact⟨n-(i+1),N,_,_,_,_,_,O,i+1,pJ,N,O⟩
def amA:tEq Pg 121=Z (.inr [1,1,1]):=fT
def aoy(k g t:Int)(i j:Nat):mW Pg .neq 121 (.tmp i) (.tmp j) (dP ⟨[vi k,vi g,vi t]⟩) (dP ⟨[vi k,vi g,vi t]⟩)=Z (aR aA):=by
 show D6 .neq (aeq Pg 121 (.tmp i) (.tmp j) _ _)=_
 have:aeq Pg 121 (.tmp i) (.tmp j) (dP ⟨[vi k,vi g,vi t]⟩) (dP ⟨[vi k,vi g,vi t]⟩)=Z F:=by
  have e:mU Pg 121 (dP ⟨[vi k,vi g,vi t]⟩) (dP ⟨[vi k,vi g,vi t]⟩)=(cr (FI k k) (cr (FI g g) (cr (FI t t) (Z F)<|Z aA)<|Z aA)<|Z aA):=by
   show(aN (tEq Pg 121) λq=>_)=_;rw[amA];rfl
  have r:∀x:Int,FI x x=F:=λx=>by rw[BD];simp
  rw[r,r,r]at e;exact e
 rw[this];rfl
def amB(E:Wf H)(h:jJ ay 121 H a (J l) 3<|Bt l)(K:jJ F' 121 H a' (J l) 3<|Bt l)(V:J l<=16777216):bQ Pg X 84 [u a (J l) c,u a' (J l) c'] H λv Q=>v=aR F/\Q=H:=by
 refine GY [0,1,4,5,12,13] ?_;refine fP (λM=>absurd trivial M) λ_=>?_;refine Ik 4 5 13 (h1:=λm T U I Q=>∃i:Nat,I=B i/\i+m=J l/\Q=H) ?_ (J l) ⟨0,rfl,N,rfl⟩;rintro m T U I W H1 ⟨i,rfl,P,rfl⟩;refine lX (λd=>?_) λd=>?_
 .refine tl<|rr ?_;exact⟨O,O⟩
 have w:i<J l:=N;refine KV (H:=hN H1) (show jJ ay 121 (hN H1) a (J l) 3 (Bt l)from h) w λp=>?_
 try simp only[iT E]
 refine KV (H:=hN H1) (show jJ F' 121 (hN H1) a' (J l) 3 (Bt l)from K) w λY=>?_
 try simp only[iT E]
 refine dA (aoy ..)<|bM ?_;refine ji (by simp only[Bb,Dx,zg]) ?_;refine eG ?_;exact⟨J l-(i+1),N,_,_,_,_,_,O,i+1,pJ,N,O⟩
def aaz(w:Wf H)(h:jJ ay 121 H a (J l) 3<|Bt l)(d:jJ F' 121 H a' (J l) 3<|Bt l)(m:J l<=16777216):bQ Pg X 83 [u a (J l) c,u a' (J l) c'] H λv Q=>v=aR F/\Q=H:=by
 refine lq [0,1,4] ?_;refine dD (amB w h d m) ?_;rintro v Q ⟨rfl,rfl⟩;refine rr ?_;exact⟨O,O⟩
def ajQ(Y:Wf H)(h:vI ay H A q)(P:vI F' H A q')(ho:A.Ok):bQ Pg X 82 [u q.ea A.ns q.ec,u q'.ea A.ns q'.ec,.func (.func 83) #[] #[]] H λv Q=>v=aR F/\Q=H:=by
 have I:=ho.big;refine GY [0,1,2,6,7,8,9,15,16,17] ?_;refine fP (λU=>absurd trivial U) λ_=>?_;refine Yt 6 7 8 9 17 (h1:=λm x6 x7 x8 x9 E Q=>∃i:Nat,E=B i/\i+m=A.ns/\Q=H) ?_ A.ns ⟨0,rfl,N,rfl⟩;rintro m x6 x7 x8 x9 E oW H1 ⟨i,rfl,W,rfl⟩;refine lX (λd=>?_) λd=>?_
 .refine tl<|rr ?_;exact⟨O,O⟩
 have K:i<A.ns:=N;have M:=ho.len i;refine h.ldE (Ext.refl _) K λp ra rc V=>P.ldE (Ext.refl _) K λp2 ab ac w=>dD (show bQ Pg X 83 _ _ _ from aaz Y V w N) ?_;rintro v Q ⟨rfl,rfl⟩;refine bM ?_;refine iI (λT=>by cases T) λ_=>?_;refine eG ?_;exact⟨A.ns-(i+1),N,_,_,_,_,_,_,_,O,i+1,pJ,N,O⟩
def aaA(K:Wf H)(h:vI ay H A q)(E:vI F' H A q')(ho:A.Ok):bQ Pg X 53 [q.v A,q'.v A] H (Qe (λv _=>v=aR F) H):=by
 have G:=h_ K;have m:=ho.big;have T:=ho.few;refine lq [0,1,2,3,4] ?_;refine G.box O λH1 M G=>?_;refine G.box O λw P G=>?_;have G:SH [] H w [(P,27,[u q'.na A.nr q'.nc,u q'.sa A.nr q'.sc,u q'.pa A.nr q'.pc,u q'.oa A.ns q'.oc,u q'.ea A.ns q'.ec,B A.ty]),(M,27,[u q.na A.nr q.nc,u q.sa A.nr q.sc,u q.pa A.nr q.pc,u q.oa A.ns q.oc,u q.ea A.ns q.ec,B A.ty])]:=G;refine fJ ?_;refine aW (λ_=>?_) λI=>absurd trivial I;have g:=h.ex G.ext;have d:=E.ex G.ext;refine fJ ?_;refine dD (ajP G.wf g.n d.n N) ?_;rintro v _ ⟨rfl,rfl⟩;refine fJ ?_;refine dD (WI G.wf g.s d.s N) ?_;rintro v _ ⟨rfl,rfl⟩;refine fJ ?_;refine dD (WI G.wf g.p d.p N) ?_;rintro v _ ⟨rfl,rfl⟩;refine fJ ?_;refine dD (WI G.wf g.o d.o N) ?_;rintro v _ ⟨rfl,rfl⟩;refine fJ ?_;refine dD (ajQ G.wf g d ho) ?_;rintro v _ ⟨rfl,rfl⟩;refine rr ?_;exact⟨O,G.ext⟩
end
end Go.Proofs.Lu
namespace Go.Proofs.Lv
open Go.Proofs.Lu
open Go.Ae Go.Ae.hx
section
variable{H0 H:R}{L hx:C eB}{S:C Nat}{ay:Nat->Prop}{A:At}{q:AV}{n s:Nat}
structure RB(n c:Nat)(b:C<|C Nat):Prop where
 len:J b=n
 lt:∀(i:Nat)(l:C Nat),b[i]?=Z l->(∀x∈l,x<n)/\J l<=c
structure Rch(b:C<|C Nat)(mk mk':C Bool):Prop where
 gr:∀t,on mk t->on mk' t
 ln:J mk'=J mk
 nw:∀x,on mk' x->¬on mk x->∀l:C Nat,b[x]?=Z l->∀y∈l,on mk' y
def Rch.refl(b:C<|C Nat)(mk:C Bool):Rch b mk mk:=⟨λ_ h=>h,rfl,λx h d=>absurd h d⟩
def Rch.trans{b:C (C Nat)}{w m2 m3:C Bool}(h:Rch b w m2)(g:Rch b m2 m3):Rch b w m3:=
 ⟨λt E=>g.gr t<|h.gr t E,g.ln.trans h.ln,λx M B l d y m=>by
  by_cases W:on m2 x
  .exact g.gr y<|h.nw x W B l d y m
  .exact g.nw x M W l d y m⟩
end
end Go.Proofs.Lv
namespace Go.Ae
def g5(a b c d e:Nat):Nat->Nat
 |1=>a
 |2=>b
 |3=>c
 |4=>d
 |5=>e
 |_=>0
end Go.Ae
namespace Go.Proofs.Lv
open Go.Proofs.Lu
open Go.Ae Go.Ae.hx
variable{f vs:C D}{c c' es n s:Nat}{b:C (C Nat)}{e:Ed}{mk:C Bool}{L hx:C eB}{A:At}{q:AV}{v:D}{H Q H0:R}
section
variable{S:C Nat}{ay:Nat->Prop}
structure KR(A:At)(mk:C Bool)(ag:Nat->Ed->Prop)(c:Nat)(b:C<|C Nat):Prop where
 rb:RB A.nr c b
 cp:∀s e,ag s e->e.1=2->on mk s->∃l,b[A.aj s]?=Z l/\e.2.1∈l
variable{ag D':Nat->Ed->Prop}
def KR.wk(h:KR A mk ag c b)(hd:∀s e,D' s e->ag s e)(m:c<=c'):KR A mk D' c' b:=
 ⟨⟨h.rb.len,λi l d=>⟨(h.rb.lt i l d).1,aQ (h.rb.lt i l d).2 m⟩⟩,λs e hs=>h.cp s e<|hd s e hs⟩
def KR.skip(h:KR A mk ag c b)(hk:e.1=2->¬on mk s):KR A mk (λs' e'=>ag s' e'\/(s'=s/\e'=e)) (c+1) b:=
 ⟨⟨h.rb.len,λi l d=>⟨(h.rb.lt i l d).1,rW (h.rb.lt i l d).2⟩⟩,λs' e' hs I W=>by
   rcases hs with hs|⟨rfl,rfl⟩
   .exact h.cp s' e' hs I W
   .exact absurd W<|hk I⟩
def KR.add(h:KR A mk ag c b){l:C Nat}(P:e.2.1<A.nr)(hl:b[A.aj s]?=Z l):KR A mk (λs' e'=>ag s' e'\/(s'=s/\e'=e)) (c+1) (b.set (A.aj s)<|l++[e.2.1]):=by
 have E:=(bI.1 hl).1;refine⟨⟨by rw[bR];exact h.rb.len,λi w d=>?_⟩,λs' e' hs I W=>?_⟩
 .rw[dU]at d;split at d
  .next g=>
   subst g;injection d with d
   subst d;have⟨m,B⟩:=h.rb.lt _ l hl;refine⟨λx M=>?_,by simp;omega⟩;rcases cK.1 M with M|M
   .exact m x M
   .simp at M;subst M;exact P
  .have⟨m,B⟩:=h.rb.lt i w d;exact⟨m,N⟩
 .have K:∀w,b[A.aj s']?=Z w->e'.2.1∈w->∃O,(b.set (A.aj s)<|l++[e.2.1])[A.aj s']?=Z O/\e'.2.1∈O:=λw m B=>by
   by_cases g:A.aj s=A.aj s'
   .rw[<-g,hl]at m;injection m with m
    subst m;exact⟨l++[e.2.1],by rw[<-g,vX E],dK _ B⟩
   .exact⟨w,by rw[List.getElem?_set_ne g];exact m,B⟩
  rcases hs with hs|⟨rfl,rfl⟩
  .have⟨w,m,B⟩:=h.cp s' e' hs I W;exact K w m B
  .exact⟨l++[e'.2.1],by rw[vX E],gD⟩
def RR(A:At)(mk:C Bool)(ag:Nat->Ed->Prop)(c:Nat)(vs:C D)(az:C eB):Prop:=∃b,KR A mk ag c b/\IX 3 1 (b.map gq) vs az
def RR.wk{az:C eB}(h:RR A mk ag c vs az)(hd:∀s e,D' s e->ag s e)(d:c<=c'):RR A mk D' c' vs az:=let⟨b,I,h3⟩:=h;⟨b,I.wk hd d,h3⟩
def RR.skip{az:C eB}(h:RR A mk ag c vs az)(hk:e.1=2->¬on mk s):RR A mk (λs' e'=>ag s' e'\/(s'=s/\e'=e)) (c+1) vs az:=let⟨b,I,h3⟩:=h;⟨b,I.skip hk,h3⟩
def RR.len{az:C eB}(h:RR A mk ag c vs az):J vs=A.nr:=let⟨b,I,h3⟩:=h;by rw[<-h3.len,aK,I.rb.len]
def RR.same{az:C eB}(h:RR A mk ag c vs az):∀v∈vs,qA v v=F:=let⟨_,_,h3⟩:=h;Ba h3
def RR.put{az w m:C eB}{rx:Nat}{K:D->R->Prop}(h:RR A mk ag c vs az)(hc:c<=1000000)(he:e.2.1<A.nr)(hn:A.aj s<A.nr)(hv:vs[A.aj s]?=Z v)(G:SH S H0 H<|(rx,3,[B e.2.1])::(w++(az++m)))(kk:∀va vl vc H1 R'(S':C Nat),RR A mk (λs' e'=>ag s' e'\/(s'=s/\e'=e)) (c+1) (vs.set (A.aj s)<|u va vl vc) R'->SH S H0 (hM H H1) (w++(R'++m))->(Df H H1=cl 1\/Df H H1=⟨2,0,0,0,H,H1⟩)->(∀r,r<H.bU->r∉S'->H1.obj r=H.obj r)->(∀r∈S',r∈az.map (·.1))->K (u va vl vc) H1):
 ME (Bo 3 1 v (u (Z ⟨rx,0,T⟩) 1 1)<|hN H) K:=by
 have⟨b,I,h3⟩:=h;have W:=I.rb.len;have ad:J vs=A.nr:=by rw[<-h3.len,aK,W]
 obtain⟨E,gb,vn,rfl,P,V⟩:=h3.at (A.aj s) N;obtain⟨l,hl⟩:∃l,b[A.aj s]?=Z l:=⟨_,av N⟩;have ac:=(I.rb.lt _ l hl).2;rw[bK,hl]at P;have P:GB 3 1 vs[A.aj s] (gq l) gb:=P;rw[av N]at hv;rw[eF hv]at P;have e1:w++((E++(gb++vn))++m)=(w++E)++(gb++(vn++m)):=gD;rw[e1]at G;refine P.Jp (G.perm<|eX _<|jw (w++E) gb<|vn++m) N O O K4 λv' H1 Y U d _ SI ab=>?_;obtain⟨va,vl,vc,rfl⟩:=U.sl;have d:=d.perm<|jw Y (w++E)<|vn++m;have e2:(w++E)++(Y++(vn++m))=w++((E++(Y++vn))++m):=gD;rw[e2]at d
 refine kk va vl vc H1 (E++(Y++vn)) (gb.map (·.1)) ⟨b.set (A.aj s)<|l++[e.2.1],I.add he hl,?_⟩ d ab SI λr hr=>by
  obtain⟨x,M,rfl⟩:=bP.1 hr;exact bP.2 ⟨x,by simp[M],rfl⟩
 have:=V (u va vl vc) (gq<|l++[e.2.1]) Y (by rw[show gq (l++[e.2.1])=gq l++[B e.2.1] by simp];exact U);rw[gz];exact this
end
section
variable{S:C Nat}{ay:Nat->Prop}
def _root_.Go.Ae.jJ.old{ty:aH}{a:aC Addr}(h:jJ ay ty H a n es f):jJ (·<H.bU) ty H a n es f:=⟨h.1,λr o e d=>let⟨_,W,h3⟩:=h.2 r o e d;⟨W,W,h3⟩⟩
def vI.old(h:vI ay H A q):vI (·<H.bU) H A q:=⟨h.n.old,h.s.old,h.p.old,h.o.old,let⟨evs,I,W⟩:=h.e;⟨evs,I.old,λi d=>let⟨a,c,h3,h4⟩:=W i d;⟨a,c,h3,h4.old⟩⟩⟩
def Bs.stay{b:Nat}(h:Bs b H n v mk)(M:pI S H Q)(G:∀r∈S,r<b):Bs b Q n v mk:=let⟨a,c,I,W,h3⟩:=h;⟨a,c,I,W,h3.stay M λr d=>.inl (by have:=G r d;omega)⟩
def RB.wk(h:RB n c b)(m:c<=c'):RB n c' b:=⟨h.len,λi l d=>⟨(h.lt i l d).1,aQ (h.lt i l d).2 m⟩⟩
def aip{α:Type}(a b c d e cs:α):[a,b,c,d,e,cs].Perm [cs,c,b,e,a,d]:=by
 refine List.Perm.trans (aI (l₁:=[a,b,c,d,e]) (l₂:=[cs]))<|eX cs ?_;refine List.Perm.trans (aI (l₁:=[a,b]) (l₂:=[c,d,e]))<|eX c ?_;refine List.Perm.trans (aI (l₁:=[d,e,a]) (l₂:=[b]))<|eX b ?_;exact List.Perm.trans (gX _ _ _)<|eX e<|gX _ _ _
end
end Go.Proofs.Lv
namespace Go.Ae
def SH.mN{H0 H Q:R}{L L':C eB}(G:SH [] H0 H L)(h:SH [] (Go.Ae.hN H0) Q L'):SH [] H0 (hM H Q) L':=by
 have w:=h.wf;have e:(hM H Q).low=pW H.low Q.low:=rfl;rw[Jo]at e;refine⟨⟨h.ext.bU,h.ext.obj,λb m d _=>?_,λ_=>?_⟩,λx M=>(h.bk x M).iE O,h.lo,h.ne,?_⟩
 .have I:=G.ext.low b m d (nofun);have W:=h.ext.low b d d<|nofun;omega
 .show(hM H Q).low<=Q.bU;omega
 .show(hM H Q).low<=Q.bU;omega
end Go.Ae
namespace Go.Proofs.Lv
open Go.Proofs.Lu
open Go.Ae Go.Ae.hx
variable{l zs:C Int}{b c i j k n r s:Nat}{L hx gb:C eB}{A:At}{q:AV}{H':Int->Prop}{v:D}{H H0:R}{a:aC Addr}{f eY ks vs:C D}
section
variable{S:C Nat}{ay:Nat->Prop}
def ad3(h:n<=1000000):R4 1 (u (Z ⟨r,0,T⟩) n<|gQ 1) T (Z<|B n) (Z<|B n)=Z (u (Z ⟨r,0,T⟩) n n):=by
 show cr (gW<|gQ 1) (aN (Z n) λm=>gd (aD 0 n&&aD n m&&aD m (gQ 1)&&(!(fQ<|Z<|B n)||fQ (Z<|B n)))<|Z<|u (Z ⟨r,sS m 0 0 1,T⟩) (dQ n 0)<|dQ m 0) (gd (aB (gQ 1)<|gQ 1)<|gd (aD 0 n&&aD n n&&aD n n&&F&&gW n)<|Z<|u (Z ⟨r,sS n 0 0 1,T⟩) (dQ n 0)<|dQ n 0)=_;have d:gW n=F:=aG N;have w:sS n 0 0 1=0:=by unfold sS;cases aB n 0<;>rfl
 rw[Aq,lz,dW,aG<|bD _,aG<|ax _,d,w];rfl
def aaB(m:GB 3 1 v f gb)(hl:J f<=1000000)(w:Wf H):bQ Pg X 161 [v] H λv' Q=>Q=H/\((∃c,v'=u T 0 c/\f=[]/\gb=[])\/∃r c eY,v'=u (Z ⟨r,0,T⟩) (J f) c/\gb=[(r,3,f++eY)]):=by
 have G:=h_ w;rcases m with⟨rfl,rfl,rfl⟩|⟨r,n,eY,rfl,d,rfl⟩
 .refine GY [0,2] ?_;refine dA (v:=u T 0 0) O ?_;refine rr ?_;simp
 .rw[dN]at d;subst d;refine GY [0,2] ?_;refine dA (ad3 hl)<|rr ?_;exact⟨by trivial,.inr ⟨r,_,eY,rfl,rfl⟩⟩
def getD_in{l:C Nat}{h:k<J l}:l[k]?.getD 0=l[k]:=by rw[av h];rfl
def NQ(H':Int->Prop)(ks:C D):Prop:=∀x∈ks,∃z:Int,x=vi z/\H' z
def NQ.nm(hk:NQ H' ks)(G:SH [] H0 H<|(r,3,ks++eY)::L):Nm H' r 3 (J ks) H0 H L:=by
 refine⟨ks++eY,by rw[aS];omega,λk d=>?_,G⟩;have⟨z,e,hq⟩:=hk _<|bH d;refine⟨z,?_,hq⟩;rw[<-e];unfold El;rw[dN,eO (by rw[aS];omega),jB d];rfl
def aiq(h:Nm H' r 3 n H0 H L):∃d iN,J d=n/\NQ H' d/\GB 3 1 (sl r n<|gQ 1) d iN/\SH [] H0 H (iN++L):=by
 have⟨f,I,W,h3⟩:=h;have m:J (f.take n)=n:=by rw[dX];omega
 refine⟨f.take n,[(r,3,f.take n++f.drop n)],m,λx M=>?_,.inr ⟨r,n,_,rfl,N,rfl⟩,by rw[iM];exact h3⟩;obtain⟨i,w,rfl⟩:=iO M;have⟨z,e,hq⟩:=W i N;refine⟨z,?_,hq⟩;unfold El at e;rw[dN,eO N]at e;rw[rT];exact(kP e).1
def agL(w:GB 3 1 v ks gb)(hl:J ks<=1000000)(hk:NQ H' ks)(G:SH [] H0 H<|gb++L):bQ Pg X 160 [v] H λ_ Q=>∃d iN,J d=J ks/\NQ H' d/\GB 3 1 v d iN/\SH [] H0 Q (iN++L):=by
 rcases w with⟨rfl,rfl,rfl⟩|⟨r,n,eY,rfl,B,rfl⟩
 .refine dD adE ?_;rintro _ _ rfl;exact⟨[],[],O,hk,GB.nil _ _,G⟩
 .obtain rfl:n=J ks:=N;refine dD (Nr hl<|hk.nm G) ?_;intro _ H1 m;exact aiq m
def agM(w:GB 3 1 v ks gb)(hl:J ks<=1000000)(hk:NQ H' ks)(G:SH [] H0 H<|gb++L):bQ Pg X 162 [v] H λv' Q=>∃d iN,J d<=J ks/\NQ H' d/\GB 3 1 v' d iN/\SH [] H0 Q (iN++L):=by
 rcases w with⟨rfl,rfl,rfl⟩|⟨r,n,eY,rfl,E,rfl⟩
 .refine dD T_ ?_;rintro _ _ ⟨rfl,rfl⟩;exact⟨[],[],ax _,hk,GB.nil _ _,G⟩
 .obtain rfl:n=J ks:=N;refine dD (Iy hl<|hk.nm G) ?_;rintro _ H1 ⟨K,B,rfl,m⟩;have⟨d,iN,I,W,h3,h4⟩:=aiq m;exact⟨d,iN,N,W,h3,h4⟩
end
section
variable{S:C Nat}{ay:Nat->Prop}
def ad4(ho:A.Ok)(h:i<=j)(m:j<=A.ns):A.pre i<=A.pre j:=by
 induction j with
 |zero=>obtain rfl:i=0:=N
        exact ax _
 |succ j d=>
  rcases dH i (j+1)with I|I
  .have:=At.yt ho (i:=j) N;have:=d N N;omega
  .obtain rfl:i=j+1:=N;exact ax _
def YO(H':Int->Prop)(v:D)(az:C eB):Prop:=(∃c,v=u T 0 c)\/∃(r n c:Nat)(f eY:C D),v=u (Z ⟨r,0,T⟩) n c/\((r,3,f++eY):eB)∈az/\J f=n/\n<=100000/\NQ H' f
def YO.nums{az:C eB}(h:YO H' v az)(G:SH [] H0 H L)(d:∀e∈az,e∈L):Ko H0.bU 100000 H' H v:=by
 rcases h with⟨c,rfl⟩|⟨r,n,c,f,eY,rfl,m,rfl,E,I⟩
 .exact⟨T,0,c,[],O,jJ.nil _ _ _ _ _,bD _,nofun⟩
 .have w:=G.bk _ (d _ m);exact⟨_,_,c,f,O,⟨⟨N,λi x B=>⟨r,0,rfl,(G.lo _<|d _ m).2,by rw[bB];apply w.cell;rw[bX (bI.1 B).1];exact B⟩⟩,λr' o e _=>by cases e;exact⟨G.yV<|d _ m,(G.lo _<|d _ m).2,w.Gb⟩⟩,E,I⟩
theorem Us(h:vI ay H0 A q)(ho:A.Ok){d dc xc E:Nat}{az:C eB}(hr:d<A.nr)(b5:J vs=A.nr)(hv:vs[d]?=Z (u T 0 0))(G:SH [] H0 H<|(dc,22,vs)::(xc,124,[u (Z ⟨dc,0,T⟩) A.nr A.nr])::(E,27,q.cells A)::az):
 bQ Pg X 158 [B d,pt E,pt xc] H λ_ Q=>∃v gb,YO (Ua A.nr) v gb/\SH [] H0 Q ((dc,22,vs.set d v)::(xc,124,[u (Z ⟨dc,0,T⟩) A.nr A.nr])::(E,27,q.cells A)::(gb++az)):=by
 refine lq [0,1,2,5,7,14,15,16,24,25,26] ?_;have a6:=ho.s d hr;have ar:=G;refine G.MI 2 O (ax 6) ?_;refine fJ ?_;refine(h.ex G.ext).n'.ldS ho hr λp=>?_;simp only[iT G.wf];refine dD (free_spec (ay:=ay) (oU H) (h.ex G.ext).n' ho a6.1) ?_;rintro _ H2 ⟨⟨fa,fc,l,rfl,am,a7,bi⟩,M⟩;have G:=G.oI M;have am:jJ ((hN H).bU<=·) 3 (hM H H2) fa (J l) 1 (gq l):=am;refine bM ?_;refine ji (by simp only[gJ M,Bb,Dx,agI,zg]) ?_
 have ap:vs.set d (u T 0 0)=vs:=by
  have⟨I,W⟩:=bI.1 hv;rw[<-W];exact sI I
 have a5:∀s∈l,s<A.ns:=λs hs=>(At.Rc.own ho (k:=d) (λt ht=>by subst ht;exact a6)<|(bi s).1 hs).1;have aE:=G;have G:=G.base;have hB:vI (·<H0.bU) (hM H H2) A q:=h.old.ex aE.ext;generalize amC:((dc,22,vs)::(xc,124,[u (Z ⟨dc,0,T⟩) A.nr A.nr])::(E,27,q.cells A)::az:C eB).map (λe:eB=>e.1)=ids at G
 have a4:∀r∈ids,H0.bU<=r/\r<H.bU:=λr U=>by
  rw[<-amC]at U;obtain⟨x,a9,rfl⟩:=bP.1 U;exact⟨ar.yV a9,(ar.lo x a9).2⟩
 have⟨evs,he1,he2⟩:=hB.e;have ab:∀r∈ids,¬r<H0.bU:=λr U=>by have:=a4 r U;omega
 have ba:∀i(h:i<J l),i<=l[i]:=λi=>by
  induction i with
  |zero=>exactλ_=>bD _
  |succ i ih=>
   intro h;have:=ih N;have:=jQ.1 a7 i (i+1) N h N;omega
 have b2:J l<=4000:=by
  have:=ho.big;rcases gK (J l)with h0|h0
  .omega
  .have:=ba (J l-1) N;have:=a5 _<|bH (show J l-1<J l by omega);omega
 have hF:∀{Q L'},SH ids (hM H H2) Q L'->jJ ((hN H).bU<=·) 3 Q fa (J l) 1 (gq l):=λG=>am.stay G.ext λr U=>.inl (by have:=a4 r U;show¬H.bU<=r;omega);refine iG.yD λK hK=>lp6 5 7 16 24 25 26 (h1:=λm x5 x7 rP bt bv ad Q=>∃(i c:Nat)(v:D)(gb:C eB)(P:C D),rP=B i/\i+m=J l/\GB 3 1 v P gb/\NQ (Ua A.nr) P/\J P<=A.pre c/\c<=A.ns/\(∀s∈l.drop i,c<=s)/\SH ids (hM H H2) Q ((dc,22,vs.set d v)::(xc,124,[u (Z ⟨dc,0,T⟩) A.nr A.nr])::(E,27,q.cells A)::(gb++az))) ?_ (J l) ⟨0,0,_,[],[],rfl,N,GB.nil _ _,nofun,bD _,bD _,λs _=>bD _,by rw[ap];exact G⟩;clear G;rintro m x5 x7 rP bt bv ad oW H3 ⟨i,c,v,gb,P,rfl,bm,Y,hD,a0,bz,a1,G⟩;refine lX (λhc=>?_) λhc=>?_
 .subst hK;refine bM ?_;obtain rfl:i=J l:=N;have bw:J P<=100000:=by have:=At.AZ ho c;omega
  clear a1 bm;subst amC;have G:=aE.over G;obtain⟨va,vl,vc,rfl⟩:=Y.sl;have ac:∀{w},(vs.set d w)[d]?=Z w:=by intro w;rw[dU,jj O,jj N]
  refine tl ?_;refine G.qF<|G.ix (k:=d) hr ac λp=>dD (agL Y N hD<|G.perm<|jw [_,_,_] gb az) ?_;rintro _ H4 ⟨f,bc,bx,bp,bj,V⟩;have G:=V.perm<|jw bc [_,_,_] az;simp only[bV,bZ]at G;refine fJ ?_;refine G.R8 (k:=d) hr ac ?_;refine G.lJ ?_;have al:=G;refine dD (agM bj N bp V.zD) ?_;rintro w H5 ⟨bb,VL,b1,br,bl,wD⟩;have G:=(V.mN wD).perm<|jw VL [_,_,_] az;simp only[bV,bZ]at G;have xM:=G;refine dD (aaB bl N<|oU _) ?_;rintro w' H6 ⟨rfl,a8⟩;refine G.lJ ?_;obtain⟨xa,xl,xk,rfl⟩:∃a n c,w'=u a n c:=by rcases a8 with⟨c,h,_⟩|⟨r,c,j,h,_⟩<;>exact⟨_,_,_,h⟩
  refine G.OM (k:=d) hr (by rw[bR];omega) (kk:=λHB G=>?_);refine splitK (λK hK=>?_) ?_
  .have n4:dc≠xc:=al.nq 0 1 O O N
   have r2:∀{n:Nat}{a b:R},n=1->oQ ⟨2,0,0,0,H4,H5⟩ ⟨4,dc,d,n,a,b⟩=F:=λh=>sF (al.get 0 O) ((xM.get 0 O).iE O) (by rw[bR];omega) λv hv=>by
    subst h;rw[eO (by rw[bR];omega),jU,kT,aT,wL]at hv;subst hv;exact Y.same
   have r3:∀{n:Nat}{a b:R},n=1->oQ ⟨2,0,0,0,H4,H5⟩ ⟨4,xc,0,n,a,b⟩=F:=λh=>sF (al.get 1 O) ((xM.get 1 O).iE O) (by subst h;exact ax 1) λv hv=>by
    have:=lV<|fG hv;simp at this;subst this;exact qQ _ _ _ λx h=>by cases h;rfl
   simp only[gJ (Ext.refl<|hN<|hM H4 H5),fu,gT];generalize d=ke at r2|-;rcases xB H4 H5 with e|e<;>rw[e]<;>apply Ii (A:=H4) (vn:=H5) (a:=dc) (b:=xc) n4 (by rfl) fT fT hK<;>repeat' apply iZ
   all_goals first|exact trivial|(intro h;cases h;done)|exactλ_=>⟨rfl,rfl⟩|exactλ_=>r2 O|exactλ_=>r3 O
  rw[List.set_set]at G;refine rn ?_;refine⟨_,VL,?_,G⟩;rcases a8 with⟨c,h,_⟩|⟨r,c,eY,h,W⟩
  .exact .inl ⟨c,h⟩
  .exact .inr ⟨r,_,c,bb,eY,h,by rw[W];exact aL ..,O,N,br⟩
 have hi:i<J l:=N;have ao:=bH hi;have aq:=a5 _ ao;have bh:c<=l[i]:=a1 _ (by rw[eO hi];exact aL ..);have b4:=ad4 ho bh N;refine(hF G).ix hi (A_ hi) λp=>?_;rw[getD_in (h:=hi)];refine G.ld 2 (o:=4) O O ?_;have⟨ea,ec,he3,he4⟩:=he2 _ aq;refine(he1.stay G.ext λr U=>.inl<|ab r U).ix aq he3 λp=>?_;refine bM ?_;have bo:=At.yt ho aq;have b3:=At.AZ ho<|l[i]+1;refine lp2 7 26 (h1:=λm x7 ad Q=>∃(k:Nat)(v:D)(gb:C eB)(P:C D),ad=B k/\k+m=J (A.rg l[i])/\GB 3 1 v P gb/\NQ (Ua A.nr) P/\J P<=A.pre l[i]+k/\SH ids (hM H H2) Q ((dc,22,vs.set d v)::(xc,124,[u (Z ⟨dc,0,T⟩) A.nr A.nr])::(E,27,q.cells A)::(gb++az))) ?_ (J<|A.rg l[i]) ⟨0,v,gb,P,rfl,N,Y,hD,N,G⟩;clear G Y hD a0;rintro m' x7 ad OJ H4 ⟨k,v,gb,P,rfl,b0,Y,hD,a0,G⟩;refine lX (λbg=>?_) λbg=>?_
 .obtain rfl:k=J (A.rg l[i]):=N;refine tl ?_;refine eG ?_;subst hK;refine⟨J l-(i+1),N,_,_,_,_,_,_,_,_,O,i+1,l[i]+1,v,gb,P,pJ,N,Y,hD,N,N,λs hs=>?_,G⟩
  .obtain⟨j,hj,rfl⟩:=iO hs;rw[List.getElem_drop];have:=jQ.1 a7 i (i+1+j) hi (by rw[v_]at hj;omega) N;omega
 have an:k<J (A.rg l[i]):=N;refine KV (he4.stay G.ext λr U=>.inl<|ab r U) an λp=>?_;have a2:=bH an;have bn:(A.rg l[i])[k]?=Z (A.rg l[i])[k]:=av an;have YC:=ho.len l[i];generalize(A.rg l[i])[k]=e at bn a2|-;refine G.ns O O O λH8 re G BK=>?_;have G:SH ids (hM H H2) H8 ((re,121,[B e.1,B e.2.1,B e.2.2])::(dc,22,vs.set d v)::(xc,124,[u (Z ⟨dc,0,T⟩) A.nr A.nr])::(E,27,q.cells A)::(gb++az)):=G;refine acu (λbf=>?_) λbf=>?_
 .refine eG ?_;exact⟨J (A.rg l[i])-(k+1),N,_,_,_,_,O,k+1,v,gb,P,pJ,N,Y,hD,N,fU (A:=[_]) G⟩
 have be:=G;have G:=G.base;obtain⟨va,vl,vc,rfl⟩:=Y.sl;have ac:(vs.set d<|u va vl vc)[d]?=Z (u va vl vc):=by rw[dU,jj O,jj N]
 refine fJ ?_;refine G.R8 (k:=d) hr ac<|fJ ?_;refine G.Tq O O O N λH9 rx G uX=>?_;have n1:re≠dc:=G.nq 1 2 O O N;have n2:re≠xc:=G.nq 1 3 O O N;have n4:dc≠xc:=G.nq 2 3 O O N;have YA:=G;have G:=(G.to (cs':=[B e.2.1]) O).perm<|eX _<|jw [_,_,_,_] gb az;refine Y.Jp G N O O N λv' HA iN a3 G _ _ xF=>?_;obtain⟨wa,wl,wc,rfl⟩:=a3.sl;have G:=G.perm<|jw iN [_,_,_,_] az;simp only[bV,bZ]at G;have V:=G;refine G.OM (k:=d) hr (by rw[bR];omega) (kk:=λHB G=>?_);refine splitK (λK hK=>?_) ?_
 .have r1:∀{o n:Nat}{a b:R},o+n<=3->oQ ⟨2,0,0,0,hM H8 H9,HA⟩ ⟨4,re,o,n,a,b⟩=F:=λh=>sF (YA.get 1 O) ((V.get 0 O).iE O) h (ID ⟨_,_,_,rfl⟩)
  have r2:∀{n:Nat}{a b:R},n=1->oQ ⟨2,0,0,0,hM H8 H9,HA⟩ ⟨4,dc,d,n,a,b⟩=F:=λh=>sF (YA.get 2 O) ((V.get 1 O).iE O) (by rw[bR];omega) λv hv=>by
   subst h;rw[eO (by rw[bR];omega),jU,kT,aT,wL]at hv;subst hv;exact Y.same
  have r3:∀{n:Nat}{a b:R},n=1->oQ ⟨2,0,0,0,hM H8 H9,HA⟩ ⟨4,xc,0,n,a,b⟩=F:=λh=>sF (YA.get 3 O) ((V.get 2 O).iE O) (by subst h;exact ax 1) λv hv=>by
   have:=lV<|fG hv;simp at this;subst this;exact qQ _ _ _ λx h=>by cases h;rfl
  simp only[uX,fu,gT];generalize d=ke at r2|-;rcases xF with e|e<;>rw[e]<;>apply QY (A:=hM H8 H9) (vn:=HA) (a:=re) (b:=dc) (c:=xc) n1 n2 n4 (by rfl) fT fT hK<;>repeat' apply iZ
  all_goals first|exact trivial|(intro h;cases h;done)|exactλ_=>⟨rfl,rfl⟩|exactλ_=>r1 N|exactλ_=>r2 O|exactλ_=>r3 O
 refine eG ?_;rw[List.set_set]at G
 have bd:NQ (Ua A.nr) (P++[B e.2.1]):=λx M=>by
  rcases cK.1 M with M|M
  .exact hD x M
  .rw[aT]at M;subst M;exact⟨_,O,jK _,by have:=ho.call a2 N;omega⟩
 exact⟨J (A.rg l[i])-(k+1),N,_,_,_,_,O,k+1,_,iN,P++[B e.2.1],pJ,N,a3,bd,by rw[aS];simp;omega,fU (A:=[_])<|be.over G⟩
end
section
variable{S:C Nat}{ay:Nat->Prop}
def WJ(hw:Wf H)(h:vI ay H A q)(ho:A.Ok):bQ Pg X 132 [q.v A] H (Q1 (λv Q=>Lg H.bU 100000 (Ua A.nr) A.nr Q v) H):=by
 have G:=h_ hw;have JF:=ho.few;refine lq [0,1,2,3,4,5,16,17] ?_;refine G.box O λH1 E G=>?_;rw[lN]at G;refine G.uL 0 O (ax 6) ?_;refine G.cm (vJ G.wf (h.ex G.ext) ho) ?_;rintro v H2 rfl M G;refine bM ?_;refine iI (λhb=>by cases hb) λ_=>?_;refine G.ld 0 (o:=0) O O ?_;refine bM ?_;refine G.mkS (ax _) N λH4 K G=>?_;rw[mK]at G;refine G.jP λH5 Y G=>G.kE λHn G=>?_;refine fJ ?_;have G:SH [] H Hn [(K,22,aY A.nr<|u T 0 0),(Y,124,[u (Z ⟨K,0,T⟩) A.nr A.nr]),(E,27,q.cells A)]:=G.perm<|gX _ _ _;refine lp2 5 17 (h1:=λm x5 Cc Q=>∃(i:Nat)(vs:C D)(az:C eB),Cc=B i/\i+m=A.nr/\J vs=A.nr/\(∀j,i<=j->j<A.nr->vs[j]?=Z (u T 0 0))/\(∀x∈vs,YO (Ua A.nr) x az)/\SH [] H Q ((K,22,vs)::(Y,124,[u (Z ⟨K,0,T⟩) A.nr A.nr])::(E,27,q.cells A)::az)) ?_ A.nr ⟨0,_,[],rfl,N,kg ..,λj _ hj=>by rw[l6,jj hj],λx M=>by rw[qp M];exact .inl ⟨0,O⟩,G⟩;clear G;rintro m x5 Cc oW H6 ⟨i,vs,az,rfl,ab,w,d,hq,G⟩;refine lX (λhc=>?_) λhc=>?_
 .refine tl ?_;refine G.qF<|rr ?_;exact⟨⟨_,_,vs,O,jJ.one G (aL ..) N<|G.yV<|aL ..,λx M=>(hq x M).nums G λe he=>by simp[he]⟩,G.ext⟩
 have hi:i<A.nr:=N;show bQ Pg X 158 [B i,pt E,pt Y] H6 _;refine dD (Us h ho hi w (d i (ax _) hi) G) ?_;rintro _ H7 ⟨v,gb,hv,G⟩;refine eG ?_;refine⟨A.nr-(i+1),N,_,_,_,_,O,i+1,vs.set i v,gb++az,pJ,N,by rw[bR];exact w,λj I W=>?_,λx V=>?_,G⟩
 .rw[List.getElem?_set_ne N];exact d j N W
 .rcases iX V with g|rfl
  .exact(hq x g).imp_right λ⟨r,n,c,f,j,P,U,g3⟩=>⟨r,n,c,f,j,P,dL _ U,g3⟩
  .exact hv.imp_right λ⟨r,n,c,f,j,P,U,g3⟩=>⟨r,n,c,f,j,P,dK _ U,g3⟩
def index_spec{bs:C Bool}(U:Wf H)(T:J bs<=1000000)(I:jJ ay 4 H a (J bs) 1<|bs.map aR):bQ Pg X 156 [u a (J bs) c,aR F] H (Q0 (λv=>∃z:Int,v=vi z) H):=by
 refine GY [0,1,4,5,7,8] ?_;refine Ik 4 5 8 (h1:=λm M P w Q=>∃i:Nat,w=B i/\i+m=J bs/\Q=H) ?_ (J bs) ⟨0,rfl,N,rfl⟩;rintro m M P w V H1 ⟨i,rfl,K,rfl⟩;refine lX (λE=>?_) λE=>?_
 .refine tl<|rr ?_;exact⟨⟨_,O⟩,O⟩
 have d:i<J bs:=N;refine I.ix d (v:=aR bs[i]) (by rw[bK,av d];rfl) λp=>?_;refine dA (v:=aR bs[i]) (by cases bs[i]<;>kernel_rfl) ?_;refine sD (λ_=>?_) λ_=>?_
 .refine rr ?_;exact⟨⟨_,O⟩,O⟩
 .refine eG ?_;exact⟨J bs-(i+1),N,_,_,_,_,_,O,i+1,pJ,N,O⟩
theorem WK(w:Wf H)(B:n<=1000)(h:Lg b 100000 (Ua n) n H v):bQ Pg X 131 [v] H (Q1 (λv _=>∃z:Int,v=vi z) H):=by
 refine lq [0,2] ?_;refine dD (Ks w B N ⟨b,h⟩) ?_;rintro _ H1 ⟨⟨a,c,K,rfl,d,m⟩,M⟩;rw[<-d]at m|-;have G:=(h_ w).call M;refine dD (index_spec (ay:=(H.bU<=·)) G.wf N m) ?_;rintro _ I ⟨E,rfl⟩;refine rr ?_;exact⟨E,M⟩
def aaC(w:Wf H)(h:vI ay H A q)(ho:A.Ok):bQ Pg X 98 [q.v A] H (Q1 (λv _=>∃z:Int,v=vi z) H):=by
 have G:=h_ w;refine lq [0,1,2] ?_;refine G.box O λH1 E G=>?_;rw[lN]at G;refine G.uL 0 O (ax 6) ?_;refine G.cm (vJ G.wf (h.ex G.ext) ho) ?_;rintro v I rfl M G;refine bM ?_;refine iI (λm=>by cases m) λ_=>?_;refine G.uL 0 O (ax 6) ?_;refine G.cm (WJ G.wf (h.ex G.ext) ho) ?_;rintro v K d M G;refine G.cm (WK G.wf ho.few d) ?_;rintro v N B M G;refine rr ?_;exact⟨B,G.ext⟩
end
section
variable{S:C Nat}{ay:Nat->Prop}
def aoA(A:At)(H:R)(v:D):Prop:=∀(Q:R)(s:Nat)(e:Ed),Ext H Q->Wf Q->e∈A.rg s->qh Pg X (Ou v) [dP ⟨[B e.1,B e.2.1,B e.2.2]⟩] Q (Q1 (λv _=>∃b:Bool,v=aR b) Q)
def aaD{d:Nat}{l:C Bool}(h:H.cell d 0=Z v)(m:d<H.bU)(hl:Bs b H A.nr v l)(ho:A.Ok):aoA A H (.func (.func 128) ⟨[]⟩ ⟨[pt d]⟩):=by
 intro Q s e M K I;have hl:=hl.ex M;have h:Q.cell d 0=Z v:=(nU (M.obj d m gD) 0).trans h;have m:=aO m M.bU;show bQ Pg X 128 [_,pt d] Q _;have G:=h_ K;refine lq [0,1,2,3] ?_;refine G.box O λH1 P G=>?_;have G:SH [] Q H1 [(P,121,[B e.1,B e.2.1,B e.2.2])]:=G;refine yz (λE=>?_) λE=>?_
 .refine rr ?_;exact⟨⟨F,O⟩,G.ext⟩
 refine yz (λw=>?_) λw=>?_
 .refine G.CO h m<|G.qF ?_;obtain⟨T,U,rfl,_⟩:=id hl;refine(hl.ex G.ext).at (ho.call I N) λp t V=>rr ?_;exact⟨⟨t,O⟩,G.ext⟩
 .refine rr ?_;exact⟨⟨aA,O⟩,G.ext⟩
def ad5(z:Int):bQ Pg X 130 [vi z] H (Q0 (λv=>∃b,v=aR b) H):=by
 refine GY [0,2] ?_;refine rr ?_;exact⟨⟨_,O⟩,O⟩
def Ut(U:J zs<=1000000)(K:jJ ay 3 H a (J zs) 1<|zs.map vi):bQ Pg X 129 [u a (J zs) c,.func (.func 130) ⟨[]⟩ ⟨[]⟩] H (Q0 (λv=>∃z:Int,v=vi z) H):=by
 refine GY [0,1,4,5,7,8] ?_;refine Ik 4 5 8 (h1:=λm P T w Q=>∃i:Nat,w=B i/\i+m=J zs/\Q=H) ?_ (J zs) ⟨0,rfl,N,rfl⟩;rintro m P T w V H1 ⟨i,rfl,M,rfl⟩;refine lX (λI=>?_) λI=>?_
 .refine tl<|rr ?_;exact⟨⟨_,O⟩,O⟩
 have d:i<J zs:=N;refine K.ix d (jX _<|av d) λp=>?_;show bQ Pg X 130 [vi zs[i]] H1 _;refine dD (ad5 _) ?_;rintro _ _ ⟨⟨b,rfl⟩,rfl⟩;refine sD (λE=>?_) λE=>?_
 .refine rr ?_;exact⟨⟨_,O⟩,O⟩
 .refine eG ?_;exact⟨J zs-(i+1),N,_,_,_,_,_,O,i+1,pJ,N,O⟩
def Rz{v:Int}:(l.map vi).set k (vi v)=(l.set k v).map vi:=gz.symm
def Btw(a b:Int)(l:C Int):Prop:=∀z∈l,a<=z/\z<=b
def Btw.wk{a b a' b':Int}(h:Btw a b l)(I:a'<=a)(W:b<=b'):Btw a' b' l:=λz d=>⟨wW I (h z d).1,wW (h z d).2 W⟩
def Btw.set{a b z:Int}(h:Btw a b l)(I:a<=z)(W:z<=b):Btw a b (l.set k z):=λy d=>by
 rcases iX d with g|rfl
 .exact h y g
 .exact⟨I,W⟩
def pos(l:C Int):Nat:=l.countP λz=>decide<|0<z
def ajR(l:C Int):pos l<=J l:=List.countP_le_length
def agN(h:k<J l)(z:Int):pos (l.set k z)+(if 0<l[k]then 1 else 0)=pos l+(if 0<z then 1 else 0):=by
 unfold pos;rw[List.countP_set h]
 have:(if 0<l[k]then 1 else 0)<=l.countP λz=>decide (0<z):=by
  split
  .next g=>exact List.countP_pos_iff.2 ⟨_,bH h,nZ g⟩
  .exact bD _
 simp only[nS];omega
theorem JH(hw:Wf H)(h:vI ay H A q)(ho:A.Ok):bQ Pg X 97 [q.v A] H (Q1 (λv _=>∃z:Int,v=vi z) H):=by
 have G:=h_ hw;have bd:=ho.big;have JF:=ho.few;refine lq [0,1,2,3,4,5,7,9,10,11,12,13,14,16,27,28,29,33,34,35,55,56,57,107,108,109] ?_;refine G.box O λH1 E G=>?_;rw[lN]at G;refine G.uL 0 O (ax 6) ?_;refine G.cm (vJ G.wf (h.ex G.ext) ho) ?_;rintro v H2 rfl M G;refine bM ?_;refine iI (λhb=>by cases hb) λ_=>?_;refine G.uL 0 O (ax 6) ?_;refine G.cm (GH G.wf (h.ex G.ext) ho) ?_;rintro v H4 ⟨l,hl,_⟩ M G;obtain⟨ea,ec,rfl,_⟩:=id hl;refine G.ns O O O λH5 re G bi=>?_;have Y:SH [] H H5 [(re,34,[u ea A.nr ec]),(E,27,q.cells A)]:=G;have ac:E<H5.bU:=(Y.lo _<|aV (i:=1) O).2;have a8:=aaD ((Y.get 0 O).cell O) (Y.lo _<|aV (i:=0) O).2 (hl.ex bi) ho;have cS:∀{k v},(q.cells A)[k]?=Z v->H5.cell E k=Z v:=λhv=>(Y.get 1 O).cell hv;have cN:H5.read E 0 6=Z (q.cells A):=(Y.get 1 O).read<|ax 6;have hA:vI ay H5 A q:=h.ex Y.ext;have a2:=Y.ext;have Yw:=Y.wf;clear G M hl Y;have G:=h_ Yw;refine G.BU (o:=0) (n:=6) (vs:=q.cells A) cN ac<|dD (vU G.wf q A) ?_;rintro v H6 ⟨rfl,M⟩;have G:=G.call M;refine G.mkS (ax _) N λH7 di G=>?_;rw[mK]at G;refine G.CO (cS (k:=4) O) ac ?_;refine bM ?_;have hz:∀n,aY n (bq bC 0)=(aY n 0:C Int).map vi:=λn=>jL.symm;have b0:∀n,Btw 0 0 (aY n 0):=λn z h=>by rw[qp h];omega
 rw[hz]at G;refine iG.yD λK hK=>lp6 7 9 29 33 34 35 (h1:=λm x7 x9 a9 CP bl FO Q=>∃(i:Nat)(zs:C Int),a9=B i/\i+m=A.ns/\J zs=A.ns/\Btw 0 (A.pre i) zs/\SH [] H5 Q [(di,3,zs.map vi)]) ?_ A.ns ⟨0,_,rfl,N,kg ..,(b0 _).wk N N,G⟩;clear G;rintro m x7 x9 a9 CP bl FO oW H8 ⟨i,zs,rfl,bf,I,d,G⟩;refine lX (λhc=>?_) λhc=>?_
 .subst hK;refine bM ?_;have bz:=At.AZ ho i;replace d:=d.wk (lY 0) (show(A.pre i:Int)<=100000 by omega);refine tp ?_;refine G.CO (cS (k:=0) O) ac ?_;refine bM ?_;refine G.mkS (ax _) N λH9 dl G=>?_;rw[mK,hz]at G;refine PO 11 12 13 57 (h1:=λm je mP ko ba Q=>∃(i:Nat)(gb:C eB)(W:C Int)(nx:C Nat),ba=B i/\i+m=A.ns/\J W=A.nr/\Btw 0 i W/\(∀s∈nx,s<A.ns)/\J nx<=i/\GB 3 1 je (gq nx) gb/\SH [] H5 Q ((dl,3,W.map vi)::(di,3,zs.map vi)::gb)) ?_ A.ns ⟨0,[],_,[],rfl,N,kg ..,b0 _,nofun,ax _,GB.nil _ _,G⟩;clear G;rintro m je mP ko ba bp CF ⟨i,gb,W,nx,rfl,bf,U,P,V,bx,hg,G⟩;refine lX (λhc=>?_) λhc=>?_
  .have b3:=ajR zs;refine tl ?_;refine lp6 11 14 16 107 108 109 (h1:=λm je vH rP a0 bc am Q=>∃(ai:Nat)(gb:C eB)(W zs:C Int)(nx:C Nat),ai+m<=8000/\pos zs+J nx<=m/\J W=A.nr/\Btw (-ai) 4000 W/\J zs=A.ns/\Btw (-(ai*100000:Nat)) 100000 zs/\(∀s∈nx,s<A.ns)/\GB 3 1 je (gq nx) gb/\SH [] H5 Q ((dl,3,W.map vi)::(di,3,zs.map vi)::gb)) ?_ (pos zs+J nx) ⟨0,gb,W,zs,nx,N,ax _,U,P.wk N N,I,d.wk N N,V,hg,G⟩;clear G hg V P U d I;rintro m je vH rP a0 bc am br Ry ⟨ai,gb,W,zs,nx,b2,hm,U,P,I,d,V,hg,G⟩;refine tl ?_
   have a5:bQ Pg X 129 [u (Z ⟨dl,0,T⟩) A.nr A.nr,.func (.func 130) ⟨[]⟩ ⟨[]⟩] Ry (Q0 (λv=>∃z:Int,v=vi z) Ry):=by
    have:=jJ.one (ay:=λ_=>True) G (aL ..) (show _=A.nr*1 by rw[aK,U,dN]) trivial;rw[<-U]at this|-;exact Ut N this
   rcases hg with⟨rfl,hn,rfl⟩|⟨r,n,eY,rfl,hn,rfl⟩
   .refine bM ?_;refine aW (λhc=>N) λ_=>?_;refine tl<|dD a5 ?_;rintro v Q ⟨hv,rfl⟩;refine rr ?_;exact⟨hv,a2.trans G.ext⟩
   have hn:J nx=n:=nZ hn;subst hn;refine MO (λhc=>?_) λhc=>?_
   .refine tl<|dD a5 ?_;rintro v Q ⟨hv,rfl⟩;refine rr ?_;exact⟨hv,a2.trans G.ext⟩
   obtain⟨Bf,cur,rfl⟩:∃a b,nx=a++[b]:=⟨nx.dropLast,nx.getLast (λe=>by subst e;simp at hc),(oJ _).symm⟩;have ap:J (Bf++[cur])=J Bf+1:=gD;rw[ap]at hm|-;have KX:cur<A.ns:=V cur gD;refine q_ ?_;rw[show((J Bf+1:Nat):Int)-1=(J Bf:Nat) by omega];refine G.ix (v:=B cur) N gD λp=>?_;refine q_ ?_;rw[show((J Bf+1:Nat):Int)-1=(J Bf:Nat) by omega];refine dA (BV N)<|G.CO (cS (k:=3) O) ac<|(hA.ex G.ext).CO KX λp=>?_;have a6:=ho.o cur KX;have ar:=P _<|bH (show A.aj cur<J W by omega);refine G.ix a6 (jX _<|av N) λp=>?_;refine q_ ?_;refine G.Ya a6 (by rw[aK];omega) (kk:=λp Uq G=>?_);rw[Rz]at G;replace P:=(P.wk (a':=-((ai+1:Nat):Int)) N<|lY _).set (k:=A.aj cur) (z:=W[A.aj cur]-1) N N;replace U:J (W.set (A.aj cur)<|W[A.aj cur]-1)=A.nr:=by rw[bR];exact U
   generalize W.set (A.aj cur) (W[A.aj cur]-1)=ys' at P U G;clear ar;have G:SH [] H5 Uq ((dl,3,ys'.map vi)::(di,3,zs.map vi)::[(r,3,gq (Bf++[cur])++eY)]):=G;refine G.CO (cS (k:=4) O) ac<|hA.ldE G.ext KX λp fa fc hE=>?_;refine bM ?_;have hg:GB 3 1 (u (Z ⟨r,0,T⟩) (J Bf)<|gQ 1) (gq Bf) [(r,3,gq (Bf++[cur])++eY)]:=.inr ⟨r,_,B cur::eY,O,gD,gD⟩;have bw:=ho.len cur;refine Ik 11 16 109 (h1:=λm' je rP am Q=>∃(k:Nat)(gb:C eB)(zs:C Int)(nx:C Nat),am=B k/\k+m'=J (A.rg cur)/\pos zs+J nx+1<=m/\J zs=A.ns/\Btw (-((ai*100000+k:Nat):Int)) 100000 zs/\(∀s∈nx,s<A.ns)/\GB 3 1 je (gq nx) gb/\SH [] H5 Q ((di,3,zs.map vi)::(dl,3,ys'.map vi)::gb)) ?_ (J<|A.rg cur) ⟨0,_,zs,Bf,rfl,N,N,I,d.wk N<|lY _,λs hs=>V s<|by simp[hs],hg,G.perm<|gX _ _ _⟩;clear G hg d I V hm;rintro m' b4 b5 bt bv bb ⟨k,gb,zs,nx,rfl,bg,hm,I,d,V,hg,G⟩;refine lX (λad=>?_) λad=>?_
   .exact⟨pos zs+J nx,N,_,_,_,_,_,_,_,_,O,ai+1,gb,ys',zs,nx,N,ax _,U,P,I,d.wk N<|lY _,V,hg,G.perm<|gX _ _ _⟩
   have al:k<J (A.rg cur):=N;refine KV (hE.ex G.ext) al λp=>?_;have ab:=bH al;have⟨g1,_,_⟩:=ho.e cur KX _ ab;generalize(A.rg cur)[k]=e at ab g1|-;have UN:=d _<|bH (show e.2.2<J zs by omega);have aq:=agN (show e.2.2<J zs by omega)<|zs[e.2.2]-1;refine G.ns O O O λa1 aE G _=>?_;have G:SH [] H5 a1 ((aE,121,[B e.1,B e.2.1,B e.2.2])::(di,3,zs.map vi)::(dl,3,ys'.map vi)::gb):=G;refine G.uL 0 O (ax 3) ?_;refine qh.mono (a8 a1 cur e G.ext G.wf ab) ?_;rintro v bm ⟨⟨b,rfl⟩,Kt⟩;have G:=G.call Kt;refine sD (λan=>?_) λan=>?_
   .refine eG ?_;exact⟨J (A.rg cur)-(k+1),N,_,_,_,_,_,O,k+1,gb,zs,nx,pJ,N,hm,I,d.wk N<|lY _,V,hg,fU (A:=[_]) G⟩
   refine G.ld 0 (o:=2) O O<|G.ix g1 (jX _<|av N) λp=>?_;refine q_ ?_;refine G.Ya g1 (by rw[aK];omega) (kk:=λp bn G=>?_);rw[Rz]at G;have a3:=(d.wk (a':=-((ai*100000+(k+1):Nat):Int)) N<|lY _).set (k:=e.2.2) (z:=zs[e.2.2]-1) N N;have a4:J (zs.set e.2.2<|zs[e.2.2]-1)=A.ns:=by rw[bR];exact I
   have bj:(zs.set e.2.2<|zs[e.2.2]-1)[e.2.2]?=Z (zs[e.2.2]-1):=by rw[dU,jj O,jj N]
   refine G.ld 0 (o:=2) O O<|G.ix g1 (jX _ bj) λp=>?_;refine tO (λbe=>?_) λbe=>?_
   .rw[jj N,jk N]at aq;refine G.ld 0 (o:=2) O O<|hg.push (G.perm<|aI (l₁:=[_,_,_]) (l₂:=gb)) N O O O O O N (by rw[aK];omega) λw v' bo iN ao G=>?_;have G:=G.perm<|aI (l₂:=[_,_,_]) (l₁:=iN);refine eG ?_;refine⟨J (A.rg cur)-(k+1),N,_,_,_,_,_,O,k+1,iN,_,nx++[e.2.2],pJ,N,by rw[aS];simp;omega,a4,a3,λs hs=>?_,?_,fU (A:=[_]) G⟩
    .rcases cK.1 hs with hs|hs
     .exact V s hs
     .rw[aT]at hs;subst hs;exact g1
    .have e2:gq (nx++[e.2.2])=gq nx++[B e.2.2]:=gD;rw[e2];exact ao
   .refine eG ?_;refine⟨J (A.rg cur)-(k+1),N,_,_,_,_,_,O,k+1,gb,_,nx,pJ,N,?_,a4,a3,V,hg,fU (A:=[_]) G⟩;split at aq<;>split at aq<;>omega
  have hi:i<A.ns:=N;refine G.ix hi (jX _<|av N) λp=>?_;refine bM ?_;refine G.CO (cS (k:=3) O) ac<|(hA.ex G.ext).CO hi λp=>?_;have a7:=ho.o i hi;have ar:=P _<|bH (show A.aj i<J W by omega);refine G.ix a7 (jX _<|av N) λp=>?_;refine eG ?_;refine G.Ya a7 (by rw[aK];omega) (kk:=λp Uq G=>?_);rw[Rz]at G;replace P:=(P.wk (b':=((i+1:Nat):Int)) (lY _) N).set (k:=A.aj i) (z:=W[A.aj i]+1) N N;replace U:J (W.set (A.aj i)<|W[A.aj i]+1)=A.nr:=by rw[bR];exact U
  generalize W.set (A.aj i) (W[A.aj i]+1)=ys' at P U G;clear ar;refine aW (λad=>?_) λad=>?_
  .refine hg.push (G.perm<|aI (l₁:=[_,_]) (l₂:=gb)) N O O O O O N (by rw[aK];omega) λw v' bb iN ao G=>?_;have G:=G.perm<|aI (l₂:=[_,_]) (l₁:=iN);refine eG ?_;refine⟨A.ns-(i+1),N,_,_,_,_,_,_,O,i+1,iN,ys',nx++[i],pJ,N,U,P,λs hs=>?_,by rw[aS];simp;omega,?_,G⟩
   .rcases cK.1 hs with hs|hs
    .exact V s hs
    .rw[aT]at hs;omega
   .have e:gq (nx++[i])=gq nx++[B i]:=gD;rw[e];exact ao
  .refine eG ?_;exact⟨A.ns-(i+1),N,_,_,_,_,_,_,O,i+1,gb,ys',nx,pJ,N,U,P,V,N,hg,G⟩
 have hi:i<A.ns:=N;refine hA.ldE G.ext hi λp fa fc hE=>?_;refine bM ?_;have bh:=At.yt ho hi;have b1:=At.AZ ho<|i+1;refine lp2 9 35 (h1:=λm x9 FO Q=>∃(k:Nat)(zs:C Int),FO=B k/\k+m=J (A.rg i)/\J zs=A.ns/\Btw 0 ((A.pre i+k:Nat):Int) zs/\SH [] H5 Q [(di,3,zs.map vi)]) ?_ (J<|A.rg i) ⟨0,zs,rfl,N,I,d,G⟩;clear G I d;rintro m' x9 FO OJ H9 ⟨k,zs,rfl,bg,I,d,G⟩;refine lX (λad=>?_) λad=>?_
 .refine tl ?_;refine eG ?_;subst hK;exact⟨A.ns-(i+1),N,_,_,_,_,_,_,_,_,O,i+1,zs,pJ,N,I,d.wk (lY _) N,G⟩
 have al:k<J (A.rg i):=N;refine KV (hE.ex G.ext) al λp=>?_;have ab:=bH al;have YC:=ho.len i;have⟨g1,_,_⟩:=ho.e i hi _ ab;generalize(A.rg i)[k]=e at ab g1|-;have UN:=d _<|bH (show e.2.2<J zs by omega);refine G.ns O O O λCF aE G _=>?_;have G:SH [] H5 CF [(aE,121,[B e.1,B e.2.1,B e.2.2]),(di,3,zs.map vi)]:=G;refine G.uL 0 O (ax 3) ?_;refine qh.mono (a8 CF i e G.ext G.wf ab) ?_;rintro v Ry ⟨⟨b,rfl⟩,Kt⟩;have G:=G.call Kt;refine sD (λan=>?_) λan=>?_
 .refine G.ld 0 (o:=2) O O<|G.ix g1 (jX _<|av N) λp=>?_;refine eG ?_;refine G.Ya g1 (by rw[aK];omega) (kk:=λp Uq G=>?_);have G:=fU (A:=[_]) G;rw[Rz]at G;refine eG ?_;exact⟨J (A.rg i)-(k+1),N,_,_,_,_,O,k+1,_,pJ,N,by rw[bR];exact I,(d.wk (lY _) N).set N N,G⟩
 .refine eG ?_;exact⟨J (A.rg i)-(k+1),N,_,_,_,_,O,k+1,zs,pJ,N,I,d.wk (lY _) N,fU (A:=[_]) G⟩
end
section
variable{S:C Nat}{ay:Nat->Prop}
def Use(A:At)(b:Nat)(H:R)(x:D):Prop:=∃q':AV,x=q'.v A/\vI (b<=·) H A q'
def NC(hw:Wf H)(h:vI ay H A q)(ho:A.Ok):bQ Pg X 69 [q.v A] H (Qe (λv Q=>∃(x:D)(m z:Int),v=fO ⟨[x,vi m,vi z]⟩/\J (bY x)=6/\all' fZ (bY x)=F/\(m=0->Use A.trim H.bU Q x)) H):=by
 have G:=h_ hw;have K:=At.Li ho;refine lq [0,1,2,3,4,5,6,7] ?_;refine G.box O λH1 E G=>?_;rw[lN]at G;refine G.jP λH2 ro G=>G.uL 1 O (ax 6) ?_;refine G.cm (vJ G.wf (h.ex G.ext) ho) ?_;rintro v H3 rfl M G;refine bM ?_;refine iI (λP=>by cases P) λ_=>?_;refine G.uL 1 O (ax 6) ?_;refine G.cm (aar G.wf (h.ex G.ext) ho) ?_;rintro v H4 ⟨l,hl,ab⟩ M G;obtain⟨ea,ec,rfl,_⟩:=id hl;refine hl.at ho.pos λp t ht=>?_;refine G.lJ ?_;refine iI (λP=>?_) λP=>?_
 .refine PU.b6 O<|G.kE λN G=>rr ?_;apply G.jC;exact⟨⟨_,_,_,O,O,O,λh=>absurd h jq⟩,G.ext⟩
 refine G.uL 1 O (ax 6) ?_;refine dD (P7 G.wf (h.ex G.ext) ho) ?_;rintro v H5 ⟨⟨q',rfl,d⟩,M⟩;have U:=G.ext.bU;have W:=(G.lo _<|aV (i:=0) O).2;have V:=(G.lo _<|aV (i:=1) O).2;have G:=G.call M;refine G.ns O O O λH6 rt G Y=>?_;have G:SH [] H H6 [(rt,27,q'.cells A.trim),(ro,27,[u T 0 0,u T 0 0,u T 0 0,u T 0 0,u T 0 0,vi 0]),(E,27,q.cells A)]:=G;have d:=d.ex Y;refine G.uL 0 O (ax 6) ?_;refine G.cm (JH G.wf d K) ?_;rintro _ H7 ⟨z,rfl⟩ M G;have d:=d.ex M;refine yx (λI=>?_) λI=>?_
 .refine PU.b6 O<|G.kE λN G=>rr ?_;apply G.jC;exact⟨⟨_,_,_,O,O,O,λh=>absurd h jq⟩,G.ext⟩
 subst I;refine G.uL 0 O (ax 6) ?_;refine G.cm (aaC G.wf d K) ?_;rintro _ H8 ⟨z,rfl⟩ M G;have d:=d.ex M;refine yx (λI=>?_) λI=>?_
 .refine PU.b6 O<|G.kE λN G=>rr ?_;apply G.jC;exact⟨⟨_,_,_,O,O,O,λh=>absurd h jq⟩,G.ext⟩
 subst I;refine G.uL 0 O (ax 6) ?_;have B:=fU (A:=[_]) G;have G:=B.base;refine G.kE λN G=>rr ?_
 exact G.jC<|⟨⟨_,_,_,O,O,O,λ_=>⟨q',rfl,(d.stay G.ext λr w=>by
  have w:r∈[ro,E]:=w;simp at w;rcases w with rfl|rfl
  .exact fH W
  .exact fH V).wk λr w=>aQ U w⟩⟩,(B.over G).ext⟩
abbrev agO:C D:=[u T 0 0,u T 0 0,u T 0 0,u T 0 0,u T 0 0,vi 0]
def WL(B:Wf H)(h:vI ay H A q)(ho:A.Ok):bQ Pg X 51 [q.v A] H (Q1 (λv _=>∃d z:Int,v=fO ⟨[vi d,vi z]⟩) H):=by
 have G:=h_ B;refine lq [0,1,2,3,5,6] ?_;refine G.box O λH1 E G=>?_;rw[lN]at G;refine G.uL 0 O (ax 6) ?_;refine G.cm (NC G.wf (h.ex G.ext) ho) ?_;rintro v K ⟨x,d,z,rfl,m,w,_⟩ M G;refine bM ?_;refine G.ns m O w λN P G I=>rr ?_;exact⟨⟨_,_,O⟩,G.ext⟩
def At.ad6(h:A.Ok):A.trim.tot<=A.tot:=At.adM (λi d=>by
 classical
 have:A.rg i=A.eg[i]:=by unfold At.rg;rw[av d];rfl
 unfold At.Nu;split
 .rw[this];exact m_ _ _
 .exact bD _) (rM h.Be.symm)
def amG(H:R)(v:D)(Q:R):Prop:=∃(x:D)(ok:Int),v=fO ⟨[x,vi ok]⟩/\(ok=0->x=dP ⟨agO⟩)/\(ok≠0->∃A,At.Ok A/\A.ns<=300/\A.ty<=5000/\A.tot<=2*A.ns/\A.trim=A/\Use A H.bU Q x)
def Uu(hw:Wf H)(hT:Dr H)(s:aZ):bQ Pg X 42 [aJ s] H (Q1 (amG H) H):=by
 have G:=h_ hw;refine lq [0,2,3,4,5,6,7] ?_;refine G.jP λH1 ro G=>?_;refine dD (aax G.wf (hT.ex G.ext) s) ?_;rintro v H2 ⟨⟨x,ok,rfl,N,P,d⟩,M⟩;have al:=G.ext.bU;have am:=(G.lo _<|aV (i:=0) O).2;have G:=G.call M;refine bM ?_;refine G.ns N O P λH3 ra G Y=>?_;refine aW (λhc=>?_) λhc=>?_
 .refine PU.b6 O<|G.kE λK G=>rr ?_;exact G.jC<|⟨⟨_,_,O,λ_=>rfl,λh=>absurd O h⟩,G.ext⟩
 obtain⟨A,q,rfl,d,I,ad,W,UR⟩:=d hc;have d:=d.ex Y;refine G.uL 0 O (ax 6)<|dD (vU G.wf q A) ?_;rintro v H4 ⟨rfl,M⟩;have G:=G.call M;have d:=d.ex M;refine tO (λV=>?_) λV=>?_
 .refine PU.b6 O<|G.kE λK G=>rr ?_;exact G.jC<|⟨⟨_,_,O,λ_=>rfl,λh=>absurd O h⟩,G.ext⟩
 refine tl<|G.uL 0 O (ax 6)<|dD (NC G.wf d I) ?_;rintro v H5 ⟨⟨x,ab,z,rfl,N,P,hU⟩,M⟩;have E:=G.ext.bU;have T:=(G.lo _<|aV (i:=1) O).2;have G:=G.call M;refine bM ?_;refine G.ns N O P λH6 rt G ac=>fP (λB=>?_) λB=>?_
 .refine PU.b6 O<|G.kE λK G=>rr ?_;exact G.jC<|⟨⟨_,_,O,λ_=>rfl,λh=>absurd O h⟩,G.ext⟩
 obtain⟨q',rfl,U⟩:=hU B;refine G.uL 0 O (ax 6) ?_;have w:=fU (A:=[_,_]) G;have G:=w.base;refine G.kE λK G=>rr ?_;apply G.jC
 exact⟨⟨_,_,O,λh=>absurd h jq,λ_=>⟨A.trim,At.Li I,by show A.ns<=300;omega,W,aQ (At.ad6 I) UR,At.aap I,q',rfl,((U.ex ac).stay G.ext λr m=>by
  have m:r∈[ro]:=m;simp at m;subst m;exact fH T).wk λr m=>aQ E m⟩⟩,(w.over G).ext⟩
end
end Go.Proofs.Lv
namespace Go.Proofs.Lu
variable{n r:Nat}
def IG{m:Nat}{l:C (Nat×Nat)}(h:l.Nodup)(B:∀p∈l,p.1<m/\p.2<n):J l<=m*n:=by
 have W:(l.map λp=>p.1*n+p.2).Nodup:=by
  refine List.pairwise_map.2<|List.Pairwise.imp_of_mem (λ{a b} K E w e=>?_) h;have I:=B _ K;have W:=B _ E;refine w<|Prod.ext ?_ ?_
  .have d:=fq (·/n) e;have O:0<n:=N;simp only[wX _ n,Nat.mul_add_div O,wm I.2,wm W.2]at d;omega
  .have d:=fq (·%n) e;simp only[wX _ n,Nat.mul_add_mod,wu I.2,wu W.2]at d;exact d
 have w:=W.length_le_of_subset (l₂:=dZ<|m*n) λx M=>by
  obtain⟨p,P,rfl⟩:=bP.1 M;have:=B p P;rw[jT]
  calc p.1*n+p.2<p.1*n+n:=N
   _=(p.1+1)*n:=by rw[jR]
   _<=m*n:=fA _ N
 simpa using w
namespace Wk
variable{a i r:Nat}
abbrev Sp:=Nat×Nat
variable{cs:Nat->Sp}
abbrev Sk:=C<|Nat×Nat×C Nat
def mY(s:Sk)(k:Nat):Nat×Nat×C Nat:=s[k-1]?.getD (0,0,[])
def KZ(s:Sk)(r a:Nat):aC Nat:=s.findIdx? λe=>e.1==r&&e.2.1==a
def put(s:Sk)(r a ai:Nat):Sk×Nat×Bool:=
 match KZ s r a with
 |some i=>if ai∈(mY s<|i+1).2.2 then(s,i+1,aA)else(s.set i (r,a,(mY s<|i+1).2.2++[ai]),i+1,F)
 |none=>(s++[(r,a,[ai])],J s+1,F)
structure Rn where
 sk:Sk
 sp:C Sp
 en:C Nat
 ok:Bool
 ht:C (Nat×Sp)
def Rn.meet(x:Rn)(p:Sp):Rn:=if p∈x.sp then x else{x with sp:=x.sp++[p]}
def Rn.back(x:Rn)(p:Sp):Rn:=
 if p.2=0 then{x with ok:=F}else if p.2∈x.en then x
 else(mY x.sk p.2).2.2.foldl (λy ai=>y.meet ((mY x.sk p.2).1,ai)) {x with en:=p.2::x.en}
def Rn.hop(x:Rn)(q:Nat×Bool)(p:Sp):Rn:=if q.1∈x.en/\q.2=F then x.meet p else x
variable(A:At)(a:Nat)
def Rn.along(p:Sp)(x:Rn)(e:Ed):Rn:=
 if e.1=1 then x
 else if e.1=2 then
  ({x with sk:=(put x.sk e.2.2 a p.2).1}.meet (A.S e.2.1,(put x.sk e.2.2 a p.2).2.1)).hop (put x.sk e.2.2 a p.2).2 (e.2.2,p.2)
 else x.meet (e.2.2,p.2)
def Rn.one(x:Rn)(p:Sp):Rn:=(A.rg p.1).foldl (Rn.along A a p) (if p.1∈A.sp then x.back p else x)
def go:Nat->Nat->Rn->Rn
 |0,_,x=>x
 |n+1,i,x=>match x.sp[i]? with
  |none=>x
  |some p=>go n (i+1)<|x.one A a p
def bnd:Nat:=A.ns*(A.ns*(a+1)+1)
def close(s:Sk)(l:C Sp):Rn:=go A a (bnd A a+1) 0<|l.foldl Rn.meet ⟨s,[],[],aA,[]⟩
structure Sk.h2(s:Sk):Prop where
 nd:(s.map λe=>(e.1,e.2.1)).Nodup
 b:∀e∈s,(e.1<A.ns/\e.2.1<=a)/\∀ai∈e.2.2,ai<=J s
 ai:∀e∈s,e.2.2.Nodup
structure Rn.h2(x:Rn):Prop where
 sk:Sk.h2 A a x.sk
 nd:x.sp.Nodup
 b:∀p∈x.sp,p.1<A.ns/\p.2<=J x.sk
variable{A:At}{a:Nat}{x:Rn}{s:Sk}{p:Sp}
def Sk.h2.le(h:Sk.h2 A a s):J s<=A.ns*(a+1):=by
 have:=IG h.nd (m:=A.ns) (n:=a+1) λp w=>by
  obtain⟨e,d,rfl⟩:=bP.1 w;have:=(h.b e d).1;exact⟨this.1,N⟩
 simpa using this
def Sk.h2.few(h:Sk.h2 A a s)(n:Nat):(mY s n).2.2.length<=J s+1:=by
 unfold mY;cases e:s[n-1]? with
 |none=>exact bD _
 |some x=>
  have M:=aV e;have:=(h.ai x M).length_le_of_subset (l₂:=dZ<|J s+1) λai d=>by have:=(h.b x M).2 ai d;rw[jT];omega
  simpa using this
def Rn.h2.le(h:x.h2 A a):J x.sp<=bnd A a:=by
 have I:=IG h.nd (m:=A.ns) (n:=J x.sk+1) λp d=>⟨(h.b p d).1,by have:=(h.b p d).2;omega⟩;exact aQ I<|gM _ (by have:=h.sk.le;omega)
def Rn.h2.meet(h:x.h2 A a)(I:p.1<A.ns)(W:p.2<=J x.sk):(x.meet p).h2 A a:=by
 unfold Rn.meet;split
 .exact h
 .next m=>
  refine⟨h.sk,?_,λq hq=>?_⟩
  .refine l8.2 ⟨h.nd,gD,λq hq r d e=>?_⟩;rw[aT]at d;exact m<|d▸e▸hq
  .rcases cK.1 hq with hq|hq
   .exact h.b q hq
   .rw[aT]at hq;subst hq;exact⟨I,W⟩
def Rn.pU:(x.meet p).sk=x.sk:=by unfold Rn.meet;split<;>rfl
def Rn.h2.meets(l:C Nat):∀y:Rn,y.h2 A a->(∀ai∈l,(cs ai).1<A.ns/\(cs ai).2<=J y.sk)->(l.foldl (λy ai=>y.meet<|cs ai) y).h2 A a:=by
 induction l with
 |nil=>exactλy h _=>h
 |cons ai l m=>exactλy h d=>m _ (h.meet (d ai gD).1 (d ai gD).2) λv hv=>by rw[Rn.pU];exact d v (by simp[hv])
def II(h:KZ s r a=Z i):i<J s/\(mY s<|i+1).1=r/\(mY s<|i+1).2.1=a/\mY s (i+1)∈s:=by
 unfold KZ at h;rw[List.findIdx?_eq_some_iff_getElem]at h;have⟨I,W,_⟩:=h;have e:mY s (i+1)=s[i]:=by unfold mY;rw[jl,av I];rfl
 rw[e];simp at W;exact⟨I,W.1,W.2,bH I⟩
def air(h:Sk.h2 A a s){ai:Nat}(B:r<A.ns)(O:ai<=J s):Sk.h2 A a (put s r a ai).1/\(put s r a ai).2.1<=(put s r a ai).1.length/\J s<=(put s r a ai).1.length:=by
 unfold put;split
 .next i d=>
  have⟨I,W,h3,h4⟩:=II d;split
  .exact⟨h,I,ax _⟩
  .next m=>
   refine⟨⟨?_,λe he=>?_,λe he=>?_⟩,by rw[bR];exact I,by rw[bR];exact ax _⟩
   .have:(s.set i (r,a,(mY s<|i+1).2.2++[ai])).map (λe=>(e.1,e.2.1))=s.map λe=>(e.1,e.2.1):=by
     rw[gz];refine iV λj=>?_;rw[dU];split
     .next K=>
      subst K;have e:mY s (i+1)=s[i]:=by unfold mY;rw[jl,av I];rfl
      rw[e]at W h3;simp[I,W,h3]
     .rfl
    rw[this];exact h.nd
   .rw[bR];rcases iX he with he|rfl
    .exact h.b e he
    .refine⟨⟨B,ax _⟩,λv hv=>?_⟩;rcases cK.1 hv with hv|hv
     .exact(h.b _ h4).2 v hv
     .rw[aT]at hv;omega
   .rcases iX he with he|rfl
    .exact h.ai e he
    .exact l8.2 ⟨h.ai _ h4,gD,λv hv w E e=>m (by rw[aT]at E;subst E;subst e;exact hv)⟩
 .next d=>
  refine⟨⟨?_,λe he=>?_,λe he=>?_⟩,gD,gD⟩
  .rw[dM];refine l8.2 ⟨h.nd,gD,λq M v hv e=>?_⟩;obtain⟨z,N,rfl⟩:=bP.1 M;simp only[i_,kM,aT]at hv;subst hv;unfold KZ at d;rw[uG]at d;have:=d z N;simp at this e;exact this e.1 e.2
  .rw[aS];rcases cK.1 he with he|he
   .exact⟨(h.b e he).1,λv hv=>by have:=(h.b e he).2 v hv;simp;omega⟩
   .rw[aT]at he;subst he;exact⟨⟨B,ax _⟩,λv hv=>by rw[aT]at hv;simp;omega⟩
  .rcases cK.1 he with he|he
   .exact h.ai e he
   .rw[aT]at he;subst he;simp
theorem Rn.h2.back(h:x.h2 A a)(d:p∈x.sp):(x.back p).h2 A a:=by
 unfold Rn.back;split
 .exact⟨h.sk,h.nd,h.b⟩
 split
 .exact h
 .next w _=>
  have B:=(h.b p d).2
  have e:mY x.sk p.2∈x.sk:=by
   unfold mY;rw[av (show p.2-1<J x.sk by omega)];exact bH _
  exact Rn.h2.meets (cs:=λai=>((mY x.sk p.2).1,ai)) _ _ ⟨h.sk,h.nd,h.b⟩ λai m=>⟨(h.sk.b _ e).1.1,(h.sk.b _ e).2 ai m⟩
def Rn.h2.along(ho:A.Ok)(h:x.h2 A a)(w:p.1<A.ns/\p.2<=J x.sk){e:Ed}(d:e∈A.rg p.1):(x.along A a p e).h2 A a/\J x.sk<=(x.along A a p e).sk.length:=by
 have d:=ho.e _ w.1 e d;unfold Rn.along;split
 .exact⟨h,ax _⟩
 split
 .next I W=>
  have K:e.2.1<A.nr:=by rcases d.2.2 with h|h|h<;>omega
  have⟨w1,w2,w3⟩:=air h.sk d.1 w.2;have E:Rn.h2 A a ({x with sk:=(put x.sk e.2.2 a p.2).1}.meet (A.S e.2.1,(put x.sk e.2.2 a p.2).2.1)):=Rn.h2.meet ⟨w1,h.nd,λq B=>⟨(h.b q B).1,aQ (h.b q B).2 w3⟩⟩ (ho.s _ K).1 w2;have m:({x with sk:=(put x.sk e.2.2 a p.2).1}.meet (A.S e.2.1,(put x.sk e.2.2 a p.2).2.1):Rn).sk=(put x.sk e.2.2 a p.2).1:=Rn.pU;unfold Rn.hop;split
  .exact⟨E.meet d.1 (by rw[m];omega),by rw[Rn.pU,m];exact w3⟩
  .exact⟨E,by rw[m];exact w3⟩
 .exact⟨h.meet d.1 w.2,by rw[Rn.pU];exact ax _⟩
def Rn.Uw(l:C Nat):∀y:Rn,(l.foldl (λy ai=>y.meet<|cs ai) y).sk=y.sk:=by
 induction l with
 |nil=>exactλ_=>rfl
 |cons ai l d=>exactλy=>(d _).trans Rn.pU
def Rn.Lm:(x.back p).sk=x.sk:=by
 unfold Rn.back;split
 .rfl
 split
 .rfl
 .exact Rn.Uw _ _
def Rn.h2.EW(ho:A.Ok)(w:p.1<A.ns)(l:C Ed):∀y:Rn,(∀e∈l,e∈A.rg p.1)->y.h2 A a->p.2<=J y.sk->(l.foldl (Rn.along A a p) y).h2 A a/\J y.sk<=(l.foldl (Rn.along A a p) y).sk.length:=by
 induction l with
 |nil=>exactλ_ _ h _=>⟨h,ax _⟩
 |cons e l B=>
  intro y m h W;have⟨w1,w2⟩:=h.along ho ⟨w,W⟩<|m e gD;have⟨w3,w4⟩:=B _ (λd hd=>m d<|by simp[hd]) w1<|aQ W w2;exact⟨w3,aQ w2 w4⟩
def Rn.h2.one(ho:A.Ok)(h:x.h2 A a)(m:p∈x.sp):(x.one A a p).h2 A a:=by
 have d:=h.b p m;unfold Rn.one;split
 .exact(Rn.h2.EW ho d.1 _ _ (λ_ h=>h) (h.back m) (by rw[Rn.Lm];exact d.2)).1
 .exact(Rn.h2.EW ho d.1 _ _ (λ_ h=>h) h d.2).1
def amI(ho:A.Ok):∀n i x,Rn.h2 A a x->(go A a n i x).h2 A a
 |0,_,x,h=>h
 |n+1,i,x,h=>by
  show Rn.h2 A a (match x.sp[i]? with|none=>x|some p=>go A a n (i+1)<|x.one A a p);cases hp:x.sp[i]? with
  |none=>exact h
  |some p=>exact amI ho n (i+1) _<|h.one ho<|aV hp
end Wk
namespace Wk
variable{a b k:Nat}{l:C Sp}{s:Sk}
variable(A:At)
def zZ(l:C Sp)(t:Int):C Sp:=(l.flatMap λp=>((A.rg p.1).filter λe=>e.1==1&&((e.2.1:Nat):Int)==t).map λe=>(e.2.2,p.2)).foldl (λo p=>if p∈o then o else o++[p]) []
def off(l:C Sp)(t:Int):Prop:=∃p∈l,∃e∈A.rg p.1,e.1=1/\((e.2.1:Nat):Int)=t
instance(l:C Sp)(t:Int):Decidable (off A l t):=by unfold off;exact inferInstance
structure ah where
 sk:Sk
 sp:C Sp
 ok:Bool
 long:Nat
 st:Nat
 s0:Sk
 fr:C Sp
def ah.of(x:Rn)(n k:Nat)(s:Sk)(l:C Sp):ah:=⟨x.sk,x.sp,x.ok,n,k+J x.sp,s,l⟩
def ah.new:ah:=.of (close A 0 [] [(A.S 0,0)]) 0 0 [] [(A.S 0,0)]
def ah.on(z:ah)(t:Int):ah:=.of (close A (z.long+1) z.sk<|zZ A z.sp t) (z.long+1) z.st z.sk<|zZ A z.sp t
def ah.feed(z:ah)(t:Int):ah:=if off A z.sp t then z.on A t else z
def ah.all(z:ah)(l:C Int):ah:=l.foldl (ah.feed A) z
def pick:C Int->C Bool->C Int
 |t::l,b::bs=>if b=F then t::pick l bs else pick l bs
 |_,_=>[]
variable{A:At}
def ah.ad8(l:C Int)(t:Int)(z:ah):z.all A (l++[t])=(z.all A l).feed A t:=by unfold ah.all;rw[iW];rfl
structure ah.h2(A:At)(z:ah):Prop where
 sk:Sk.h2 A z.long z.sk
 b:∀p∈z.sp,p.1<A.ns/\p.2<=J z.sk
 le:J z.sp<=bnd A z.long
 st:z.st<=(z.long+1)*bnd A z.long
 c:z.sk=(close A z.long z.s0 z.fr).sk/\z.sp=(close A z.long z.s0 z.fr).sp/\z.ok=(close A z.long z.s0 z.fr).ok
 s0:Sk.h2 A z.long z.s0
 lt:∀e∈z.s0,e.2.1<z.long
 fr:∀p∈z.fr,p.1<A.ns/\p.2<=J z.s0
variable{z:ah}
def Sk.h2.up(h:Sk.h2 A a s)(m:a<=b):Sk.h2 A b s:=⟨h.nd,λe d=>⟨⟨(h.b e d).1.1,aQ (h.b e d).1.2 m⟩,(h.b e d).2⟩,h.ai⟩
def GN(h:a<=b):bnd A a<=bnd A b:=gM _<|wz<|gM _ N
def Dy:∀(l:C Sp)(x:Rn),x.h2 A a->(∀p∈l,p.1<A.ns/\p.2<=J x.sk)->(l.foldl Rn.meet x).h2 A a:=by
 intro l
 induction l with
 |nil=>exactλx h _=>h
 |cons p l w=>exactλx h d=>w _ (h.meet (d p gD).1 (d p gD).2) λq m=>by rw[Rn.pU];exact d q (by simp[m])
def YP(ho:A.Ok)(hs:Sk.h2 A a s)(hl:∀p∈l,p.1<A.ns/\p.2<=J s):(close A a s l).h2 A a:=
 amI ho _ _ _ (Dy l ⟨s,[],[],aA,[]⟩ ⟨hs,jg,nofun⟩ hl)
def YQ{t:Int}{q:Sp}(h:q∈zZ A l t):∃p∈l,∃e∈A.rg p.1,e.1=1/\((e.2.1:Nat):Int)=t/\q=(e.2.2,p.2):=by
 have w:∀(m o:C Sp),q∈m.foldl (λo p=>if p∈o then o else o++[p]) o->q∈m\/q∈o:=by
  intro m
  induction m with
  |nil=>exactλo h=>.inr h
  |cons p m B=>
   intro o h;rcases B _ h with h|h
   .exact .inl (by simp[h])
   .have h:q∈(if p∈o then o else o++[p]):=h;split at h
    .exact .inr h
    .rcases cK.1 h with h|h
     .exact .inr h
     .rw[aT]at h;exact .inl (by simp[h])
 rcases w _ _ h with h|h
 .have⟨p,hp,h⟩:=sZ.1 h;obtain⟨e,d,rfl⟩:=bP.1 h;have d:=List.mem_filter.1 d;simp at d;exact⟨p,hp,e,d.1,d.2.1,d.2.2,O⟩
 .cases h
def ah.amJ(ho:A.Ok)(hs:Sk.h2 A a s)(hl:∀p∈l,p.1<A.ns/\p.2<=J s)(hk:k<=a*bnd A a)(d:∀e∈s,e.2.1<a):ah.h2 A (.of (close A a s l) a k s l):=
 have h:=YP ho hs hl
 ⟨h.sk,h.b,h.le,by
   have:=h.le;show k+_<=(a+1)*bnd A a;rw[jR];omega,⟨rfl,rfl,rfl⟩,hs,d,hl⟩
def ah.amK(ho:A.Ok):ah.h2 A (ah.new A):=ah.amJ ho ⟨jg,(λe h=>by cases h),λe h=>by cases h⟩ (λp h=>by
 rw[aT]at h;subst h;exact⟨(ho.s 0 ho.pos).1,bD _⟩) (bD _) nofun
def ah.h2.nx(ho:A.Ok)(h:ah.h2 A z)(t:Int):∀p∈zZ A z.sp t,p.1<A.ns/\p.2<=J z.sk:=λq w=>by
 obtain⟨p,d,e,m,_,_,rfl⟩:=YQ w;exact⟨(ho.e _ (h.b p d).1 e m).1,(h.b p d).2⟩
def ah.h2.on(ho:A.Ok)(h:ah.h2 A z)(t:Int):ah.h2 A (z.on A t):=
 ah.amJ ho (h.sk.up<|jv _) (h.nx ho t) (aQ h.st<|gM _<|GN<|jv _) λe d=>rX (h.sk.b e d).1.2
def ah.h2.feed(ho:A.Ok)(h:ah.h2 A z)(t:Int):ah.h2 A (z.feed A t):=by
 unfold ah.feed;split
 .exact h.on ho t
 .exact h
end Wk
open Classical in
def At.Em(A:At)(r:Nat):Bool:=decide<|A.Mk aA<|A.S r
def At.ad9{A:At}:A.Em r=F<->A.Mk aA (A.S r):=by unfold At.Em;simp
namespace Wk
variable{g h:Nat×Sp}{v:Nat×Nat×C Nat}{cs:Nat->Sp}{l:C Sp}{a i k:Nat}{r:Sk}{z:Rn}
section
variable(A:At)(hd em:Nat->Bool)(a:Nat)
def scan(h:Nat×Sp):C (Nat×Sp)->Bool
 |[]=>aA
 |g::l=>if g.2=h.2 then(if g=h then F else scan h l)else aA
def Rn.hit(x:Rn)(h:Nat×Sp):Rn:=if scan h x.ht.reverse=F then x else{x with ht:=x.ht++[h]}
def Rn.iK(p:Sp)(x:Rn)(e:Ed):Rn:=
 if e.1=2/\hd e.2.1=F then(if em e.2.1=F then(x.hit (e.2.1,p)).meet (e.2.2,p.2)else x.hit (e.2.1,p))else x.along A a p e
def Rn.tL(x:Rn)(p:Sp):Rn:=(A.rg p.1).foldl (Rn.iK A hd em a p) (if p.1∈A.sp then x.back p else x)
def D4:Nat->Nat->Rn->Rn
 |0,_,x=>x
 |n+1,i,x=>match x.sp[i]? with
  |none=>x
  |some p=>D4 n (i+1)<|x.tL A hd em a p
def lM(s:Sk)(l:C Sp):Rn:=D4 A hd em a (bnd A a+1) 0<|l.foldl Rn.meet ⟨s,[],[],aA,[]⟩
end
variable{A:At}{hd em:Nat->Bool}{x y X:Rn}{s t:Sk}{p q:Sp}{e:Ed}
def NF:Rn.iK A (λ_=>aA) em a p x e=x.along A a p e:=jk λh=>nomatch h.2
def YS:∀n i x,D4 A (λ_=>aA) em a n i x=go A a n i x
 |0,_,_=>rfl
 |n+1,i,x=>by
  show(match x.sp[i]? with|none=>x|some p=>D4 A (λ_=>aA) em a n (i+1)<|x.tL A (λ_=>aA) em a p)=(match x.sp[i]? with|none=>x|some p=>go A a n (i+1)<|x.one A a p);cases x.sp[i]? with
  |none=>rfl
  |some p=>
   show D4 _ _ _ _ n (i+1) _=_;rw[YS n]
   have:x.tL A (λ_=>aA) em a p=x.one A a p:=by
    unfold Rn.tL Rn.one;rw[show Rn.iK A (λ_=>aA) em a p=Rn.along A a p from funext λx=>funext λe=>NF]
   rw[this]
def GQ:lM A (λ_=>aA) em a s l=close A a s l:=YS _ _ _
def Ux:∀{l:C (Nat×Sp)},scan h l=F->h∈l
 |[],g=>nomatch g
 |k::l,g=>by
  have g:(if k.2=h.2 then(if k=h then F else scan h l)else aA)=F:=g;split at g
  .split at g
   .next e=>subst e;simp
   .exact bL _<|Ux g
  .cases g
def Rn.vK:(x.hit h).sk=x.sk/\(x.hit h).sp=x.sp/\(x.hit h).en=x.en/\(x.hit h).ok=x.ok:=by unfold Rn.hit;split<;>exact⟨O,O,O,O⟩
def Rn.RA:g∈(x.hit h).ht<->g∈x.ht\/g=h:=by
 unfold Rn.hit;split
 .next e=>
  have:=Ux e;rw[List.mem_reverse]at this;exact⟨.inl,λh=>h.elim id λe=>e▸this⟩
 .simp
def Rn.h2.hit(w:x.h2 A a):(x.hit h).h2 A a:=by
 have⟨I,W,_⟩:=Rn.vK (x:=x) (h:=h);exact⟨I▸w.sk,W▸w.nd,by rw[I,W];exact w.b⟩
def Rn.h2.iK(ho:A.Ok)(h:x.h2 A a)(d:p.1<A.ns/\p.2<=J x.sk)(m:e∈A.rg p.1):(x.iK A hd em a p e).h2 A a/\J x.sk<=(x.iK A hd em a p e).sk.length:=by
 unfold Rn.iK;split
 .split
  .exact⟨h.hit.meet (ho.e _ d.1 e m).1 (by rw[Rn.vK.1];exact d.2),by rw[Rn.pU,Rn.vK.1];exact ax _⟩
  .exact⟨h.hit,by rw[Rn.vK.1];exact ax _⟩
 .exact h.along ho d m
def Rn.h2.RD(ho:A.Ok)(w:p.1<A.ns)(l:C Ed):∀y:Rn,(∀e∈l,e∈A.rg p.1)->y.h2 A a->p.2<=J y.sk->(l.foldl (Rn.iK A hd em a p) y).h2 A a/\J y.sk<=(l.foldl (Rn.iK A hd em a p) y).sk.length:=by
 induction l with
 |nil=>exactλ_ _ h _=>⟨h,ax _⟩
 |cons e l B=>
  intro y m h W;have⟨w1,w2⟩:=h.iK (hd:=hd) (em:=em) ho ⟨w,W⟩<|m e gD;have⟨w3,w4⟩:=B _ (λd hd=>m d<|by simp[hd]) w1<|aQ W w2;exact⟨w3,aQ w2 w4⟩
def Rn.h2.tL(ho:A.Ok)(h:x.h2 A a)(m:p∈x.sp):(x.tL A hd em a p).h2 A a:=by
 have d:=h.b p m;unfold Rn.tL;split
 .exact(Rn.h2.RD ho d.1 _ _ (λ_ h=>h) (h.back m) (by rw[Rn.Lm];exact d.2)).1
 .exact(Rn.h2.RD ho d.1 _ _ (λ_ h=>h) h d.2).1
def ais(ho:A.Ok):∀n i x,Rn.h2 A a x->(D4 A hd em a n i x).h2 A a
 |0,_,x,h=>h
 |n+1,i,x,h=>by
  show Rn.h2 A a (match x.sp[i]? with|none=>x|some p=>D4 A hd em a n (i+1)<|x.tL A hd em a p);cases hp:x.sp[i]? with
  |none=>exact h
  |some p=>exact ais ho n (i+1) _<|h.tL ho<|aV hp
def NG(ho:A.Ok)(hs:Sk.h2 A a s)(hl:∀p∈l,p.1<A.ns/\p.2<=J s):(lM A hd em a s l).h2 A a:=
 ais ho _ _ _ (Dy l ⟨s,[],[],aA,[]⟩ ⟨hs,jg,nofun⟩ hl)
structure Sk.Le(s t:Sk):Prop where
 len:J s<=J t
 key:∀k,1<=k->k<=J s->(mY t k).1=(mY s k).1/\(mY t k).2.1=(mY s k).2.1/\∀ai∈(mY s k).2.2,ai∈(mY t k).2.2
def Sk.Le.refl(s:Sk):s.Le s:=⟨ax _,λk _ _=>⟨rfl,rfl,λai h=>h⟩⟩
def Sk.Le.trans(h:s.Le t)(g:t.Le r):s.Le r:=⟨aQ h.len g.len,λk I W=>by
 have⟨a1,a2,a3⟩:=h.key k I W;have⟨b1,b2,b3⟩:=g.key k I<|aQ W h.len;exact⟨b1.trans a1,b2.trans a2,λai d=>b3 ai<|a3 ai d⟩⟩
structure Rn.Le(x y:Rn):Prop where
 sp:x.sp<+:y.sp
 en:∀k∈x.en,k∈y.en
 ok:x.ok=F->y.ok=F
 sk:x.sk.Le y.sk
 ht:x.ht<+:y.ht
def Rn.Le.refl(x:Rn):x.Le x:=⟨iQ _,λ_ h=>h,λh=>h,.refl _,iQ _⟩
def Rn.Le.trans(h:x.Le y)(g:y.Le z):x.Le z:=⟨h.sp.trans g.sp,λk d=>g.en k<|h.en k d,λd=>g.ok<|h.ok d,h.sk.trans g.sk,h.ht.trans g.ht⟩
def Rn.Le.mem(h:x.Le y)(d:p∈x.sp):p∈y.sp:=h.sp.subset d
def Rn.tq:x.Le (x.meet p)/\p∈(x.meet p).sp:=by
 unfold Rn.meet;split
 .next h=>exact⟨.refl _,h⟩
 .exact⟨⟨List.prefix_append _ _,λ_ h=>h,λh=>h,.refl _,iQ _⟩,gD⟩
def Rn.Uy(l:C Nat):∀y:Rn,y.Le (l.foldl (λy ai=>y.meet<|cs ai) y)/\∀ai∈l,cs ai∈(l.foldl (λy ai=>y.meet<|cs ai) y).sp:=by
 induction l with
 |nil=>exactλy=>⟨.refl _,nofun⟩
 |cons v l m=>
  intro y;have⟨I,W⟩:=m<|y.meet<|cs v;have d:=Rn.tq (x:=y) (p:=cs v);refine⟨d.1.trans I,λai hu=>?_⟩;rcases bW.1 hu with rfl|hu
  .exact I.mem d.2
  .exact W ai hu
theorem NH(hk:1<=k)(hi:i<J s):mY (s.set i v) k=if k=i+1 then v else mY s k:=by
 unfold mY;rw[dU]
 by_cases h:k=i+1
 .subst h;rw[jl,jj O,jj hi,jj O];rfl
 .rw[jk N,jk h]
theorem NI(hk:1<=k):mY (s++[v]) k=if k=J s+1 then v else if k<=J s then mY s k else(0,0,[]):=by
 unfold mY
 by_cases h:k=J s+1
 .subst h;rw[jl,jj O,eD<|ax _,kN];rfl
 .rw[jk h]
  by_cases W:k<=J s
  .rw[jj W,bX N]
  .rw[jk W,dw (by rw[aS,sG];omega)];rfl
structure aoD(a:Nat)(s:Sk)(r ai:Nat)(q:Sk×Nat×Bool):Prop where
 le:s.Le q.1
 lo:1<=q.2.1
 hi:q.2.1<=J q.1
 kr:(mY q.1 q.2.1).1=r
 ka:(mY q.1 q.2.1).2.1=a
 ku:ai∈(mY q.1 q.2.1).2.2
 o:∀k,1<=k->k<=J q.1->∀v∈(mY q.1 k).2.2,(k<=J s/\v∈(mY s k).2.2)\/(k=q.2.1/\v=ai/\q.2.2=F)
 n:∀k,J s<k->k<=J q.1->k=q.2.1
theorem aea(s:Sk)(r a ai:Nat):aoD a s r ai (put s r a ai):=by
 unfold put;split
 .next i B=>
  have⟨I,W,h3,h4⟩:=II B;split
  .next E=>exact⟨.refl _,qI ..,I,W,h3,E,λk _ m v hv=>.inl ⟨m,hv⟩,λk m d=>absurd m<|fI d⟩
  .next E=>
   have w:mY (s.set i (r,a,(mY s<|i+1).2.2++[ai])) (i+1)=(r,a,(mY s<|i+1).2.2++[ai]):=by rw[NH (qI ..) I,jj O]
   refine⟨⟨by rw[bR];exact ax _,λk m d=>?_⟩,qI ..,by rw[bR];exact I,by rw[w],by rw[w],by rw[w];simp,λk m d v hv=>?_,λk m d=>absurd m (by rw[bR]at d;omega)⟩
   .rw[NH m I];split
    .next h=>subst h;exact⟨W.symm,h3.symm,λv hv=>by simp[hv]⟩
    .exact⟨O,O,λv hv=>hv⟩
   .rw[bR]at d;rw[NH m I]at hv;split at hv
    .next h=>
     subst h;rcases cK.1 hv with hv|hv
     .exact .inl ⟨d,hv⟩
     .exact .inr ⟨O,aT.1 hv,O⟩
    .exact .inl ⟨d,hv⟩
 .next B=>
  have w:mY (s++[(r,a,[ai])]) (J s+1)=(r,a,[ai]):=by rw[NI (qI ..),jj O]
  refine⟨⟨gD,λk m d=>?_⟩,qI ..,gD,by rw[w],by rw[w],by rw[w];simp,λk m d v hv=>?_,λk m d=>by rw[aS,sG]at d;show k=J s+1;omega⟩
  .rw[NI m,jk N,jj d];exact⟨O,O,λv hv=>hv⟩
  .rw[aS,sG]at d
   by_cases h:k=J s+1
   .subst h;rw[w]at hv;exact .inr ⟨O,aT.1 hv,O⟩
   .rw[NI m,jk h,jj N]at hv;exact .inl ⟨N,hv⟩
def Rn.En(x:Rn):Prop:=∀k∈x.en,1<=k/\k<=J x.sk/\∀ai∈(mY x.sk k).2.2,((mY x.sk k).1,ai)∈x.sp
def Rn.En.meet(h:x.En):(x.meet p).En:=λk d=>by
 have d:k∈x.en:=by unfold Rn.meet at d;split at d<;>exact d
 have⟨I,W,h3⟩:=h k d;rw[Rn.pU];exact⟨I,W,λai m=>Rn.tq.1.mem<|h3 ai m⟩
def Rn.aeb(l:C Nat):∀y:Rn,(l.foldl (λy ai=>y.meet<|cs ai) y).en=y.en:=by
 induction l with
 |nil=>exactλ_=>rfl
 |cons ai l d=>exactλy=>(d _).trans (by show(y.meet<|cs ai).en=_;unfold Rn.meet;split<;>rfl)
def Rn.YU(h:x.En)(w:p.2<=J x.sk):(x.back p).En/\x.Le (x.back p)/\(p.2=0->(x.back p).ok=F)/\(p.2≠0->p.2∈(x.back p).en):=by
 unfold Rn.back;split
 .next d=>exact⟨h,⟨iQ _,λ_ h=>h,λ_=>rfl,.refl _,iQ _⟩,λ_=>rfl,λg=>absurd d g⟩
 split
 .next d I=>exact⟨h,.refl _,λg=>absurd g d,λ_=>I⟩
 .next d I=>
  have⟨g1,g2⟩:=Rn.Uy (cs:=λai=>((mY x.sk p.2).1,ai)) (mY x.sk p.2).2.2 {x with en:=p.2::x.en};have g3:=Rn.Uw (cs:=λai=>((mY x.sk p.2).1,ai)) (mY x.sk p.2).2.2 {x with en:=p.2::x.en};have m:=Rn.aeb (cs:=λai=>((mY x.sk p.2).1,ai)) (mY x.sk p.2).2.2 {x with en:=p.2::x.en};refine⟨λk hk=>?_,⟨g1.sp,λk hk=>g1.en k<|bL _ hk,g1.ok,g1.sk,g1.ht⟩,λg=>absurd g d,λ_=>g1.en _<|aL ..⟩;rw[m]at hk;rw[g3];rcases bW.1 hk with rfl|hk
  .exact⟨N,w,g2⟩
  .have⟨I,W,h3⟩:=h k hk;exact⟨I,W,λai B=>g1.mem<|h3 ai B⟩
def Rn.NJ:x.Le (x.hit h)/\h∈(x.hit h).ht:=by
 have⟨I,W,h3,h4⟩:=Rn.vK (x:=x) (h:=h);exact⟨⟨by rw[W];exact iQ _,λk d=>by rw[h3];exact d,λd=>by rw[h4];exact d,by rw[I];exact .refl _,by unfold Rn.hit;split;exact iQ _;exact List.prefix_append _ _⟩,Rn.RA.2<|.inr O⟩
def Rn.En.hit(g:x.En):(x.hit h).En:=by
 have⟨I,W,h3,_⟩:=Rn.vK (x:=x) (h:=h);unfold Rn.En;rw[I,W,h3];exact g
def P8(A:At)(hd em:Nat->Bool)(a:Nat)(p:Sp)(x:Rn)(e:Ed):Prop:=
 (e.1≠1->e.1≠2->(e.2.2,p.2)∈x.sp)/\
 (e.1=2->hd e.2.1=F->(e.2.1,p)∈x.ht/\(em e.2.1=F->(e.2.2,p.2)∈x.sp))/\
 (e.1=2->hd e.2.1=aA->∃k,1<=k/\k<=J x.sk/\(mY x.sk k).1=e.2.2/\(mY x.sk k).2.1=a/\p.2∈(mY x.sk k).2.2/\(A.S e.2.1,k)∈x.sp)
def P8.le(h:P8 A hd em a p x e)(g:x.Le y):P8 A hd em a p y e:=
 ⟨λI W=>g.mem<|h.1 I W,λI W=>⟨g.ht.subset (h.2.1 I W).1,λd=>g.mem<|(h.2.1 I W).2 d⟩,λI W=>by
  have⟨k,k1,k2,k3,k4,k5,k6⟩:=h.2.2 I W;have⟨g1,g2,g3⟩:=g.sk.key k k1 k2;exact⟨k,k1,aQ k2 g.sk.len,g1.trans k3,g2.trans k4,g3 _ k5,g.mem k6⟩⟩
def Rn.P9(h:x.En):(x.iK A hd em a p e).En/\x.Le (x.iK A hd em a p e)/\P8 A hd em a p (x.iK A hd em a p e) e:=by
 unfold Rn.iK;split
 .next B=>
  have K:∀{P:Prop},hd e.2.1=aA->P:=λh=>by rw[B.2]at h;cases h
  have g0:(x.hit (e.2.1,p)).En:=h.hit;have w:=Rn.NJ (x:=x) (h:=(e.2.1,p));split
  .exact⟨g0.meet,w.1.trans Rn.tq.1,λ_ W=>absurd B.1 W,λ_ _=>⟨Rn.tq.1.ht.subset w.2,λ_=>Rn.tq.2⟩,λ_ h=>K h⟩
  .next N=>exact⟨g0,w.1,λ_ W=>absurd B.1 W,λ_ _=>⟨w.2,λh=>absurd h N⟩,λ_ h=>K h⟩
 next B=>
 have K:∀{P:Prop},e.1=2->hd e.2.1=F->P:=λI W=>absurd ⟨I,W⟩ B;unfold Rn.along;split
 .next I=>exact⟨h,.refl _,λg=>absurd I g,λg=>absurd (I.symm.trans g) jq,λg=>absurd (I.symm.trans g) jq⟩
 next I=>
 split
 .next W=>
  have d:=aea x.sk e.2.2 a p.2;generalize put x.sk e.2.2 a p.2=H' at d|-;have w:x.Le ({x with sk:=H'.1}:Rn):=⟨iQ _,λ_ h=>h,λh=>h,d.le,iQ _⟩;have M:=Rn.tq (x:=({x with sk:=H'.1}:Rn)) (p:=(A.S e.2.1,H'.2.1));have g3:(({x with sk:=H'.1}:Rn).meet (A.S e.2.1,H'.2.1)).sk=H'.1:=Rn.pU;have E:(({x with sk:=H'.1}:Rn).meet (A.S e.2.1,H'.2.1)).en=x.en:=by unfold Rn.meet;split<;>rfl
  generalize({x with sk:=H'.1}:Rn).meet (A.S e.2.1,H'.2.1)=y at M g3 E|-;have g5:=w.trans M.1
  have T:y.Le (y.hop H'.2 (e.2.2,p.2)):=by
   unfold Rn.hop;split
   .exact Rn.tq.1
   .exact .refl _
  have m:(y.hop H'.2 (e.2.2,p.2)).sk=H'.1:=by
   unfold Rn.hop;split
   .rw[Rn.pU,g3]
   .exact g3
  have O:(y.hop H'.2 (e.2.2,p.2)).en=x.en:=by
   unfold Rn.hop;split
   .rw[<-E];unfold Rn.meet;split<;>rfl
   .exact E
  refine⟨λk U=>?_,g5.trans T,λ_ g=>absurd W g,λI W=>K I W,λ_ _=>⟨H'.2.1,d.lo,by rw[m];exact d.hi,by rw[m];exact d.kr,by rw[m];exact d.ka,by rw[m];exact d.ku,T.mem M.2⟩⟩;rw[O]at U;have⟨Y,k2,k3⟩:=h k U;rw[m];refine⟨Y,aQ k2 d.le.len,λai V=>?_⟩;rcases d.o k Y (aQ k2 d.le.len) ai V with⟨_,V⟩|⟨rfl,rfl,hf⟩
  .rw[(d.le.key k Y k2).1];exact(g5.trans T).mem<|k3 ai V
  .rw[d.kr];unfold Rn.hop;rw[jj ⟨by rw[E];exact U,hf⟩];exact Rn.tq.2
 .next W=>exact⟨h.meet,Rn.tq.1,λ_ _=>Rn.tq.2,λg=>absurd g W,λg=>absurd g W⟩
def Rn.NK(l:C Ed):∀y:Rn,y.En->(l.foldl (Rn.iK A hd em a p) y).En/\y.Le (l.foldl (Rn.iK A hd em a p) y)/\∀e∈l,P8 A hd em a p (l.foldl (Rn.iK A hd em a p) y) e:=by
 induction l with
 |nil=>exactλy h=>⟨h,.refl _,nofun⟩
 |cons e l m=>
  intro y h;have⟨I,W,h3⟩:=Rn.P9 (A:=A) (hd:=hd) (em:=em) (a:=a) (p:=p) (e:=e) h;have⟨g1,g2,g3⟩:=m _ I;refine⟨g1,W.trans g2,λd hd=>?_⟩;rcases bW.1 hd with rfl|hd
  .exact h3.le g2
  .exact g3 d hd
structure Done(A:At)(hd em:Nat->Bool)(a:Nat)(p:Sp)(x:Rn):Prop where
 z:p.1∈A.sp->p.2=0->x.ok=F
 b:p.1∈A.sp->p.2≠0->p.2∈x.en
 e:∀e∈A.rg p.1,P8 A hd em a p x e
def Done.le(h:Done A hd em a p x)(g:x.Le y):Done A hd em a p y:=⟨λI W=>g.ok<|h.z I W,λI W=>g.en _<|h.b I W,λe d=>(h.e e d).le g⟩
def Rn.RE(h:x.En)(m:p.2<=J x.sk):(x.tL A hd em a p).En/\x.Le (x.tL A hd em a p)/\Done A hd em a p (x.tL A hd em a p):=by
 unfold Rn.tL;split
 .next hs=>
  have⟨b1,b2,b3,b4⟩:=Rn.YU h m;have⟨g1,g2,g3⟩:=Rn.NK (A:=A) (hd:=hd) (em:=em) (a:=a) (p:=p) (A.rg p.1) _ b1;exact⟨g1,b2.trans g2,λ_ d=>g2.ok<|b3 d,λ_ d=>g2.en _<|b4 d,g3⟩
 .next hs=>
  have⟨g1,g2,g3⟩:=Rn.NK (A:=A) (hd:=hd) (em:=em) (a:=a) (p:=p) (A.rg p.1) _ h;exact⟨g1,g2,λh=>absurd h hs,λh=>absurd h hs,g3⟩
structure Rn.Cl(A:At)(hd em:Nat->Bool)(a:Nat)(x:Rn):Prop where
 en:x.En
 d:∀p∈x.sp,Done A hd em a p x
def aec(ho:A.Ok):∀n i x,Rn.h2 A a x->x.En->(∀j p,j<i->x.sp[j]?=Z p->Done A hd em a p x)->bnd A a+1<=n+i->(D4 A hd em a n i x).Cl A hd em a/\x.Le (D4 A hd em a n i x)
 |0,i,x,h,he,hd,hn=>by
  refine⟨⟨he,λp d=>?_⟩,.refl _⟩;have d:p∈x.sp:=d;obtain⟨j,B,rfl⟩:=iO d;have:=h.le;exact hd j _ N<|av B
 |n+1,i,x,h,he,hd',hn=>by
  show(match x.sp[i]? with|none=>x|some p=>D4 A hd em a n (i+1)<|x.tL A hd em a p).Cl A hd em a/\x.Le (match x.sp[i]? with|none=>x|some p=>D4 A hd em a n (i+1)<|x.tL A hd em a p);cases d:x.sp[i]? with
  |none=>
   refine⟨⟨he,λp m=>?_⟩,.refl _⟩;have m:p∈x.sp:=m;obtain⟨j,B,rfl⟩:=iO m;rw[List.getElem?_eq_none_iff]at d;exact hd' j _ N<|av B
  |some p=>
   have E:=aV d;have⟨g1,g2,g3⟩:=Rn.RE (A:=A) (hd:=hd) (em:=em) (a:=a) (p:=p) he (h.b p E).2
   have⟨k1,k2⟩:=aec ho n (i+1) _ (h.tL (hd:=hd) (em:=em) ho E) g1 (λj q B w=>by
    have⟨t,ht⟩:=g2.sp;have I:i<J x.sp:=(bI.1 d).1
    have w:x.sp[j]?=Z q:=by
     rw[<-ht,bX N]at w;exact w
    by_cases hji:j=i
    .subst hji;rw[d]at w;cases w;exact g3
    .exact(hd' j q N w).le g2) N
   exact⟨k1,g2.trans k2⟩
def P_(ho:A.Ok)(hs:Sk.h2 A a s)(hl:∀p∈l,p.1<A.ns/\p.2<=J s):(lM A hd em a s l).Cl A hd em a/\(l.foldl Rn.meet ⟨s,[],[],aA,[]⟩).Le (lM A hd em a s l):=by
 have w:∀(l:C Sp)(x:Rn),(l.foldl Rn.meet x).en=x.en:=by
  intro l
  induction l with
  |nil=>exactλ_=>rfl
  |cons p l B=>exactλx=>(B _).trans (by unfold Rn.meet;split<;>rfl)
 exact aec ho _ 0 _ (Dy l ⟨s,[],[],aA,[]⟩ ⟨hs,jg,nofun⟩ hl) (λk d=>by rw[w]at d;cases d) (λj p m=>absurd m<|iP _)<|ax _
def Rn.Ho(A:At)(hd:Nat->Bool)(x:Rn):Prop:=∀h∈x.ht,hd h.1=F/\h.2∈x.sp/\∃e∈A.rg h.2.1,e.1=2/\e.2.1=h.1
def Rn.Ho.le(h:x.Ho A hd)(g:x.Le y)(e:y.ht=x.ht):y.Ho A hd:=λk d=>by
 rw[e]at d;have⟨I,W,h3⟩:=h k d;exact⟨I,g.mem W,h3⟩
def Rn.BL:(x.meet p).ht=x.ht:=by unfold Rn.meet;split<;>rfl
def Rn.aed(l:C Nat):∀y:Rn,(l.foldl (λy ai=>y.meet<|cs ai) y).ht=y.ht:=by
 induction l with
 |nil=>exactλ_=>rfl
 |cons ai l d=>exactλy=>(d _).trans (by show(y.meet<|cs ai).ht=_;unfold Rn.meet;split<;>rfl)
def Rn.Lp:(x.back p).ht=x.ht:=by
 unfold Rn.back;split
 .rfl
 split
 .rfl
 .exact Rn.aed _ _
def Rn.IJ:(x.along A a p e).ht=x.ht:=by
 unfold Rn.along;split
 .rfl
 split
 .unfold Rn.hop;split
  .rw[Rn.BL,Rn.BL]
  .rw[Rn.BL]
 .exact Rn.BL
def Rn.Ho.EW(U:p∈x.sp)(l:C Ed):∀y:Rn,(∀e∈l,e∈A.rg p.1)->y.En->p∈y.sp->y.Ho A hd->(l.foldl (Rn.iK A hd em a p) y).Ho A hd:=by
 induction l with
 |nil=>exactλ_ _ _ _ h=>h
 |cons e l T=>
  intro y K w M h;have⟨I,W,_⟩:=Rn.P9 (A:=A) (hd:=hd) (em:=em) (a:=a) (p:=p) (e:=e) w;refine T _ (λd hd=>K d<|by simp[hd]) I (W.mem M) λk m=>?_
  have B:k∈y.ht\/(k=(e.2.1,p)/\e.1=2/\hd e.2.1=F):=by
   unfold Rn.iK at m;split at m
   .next E=>
    split at m
    .rw[Rn.BL]at m;exact(Rn.RA.1 m).imp id λg=>⟨g,E⟩
    .exact(Rn.RA.1 m).imp id λg=>⟨g,E⟩
   .rw[Rn.IJ]at m;exact .inl m
  rcases B with m|⟨rfl,N,P⟩
  .have⟨a1,a2,a3⟩:=h k m;exact⟨a1,W.mem a2,a3⟩
  .exact⟨P,W.mem M,e,K e gD,N,O⟩
def aee:∀n i x,Rn.h2 A a x->A.Ok->x.En->x.Ho A hd->(D4 A hd em a n i x).Ho A hd
 |0,_,x,_,_,_,h=>h
 |n+1,i,x,hW,ho,hen,h=>by
  show(match x.sp[i]? with|none=>x|some p=>D4 A hd em a n (i+1)<|x.tL A hd em a p).Ho A hd;cases hp:x.sp[i]? with
  |none=>exact h
  |some p=>
   have d:=aV hp;have m:=(hW.b p d).2;have⟨g1,g2,g3⟩:=Rn.RE (A:=A) (hd:=hd) (em:=em) (a:=a) (p:=p) hen m;refine aee n (i+1) _ (hW.tL ho d) ho g1 ?_;unfold Rn.tL;split
   .have⟨b1,b2,_⟩:=Rn.YU hen m;exact Rn.Ho.EW d _ _ (λ_ h=>h) b1 (b2.mem d)<|h.le b2 Rn.Lp
   .exact Rn.Ho.EW d _ _ (λ_ h=>h) hen d h
def Rn.WN:x.ht<+:(x.iK A hd em a p e).ht:=by
 unfold Rn.iK;split
 .split
  .rw[Rn.BL];exact Rn.NJ.1.ht
  .exact Rn.NJ.1.ht
 .rw[Rn.IJ];exact iQ _
def Rn.BM:∀(l:C Ed)(y:Rn),y.ht<+:(l.foldl (Rn.iK A hd em a p) y).ht
 |[],_=>iQ _
 |e::l,y=>Rn.WN.trans<|Rn.BM l _
def Rn.RF(l:C Ed)(k:Nat)(y:Rn):((l.take k).foldl (Rn.iK A hd em a p) y).ht<+:(l.foldl (Rn.iK A hd em a p) y).ht:=by
 have:=Rn.BM (A:=A) (hd:=hd) (em:=em) (a:=a) (p:=p) (l.drop k)<|(l.take k).foldl (Rn.iK A hd em a p) y
 rwa [<-iW,iM]at this
def YV:∀n i x,x.ht<+:(D4 A hd em a n i x).ht
 |0,_,_=>iQ _
 |n+1,i,x=>by
  show _<+:(match x.sp[i]? with|none=>x|some p=>D4 A hd em a n (i+1)<|x.tL A hd em a p).ht;cases x.sp[i]? with
  |none=>exact iQ _
  |some p=>
   refine List.IsPrefix.trans ?_<|YV n (i+1) _;unfold Rn.tL;split
   .have:=Rn.BM (A:=A) (hd:=hd) (em:=em) (a:=a) (p:=p) (A.rg p.1) (x.back p)
    rwa [Rn.Lp]at this
   .exact Rn.BM _ _
def NL:∀n i x,(D4 A (λ_=>aA) em a n i x).ht=x.ht
 |0,_,_=>rfl
 |n+1,i,x=>by
  show(match x.sp[i]? with|none=>x|some p=>D4 A (λ_=>aA) em a n (i+1)<|x.tL A (λ_=>aA) em a p).ht=_;cases x.sp[i]? with
  |none=>rfl
  |some p=>
   show(D4 A _ em a n (i+1) _).ht=_;rw[NL n]
   have key:∀(l:C Ed)(y:Rn),(l.foldl (Rn.iK A (λ_=>aA) em a p) y).ht=y.ht:=by
    intro l
    induction l with
    |nil=>exactλ_=>rfl
    |cons e l d=>exactλy=>(d _).trans (by rw[NF,Rn.IJ])
   unfold Rn.tL;rw[key];split
   .exact Rn.Lp
   .rfl
def IK:∀(l:C Sp)(x:Rn),(l.foldl Rn.meet x).ht=x.ht
 |[],_=>rfl
 |p::l,x=>(IK l<|x.meet p).trans Rn.BL
def zo:(lM A (λ_=>aA) em a s l).ht=[]:=(NL _ _ _).trans<|IK _ _
end Wk
end Go.Proofs.Lu
namespace Go.Proofs.Lv
open Go.Proofs.Lu
open Go.Ae Go.Ae.hx
variable{L hx:C eB}{H Q H0:R}
section
variable{S:C Nat}{ay:Nat->Prop}{A:At}{q:AV}
def zf(w:Wf H)(h:vI ay H A q)(ho:A.Ok):bQ Pg X 54 [q.v A] H (Q1 (λv Q=>∃q':AV,v=q'.v A/\vI (H.bU<=·) Q A q') H):=by
 refine dD (P6 w h ho) ?_;rintro _ Q ⟨f,hx,rfl,⟨_,_,m⟩,G⟩;obtain⟨q',rfl,d⟩:=(m 0).atC (G.cast (bF hx).symm) ho;exact⟨⟨q',O,d⟩,G.ext⟩
def vI.both(h:vI ay H A q):vI (λr=>ay r/\r<H.bU) H A q:=by
 have d:∀{m n es a f},jJ ay m H a n es f->jJ (λr=>ay r/\r<H.bU) m H a n es f:=λh=>⟨h.1,λr o e B=>let⟨I,W,h3⟩:=h.2 r o e B;⟨⟨I,W⟩,W,h3⟩⟩;exact⟨d h.n,d h.s,d h.p,d h.o,let⟨evs,I,W⟩:=h.e;⟨evs,d I,λi w=>let⟨a,c,h3,h4⟩:=W i w;⟨a,c,h3,d h4⟩⟩⟩
def vI.m'(h:vI ay H A q):vI ay (hM H0 H) A q:=⟨h.n,h.s,h.p,h.o,h.e⟩
structure GU(ay:Nat->Prop)(H:R)(rw:Nat)(A:At)(q:AV)(ev sv:D)(sb:C Bool):Prop where
 k:ay rw/\rw<H.bU
 b:Bk H rw 114 (q.cells A++[ev,sv])
 a:vI ay H A q
 s:∃sa sc,sv=u sa A.ns sc/\jJ ay 4 H sa A.ns 1 (bools sb)
 l:J sb=A.ns
 on:∀s,s<A.ns->sb[s]?=Z (decide<|s∈A.sp)
 e:∃eb ea ec,ev=u ea A.nr ec/\jJ ay 4 H ea A.nr 1 (bools eb)/\∀r,r<A.nr->eb[r]?=Z (A.Em r)
def aef(hw:Wf H)(h:vI ay H A q)(ho:A.Ok)(ht:A.trim=A):bQ Pg X 21 [q.v A] H (Q1 (λv Q=>∃(w:D)(K:Int),v=fO ⟨[w,vi K]⟩/\(K≠0->w=bG T)/\(K=0->∃rw q' ev sv sb,w=pr rw/\GU (H.bU<=·) Q rw A q' ev sv sb)) H):=by
 have G:=h_ hw;have ap:=ho.big;have JF:=ho.few;refine lq [0,1,2,3,4,6,8,33,34,35] ?_;refine G.box O λH1 E G=>?_;rw[lN]at G;refine G.uL 0 O (ax 6) ?_;refine G.cm (WL G.wf (h.ex G.ext) ho) ?_;rintro v H2 ⟨K,z,rfl⟩ M G;refine yx (λhc=>?_) λhc=>?_
 .refine ji O<|rr ?_;exact⟨⟨_,_,O,λ_=>rfl,λh=>absurd h jq⟩,G.ext⟩
 subst hc;refine G.MI 0 O (ax 6) ?_;simp only[iT G.wf];refine dD (P7 (oU H2) (h.ex G.ext).n' ho) ?_;rintro v H3 ⟨⟨q1,rfl,I⟩,M⟩;have G:=G.oI M;refine G.MI 0 O (ax 6) ?_;simp only[iT G.wf];rw[ht]at I|-;have I:vI (H2.bU<=·) (hM H2 H3) A q1:=I.m';refine dD (aaA (oU _) I.n' (h.ex G.ext).n' ho) ?_;rintro v H4 ⟨rfl,ao⟩;have G:=G.oI ao;refine bM ?_;refine ji (by simp only[fu,gJ M,gJ ao];rfl) ?_;refine iI (λhb=>by cases hb) λ_=>?_;refine tl ?_;generalize hM (hM H2 H3) H4=H5 at G;refine G.MI 0 O (ax 6) ?_;simp only[iT G.wf];refine dD (zf (oU _) (h.ex G.ext).n' ho) ?_;rintro _ H6 ⟨⟨q2,rfl,W⟩,Y⟩;have al:=G.ext.bU;have W:vI (H5.bU<=·) (hM H5 H6) A q2:=W.m';have a1:=(G.lo _<|aL ..).2;have G:=G.oI Y;refine G.MI 0 O (ax 6) ?_;simp only[iT G.wf];refine dD (GH (oU _) (h.ex G.ext).n' ho) ?_;rintro _ H7 ⟨⟨l,⟨ea,ec,rfl,a2,d⟩,aq⟩,ab⟩;have d:jJ (H5.bU<=·) 4 (hM (hM H5 H6) H7) ea A.nr 1 (bools l):=d.le Y.bU;have W:=W.ex ab.draw;have G:=G.oI ab;refine G.MI 0 O (ax 6) ?_;simp only[iT G.wf];refine dD (vU (oU _) q A) ?_;rintro _ H8 ⟨rfl,BK⟩;have W:=W.ex BK.draw;have d:=d.ex BK.draw;have G:=G.oI BK;generalize hH:hM (hM (hM H5 H6) H7) H8=H9 at G W d|-;have W:=W.both;have d:jJ (λr=>H5.bU<=r/\r<H9.bU) 4 H9 ea A.nr 1 (bools l):=⟨d.1,λr o e hn=>let⟨a,b,c⟩:=d.2 r o e hn;⟨⟨a,b⟩,b,c⟩⟩;have a5:=(G.lo _<|aL ..).2;refine G.amH (ax _) N λCF rs G c1 uR a6=>?_;rw[mK]at G;have W:=W.ex uR;have d:=d.ex uR;refine dA (v:=dP ⟨q2.cells A++[u ea A.nr ec,u (Z ⟨rs,0,T⟩) A.ns A.ns]⟩) O ?_;refine G.ajT O λRy rw G c2 ac a7=>?_;have W:=W.ex ac;have d:=d.ex ac;have G:SH [] H (hM (hM H9 CF) Ry) [(rw,114,q2.cells A++[u ea A.nr ec,u (Z ⟨rs,0,T⟩) A.ns A.ns]),(rs,4,aY A.ns<|aR aA),(E,27,q.cells A)]:=G;refine ji (by simp only[fu,gJ Y,gJ ab,gJ BK,hH,c1,c2];rfl) ?_;generalize hM (hM H9 CF) Ry=Uq at G W d|-;refine fJ ?_;have a4:=ho.YH;have ad:=G;have G:=G.base;refine lp2 8 35 (h1:=λm x8 FO Q=>∃(i:Nat)(sb:C Bool),FO=B i/\i+m=A.nr/\J sb=A.ns/\(∀s,s<A.ns->sb[s]?=Z (decide<|s∈A.sp.take i))/\SH [rw,rs,E] Uq Q [(rw,114,q2.cells A++[u ea A.nr ec,u (Z ⟨rs,0,T⟩) A.ns A.ns]),(rs,4,bools sb),(E,27,q.cells A)]) ?_ A.nr ⟨0,aY A.ns aA,rfl,N,gD,λs hs=>by rw[l6,jj hs];simp,by rw[show bools (aY A.ns aA)=aY A.ns (aR aA)from jL];exact G⟩;clear G;rintro m x8 FO oW aE ⟨i,sb,rfl,a3,an,am,G⟩
 have V:∀r∈[rw,rs,E],¬(H5.bU<=r/\r<H9.bU):=λr U=>by
  have h9:=uR.bU;simp only[bW,fF,jo]at U;rcases U with rfl|rfl|rfl<;>omega
 have h3:=W.stay G.ext V;have d:=d.stay G.ext λr U=>.inl<|V r U;refine lX (λhc=>?_) λhc=>?_
 .refine tl ?_;have G:=ad.over G;have hm:((rs,4,bools sb):eB)∈[(rw,114,q2.cells A++[u ea A.nr ec,u (Z ⟨rs,0,T⟩) A.ns A.ns]),(rs,4,bools sb),(E,27,q.cells A)]:=gD;refine rr ?_;refine⟨⟨_,_,O,λh=>absurd O h,λ_=>⟨rw,q2,_,_,sb,rfl,⟨G.yV<|aL ..,(G.lo _<|aL ..).2⟩,G.get 0 O,h3.wk λr U=>aQ al U.1,⟨_,_,rfl,jJ.one G hm (by rw[aK];omega)<|G.yV hm⟩,an,λs hs=>?_,l,_,_,rfl,d.wk λr U=>aQ al U.1,λr U=>?_⟩⟩,G.ext⟩
  .rw[am s hs,dV N]
  .have I:=aq r U;unfold on at I;rw[<-At.ad9,av N]at I;rw[av N];cases he:A.Em r<;>cases hl:l[r]<;>simp_all
 have hi:i<A.nr:=N;have ar:=(ho.p i hi).1;refine(h.p.ex (ad.over G).ext).ix (v:=B<|A.P i) hi (A_ N) λp=>G.qF ?_;refine G.Ya ar (by rw[aK];omega) (kk:=λp a0 G=>?_);refine eG ?_;refine⟨A.nr-(i+1),N,_,_,_,_,O,i+1,sb.set (A.P i) F,pJ,N,by rw[bR];exact an,λs hs=>?_,by rw[show bools (sb.set (A.P i) F)=(bools sb).set (A.P i) (aR F)from gz];exact G⟩;have e:A.sp[i]?=Z (A.P i):=by unfold At.P;rw[av N];rfl
 rw[dU,dY,e];simp only[Option.toList,cK,aT]
 by_cases hp:A.P i=s
 .subst hp;rw[jj O,jj N,b_<|.inr O]
 .rw[jk hp,am s hs];have:s∈A.sp.take i\/s=A.P i<->s∈A.sp.take i:=⟨λh=>h.resolve_right λh=>hp h.symm,.inl⟩;simp only[this]
end
section
open Go.Proofs.Lu Go.Proofs.Lu.Wk
open Go.Ae Go.Ae.hx
variable{S:C Nat}
abbrev pE(p:Sp):D:=dP ⟨[B p.1,B p.2]⟩
abbrev u0:D:=dP ⟨[]⟩
abbrev vnE(n:Nat):D:=B n
def UA(a b:Sp):cr (FI (a.1:Int) b.1) (cr (FI (a.2:Int) b.2) (Z F)<|Z aA) (Z aA)=Z (decide<|a=b):=by
 have⟨a1,a2⟩:=a;have⟨b1,b2⟩:=b;rw[BD,BD]
 by_cases I:a1=b1<;>by_cases W:a2=b2<;>simp[I,W]<;>first|rfl|(rw[dR N];rfl)
def agP(a b:Sp):mU Pg 86 (pE a) (pE b)=Z (decide<|a=b):=Eq.trans fT<|UA a b
def aej(a b:Sp):mU Pg 161 (pE a) (pE b)=Z (decide<|a=b):=Eq.trans fT<|UA a b
def aek(a b:Sp):mU Pg 163 (pE a) (pE b)=Z (decide<|a=b):=Eq.trans fT<|UA a b
def eq3(a b:Nat):mU Pg 3 (vnE a) (vnE b)=Z (decide<|a=b):=by
 have:mU Pg 3 (vnE a) (vnE b)=Z (FI (a:Int) b):=fT;rw[this,BD]
 by_cases h:a=b
 .rw[b_ h,b_ N]
 .rw[dR h,dR N]
def JI:vz Pg 151=Z (86,133):=fT
def RG:vz Pg 154=Z (3,133):=fT
def NM:vz Pg 125=Z (161,3):=fT
def NN:vz Pg 126=Z (163,133):=fT
def Fs:zw Pg 133=Z u0:=fT
def ajV:zw Pg 3=Z (vi 0):=fT
def B6:C Sp->C D
 |[]=>[]
 |p::l=>B p.1::B p.2::B6 l
def uE:∀l,J (B6 l)=J l*2
 |[]=>rfl
 |p::l=>by have:=uE l;simp only[B6,cO];omega
def Ls:∀l m,B6 (l++m)=B6 l++B6 m
 |[],m=>rfl
 |p::l,m=>by simp only[bV,B6,Ls l m]
def EX:∀{l:C Sp}{i:Nat}{p:Sp},l[i]?=Z p->El (B6 l) 2 i=[B p.1,B p.2]
 |[],i,p,h=>by simp at h
 |x::l,0,p,h=>by simp at h;subst h;simp[El,B6]
 |x::l,i+1,p,h=>by
  have:=EX (l:=l) (i:=i)<|nZ h;rw[<-this];unfold El;rw[show(i+1)*2=i*2+2 by omega];rfl
def hts(l:C<|Nat×Sp):C D:=l.flatMap λh=>[B h.1,B h.2.1,B h.2.2]
structure M4(H:R)(ms me mn ml:Nat)(x:Rn):Prop where
 s:Ce pE H ms λp=>if p∈x.sp then Z u0 else T
 e:Ce vnE H me λn=>if n∈x.en then Z u0 else T
 n:Ce pE H mn λp=>(KZ x.sk p.1 p.2).map λk=>B<|k+1
 l:Ce pE H ml λp=>if 0<p.1/\p.2∈(mY x.sk p.1).2.2 then Z u0 else T
variable{x:Rn}{rr rs ms me mn ml mo:Nat}
def M4.ex(h:M4 H ms me mn ml x)(M:pI S H Q)(d:∀m∈[ms,me,mn,ml],m∉S):M4 Q ms me mn ml x:=⟨h.s.ex M<|d _ gD,h.e.ex M<|d _ gD,h.n.ex M<|d _ gD,h.l.ex M<|d _ gD⟩
def M4.rows(h:M4 H ms me mn ml x)(G:SH S H0 H L)(M:pI (L.map (·.1)) H Q):M4 Q ms me mn ml x:=h.ex M λm d=>by
 simp only[bW,fF,jo]at d;rcases d with rfl|rfl|rfl|rfl
 .exact G.z8 h.s
 .exact G.z8 h.e
 .exact G.z8 h.n
 .exact G.z8 h.l
def WS(S:C Nat)(H0 H:R)(rr rs ms me mn ml mo:Nat)(x:Rn):Prop:=∃sv K N M hv E w I az d,
 SH S H0 H ((rr,156,[sv,aR x.ok,hv,vi 0,fK<|Z ms,fK<|Z me,B mo])::(rs,128,[K,N,fK<|Z mn,fK<|Z ml])::(E++(w++(I++(az++d)))))/\
 GB 86 2 sv (B6 x.sp) E/\GJ 161 2 K (vi (-1)::B 0::B6 (x.sk.map λe=>(e.1,e.2.1))) w/\GJ 22 1 N M I/\IX 3 1 ([]::x.sk.map λe=>gq e.2.2) M az/\GB 88 3 hv (hts x.ht) d/\
 M4 H ms me mn ml x/\[ms,me,mn,ml].Nodup/\∀m∈[ms,me,mn,ml],m∈S\/H0.bU<=m
def amM{p:Sp}(h:WS S H0 H rr rs ms me mn ml mo x)(hl:(x.meet p).sp.length<=mo)(U:(x.meet p).sp.length<=8000000):bQ Pg X 87 [pr rr,pE p] H λv Q=>v=aR F/\WS S H0 Q rr rs ms me mn ml mo (x.meet p):=by
 have⟨sv,pv,uv,us,hv,gS,gP,gU,az,gH,h,gs,gp,gu,gR,gh,m,ne,lo⟩:=h;obtain⟨sa,sn,sc,rfl,W⟩:=gs.OP;rw[uE]at W;refine lq [0,1,3,4,6] ?_;have G:=h.base;refine G.box O λH1 w G=>?_;have G:SH _ H H1 ((w,86,[B p.1,B p.2])::(rr,156,[u sa sn sc,aR x.ok,hv,vi 0,fK<|Z ms,fK<|Z me,B mo])::(rs,128,[pv,uv,fK<|Z mn,fK<|Z ml])::(gS++(gP++(gU++(az++gH))))):=G;have n1:=G.nq 0 1 O O N;refine fJ ?_;have m1:=m.rows h G.ext;refine Ce.has (e:=pE) (k:=p) (H:=hN H1) m1.s JI Fs agP ?_;refine G.lJ ?_;have M:=G.lt;refine G.ad7 λH2 rz G Y c1 ab=>?_;have P:=m1.ex Y nofun;refine G.lJ ?_;refine splitK (λK I=>?_) ?_
 .have n2:rz≠w:=λe=>by have:=M w gD;omega
  have n3:rz≠rr:=λe=>by have:=M rr gD;omega
  simp only[c1,fu,gT,gJ<|Ext.refl<|hN _];apply zP (a:=rz) (b:=w) (c:=rr) n2 n3 n1 yB fT fT I
 have G:=h.over G;refine aW (λV=>?_) λV=>?_
 .have e:x.meet p=x:=jj V;rw[e];refine Lu.rr ?_;exact⟨O,_,_,_,_,_,_,_,_,_,_,fU (A:=[_]) G,gs,gp,gu,gR,gh,P,ne,lo⟩
 have e:x.meet p={x with sp:=x.sp++[p]}:=jk V;rw[e]at hl U|-;dsimp only at hl U;rw[aS]at hl U;simp only[cO,qH]at hl U;refine fJ ?_;refine aW (λhc=>N) λ_=>?_;refine fJ ?_;refine dA (v:=u0) O<|G.aei (e:=pE) (k:=p) (lo _ gD) P.s JI agP λT m3 G d c3=>?_;have e3:Df T (hN T)=cl 1:=gJ<|Ext.refl _;refine splitK (λK I=>?_) ?_
 .simp only[fu,c3];apply mO (a:=w) (b:=rr) n1 yB fT fT I
 have nn:∀{m},m∈[me,mn,ml]->m∉[ms]:=λ{m} hm h=>(jF.1 ne).1 (by rw[aT.1 h]at hm;exact hm);have m4:M4 (hM (hM H1 H2) T) ms me mn ml {x with sp:=x.sp++[p]}:=⟨m3.plus λj=>gD,P.e.ex d<|nn gD,P.n.ex d<|nn gD,P.l.ex d<|nn gD⟩;generalize hM (hM H1 H2) T=H4 at G m4|-;have h4:=G;have G:=G.base;refine fJ ?_;refine gs.GM G O O O (by rw[uE];omega) λq H5 v' H6 iN E G c5 c6 _=>?_;obtain⟨ac,al,ad,rfl⟩:=E.sl;refine G.n_ λHn G=>?_;refine splitK (λK I=>?_) ?_
 .simp only[fu,gT,c5];rcases c6 with e|e<;>rw[e]<;>apply mO (a:=w) (b:=rr) n1 yB fT fT I
 have m5:=m4.rows h4 G.ext;have G:=fU (A:=[_])<|h4.over G;refine Lu.rr ?_;exact⟨O,_,_,_,_,_,_,_,_,_,_,G,by rw[Ls];exact E,gp,gu,gR,gh,m5,ne,lo⟩
end
end Go.Proofs.Lv
namespace Go.Proofs.Lu.Wk
section
variable{s:Sk}{r a r' a' i n:Nat}{l:C Nat}
def UB(h:KZ s r a=T):KZ (s++[(r,a,l)]) r' a'=if(r',a')=(r,a)then Z (J s)else KZ s r' a':=by
 unfold KZ at h|-;rw[List.findIdx?_append]
 by_cases e:(r',a')=(r,a)
 .cases e;rw[h,jj O];simp
 .rw[jk e]
  have:(r==r'&&a==a')=aA:=by
   rw[<-dn];simp only[bE,ni];exactλg=>e (by rw[g.1,g.2])
  simp[this]
def ael:(mY (s++[(r,a,[])]) n).2.2=(mY s n).2.2:=by
 unfold mY;rw[tC];split
 .rfl
 .next h=>
  rw[dw (p8 h)];cases n-1-J s with
  |zero=>rfl
  |succ k=>rfl
def GV(h:i<J s):mY s (i+1)=s[i]:=by unfold mY;rw[jl,av h];rfl
def agQ(h:i<J s)(I:s[i].1=r)(W:s[i].2.1=a):KZ (s.set i (r,a,l)) r' a'=KZ s r' a':=by
 have e:∀t:Sk,KZ t r' a'=(t.map λe=>(e.1,e.2.1)).findIdx? λe=>e.1==r'&&e.2==a':=λt=>by rw[List.findIdx?_map];rfl
 rw[e,e,gz,show(r,a)=(s.map λe=>(e.1,e.2.1))[i]'(nZ h) by rw[ik,I,W],sI]
def agR(h:i<J s)(d:0<n):(mY (s.set i (r,a,l)) n).2.2=if n=i+1 then l else(mY s n).2.2:=by
 unfold mY;rw[dU]
 by_cases e:n=i+1
 .subst e;rw[jj O,jj N,jj N];rfl
 .rw[jk e,jk N]
end
end Go.Proofs.Lu.Wk
namespace Go.Proofs.Lv
open Go.Proofs.Lu Go.Proofs.Lu.Wk
open Go.Ae Go.Ae.hx
variable{a c me ml mn mo ms n r rs rw' ai:Nat}{au:C Nat}{H Q H0 H1:R}{L hx:C eB}{x y:Rn}
section
variable{S:C Nat}{rr:Nat}
def WS.stk(h:WS S H0 H rr rs ms me mn ml mo x):∃L d w,SH S H0 H ((rs,128,[d,w,fK<|Z mn,fK<|Z ml])::L)/\(∃a c,d=u a (J x.sk+1) c/\Fl H a (J x.sk+1) 2 (vi (-1)::B 0::B6 (x.sk.map λe=>(e.1,e.2.1))))/\∃us az a c L',w=u a (J x.sk+1) c/\Fl H a (J x.sk+1) 1 us/\IX 3 1 ([]::x.sk.map λe=>gq e.2.2) us az/\SH S H0 H (az++L'):=by
 have⟨sv,d,w,us,hv,gS,gP,gU,az,gH,h,gs,gp,gu,gR,gh,m,ne,lo⟩:=h;have I:=fU (A:=[_,_]) h;have W:=fU I;have E:=fU W;obtain⟨V,n,Y,rfl,T,N⟩:=gp.fl W;obtain⟨ua,k,uc,rfl,U,P⟩:=gu.fl E;have K:n=J x.sk+1:=by simp only[cO,uE,aK]at T;omega
 have M:k=J x.sk+1:=by have:=gR.len;simp only[cO,aK]at this;omega
 subst K M;exact⟨_,_,_,fU (A:=[_]) h,⟨_,_,O,N⟩,us,az,_,_,gH,O,P,gR,fU E⟩
def NP{a:aC Addr}(d:H.cell rs 0=Z (u a n c)):bQ Pg X 29 [pr rs] H (Q0 (λv=>v=B n) H):=by
 refine lq [0,2] ?_;refine dA (v:=aR aA) fT ?_;refine bM ?_;refine iY d ?_;refine bM ?_;refine Lu.rr ?_;exact⟨O,O⟩
def amN(h:WS S H0 H rr rs ms me mn ml mo x):bQ Pg X 29 [pr rs] H (Q0 (λv=>v=B (J x.sk+1)) H):=by
 obtain⟨L,d,m,G,⟨a,c,rfl,_⟩,_⟩:=h.stk;exact NP<|(G.get 0 O).cell O
def ajW(h:WS S H0 H rr rs ms me mn ml mo x)(m:n<=J x.sk):bQ Pg X 116 [pr rs,B n] H (Q0 (λv=>v=aR F) H):=by
 obtain⟨L,w,E,G,⟨a,c,rfl,_⟩,_⟩:=h.stk;refine lq [0,1,4] ?_;refine dA (v:=aR F) fT ?_;refine G.lJ ?_;refine aW (λ_=>?_) λd=>absurd (jK n) d;refine fJ ?_;refine Lu.rr ?_;exact⟨by rw[b_ N],rfl⟩
def aoE(h:WS S H0 H rr rs ms me mn ml mo x)(E:0<n)(d:n<=J x.sk):bQ Pg X 113 [pr rs,B n] H (Q0 (λv=>v=B (mY x.sk n).1) H):=by
 refine lq [0,1,4] ?_;refine dD (ajW h d) ?_;rintro _ _ ⟨rfl,rfl⟩;obtain⟨L,I,K,G,⟨a,c,rfl,w⟩,_⟩:=h.stk;refine G.lJ ?_;refine iI (λm=>by cases m) λ_=>?_;apply G.qF;have⟨r,o,e1,hr,hcl,_⟩:=w.idx (c:=c) N (show n<J x.sk+1 by omega);refine dA e1<|G.lJ ?_;obtain⟨k,rfl⟩:∃k,n=k+1:=⟨n-1,N⟩;refine iY (hcl 0 (B (mY x.sk<|k+1).1) N ?_) ?_
 .have:=EX (l:=x.sk.map λe=>(e.1,e.2.1)) (i:=k) (p:=((mY x.sk<|k+1).1,(mY x.sk<|k+1).2.1)) (by rw[bK,av d,GV d];rfl);have:=fq (λl=>l[0]?) this;rw[show(k+1)*2+0=k*2+2 by omega];simp only[oL]at this;simpa using this
 refine Lu.rr ?_;exact⟨O,O⟩
def aoF(h:WS S H0 H rr rs ms me mn ml mo x)(h0:0<n)(E:n<=J x.sk)(U:(mY x.sk n).2.2.length<=8000000):bQ Pg X 114 [pr rs,B n] H (Q1 (λv Q=>∃a c,v=u a (mY x.sk n).2.2.length c/\jJ (H.bU<=·) 3 Q a (mY x.sk n).2.2.length 1 (gq (mY x.sk n).2.2)) H):=by
 refine lq [0,1,4] ?_;refine dD (ajW h E) ?_;rintro _ _ ⟨rfl,rfl⟩;obtain⟨L,pv,uv,G,_,us,az,a,c,L',rfl,W,T,d⟩:=h.stk;refine G.lJ ?_;refine iI (λU=>by cases U) λ_=>?_;apply G.qF;have Y:=T.len;simp only[cO,aK]at Y;have⟨b,m,c2,e,hm,hg⟩:=T.all d n N;have⟨r,o,e1,hr,hcl,_⟩:=W.idx (c:=c) N (show n<J x.sk+1 by omega);refine dA e1<|iY (hcl 0 us[n] N (by rw[dN,d_];exact av N)) ?_;rw[e];obtain⟨k,rfl⟩:∃k,n=k+1:=⟨n-1,N⟩;have V:([]::x.sk.map λe=>gq e.2.2)[k+1]?.getD []=gq (mY x.sk<|k+1).2.2:=by rw[eP,bK,av E,GV E];rfl
 rw[V]at hm hg;rw[aK]at hm;obtain rfl:m=(mY x.sk<|k+1).2.2.length:=N;refine(h_ G.wf).apG N hg.1 N λv' H1 gb w wD M=>?_;obtain⟨va,P,vc,rfl,K,I⟩:=w.UO wD;rw[aK]at K;obtain rfl:P=(mY x.sk<|k+1).2.2.length:=N;refine Lu.rr ?_;exact⟨⟨_,_,O,I⟩,M⟩
end
section
variable{S:C Nat}{rr:Nat}
def aem(s:Sk)(r a:Nat)(l:C Nat):B6 ((s++[(r,a,l)]).map λe=>(e.1,e.2.1))=B6 (s.map λe=>(e.1,e.2.1))++[B r,B a]:=by rw[dM,Ls];rfl
theorem ait(h:WS S H0 H rr rs ms me mn ml mo x)(hn:n<J x.sk)(hr:x.sk[n].1=r)(ha:x.sk[n].2.1=a){fd:Bool}{x8 x9 j_ je mP mM Cc:D}(E:Rs)(ap:(mY x.sk<|n+1).2.2.length<=8000000){Kp:D->R->Prop}(k1:ai∈(mY x.sk<|n+1).2.2->∀Q,WS S H0 Q rr rs ms me mn ml mo x->Kp (fO ⟨[B (n+1),aR<|!fd,aR aA,vi 0]⟩) Q)(k2:ai∉(mY x.sk<|n+1).2.2->∀Q,WS S H0 Q rr rs ms me mn ml mo {x with sk:=x.sk.set n (r,a,(mY x.sk<|n+1).2.2++[ai])}->Kp (fO ⟨[B (n+1),aR<|!fd,aR F,vi 0]⟩) Q):
 iG Pg X (sub Il [1,1,1,1,1,1]) (Gi (pr rs) (B r) (B a) (B ai) x8 x9 j_ je mP (B<|n+1) (aR fd) mM Cc E H) (jZ Pg [.tmp 8,.tmp 9,.tmp 10,.tmp 11] Kp):=by
 have⟨sv,pv,uv,w,hv,gS,gP,gU,az,gH,h,gs,gp,gu,gR,gh,m,ne,lo⟩:=h;refine tl ?_;have G:=h.base;refine dA (v:=dP ⟨[B (n+1),B ai]⟩) O<|G.ns O O O λH1 P G _=>?_;have G:SH _ H H1 ((P,163,[B (n+1),B ai])::(rr,156,[sv,aR x.ok,hv,vi 0,fK<|Z ms,fK<|Z me,B mo])::(rs,128,[pv,uv,fK<|Z mn,fK<|Z ml])::(gS++(gP++(gU++(az++gH))))):=G;have n1:=G.nq 0 2 O O N;refine fJ ?_;have m1:=m.rows h G.ext;refine Ce.has (e:=pE) (k:=(n+1,ai)) (H:=hN H1) m1.l NN Fs aek<|G.lJ ?_;have ac:=G.lt;refine G.ad7 λH2 rz G an c1 ao=>?_;have m2:=m1.ex an nofun;refine G.lJ ?_;refine splitK (λK W=>?_) ?_
 .have n2:rz≠P:=λe=>by have:=ac P gD;omega
  have n3:rz≠rs:=λe=>by have:=ac rs gD;omega
  simp only[c1,fu,gT,gJ<|Ext.refl<|hN _];apply zP (a:=rz) (b:=P) (c:=rs) n2 n3 n1 yB fT fT W
 have G:=h.over G;refine aW (λhp=>?_) λhp=>?_
 .exact Lu.rr<|k1 hp.2 _ ⟨_,_,_,_,_,_,_,_,_,_,fU (A:=[_]) G,gs,gp,gu,gR,gh,m2,ne,lo⟩
 have hp:ai∉(mY x.sk<|n+1).2.2:=λh=>hp ⟨wY n,h⟩;refine fJ ?_;refine dA (v:=u0) O<|G.aei (e:=pE) (k:=(n+1,ai)) (lo _ gD) m2.l NN aek λH3 m3 G M c3=>?_;refine splitK (λK W=>?_) ?_
 .simp only[fu,c3];apply mO (a:=P) (b:=rs) n1 yB fT fT W
 have nn:∀{m},m∈[ms,me,mn]->m∉[ml]:=λ{m} hm h=>(l8.1 (show([ms,me,mn]++[ml]).Nodup from ne)).2.2 m hm m h O
 have m4:M4 (hM (hM H1 H2) H3) ms me mn ml {x with sk:=x.sk.set n (r,a,(mY x.sk<|n+1).2.2++[ai])}:=⟨m2.s.ex M<|nn gD,m2.e.ex M<|nn gD,by
  have:=m2.n.ex M<|nn gD
  simp only[agQ hn hr ha];exact this,m3.plus λj=>by
   by_cases h0:0<j.1
   .rw[agR hn h0]
    by_cases hj:j.1=n+1
    .rw[jj hj,hj];simp[zM,hj]
    .rw[jk hj];simp[zM,hj]
   .simp[zM,h0];omega⟩
 generalize hM (hM H1 H2) H3=H4 at G m4|-;have ad:J w=J x.sk+1:=by rw[<-gR.len];simp
 obtain⟨d,U,eY,rfl,rfl,mk⟩:∃d U eY,uv=u (Z ⟨d,0,T⟩) (J w) U/\gU=[(d,22,w++eY)]/\∀I,J I=J w->GJ 22 1 (u (Z ⟨d,0,T⟩) (J w) U) I [(d,22,I++eY)]:=by
  rcases id gu with(⟨_,e,_⟩|⟨d,k,eY,V,hk,e2⟩)|⟨d,k,V,hk,e2⟩
  .rw[e]at ad;simp at ad
  .obtain rfl:k=J w:=N;exact⟨d,_,eY,V,e2,λI he=>.inl<|.inr ⟨d,_,eY,rfl,N,rfl⟩⟩
  .obtain rfl:k=J w:=N;exact⟨d,_,[],V,by rw[e2,bF],λI he=>.inr ⟨d,_,rfl,N,by rw[bF]⟩⟩
 obtain⟨A',gb,vn,rfl,Y,ab⟩:=gR.at (n+1) N;have al:([]::x.sk.map λe=>gq e.2.2)[n+1]?.getD []=gq (mY x.sk<|n+1).2.2:=by rw[eP,bK,av hn,GV hn];rfl
 rw[al]at Y;have G:=G.cast (L':=(P,163,[B (n+1),B ai])::(rr,156,[sv,aR x.ok,hv,vi 0,fK<|Z ms,fK<|Z me,B mo])::(rs,128,[pv,u (Z ⟨d,0,T⟩) (J w) U,fK<|Z mn,fK<|Z ml])::(gS++(gP++((d,22,w++eY)::((A'++(gb++vn))++gH))))) O;have am:(w++eY)[n+1]?=Z w[n+1]:=by rw[bX N];exact av N
 have h4:=G;have G:=G.base;refine fJ ?_;refine G.R8 (k:=n+1) N am<|G.lJ ?_;refine Y.GM G O O O (by rw[aK];omega) λq H5 v' H6 iN VL G c5 c6 h5=>?_;obtain⟨va,vl,vc,rfl⟩:=VL.sl;have h6:=G;refine G.OM (k:=n+1) N (by rw[aS];omega) (kk:=λH7 G=>?_);have n2:d≠rs:=h5.neT;refine splitK (λK W=>?_) ?_
 .have r1:∀{a b:R},oQ ⟨2,0,0,0,hM H4 H5,H6⟩ ⟨4,rs,1,1,a,b⟩=F:=h5.rd h6 λv hv=>by
   have hv:v∈[u (Z ⟨d,0,T⟩) (J w) U]:=hv;rw[aT]at hv;subst hv;exact qQ _ _ _ λx h=>by cases h;rfl
  have r2:∀{a b:R},oQ ⟨2,0,0,0,hM H4 H5,H6⟩ ⟨4,d,n+1,1,a,b⟩=F:=h5.rd h6 (λv hv=>by
   rw[eO (by rw[aS];omega),jU,kT,jB N,aT]at hv;subst hv;exact Ba gR _<|bH _) (by rw[aS];omega)
  simp only[c5,fu,gT];generalize n+1=k at r2|-;rcases c6 with e|e<;>rw[e]<;>apply Ii (A:=hM H4 H5) (vn:=H6) (a:=d) (b:=rs) n2 (by rfl) fT fT W<;>repeat' apply iZ
  all_goals first|exact trivial|(intro h;cases h;done)|exactλ_=>⟨rfl,rfl⟩|exactλ_=>r1|exactλ_=>r2
 have m5:=m4.rows h4 G.ext;have G:=(fU (A:=[_])<|h4.over G).cast (L':=_::_::(gS++(gP++([(d,22,w.set (n+1) (u va vl vc)++eY)]++((A'++(iN++vn))++gH))))) (by rw[nR _ _ N];rfl)
 have V:(x.sk.set n (r,a,(mY x.sk<|n+1).2.2++[ai])).map (λe=>(e.1,e.2.1))=x.sk.map λe=>(e.1,e.2.1):=by
  rw[gz,show(r,a)=(x.sk.map λe=>(e.1,e.2.1))[n]'(nZ hn) by rw[ik,hr,ha],sI]
 refine Lu.rr<|k2 hp _ ⟨_,_,_,_,_,_,_,_,_,_,G,gs,by dsimp only;rw[V];exact gp,mk _<|by rw[bR],?_,gh,m5,ne,lo⟩;have:=ab (u va vl vc) _ iN VL;dsimp only;rw[gz,show gq ((mY x.sk<|n+1).2.2++[ai])=gq (mY x.sk<|n+1).2.2++[B ai]from dM,<-kG];exact this
def aoG(h:WS S H0 H rr rs ms me mn ml mo x)(hu:ai<=J x.sk)(hk:J x.sk<=1000000)(ac:∀n,(mY x.sk n).2.2.length<=8000000):bQ Pg X 92 [pr rs,B r,B a,B ai] H λv Q=>∃b,v=fO ⟨[B (put x.sk r a ai).2.1,aR b,aR (put x.sk r a ai).2.2,vi 0]⟩/\WS S H0 Q rr rs ms me mn ml mo {x with sk:=(put x.sk r a ai).1}:=by
 refine lq [0,1,2,3,8,9,10,11,12,13,14,15,17] ?_;refine dD (amN h) ?_;rintro _ H ⟨rfl,rfl⟩;refine bM ?_;refine aW (λY=>N) λ_=>?_;refine aW (λY=>N) λ_=>?_;refine aW (λY=>N) λ_=>?_;refine dD (ajW h hu) ?_;rintro _ H ⟨rfl,rfl⟩;refine bM ?_;refine tl ?_;refine iI (λT=>by cases T) λ_=>?_;refine tl ?_;have⟨sv,pv,uv,us,hv,gS,gP,gU,az,gH,h,gs,gp,gu,gR,gh,m,ne,lo⟩:=h;obtain⟨pa,pn,pc,rfl,ab⟩:=gp.OP;simp only[cO,uE,aK]at ab;obtain rfl:pn=J x.sk+1:=N;have G:=h.base;refine dA (v:=dP ⟨[B r,B a]⟩) O<|G.ns O O O λH1 U G _=>?_;have G:SH _ H H1 ((U,161,[B r,B a])::(rr,156,[sv,aR x.ok,hv,vi 0,fK<|Z ms,fK<|Z me,B mo])::(rs,128,[u pa (J x.sk+1) pc,uv,fK<|Z mn,fK<|Z ml])::(gS++(gP++(gU++(az++gH))))):=G;have n1:U≠rs:=G.neT;refine fJ ?_;have I:=m.rows h G.ext;refine Ce.Kn (e:=pE) (k:=(r,a)) (H:=hN H1) I.n NM ajV aej<|fJ ?_;cases hf:KZ x.sk r a with
 |some k=>
  refine iI (λT=>by cases T) λ_=>?_;have⟨hk1,hk2,hk3,_⟩:=II hf;rw[GV hk1]at hk2 hk3;have e:∀b,put x.sk r a ai=b<->(if ai∈(mY x.sk<|k+1).2.2 then(x.sk,k+1,aA)else(x.sk.set k (r,a,(mY x.sk<|k+1).2.2++[ai]),k+1,F))=b:=λb=>by unfold put;rw[hf]
  refine ait (n:=k) (fd:=F) ⟨_,_,_,_,_,_,_,_,_,_,fU (A:=[_])<|h.over G,gs,gp,gu,gR,gh,I,ne,lo⟩ hk1 hk2 hk3 _ (ac _) (λd Q w=>?_) λd Q w=>?_
  .rw[(e _).2 (jj d)];exact⟨_,O,w⟩
  .rw[(e _).2 (jk d)];exact⟨_,O,w⟩
 |none=>
  refine iI (λ_=>?_) (λT=>by cases T);refine fJ ?_
  with_reducible refine aW (λY=>N) λ_=>?_
  refine fJ ?_;have G:=h.over G;refine G.aei (e:=pE) (k:=(r,a)) (lo _ gD) I.n NM aej λH3 m3 G E c3=>?_;refine splitK (λK W=>?_) ?_
  .simp only[fu,c3];apply mO (a:=U) (b:=rs) n1 yB fT fT W
  have nn:∀{m},m∈[ms,me,ml]->m∉[mn]:=λ{m} d h=>by
   rw[aT.1 h]at d;have:=(jF.1 (jF.1 (jF.1 ne).2).2).1;simp only[jF,bW,fF,jo,not_or]at ne d this;rcases d with h|h|h
   .exact ne.1.2.1 h.symm
   .exact ne.2.1.1 h.symm
   .exact this h
  have m4:M4 (hM H1 H3) ms me mn ml {x with sk:=x.sk++[(r,a,[])]}:=⟨I.s.ex E<|nn gD,I.e.ex E<|nn gD,by
   have:(λp:Sp=>(KZ (x.sk++[(r,a,[])]) p.1 p.2).map λk=>B<|k+1)=λj=>if j=(r,a)then Z (B<|J x.sk+1)else(KZ x.sk j.1 j.2).map λk=>B (k+1):=funext λj=>by
    rw[UB hf];split<;>rfl
   dsimp only;rw[this];exact m3,by
   have:=I.l.ex E<|nn gD;dsimp only;simp only[ael];exact this⟩
  generalize hM H1 H3=H4 at G m4|-;have h4:=G;have G:=G.base;refine fJ ?_;refine gp.GM G O O O (by simp only[cO,uE,aK];omega) λq H5 v' H6 ad M G c5 c6 _=>?_;obtain⟨qa,qn,qc,rfl⟩:=M.sl;refine G.n_ λHn G=>?_;refine splitK (λK W=>?_) ?_
  .simp only[fu,gT,c5];rcases c6 with e|e<;>rw[e]<;>apply mO (a:=U) (b:=rs) n1 yB fT fT W
  apply G.qF;have am:J us=J x.sk+1:=by rw[<-gR.len];simp
  refine gu.ND G O O O N λq H9 v' al P G=>?_;obtain⟨ya,yn,yc,rfl⟩:=P.sl;refine G.kE λHn G=>?_;have m5:=m4.rows h4 G.ext;have G:=fU (A:=[_])<|h4.over G;have hn:J x.sk<J (x.sk++[(r,a,[])]):=gD;have e:∀b,put x.sk r a ai=b<->(x.sk++[(r,a,[ai])],J x.sk+1,F)=b:=λb=>by unfold put;rw[hf]
  have V:(mY (x.sk++[(r,a,[])])<|J x.sk+1).2.2=[]:=by rw[GV hn];simp
  refine ait (x:={x with sk:=x.sk++[(r,a,[])]}) (n:=J x.sk) (fd:=aA) (a:=a) (r:=r) ⟨_,_,_,_,_,_,_,_,_,_,G,gs,by dsimp only;rw[aem];exact .inl M,.inl P,?_,gh,m5,ne,lo⟩ hn gD gD _ (by dsimp only;rw[V];exact bD _) (λd=>?_) λd Q w=>?_
  .have:=gR.snoc (GB.nil 3 1);dsimp only;rw[bF]at this;rw[dM];exact this
  .dsimp only at d;rw[V]at d;cases d
  .dsimp only at w;rw[(e _).2 O];rw[V,sH _ _<|ax _,kN]at w;exact⟨_,O,w⟩
end
section
variable{S:C Nat}{rr:Nat}{ay:Nat->Prop}{A:At}{q:AV}{ev sv:D}{sb:C Bool}
def GU.stay(h:GU ay H rw' A q ev sv sb)(M:pI S H Q)(G:∀r∈S,¬ay r):GU ay Q rw' A q ev sv sb:=
 ⟨⟨h.k.1,aO h.k.2 M.bU⟩,h.b.iE<|M.obj _ h.k.2 λd=>G _ d h.k.1,h.a.stay M G,let⟨sa,sc,e,hf⟩:=h.s;⟨sa,sc,e,hf.stay M λr d=>.inl<|G r d⟩,h.l,h.on,let⟨eb,ea,ec,e,hf,g⟩:=h.e;⟨eb,ea,ec,e,hf.stay M λr d=>.inl<|G r d,g⟩⟩
def agS(h:GU ay H rw' A q ev sv sb)(w:n<A.ns):bQ Pg X 60 [pr rw',B n] H (Q0 (λv=>v=aR F) H):=by
 obtain⟨E,sc,rfl,m⟩:=h.s;refine GY [0,1,4] ?_;refine aW (λ_=>?_) λd=>absurd (jK n) d;refine iY (h.b.cell (o:=7) O) ?_;refine bM ?_;refine Lu.rr ?_;exact⟨by rw[b_ N],rfl⟩
def RJ(h:GU ay H rw' A q ev sv sb)(ho:A.Ok):bQ Pg X 59 [pr rw'] H (Q0 (λv=>v=aR aA) H):=by
 obtain⟨w,sc,rfl,m⟩:=h.s;have d:=(ho.s 0 ho.pos).1;refine lq [0,2] ?_;refine dA (v:=aR aA) fT ?_;refine bM ?_;refine iY (h.b.cell (o:=7) O) ?_;refine bM ?_;refine Lu.rr ?_;exact⟨by rw[dR N],rfl⟩
def Ext.hN(H:R):Ext H (hN H):=⟨ax _,λ_ _ _=>rfl,λ_ _ h _=>h,λ_=>ax _⟩
def _root_.Go.Ae.pI.trans'{H'':R}(h:pI S H Q)(M:Ext Q H''):pI S H H'':=h.later M nofun
def WS.ext(h:WS S H0 H rr rs ms me mn ml mo x):pI S H0 H:=let⟨_,_,_,_,_,_,_,_,_,_,h,_⟩:=h;h.ext
def WS.wf(h:WS S H0 H rr rs ms me mn ml mo x):Wf H:=let⟨_,_,_,_,_,_,_,_,_,_,h,_⟩:=h;h.wf
def WS.call(h:WS S H0 H rr rs ms me mn ml mo x)(M:Ext H Q):WS S H0 Q rr rs ms me mn ml mo x:=
 let⟨sv,pv,uv,us,hv,gS,gP,gU,az,gH,h,gs,gp,gu,gR,gh,m,ne,lo⟩:=h
 ⟨sv,pv,uv,us,hv,gS,gP,gU,az,gH,h.call M,gs,gp,gu,gR,gh,m.ex M<|nofun,ne,lo⟩
def WS.own(h:WS S H0 H rr rs ms me mn ml mo x):∃au,(∀r∈au,r<H.bU/\(r∈S\/H0.bU<=r))/\∀Q,Ext H Q->WS au Q Q rr rs ms me mn ml mo x:=by
 have⟨sv,pv,uv,us,hv,gS,gP,gU,az,gH,h,gs,gp,gu,gR,gh,m,ne,lo⟩:=h;refine⟨[ms,me,mn,ml]++_,λr hr=>?_,λQ M=>⟨sv,pv,uv,us,hv,gS,gP,gU,az,gH,⟨pI.refl _ _,λe d=>(h.bk e d).iE<|M.obj _ (h.lo e d).2 nofun,λe d=>⟨.inl<|dL _<|bP.2 ⟨e,d,rfl⟩,aO (h.lo e d).2 M.bU⟩,h.ne,M.wf h.wf⟩,gs,gp,gu,gR,gh,m.ex M<|nofun,ne,λm w=>.inl<|dK _ w⟩⟩;rcases cK.1 hr with hr|hr
 .refine⟨?_,lo r hr⟩;simp only[bW,fF,jo]at hr;rcases hr with rfl|rfl|rfl|rfl
  .have⟨_,h,_⟩:=m.s;exact h
  .have⟨_,h,_⟩:=m.e;exact h
  .have⟨_,h,_⟩:=m.n;exact h
  .have⟨_,h,_⟩:=m.l;exact h
 .obtain⟨e,d,rfl⟩:=bP.1 hr;exact⟨(h.lo e d).2,(h.lo e d).1⟩
def _root_.Go.Ae.SH.ajX{vn:R}(G:SH au vn H L)(hl:∀e∈L,vn.bU<=e.1)(m:∀r∈au,r<vn.bU)(M:pI au H Q):SH au vn Q L:=
 ⟨G.ext.trans M,λe d=>(G.bk e d).iE (M.obj _ (G.lo e d).2 λh=>by have:=m _ h;have:=hl e d;omega),λe d=>⟨(G.lo e d).1,aO (G.lo e d).2 M.bU⟩,G.ne,M.wf G.wf⟩
def WS.up{H2:R}(M:pI S H0 H1)(d:∀r∈au,r∈S\/H0.bU<=r)(h:WS au H1 H2 rr rs ms me mn ml mo y):WS S H0 H2 rr rs ms me mn ml mo y:=by
 have⟨sv,pv,uv,us,hv,gS,gP,gU,az,gH,h,gs,gp,gu,gR,gh,m,ne,lo⟩:=h;have up:∀r,r∈au\/H1.bU<=r->r∈S\/H0.bU<=r:=λr E=>E.elim (d r) λh=>.inr<|aQ M.bU h;exact⟨sv,pv,uv,us,hv,gS,gP,gU,az,gH,⟨M.later h.ext d,h.bk,λe w=>⟨up _ (h.lo e w).1,(h.lo e w).2⟩,h.ne,h.wf⟩,gs,gp,gu,gR,gh,m,ne,λm B=>up m<|lo m B⟩
def WS.m(w:Wf H)(h:WS au (hN H) H1 rr rs ms me mn ml mo y):WS au H (hM H H1) rr rs ms me mn ml mo y:=by
 have⟨sv,pv,uv,us,hv,gS,gP,gU,az,gH,h,gs,gp,gu,gR,gh,m,ne,lo⟩:=h;have M:=h.ext.draw;exact⟨sv,pv,uv,us,hv,gS,gP,gU,az,gH,⟨M,λe d=>(h.bk e d).iE O,h.lo,h.ne,M.wf w⟩,gs,gp,gu,gR,gh,⟨m.s,m.e,m.n,m.l⟩,ne,lo⟩
structure Lim(A:At)(a mo:Nat):Prop where
 m:bnd A a<=mo
 b:bnd A a<=8000000
 s:A.ns*(a+1)<=1000000
variable{p:Sp}
abbrev fm(r:Nat)(l:C Nat)(y:Rn):Rn:=l.foldl (λy ai=>y.meet (r,ai)) y
def RL(h:WS S H0 H rr rs ms me mn ml mo x)(d:Lim A a mo)(w:(x.meet p).h2 A a):bQ Pg X 87 [pr rr,pE p] H λv Q=>v=aR F/\WS S H0 Q rr rs ms me mn ml mo (x.meet p):=amM h (aQ w.le d.m)<|aQ w.le d.b
theorem amO(hk:GU ay H0 rw' A q ev sv sb)(hF:∀r∈S,¬ay r)(h:WS S H0 H rr rs ms me mn ml mo x)(hL:Lim A a mo)(I:x.h2 A a)(hp:p∈x.sp):bQ Pg X 88 [pr rw',pr rr,pr rs,pE p] H λv Q=>v=aR F/\WS S H0 Q rr rs ms me mn ml mo (x.back p):=by
 have al:=I.b p hp;have⟨sv',pv,uv,us,hv,gS,gP,gU,az,gH,h,gs,gp,gu,gR,gh,m,ne,lo⟩:=h;refine lq [0,1,2,3,7,8,10,11,13,50,51,52] ?_;have G:=h.base;refine G.box O λH1 V G=>?_;have G:SH _ H H1 ((V,86,[B p.1,B p.2])::(rr,156,[sv',aR x.ok,hv,vi 0,fK<|Z ms,fK<|Z me,B mo])::(rs,128,[pv,uv,fK<|Z mn,fK<|Z ml])::(gS++(gP++(gU++(az++gH))))):=G;have n1:V≠rr:=G.neT;refine fJ ?_;unfold Rn.back;refine aW (λhc=>?_) λhc=>?_
 .refine G.kE λHn G=>?_;rw[jj N];have U:=m.rows h G.ext;refine Lu.rr ?_;exact⟨O,_,_,_,_,_,_,_,_,_,_,fU (A:=[_])<|h.over G,gs,gp,gu,gR,gh,⟨U.s,U.e,U.n,U.l⟩,ne,lo⟩
 rw[jk N];refine fJ ?_;have U:=m.rows h G.ext;refine Ce.has (e:=vnE) (k:=p.2) (H:=hN H1) U.e RG Fs eq3<|G.lJ ?_;have Y:=G.lt;refine G.ad7 λH2 rz G ao c1 aE=>?_;have m2:=U.ex ao nofun;refine G.lJ ?_;refine splitK (λK hK=>?_) ?_
 .have n2:rz≠V:=λe=>by have:=Y V gD;omega
  have n3:rz≠rr:=λe=>by have:=Y rr gD;omega
  simp only[c1,fu,gT,gJ<|Ext.refl<|hN _];apply zP (a:=rz) (b:=V) (c:=rr) n2 n3 n1 yB fT fT hK
 have G:=h.over G;refine aW (λhe=>?_) λhe=>?_
 .rw[jj he];refine Lu.rr ?_;exact⟨O,_,_,_,_,_,_,_,_,_,_,fU (A:=[_]) G,gs,gp,gu,gR,gh,m2,ne,lo⟩
 rw[jk he];refine fJ ?_;refine dA (v:=u0) O<|G.aei (e:=vnE) (k:=p.2) (lo _ gD) m2.e RG eq3 λH3 m3 G T c3=>?_;refine splitK (λK hK=>?_) ?_
 .simp only[fu,c3];apply mO (a:=V) (b:=rr) n1 yB fT fT hK
 have nn:∀{m},m∈[ms,mn,ml]->m∉[me]:=λ{m} hm h=>by
  rw[aT.1 h]at hm;simp only[jF,bW,fF,jo,not_or]at ne hm;rcases hm with h|h|h
  .exact ne.1.1 h.symm
  .exact ne.2.1.1 h
  .exact ne.2.1.2 h
 have m4:M4 (hM (hM H1 H2) H3) ms me mn ml {x with en:=p.2::x.en}:=⟨m2.s.ex T<|nn gD,m3.plus λj=>by simp[or_comm],m2.n.ex T<|nn gD,m2.l.ex T<|nn gD⟩;generalize hM (hM H1 H2) H3=H4 at G m4|-;apply G.qF;have hw:WS S H0 H4 rr rs ms me mn ml mo {x with en:=p.2::x.en}:=⟨_,_,_,_,_,_,_,_,_,_,fU (A:=[_]) G,gs,gp,gu,gR,gh,m4,ne,lo⟩;have ab:p.2<=J x.sk:=al.2
 have ad:mY x.sk p.2∈x.sk:=by
  obtain⟨k,hk⟩:∃k,p.2=k+1:=⟨p.2-1,N⟩;rw[hk,GV N];exact bH _
 have JF:=I.sk.few p.2;have aq:=I.sk.le;have ar:=hL.s;have P:=I.sk.b _ ad;have ac:∀j,(fm (mY x.sk p.2).1 ((mY x.sk p.2).2.2.take j) {x with en:=p.2::x.en}).h2 A a:=λj=>Rn.h2.meets (cs:=λai=>((mY x.sk p.2).1,ai)) _ _ ⟨I.sk,I.nd,I.b⟩ λai hu=>⟨P.1.1,P.2 ai<|fG hu⟩;refine dD (aoE hw N ab) ?_;rintro _ H4 ⟨rfl,rfl⟩;refine dD (agS (hk.stay hw.ext hF) P.1.1) ?_;rintro _ H4 ⟨rfl,rfl⟩;refine G.lJ ?_;refine iI (λhb=>by cases hb) λ_=>?_;apply G.qF;have⟨au,hT,hwT⟩:=hw.own;refine dD (aoF hw N ab (by dsimp only;omega)) ?_;rintro _ H6 ⟨⟨ua,uc,rfl,hf⟩,M⟩;refine bM ?_;have am:=hwT H6 M;have ap:=hw.ext.trans' M;refine Ik 8 13 52 (h1:=λm x8 ko VT Q=>∃j:Nat,VT=B j/\j+m=(mY x.sk p.2).2.2.length/\WS au H6 Q rr rs ms me mn ml mo (fm (mY x.sk p.2).1 ((mY x.sk p.2).2.2.take j) {x with en:=p.2::x.en})) ?_ (mY x.sk p.2).2.2.length ⟨0,O,bB _,am⟩;rintro m' x8 ko VT E H7 ⟨j,rfl,hj,w⟩;refine lX (λhc=>?_) λhc=>?_
 .rw[dV N]at w;refine tl<|Lu.rr ?_;exact⟨O,w.up ap λr hr=>(hT r hr).2⟩
 have d:j<(mY x.sk p.2).2.2.length:=N;refine(hf.stay w.ext λr hr=>.inl<|fH (hT r hr).1).ix d (A_ d) λ_=>?_;rw[getD_in (h:=d)];refine dA (v:=pE ((mY x.sk p.2).1,(mY x.sk p.2).2.2[j])) O ?_;have e:fm (mY x.sk p.2).1 ((mY x.sk p.2).2.2.take<|j+1) {x with en:=p.2::x.en}=(fm (mY x.sk p.2).1 ((mY x.sk p.2).2.2.take j) {x with en:=p.2::x.en}).meet ((mY x.sk p.2).1,(mY x.sk p.2).2.2[j]):=by unfold fm;rw[dY,av d,iW];rfl
 have W:=ac<|j+1;rw[e]at W;refine dD (RL w hL W) ?_;rintro _ H8 ⟨rfl,an⟩;refine bM ?_;refine iI (λhb=>by cases hb) λ_=>?_;refine eG ?_;exact⟨(mY x.sk p.2).2.2.length-(j+1),N,_,_,_,_,_,O,j+1,pJ,N,by rw[e];exact an⟩
end
end Go.Proofs.Lv
namespace Go.Ae
variable{a j:Nat}{t:aH}{ox oy:cB}{b:Int}{k:gm}
def aaE{P:aX}{a:Int}{j:gm}(h:0<=b):mW P .shl t ox oy (bq k a) (bq j b)=Z (bq k<|QU k a b):=by
 show lH (Op.shift .shl k a j b)=_;unfold Op.shift;rw[jk N];rfl
def Qa{P:aX}{a:Int}{j:gm}(h:0<=b):mW P .shr t ox oy (bq k a) (bq j b)=Z (bq k<|F_ k a b):=by
 show lH (Op.shift .shr k a j b)=_;unfold Op.shift;rw[jk N];rfl
def wrap64(h:a<2^64):oG fB (a:Int)=(a:Int):=by
 simp[oG,IntKind.bits,IntKind.signed];omega
def ofInt64(h:a<2^64):(kW 64 (a:Int)).toNat=a:=by
 rw[BitVec.toNat_ofInt];have:((a:Int) %((2^64:Nat):Int))=(a:Int):=Int.emod_eq_of_lt N (by exact_mod_cast h);rw[this];rfl
def amP{b:Nat}(d:a<2^64)(m:b<2^64):bOr fB (a:Int) (b:Int)=((a|||b:Nat):Int):=by
 unfold bOr;rw[show(fB).bits=64 from O,BitVec.toNat_or,ofInt64 d,ofInt64 m];exact wrap64<|vk d m
def amQ(d:j<64):QU fB 1 (j:Int)=((2^j:Nat):Int):=by
 unfold QU;rw[kX,show min j (fB).bits=j from jI (by show j<=64;omega),Int.one_mul,show(2:Int)^j=((2^j:Nat):Int) by push_cast;rfl];exact wrap64<|tH jq d
def aiu(d:a<2^64)(w:j<64):decide (ZX fB (F_ fB (a:Int) (j:Int)) 1=1)=a.testBit j:=by
 have e:F_ fB (a:Int) (j:Int)=((a/2^j:Nat):Int):=by
  unfold F_;rw[kX,show min j (fB).bits=j from jI (by show j<=64;omega),tX _<|Int.le_of_lt<|Int.pow_pos jq]
  push_cast;rfl
 have m:a/2^j<2^64:=Nat.lt_of_le_of_lt (Nat.div_le_self _ _) d;unfold ZX;rw[e,show(1:Int)=((1:Nat):Int)from O,show(fB).bits=64 from O,BitVec.toNat_and,ofInt64 m,ofInt64 jq,Nat.and_one_is_mod,wrap64 N];rw[qz];exact wB.2 N
end Go.Ae
namespace Go.Proofs.Lv
open Go.Proofs.Lu Go.Proofs.Lu.Wk
open Go.Ae Go.Ae.hx
variable{sb:C Bool}{l o:C Sp}{ae a c fc htc htn me ml mn mo ms n r rs rw' st:Nat}{L hx gb:C eB}{fa IL:aC Addr}{F':Nat->Prop}{p:Sp}{hd:Nat->Bool}{H Q H0:R}{A:At}{q:AV}{au ts:C Nat}{x:Rn}{hv sv v:D}{ok:Bool}{t:Int}{e:Ed}{s:Sk}
section
variable{S:C Nat}{ay:Nat->Prop}
abbrev zJ(n:Nat):D:=bq fB (n:Int)
def wd1(h2:C Nat)(t:Nat):C Nat:=h2.set (t/64)<|h2.getD (t/64) 0|||2^(t %64)
def top'(ts:C Nat):Int:=ts.foldl (λ(m:Int)(t:Nat)=>max m (t:Int)) (-1)
def US(ts:C Nat):C Nat:=ts.foldl wd1<|aY ((top' ts+64)/64).toNat 0
def hasB(h2:C Nat)(t:Nat):Bool:=(h2.getD (t/64) 0).testBit<|t %64
def WO:∀(ts:C Nat)(m:Int),m<=ts.foldl (λ(m:Int)(t:Nat)=>max m (t:Int)) m/\∀t∈ts,(t:Int)<=ts.foldl (λ(m:Int)(t:Nat)=>max m (t:Int)) m
 |[],m=>⟨lY _,nofun⟩
 |ai::ts,m=>by
  have⟨I,W⟩:=WO ts<|max m ai;refine⟨wW N I,λt ht=>?_⟩;rcases bW.1 ht with rfl|ht
  .exact wW N I
  .exact W t ht
def aeo{n:Int}:∀(ts:C Nat)(m:Int),m<n->(∀t∈ts,(t:Int)<n)->ts.foldl (λ(m:Int)(t:Nat)=>max m (t:Int)) m<n
 |[],m,h,_=>h
 |ai::ts,m,h,hb=>aeo ts _ (by have:=hb ai gD;show max m (ai:Int)<n;omega) λt ht=>hb t (by simp[ht])
def YY(h2:C Nat)(t:Nat):J (wd1 h2 t)=J h2:=bR
theorem ajY{h2:C Nat}(h:∀w∈h2,w<2^64)(t:Nat):∀w∈wd1 h2 t,w<2^64:=λw d=>by
 rcases iX d with g|rfl
 .exact h w g
 .refine vk ?_ (tH jq<|o9 _ jq);rw[aU];cases e:h2[t/64]? with
  |none=>exact uk 64
  |some x=>exact h x<|aV e
def aep{h2:C Nat}{t:Nat}(ht:t/64<J h2)(ai:Nat):hasB (wd1 h2 t) ai=(hasB h2 ai||decide (ai=t)):=by
 unfold hasB wd1;rw[aU,dU]
 by_cases h:t/64=ai/64
 .rw[jj h,jj ht,p_,xS,h,Nat.testBit_two_pow];congr 1;exact wB.2 N
 .rw[jk h,dR N,nP,aU]
theorem aer(ts:C Nat):∀(h2:C Nat),(∀t∈ts,t/64<J h2)->∀ai,hasB (ts.foldl wd1 h2) ai=(hasB h2 ai||decide (ai∈ts)):=by
 induction ts with
 |nil=>intro h2 _ ai;simp
 |cons t ts d=>
  intro h2 h ai;rw[lF,d _ (λs hs=>by rw[YY];exact h s<|by simp[hs]),aep<|h t gD,Bool.or_assoc];congr 1
  by_cases e:ai=t<;>simp[e]
def Lt(ts:C Nat)(ai:Nat):hasB (US ts) ai=decide (ai∈ts):=by
 unfold US
 rw[aer ts _ (λt d=>by
  rw[kg];have:=(WO ts (-1)).2 t d;unfold top';omega)]
 have:hasB (aY ((top' ts+64)/64).toNat 0) ai=aA:=by
  unfold hasB;rw[aU,l6];split<;>simp
 rw[this,tu]
def FE(ay:Nat->Prop)(H:R)(v:D)(h2:C Nat):Prop:=∃r,v=u (Z ⟨r,0,T⟩) (J h2) (J h2)/\ay r/\r<H.bU/\Bk H r 105 (h2.map zJ)/\J h2<=1024/\∀w∈h2,w<2^64
def FE.stay{h2:C Nat}(h:FE ay H v h2)(M:pI S H Q)(G:∀r∈S,¬ay r):FE ay Q v h2:=let⟨r,I,W,h3,h4,h5⟩:=h;⟨r,I,W,aO h3 M.bU,h4.iE<|M.obj r h3 λd=>G r d W,h5⟩
def EY(z:Int):bQ Pg X 67 [vi z] H (Q0 (λv=>v=aR (decide<|0<=z/\z<65536)) H):=by
 refine ce [0,2] ?_;refine tQ (λh=>?_) λh=>?_
 .refine rr ?_;exact⟨by simp[h],rfl⟩
 .refine rr ?_;exact⟨by simp[h],rfl⟩
def aiv(z:Int):bQ Pg X 50 [u T 0 0,vi z] H (Q0 (λv=>v=aR aA) H):=by
 refine lq [0,1,4] ?_;refine dD (EY z) ?_;rintro _ _ ⟨rfl,rfl⟩;refine tO (λh=>?_) λh=>?_
 .refine dA (Ie N N N) ?_;refine bM ?_;refine aW (λh=>N) λ_=>?_;refine rr ?_;exact⟨O,O⟩
 .refine rr ?_;exact⟨O,O⟩
def aaF{h2:C Nat}(hv:FE ay H v h2)(z:Int):bQ Pg X 50 [v,vi z] H (Q0 (λv=>v=aR (decide (0<=z/\z<65536)&&hasB h2 z.toNat)) H):=by
 obtain⟨r,rfl,_,B,d,w,m⟩:=hv;refine lq [0,1,4] ?_;refine dD (EY z) ?_;rintro _ _ ⟨rfl,rfl⟩;refine MO (λh=>?_) λh=>?_
 .refine rr ?_;exact⟨by simp only[dR h];rfl,rfl⟩
 obtain⟨t,rfl⟩:∃t:Nat,z=t:=⟨z.toNat,N⟩;refine dA (NR 64 O jq N) ?_;refine tO (λW=>?_) λW=>?_
 .refine dA (NR 64 O jq N)<|dA (uQ N)<|iY (v:=zJ h2[t/64]) (d.cell (by rw[bB,dN];exact jX _<|av N)) ?_;refine dA (sw 64 O jq N) ?_;refine dA (Qa<|jK _) ?_;refine bM ?_;refine rr ?_;refine⟨?_,O⟩;rw[aiu (m _<|bH _) (o9 _ jq),b_ h,oZ];unfold hasB;rw[kX,aU,av (show t/64<J h2 by omega)];rfl
 .refine rr ?_;refine⟨?_,O⟩;unfold hasB;rw[kX,aU,dw N];simp
def NS(U:Wf H){a:aC Addr}(hf:jJ ay 3 H a (J ts) 1<|gq ts)(ht:∀t∈ts,t<65536)(hn:J ts<=16777216):bQ Pg X 37 [u a (J ts) c] H (Q1 (λv Q=>FE (H.bU<=·) Q v<|US ts) H):=by
 refine GY [0,2,3,5,6,8,9,10,11,25,26,27] ?_;have M:=aeo (n:=65536) ts (-1) N λt h=>by have:=ht t h;omega
 have ab:=WO ts (-1);refine Ik 3 5 11 (h1:=λm x3 x5 je Q=>∃j:Nat,je=B j/\j+m=J ts/\Q=H/\x3=vi ((ts.take j).foldl (λ(m:Int)(t:Nat)=>max m (t:Int)) (-1))) ?_ (J ts) ⟨0,rfl,bB _,rfl,rfl⟩;rintro m x3 x5 je E H1 ⟨j,rfl,hj,rfl,rfl⟩;refine tQ (λhc=>?_) λhc=>?_
 .have I:j<J ts:=N;refine hf.ix I (A_ I) λ_=>?_;rw[getD_in (h:=I)];refine dD (EY _) ?_;rintro _ _ ⟨rfl,rfl⟩;have:=ht _<|bH I;rw[b_ ⟨jK _,N⟩];refine bM ?_;refine eG ?_;exact⟨J ts-(j+1),N,_,_,_,_,_,O,j+1,pJ,N,O,by rw[dY,av I,iW];rfl⟩
 rw[dV N];obtain⟨n,hn⟩:∃n:Nat,(top' ts+64)/64=n:=⟨((top' ts+64)/64).toNat,by unfold top';omega⟩;have G:=h_ U;have T:top' ts=ts.foldl (λ(m:Int)(t:Nat)=>max m (t:Int)) (-1):=rfl;refine tl ?_;refine eG ?_;refine dA (Ie N N N) ?_;rw[<-T,hn];refine G.mkS (ax _) N λH2 r G=>?_;rw[mK]at G;refine bM ?_;refine lp2 8 27 (h1:=λm x8 V Q=>∃(j:Nat)(h2:C Nat),V=B j/\j+m=J ts/\h2=(ts.take j).foldl wd1 (aY n 0)/\J h2=n/\(∀w∈h2,w<2^64)/\SH [] H1 Q [(r,105,h2.map zJ)]) ?_ (J ts) ⟨0,aY n 0,rfl,bB _,rfl,kg ..,λw h=>by rw[qp h];exact uk 64,by rw[show(aY n 0).map zJ=aY n (bq fB 0)from jL];exact G⟩;clear G;rintro m x8 V ad H3 ⟨i,h2,rfl,hi,Y,hl,U,G⟩;refine lX (λhc=>?_) λhc=>?_
 .rw[dV N]at Y;have e:US ts=h2:=by unfold US;rw[hn,Y];rfl
  refine tl ?_;refine rr ?_;exact⟨⟨r,by rw[e,hl],G.yV<|aL ..,(G.lo _<|aL ..).2,by rw[e];exact G.get 0 O,by rw[e,hl];omega,by rw[e];exact U⟩,G.ext⟩
 have d:i<J ts:=N;refine(hf.ex G.ext).ix d (A_ d) λ_=>?_;rw[getD_in (h:=d)];refine dD (EY _) ?_;rintro _ H3 ⟨rfl,rfl⟩;have W:=ht _<|bH d;have UR:=ab.2 _<|bH d;have e1:(ts.take<|i+1).foldl wd1 (aY n 0)=wd1 h2 ts[i]:=by rw[dY,av d,iW,<-Y];rfl
 have M:=ajY U ts[i];generalize ts[i]=t at W UR e1 M|-;have P:t/64<n:=N;have ev:h2[t/64]?=Z (h2.getD (t/64) 0):=by rw[aU,av N];rfl
 rw[b_ ⟨jK _,N⟩];refine bM ?_;refine dA (NR 64 O jq N)<|G.R8 (k:=t/64) P (jX _ ev)<|dA (sw 64 O jq N)<|dA (aaE<|jK _) ?_;rw[amQ (o9 _ jq)];have ac:h2.getD (t/64) 0<2^64:=U _<|aV ev;refine G.lJ ?_;rw[amP ac (tH jq<|o9 _ jq)];refine G.OM (k:=t/64) P (by rw[aK];omega) (kk:=λH4 G=>?_);refine splitK (λK hK=>?_) ?_
 .simp only[fu,gT];generalize t/64=k;apply Gc (a:=r) yB fT fT hK
 refine eG ?_;exact⟨J ts-(i+1),N,_,_,_,_,O,i+1,wd1 h2 t,pJ,N,e1.symm,by rw[YY];exact hl,M,by rw[show(wd1 h2 t).map zJ=(h2.map zJ).set (t/64) (zJ<|h2.getD (t/64) 0|||2^(t %64))from gz];exact G⟩
def LA(h2:C Nat):Nat->Nat
 |0=>0
 |m+1=>if h2.getD m 0=0 then LA h2 m else m+1
def GX(h2:C Nat):∀m,LA h2 m<=m
 |0=>ax _
 |m+1=>by
  unfold LA;split
  .exact rW<|GX h2 m
  .exact ax _
def LB{m:Nat}(h:m<=n)(w:n<=1000000):R4 1 (u (Z ⟨r,0,T⟩) n n) T (Z<|B m) T=Z (u (Z ⟨r,0,T⟩) m n):=by
 show cr (gW n) (gd (aD 0 m&&aD m n&&aD n n&&F)<|Z<|u (Z ⟨r,sS n 0 0 1,T⟩) (dQ m 0)<|dQ n 0) _=_;have d:sS n 0 0 1=0:=by unfold sS;cases aB n 0<;>rfl
 rw[show gW n=F from aG N,oh,aG<|bD _,aG h,aG<|ax _,d];rfl
end
section
open Go.Proofs.Lu Go.Proofs.Lu.Wk
open Go.Ae Go.Ae.hx
variable{S:C Nat}{rr:Nat}
def BN:∀l,J (hts l)=J l*3
 |[]=>rfl
 |p::l=>by have:=BN l;simp only[hts,lZ,aS,cO,qH]at this|-;omega
def UC(l:C<|Nat×Sp)(h:Nat×Sp):hts (l++[h])=hts l++[B h.1,B h.2.1,B h.2.2]:=by simp[hts]
def WR:∀{l:C (Nat×Sp)}{i:Nat}{h:Nat×Sp}{j:C D},l[i]?=Z h->((hts l++j).drop<|i*3).take 3=[B h.1,B h.2.1,B h.2.2]
 |[],i,p,_,h=>by simp at h
 |x::l,0,p,_,h=>by simp at h;subst h;simp[hts]
 |x::l,i+1,p,j,h=>by
  have:=WR (l:=l) (i:=i) (j:=j)<|nZ h;rw[<-this,show(i+1)*3=i*3+3 by omega];rfl
def amR(a b:Sp)(i j:Nat):mW Pg .eql 86 (.tmp i) (.tmp j) (pE a) (pE b)=Z (aR<|decide<|a=b):=by
 have:mW Pg .eql 86 (.tmp i) (.tmp j) (pE a) (pE b)=aN (cr (FI (a.1:Int) b.1) (cr (FI (a.2:Int) b.2) (Z F)<|Z aA)<|Z aA) λb=>Z (aR b):=fT;rw[this,UA];rfl
def aiw(a b:Nat×Sp):cr (FI (a.1:Int) b.1) (cr (FI (a.2.1:Int) b.2.1) (cr (FI (a.2.2:Int) b.2.2) (Z F)<|Z aA)<|Z aA) (Z aA)=Z (decide<|a=b):=by
 rw[UA a.2 b.2,BD];have⟨d,a2⟩:=a;have⟨b1,b2⟩:=b
 by_cases I:d=b1
 .subst I;rw[b_ O];show Z (decide<|a2=b2)=_;simp
 .rw[dR (show¬((d:Nat):Int)=b1 by omega)];show Z aA=_;simp[I]
def amS(a b:Nat×Sp)(i j:Nat):mW Pg .eql 88 (.tmp i) (.tmp j) (dP ⟨[B a.1,B a.2.1,B a.2.2]⟩) (dP ⟨[B b.1,B b.2.1,B b.2.2]⟩)=Z (aR<|decide<|a=b):=by
 have:mW Pg .eql 88 (.tmp i) (.tmp j) (dP ⟨[B a.1,B a.2.1,B a.2.2]⟩) (dP ⟨[B b.1,B b.2.1,B b.2.2]⟩)=aN (cr (FI (a.1:Int) b.1) (cr (FI (a.2.1:Int) b.2.1) (cr (FI (a.2.2:Int) b.2.2) (Z F)<|Z aA)<|Z aA)<|Z aA) λb=>Z (aR b):=fT;rw[this,aiw];rfl
theorem aoH(h:WS S H0 H rr rs ms me mn ml mo x)(hl:J x.ht<=5592404)(k:Nat×Sp):bQ Pg X 115 [pr rr,dP ⟨[B k.1,B k.2.1,B k.2.2]⟩] H λv Q=>WS S H0 Q rr rs ms me mn ml mo (x.hit k):=by
 have⟨sv,pv,uv,us,hv,gS,gP,gU,az,gH,h,gs,gp,gu,gR,Y,m,ne,lo⟩:=h;obtain⟨ha,hn,hc,rfl,ab⟩:=Y.OP;rw[BN]at ab;obtain rfl:hn=J x.ht:=N;refine lq [0,1,3,4] ?_;have G:=h.base;refine G.box O λH1 rb G=>?_;have G:SH _ H H1 ((rb,88,[B k.1,B k.2.1,B k.2.2])::(rr,156,[sv,aR x.ok,u ha (J x.ht) hc,vi 0,fK<|Z ms,fK<|Z me,B mo])::(rs,128,[pv,uv,fK<|Z mn,fK<|Z ml])::(gS++(gP++(gU++(az++gH))))):=G;have n1:rb≠rr:=G.neT;refine fJ ?_;have ad:=G
 have P:scan k x.ht.reverse=aA->∀{V:D}{E:Rs},iG Pg X (sub Im [1,1]) (Gj (pr rr) (dP ⟨[B k.1,B k.2.1,B k.2.2]⟩) (pr rb) V E H1) (jZ Pg [] λv Q=>WS S H0 Q rr rs ms me mn ml mo<|x.hit k):=by
  intro hs V E;refine tm ?_;refine Y.GM G O O O (by rw[BN];omega) λq H5 v' H6 iN T G c5 c6 _=>?_;obtain⟨al,an,am,rfl⟩:=T.sl;refine G.n_ λHn G=>?_;refine splitK (λK hK=>?_) ?_
  .simp only[fu,gT,c5];rcases c6 with e|e<;>rw[e]<;>apply mO (a:=rb) (b:=rr) n1 yB fT fT hK
  have M:=m.rows h G.ext;have G:=fU (A:=[_])<|h.over G;have e:x.hit k={x with ht:=x.ht++[k]}:=jk (by rw[hs];decide);rw[e];refine rn ?_;exact⟨_,_,_,_,_,_,_,_,_,_,G,gs,gp,gu,gR,by dsimp only;rw[UC];exact T,⟨M.s,M.e,M.n,M.l⟩,ne,lo⟩
 refine q_ ?_;refine VQ 4 (h1:=λn V Q=>∃i:Nat,V=vi ((i:Int)-1)/\i=n/\i<=J x.ht/\scan k x.ht.reverse=scan k (x.ht.take i).reverse/\Q=H1) ?_ (J x.ht) ⟨J x.ht,rfl,rfl,ax _,by rw[kI],rfl⟩;rintro n V E H2 ⟨i,rfl,rfl,hi,d,rfl⟩;refine tl ?_;cases i with
 |zero=>
  refine G.lJ ?_;refine aW (λh=>N) λ_=>?_;exact ji O<|P (by rw[d];rfl)
 |succ j=>
  rw[show(((j+1:Nat):Int)-1)=(j:Int) by omega];have hj:j<J x.ht:=N;rcases id Y with⟨_,h0,_⟩|⟨rH,nH,eY,e,ao,rfl⟩
  .have:=BN x.ht;rw[h0]at this;simp only[qH]at this;omega
  cases e;have w:=WR (j:=eY)<|av hj
  have U:scan k (x.ht.take<|j+1).reverse=if x.ht[j].2=k.2 then(if x.ht[j]=k then F else scan k (x.ht.take j).reverse)else aA:=by
   rw[dY,av hj,List.reverse_append];rfl
  rw[U]at d;generalize x.ht[j]=g at w d;refine G.lJ ?_;refine aW (λ_=>?_) λh=>absurd (jK j) h;refine fJ ?_;refine dA (uQ hj) ?_;rw[bB];refine G.lJ ?_;have ac:J (hts x.ht++eY)=J x.ht*3+J eY:=by rw[aS,BN]
  have e2:((hts x.ht++eY).drop<|j*3+1).take 2=[B g.2.1,B g.2.2]:=by
   rw[<-pN];have:=fq (List.drop 1) w
   rwa [List.drop_take]at this
  refine G.PD (r:=rH) (f:=hts x.ht++eY) ?_ N;rw[e2];refine fJ ?_;refine dA (amR g.2 k.2 _ _)<|fJ ?_;refine nN (λI=>?_) λI=>?_
  .rw[jk I]at d;exact P d
  rw[jj I]at d;refine tm ?_;refine dA (uQ hj) ?_;rw[bB];refine G.PD (r:=rH) (f:=hts x.ht++eY) ?_ N;rw[w];refine fJ ?_;refine dA (amS g k _ _)<|fJ ?_;refine aW (λW=>?_) λW=>?_
  .rw[jj W]at d;have e:x.hit k=x:=jj d;rw[e];have M:=m.rows h G.ext;refine Lu.rr ?_;exact⟨_,_,_,_,_,_,_,_,_,_,fU (A:=[_])<|h.over G,gs,gp,gu,gR,Y,M,ne,lo⟩
  .rw[jk W]at d;refine q_ ?_;exact⟨j,N,_,_,_,O,j,O,O,N,d,O⟩
end
section
open Go.Proofs.Lu Go.Proofs.Lu.Wk
open Go.Ae Go.Ae.hx
variable{S:C Nat}{rr:Nat}{ay:Nat->Prop}{ev:D}
theorem ajZ(hh:∀Q,pI S H0 Q->∀r,r<A.nr->bQ Pg X 50 [hv,B r] Q (Q0 (λv=>v=aR (hd r)) Q))(aE:J x.ht<=5592404)(ho:A.Ok)(hk:GU ay H0 rw' A q ev sv sb)(hF:∀r,ay r->r<H0.bU/\r∉S)(h:WS S H0 H rr rs ms me mn ml mo x)(hL:Lim A a mo)(hW:x.h2 A a)(hp:p.1<A.ns/\p.2<=J x.sk)(he:e∈A.rg p.1):
 bQ Pg X 89 [pr rw',pr rr,pr rs,pE p,dP ⟨[B e.1,B e.2.1,B e.2.2]⟩,B a,hv] H λv Q=>v=vi 0/\WS S H0 Q rr rs ms me mn ml mo (x.iK A hd A.Em a p e):=by
 have V:=ho.e _ hp.1 e he;have⟨au,hT,hwT⟩:=h.own;have am:∀r∈au,¬ay r:=λr Y h=>((hT r Y).2.elim (hF r h).2 λg=>absurd (hF r h).1<|fI g);have a0:=hk.stay h.ext λr Y h=>(hF r h).2 Y;refine lq [0,1,2,3,4,5,6,10,11,14,15,16,18,19,21] ?_;have G:=h_ h.wf;refine G.box O λH1 rb G=>?_;refine G.box O λH2 re G=>?_;have G:SH [] H H2 [(re,121,[B e.1,B e.2.1,B e.2.2]),(rb,86,[B p.1,B p.2])]:=G;refine fJ ?_;refine G.ns O O O λH3 rz G ac=>?_;have G:SH [] H H3 [(rz,86,[B e.2.2,B p.2]),(re,121,[B e.1,B e.2.1,B e.2.2]),(rb,86,[B p.1,B p.2])]:=G;have ab:=hwT H3 G.ext;have ac:=G.ext;have ap:=a0.stay G.ext nofun;have up:∀{Q y},WS au H3 Q rr rs ms me mn ml mo y->WS S H0 Q rr rs ms me mn ml mo y:=λhw=>hw.up (h.ext.trans' ac) λr Y=>(hT r Y).2;have bx:∀{Q},pI au H3 Q->SH au H Q [(rz,86,[B e.2.2,B p.2]),(re,121,[B e.1,B e.2.1,B e.2.2]),(rb,86,[B p.1,B p.2])]:=λM=>(G.weaken nofun).ajX (λe he=>G.yV he) (λr Y=>(hT r Y).1) M
 have T:∀{y z:Rn}{Q}{rP Bc xC yu E},WS au H3 Q rr rs ms me mn ml mo y->(y.meet (e.2.2,p.2)).h2 A a->y.meet (e.2.2,p.2)=z->iG Pg X (sub EB [1,1,1,1]) (DX (pr rw') (pr rr) (pr rs) (pE p) (dP ⟨[B e.1,B e.2.1,B e.2.2]⟩) (B a) hv (pr rb) (pr re) (vi 0) (pr rz) rP Bc xC yu E Q) (jZ Pg [.tmp 14] λv Q=>v=vi 0/\WS S H0 Q rr rs ms me mn ml mo z):=λ{y z Q}{rP Bc xC yu E} hw hy ey=>by
  have G:=bx hw.ext;refine tl ?_;apply G.jC;refine dD (RL (p:=(e.2.2,p.2)) hw hL hy) ?_;rintro _ H4 ⟨rfl,hw⟩;refine bM ?_;refine iI (λh=>by cases h) λ_=>?_;refine Lu.rr ?_;exact⟨O,ey▸up hw⟩
 refine yz (λI=>?_) λI=>?_
 .have w:x.iK A hd A.Em a p e=x:=by unfold Rn.iK;rw[jk N];exact jj N
  rw[w];refine Lu.rr ?_;exact⟨O,up ab⟩
 refine acu (λW=>?_) λW=>?_
 .have w:x.iK A hd A.Em a p e=x.meet (e.2.2,p.2):=by unfold Rn.iK;rw[jk N];unfold Rn.along;rw[jk N,jk N]
  refine tm ?_;refine aW (λh=>absurd h W) λ_=>?_;exact T ab (hW.meet V.1 hp.2) w.symm
 have d:e.2.1<A.nr:=ho.call he N;have al:e.1=2:=N;cases hh1:hd e.2.1 with
 |true=>
  refine G.qF<|dD (hh _ (h.ext.trans' ac) _ d) ?_;rintro _ H4 ⟨rfl,rfl⟩;rw[hh1];refine tm ?_;refine dD (aoH ab aE (e.2.1,p)) ?_;rintro _ H5 U;have G:=bx U.ext;have ar:=ap.stay U.ext am;obtain⟨eb,ea,ec,rfl,ao,an⟩:=ar.e;refine iY (H:=hN H5) (ar.b.cell (o:=6) O) ?_;refine fJ ?_;cases hem:A.Em e.2.1 with
  |false=>
   refine ao.R8 d (v:=aR aA) (by rw[bK,an _ d,hem];rfl) λr o=>?_;have w:x.iK A hd A.Em a p e=x.hit (e.2.1,p):=by unfold Rn.iK;rw[jj ⟨al,hh1⟩,jk (by rw[hem];decide)]
   rw[w];refine fJ ?_;refine(show∀{a b:Prop},a->yU (Z !aA) a b fromλh=>h)<|Lu.rr ?_;exact⟨O,up U⟩
  |true=>
   refine ao.R8 d (v:=aR F) (by rw[bK,an _ d,hem];rfl) λr o=>?_;have w:x.iK A hd A.Em a p e=(x.hit (e.2.1,p)).meet (e.2.2,p.2):=by unfold Rn.iK;rw[jj ⟨al,hh1⟩,jj hem]
   refine fJ ?_;exact(show∀{a b:Prop},b->yU (Z !F) a b fromλh=>h)<|T U (hW.hit.meet V.1 (by rw[Rn.vK.1];exact hp.2)) w.symm
 |false=>
 have a2:=(ho.s _ d).1;have⟨w1,w2,w3⟩:=air hW.sk (r:=e.2.2) V.1 hp.2;have w:x.iK A hd A.Em a p e=({x with sk:=(put x.sk e.2.2 a p.2).1}.meet (A.S e.2.1,(put x.sk e.2.2 a p.2).2.1):Rn).hop (put x.sk e.2.2 a p.2).2 (e.2.2,p.2):=by unfold Rn.iK;rw[jk (by rw[hh1];exactλh=>by cases h.2)];unfold Rn.along;rw[jk N,jj N]
 have hy:({x with sk:=(put x.sk e.2.2 a p.2).1}.meet (A.S e.2.1,(put x.sk e.2.2 a p.2).2.1):Rn).h2 A a:=Rn.h2.meet ⟨w1,hW.nd,λq hq=>⟨(hW.b q hq).1,aQ (hW.b q hq).2 w3⟩⟩ a2 w2;have a7:({x with sk:=(put x.sk e.2.2 a p.2).1}.meet (A.S e.2.1,(put x.sk e.2.2 a p.2).2.1):Rn).en=x.en:=by unfold Rn.meet;split<;>rfl
 have a4:({x with sk:=(put x.sk e.2.2 a p.2).1}.meet (A.S e.2.1,(put x.sk e.2.2 a p.2).2.1):Rn).sk=(put x.sk e.2.2 a p.2).1:=Rn.pU;have a5:=hW.sk.le;have a6:=hL.s;refine G.qF<|dD (hh _ (h.ext.trans' ac) _ d) ?_;rintro _ H4 ⟨rfl,rfl⟩;rw[hh1];refine tm ?_;refine aW (λ_=>?_) λh=>absurd W h;refine fJ ?_;refine dD (aoG ab hp.2 N λn=>by have:=hW.sk.few n;omega) ?_;rintro _ H4 ⟨bn,rfl,P⟩;generalize hpt:put x.sk e.2.2 a p.2=pt' at*;have⟨s',n,fr⟩:=pt';dsimp only at*;have G:=bx P.ext;refine bM ?_;refine fP (λh=>absurd trivial h) λ_=>?_;have aq:=ap.stay P.ext am;refine iY (H:=hN H4) (aq.b.cell (o:=1) O) ?_;refine fJ ?_;refine aq.a.ajI ho d λr o=>?_;refine fJ ?_;have⟨T2,hT2,agT⟩:=P.own;refine dD (RL (p:=(A.S e.2.1,n)) (agT _<|Ext.hN H4) hL hy) ?_;rintro _ H5 ⟨rfl,U⟩;replace U:=(U.m P.wf).up P.ext λr Y=>(hT2 r Y).2;refine bM ?_;refine splitK (λK hK=>?_) ?_
 .simp only[fu];rcases xB H4 H5 with e|e<;>rw[e]<;>exact aeu fT fT hK
 generalize({x with sk:=s'}.meet (A.S e.2.1,n):Rn)=y at*;generalize hM H4 H5=H6 at U|-;have⟨_,_,_,_,_,_,_,_,_,_,G,_,_,_,_,_,m,_⟩:=id U;refine iI (λh=>by cases h) λ_=>?_;refine G.qF<|Ce.has (e:=vnE) (k:=n) m.e RG Fs eq3<|G.lJ ?_;refine G.ns O O O λH7 ru G a3=>?_;have ad:=U.call a3;have a1:p.2<=J y.sk:=by rw[a4];omega
 refine fP (λhn=>?_) λhn=>?_
 .rw[w];have e2:y.hop (n,fr) (e.2.2,p.2)=y:=jk λh=>hn h.1;rw[e2];refine Lu.rr ?_;exact⟨O,up ad⟩
 cases fr with
 |false=>
  refine iI (λ_=>?_) (λh=>by cases h);rw[w];have e2:y.hop (n,aA) (e.2.2,p.2)=y:=jk λh=>by cases h.2
  rw[e2];refine Lu.rr ?_;exact⟨O,up ad⟩
 |true=>
  refine iI (λh=>by cases h) λ_=>?_;exact T ad (hy.meet V.1 a1) (by rw[w];exact(jj ⟨hn,O⟩).symm)
end
section
open Go.Proofs.Lu Go.Proofs.Lu.Wk
open Go.Ae Go.Ae.hx
variable{S:C Nat}{rr:Nat}{ay:Nat->Prop}{ev:D}
def Qb(au:C Nat)(H:R)(rs:Nat)(s:Sk):Prop:=∃mn ml w I E d m az,SH au H H ((rs,128,[w,I,fK<|Z mn,fK<|Z ml])::(d++(m++az)))/\
 GJ 161 2 w (vi (-1)::B 0::B6 (s.map λe=>(e.1,e.2.1))) d/\GJ 22 1 I E m/\IX 3 1 ([]::s.map λe=>gq e.2.2) E az/\
 Ce pE H mn (λp=>(KZ s p.1 p.2).map λk=>B<|k+1)/\Ce pE H ml (λp=>if 0<p.1/\p.2∈(mY s p.1).2.2 then Z u0 else T)/\mn≠ml/\mn∈au/\ml∈au
def Qb.stay(h:Qb au H rs s)(M:pI S H Q)(G:∀r∈S,r∉au):Qb au Q rs s:=by
 have⟨mn,ml,pv,uv,us,gP,gU,az,h,gp,gu,gR,m,l,ne,hm,hl⟩:=h;have w:∀e∈(rs,128,[pv,uv,fK<|Z mn,fK<|Z ml])::(gP++(gU++az)),e.1∈au:=λe d=>(h.lo e d).1.resolve_right<|fH (h.lo e d).2;exact⟨mn,ml,pv,uv,us,gP,gU,az,⟨pI.refl _ _,λe d=>(h.bk e d).iE<|M.obj _ (h.lo e d).2 λB=>G _ B<|w e d,λe d=>⟨.inl<|w e d,aO (h.lo e d).2 M.bU⟩,h.ne,M.wf h.wf⟩,gp,gu,gR,m.ex M λB=>G _ B hm,l.ex M λB=>G _ B hl,ne,hm,hl⟩
theorem WS.done(h:WS S H0 H rr rs ms me mn ml mo x):∃au M sc K P,Qb au H rs x.sk/\(∀r∈au,r<H.bU/\(r∈S\/H0.bU<=r))/\Bk H rr 156 [u M (J x.sp) sc,aR x.ok,u K (J x.ht) P,vi 0,fK<|Z ms,fK<|Z me,B mo]/\rr∉au/\jJ (·∉au) 86 H M (J x.sp) 2 (B6 x.sp)/\jJ (·∉au) 88 H K (J x.ht) 3 (hts x.ht):=by
 have⟨sv,pv,uv,us,hv,gS,gP,gU,az,gH,h,gs,gp,gu,gR,gh,m,ne,lo⟩:=h;obtain⟨M,sn,sc,rfl,Y⟩:=gs.OP;rw[uE]at Y;obtain rfl:sn=J x.sp:=N;obtain⟨K,V,P,rfl,U⟩:=gh.OP;rw[BN]at U;obtain rfl:V=J x.ht:=N
 have T:=h.perm (L':=gS++(gH++((rr,156,[u M (J x.sp) sc,aR x.ok,u K (J x.ht) P,vi 0,fK<|Z ms,fK<|Z me,B mo])::(rs,128,[pv,uv,fK<|Z mn,fK<|Z ml])::(gP++(gU++az))))) ((jw [_,_] gS _).trans (gZ gS (by
  have:∀(a b:eB),[a,b]++(gP++(gU++(az++gH)))=([a,b]++(gP++(gU++az)))++gH:=λa b=>gD;rw[this];exact aI)))
 have E:=fU T;have hr:=fU E;have I:=fU (A:=[_]) hr
 have w:∀{m},m∈[mn,ml]->m<H.bU/\(m∈S\/H0.bU<=m)/\∀{S':C Nat}{vn L},SH S' vn H L->m∉L.map (·.1):=λ{m'} hm=>by
  simp only[bW,fF,jo]at hm;rcases hm with rfl|rfl
  .have⟨_,hl,_⟩:=id m.n;exact⟨hl,lo _ gD,λG=>G.z8 m.n⟩
  .have⟨_,hl,_⟩:=id m.l;exact⟨hl,lo _ gD,λG=>G.z8 m.l⟩
 refine⟨[mn,ml]++((rs,128,[pv,uv,fK<|Z mn,fK<|Z ml])::(gP++(gU++az)):C eB).map (·.1),M,sc,K,P,⟨mn,ml,pv,uv,us,gP,gU,az,⟨pI.refl _ _,I.bk,λe d=>⟨.inl<|dL _<|bP.2 ⟨e,d,rfl⟩,(I.lo e d).2⟩,I.ne,I.wf⟩,gp,gu,gR,m.n,m.l,λe=>?_,gD,gD⟩,λr W=>?_,h.get 0 O,λhm=>?_,?_,?_⟩
 .have:=(jF.1 (jF.1 (jF.1 ne).2).2).1;exact this (by simp[e])
 .rcases cK.1 W with hm|hm
  .exact⟨(w hm).1,(w hm).2.1⟩
  .obtain⟨e,d,rfl⟩:=bP.1 hm;exact⟨(I.lo e d).2,(I.lo e d).1⟩
 .rcases cK.1 hm with hm|hm
  .exact(w hm).2.2 h<|aL ..
  .have⟨e,d,e2⟩:=bP.1 hm;exact(List.pairwise_cons.1 hr.ne).1 e d e2.symm
 .have⟨a,n,c,e,V,hf⟩:=gs.KF (ay:=(·∉[mn,ml]++((rs,128,[pv,uv,fK<|Z mn,fK<|Z ml])::(gP++(gU++az)):C eB).map (·.1))) T λe d hm=>by
   rcases cK.1 hm with hm|hm
   .exact(w hm).2.2 T<|bP.2 ⟨e,dK _ d,O⟩
   .have⟨e',he',e2⟩:=bP.1 hm;exact SH.apart T d (dL gH<|bL _ he') e2.symm
  cases e;exact hf
 .have⟨a,n,c,e,V,hf⟩:=gh.KF (ay:=(·∉[mn,ml]++((rs,128,[pv,uv,fK<|Z mn,fK<|Z ml])::(gP++(gU++az)):C eB).map (·.1))) E λe d hm=>by
   rcases cK.1 hm with hm|hm
   .exact(w hm).2.2 E<|bP.2 ⟨e,dK _ d,O⟩
   .have⟨e',he',e2⟩:=bP.1 hm;exact SH.apart E d (bL _ he') e2.symm
  cases e;exact hf
def WS.amT(h:WS S H0 H rr rs ms me mn ml mo x):∃d sc,H.cell rr 0=Z (u d (J x.sp) sc)/\jJ (λ_=>True) 86 H d (J x.sp) 2 (B6 x.sp):=let⟨_,d,sc,_,_,_,_,hr,_,hf,_⟩:=h.done;⟨d,sc,hr.cell (o:=0) O,hf.wk λ_ _=>trivial⟩
def _root_.Go.Ae.SH.plus{A:C eB}(d:SH [] H Q A)(m:SH au H H L):SH au H Q (A++L):=by
 refine⟨d.ext.weaken (λr h=>by cases h),λe w=>?_,λe w=>?_,nQ.2 ⟨d.ne,m.ne,λx M y B e=>?_⟩,d.wf⟩
 .rcases cK.1 w with h|h
  .exact d.bk e h
  .exact(m.bk e h).iE<|d.ext.obj _ (m.lo e h).2 nofun
 .rcases cK.1 w with h|h
  .exact⟨.inr<|d.yV h,(d.lo e h).2⟩
  .exact⟨(m.lo e h).1,aO (m.lo e h).2 d.ext.bU⟩
 .have:=d.yV M;have:=(m.lo y B).2;omega
def _root_.Go.Ae.SH.reb{vn:R}(d:SH au H H L)(M:Ext H vn):SH au vn vn L:=⟨pI.refl _ _,λe m=>(d.bk e m).iE<|M.obj _ (d.lo e m).2 nofun,λe m=>⟨.inl<|(d.lo e m).1.resolve_right<|fH (d.lo e m).2,aO (d.lo e m).2 M.bU⟩,d.ne,M.wf d.wf⟩
theorem WT(hh:∀Q,pI au H Q->∀r,r<A.nr->bQ Pg X 50 [hv,B r] Q (Q0 (λv=>v=aR (hd r)) Q))(ho:A.Ok)(hk:GU ay H rw' A q ev sv sb)(hF:∀r,ay r->r<H.bU/\r∉au)(hs:Qb au H rs s)(hT:∀r∈au,r<H.bU)(hf:jJ F' 86 H fa (J l) 2<|B6 l)(b1:∀r∈au,¬F' r)(hl:∀p∈l,p.1<A.ns/\p.2<=J s)(ca:Sk.h2 A a s)(hL:Lim A a mo)(cu:J l<=8000000)(hB:(lM A hd A.Em a s l).ht.length<=5592404):
 bQ Pg X 57 [pr rw',pr rs,u fa (J l) fc,B a,hv,B mo] H λv Q=>∃sa sc ha hc T',v=fO ⟨[dP ⟨[u sa (lM A hd A.Em a s l).sp.length sc,aR (lM A hd A.Em a s l).ok,u ha (lM A hd A.Em a s l).ht.length hc,B (lM A hd A.Em a s l).sp.length]⟩,vi 0]⟩/\
  Qb T' Q rs (lM A hd A.Em a s l).sk/\(∀r∈T',r<Q.bU/\(r∈au\/H.bU<=r))/\pI au H Q/\jJ (·∉T') 86 Q sa (lM A hd A.Em a s l).sp.length 2 (B6 (lM A hd A.Em a s l).sp)/\jJ (·∉T') 88 Q ha (lM A hd A.Em a s l).ht.length 3 (hts (lM A hd A.Em a s l).ht):=by
 have⟨mn,ml,pv,uv,us,gP,gU,az,hq,gp,gu,gR,mN,mL,hne,hmn,hml⟩:=hs;obtain⟨pa,pn,pc,rfl,b7⟩:=gp.OP;simp only[cO,uE,aK]at b7;obtain rfl:pn=J s+1:=N;have ab:∀{Q},Ext H Q->Q.cell rs 0=Z (u pa (J s+1) pc):=λM=>(nU (M.obj _ (hq.lo _<|aL ..).2 nofun) 0).trans<|(hq.get 0 O).cell O;have b2:∀r∈au,¬ay r:=λr d h=>(hF r h).2 d;refine lq [0,1,2,3,4,5,12,13,15,16,18,19,20,21,23,32,33,34,65,66,67,119,120,121] ?_;have G:=h_ hq.wf;refine G.jP λH1 rc G=>?_;have b9:=G.yV<|aL ..
 refine iG.yD λK hK=>?_;refine iG.scope (az:=λ_ _ _=>False) (λ_ _ _ _ h=>h.elim) 0 ?_;refine iG.yD λK2 b3=>?_;refine tl ?_;have a4:∀{Q},Ext H Q->GU ay Q rw' A q ev sv sb:=λM=>hk.stay M nofun;refine dD (RJ (a4 G.ext) ho) ?_;rintro _ H1 ⟨rfl,rfl⟩;refine bM ?_;refine dD (NP<|ab G.ext) ?_;rintro _ H1 ⟨rfl,rfl⟩;refine bM ?_;refine aW (λhc=>N) λ_=>?_;refine tp ?_;refine Ik 13 15 34 (h1:=λm ko mM b0 Q=>∃i:Nat,b0=B i/\i+m=J l/\SH [] H Q [(rc,68,[u T 0 0,aR aA,u T 0 0,vi 0])]) ?_ (J l) ⟨0,rfl,bB _,G⟩;clear G;rintro m ko mM b0 E H1 ⟨i0,rfl,cm,G⟩;refine tQ (λhc=>?_) λhc=>?_
 .have ac:i0<J l:=N;have bn:=hl _<|bH ac;refine(hf.ex G.ext).Yb N ac (EX<|av ac) λ_=>?_;generalize l[i0]=p at bn|-;refine G.ns O O O λH2 rf G _=>?_;have G:SH [] H H2 [(rf,86,[B p.1,B p.2]),(rc,68,[u T 0 0,aR aA,u T 0 0,vi 0])]:=G;refine fJ ?_;refine dD (agS ((a4 G.ext).stay (Ext.hN H2) nofun) bn.1) ?_;rintro _ _ ⟨rfl,rfl⟩;refine bM ?_;refine iI (λh=>by cases h) λ_=>?_;refine fJ ?_;refine aW (λh=>N) λ_=>?_;refine fJ ?_;refine dD (NP<|ab<|G.ext.trans'<|Ext.hN H2) ?_;rintro _ _ ⟨rfl,rfl⟩;refine fJ ?_;refine aW (λh=>N) λ_=>?_;refine eG ?_;exact⟨J l-(i0+1),N,_,_,_,_,_,O,i0+1,pJ,N,fU (A:=[_]) G⟩
 refine tp ?_;refine aW (λh=>N) λ_=>?_;have bp:=(G.weaken nofun:SH au H H1 _);have bx:∀{Q},pI au H1 Q->SH au H Q [(rc,68,[u T 0 0,aR aA,u T 0 0,vi 0])]:=λM=>bp.ajX (λe he=>G.yV he) hT M;have Y:=G.ext;have b6:=a4 Y;have bo:=hq.reb Y;have b5:=hf.ex Y;have G:=h_ G.wf;refine G.mkMap (e:=pE) JI λH2 ms am bt bi G=>?_;refine G.mkMap (e:=vnE) RG λH3 me bm bv bg G=>?_;refine dA (v:=dP ⟨[u T 0 0,aR aA,u T 0 0,vi 0,fK<|Z ms,fK<|Z me,B mo]⟩) O ?_;have⟨_,l1,_⟩:=id am;have am:=am.ex bv nofun;have wD:=G;have G:=G.base;refine G.box O λH4 rr G=>?_;have a7:=am.ex G.ext nofun;have a8:=bm.ex G.ext nofun;have xM:=wD.over G;have a6:=xM.ext
 have br:WS au H1 H4 rr rs ms me mn ml mo ⟨s,[],[],aA,[]⟩:=by
  have⟨_,l2,_⟩:=id mN;have⟨_,l3,_⟩:=id mL;have g0:=Y.bU;refine⟨_,_,_,_,_,[],gP,gU,az,[],(SH.plus xM bo).cast (by rw[bF];rfl),GB.nil _ _,gp,gu,gR,GB.nil _ _,⟨nZ a7,nZ a8,mN.ex (Y.trans a6) (λh=>by cases h),mL.ex (Y.trans a6) λh=>by cases h⟩,?_,?_⟩
  .simp only[jF,bW,fF,jo,not_or,jg,zq,nT];omega
  .intro m hm;simp only[bW,fF,jo]at hm;rcases hm with rfl|rfl|rfl|rfl
   .exact .inr bi
   .exact .inr<|aQ bt.bU bg
   .exact .inl hmn
   .exact .inl hml
 clear a7 a8 xM a6 G wD am bm bi bg bt bv l1 bo mN mL gp gu gR hq;have bc:Rn.h2 A a ⟨s,[],[],aA,[]⟩:=⟨ca,jg,nofun⟩;have a2:∀j,((l.take j).foldl Rn.meet ⟨s,[],[],aA,[]⟩).h2 A a:=λj=>Dy _ _ bc λp hp=>hl p<|fG hp;have a1:∀r,ay r->r<H1.bU/\r∉au:=λr d=>⟨aO (hF r d).1 Y.bU,(hF r d).2⟩;refine Ik 13 18 67 (h1:=λm ko Bc Oz Q=>∃j:Nat,Oz=B j/\j+m=J l/\WS au H1 Q rr rs ms me mn ml mo ((l.take j).foldl Rn.meet ⟨s,[],[],aA,[]⟩)) ?_ (J l) ⟨0,rfl,bB _,br⟩;clear br;rintro m ko Bc Oz cy H5 ⟨j,rfl,hj,w⟩;refine tQ (λhc=>?_) λhc=>?_
 .have a3:j<J l:=N;refine(b5.stay w.ext λr d=>.inl<|b1 r d).Yb N a3 (EX<|av a3) λ_=>?_;refine(h_ w.wf).ns O O O λH6 rf G cg=>?_;have G:SH [] H5 H6 [(rf,86,[B l[j].1,B l[j].2])]:=G;apply G.jC;have e:(l.take<|j+1).foldl Rn.meet ⟨s,[],[],aA,[]⟩=((l.take j).foldl Rn.meet ⟨s,[],[],aA,[]⟩).meet l[j]:=by rw[dY,av a3,iW];rfl
  have be:=a2<|j+1;rw[e]at be;refine dD (RL (w.call cg) hL be) ?_;rintro _ H7 ⟨rfl,w⟩;refine bM ?_;refine iI (λh=>by cases h) λ_=>?_;refine eG ?_;exact⟨J l-(j+1),N,_,_,_,_,_,O,j+1,pJ,N,by rw[e];exact w⟩
 have ap:=a2 j;rw[dV N]at w ap;refine tl ?_;generalize hy0:l.foldl Rn.meet ⟨s,[],[],aA,[]⟩=y0 at w ap;have hz:lM A hd A.Em a s l=D4 A hd A.Em a (bnd A a+1) 0 y0:=by rw[<-hy0];rfl
 rw[hz]at hK;refine lp7 19 20 21 23 119 120 121 (h1:=λn xC bz yu zV Z9 Z' Q3 Q=>∃(i:Nat)(y:Rn),xC=vi 0/\bz=B i/\i+n=bnd A a+1/\D4 A hd A.Em a n i y=D4 A hd A.Em a (bnd A a+1) 0 y0/\y.h2 A a/\WS au H1 Q rr rs ms me mn ml mo y) ?_ (bnd A a+1) ⟨0,y0,rfl,rfl,bB _,rfl,ap,w⟩;clear w ap a2 bc;rintro n xC bz yu zV Z9 Z' Q3 cA H6 ⟨i,y,rfl,rfl,cn,bh,hW,w⟩;have cj:=hW.le;have ck:=hL.b;have aE:=b6.stay w.ext b2;have⟨sa,sc,hsp,aoI⟩:=w.amT;refine iG.yD λK3 ba=>?_;refine tl ?_;refine dA O ?_;refine bM ?_;refine iY hsp ?_;refine MO (λhc=>?_) λhc=>?_
 .rw[ba];refine bM ?_
  have ey:y=D4 A hd A.Em a (bnd A a+1) 0 y0:=by
   rw[<-bh];cases n with
   |zero=>rfl
   |succ n=>
    show y=match y.sp[i]? with|none=>y|some p=>D4 A hd A.Em a n (i+1)<|y.tL A hd A.Em a p
    rw[dw N]
  rw[<-ey]at hK;have⟨T',ta,tc,ua,uc,aoJ,hT',hrd,hrn,hft,hht⟩:=w.done;have⟨_,_,_,_,_,_,_,_,_,_,xP,_⟩:=id w;have bl:=xP.lo _<|aL ..
  refine tp ?_;refine fP (λh=>absurd trivial h) λ_=>?_;have xP:SH [rr] H6 H6 [(rr,156,[u ta (J y.sp) tc,aR y.ok,u ua (J y.ht) uc,vi 0,fK<|Z ms,fK<|Z me,B mo])]:=⟨pI.refl _ _,λe he=>by rw[aT.1 he];exact hrd,λe he=>⟨.inl (by rw[aT.1 he];simp),by rw[aT.1 he];exact bl.2⟩,jG _ _,w.wf⟩;apply xP.qF;refine bM ?_;refine xP.kE λH7 JC=>?_;apply JC.jC;have U:pI au H1 H7:=w.ext.later JC.ext λr d=>by rw[aT.1 d];exact bl.1
  have hb:=bx U;refine hb.base.kE λH8 bb=>?_;rw[b3];simp only[QV];rw[hK];have YA:=hb.over bb;refine Lu.rr ?_;apply YA.jC
  have b8:∀e∈[rc,rr],e∉T':=λe he hm=>by
   simp only[bW,fF,jo]at he;rcases he with rfl|rfl
   .exact(hT' _ hm).2.elim (λh=>absurd (hT _ h)<|fI b9) λh=>absurd (bp.lo _<|aL ..).2<|fI h
   .exact hrn hm
  have Jg:pI [rc,rr] H6 H8:=(JC.ext.weaken λr h=>by simp[aT.1 h]).trans<|bb.ext.weaken λr h=>by simp[aT.1 h]
  refine⟨ta,tc,ua,uc,T',O,?_,λr d=>⟨aO (hT' r d).1 Jg.bU,(hT' r d).2.imp_right<|aQ Y.bU⟩,YA.ext,hft.stay Jg λr d=>.inr ?_,hht.stay Jg λr d=>.inr ?_⟩
  .exact aoJ.stay Jg b8
  all_goals
   simp only[bW,fF,jo]at d;rcases d with rfl|rfl
   .exactλht=>absurd (ht.one ((bx w.ext).get 0 O).Gb) jq
   .exactλht=>absurd (ht.one hrd.Gb) jq
 have ac:i<J y.sp:=N;obtain⟨n,rfl⟩:∃k,n=k+1:=⟨n-1,N⟩;have an:=bH ac
 have a0:D4 A hd A.Em a n (i+1) (y.tL A hd A.Em a y.sp[i])=D4 A hd A.Em a (bnd A a+1) 0 y0:=by
  rw[<-bh];show _=match y.sp[i]? with|none=>y|some p=>D4 A hd A.Em a n (i+1)<|y.tL A hd A.Em a p
  rw[av ac]
 refine iY hsp<|aoI.Yb N ac (EX<|av ac) λ_=>?_;generalize y.sp[i]=p at an a0|-;have V:=hW.b p an;refine(h_ w.wf).ns O O O λH7 rf G U=>?_;have G:SH [] H6 H7 [(rf,86,[B p.1,B p.2])]:=G;have cw:=G.yV<|aL ..
 have⟨T2,hT2,agT⟩:=w.own;have ar:=aE.stay U nofun;have a9:∀r,ay r->r<H7.bU/\r∉T2:=λr h=>⟨aO (a1 r h).1<|aQ w.ext.bU U.bU,λhm=>(hT2 r hm).2.elim (a1 r h).2 λg=>absurd (a1 r h).1<|fI g⟩;have ao:∀r∈T2,¬ay r:=λr d h=>(a9 r h).2 d;have bf:∀{Q},pI T2 H7 Q->SH T2 H6 Q [(rf,86,[B p.1,B p.2])]:=λM=>(G.weaken nofun:SH T2 _ _ _).ajX (λe he=>G.yV he) (λr d=>(hT2 r d).1) M
 have bw:∀{H8 zV Z9 Z' Q3 E},WS T2 H7 H8 rr rs ms me mn ml mo (if p.1∈A.sp then y.back p else y)->iG Pg X (sub zF [1,0,1,1,1,1,1,1,1,0,1,0,0,1,0,0,1,1]) (DW (pr rw') (pr rs) (u fa (J l) fc) (B a) hv (B mo) (pr rc) ko mM (pr rr) Bc (vi 0) (B i) (pr rf) zV (u fa (J l) fc) (B<|J l) (B i0) (u fa (J l) fc) (B<|J l) (B j) Z9 Z' Q3 E H8) (uB 5<|uW Pg X (sub zF [1,0,1,1,1,1,1,1,1,0,1,0,0,1,1]) K3):=by
  intro H8 zV Z9 Z' Q3 E P;have bj:=ar.stay P.ext ao;have G:=bf P.ext;refine tp ?_;refine iY (H:=hN H8) (bj.b.cell (o:=4) O) ?_;refine fJ ?_;have⟨evs,he1,he2⟩:=ar.a.e;have⟨ea,ec,he3,hfe⟩:=he2 _ V.1;refine(he1.stay P.ext λr d=>.inl<|ao r d).R8 V.1 he3 λr o=>?_;refine fJ ?_;have ad:y.tL A hd A.Em a p=(A.rg p.1).foldl (Rn.iK A hd A.Em a p) (if p.1∈A.sp then y.back p else y):=rfl
  have aq:Rn.h2 A a (if p.1∈A.sp then y.back p else y)/\p.2<=(if p.1∈A.sp then y.back p else y).sk.length:=by
   split
   .exact⟨hW.back an,by rw[Rn.Lm];exact V.2⟩
   .exact⟨hW,V.2⟩
  generalize(if p.1∈A.sp then y.back p else y)=y8 at P ad aq;have bd:∀k,Rn.h2 A a (((A.rg p.1).take k).foldl (Rn.iK A hd A.Em a p) y8)/\J y8.sk<=(((A.rg p.1).take k).foldl (Rn.iK A hd A.Em a p) y8).sk.length:=λk=>Rn.h2.RD ho V.1 _ _ (λe he=>fG he) aq.1 aq.2
  have ci:J (A.rg p.1)<=100000:=by
   have:=At.AZ ho<|p.1+1;have:=At.yt ho V.1;omega
  refine Ik 19 23 121 (h1:=λm xC zV Q3 Q=>∃k:Nat,xC=vi 0/\Q3=B k/\k+m=J (A.rg p.1)/\WS T2 H7 Q rr rs ms me mn ml mo (((A.rg p.1).take k).foldl (Rn.iK A hd A.Em a p) y8)) ?_ (J<|A.rg p.1) ⟨0,rfl,rfl,bB _,P⟩;clear P G bj;rintro m' xC zV Q3 cC H9 ⟨k,rfl,rfl,cq,al⟩;refine lX (λhc=>?_) λhc=>?_
  .refine tl ?_;refine eG ?_;rw[dV N,<-ad]at al;rw[ba];exact⟨n,dI n,_,_,_,_,_,_,_,_,_,O,i+1,_,O,pJ,N,a0,hW.tL ho an,al.up (w.ext.trans' U) λr d=>(hT2 r d).2⟩
  have a5:k<J (A.rg p.1):=N;refine KV (hfe.stay al.ext λr d=>.inl<|ao r d) a5 λpe=>(h_ al.wf).ns O O O λCF re G uR=>?_;have G:SH [] H9 CF [(re,121,[B (A.rg p.1)[k].1,B (A.rg p.1)[k].2.1,B (A.rg p.1)[k].2.2])]:=G;refine(bf<|al.ext.trans' uR).jC<|G.jC ?_;have e:((A.rg p.1).take<|k+1).foldl (Rn.iK A hd A.Em a p) y8=(((A.rg p.1).take k).foldl (Rn.iK A hd A.Em a p) y8).iK A hd A.Em a p (A.rg p.1)[k]:=by rw[dY,av a5,iW];rfl
  have b4:(((A.rg p.1).take k).foldl (Rn.iK A hd A.Em a p) y8).ht.length<=5592404:=by
   have I:=(Rn.RF (A:=A) (hd:=hd) (em:=A.Em) (a:=a) (p:=p) (A.rg p.1) k y8).length_le;rw[<-ad]at I;have W:=(YV (A:=A) (hd:=hd) (em:=A.Em) (a:=a) n (i+1)<|y.tL A hd A.Em a p).length_le;rw[a0,<-hz]at W;omega
  refine dD (ajZ (λQ M=>hh Q<|(Y.weaken (nofun):pI au H H1).later ((w.ext.trans' U).later M λr d=>(hT2 r d).2) λr d=>.inl d) b4 ho ar a9 (al.call uR) hL (bd k).1 ⟨V.1,aQ aq.2 (bd k).2⟩<|bH a5) ?_;rintro _ Ry ⟨rfl,w⟩;refine bM ?_;refine fP (λh=>absurd trivial h) λ_=>?_;refine eG ?_;exact⟨J (A.rg p.1)-(k+1),N,_,_,_,_,_,O,k+1,O,pJ,N,by rw[e];exact w⟩
 refine G.lJ ?_;refine iY (H:=hN H7) (ar.b.cell (o:=7) O) ?_;refine fJ ?_;have⟨ta,tc,hsv,hsf⟩:=aE.s;rw[hsv];refine(hsf.ex U).R8 (v:=aR<|decide<|p.1∈A.sp) V.1 (by rw[bK,aE.on _ V.1];rfl) λr o=>?_;refine iI (λh=>?_) λh=>?_
 .refine fJ ?_;refine dD (amO (aE.stay (U.trans'<|Ext.hN H7) nofun) ao (agT _<|U.trans'<|Ext.hN H7) hL hW an) ?_;rintro _ H8 ⟨rfl,P⟩;have P:=P.m G.wf;refine bM ?_;refine splitK (λK hK=>?_) ?_
  .simp only[fu];rcases xB H7 H8 with e|e<;>rw[e]<;>exact aeu fT fT hK
  refine iI (λh=>by cases h) λ_=>?_;exact bw (by rw[jj (gG h)];exact P)
 .refine fJ ?_;exact bw (by rw[jk (oP h)];exact agT _ U)
end
section
open Go.Proofs.Lu Go.Proofs.Lu.Wk
open Go.Ae Go.Ae.hx
variable{S:C Nat}{ay:Nat->Prop}{ev:D}
def aaG(h:n<=16777216):R4 2 (u (Z ⟨r,0,T⟩) n<|gQ 2) T (Z<|B n) (Z<|B n)=Z (u (Z ⟨r,0,T⟩) n n):=by
 show cr (gW<|gQ 2) (aN (Z n) λm=>gd (aD 0 n&&aD n m&&aD m (gQ 2)&&(!(fQ<|Z<|B n)||fQ (Z<|B n)))<|Z<|u (Z ⟨r,sS m 0 0 2,T⟩) (dQ n 0)<|dQ m 0) (gd (aB (gQ 2)<|gQ 2)<|gd (aD 0 n&&aD n n&&aD n n&&F&&gW n)<|Z<|u (Z ⟨r,sS n 0 0 2,T⟩) (dQ n 0)<|dQ n 0)=_;have d:gW n=F:=aG N;have w:sS n 0 0 2=0:=by unfold sS;cases aB n 0<;>rfl
 rw[Aq,lz,dW,aG<|bD _,aG<|ax _,d,w];rfl
def amW(m:GB 86 2 v (B6 o) gb)(hl:J o<=16777216):bQ Pg X 86 [v] H (Q0 (λv'=>∃a c c',v=u a (J o) c/\v'=u a (J o) c') H):=by
 rcases m with⟨rfl,d,rfl⟩|⟨r,n,eY,rfl,w,rfl⟩
 .cases o with
  |cons p o=>cases d
  |nil=>
   refine GY [0,2] ?_;refine dA (v:=u T 0 0) O<|Lu.rr ?_;exact⟨⟨_,_,_,O,O⟩,O⟩
 .rw[uE]at w;obtain rfl:J o=n:=N;refine GY [0,2] ?_;refine dA (aaG hl)<|Lu.rr ?_;exact⟨⟨_,_,_,O,O⟩,O⟩
def R_(t:Int)(p:Sp)(o:C Sp)(e:Ed):C Sp:=if(e.2.2,p.2)∈o then o else if e.1=1 then if((e.2.1:Nat):Int)=t then o++[(e.2.2,p.2)]else o else o
abbrev RN(A:At)(t:Int)(o:C Sp)(p:Sp):C Sp:=(A.rg p.1).foldl (R_ t p) o
def aev(l:C Sp):zZ A l t=l.foldl (RN A t) []:=by
 unfold zZ;rw[List.foldl_flatMap];congr 1;funext o p;rw[List.foldl_map,List.foldl_filter];congr 1;funext o e;unfold R_
 by_cases I:e.1=1<;>by_cases W:((e.2.1:Nat):Int)=t<;>simp[I,W]
def RO(A:At)(ae:Nat)(o:C Sp):Prop:=o.Nodup/\∀p∈o,p.1<A.ns/\p.2<=ae
def RO.le(h:RO A ae o):J o<=A.ns*(ae+1):=IG h.1 λp d=>⟨(h.2 p d).1,rX (h.2 p d).2⟩
theorem RO.R_(h:RO A ae o)(I:e.2.2<A.ns)(W:p.2<=ae):RO A ae (R_ t p o e):=by
 unfold Lv.R_;split
 .exact h
 .next m=>
  split
  .split
   .refine⟨l8.2 ⟨h.1,gD,λq hq r d e=>?_⟩,λq hq=>?_⟩
    .rw[aT]at d;exact m<|d▸e▸hq
    .rcases cK.1 hq with hq|hq
     .exact h.2 q hq
     .rw[aT]at hq;subst hq;exact⟨I,W⟩
   .exact h
  .exact h
def RO.aj1(W:p.2<=ae):∀(l:C Ed){o:C Sp},(∀e∈l,e.2.2<A.ns)->RO A ae o->RO A ae (l.foldl (Lv.R_ t p) o)
 |[],o,_,h=>h
 |e::l,o,hl,h=>RO.aj1 W l (λd hd=>hl d<|by simp[hd])<|h.R_ (hl e gD) W
def RO.fold(ho:A.Ok):∀(l:C Sp){o:C Sp},(∀p∈l,p.1<A.ns/\p.2<=ae)->RO A ae o->RO A ae (l.foldl (RN A t) o)
 |[],o,_,h=>h
 |p::l,o,hl,h=>RO.fold ho l (λd hd=>hl d<|by simp[hd])<|RO.aj1 (hl p gD).2 _ (λe m=>(ho.e _ (hl p gD).1 e m).1) h
theorem amX(ho:A.Ok)(hw:Wf H)(hk:GU ay H rw' A q ev sv sb)(hf:jJ F' 86 H fa (J l) 2<|B6 l)(hl:∀p∈l,p.1<A.ns/\p.2<=ae)(hb:A.ns*(ae+1)<=8000000)(a9:J l<=8000000):
 bQ Pg X 56 [pr rw',dP ⟨[u fa (J l) fc,aR ok,u IL htn htc,B st]⟩,vi t] H (Q1 (λv Q=>∃a c,v=u a (J<|zZ A l t) c/\jJ (H.bU<=·) 86 Q a (J<|zZ A l t) 2 (B6<|zZ A l t)) H):=by
 refine lq [0,1,2,4,6,7,8,10,12,13,15,20,21,22,39,40,41] ?_;have G:=h_ hw;refine G.box O λH1 rc G=>?_;have G:SH [] H H1 [(rc,68,[u fa (J l) fc,aR ok,u IL htn htc,B st])]:=G;have ad:∀{Q},Ext H Q->GU ay Q rw' A q ev sv sb:=λM=>hk.stay M nofun;refine dD (RJ (ad G.ext) ho) ?_;rintro _ H1 ⟨rfl,rfl⟩;refine bM ?_;have V:=G.ext.bU;refine G.mkMap (e:=pE) JI λH2 mp a0 ba ar G=>?_;apply G.qF;refine bM ?_;have aE:Ce pE H2 mp λk=>if k∈([]:C Sp)then Z u0 else T:=nZ a0
 have ao:∀i,RO A ae ((l.take i).foldl (RN A t) []):=λi=>RO.fold ho _ (λp hp=>hl p<|fG hp) ⟨jg,nofun⟩;have ap:H.bU<=mp:=aQ V ar;refine lp9 8 10 12 13 15 22 39 40 41 (h1:=λm x8 j_ mP ko mM FP a3 a4 ac Q=>∃(i:Nat)(gb:C eB),FP=B i/\i+m=J l/\GB 86 2 x8 (B6<|(l.take i).foldl (RN A t) []) gb/\(Ce pE Q mp λk=>if k∈(l.take i).foldl (RN A t) []then Z u0 else T)/\SH [] H Q ((rc,68,[u fa (J l) fc,aR ok,u IL htn htc,B st])::gb)) ?_ (J l) ⟨0,[],rfl,bB _,GB.nil _ _,aE,G⟩;rintro m x8 j_ mP ko mM FP a3 a4 ac E H3 ⟨i,gb,rfl,a7,w,d,G⟩;refine lX (λY=>?_) λY=>?_
 .refine tl ?_;refine dD (amW w (by have:=(ao i).le;omega)) ?_;rintro _ H4 ⟨⟨a,c,c',rfl,rfl⟩,rfl⟩;rw[dV N,<-aev]at w|-;refine Lu.rr ?_;refine⟨⟨a,c',O,?_⟩,G.ext⟩;have⟨a',n',c2,e,_,hf⟩:=w.KF (ay:=(H.bU<=·)) (G.perm (L':=gb++[(rc,68,[u fa (J l) fc,aR ok,u IL htn htc,B st])])<|aI (l₁:=[_])) λe he=>G.yV<|bL _ he;cases e;exact hf
 have ab:i<J l:=N;have K:=hl _<|bH ab;have e1:(l.take<|i+1).foldl (RN A t) []=RN A t ((l.take i).foldl (RN A t) []) l[i]:=by rw[dY,av ab,iW];rfl
 have aq:=ao i;refine(hf.ex G.ext).Yb N ab (EX<|av ab) λ_=>?_;generalize(l.take i).foldl (RN A t) []=os at*;generalize l[i]=p at*;refine G.ns O O O λH4 rp G a1=>?_;have G:SH [] H H4 ((rp,86,[B p.1,B p.2])::(rc,68,[u fa (J l) fc,aR ok,u IL htn htc,B st])::gb):=G;have d:=d.ex a1 nofun;refine fJ ?_;refine dD (agS (ad G.ext) K.1) ?_;rintro _ H5 ⟨rfl,rfl⟩;refine bM ?_;refine iI (λh=>by cases h) λ_=>?_;refine iY (H:=hN H5) ((ad G.ext).b.cell (o:=4) O) ?_;refine fJ ?_;have⟨evs,he1,he2⟩:=hk.a.e;have⟨ea,ec,he3,hfe⟩:=he2 _ K.1;refine(he1.ex G.ext).R8 K.1 he3 λr o=>?_;refine fJ ?_
 have a5:J (A.rg p.1)<=100000:=by
  have:=At.AZ ho<|p.1+1;have:=At.yt ho K.1;omega
 have am:∀k,RO A ae (((A.rg p.1).take k).foldl (R_ t p) os):=λk=>RO.aj1 K.2 _ (λe he=>(ho.e _ K.1 e<|fG he).1) aq;refine Yt 8 12 13 15 41 (h1:=λm x8 mP ko mM ac Q=>∃(k:Nat)(gb:C eB),ac=B k/\k+m=J (A.rg p.1)/\GB 86 2 x8 (B6<|((A.rg p.1).take k).foldl (R_ t p) os) gb/\(Ce pE Q mp λj=>if j∈((A.rg p.1).take k).foldl (R_ t p) os then Z u0 else T)/\SH [] H Q ((rp,86,[B p.1,B p.2])::(rc,68,[u fa (J l) fc,aR ok,u IL htn htc,B st])::gb)) ?_ (J<|A.rg p.1) ⟨0,gb,rfl,bB _,w,d,G⟩;clear w d G;rintro m' x8 mP ko mM ac bb H6 ⟨k,gb,rfl,a8,w,d,G⟩;refine lX (λY=>?_) λY=>?_
 .refine tl ?_;refine eG ?_;rw[dV N]at w d;exact⟨J l-(i+1),N,_,_,_,_,_,_,_,_,_,_,_,O,i+1,gb,pJ,N,by rw[e1];exact w,by rw[e1];exact d,fU (A:=[_]) G⟩
 have an:k<J (A.rg p.1):=N;refine KV (hfe.ex G.ext) an λpe=>?_;have U:((A.rg p.1).take<|k+1).foldl (R_ t p) os=R_ t p (((A.rg p.1).take k).foldl (R_ t p) os) (A.rg p.1)[k]:=by rw[dY,av an,iW];rfl
 have a6:=am k;have al:=(am<|k+1).le;rw[U]at al;generalize((A.rg p.1).take k).foldl (R_ t p) os=o2 at*;generalize(A.rg p.1)[k]=e at*;refine G.ns O O O λH7 re G a2=>?_;have G:SH [] H H7 ((re,121,[B e.1,B e.2.1,B e.2.2])::(rp,86,[B p.1,B p.2])::(rc,68,[u fa (J l) fc,aR ok,u IL htn htc,B st])::gb):=G;have d:=d.ex a2 nofun;refine fJ ?_;refine G.ns O O O λH8 rz G BK=>?_;have G:SH [] H H8 ((rz,86,[B e.2.2,B p.2])::(re,121,[B e.1,B e.2.1,B e.2.2])::(rp,86,[B p.1,B p.2])::(rc,68,[u fa (J l) fc,aR ok,u IL htn htc,B st])::gb):=G;have d:=d.ex BK nofun;apply G.jC;refine Ce.has (e:=pE) (k:=(e.2.2,p.2)) d JI Fs agP ?_;refine G.lJ ?_;refine G.ns O O O λH9 ru G Kt=>?_;have d:=d.ex Kt nofun;refine aW (λY=>?_) λY=>?_
 .have P:R_ t p o2 e=o2:=jj Y;refine eG ?_;exact⟨J (A.rg p.1)-(k+1),N,_,_,_,_,_,_,_,O,k+1,gb,pJ,N,by rw[U,P];exact w,by rw[U,P];exact d,fU (A:=[_,_,_]) G⟩
 refine Ow (λI=>?_) λI=>?_
 .have P:R_ t p o2 e=o2:=(jk Y).trans (jk λh=>I N);refine eG ?_;exact⟨J (A.rg p.1)-(k+1),N,_,_,_,_,_,_,_,O,k+1,gb,pJ,N,by rw[U,P];exact w,by rw[U,P];exact d,fU (A:=[_,_,_]) G⟩
 refine Ow (λW=>?_) λW=>?_
 .have P:R_ t p o2 e=o2:=(jk Y).trans ((jj N).trans<|jk W);refine eG ?_;exact⟨J (A.rg p.1)-(k+1),N,_,_,_,_,_,_,_,O,k+1,gb,pJ,N,by rw[U,P];exact w,by rw[U,P];exact d,fU (A:=[_,_,_]) G⟩
 have P:R_ t p o2 e=o2++[(e.2.2,p.2)]:=(jk Y).trans<|(jj N).trans<|jj W;rw[P,aS]at al;refine tm ?_;refine dA (v:=u0) O<|G.ajU (e:=pE) (k:=(e.2.2,p.2)) (.inr ap) d JI agP λCF d G uR=>G.jC ?_;have V:=G;have G:=G.base;refine w.ND G O O O (by rw[uE];omega) λq' v' Ry iN w G=>?_;have d:=d.ex G.ext<|V.z8 d;have G:=V.over G;refine tl ?_;refine eG ?_;exact⟨J (A.rg p.1)-(k+1),N,_,_,_,_,_,_,_,O,k+1,iN,pJ,N,by rw[U,P,Ls];exact w,by rw[U,P];exact d.plus λj=>gD,fU (A:=[_,_,_]) G⟩
end
section
open Go.Proofs.Lu Go.Proofs.Lu.Wk
open Go.Ae Go.Ae.hx
variable{S:C Nat}{ay:Nat->Prop}{ev:D}
def exC{α:Type}{p:α->Prop}{a:α}{l:C α}:(∃x∈a::l,p x)<->p a\/∃x∈l,p x:=gD
def WU(ts:C Nat)(e:Ed):C Nat:=if e.1=1 then ts++[e.2.1]else ts
def UT(A:At)(x:C Nat×C Nat)(p:Sp):C Nat×C Nat:=if p.1∈x.1 then x else(p.1::x.1,(A.rg p.1).foldl WU x.2)
def OQ(A:At)(l:C Sp):C Nat:=(l.foldl (UT A) ([],[])).2
def YZ(ai:Nat):∀(l:C Ed)(ts:C Nat),ai∈l.foldl WU ts<->ai∈ts\/∃e∈l,e.1=1/\e.2.1=ai
 |[],ts=>gD
 |e::l,ts=>by
  rw[lF,YZ ai l];unfold WU;split
  .next h=>simp[h,or_assoc,eq_comm]
  .next h=>simp[h]
def LC:∀(l:C Ed)(ts:C Nat),J (l.foldl WU ts)<=J ts+J l
 |[],ts=>ax _
 |e::l,ts=>by
  have:=LC l<|WU ts e;rw[lF,cO]
  have:J (WU ts e)<=J ts+1:=by
   unfold WU;split<;>simp
  omega
def cnt(A:At)(ms:C Nat):Nat->Nat
 |0=>0
 |n+1=>cnt A ms n+if n∈ms then J (A.rg n)else 0
def aew(ho:A.Ok)(ms:C Nat):∀n,n<=A.ns->cnt A ms n<=A.pre n
 |0,_=>bD _
 |n+1,h=>by
  have:=aew ho ms n N;rw[At.yt ho N];unfold cnt;split<;>omega
def UD{ms:C Nat}{s:Nat}(hs:s∉ms):∀n,cnt A (s::ms) n=cnt A ms n+if s<n then J (A.rg s)else 0
 |0=>rfl
 |n+1=>by
  unfold cnt;rw[UD hs n]
  by_cases h:n=s
  .subst h;simp[hs]
  .by_cases W:s<n
   .rw[jj W,jj (by omega:s<n+1)];simp only[bW,h,false_or];omega
   .rw[jk W,jk (by omega:¬s<n+1)];simp only[bW,h,false_or];omega
def WV(A:At)(x:C Nat×C Nat):Prop:=(∀ai,ai∈x.2<->∃s∈x.1,∃e∈A.rg s,e.1=1/\e.2.1=ai)/\J x.2<=cnt A x.1 A.ns
def WV.step{x:C Nat×C Nat}(h:WV A x)(m:p.1<A.ns):WV A (UT A x p):=by
 unfold UT;split
 .exact h
 .next d=>
  refine⟨λai=>?_,?_⟩
  .rw[YZ,h.1];simp only[exC];exact or_comm
  .have:=LC (A.rg p.1) x.2;have:=h.2;show _<=cnt A (p.1::x.1) A.ns;rw[UD d,jj m];dsimp only;omega
def WV.fold:∀(l:C Sp){x:C Nat×C Nat},WV A x->(∀p∈l,p.1<A.ns)->WV A (l.foldl (UT A) x)
 |[],x,h,_=>h
 |p::l,x,h,hl=>WV.fold l (h.step<|hl p gD) λq d=>hl q (by simp[d])
def LD(s:Nat):∀(l:C Sp)(x:C Nat×C Nat),s∈(l.foldl (UT A) x).1<->s∈x.1\/∃p∈l,p.1=s
 |[],x=>gD
 |p::l,x=>by
  rw[lF,LD s l];unfold UT;split
  .next h=>
   simp only[exC];exact⟨λg=>g.elim .inl λg=>.inr<|.inr g,λg=>g.elim .inl λg=>g.elim (λg=>.inl<|g▸h) .inr⟩
  .rw[exC,bW];constructor
   .rintro((rfl|g)|g)
    .exact .inr<|.inl O
    .exact .inl g
    .exact .inr<|.inr g
   .rintro(g|rfl|g)
    .exact .inl<|.inr g
    .exact .inl<|.inl O
    .exact .inr g
def WV.nil:WV A ([],[]):=⟨gD,bD _⟩
def IM(hl:∀p∈l,p.1<A.ns)(ai:Nat):ai∈OQ A l<->off A l ai:=by
 unfold OQ;rw[(WV.fold l WV.nil hl).1];constructor
 .rintro⟨s,hs,e,d,I,W⟩;rw[LD]at hs;rcases hs with hs|⟨p,m,rfl⟩
  .cases hs
  .exact⟨p,m,e,d,I,by rw[W]⟩
 .rintro⟨p,m,e,d,I,W⟩;exact⟨p.1,(LD _ _ _).2<|.inr ⟨p,m,O⟩,e,d,I,N⟩
def aex(ho:A.Ok)(ht:A.ty<=65536)(hl:∀p∈l,p.1<A.ns)(t:Int):(decide (0<=t/\t<65536)&&hasB (US<|OQ A l) t.toNat)=decide (off A l t):=by
 rw[Lt]
 by_cases h:off A l t
 .have⟨p,hp,e,he,I,W⟩:=id h
  have m:e.2.1<A.ty:=by
   have hoe:=(ho.e _ (hl p hp) e he).2.2;unfold At.agv at hoe;rcases hoe with hoe|hoe|hoe<;>omega
  rw[b_ h,b_ N,b_];rfl;exact(IM hl _).2 (by rwa [show((t.toNat:Nat):Int)=t by omega])
 .rw[dR h]
  by_cases h0:0<=t/\t<65536
  .rw[b_ h0,dR];rfl;intro d;have:=(IM hl _).1 d;rw[show((t.toNat:Nat):Int)=t by omega]at this;exact h this
  .rw[dR h0];rfl
theorem Y0(ho:A.Ok)(ht:A.ty<=65536)(hw:Wf H)(hk:GU ay H rw' A q ev sv sb)(hf:jJ F' 86 H fa (J l) 2<|B6 l)(hl:∀p∈l,p.1<A.ns)(a2:J l<=8000000):
 bQ Pg X 26 [pr rw',dP ⟨[u fa (J l) fc,aR ok,u IL htn htc,B st]⟩] H (Q1 (λv Q=>FE (H.bU<=·) Q v<|US<|OQ A l) H):=by
 have ao:=ho.big;refine lq [0,1,3,4,5,6,8,10,20,21,22,50,51,52] ?_;have G:=h_ hw;refine G.box O λH1 rc G=>?_;have G:SH [] H H1 [(rc,68,[u fa (J l) fc,aR ok,u IL htn htc,B st])]:=G;have T:∀{Q},Ext H Q->GU ay Q rw' A q ev sv sb:=λM=>hk.stay M nofun;refine dD (RJ (T G.ext) ho) ?_;rintro _ H1 ⟨rfl,rfl⟩;refine bM ?_;refine iY ((T G.ext).b.cell (o:=7) O) ?_;have⟨ta,tc,hsv,hsf⟩:=hk.s;rw[hsv];refine bM ?_;refine G.mkS (ax _) N λH2 rm G=>?_;rw[mK]at G;apply G.qF;refine bM ?_;have hm:∀i,∀s,s∈((l.take i).foldl (UT A) ([],[])).1<->∃p∈l.take i,p.1=s:=λi s=>by rw[LD];simp
 have Y:∀i,WV A ((l.take i).foldl (UT A) ([],[])):=λi=>WV.fold _ WV.nil λp hp=>hl p<|fG hp;have U:∀x:C Nat×C Nat,WV A x->J x.2<=100000:=λx M=>aQ M.2<|aQ (aew ho _ _<|ax _)<|At.AZ ho _;refine lp7 6 8 10 22 50 51 52 (h1:=λm x6 x8 j_ FP Jw Fx VT Q=>∃(i:Nat)(d:C Bool)(gb:C eB),FP=B i/\i+m=J l/\J d=A.ns/\(∀s,s<A.ns->d[s]?=Z (decide<|s∈((l.take i).foldl (UT A) ([],[])).1))/\GB 3 1 x6 (gq ((l.take i).foldl (UT A) ([],[])).2) gb/\SH [] H Q ((rm,4,bools d)::(rc,68,[u fa (J l) fc,aR ok,u IL htn htc,B st])::gb)) ?_ (J l) ⟨0,aY A.ns aA,[],rfl,bB _,gD,λs hs=>by rw[l6,jj hs];simp,GB.nil _ _,by rw[show bools (aY A.ns aA)=aY A.ns (aR aA)from jL];exact G⟩;clear G;rintro m x6 x8 j_ FP Jw Fx VT E H3 ⟨i,d,gb,rfl,a0,al,ab,K,G⟩;refine lX (λV=>?_) λV=>?_
 .refine tl ?_;rw[dV N]at K;obtain⟨a,n,c,rfl,hn,ap⟩:=K.KF (ay:=λ_=>True) (L:=[(rm,4,bools d),(rc,68,[u fa (J l) fc,aR ok,u IL htn htc,B st])]) (G.perm<|aI (l₁:=[_,_])) λ_ _=>trivial;have aq:=U _<|Y<|J l;rw[dV (ax _)]at aq
  obtain rfl:n=J (OQ A l):=by
   unfold OQ;simp only[aK]at hn;omega
  refine dD (NS G.wf ap (λai hu=>?_) (by unfold OQ;omega)) ?_
  .have⟨p,hp,e,he,I,W⟩:=(IM hl _).1 hu;have hoe:=(ho.e _ (hl p hp) e he).2.2;unfold At.agv at hoe;rcases hoe with hoe|hoe|hoe<;>omega
  rintro v H4 ⟨hb,M⟩;refine Lu.rr ?_;have⟨r,I,W,h3⟩:=hb;exact⟨⟨r,I,aQ G.ext.bU W,h3⟩,G.ext.trans' M⟩
 have P:i<J l:=N;have w:=hl _<|bH P;have e1:(l.take<|i+1).foldl (UT A) ([],[])=UT A ((l.take i).foldl (UT A) ([],[])) l[i]:=by rw[dY,av P,iW];rfl
 have am:=Y i;have ac:=U _<|Y<|i+1;rw[e1]at ac;refine(hf.ex G.ext).Yb N P (EX<|av P) λ_=>?_;generalize(l.take i).foldl (UT A) ([],[])=x at*;generalize l[i]=p at*;refine G.ns O O O λH4 rp G a4=>?_;have G:SH [] H H4 ((rp,86,[B p.1,B p.2])::(rm,4,bools d)::(rc,68,[u fa (J l) fc,aR ok,u IL htn htc,B st])::gb):=G;refine fJ ?_;refine dD (agS (T G.ext) w) ?_;rintro _ H5 ⟨rfl,rfl⟩;refine bM ?_;refine iI (λh=>by cases h) λ_=>?_;refine G.qF<|G.ix (v:=aR<|decide<|p.1∈x.1) w (by rw[bK,ab _ w];rfl) λ_=>?_;refine aW (λV=>?_) λV=>?_
 .have e2:UT A x p=x:=jj V;refine eG ?_;exact⟨J l-(i+1),N,_,_,_,_,_,_,_,_,_,O,i+1,d,gb,pJ,N,al,by rw[e1,e2];exact ab,by rw[e1,e2];exact K,fU (A:=[_]) G⟩
 have e2:UT A x p=(p.1::x.1,(A.rg p.1).foldl WU x.2):=jk V;rw[e2]at e1 ac;refine tm ?_;refine G.Ya w (by rw[aK];omega) (kk:=λ_ H6 G=>?_)
 have G:SH [] H H6 ((rp,86,[B p.1,B p.2])::(rm,4,bools<|d.set p.1 F)::(rc,68,[u fa (J l) fc,aR ok,u IL htn htc,B st])::gb):=by
  rw[show bools (d.set p.1 F)=(bools d).set p.1 (aR F)from gz];exact G
 have an:∀s,s<A.ns->(d.set p.1 F)[s]?=Z (decide<|s∈p.1::x.1):=λs hs=>by
  rw[dU]
  by_cases h:p.1=s
  .subst h;rw[jj O,jj N];simp
  .rw[jk h,ab s hs];simp[qJ h]
 have WW:J (d.set p.1 F)=A.ns:=by rw[bR];exact al
 generalize d.set p.1 F=d at*;refine iY (H:=hN H6) ((T G.ext).b.cell (o:=4) O) ?_;refine fJ ?_;have⟨evs,he1,he2⟩:=hk.a.e;have⟨ea,ec,he3,hfe⟩:=he2 _ w;refine(he1.ex G.ext).R8 w he3 λr o=>?_;refine fJ ?_
 have aE:J (A.rg p.1)<=100000:=by
  have:=At.AZ ho<|p.1+1;have:=At.yt ho w;omega
 have hts:=LC ((A.rg p.1)) x.2;have a3:=U _ am;refine Ik 6 10 52 (h1:=λm x6 j_ VT Q=>∃(k:Nat)(gb:C eB),VT=B k/\k+m=J (A.rg p.1)/\GB 3 1 x6 (gq<|((A.rg p.1).take k).foldl WU x.2) gb/\SH [] H Q ((rp,86,[B p.1,B p.2])::(rm,4,bools d)::(rc,68,[u fa (J l) fc,aR ok,u IL htn htc,B st])::gb)) ?_ (J<|A.rg p.1) ⟨0,gb,rfl,bB _,K,G⟩;clear K G;rintro m' x6 j_ VT a6 H7 ⟨k,gb,rfl,a1,K,G⟩;refine lX (λV=>?_) λV=>?_
 .refine tl ?_;refine eG ?_;rw[dV N]at K;exact⟨J l-(i+1),N,_,_,_,_,_,_,_,_,_,O,i+1,d,gb,pJ,N,WW,by rw[e1];exact an,by rw[e1];exact K,fU (A:=[_]) G⟩
 have ad:k<J (A.rg p.1):=N;refine KV (hfe.ex G.ext) ad λpe=>?_;have e3:((A.rg p.1).take<|k+1).foldl WU x.2=WU (((A.rg p.1).take k).foldl WU x.2) (A.rg p.1)[k]:=by rw[dY,av ad,iW];rfl
 have ar:=LC ((A.rg p.1).take k) x.2;rw[dX]at ar;generalize((A.rg p.1).take k).foldl WU x.2=ts at*;generalize(A.rg p.1)[k]=e at*;refine G.ns O O O λH8 re G a5=>?_;have G:SH [] H H8 ((re,121,[B e.1,B e.2.1,B e.2.2])::(rp,86,[B p.1,B p.2])::(rm,4,bools d)::(rc,68,[u fa (J l) fc,aR ok,u IL htn htc,B st])::gb):=G;refine yz (λI=>?_) λI=>?_
 .have e4:WU ts e=ts++[e.2.1]:=jj N;refine G.qF<|K.ND G O O O (by rw[aK];omega) λq' v' Ry iN K G=>?_;refine eG ?_;exact⟨J (A.rg p.1)-(k+1),N,_,_,_,_,_,O,k+1,iN,pJ,N,by rw[e3,e4,show gq (ts++[e.2.1])=gq ts++[B e.2.1]from dM];exact K,fU (A:=[_]) G⟩
 .have e4:WU ts e=ts:=jk N;refine eG ?_;exact⟨J (A.rg p.1)-(k+1),N,_,_,_,_,_,O,k+1,gb,pJ,N,by rw[e3,e4];exact K,fU (A:=[_]) G⟩
end
end Go.Proofs.Lv
