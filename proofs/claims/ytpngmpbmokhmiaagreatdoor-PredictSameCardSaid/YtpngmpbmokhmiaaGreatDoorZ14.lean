/-
  Part 14 of the proof. No condition.
-/
import Derived.Test.YtpngmpbmokhmiaaGreatDoorZ11
set_option linter.unusedVariables false
set_option linter.unusedSimpArgs false
set_option maxRecDepth 100000
set_option maxHeartbeats 4000000
set_option linter.defProp false
open Option renaming some->Z,none->W
open Bool renaming true->f,false->aA
open Go renaming Value->D,TypeId->aG
open Go.Value renaming int->bV,slice->T,string->fO
open Nat renaming beq->ay,ble->aB,sub->dA
open List renaming replicate->aU
open List.Perm renaming swap->gm,cons->dQ
open And renaming intro->iq
noncomputable section
namespace Go.Proofs.Lu
open Go.Ae Go.Ae.SH Go.Proofs.Lv
variable{l:List Ed}
section
variable{ax F':Nat->Prop}{H0 H:F}{L SH:List dJ}{S:List Nat}{A:At}{q q':AV}{a a':Option Addr}{n c c':Nat}
def T9{l:List Nat}(hw:Wf H)(h:i_ ax 3 H a n 1<|fG l)(h':i_ F' 3 H a' n 1<|fG l)(hn:n<=16777216):aJ Pg X 81 [T a n c,T a' n c'] H λv C=>v=.bool f/\C=H:=by
 have hl:l.length=n:=by have:=h.1.1;simpa using this
 refine ce [0,1,4,5,12,13] ?_;refine tp ?_;refine bT (λy=>absurd trivial y) λ_=>?_;refine Ig 4 5 13 (h2:=λm x4 x5 jF C=>∃i:Nat,jF=B i/\i+m=n/\C=H) ?_ n ⟨0,rfl,N,rfl⟩;rintro m x4 x5 jF mO H1 ⟨i,rfl,him,rfl⟩;refine tp ?_;refine aC (λhc2=>?_) λhc2=>?_;rotate_left
 .refine tl<|rr ?_;exact⟨O,O⟩
 have hi:i<n:=by omega
 have hv:=y_ (l:=l) (show i<l.length by omega);refine i_.ix (H:=hN H1) (show i_ ax 3 (hN H1) a n 1 (fG l)from h) hi hv λp=>?_
 try simp only[gZ hw]
 refine i_.ix (H:=hN H1) (show i_ F' 3 (hN H1) a' n 1 (fG l)from h') hi hv λp2=>?_
 try simp only[gZ hw]
 refine aY ?_;refine iB (by simp only[ze,BC,xg])<|bT (λy=>absurd trivial y) λ_=>?_;refine dU ?_;exact⟨n-(i+1),N,_,_,_,_,_,O,i+1,nX,N,O⟩
def ahy{l:List ByteArray}(hw:Wf H)(h:i_ ax 9 H a n 1<|l.map .string)(h':i_ F' 9 H a' n 1<|l.map .string)(hn:n<=16777216):aJ Pg X 80 [T a n c,T a' n c'] H λv C=>v=.bool f/\C=H:=by
 have hl:l.length=n:=by have:=h.1.1;simpa using this
 refine ce [0,1,4,5,12,13] ?_;refine tp ?_;refine bT (λy=>absurd trivial y) λ_=>?_;refine Ig 4 5 13 (h2:=λm x4 x5 jF C=>∃i:Nat,jF=B i/\i+m=n/\C=H) ?_ n ⟨0,rfl,N,rfl⟩;rintro m x4 x5 jF mO H1 ⟨i,rfl,him,rfl⟩;refine tp ?_;refine aC (λhc2=>?_) λhc2=>?_;rotate_left
 .refine tl<|rr ?_;exact⟨O,O⟩
 have hi:i<n:=by omega
 have hv:(l.map fO)[i]?=Z (.string<|l[i]'N):=by rw[bD,au (show i<l.length by omega)];rfl
 refine i_.ix (H:=hN H1) (show i_ ax 9 (hN H1) a n 1 (l.map .string)from h) hi hv λp=>?_
 try simp only[gZ hw]
 refine i_.ix (H:=hN H1) (show i_ F' 9 (hN H1) a' n 1 (l.map .string)from h') hi hv λp2=>?_
 try simp only[gZ hw]
 refine aY ?_;refine iB (by simp only[ze,BC,xg])<|dL (λy=>absurd y<|by simp) λ_=>?_;refine dU ?_;exact⟨n-(i+1),N,_,_,_,_,_,O,i+1,nX,N,O⟩
def akb:tEq Pg 121=Z (.inr [1,1,1]):=by kernel_rfl
def alQ(k g t:Int)(i j:Nat):lN Pg .neq 121 (.tmp i) (.tmp j) (.agg ⟨[vi k,vi g,vi t]⟩) (.agg ⟨[vi k,vi g,vi t]⟩)=Z (.bool aA):=by
 show B_ .neq (Yx Pg 121 (.tmp i) (.tmp j) _ _)=_
 have:Yx Pg 121 (.tmp i) (.tmp j) (.agg ⟨[vi k,vi g,vi t]⟩) (.agg ⟨[vi k,vi g,vi t]⟩)=Z f:=by
  have e:kY Pg 121 (.agg ⟨[vi k,vi g,vi t]⟩) (.agg ⟨[vi k,vi g,vi t]⟩)=(bR (IZ k k) (bR (IZ g g) (bR (IZ t t) (Z f)<|Z aA)<|Z aA)<|Z aA):=by
   show(aK (tEq Pg 121) λq=>_)=_;rw[akb];rfl
  have r:∀x:Int,IZ x x=f:=λx=>by rw[Bc];simp
  rw[r,r,r]at e;exact e
 rw[this];rfl
def akc(hw:Wf H)(h:i_ ax 121 H a l.length 3<|zq l)(h':i_ F' 121 H a' l.length 3<|zq l)(hn:l.length<=16777216):aJ Pg X 84 [T a l.length c,T a' l.length c'] H λv C=>v=.bool f/\C=H:=by
 refine ce [0,1,4,5,12,13] ?_;refine tp ?_;refine bT (λy=>absurd trivial y) λ_=>?_;refine Ig 4 5 13 (h2:=λm x4 x5 jF C=>∃i:Nat,jF=B i/\i+m=l.length/\C=H) ?_ l.length ⟨0,rfl,N,rfl⟩;rintro m x4 x5 jF mO H1 ⟨i,rfl,him,rfl⟩;refine tp ?_;refine aC (λhc2=>?_) λhc2=>?_;rotate_left
 .refine tl<|rr ?_;exact⟨O,O⟩
 have hi:i<l.length:=by omega
 refine IU (H:=hN H1) (show i_ ax 121 (hN H1) a l.length 3 (zq l)from h) hi λp=>?_
 try simp only[gZ hw]
 refine IU (H:=hN H1) (show i_ F' 121 (hN H1) a' l.length 3 (zq l)from h') hi λp2=>?_
 try simp only[gZ hw]
 refine PU.of (alQ ..)<|aY ?_;refine iB (by simp only[ze,BC,xg]) ?_;refine dU ?_;exact⟨l.length-(i+1),N,_,_,_,_,_,O,i+1,nX,N,O⟩
def Yg(hw:Wf H)(h:i_ ax 121 H a l.length 3<|zq l)(h':i_ F' 121 H a' l.length 3<|zq l)(hn:l.length<=16777216):aJ Pg X 83 [T a l.length c,T a' l.length c'] H λv C=>v=.bool f/\C=H:=by
 refine ce [0,1,4] ?_;refine tl ?_;refine aJ.mono (akc hw h h' hn) ?_;rintro v C ⟨rfl,rfl⟩;refine rr ?_;exact⟨O,O⟩
def ahA(hw:Wf H)(h:rX ax H A q)(h':rX F' H A q')(ho:A.Ok):aJ Pg X 82 [T q.ea A.ns q.ec,T q'.ea A.ns q'.ec,.func (.func 83) #[] #[]] H λv C=>v=.bool f/\C=H:=by
 have hbig:=ho.big;refine ce [0,1,2,6,7,8,9,15,16,17] ?_;refine tp ?_;refine bT (λy=>absurd trivial y) λ_=>?_;refine Vx 6 7 8 9 17 (h2:=λm x6 x7 x8 x9 zF C=>∃i:Nat,zF=B i/\i+m=A.ns/\C=H) ?_ A.ns ⟨0,rfl,N,rfl⟩;rintro m x6 x7 x8 x9 zF mO H1 ⟨i,rfl,him,rfl⟩;refine tp ?_;refine aC (λhc2=>?_) λhc2=>?_;rotate_left
 .refine tl<|rr ?_;exact⟨O,O⟩
 have hi:i<A.ns:=by omega
 have hlen:=ho.len i;refine h.ldE (Ext.refl _) hi λp ra rc hf=>h'.ldE (Ext.refl _) hi λp2 ra2 rc2 hf2=>aJ.mono (show aJ Pg X 83 _ _ _ from Yg hw hf hf2 N) ?_;rintro v C ⟨rfl,rfl⟩;refine aY ?_;refine dL (λhb=>by cases hb) λ_=>?_;refine dU ?_;exact⟨A.ns-(i+1),N,_,_,_,_,_,_,_,O,i+1,nX,N,O⟩
def Yh(hw:Wf H)(h:rX ax H A q)(h':rX F' H A q')(ho:A.Ok):aJ Pg X 53 [q.v A,q'.v A] H (Qe (λv _=>v=.bool f) H):=by
 have G:=M.refl hw;have hbig:=ho.big;have KL:=ho.few;refine ce [0,1,2,3,4] ?_;refine tl ?_;refine G.box O λH1 r1 G=>?_;refine G.box O λH2 r2 G=>?_;have G:M [] H H2 [(r2,27,[T q'.na A.nr q'.nc,T q'.sa A.nr q'.sc,T q'.pa A.nr q'.pc,T q'.oa A.ns q'.oc,T q'.ea A.ns q'.ec,B A.ty]),(r1,27,[T q.na A.nr q.nc,T q.sa A.nr q.sc,T q.pa A.nr q.pc,T q.oa A.ns q.oc,T q.ea A.ns q.ec,B A.ty])]:=G;refine d_ ?_;refine aC (λ_=>?_) λy=>absurd trivial y;have g:=h.ex G.ext;have g':=h'.ex G.ext;refine d_ ?_;refine aJ.mono (ahy G.wf g.n g'.n N) ?_;rintro v _ ⟨rfl,rfl⟩;refine d_ ?_;refine aJ.mono (T9 G.wf g.s g'.s N) ?_;rintro v _ ⟨rfl,rfl⟩;refine d_ ?_;refine aJ.mono (T9 G.wf g.p g'.p N) ?_;rintro v _ ⟨rfl,rfl⟩;refine d_ ?_;refine aJ.mono (T9 G.wf g.o g'.o N) ?_;rintro v _ ⟨rfl,rfl⟩;refine d_ ?_;refine aJ.mono (ahA G.wf g g' ho) ?_;rintro v _ ⟨rfl,rfl⟩;refine rr ?_;exact⟨O,G.ext⟩
end
end Go.Proofs.Lu
namespace Go.Proofs.Lv
open Go.Proofs.Lu
open Go.Ae Go.Ae.SH
section
variable{H0 H:F}{L SH:List dJ}{S:List Nat}{ax:Nat->Prop}{A:At}{q:AV}{n s:Nat}
structure RB(n c:Nat)(b:List<|List Nat):Prop where
 len:b.length=n
 lt:∀(i:Nat)(l:List Nat),b[i]?=Z l->(∀x∈l,x<n)/\l.length<=c
structure Rch(b:List<|List Nat)(mk mk':List Bool):Prop where
 gr:∀t,on mk t->on mk' t
 ln:mk'.length=mk.length
 nw:∀x,on mk' x->¬on mk x->∀l:List Nat,b[x]?=Z l->∀hc∈l,on mk' hc
def Rch.refl(b:List<|List Nat)(mk:List Bool):Rch b mk mk:=⟨λ_ h=>h,rfl,λx h h'=>absurd h h'⟩
def Rch.trans{b:List (List Nat)}{m1 m2 m3:List Bool}(h:Rch b m1 m2)(g:Rch b m2 m3):Rch b m1 m3:=
 ⟨λt ht=>g.gr t<|h.gr t ht,g.ln.trans h.ln,λx J hn l hl hc hy=>by
  by_cases I:on m2 x
  .exact g.gr hc<|h.nw x I hn l hl hc hy
  .exact g.nw x J I l hl hc hy⟩
end
end Go.Proofs.Lv
namespace Go.Ae
def g5(a b c d e:Nat):Nat->Nat
 |1=>a
 |2=>b
 |3=>c
 |4=>d
 |5=>e
 |_=>0
end Go.Ae
namespace Go.Proofs.Lv
open Go.Proofs.Lu
open Go.Ae Go.Ae.SH
variable{E vs:List D}{b:List (List Nat)}{c c' es n s:Nat}{mk:List Bool}{e:Ed}{L SH:List dJ}{A:At}{q:AV}{v:D}{H C H0:F}
section
variable{S:List Nat}{ax:Nat->Prop}
structure KR(A:At)(mk:List Bool)(ae:Nat->Ed->Prop)(c:Nat)(b:List<|List Nat):Prop where
 rb:RB A.nr c b
 cp:∀s e,ae s e->e.1=2->on mk s->∃l,b[A.aj s]?=Z l/\e.2.1∈l
variable{ae D':Nat->Ed->Prop}
def KR.wk(h:KR A mk ae c b)(hd:∀s e,D' s e->ae s e)(y:c<=c'):KR A mk D' c' b:=
 ⟨⟨h.rb.len,λi l hl=>⟨(h.rb.lt i l hl).1,aX (h.rb.lt i l hl).2 y⟩⟩,λs e hs=>h.cp s e<|hd s e hs⟩
def KR.skip(h:KR A mk ae c b)(hk:e.1=2->¬on mk s):KR A mk (λs' e'=>ae s' e'\/(s'=s/\e'=e)) (c+1) b:=
 ⟨⟨h.rb.len,λi l hl=>⟨(h.rb.lt i l hl).1,pV (h.rb.lt i l hl).2⟩⟩,λs' e' hs Q I=>by
   rcases hs with hs|⟨rfl,rfl⟩
   .exact h.cp s' e' hs Q I
   .exact absurd I<|hk Q⟩
def KR.add(h:KR A mk ae c b){l:List Nat}(he:e.2.1<A.nr)(hl:b[A.aj s]?=Z l):KR A mk (λs' e'=>ae s' e'\/(s'=s/\e'=e)) (c+1) (b.set (A.aj s)<|l++[e.2.1]):=by
 have hlt:=(bA.1 hl).1;refine⟨⟨by rw[bF];exact h.rb.len,λi l' hl'=>?_⟩,λs' e' hs Q I=>?_⟩
 .rw[dB]at hl';split at hl'
  .next g=>
   subst g;injection hl' with hl'
   subst hl';obtain⟨g1,g2⟩:=h.rb.lt _ l hl;refine⟨λx J=>?_,by simp;omega⟩;rcases bX.1 J with J|J
   .exact g1 x J
   .simp at J;subst J;exact he
  .obtain⟨g1,g2⟩:=h.rb.lt i l' hl';exact⟨g1,N⟩
 .have key:∀l',b[A.aj s']?=Z l'->e'.2.1∈l'->∃l2,(b.set (A.aj s)<|l++[e.2.1])[A.aj s']?=Z l2/\e'.2.1∈l2:=λl' g1 g2=>by
   by_cases g:A.aj s=A.aj s'
   .rw[<-g,hl]at g1;injection g1 with g1
    subst g1;exact⟨l++[e.2.1],by rw[<-g,tQ hlt],cZ _ g2⟩
   .exact⟨l',by rw[List.getElem?_set_ne g];exact g1,g2⟩
  rcases hs with hs|⟨rfl,rfl⟩
  .obtain⟨l',g1,g2⟩:=h.cp s' e' hs Q I;exact key l' g1 g2
  .exact⟨l++[e'.2.1],by rw[tQ hlt],by simp⟩
def RR(A:At)(mk:List Bool)(ae:Nat->Ed->Prop)(c:Nat)(vs:List D)(hr:List dJ):Prop:=∃b,KR A mk ae c b/\H_ 3 1 (b.map fG) vs hr
def RR.wk{hr:List dJ}(h:RR A mk ae c vs hr)(hd:∀s e,D' s e->ae s e)(y:c<=c'):RR A mk D' c' vs hr:=let⟨b,Q,h3⟩:=h;⟨b,Q.wk hd y,h3⟩
def RR.skip{hr:List dJ}(h:RR A mk ae c vs hr)(hk:e.1=2->¬on mk s):RR A mk (λs' e'=>ae s' e'\/(s'=s/\e'=e)) (c+1) vs hr:=let⟨b,Q,h3⟩:=h;⟨b,Q.skip hk,h3⟩
def RR.len{hr:List dJ}(h:RR A mk ae c vs hr):vs.length=A.nr:=let⟨b,Q,h3⟩:=h;by rw[<-h3.len,aM,Q.rb.len]
def RR.same{hr:List dJ}(h:RR A mk ae c vs hr):∀v∈vs,nI v v=f:=let⟨_,_,h3⟩:=h;Ap h3
def RR.put{hr P0 L0:List dJ}{rx:Nat}{K:D->F->Prop}(h:RR A mk ae c vs hr)(y:c<=1000000)(he:e.2.1<A.nr)(hn:A.aj s<A.nr)(hv:vs[A.aj s]?=Z v)(G:M S H0 H<|(rx,3,[B e.2.1])::(P0++(hr++L0)))(kk:∀va vl vc H1 R'(S':List Nat),RR A mk (λs' e'=>ae s' e'\/(s'=s/\e'=e)) (c+1) (vs.set (A.aj s)<|T va vl vc) R'->M S H0 (hM H H1) (P0++(R'++L0))->(Dq H H1=cl 1\/Dq H H1=⟨2,0,0,0,H,H1⟩)->(∀r,r<H.next->r∉S'->H1.obj r=H.obj r)->(∀r∈S',r∈hr.map (·.1))->K (T va vl vc) H1):
 ME (zB 3 1 v (T (Z ⟨rx,0,W⟩) 1 1)<|hN H) K:=by
 obtain⟨b,Q,h3⟩:=h;have I:=Q.rb.len;have hvl:vs.length=A.nr:=by rw[<-h3.len,aM,I]
 obtain⟨A',gb,vn,rfl,hg,hput⟩:=h3.at (A.aj s) N;obtain⟨l,hl⟩:∃l,b[A.aj s]?=Z l:=⟨_,au N⟩;have hll:=(Q.rb.lt _ l hl).2;rw[bD,hl]at hg;have hg:GB 3 1 vs[A.aj s] (fG l) gb:=hg;rw[au N]at hv;rw[dH hv]at hg;have e1:P0++((A'++(gb++vn))++L0)=(P0++A')++(gb++(vn++L0)):=by simp
 rw[e1]at G;refine hg.Gj (G.perm<|dQ _<|iE (P0++A') gb<|vn++L0) N O O (by simp;omega) λv' H1 gT hg' hS' _ PD hcl=>?_;obtain⟨va,vl,vc,rfl⟩:=hg'.sl;have hS':=hS'.perm<|iE gT (P0++A')<|vn++L0;have e2:(P0++A')++(gT++(vn++L0))=P0++((A'++(gT++vn))++L0):=by simp
 rw[e2]at hS'
 refine kk va vl vc H1 (A'++(gT++vn)) (gb.map (·.1)) ⟨b.set (A.aj s)<|l++[e.2.1],Q.add he hl,?_⟩ hS' hcl PD λr R=>by
  obtain⟨x,J,rfl⟩:=bQ.1 R;exact bQ.2 ⟨x,by simp[J],rfl⟩
 have:=hput (T va vl vc) (fG<|l++[e.2.1]) gT (by rw[show fG (l++[e.2.1])=fG l++[B e.2.1] by simp];exact hg');rw[fV];exact this
end
section
variable{S:List Nat}{ax:Nat->Prop}
def _root_.Go.Ae.i_.old{ty:aG}{a:Option Addr}(h:i_ ax ty H a n es E):i_ (·<H.next) ty H a n es E:=⟨h.1,λr o e hn=>let⟨_,I,h3⟩:=h.2 r o e hn;⟨I,I,h3⟩⟩
def rX.old(h:rX ax H A q):rX (·<H.next) H A q:=⟨h.n.old,h.s.old,h.p.old,h.o.old,let⟨evs,Q,I⟩:=h.e;⟨evs,Q.old,λi hi=>let⟨a,c,h3,h4⟩:=I i hi;⟨a,c,h3,h4.old⟩⟩⟩
def Bs.stay{b:Nat}(h:Bs b H n v mk)(J:oz S H C)(G:∀r∈S,r<b):Bs b C n v mk:=let⟨a,c,Q,I,h3⟩:=h;⟨a,c,Q,I,h3.stay J λr R=>.inl (by have:=G r R;omega)⟩
def RB.wk(h:RB n c b)(y:c<=c'):RB n c' b:=⟨h.len,λi l hl=>⟨(h.lt i l hl).1,aX (h.lt i l hl).2 y⟩⟩
def afU{α:Type}(a b c d e av:α):[a,b,c,d,e,av].Perm [av,c,b,e,a,d]:=by
 refine List.Perm.trans (aF (l₁:=[a,b,c,d,e]) (l₂:=[av]))<|dQ av ?_;refine List.Perm.trans (aF (l₁:=[a,b]) (l₂:=[c,d,e]))<|dQ c ?_;refine List.Perm.trans (aF (l₁:=[d,e,a]) (l₂:=[b]))<|dQ b ?_;exact List.Perm.trans (gm _ _ _)<|dQ e<|gm _ _ _
end
end Go.Proofs.Lv
namespace Go.Ae
def M.mN{H0 H C:F}{L L':List dJ}(G:M [] H0 H L)(h:M [] (Go.Ae.hN H0) C L'):M [] H0 (hM H C) L':=by
 have hw:=h.wf;have e:(hM H C).low=nN H.low C.low:=rfl;rw[Gi]at e;refine⟨⟨h.ext.next,h.ext.obj,λb hl hn _=>?_,λ_=>?_⟩,λx J=>(h.bk x J).jf O,h.lo,h.ne,?_⟩
 .have Q:=G.ext.low b hl hn (λr h=>nomatch h);have I:=h.ext.low b hn hn λr h=>nomatch h;omega
 .show(hM H C).low<=C.next;omega
 .show(hM H C).low<=C.next;omega
end Go.Ae
namespace Go.Proofs.Lv
open Go.Proofs.Lu
open Go.Ae Go.Ae.SH
variable{l zs:List Int}{L SH gb:List dJ}{b c i j k n r s:Nat}{A:At}{q:AV}{a:Option Addr}{h1:Int->Prop}{v:D}{H H0:F}{E dY ks vs:List D}
section
variable{S:List Nat}{ax:Nat->Prop}
def ab6(h:n<=1000000):U4 1 (T (Z ⟨r,0,W⟩) n<|fI 1) W (Z<|B n) (Z<|B n)=Z (T (Z ⟨r,0,W⟩) n n):=by
 show bR (gD<|fI 1) (aK (Z n) λm=>gd (aB 0 n&&aB n m&&aB m (fI 1)&&(!(eX<|Z<|B n)||eX (Z<|B n)))<|Z<|T (Z ⟨r,sN m 0 0 1,W⟩) (dA n 0)<|dA m 0) (gd (ay (fI 1)<|fI 1)<|gd (aB 0 n&&aB n n&&aB n n&&f&&gD n)<|Z<|T (Z ⟨r,sN n 0 0 1,W⟩) (dA n 0)<|dA n 0)=_;have hk:gD n=f:=aH N;have ho:sN n 0 0 1=0:=by unfold sN;cases ay n 0<;>rfl
 rw[yE,jL,dw,aH<|bg _,aH<|az _,hk,ho];rfl
def Yi(hg:GB 3 1 v E gb)(hl:E.length<=1000000)(hw:Wf H):aJ Pg X 161 [v] H λv' C=>C=H/\((∃c,v'=T W 0 c/\E=[]/\gb=[])\/∃r c dY,v'=T (Z ⟨r,0,W⟩) E.length c/\gb=[(r,3,E++dY)]):=by
 have G:=M.refl hw;rcases hg with⟨rfl,rfl,rfl⟩|⟨r,n,dY,rfl,hn,rfl⟩
 .refine ce [0,2] ?_;refine tp ?_;refine PU.of (v:=T W 0 0) O ?_;refine rr ?_;simp
 .rw[dz]at hn;subst hn;refine ce [0,2] ?_;refine tp ?_;refine PU.of (ab6 hl)<|rr ?_;exact⟨by trivial,.inr ⟨r,_,dY,rfl,rfl⟩⟩
def getD_in{l:List Nat}{h:k<l.length}:l[k]?.getD 0=l[k]:=by rw[au h];rfl
def NQ(h1:Int->Prop)(ks:List D):Prop:=∀x∈ks,∃z:Int,x=vi z/\h1 z
def NQ.nm(hk:NQ h1 ks)(G:M [] H0 H<|(r,3,ks++dY)::L):Nm h1 r 3 ks.length H0 H L:=by
 refine⟨ks++dY,by rw[aQ];omega,λk hk'=>?_,G⟩;obtain⟨z,e,hq⟩:=hk _<|bB hk';refine⟨z,?_,hq⟩;rw[<-e];unfold El;rw[dz,dN (by rw[aQ];omega),iI hk'];rfl
def afY(h:Nm h1 r 3 n H0 H L):∃ks' gT,ks'.length=n/\NQ h1 ks'/\GB 3 1 (sl r n<|fI 1) ks' gT/\M [] H0 H (gT++L):=by
 obtain⟨E,Q,I,h3⟩:=h;have hl:(E.take n).length=n:=by rw[eH];omega
 refine⟨E.take n,[(r,3,E.take n++E.drop n)],hl,λx J=>?_,.inr ⟨r,n,_,rfl,N,rfl⟩,by rw[iO];exact h3⟩;obtain⟨i,hi,rfl⟩:=iJ J;obtain⟨z,e,hq⟩:=I i N;refine⟨z,?_,hq⟩;unfold El at e;rw[dz,dN N]at e;rw[List.getElem_take];exact(jA e).1
def aej(hg:GB 3 1 v ks gb)(hl:ks.length<=1000000)(hk:NQ h1 ks)(G:M [] H0 H<|gb++L):aJ Pg X 160 [v] H λ_ C=>∃ks' gT,ks'.length=ks.length/\NQ h1 ks'/\GB 3 1 v ks' gT/\M [] H0 C (gT++L):=by
 rcases hg with⟨rfl,rfl,rfl⟩|⟨r,n,dY,rfl,hn,rfl⟩
 .refine aJ.mono abq ?_;rintro _ _ rfl;exact⟨[],[],O,hk,GB.nil _ _,G⟩
 .obtain rfl:n=ks.length:=by omega
  refine aJ.mono (KF hl<|hk.nm G) ?_;intro _ H1 hB;exact afY hB
def aek(hg:GB 3 1 v ks gb)(hl:ks.length<=1000000)(hk:NQ h1 ks)(G:M [] H0 H<|gb++L):aJ Pg X 162 [v] H λv' C=>∃ks' gT,ks'.length<=ks.length/\NQ h1 ks'/\GB 3 1 v' ks' gT/\M [] H0 C (gT++L):=by
 rcases hg with⟨rfl,rfl,rfl⟩|⟨r,n,dY,rfl,hn,rfl⟩
 .refine aJ.mono QK ?_;rintro _ _ ⟨rfl,rfl⟩;exact⟨[],[],az _,hk,GB.nil _ _,G⟩
 .obtain rfl:n=ks.length:=by omega
  refine aJ.mono (FI hl<|hk.nm G) ?_;rintro _ H1 ⟨n',hn',rfl,hB⟩;obtain⟨ks',gT,Q,I,h3,h4⟩:=afY hB;exact⟨ks',gT,N,I,h3,h4⟩
end
section
variable{S:List Nat}{ax:Nat->Prop}
def ab7(ho:A.Ok)(h:i<=j)(hj:j<=A.ns):A.pre i<=A.pre j:=by
 induction j with
 |zero=>obtain rfl:i=0:=by omega
        exact az _
 |succ j ih=>
  rcases bZ i (j+1)with Q|Q
  .have:=At.vX ho (i:=j) N;have:=ih N N;omega
  .obtain rfl:i=j+1:=by omega
   exact az _
def VW(h1:Int->Prop)(v:D)(hr:List dJ):Prop:=(∃c,v=T W 0 c)\/∃(r n c:Nat)(E dY:List D),v=T (Z ⟨r,0,W⟩) n c/\((r,3,E++dY):dJ)∈hr/\E.length=n/\n<=100000/\NQ h1 E
def VW.nums{hr:List dJ}(h:VW h1 v hr)(G:M [] H0 H L)(hR:∀e∈hr,e∈L):Iq H0.next 100000 h1 H v:=by
 rcases h with⟨c,rfl⟩|⟨r,n,c,E,dY,rfl,hm,rfl,hn,hq⟩
 .exact⟨W,0,c,[],O,i_.nil _ _ _ _ _,bg _,λx h=>nomatch h⟩
 .have hb:=G.bk _ (hR _ hm);exact⟨_,_,c,E,O,⟨⟨N,λi x hi=>⟨r,0,rfl,(G.lo _<|hR _ hm).2,by rw[aW];refine hb.cell ?_;rw[bJ (bA.1 hi).1];exact hi⟩⟩,λr' o e _=>by cases e;exact⟨G.wB<|hR _ hm,(G.lo _<|hR _ hm).2,hb.HZ⟩⟩,hn,hq⟩
theorem Rf(h:rX ax H0 A q)(ho:A.Ok){rule dc xc u:Nat}{hr:List dJ}(R:rule<A.nr)(hvl:vs.length=A.nr)(hv:vs[rule]?=Z (T W 0 0))(G:M [] H0 H<|(dc,22,vs)::(xc,124,[T (Z ⟨dc,0,W⟩) A.nr A.nr])::(u,27,q.cells A)::hr):
 aJ Pg X 158 [B rule,pt u,pt xc] H λ_ C=>∃v gb,VW (QL A.nr) v gb/\M [] H0 C ((dc,22,vs.set rule v)::(xc,124,[T (Z ⟨dc,0,W⟩) A.nr A.nr])::(u,27,q.cells A)::(gb++hr)):=by
 refine ce [0,1,2,5,7,14,15,16,24,25,26] ?_;refine tl ?_;have hsr:=ho.s rule R;have hS0:=G;refine G.J8 2 O (by show 0+6<=6;omega) ?_;refine d_ ?_;refine(h.ex G.ext).n'.ldS ho R λp=>?_;simp only[gZ G.wf];refine aJ.mono (free_spec (ax:=ax) (nG H) (h.ex G.ext).n' ho hsr.1) ?_;rintro _ H2 ⟨⟨fa,fc,l,rfl,hfl,hup,hfm⟩,J⟩;have G:=G.mV J;have hfl:i_ ((hN H).next<=·) 3 (hM H H2) fa l.length 1 (fG l):=hfl;refine aY ?_;refine iB (by simp only[fK J,ze,BC,aef,xg]) ?_
 have hset:vs.set rule (T W 0 0)=vs:=by
  obtain⟨Q,I⟩:=bA.1 hv;rw[<-I];exact p_ Q
 have hln:∀s∈l,s<A.ns:=λs hs=>(At.Rc.own ho (k:=rule) (λt ht=>by subst ht;exact hsr)<|(hfm s).1 hs).1;have hSb:=G;have G:=G.base;have hB:rX (·<H0.next) (hM H H2) A q:=h.old.ex hSb.ext;generalize akd:((dc,22,vs)::(xc,124,[T (Z ⟨dc,0,W⟩) A.nr A.nr])::(u,27,q.cells A)::hr:List dJ).map (λe:dJ=>e.1)=ids at G
 have hid:∀r∈ids,H0.next<=r/\r<H.next:=λr hr'=>by
  rw[<-akd]at hr';obtain⟨x,hx1,rfl⟩:=bQ.1 hr';exact⟨hS0.wB hx1,(hS0.lo x hx1).2⟩
 obtain⟨evs,he1,he2⟩:=hB.e;have hlow:∀r∈ids,¬r<H0.next:=λr hr'=>by have:=hid r hr';omega
 have alR:∀i(h:i<l.length),i<=l[i]:=λi=>by
  induction i with
  |zero=>exactλ_=>bg _
  |succ i ih=>
   intro h;have:=ih N;have:=jS.1 hup i (i+1) N h N;omega
 have hll:l.length<=4000:=by
  have:=ho.big;rcases gH l.length with h0|h0
  .omega
  .have:=alR (l.length-1) N;have:=hln _<|bB (show l.length-1<l.length by omega);omega
 have hF:∀{C L'},M ids (hM H H2) C L'->i_ ((hN H).next<=·) 3 C fa l.length 1 (fG l):=λG=>hfl.stay G.ext λr hr'=>.inl (by have:=hid r hr';show¬H.next<=r;omega);refine gJ.wC λK hK=>lp6 5 7 16 24 25 26 (h2:=λm x5 x7 pz x24 x25 XA C=>∃(i c:Nat)(v:D)(gb:List dJ)(acc:List D),pz=B i/\i+m=l.length/\GB 3 1 v acc gb/\NQ (QL A.nr) acc/\acc.length<=A.pre c/\c<=A.ns/\(∀s∈l.drop i,c<=s)/\M ids (hM H H2) C ((dc,22,vs.set rule v)::(xc,124,[T (Z ⟨dc,0,W⟩) A.nr A.nr])::(u,27,q.cells A)::(gb++hr))) ?_ l.length ⟨0,0,_,[],[],rfl,N,GB.nil _ _,(λx h=>nomatch h),bg _,bg _,λs _=>bg _,by rw[hset];exact G⟩;clear G;rintro m x5 x7 pz x24 x25 XA mO H3 ⟨i,c,v,gb,acc,rfl,him,hg,hD,hac,hcn,hdr,G⟩;refine tp ?_;refine aC (λy=>?_) λy=>?_;rotate_left
 .subst hK;refine aY ?_;obtain rfl:i=l.length:=by omega
  have amG:acc.length<=100000:=by have:=At.yZ ho c;omega
  clear hdr him;subst akd;have G:=hSb.over G;obtain⟨va,vl,vc,rfl⟩:=hg.sl;have hvr:∀{w},(vs.set rule w)[rule]?=Z w:=by intro w;rw[dB,if_pos O,if_pos N]
  refine tl ?_;refine G.oF<|G.ix (k:=rule) R hvr λp=>aJ.mono (aej hg N hD<|G.perm<|iE [_,_,_] gb hr) ?_;rintro _ H4 ⟨E,gb1,hcl,hq1,hg1,hS1⟩;have G:=hS1.perm<|iE gb1 [_,_,_] hr;simp only[bE,bK]at G;refine d_ ?_;refine G.TP (k:=rule) R hvr ?_;refine G.kK ?_;have hS2:=G;refine aJ.mono (aek hg1 N hq1 hS1.xG) ?_;rintro w H5 ⟨cs2,YC,hl2,hq2,hg2,rQ⟩;have G:=(hS1.mN rQ).perm<|iE YC [_,_,_] hr;simp only[bE,bK]at G;have uR:=G;refine aJ.mono (Yi hg2 N<|nG _) ?_;rintro w' H6 ⟨rfl,hw'⟩;refine G.kK ?_;obtain⟨xa,xl,xk,rfl⟩:∃a n c,w'=T a n c:=by rcases hw' with⟨c,h,_⟩|⟨r,c,j,h,_⟩<;>exact⟨_,_,_,h⟩
  refine G.Q3 (k:=rule) R (by rw[bF];omega) (kk:=λHB G=>?_);refine splitK (λK hK=>?_) ?_
  .have n4:dc≠xc:=hS2.nq 0 1 O O N
   have r2:∀{n:Nat}{a b:F},n=1->mY ⟨2,0,0,0,H4,H5⟩ ⟨4,dc,rule,n,a,b⟩=f:=λh=>p8 (hS2.get 0 O) ((uR.get 0 O).jf O) (by rw[bF];omega) λv hv=>by
    subst h;rw[dN (by rw[bF];omega),jO,j3,aO,uy]at hv;subst hv;exact hg.same
   have r3:∀{n:Nat}{a b:F},n=1->mY ⟨2,0,0,0,H4,H5⟩ ⟨4,xc,0,n,a,b⟩=f:=λh=>p8 (hS2.get 1 O) ((uR.get 1 O).jf O) (by subst h;exact az 1) λv hv=>by
    have:=ko<|eP hv;simp at this;subst this;exact oQ _ _ _ λx h=>by cases h;rfl
   simp only[fK (Ext.refl<|hN<|hM H4 H5),eG,fT];generalize rule=ke at r2|-;rcases vP H4 H5 with e|e<;>rw[e]<;>apply Jd (A:=H4) (vn:=H5) (a:=dc) (b:=xc) n4 (by rfl) (by kernel_rfl) (by kernel_rfl) hK<;>repeat' apply iq
   all_goals first|exact trivial|(intro h;cases h;done)|exactλ_=>⟨rfl,rfl⟩|exactλ_=>r2 O|exactλ_=>r3 O
  rw[List.set_set]at G;refine rn ?_;refine⟨_,YC,?_,G⟩;rcases hw' with⟨c,h,_⟩|⟨r,c,dY,h,I⟩
  .exact .inl ⟨c,h⟩
  .exact .inr ⟨r,_,c,cs2,dY,h,by rw[I];exact aL ..,O,N,hq2⟩
 have hi:i<l.length:=by omega
 have hmem:=bB hi;have hsn:=hln _ hmem;have hcs:c<=l[i]:=hdr _ (by rw[dN hi];exact aL ..);have hpm:=ab7 ho hcs N;refine(hF G).ix hi (y_ hi) λp=>?_;rw[getD_in (h:=hi)];refine G.ld 2 (o:=4) O O ?_;obtain⟨ea,ec,he3,he4⟩:=he2 _ hsn;refine(he1.stay G.ext λr hr'=>.inl<|hlow r hr').ix hsn he3 λp=>?_;refine aY ?_;have hpre:=At.vX ho hsn;have hpl:=At.yZ ho<|l[i]+1;refine lp2 7 26 (h2:=λm x7 XA C=>∃(k:Nat)(v:D)(gb:List dJ)(acc:List D),XA=B k/\k+m=(A.cs l[i]).length/\GB 3 1 v acc gb/\NQ (QL A.nr) acc/\acc.length<=A.pre l[i]+k/\M ids (hM H H2) C ((dc,22,vs.set rule v)::(xc,124,[T (Z ⟨dc,0,W⟩) A.nr A.nr])::(u,27,q.cells A)::(gb++hr))) ?_ (A.cs l[i]).length ⟨0,v,gb,acc,rfl,N,hg,hD,N,G⟩;clear G hg hD hac;rintro m' x7 XA LU H4 ⟨k,v,gb,acc,rfl,hkm,hg,hD,hac,G⟩;refine tp ?_;refine aC (λhc2=>?_) λhc2=>?_;rotate_left
 .obtain rfl:k=(A.cs l[i]).length:=by omega
  refine tl ?_;refine dU ?_;subst hK;refine⟨l.length-(i+1),N,_,_,_,_,_,_,_,_,O,i+1,l[i]+1,v,gb,acc,nX,N,hg,hD,N,N,λs hs=>?_,G⟩
  .obtain⟨j,hj,rfl⟩:=iJ hs;rw[List.getElem_drop];have:=jS.1 hup i (i+1+j) hi (by rw[tY]at hj;omega) N;omega
 have hk':k<(A.cs l[i]).length:=by omega
 refine IU (he4.stay G.ext λr hr'=>.inl<|hlow r hr') hk' λp=>?_;have hem:=bB hk';have hke:(A.cs l[i])[k]?=Z (A.cs l[i])[k]:=au hk';have VG:=ho.len l[i];generalize(A.cs l[i])[k]=e at hke hem|-;refine G.ns O O O λH8 re G Bw=>?_;have G:M ids (hM H H2) H8 ((re,121,[B e.1,B e.2.1,B e.2.2])::(dc,22,vs.set rule v)::(xc,124,[T (Z ⟨dc,0,W⟩) A.nr A.nr])::(u,27,q.cells A)::(gb++hr)):=G;refine d_ ?_;refine aC (λhc1=>?_) λhc1=>?_;rotate_left
 .refine dU ?_;exact⟨(A.cs l[i]).length-(k+1),N,_,_,_,_,O,k+1,v,gb,acc,nX,N,hg,hD,N,M.drop (A:=[_]) G⟩
 have hSc:=G;have G:=G.base;obtain⟨va,vl,vc,rfl⟩:=hg.sl;have hvr:(vs.set rule<|T va vl vc)[rule]?=Z (T va vl vc):=by rw[dB,if_pos O,if_pos N]
 refine d_ ?_;refine G.TP (k:=rule) R hvr<|d_ ?_;refine G.Qa O O O N λH9 rx G sw=>?_;have n1:re≠dc:=G.nq 1 2 O O N;have n2:re≠xc:=G.nq 1 3 O O N;have n4:dc≠xc:=G.nq 2 3 O O N;have VE:=G;have G:=(G.to (cs':=[B e.2.1]) O).perm<|dQ _<|iE [_,_,_,_] gb hr;refine hg.Gj G N O O N λv' HA gT hg' G _ _ vk=>?_;obtain⟨wa,wl,wc,rfl⟩:=hg'.sl;have G:=G.perm<|iE gT [_,_,_,_] hr;simp only[bE,bK]at G;have hS1:=G;refine G.Q3 (k:=rule) R (by rw[bF];omega) (kk:=λHB G=>?_);refine splitK (λK hK=>?_) ?_
 .have r1:∀{o n:Nat}{a b:F},o+n<=3->mY ⟨2,0,0,0,hM H8 H9,HA⟩ ⟨4,re,o,n,a,b⟩=f:=λh=>p8 (VE.get 1 O) ((hS1.get 0 O).jf O) h (FN ⟨_,_,_,rfl⟩)
  have r2:∀{n:Nat}{a b:F},n=1->mY ⟨2,0,0,0,hM H8 H9,HA⟩ ⟨4,dc,rule,n,a,b⟩=f:=λh=>p8 (VE.get 2 O) ((hS1.get 1 O).jf O) (by rw[bF];omega) λv hv=>by
   subst h;rw[dN (by rw[bF];omega),jO,j3,aO,uy]at hv;subst hv;exact hg.same
  have r3:∀{n:Nat}{a b:F},n=1->mY ⟨2,0,0,0,hM H8 H9,HA⟩ ⟨4,xc,0,n,a,b⟩=f:=λh=>p8 (VE.get 3 O) ((hS1.get 2 O).jf O) (by subst h;exact az 1) λv hv=>by
   have:=ko<|eP hv;simp at this;subst this;exact oQ _ _ _ λx h=>by cases h;rfl
  simp only[sw,eG,fT];generalize rule=ke at r2|-;rcases vk with e|e<;>rw[e]<;>apply N9 (A:=hM H8 H9) (vn:=HA) (a:=re) (b:=dc) (c:=xc) n1 n2 n4 (by rfl) (by kernel_rfl) (by kernel_rfl) hK<;>repeat' apply iq
  all_goals first|exact trivial|(intro h;cases h;done)|exactλ_=>⟨rfl,rfl⟩|exactλ_=>r1 N|exactλ_=>r2 O|exactλ_=>r3 O
 refine dU ?_;rw[List.set_set]at G
 have hNQ:NQ (QL A.nr) (acc++[B e.2.1]):=λx J=>by
  rcases bX.1 J with J|J
  .exact hD x J
  .rw[aO]at J;subst J;exact⟨_,O,jX _,by have:=ho.call hem N;omega⟩
 exact⟨(A.cs l[i]).length-(k+1),N,_,_,_,_,O,k+1,_,gT,acc++[B e.2.1],nX,N,hg',hNQ,by rw[aQ];simp;omega,M.drop (A:=[_])<|hSc.over G⟩
end
section
variable{S:List Nat}{ax:Nat->Prop}
def T_(hw:Wf H)(h:rX ax H A q)(ho:A.Ok):aJ Pg X 132 [q.v A] H (Q1 (λv C=>Jf H.next 100000 (QL A.nr) A.nr C v) H):=by
 have G:=M.refl hw;have KL:=ho.few;refine ce [0,1,2,3,4,5,16,17] ?_;refine tl ?_;refine G.box O λH1 u G=>?_;rw[jV]at G;refine G.rF 0 O (by show 0+6<=6;omega) ?_;refine aJ.mono (sU G.wf (h.ex G.ext) ho) ?_;rintro v H2 ⟨rfl,J⟩;have G:=G.call J;refine aY ?_;refine dL (λhb=>by cases hb) λ_=>?_;refine G.ld 0 (o:=0) O O ?_;refine aY ?_;refine G.mkS (az _) N λH4 dc G=>?_;rw[mK]at G;refine G.iZ λH5 xc G=>G.jE λHn G=>?_;refine d_ ?_;have G:M [] H Hn [(dc,22,aU A.nr<|T W 0 0),(xc,124,[T (Z ⟨dc,0,W⟩) A.nr A.nr]),(u,27,q.cells A)]:=G.perm<|gm _ _ _;refine lp2 5 17 (h2:=λm x5 zF C=>∃(i:Nat)(vs:List D)(hr:List dJ),zF=B i/\i+m=A.nr/\vs.length=A.nr/\(∀j,i<=j->j<A.nr->vs[j]?=Z (T W 0 0))/\(∀x∈vs,VW (QL A.nr) x hr)/\M [] H C ((dc,22,vs)::(xc,124,[T (Z ⟨dc,0,W⟩) A.nr A.nr])::(u,27,q.cells A)::hr)) ?_ A.nr ⟨0,_,[],rfl,N,ji ..,λj _ hj=>by rw[ku,if_pos hj],λx J=>by rw[oh J];exact .inl ⟨0,O⟩,G⟩;clear G;rintro m x5 zF mO H6 ⟨i,vs,hr,rfl,him,hvl,hnil,hq,G⟩;refine tp ?_;refine aC (λy=>?_) λy=>?_;rotate_left
 .refine tl ?_;refine G.oF<|rr ?_;exact⟨⟨_,_,vs,O,i_.one G (aL ..) N<|G.wB<|aL ..,λx J=>(hq x J).nums G λe he=>by simp[he]⟩,G.ext⟩
 have hi:i<A.nr:=by omega
 show aJ Pg X 158 [B i,pt u,pt xc] H6 _;refine aJ.mono (Rf h ho hi hvl (hnil i (az _) hi) G) ?_;rintro _ H7 ⟨v,gb,hv,G⟩;refine dU ?_;refine⟨A.nr-(i+1),N,_,_,_,_,O,i+1,vs.set i v,gb++hr,nX,N,by rw[bF];exact hvl,λj Q I=>?_,λx hx2=>?_,G⟩
 .rw[List.getElem?_set_ne N];exact hnil j N I
 .rcases gY hx2 with g|rfl
  .exact(hq x g).imp_right λ⟨r,n,c,E,j,g1,g2,g3⟩=>⟨r,n,c,E,j,g1,cO _ g2,g3⟩
  .exact hv.imp_right λ⟨r,n,c,E,j,g1,g2,g3⟩=>⟨r,n,c,E,j,g1,cZ _ g2,g3⟩
def index_spec{bs:List Bool}(hw:Wf H)(hn:bs.length<=1000000)(hf:i_ ax 4 H a bs.length 1<|bs.map .bool):aJ Pg X 156 [T a bs.length c,.bool f] H (Q0 (λv=>∃z:Int,v=vi z) H):=by
 refine ce [0,1,4,5,7,8] ?_;refine tp ?_;refine Ig 4 5 8 (h2:=λm x4 x5 x8 C=>∃i:Nat,x8=B i/\i+m=bs.length/\C=H) ?_ bs.length ⟨0,rfl,N,rfl⟩;rintro m x4 x5 x8 mO H1 ⟨i,rfl,him,rfl⟩;refine tp ?_;refine aC (λy=>?_) λy=>?_;rotate_left
 .refine tl<|rr ?_;exact⟨⟨_,O⟩,O⟩
 have hi:i<bs.length:=by omega
 refine hf.ix hi (v:=.bool bs[i]) (by rw[bD,au hi];rfl) λp=>?_;refine PU.of (v:=.bool bs[i]) (by cases bs[i]<;>kernel_rfl) ?_;refine aY ?_;refine dL (λ_=>?_) λ_=>?_
 .refine rr ?_;exact⟨⟨_,O⟩,O⟩
 .refine dU ?_;exact⟨bs.length-(i+1),N,_,_,_,_,_,O,i+1,nX,N,O⟩
theorem Ua(hw:Wf H)(hn:n<=1000)(h:Jf b 100000 (QL n) n H v):aJ Pg X 131 [v] H (Q1 (λv _=>∃z:Int,v=vi z) H):=by
 refine ce [0,2] ?_;refine tl ?_;refine aJ.mono (Iv hw hn N ⟨b,h⟩) ?_;rintro _ H1 ⟨⟨a,c,bs,rfl,hbl,hf⟩,J⟩;rw[<-hbl]at hf|-;have G:=(M.refl hw).call J;refine aJ.mono (index_spec (ax:=(H.next<=·)) G.wf N hf) ?_;rintro _ H2 ⟨hz,rfl⟩;refine rr ?_;exact⟨hz,J⟩
def Yj(hw:Wf H)(h:rX ax H A q)(ho:A.Ok):aJ Pg X 98 [q.v A] H (Q1 (λv _=>∃z:Int,v=vi z) H):=by
 have G:=M.refl hw;refine ce [0,1,2] ?_;refine tl ?_;refine G.box O λH1 u G=>?_;rw[jV]at G;refine G.rF 0 O (by show 0+6<=6;omega) ?_;refine aJ.mono (sU G.wf (h.ex G.ext) ho) ?_;rintro v H2 ⟨rfl,J⟩;have G:=G.call J;refine aY ?_;refine dL (λhb=>by cases hb) λ_=>?_;refine G.rF 0 O (by show 0+6<=6;omega) ?_;refine aJ.mono (T_ G.wf (h.ex G.ext) ho) ?_;rintro v H3 ⟨hC,J⟩;have G:=G.call J;refine aJ.mono (Ua G.wf ho.few hC) ?_;rintro v H4 ⟨hz,J⟩;have G:=G.call J;refine rr ?_;exact⟨hz,G.ext⟩
end
section
variable{S:List Nat}{ax:Nat->Prop}
def alS(A:At)(H:F)(v:D):Prop:=∀(C:F)(s:Nat)(e:Ed),Ext H C->Wf C->e∈A.cs s->nJ Pg X (Ls v) [.agg ⟨[B e.1,B e.2.1,B e.2.2]⟩] C (Q1 (λv _=>∃b:Bool,v=.bool b) C)
def Yk{re:Nat}{l:List Bool}(h:H.cell re 0=Z v)(R:re<H.next)(hl:Bs b H A.nr v l)(ho:A.Ok):alS A H (.func (.func 128) ⟨[]⟩ ⟨[pt re]⟩):=by
 intro C s e J hw he;have hl:=hl.ex J;have h:C.cell re 0=Z v:=(lQ (J.obj re R<|by simp) 0).trans h;have R:=aP R J.next
 show aJ Pg X 128 [_,pt re] C _;have G:=M.refl hw;refine ce [0,1,2,3] ?_;refine tl ?_;refine G.box O λH1 rb G=>?_;have G:M [] C H1 [(rb,121,[B e.1,B e.2.1,B e.2.2])]:=G;refine d_ ?_;refine aC (λy=>?_) λy=>?_
 .refine rr ?_;exact⟨⟨f,O⟩,G.ext⟩
 refine d_ ?_;refine aC (λhc2=>?_) λhc2=>?_
 .refine G.Ay h R<|G.oF ?_;obtain⟨ea,ec,rfl,_⟩:=id hl;refine(hl.ex G.ext).at (ho.call he N) λp t ht=>rr ?_;exact⟨⟨t,O⟩,G.ext⟩
 .refine rr ?_;exact⟨⟨aA,O⟩,G.ext⟩
def ab8(z:Int):aJ Pg X 130 [vi z] H (Q0 (λv=>∃b,v=.bool b) H):=by
 refine ce [0,2] ?_;refine tp ?_;refine rr ?_;exact⟨⟨_,O⟩,O⟩
def Rh(hn:zs.length<=1000000)(hf:i_ ax 3 H a zs.length 1<|zs.map vi):aJ Pg X 129 [T a zs.length c,.func (.func 130) ⟨[]⟩ ⟨[]⟩] H (Q0 (λv=>∃z:Int,v=vi z) H):=by
 refine ce [0,1,4,5,7,8] ?_;refine tp ?_;refine Ig 4 5 8 (h2:=λm x4 x5 x8 C=>∃i:Nat,x8=B i/\i+m=zs.length/\C=H) ?_ zs.length ⟨0,rfl,N,rfl⟩;rintro m x4 x5 x8 mO H1 ⟨i,rfl,him,rfl⟩;refine tp ?_;refine aC (λy=>?_) λy=>?_;rotate_left
 .refine tl<|rr ?_;exact⟨⟨_,O⟩,O⟩
 have hi:i<zs.length:=by omega
 refine hf.ix hi (kU _<|au hi) λp=>?_;show aJ Pg X 130 [vi zs[i]] H1 _;refine aJ.mono (ab8 _) ?_;rintro _ _ ⟨⟨b,rfl⟩,rfl⟩;refine aY ?_;refine dL (λhb=>?_) λhb=>?_
 .refine rr ?_;exact⟨⟨_,O⟩,O⟩
 .refine dU ?_;exact⟨zs.length-(i+1),N,_,_,_,_,_,O,i+1,nX,N,O⟩
def OJ{v:Int}:(l.map vi).set k (vi v)=(l.set k v).map vi:=fV.symm
def Yl(a b:Int)(l:List Int):Prop:=∀z∈l,a<=z/\z<=b
def Yl.wk{a b a' b':Int}(h:Yl a b l)(Q:a'<=a)(I:b<=b'):Yl a' b' l:=λz hz=>⟨uJ Q (h z hz).1,uJ (h z hz).2 I⟩
def Yl.set{a b z:Int}(h:Yl a b l)(Q:a<=z)(I:z<=b):Yl a b (l.set k z):=λhc hy=>by
 rcases gY hy with g|rfl
 .exact h hc g
 .exact⟨Q,I⟩
def pos(l:List Int):Nat:=l.countP λz=>decide<|0<z
def ahB(l:List Int):pos l<=l.length:=List.countP_le_length
def ael(h:k<l.length)(z:Int):pos (l.set k z)+(if 0<l[k]then 1 else 0)=pos l+(if 0<z then 1 else 0):=by
 unfold pos;rw[List.countP_set h]
 have:(if 0<l[k]then 1 else 0)<=l.countP λz=>decide (0<z):=by
  split
  .next g=>exact List.countP_pos_iff.2 ⟨_,bB h,by simpa using g⟩
  .exact bg _
 simp only[decide_eq_true_eq];omega
theorem GH(hw:Wf H)(h:rX ax H A q)(ho:A.Ok):aJ Pg X 97 [q.v A] H (Q1 (λv _=>∃z:Int,v=vi z) H):=by
 have G:=M.refl hw;have hbig:=ho.big;have KL:=ho.few;refine ce [0,1,2,3,4,5,7,9,10,11,12,13,14,16,27,28,29,33,34,35,55,56,57,107,108,109] ?_;refine tl ?_;refine G.box O λH1 u G=>?_;rw[jV]at G;refine G.rF 0 O (by show 0+6<=6;omega) ?_;refine aJ.mono (sU G.wf (h.ex G.ext) ho) ?_;rintro v H2 ⟨rfl,J⟩;have G:=G.call J;refine aY ?_;refine dL (λhb=>by cases hb) λ_=>?_;refine G.rF 0 O (by show 0+6<=6;omega) ?_;refine aJ.mono (EJ G.wf (h.ex G.ext) ho) ?_;rintro v H4 ⟨⟨l,hl,_⟩,J⟩;have G:=G.call J;obtain⟨ea,ec,rfl,_⟩:=id hl;refine G.ns O O O λH5 re G hx5=>?_;have hS0:M [] H H5 [(re,34,[T ea A.nr ec]),(u,27,q.cells A)]:=G;have hrg:u<H5.next:=(hS0.lo _<|aR (i:=1) O).2
 have hwv:=Yk ((hS0.get 0 O).cell O) (hS0.lo _<|aR (i:=0) O).2 (hl.ex hx5) ho;have cS:∀{k v},(q.cells A)[k]?=Z v->H5.cell u k=Z v:=λhv=>(hS0.get 1 O).cell hv;have cN:H5.read u 0 6=Z (q.cells A):=(hS0.get 1 O).read<|az 6;have hA:rX ax H5 A q:=h.ex hS0.ext;have ake:=hS0.ext;have hw5:=hS0.wf;clear G J hl hS0;have G:=M.refl hw5;refine G.zP (o:=0) (n:=6) (vs:=q.cells A) cN hrg<|aJ.mono (qP G.wf q A) ?_;rintro v H6 ⟨rfl,J⟩;have G:=G.call J;refine G.mkS (az _) N λH7 di G=>?_;rw[mK]at G;refine G.Ay (cS (k:=4) O) hrg ?_;refine aY ?_;have hz:∀n,aU n (bV .i64 0)=(aU n 0:List Int).map vi:=λn=>jY.symm;have b0:∀n,Yl 0 0 (aU n 0):=λn z h=>by rw[oh h];omega
 rw[hz]at G;refine gJ.wC λK hK=>lp6 7 9 29 33 34 35 (h2:=λm x7 x9 x29 Az x34 DN C=>∃(i:Nat)(zs:List Int),x29=B i/\i+m=A.ns/\zs.length=A.ns/\Yl 0 (A.pre i) zs/\M [] H5 C [(di,3,zs.map vi)]) ?_ A.ns ⟨0,_,rfl,N,ji ..,(b0 _).wk N N,G⟩;clear G;rintro m x7 x9 x29 Az x34 DN mO H8 ⟨i,zs,rfl,him,hzl,hzb,G⟩;refine tp ?_;refine aC (λy=>?_) λy=>?_;rotate_left
 .subst hK;refine aY ?_;have hpi:=At.yZ ho i;replace hzb:=hzb.wk (kr 0) (show(A.pre i:Int)<=100000 by omega);refine tp ?_;refine G.Ay (cS (k:=0) O) hrg ?_;refine aY ?_;refine G.mkS (az _) N λH9 dl G=>?_;rw[mK,hz]at G;refine Oa 11 12 13 57 (h2:=λm iL kQ jF x57 C=>∃(i:Nat)(gb:List dJ)(ys:List Int)(nx:List Nat),x57=B i/\i+m=A.ns/\ys.length=A.nr/\Yl 0 i ys/\(∀s∈nx,s<A.ns)/\nx.length<=i/\GB 3 1 iL (fG nx) gb/\M [] H5 C ((dl,3,ys.map vi)::(di,3,zs.map vi)::gb)) ?_ A.ns ⟨0,[],_,[],rfl,N,ji ..,b0 _,(λs h=>nomatch h),az _,GB.nil _ _,G⟩;clear G;rintro m iL kQ jF x57 alF Dm ⟨i,gb,ys,nx,rfl,him,hyl,hyb,hnx,hnl,hg,G⟩;refine tp ?_;refine aC (λy=>?_) λy=>?_;rotate_left
  .have hpz:=ahB zs;refine tl ?_;refine lp6 11 14 16 107 108 109 (h2:=λm iL rA pz x107 alU ahC C=>∃(rg:Nat)(gb:List dJ)(ys zs:List Int)(nx:List Nat),rg+m<=8000/\pos zs+nx.length<=m/\ys.length=A.nr/\Yl (-rg) 4000 ys/\zs.length=A.ns/\Yl (-(rg*100000:Nat)) 100000 zs/\(∀s∈nx,s<A.ns)/\GB 3 1 iL (fG nx) gb/\M [] H5 C ((dl,3,ys.map vi)::(di,3,zs.map vi)::gb)) ?_ (pos zs+nx.length) ⟨0,gb,ys,zs,nx,N,az _,hyl,hyb.wk N N,hzl,hzb.wk N N,hnx,hg,G⟩;clear G hg hnx hyb hyl hzb hzl;rintro m iL rA pz x107 alU ahC amH OW ⟨rg,gb,ys,zs,nx,hpm,hm,hyl,hyb,hzl,hzb,hnx,hg,G⟩;refine tl ?_
   have fin:aJ Pg X 129 [T (Z ⟨dl,0,W⟩) A.nr A.nr,.func (.func 130) ⟨[]⟩ ⟨[]⟩] OW (Q0 (λv=>∃z:Int,v=vi z) OW):=by
    have:=i_.one (ax:=λ_=>True) G (aL ..) (show _=A.nr*1 by rw[aM,hyl,dz]) trivial;rw[<-hyl]at this|-;exact Rh N this
   rcases hg with⟨rfl,hn,rfl⟩|⟨r,n,dY,rfl,hn,rfl⟩
   .refine aY ?_;refine aC (λy=>absurd y N) λ_=>?_;refine tl<|aJ.mono fin ?_;rintro v C ⟨hv,rfl⟩;refine rr ?_;exact⟨hv,ake.trans G.ext⟩
   have hn:nx.length=n:=by simpa using hn
   subst hn;refine aY ?_;refine aC (λy=>?_) λy=>?_;rotate_left
   .refine tl<|aJ.mono fin ?_;rintro v C ⟨hv,rfl⟩;refine rr ?_;exact⟨hv,ake.trans G.ext⟩
   obtain⟨zg,cur,rfl⟩:∃a b,nx=a++[b]:=⟨nx.dropLast,nx.getLast (λe=>by subst e;simp at y),(mE _).symm⟩;have hlen:(zg++[cur]).length=zg.length+1:=by simp
   rw[hlen]at hm|-;have IV:cur<A.ns:=hnx cur (by simp);refine qX ?_;rw[show((zg.length+1:Nat):Int)-1=(zg.length:Nat) by omega];refine G.ix (v:=B cur) N (by simp) λp=>?_;refine qX ?_;rw[show((zg.length+1:Nat):Int)-1=(zg.length:Nat) by omega];refine PU.of (Bh N)<|G.Ay (cS (k:=3) O) hrg<|(hA.ex G.ext).Ay IV λp=>?_;have hoc:=ho.o cur IV;have hyk:=hyb _<|bB (show A.aj cur<ys.length by omega);refine G.ix hoc (kU _<|au N) λp=>?_;refine qX ?_;refine G.YD hoc (by rw[aM];omega) (kk:=λp H12 G=>?_);rw[OJ]at G;replace hyb:=(hyb.wk (a':=-((rg+1:Nat):Int)) N<|kr _).set (k:=A.aj cur) (z:=ys[A.aj cur]-1) N N;replace hyl:(ys.set (A.aj cur)<|ys[A.aj cur]-1).length=A.nr:=by rw[bF];exact hyl
   generalize ys.set (A.aj cur) (ys[A.aj cur]-1)=ys' at hyb hyl G;clear hyk;have G:M [] H5 H12 ((dl,3,ys'.map vi)::(di,3,zs.map vi)::[(r,3,fG (zg++[cur])++dY)]):=G;refine G.Ay (cS (k:=4) O) hrg<|hA.ldE G.ext IV λp fa fc hE=>?_;refine aY ?_;have hg:GB 3 1 (T (Z ⟨r,0,W⟩) zg.length<|fI 1) (fG zg) [(r,3,fG (zg++[cur])++dY)]:=.inr ⟨r,_,B cur::dY,O,by simp,by simp⟩;have hEl:=ho.len cur;refine Ig 11 16 109 (h2:=λm' iL pz ahC C=>∃(k:Nat)(gb:List dJ)(zs:List Int)(nx:List Nat),ahC=B k/\k+m'=(A.cs cur).length/\pos zs+nx.length+1<=m/\zs.length=A.ns/\Yl (-((rg*100000+k:Nat):Int)) 100000 zs/\(∀s∈nx,s<A.ns)/\GB 3 1 iL (fG nx) gb/\M [] H5 C ((di,3,zs.map vi)::(dl,3,ys'.map vi)::gb)) ?_ (A.cs cur).length ⟨0,_,zs,zg,rfl,N,N,hzl,hzb.wk N<|kr _,λs hs=>hnx s<|by simp[hs],hg,G.perm<|gm _ _ _⟩;clear G hg hzb hzl hnx hm;rintro m' y11 y16 amI amJ H13 ⟨k,gb,zs,nx,rfl,hkm,hm,hzl,hzb,hnx,hg,G⟩;refine tp ?_;refine aC (λhc2=>?_) λhc2=>?_;rotate_left
   .exact⟨pos zs+nx.length,N,_,_,_,_,_,_,_,_,O,rg+1,gb,ys',zs,nx,N,az _,hyl,hyb,hzl,hzb.wk N<|kr _,hnx,hg,G.perm<|gm _ _ _⟩
   have hk':k<(A.cs cur).length:=by omega
   refine IU (hE.ex G.ext) hk' λp=>?_;have hem:=bB hk';obtain⟨g1,_,_⟩:=ho.e cur IV _ hem;generalize(A.cs cur)[k]=e at hem g1|-;have Rv:=hzb _<|bB (show e.2.2<zs.length by omega);have hps:=ael (show e.2.2<zs.length by omega)<|zs[e.2.2]-1;refine G.ns O O O λH14 re' G _=>?_;have G:M [] H5 H14 ((re',121,[B e.1,B e.2.1,B e.2.2])::(di,3,zs.map vi)::(dl,3,ys'.map vi)::gb):=G;refine G.rF 0 O (by show 0+3<=3;omega) ?_;refine nJ.mono (hwv H14 cur e G.ext G.wf hem) ?_;rintro v H15 ⟨⟨b,rfl⟩,LW⟩;have G:=G.call LW;refine aY ?_;refine dL (λhb2=>?_) λhb2=>?_
   .refine dU ?_;exact⟨(A.cs cur).length-(k+1),N,_,_,_,_,_,O,k+1,gb,zs,nx,nX,N,hm,hzl,hzb.wk N<|kr _,hnx,hg,M.drop (A:=[_]) G⟩
   refine G.ld 0 (o:=2) O O<|G.ix g1 (kU _<|au N) λp=>?_;refine qX ?_;refine G.YD g1 (by rw[aM];omega) (kk:=λp H16 G=>?_);rw[OJ]at G;have akf:=(hzb.wk (a':=-((rg*100000+(k+1):Nat):Int)) N<|kr _).set (k:=e.2.2) (z:=zs[e.2.2]-1) N N;have akg:(zs.set e.2.2<|zs[e.2.2]-1).length=A.ns:=by rw[bF];exact hzl
   have hzv:(zs.set e.2.2<|zs[e.2.2]-1)[e.2.2]?=Z (zs[e.2.2]-1):=by rw[dB,if_pos O,if_pos N]
   refine G.ld 0 (o:=2) O O<|G.ix g1 (kU _ hzv) λp=>?_;refine aY ?_;refine aC (λhc3=>?_) λhc3=>?_
   .rw[if_pos N,if_neg N]at hps;refine G.ld 0 (o:=2) O O<|hg.push (G.perm<|aF (l₁:=[_,_,_]) (l₂:=gb)) N O O O O O N (by rw[aM];omega) λw v' H17 gT hg' G=>?_;have G:=G.perm<|aF (l₂:=[_,_,_]) (l₁:=gT);refine dU ?_;refine⟨(A.cs cur).length-(k+1),N,_,_,_,_,_,O,k+1,gT,_,nx++[e.2.2],nX,N,by rw[aQ];simp;omega,akg,akf,λs hs=>?_,?_,M.drop (A:=[_]) G⟩
    .rcases bX.1 hs with hs|hs
     .exact hnx s hs
     .rw[aO]at hs;subst hs;exact g1
    .have e2:fG (nx++[e.2.2])=fG nx++[B e.2.2]:=by simp
     rw[e2];exact hg'
   .refine dU ?_;refine⟨(A.cs cur).length-(k+1),N,_,_,_,_,_,O,k+1,gb,_,nx,nX,N,?_,akg,akf,hnx,hg,M.drop (A:=[_]) G⟩;split at hps<;>split at hps<;>omega
  have hi:i<A.ns:=by omega
  refine G.ix hi (kU _<|au N) λp=>?_;refine aY ?_;refine G.Ay (cS (k:=3) O) hrg<|(hA.ex G.ext).Ay hi λp=>?_;have hoi:=ho.o i hi;have hyk:=hyb _<|bB (show A.aj i<ys.length by omega);refine G.ix hoi (kU _<|au N) λp=>?_;refine dU ?_;refine G.YD hoi (by rw[aM];omega) (kk:=λp H12 G=>?_);rw[OJ]at G;replace hyb:=(hyb.wk (b':=((i+1:Nat):Int)) (kr _) N).set (k:=A.aj i) (z:=ys[A.aj i]+1) N N;replace hyl:(ys.set (A.aj i)<|ys[A.aj i]+1).length=A.nr:=by rw[bF];exact hyl
  generalize ys.set (A.aj i) (ys[A.aj i]+1)=ys' at hyb hyl G;clear hyk;refine aC (λhc2=>?_) λhc2=>?_
  .refine hg.push (G.perm<|aF (l₁:=[_,_]) (l₂:=gb)) N O O O O O N (by rw[aM];omega) λw v' H13 gT hg' G=>?_;have G:=G.perm<|aF (l₂:=[_,_]) (l₁:=gT);refine dU ?_;refine⟨A.ns-(i+1),N,_,_,_,_,_,_,O,i+1,gT,ys',nx++[i],nX,N,hyl,hyb,λs hs=>?_,by rw[aQ];simp;omega,?_,G⟩
   .rcases bX.1 hs with hs|hs
    .exact hnx s hs
    .rw[aO]at hs;omega
   .have e:fG (nx++[i])=fG nx++[B i]:=by simp
    rw[e];exact hg'
  .refine dU ?_;exact⟨A.ns-(i+1),N,_,_,_,_,_,_,O,i+1,gb,ys',nx,nX,N,hyl,hyb,hnx,N,hg,G⟩
 have hi:i<A.ns:=by omega
 refine hA.ldE G.ext hi λp fa fc hE=>?_;refine aY ?_;have hpre:=At.vX ho hi;have hpl:=At.yZ ho<|i+1;refine lp2 9 35 (h2:=λm x9 DN C=>∃(k:Nat)(zs:List Int),DN=B k/\k+m=(A.cs i).length/\zs.length=A.ns/\Yl 0 ((A.pre i+k:Nat):Int) zs/\M [] H5 C [(di,3,zs.map vi)]) ?_ (A.cs i).length ⟨0,zs,rfl,N,hzl,hzb,G⟩;clear G hzl hzb;rintro m' x9 DN LU H9 ⟨k,zs,rfl,hkm,hzl,hzb,G⟩;refine tp ?_;refine aC (λhc2=>?_) λhc2=>?_;rotate_left
 .refine tl ?_;refine dU ?_;subst hK;exact⟨A.ns-(i+1),N,_,_,_,_,_,_,_,_,O,i+1,zs,nX,N,hzl,hzb.wk (kr _) N,G⟩
 have hk':k<(A.cs i).length:=by omega
 refine IU (hE.ex G.ext) hk' λp=>?_;have hem:=bB hk';have VG:=ho.len i;obtain⟨g1,_,_⟩:=ho.e i hi _ hem;generalize(A.cs i)[k]=e at hem g1|-;have Rv:=hzb _<|bB (show e.2.2<zs.length by omega);refine G.ns O O O λDm re' G _=>?_;have G:M [] H5 Dm [(re',121,[B e.1,B e.2.1,B e.2.2]),(di,3,zs.map vi)]:=G;refine G.rF 0 O (by show 0+3<=3;omega) ?_;refine nJ.mono (hwv Dm i e G.ext G.wf hem) ?_;rintro v OW ⟨⟨b,rfl⟩,LW⟩;have G:=G.call LW;refine aY ?_;refine dL (λhb2=>?_) λhb2=>?_
 .refine G.ld 0 (o:=2) O O<|G.ix g1 (kU _<|au N) λp=>?_;refine dU ?_;refine G.YD g1 (by rw[aM];omega) (kk:=λp H12 G=>?_);have G:=M.drop (A:=[_]) G;rw[OJ]at G;refine dU ?_;exact⟨(A.cs i).length-(k+1),N,_,_,_,_,O,k+1,_,nX,N,by rw[bF];exact hzl,(hzb.wk (kr _) N).set N N,G⟩
 .refine dU ?_;exact⟨(A.cs i).length-(k+1),N,_,_,_,_,O,k+1,zs,nX,N,hzl,hzb.wk (kr _) N,M.drop (A:=[_]) G⟩
end
section
variable{S:List Nat}{ax:Nat->Prop}
def Use(A:At)(b:Nat)(H:F)(x:D):Prop:=∃q':AV,x=q'.v A/\rX (b<=·) H A q'
def KX(hw:Wf H)(h:rX ax H A q)(ho:A.Ok):aJ Pg X 69 [q.v A] H (Qe (λv C=>∃(x:D)(code z:Int),v=.tuple ⟨[x,vi code,vi z]⟩/\(bI x).length=6/\all' fB (bI x)=f/\(code=0->Use A.trim H.next C x)) H):=by
 have G:=M.refl hw;have okt:=At.Jh ho;refine ce [0,1,2,3,4,5,6,7] ?_;refine tl ?_;refine G.box O λH1 u G=>?_;rw[jV]at G;refine G.iZ λH2 ro G=>G.rF 1 O (by show 0+6<=6;omega) ?_;refine aJ.mono (sU G.wf (h.ex G.ext) ho) ?_;rintro v H3 ⟨rfl,J⟩;have G:=G.call J;refine aY ?_;refine dL (λhb=>by cases hb) λ_=>?_;refine G.rF 1 O (by show 0+6<=6;omega) ?_;refine aJ.mono (X4 G.wf (h.ex G.ext) ho) ?_;rintro v H4 ⟨⟨l,hl,hlr⟩,J⟩;have G:=G.call J;obtain⟨ea,ec,rfl,_⟩:=id hl;refine hl.at ho.pos λp t ht=>?_;refine G.kK ?_;refine dL (λhb=>?_) λhb=>?_
 .refine PU.b6 O<|G.jE λHn G=>rr ?_;refine G.iK ?_;exact⟨⟨_,_,_,O,O,O,λh=>absurd h<|by decide⟩,G.ext⟩
 refine G.rF 1 O (by show 0+6<=6;omega) ?_;refine aJ.mono (Nc G.wf (h.ex G.ext) ho) ?_;rintro v H5 ⟨⟨q',rfl,hA'⟩,J⟩;have hge:=G.ext.next
 have hro:=(G.lo _<|aR (i:=0) O).2;have hrg:=(G.lo _<|aR (i:=1) O).2;have G:=G.call J;refine G.ns O O O λH6 rt G hx6=>?_;have G:M [] H H6 [(rt,27,q'.cells A.trim),(ro,27,[T W 0 0,T W 0 0,T W 0 0,T W 0 0,T W 0 0,vi 0]),(u,27,q.cells A)]:=G;have hA':=hA'.ex hx6;refine G.rF 0 O (by show 0+6<=6;omega) ?_;refine aJ.mono (GH G.wf hA' okt) ?_;rintro _ H7 ⟨⟨z,rfl⟩,J⟩;have G:=G.call J;have hA':=hA'.ex J;refine aY ?_;refine bT (λy=>?_) λy=>?_
 .refine PU.b6 O<|G.jE λHn G=>rr ?_;refine G.iK ?_;exact⟨⟨_,_,_,O,O,O,λh=>absurd h<|by decide⟩,G.ext⟩
 subst y;refine G.rF 0 O (by show 0+6<=6;omega) ?_;refine aJ.mono (Yj G.wf hA' okt) ?_;rintro _ H8 ⟨⟨z,rfl⟩,J⟩;have G:=G.call J;have hA':=hA'.ex J;refine aY ?_;refine bT (λy=>?_) λy=>?_
 .refine PU.b6 O<|G.jE λHn G=>rr ?_;refine G.iK ?_;exact⟨⟨_,_,_,O,O,O,λh=>absurd h<|by decide⟩,G.ext⟩
 subst y;refine G.rF 0 O (by show 0+6<=6;omega) ?_;have hS0:=M.drop (A:=[_]) G;have G:=hS0.base;refine G.jE λHn G=>rr ?_
 exact G.iK<|⟨⟨_,_,_,O,O,O,λ_=>⟨q',rfl,(hA'.stay G.ext λr R=>by
  have R:r∈[ro,u]:=R;simp at R;rcases R with rfl|rfl
  .exact dP hro
  .exact dP hrg).wk λr R=>aX hge R⟩⟩,(hS0.over G).ext⟩
abbrev LY:List D:=[T W 0 0,T W 0 0,T W 0 0,T W 0 0,T W 0 0,vi 0]
theorem ahD(hw:Wf H):aJ Pg X 76 [.agg ⟨LY⟩] H (Q1 (λv _=>v=.bool aA) H):=by
 have G:=M.refl hw;refine ce [0,1,2,3,4,5,6,7,8,10,45,46,71,72,73,89,90,91,102] ?_;refine tl ?_;refine G.box O λH1 u G=>?_;have G:M [] H H1 [(u,27,LY)]:=G;refine d_ ?_;refine G.nD λH2 rn G f1=>?_;refine G.lW λHn G=>?_;have n1:rn≠u:=G.nq 0 1 O O N;refine splitK (λK hK=>?_) ?_
 .simp only[f1,eG,fT];apply lX (a:=rn) (b:=u) n1 (by intros;rfl) (by kernel_rfl) (by kernel_rfl) hK
 refine aC (λy=>?_) λy=>absurd O y;refine rr ?_;exact⟨O,G.ext⟩
def Ub(hw:Wf H)(h:rX ax H A q)(ho:A.Ok):aJ Pg X 51 [q.v A] H (Q1 (λv _=>∃code z:Int,v=.tuple ⟨[vi code,vi z]⟩) H):=by
 have G:=M.refl hw;refine ce [0,1,2,3,5,6] ?_;refine tl ?_;refine G.box O λH1 u G=>?_;rw[jV]at G;refine G.rF 0 O (by show 0+6<=6;omega) ?_;refine aJ.mono (KX G.wf (h.ex G.ext) ho) ?_;rintro v H2 ⟨⟨x,code,z,rfl,K8,Tm,_⟩,J⟩;have G:=G.call J;refine aY ?_;refine G.ns K8 O Tm λH3 rt G hx3=>rr ?_;exact⟨⟨_,_,O⟩,G.ext⟩
def ahE(hw:Wf H):aJ Pg X 51 [.agg ⟨LY⟩] H (Q1 (λv _=>∃z:Int,v=.tuple ⟨[vi 2,vi z]⟩) H):=by
 have G:=M.refl hw;refine ce [0,1,2,3,5,6] ?_;refine tl ?_;refine G.box O λH1 u G=>?_;have G:M [] H H1 [(u,27,LY)]:=G;refine G.rF 0 O (by show 0+6<=6;omega) ?_
 have key:aJ Pg X 69 [.agg ⟨LY⟩] H1 (Q1 (λv _=>v=.tuple ⟨[.agg ⟨LY⟩,vi 2,vi (-1)]⟩) H1):=by
  have G:=M.refl G.wf;refine ce [0,1,2,3,4,5,6,7] ?_;refine tl ?_;refine G.box O λH2 u G=>?_;have G:M [] H1 H2 [(u,27,LY)]:=G;refine G.iZ λH3 ro G=>?_;refine G.rF 1 O (by show 0+6<=6;omega) ?_;refine aJ.mono (ahD G.wf) ?_;rintro _ H4 ⟨rfl,J⟩;have G:=G.call J;refine aY ?_;refine dL (λ_=>?_) (λh=>by cases h);refine PU.b6 O<|G.jE λHn G=>rr ?_;exact G.iK<|⟨O,G.ext⟩
 refine aJ.mono key ?_;rintro v H2 ⟨rfl,J⟩;have G:=G.call J;refine aY ?_;refine G.ns O O O λH3 rt G hx3=>rr ?_;exact⟨⟨_,O⟩,G.ext⟩
def akh(H:F)(v:D)(C:F):Prop:=∃(x:D)(ok:Int),v=.tuple ⟨[x,vi ok]⟩/\(ok=0->x=.agg ⟨LY⟩)/\(ok≠0->∃A,At.Ok A/\A.ns<=300/\A.ty<=5000/\A.trim=A/\Use A H.next C x)
def Ri(hw:Wf H)(hT:Bt H)(s:ByteArray):aJ Pg X 42 [.string s] H (Q1 (akh H) H):=by
 have G:=M.refl hw;refine ce [0,2,3,4,5,6,7] ?_;refine tl ?_;refine G.iZ λH1 ro G=>?_;refine aJ.mono (Ya G.wf (hT.ex G.ext) s) ?_;rintro v H2 ⟨⟨x,ok,rfl,K8,Tm,hA⟩,J⟩;have hge:=G.ext.next
 have hro:=(G.lo _<|aR (i:=0) O).2;have G:=G.call J;refine aY ?_;refine G.ns K8 O Tm λH3 ra G hx3=>?_;refine aC (λy=>?_) λy=>?_
 .refine PU.b6 O<|G.jE λHn G=>rr ?_;exact G.iK<|⟨⟨_,_,O,λ_=>rfl,λh=>absurd O h⟩,G.ext⟩
 obtain⟨A,q,rfl,hA,ho,amn,hty⟩:=hA y;have hA:=hA.ex hx3;refine G.rF 0 O (az 6)<|aJ.mono (qP G.wf q A) ?_;rintro v H4 ⟨rfl,J⟩;have G:=G.call J;have hA:=hA.ex J;refine aY ?_;refine aC (λhc2=>?_) λhc2=>?_
 .refine PU.b6 O<|G.jE λHn G=>rr ?_;exact G.iK<|⟨⟨_,_,O,λ_=>rfl,λh=>absurd O h⟩,G.ext⟩
 refine tl<|G.rF 0 O (az 6)<|aJ.mono (KX G.wf hA ho) ?_;rintro v H5 ⟨⟨x,code,z,rfl,K8,Tm,hU⟩,J⟩;have hge4:=G.ext.next
 have alV:=(G.lo _<|aR (i:=1) O).2;have G:=G.call J;refine aY ?_;refine G.ns K8 O Tm λH6 rt G hx6=>bT (λhc3=>?_) λhc3=>?_
 .refine PU.b6 O<|G.jE λHn G=>rr ?_;exact G.iK<|⟨⟨_,_,O,λ_=>rfl,λh=>absurd O h⟩,G.ext⟩
 obtain⟨q',rfl,hA'⟩:=hU hc3;refine G.rF 0 O (az 6) ?_;have hS0:=M.drop (A:=[_,_]) G;have G:=hS0.base;refine G.jE λHn G=>rr ?_;refine G.iK ?_
 exact⟨⟨_,_,O,λh=>absurd h<|by decide,λ_=>⟨A.trim,At.Jh ho,by show A.ns<=300;omega,hty,At.XY ho,q',rfl,((hA'.ex hx6).stay G.ext λr R=>by
  have R:r∈[ro]:=R;simp at R;subst R;exact dP alV).wk λr R=>aX hge4 R⟩⟩,(hS0.over G).ext⟩
end
end Go.Proofs.Lv
