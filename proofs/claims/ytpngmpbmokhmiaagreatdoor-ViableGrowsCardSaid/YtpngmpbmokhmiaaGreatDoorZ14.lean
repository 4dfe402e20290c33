/-
  Part 14 of the proof. No condition.
-/
import Derived.Test.YtpngmpbmokhmiaaGreatDoorZ11
set_option linter.unusedVariables false
set_option linter.unusedSimpArgs false
set_option maxRecDepth 100000
set_option maxHeartbeats 4000000
set_option linter.defProp false
open Option renaming some->D,none->Q
open Bool renaming true->f,false->aC
open Go renaming Value->Z,TypeId->aH
open Go.Value renaming int->bX,slice->I,string->fT
open Nat renaming beq->aA,ble->aD,sub->dJ
open List renaming replicate->aX
open List.Perm renaming swap->gq,cons->dS
open And renaming intro->ik
noncomputable section
namespace Go.Proofs.Lu
open Go.Ae Go.Ae.cs Go.Proofs.Lv
variable{l:C Ed}
section
variable{SH F':Nat->Prop}{H0 H:R}{L cs:C dL}{S:C Nat}{A:At}{q q':AV}{a a':aB Addr}{n c c':Nat}
def UL{l:C Nat}(hw:Wf H)(h:je SH 3 H a n 1<|fF l)(h':je F' 3 H a' n 1<|fF l)(hn:n<=16777216):aO Pg X 81 [I a n c,I a' n c'] H λv T=>v=.bool f/\T=H:=by
 have hl:l.length=n:=by have:=h.1.1;simpa using this
 refine Fh [0,1,4,5,12,13] ?_;refine dN (λhc=>absurd trivial hc) λ_=>?_;refine FY 4 5 13 (ai:=λm x4 x5 jI T=>∃i:Nat,jI=B i/\i+m=n/\T=H) ?_ n ⟨0,rfl,N,rfl⟩;rintro m x4 x5 jI ni H1 ⟨i,rfl,him,rfl⟩;refine kX (λhc2=>?_) λhc2=>?_
 .refine tl<|rr ?_;exact⟨O,O⟩
 have hi:i<n:=N;have hv:=Ao (l:=l) (show i<l.length by omega);refine je.ix (H:=hN H1) (show je SH 3 (hN H1) a n 1 (fF l)from h) hi hv λp=>?_
 try simp only[gN hw]
 refine je.ix (H:=hN H1) (show je F' 3 (hN H1) a' n 1 (fF l)from h') hi hv λp2=>?_
 try simp only[gN hw]
 refine bG ?_;refine iD (by simp only[zI,B_,xM])<|dN (λhc=>absurd trivial hc) λ_=>?_;refine dQ ?_;exact⟨n-(i+1),N,_,_,_,_,_,O,i+1,og,N,O⟩
def aif{l:C aV}(hw:Wf H)(h:je SH 9 H a n 1<|l.map .string)(h':je F' 9 H a' n 1<|l.map .string)(hn:n<=16777216):aO Pg X 80 [I a n c,I a' n c'] H λv T=>v=.bool f/\T=H:=by
 have hl:l.length=n:=by have:=h.1.1;simpa using this
 refine Fh [0,1,4,5,12,13] ?_;refine dN (λhc=>absurd trivial hc) λ_=>?_;refine FY 4 5 13 (ai:=λm x4 x5 jI T=>∃i:Nat,jI=B i/\i+m=n/\T=H) ?_ n ⟨0,rfl,N,rfl⟩;rintro m x4 x5 jI ni H1 ⟨i,rfl,him,rfl⟩;refine kX (λhc2=>?_) λhc2=>?_
 .refine tl<|rr ?_;exact⟨O,O⟩
 have hi:i<n:=N;have hv:(l.map fT)[i]?=D (.string<|l[i]'N):=by rw[bF,av (show i<l.length by omega)];rfl
 refine je.ix (H:=hN H1) (show je SH 9 (hN H1) a n 1 (l.map .string)from h) hi hv λp=>?_
 try simp only[gN hw]
 refine je.ix (H:=hN H1) (show je F' 9 (hN H1) a' n 1 (l.map .string)from h') hi hv λp2=>?_
 try simp only[gN hw]
 refine bG ?_;refine iD (by simp only[zI,B_,xM])<|gF (λhc=>absurd hc kg) λ_=>?_;refine dQ ?_;exact⟨n-(i+1),N,_,_,_,_,_,O,i+1,og,N,O⟩
def akR:tEq Pg 121=D (.inr [1,1,1]):=by kernel_rfl
def amA(k g t:Int)(i j:Nat):lY Pg .neq 121 (.tmp i) (.tmp j) (.agg ⟨[vi k,vi g,vi t]⟩) (.agg ⟨[vi k,vi g,vi t]⟩)=D (.bool aC):=by
 show CB .neq (Zb Pg 121 (.tmp i) (.tmp j) _ _)=_
 have:Zb Pg 121 (.tmp i) (.tmp j) (.agg ⟨[vi k,vi g,vi t]⟩) (.agg ⟨[vi k,vi g,vi t]⟩)=D f:=by
  have e:lC Pg 121 (.agg ⟨[vi k,vi g,vi t]⟩) (.agg ⟨[vi k,vi g,vi t]⟩)=(bV (Jq k k) (bV (Jq g g) (bV (Jq t t) (D f)<|D aC)<|D aC)<|D aC):=by
   show(aL (tEq Pg 121) λq=>_)=_;rw[akR];rfl
  have r:∀x:Int,Jq x x=f:=λx=>by rw[BI];simp
  rw[r,r,r]at e;exact e
 rw[this];rfl
def akS(hw:Wf H)(h:je SH 121 H a l.length 3<|zQ l)(h':je F' 121 H a' l.length 3<|zQ l)(hn:l.length<=16777216):aO Pg X 84 [I a l.length c,I a' l.length c'] H λv T=>v=.bool f/\T=H:=by
 refine Fh [0,1,4,5,12,13] ?_;refine dN (λhc=>absurd trivial hc) λ_=>?_;refine FY 4 5 13 (ai:=λm x4 x5 jI T=>∃i:Nat,jI=B i/\i+m=l.length/\T=H) ?_ l.length ⟨0,rfl,N,rfl⟩;rintro m x4 x5 jI ni H1 ⟨i,rfl,him,rfl⟩;refine kX (λhc2=>?_) λhc2=>?_
 .refine tl<|rr ?_;exact⟨O,O⟩
 have hi:i<l.length:=N;refine Jl (H:=hN H1) (show je SH 121 (hN H1) a l.length 3 (zQ l)from h) hi λp=>?_
 try simp only[gN hw]
 refine Jl (H:=hN H1) (show je F' 121 (hN H1) a' l.length 3 (zQ l)from h') hi λp2=>?_
 try simp only[gN hw]
 refine PU.of (amA ..)<|bG ?_;refine iD (by simp only[zI,B_,xM]) ?_;refine dQ ?_;exact⟨l.length-(i+1),N,_,_,_,_,_,O,i+1,og,N,O⟩
def YV(hw:Wf H)(h:je SH 121 H a l.length 3<|zQ l)(h':je F' 121 H a' l.length 3<|zQ l)(hn:l.length<=16777216):aO Pg X 83 [I a l.length c,I a' l.length c'] H λv T=>v=.bool f/\T=H:=by
 refine jS [0,1,4] ?_;refine aO.mono (akS hw h h' hn) ?_;rintro v T ⟨rfl,rfl⟩;refine rr ?_;exact⟨O,O⟩
def aih(hw:Wf H)(h:sQ SH H A q)(h':sQ F' H A q')(ho:A.Ok):aO Pg X 82 [I q.ea A.ns q.ec,I q'.ea A.ns q'.ec,.func (.func 83) #[] #[]] H λv T=>v=.bool f/\T=H:=by
 have hbig:=ho.big;refine Fh [0,1,2,6,7,8,9,15,16,17] ?_;refine dN (λhc=>absurd trivial hc) λ_=>?_;refine V' 6 7 8 9 17 (ai:=λm x6 x7 x8 x9 yo T=>∃i:Nat,yo=B i/\i+m=A.ns/\T=H) ?_ A.ns ⟨0,rfl,N,rfl⟩;rintro m x6 x7 x8 x9 yo ni H1 ⟨i,rfl,him,rfl⟩;refine kX (λhc2=>?_) λhc2=>?_
 .refine tl<|rr ?_;exact⟨O,O⟩
 have hi:i<A.ns:=N;have hlen:=ho.len i;refine h.ldE (Ext.refl _) hi λp ra rc hf=>h'.ldE (Ext.refl _) hi λp2 ra2 rc2 hf2=>aO.mono (show aO Pg X 83 _ _ _ from YV hw hf hf2 N) ?_;rintro v T ⟨rfl,rfl⟩;refine bG ?_;refine gF (λhb=>by cases hb) λ_=>?_;refine dQ ?_;exact⟨A.ns-(i+1),N,_,_,_,_,_,_,_,O,i+1,og,N,O⟩
def YW(hw:Wf H)(h:sQ SH H A q)(h':sQ F' H A q')(ho:A.Ok):aO Pg X 53 [q.v A,q'.v A] H (Qe (λv _=>v=.bool f) H):=by
 have G:=F.refl hw;have hbig:=ho.big;have Lm:=ho.few;refine jS [0,1,2,3,4] ?_;refine G.box O λH1 r1 G=>?_;refine G.box O λH2 r2 G=>?_;have G:F [] H H2 [(r2,27,[I q'.na A.nr q'.nc,I q'.sa A.nr q'.sc,I q'.pa A.nr q'.pc,I q'.oa A.ns q'.oc,I q'.ea A.ns q'.ec,B A.ty]),(r1,27,[I q.na A.nr q.nc,I q.sa A.nr q.sc,I q.pa A.nr q.pc,I q.oa A.ns q.oc,I q.ea A.ns q.ec,B A.ty])]:=G;refine eU ?_;refine aT (λ_=>?_) λhc=>absurd trivial hc;have g:=h.ex G.ext;have g':=h'.ex G.ext;refine eU ?_;refine aO.mono (aif G.wf g.n g'.n N) ?_;rintro v _ ⟨rfl,rfl⟩;refine eU ?_;refine aO.mono (UL G.wf g.s g'.s N) ?_;rintro v _ ⟨rfl,rfl⟩;refine eU ?_;refine aO.mono (UL G.wf g.p g'.p N) ?_;rintro v _ ⟨rfl,rfl⟩;refine eU ?_;refine aO.mono (UL G.wf g.o g'.o N) ?_;rintro v _ ⟨rfl,rfl⟩;refine eU ?_;refine aO.mono (aih G.wf g g' ho) ?_;rintro v _ ⟨rfl,rfl⟩;refine rr ?_;exact⟨O,G.ext⟩
end
end Go.Proofs.Lu
namespace Go.Proofs.Lv
open Go.Proofs.Lu
open Go.Ae Go.Ae.cs
section
variable{H0 H:R}{L cs:C dL}{S:C Nat}{SH:Nat->Prop}{A:At}{q:AV}{n s:Nat}
structure RB(n c:Nat)(b:C<|C Nat):Prop where
 len:b.length=n
 lt:∀(i:Nat)(l:C Nat),b[i]?=D l->(∀x∈l,x<n)/\l.length<=c
structure Rch(b:C<|C Nat)(mk mk':C Bool):Prop where
 gr:∀t,on mk t->on mk' t
 ln:mk'.length=mk.length
 nw:∀x,on mk' x->¬on mk x->∀l:C Nat,b[x]?=D l->∀hr∈l,on mk' hr
def Rch.refl(b:C<|C Nat)(mk:C Bool):Rch b mk mk:=⟨λ_ h=>h,rfl,λx h h'=>absurd h h'⟩
def Rch.trans{b:C (C Nat)}{m1 m2 m3:C Bool}(h:Rch b m1 m2)(g:Rch b m2 m3):Rch b m1 m3:=
 ⟨λt ht=>g.gr t<|h.gr t ht,g.ln.trans h.ln,λx E hn l hl hr hy=>by
  by_cases J:on m2 x
  .exact g.gr hr<|h.nw x J hn l hl hr hy
  .exact g.nw x E J l hl hr hy⟩
end
end Go.Proofs.Lv
namespace Go.Ae
def g5(a b c d e:Nat):Nat->Nat
 |1=>a
 |2=>b
 |3=>c
 |4=>d
 |5=>e
 |_=>0
end Go.Ae
namespace Go.Proofs.Lv
open Go.Proofs.Lu
open Go.Ae Go.Ae.cs
variable{M vs:C Z}{c c' es n s:Nat}{b:C (C Nat)}{e:Ed}{mk:C Bool}{L cs:C dL}{A:At}{q:AV}{v:Z}{H T H0:R}
section
variable{S:C Nat}{SH:Nat->Prop}
structure KR(A:At)(mk:C Bool)(ag:Nat->Ed->Prop)(c:Nat)(b:C<|C Nat):Prop where
 rb:RB A.nr c b
 cp:∀s e,ag s e->e.1=2->on mk s->∃l,b[A.aj s]?=D l/\e.2.1∈l
variable{ag D':Nat->Ed->Prop}
def KR.wk(h:KR A mk ag c b)(hd:∀s e,D' s e->ag s e)(hc:c<=c'):KR A mk D' c' b:=
 ⟨⟨h.rb.len,λi l hl=>⟨(h.rb.lt i l hl).1,a_ (h.rb.lt i l hl).2 hc⟩⟩,λs e hs=>h.cp s e<|hd s e hs⟩
def KR.skip(h:KR A mk ag c b)(hk:e.1=2->¬on mk s):KR A mk (λs' e'=>ag s' e'\/(s'=s/\e'=e)) (c+1) b:=
 ⟨⟨h.rb.len,λi l hl=>⟨(h.rb.lt i l hl).1,lX (h.rb.lt i l hl).2⟩⟩,λs' e' hs W J=>by
   rcases hs with hs|⟨rfl,rfl⟩
   .exact h.cp s' e' hs W J
   .exact absurd J<|hk W⟩
def KR.add(h:KR A mk ag c b){l:C Nat}(he:e.2.1<A.nr)(hl:b[A.aj s]?=D l):KR A mk (λs' e'=>ag s' e'\/(s'=s/\e'=e)) (c+1) (b.set (A.aj s)<|l++[e.2.1]):=by
 have hlt:=(bE.1 hl).1;refine⟨⟨by rw[bJ];exact h.rb.len,λi l' hl'=>?_⟩,λs' e' hs W J=>?_⟩
 .rw[dG]at hl';split at hl'
  .next g=>
   subst g;injection hl' with hl'
   subst hl';have⟨g1,g2⟩:=h.rb.lt _ l hl;refine⟨λx E=>?_,by simp;omega⟩;rcases bZ.1 E with E|E
   .exact g1 x E
   .simp at E;subst E;exact he
  .have⟨g1,g2⟩:=h.rb.lt i l' hl';exact⟨g1,N⟩
 .have key:∀l',b[A.aj s']?=D l'->e'.2.1∈l'->∃l2,(b.set (A.aj s)<|l++[e.2.1])[A.aj s']?=D l2/\e'.2.1∈l2:=λl' g1 g2=>by
   by_cases g:A.aj s=A.aj s'
   .rw[<-g,hl]at g1;injection g1 with g1
    subst g1;exact⟨l++[e.2.1],by rw[<-g,uz hlt],dn _ g2⟩
   .exact⟨l',by rw[List.getElem?_set_ne g];exact g1,g2⟩
  rcases hs with hs|⟨rfl,rfl⟩
  .have⟨l',g1,g2⟩:=h.cp s' e' hs W J;exact key l' g1 g2
  .exact⟨l++[e'.2.1],by rw[uz hlt],by simp⟩
def RR(A:At)(mk:C Bool)(ag:Nat->Ed->Prop)(c:Nat)(vs:C Z)(az:C dL):Prop:=∃b,KR A mk ag c b/\IB 3 1 (b.map fF) vs az
def RR.wk{az:C dL}(h:RR A mk ag c vs az)(hd:∀s e,D' s e->ag s e)(hc:c<=c'):RR A mk D' c' vs az:=let⟨b,W,h3⟩:=h;⟨b,W.wk hd hc,h3⟩
def RR.skip{az:C dL}(h:RR A mk ag c vs az)(hk:e.1=2->¬on mk s):RR A mk (λs' e'=>ag s' e'\/(s'=s/\e'=e)) (c+1) vs az:=let⟨b,W,h3⟩:=h;⟨b,W.skip hk,h3⟩
def RR.len{az:C dL}(h:RR A mk ag c vs az):vs.length=A.nr:=let⟨b,W,h3⟩:=h;by rw[<-h3.len,aK,W.rb.len]
def RR.same{az:C dL}(h:RR A mk ag c vs az):∀v∈vs,nG v v=f:=let⟨_,_,h3⟩:=h;AY h3
def RR.put{az P0 L0:C dL}{rx:Nat}{K:Z->R->Prop}(h:RR A mk ag c vs az)(hc:c<=1000000)(he:e.2.1<A.nr)(hn:A.aj s<A.nr)(hv:vs[A.aj s]?=D v)(G:F S H0 H<|(rx,3,[B e.2.1])::(P0++(az++L0)))(kk:∀va vl vc H1 R'(S':C Nat),RR A mk (λs' e'=>ag s' e'\/(s'=s/\e'=e)) (c+1) (vs.set (A.aj s)<|I va vl vc) R'->F S H0 (hM H H1) (P0++(R'++L0))->(DY H H1=cl 1\/DY H H1=⟨2,0,0,0,H,H1⟩)->(∀r,r<H.next->r∉S'->H1.obj r=H.obj r)->(∀r∈S',r∈az.map (·.1))->K (I va vl vc) H1):
 ME (zY 3 1 v (I (D ⟨rx,0,Q⟩) 1 1)<|hN H) K:=by
 have⟨b,W,h3⟩:=h;have J:=W.rb.len;have hvl:vs.length=A.nr:=by rw[<-h3.len,aK,J]
 obtain⟨A',gb,vn,rfl,hg,hput⟩:=h3.at (A.aj s) N;obtain⟨l,hl⟩:∃l,b[A.aj s]?=D l:=⟨_,av N⟩;have hll:=(W.rb.lt _ l hl).2;rw[bF,hl]at hg;have hg:GB 3 1 vs[A.aj s] (fF l) gb:=hg;rw[av N]at hv;rw[dK hv]at hg;have e1:P0++((A'++(gb++vn))++L0)=(P0++A')++(gb++(vn++L0)):=by simp
 rw[e1]at G;refine hg.FM (G.perm<|dS _<|iG (P0++A') gb<|vn++L0) N O O I6 λv' H1 gQ hg' hS' _ Nj hcl=>?_;obtain⟨va,vl,vc,rfl⟩:=hg'.sl;have hS':=hS'.perm<|iG gQ (P0++A')<|vn++L0;have e2:(P0++A')++(gQ++(vn++L0))=P0++((A'++(gQ++vn))++L0):=by simp
 rw[e2]at hS'
 refine kk va vl vc H1 (A'++(gQ++vn)) (gb.map (·.1)) ⟨b.set (A.aj s)<|l++[e.2.1],W.add he hl,?_⟩ hS' hcl Nj λr y=>by
  obtain⟨x,E,rfl⟩:=bQ.1 y;exact bQ.2 ⟨x,by simp[E],rfl⟩
 have:=hput (I va vl vc) (fF<|l++[e.2.1]) gQ (by rw[show fF (l++[e.2.1])=fF l++[B e.2.1] by simp];exact hg');rw[fZ];exact this
end
section
variable{S:C Nat}{SH:Nat->Prop}
def _root_.Go.Ae.je.old{ty:aH}{a:aB Addr}(h:je SH ty H a n es M):je (·<H.next) ty H a n es M:=⟨h.1,λr o e hn=>let⟨_,J,h3⟩:=h.2 r o e hn;⟨J,J,h3⟩⟩
def sQ.old(h:sQ SH H A q):sQ (·<H.next) H A q:=⟨h.n.old,h.s.old,h.p.old,h.o.old,let⟨evs,W,J⟩:=h.e;⟨evs,W.old,λi hi=>let⟨a,c,h3,h4⟩:=J i hi;⟨a,c,h3,h4.old⟩⟩⟩
def Bs.stay{b:Nat}(h:Bs b H n v mk)(E:oN S H T)(G:∀r∈S,r<b):Bs b T n v mk:=let⟨a,c,W,J,h3⟩:=h;⟨a,c,W,J,h3.stay E λr y=>.inl (by have:=G r y;omega)⟩
def RB.wk(h:RB n c b)(hc:c<=c'):RB n c' b:=⟨h.len,λi l hl=>⟨(h.lt i l hl).1,a_ (h.lt i l hl).2 hc⟩⟩
def agE{α:Type}(a b c d e ay:α):[a,b,c,d,e,ay].Perm [ay,c,b,e,a,d]:=by
 refine List.Perm.trans (aG (l₁:=[a,b,c,d,e]) (l₂:=[ay]))<|dS ay ?_;refine List.Perm.trans (aG (l₁:=[a,b]) (l₂:=[c,d,e]))<|dS c ?_;refine List.Perm.trans (aG (l₁:=[d,e,a]) (l₂:=[b]))<|dS b ?_;exact List.Perm.trans (gq _ _ _)<|dS e<|gq _ _ _
end
end Go.Proofs.Lv
namespace Go.Ae
def F.mN{H0 H T:R}{L L':C dL}(G:F [] H0 H L)(h:F [] (Go.Ae.hN H0) T L'):F [] H0 (hM H T) L':=by
 have hw:=h.wf;have e:(hM H T).low=nY H.low T.low:=rfl;rw[GQ]at e;refine⟨⟨h.ext.next,h.ext.obj,λb hl hn _=>?_,λ_=>?_⟩,λx E=>(h.bk x E).jb O,h.lo,h.ne,?_⟩
 .have W:=G.ext.low b hl hn (nofun);have J:=h.ext.low b hn hn<|nofun;omega
 .show(hM H T).low<=T.next;omega
 .show(hM H T).low<=T.next;omega
end Go.Ae
namespace Go.Proofs.Lv
open Go.Proofs.Lu
open Go.Ae Go.Ae.cs
variable{l zs:C Int}{b c i j k n r s:Nat}{L cs gb:C dL}{A:At}{q:AV}{au:Int->Prop}{v:Z}{H H0:R}{a:aB Addr}{M eB ks vs:C Z}
section
variable{S:C Nat}{SH:Nat->Prop}
def acL(h:n<=1000000):XY 1 (I (D ⟨r,0,Q⟩) n<|fJ 1) Q (D<|B n) (D<|B n)=D (I (D ⟨r,0,Q⟩) n n):=by
 show bV (gH<|fJ 1) (aL (D n) λm=>gd (aD 0 n&&aD n m&&aD m (fJ 1)&&(!(eZ<|D<|B n)||eZ (D<|B n)))<|D<|I (D ⟨r,uB m 0 0 1,Q⟩) (dJ n 0)<|dJ m 0) (gd (aA (fJ 1)<|fJ 1)<|gd (aD 0 n&&aD n n&&aD n n&&f&&gH n)<|D<|I (D ⟨r,uB n 0 0 1,Q⟩) (dJ n 0)<|dJ n 0)=_;have hk:gH n=f:=aI N;have ho:uB n 0 0 1=0:=by unfold uB;cases aA n 0<;>rfl
 rw[y_,jW,dD,aI<|bA _,aI<|ax _,hk,ho];rfl
def YX(hg:GB 3 1 v M gb)(hl:M.length<=1000000)(hw:Wf H):aO Pg X 161 [v] H λv' T=>T=H/\((∃c,v'=I Q 0 c/\M=[]/\gb=[])\/∃r c eB,v'=I (D ⟨r,0,Q⟩) M.length c/\gb=[(r,3,M++eB)]):=by
 have G:=F.refl hw;rcases hg with⟨rfl,rfl,rfl⟩|⟨r,n,eB,rfl,hn,rfl⟩
 .refine Fh [0,2] ?_;refine PU.of (v:=I Q 0 0) O ?_;refine rr ?_;simp
 .rw[dz]at hn;subst hn;refine Fh [0,2] ?_;refine PU.of (acL hl)<|rr ?_;exact⟨by trivial,.inr ⟨r,_,eB,rfl,rfl⟩⟩
def getD_in{l:C Nat}{h:k<l.length}:l[k]?.getD 0=l[k]:=by rw[av h];rfl
def NQ(au:Int->Prop)(ks:C Z):Prop:=∀x∈ks,∃z:Int,x=vi z/\au z
def NQ.nm(hk:NQ au ks)(G:F [] H0 H<|(r,3,ks++eB)::L):Nm au r 3 ks.length H0 H L:=by
 refine⟨ks++eB,by rw[aQ];omega,λk hk'=>?_,G⟩;have⟨z,e,hq⟩:=hk _<|bB hk';refine⟨z,?_,hq⟩;rw[<-e];unfold El;rw[dz,dY (by rw[aQ];omega),iL hk'];rfl
def agI(h:Nm au r 3 n H0 H L):∃ks' gQ,ks'.length=n/\NQ au ks'/\GB 3 1 (sl r n<|fJ 1) ks' gQ/\F [] H0 H (gQ++L):=by
 have⟨M,W,J,h3⟩:=h;have hl:(M.take n).length=n:=by rw[dF];omega
 refine⟨M.take n,[(r,3,M.take n++M.drop n)],hl,λx E=>?_,.inr ⟨r,n,_,rfl,N,rfl⟩,by rw[iP];exact h3⟩;obtain⟨i,hi,rfl⟩:=iM E;have⟨z,e,hq⟩:=J i N;refine⟨z,?_,hq⟩;unfold El at e;rw[dz,dY N]at e;rw[List.getElem_take];exact(jJ e).1
def aeZ(hg:GB 3 1 v ks gb)(hl:ks.length<=1000000)(hk:NQ au ks)(G:F [] H0 H<|gb++L):aO Pg X 160 [v] H λ_ T=>∃ks' gQ,ks'.length=ks.length/\NQ au ks'/\GB 3 1 v ks' gQ/\F [] H0 T (gQ++L):=by
 rcases hg with⟨rfl,rfl,rfl⟩|⟨r,n,eB,rfl,hn,rfl⟩
 .refine aO.mono abZ ?_;rintro _ _ rfl;exact⟨[],[],O,hk,GB.nil _ _,G⟩
 .obtain rfl:n=ks.length:=N;refine aO.mono (Lh hl<|hk.nm G) ?_;intro _ H1 hB;exact agI hB
def ae0(hg:GB 3 1 v ks gb)(hl:ks.length<=1000000)(hk:NQ au ks)(G:F [] H0 H<|gb++L):aO Pg X 162 [v] H λv' T=>∃ks' gQ,ks'.length<=ks.length/\NQ au ks'/\GB 3 1 v' ks' gQ/\F [] H0 T (gQ++L):=by
 rcases hg with⟨rfl,rfl,rfl⟩|⟨r,n,eB,rfl,hn,rfl⟩
 .refine aO.mono Rv ?_;rintro _ _ ⟨rfl,rfl⟩;exact⟨[],[],ax _,hk,GB.nil _ _,G⟩
 .obtain rfl:n=ks.length:=N;refine aO.mono (F_ hl<|hk.nm G) ?_;rintro _ H1 ⟨n',hn',rfl,hB⟩;have⟨ks',gQ,W,J,h3,h4⟩:=agI hB;exact⟨ks',gQ,N,J,h3,h4⟩
end
section
variable{S:C Nat}{SH:Nat->Prop}
def acM(ho:A.Ok)(h:i<=j)(hj:j<=A.ns):A.pre i<=A.pre j:=by
 induction j with
 |zero=>obtain rfl:i=0:=N
        exact ax _
 |succ j ih=>
  rcases cr i (j+1)with W|W
  .have:=At.wK ho (i:=j) N;have:=ih N N;omega
  .obtain rfl:i=j+1:=N;exact ax _
def WI(au:Int->Prop)(v:Z)(az:C dL):Prop:=(∃c,v=I Q 0 c)\/∃(r n c:Nat)(M eB:C Z),v=I (D ⟨r,0,Q⟩) n c/\((r,3,M++eB):dL)∈az/\M.length=n/\n<=100000/\NQ au M
def WI.nums{az:C dL}(h:WI au v az)(G:F [] H0 H L)(hR:∀e∈az,e∈L):IV H0.next 100000 au H v:=by
 rcases h with⟨c,rfl⟩|⟨r,n,c,M,eB,rfl,hm,rfl,hn,hq⟩
 .exact⟨Q,0,c,[],O,je.nil _ _ _ _ _,bA _,nofun⟩
 .have hb:=G.bk _ (hR _ hm);exact⟨_,_,c,M,O,⟨⟨N,λi x hi=>⟨r,0,rfl,(G.lo _<|hR _ hm).2,by rw[aY];apply hb.cell;rw[bM (bE.1 hi).1];exact hi⟩⟩,λr' o e _=>by cases e;exact⟨G.wQ<|hR _ hm,(G.lo _<|hR _ hm).2,hb.Jc⟩⟩,hn,hq⟩
theorem R7(h:sQ SH H0 A q)(ho:A.Ok){rule dc xc u:Nat}{az:C dL}(y:rule<A.nr)(hvl:vs.length=A.nr)(hv:vs[rule]?=D (I Q 0 0))(G:F [] H0 H<|(dc,22,vs)::(xc,124,[I (D ⟨dc,0,Q⟩) A.nr A.nr])::(u,27,q.cells A)::az):
 aO Pg X 158 [B rule,pt u,pt xc] H λ_ T=>∃v gb,WI (Rw A.nr) v gb/\F [] H0 T ((dc,22,vs.set rule v)::(xc,124,[I (D ⟨dc,0,Q⟩) A.nr A.nr])::(u,27,q.cells A)::(gb++az)):=by
 refine jS [0,1,2,5,7,14,15,16,24,25,26] ?_;have hsr:=ho.s rule y;have hS0:=G;refine G.KH 2 O (ax 6) ?_;refine eU ?_;refine(h.ex G.ext).n'.ldS ho y λp=>?_;simp only[gN G.wf];refine aO.mono (free_spec (SH:=SH) (nS H) (h.ex G.ext).n' ho hsr.1) ?_;rintro _ H2 ⟨⟨fa,fc,l,rfl,hfl,hup,hfm⟩,E⟩;have G:=G.nH E;have hfl:je ((hN H).next<=·) 3 (hM H H2) fa l.length 1 (fF l):=hfl;refine bG ?_;refine iD (by simp only[fP E,zI,B_,aeU,xM]) ?_
 have hset:vs.set rule (I Q 0 0)=vs:=by
  have⟨W,J⟩:=bE.1 hv;rw[<-J];exact qz W
 have hln:∀s∈l,s<A.ns:=λs hs=>(At.Rc.own ho (k:=rule) (λt ht=>by subst ht;exact hsr)<|(hfm s).1 hs).1;have hSb:=G;have G:=G.base;have hB:sQ (·<H0.next) (hM H H2) A q:=h.old.ex hSb.ext;generalize akT:((dc,22,vs)::(xc,124,[I (D ⟨dc,0,Q⟩) A.nr A.nr])::(u,27,q.cells A)::az:C dL).map (λe:dL=>e.1)=ids at G
 have hid:∀r∈ids,H0.next<=r/\r<H.next:=λr hr'=>by
  rw[<-akT]at hr';obtain⟨x,hx1,rfl⟩:=bQ.1 hr';exact⟨hS0.wQ hx1,(hS0.lo x hx1).2⟩
 have⟨evs,he1,he2⟩:=hB.e;have hlow:∀r∈ids,¬r<H0.next:=λr hr'=>by have:=hid r hr';omega
 have amB:∀i(h:i<l.length),i<=l[i]:=λi=>by
  induction i with
  |zero=>exactλ_=>bA _
  |succ i ih=>
   intro h;have:=ih N;have:=j5.1 hup i (i+1) N h N;omega
 have hll:l.length<=4000:=by
  have:=ho.big;rcases gM l.length with h0|h0
  .omega
  .have:=amB (l.length-1) N;have:=hln _<|bB (show l.length-1<l.length by omega);omega
 have hF:∀{T L'},F ids (hM H H2) T L'->je ((hN H).next<=·) 3 T fa l.length 1 (fF l):=λG=>hfl.stay G.ext λr hr'=>.inl (by have:=hid r hr';show¬H.next<=r;omega);refine gK.vg λK hK=>lp6 5 7 16 24 25 26 (ai:=λm x5 x7 pG x24 x25 Yc T=>∃(i c:Nat)(v:Z)(gb:C dL)(acc:C Z),pG=B i/\i+m=l.length/\GB 3 1 v acc gb/\NQ (Rw A.nr) acc/\acc.length<=A.pre c/\c<=A.ns/\(∀s∈l.drop i,c<=s)/\F ids (hM H H2) T ((dc,22,vs.set rule v)::(xc,124,[I (D ⟨dc,0,Q⟩) A.nr A.nr])::(u,27,q.cells A)::(gb++az))) ?_ l.length ⟨0,0,_,[],[],rfl,N,GB.nil _ _,(nofun),bA _,bA _,λs _=>bA _,by rw[hset];exact G⟩;clear G;rintro m x5 x7 pG x24 x25 Yc ni H3 ⟨i,c,v,gb,acc,rfl,him,hg,hD,hac,hcn,hdr,G⟩;refine kX (λhc=>?_) λhc=>?_
 .subst hK;refine bG ?_;obtain rfl:i=l.length:=N;have anB:acc.length<=100000:=by have:=At.zH ho c;omega
  clear hdr him;subst akT;have G:=hSb.over G;obtain⟨va,vl,vc,rfl⟩:=hg.sl;have hvr:∀{w},(vs.set rule w)[rule]?=D w:=by intro w;rw[dG,if_pos O,if_pos N]
  refine tl ?_;refine G.pz<|G.ix (k:=rule) y hvr λp=>aO.mono (aeZ hg N hD<|G.perm<|iG [_,_,_] gb az) ?_;rintro _ H4 ⟨M,gb1,hcl,hq1,hg1,hS1⟩;have G:=hS1.perm<|iG gb1 [_,_,_] az;simp only[bI,bN]at G;refine eU ?_;refine G.Uw (k:=rule) y hvr ?_;refine G.kL ?_;have hS2:=G;refine aO.mono (ae0 hg1 N hq1 hS1.yh) ?_;rintro w H5 ⟨cs2,Zf,hl2,hq2,hg2,sG⟩;have G:=(hS1.mN sG).perm<|iG Zf [_,_,_] az;simp only[bI,bN]at G;have vJ:=G;refine aO.mono (YX hg2 N<|nS _) ?_;rintro w' H6 ⟨rfl,hw'⟩;refine G.kL ?_;obtain⟨xa,xl,xk,rfl⟩:∃a n c,w'=I a n c:=by rcases hw' with⟨c,h,_⟩|⟨r,c,j,h,_⟩<;>exact⟨_,_,_,h⟩
  refine G.RO (k:=rule) y (by rw[bJ];omega) (kk:=λHB G=>?_);refine splitK (λK hK=>?_) ?_
  .have n4:dc≠xc:=hS2.nq 0 1 O O N
   have r2:∀{n:Nat}{a b:R},n=1->mY ⟨2,0,0,0,H4,H5⟩ ⟨4,dc,rule,n,a,b⟩=f:=λh=>pP (hS2.get 0 O) ((vJ.get 0 O).jb O) (by rw[bJ];omega) λv hv=>by
    subst h;rw[dY (by rw[bJ];omega),jg,kC,aP,uS]at hv;subst hv;exact hg.same
   have r3:∀{n:Nat}{a b:R},n=1->mY ⟨2,0,0,0,H4,H5⟩ ⟨4,xc,0,n,a,b⟩=f:=λh=>pP (hS2.get 1 O) ((vJ.get 1 O).jb O) (by subst h;exact ax 1) λv hv=>by
    have:=jK<|eX hv;simp at this;subst this;exact oF _ _ _ λx h=>by cases h;rfl
   simp only[fP (Ext.refl<|hN<|hM H4 H5),d_,fK];generalize rule=ke at r2|-;rcases vQ H4 H5 with e|e<;>rw[e]<;>apply JE (A:=H4) (vn:=H5) (a:=dc) (b:=xc) n4 (by rfl) jr jr hK<;>repeat' apply ik
   all_goals first|exact trivial|(intro h;cases h;done)|exactλ_=>⟨rfl,rfl⟩|exactλ_=>r2 O|exactλ_=>r3 O
  rw[List.set_set]at G;refine rn ?_;refine⟨_,Zf,?_,G⟩;rcases hw' with⟨c,h,_⟩|⟨r,c,eB,h,J⟩
  .exact .inl ⟨c,h⟩
  .exact .inr ⟨r,_,c,cs2,eB,h,by rw[J];exact aN ..,O,N,hq2⟩
 have hi:i<l.length:=N;have hmem:=bB hi;have hsn:=hln _ hmem;have hcs:c<=l[i]:=hdr _ (by rw[dY hi];exact aN ..);have hpm:=acM ho hcs N;refine(hF G).ix hi (Ao hi) λp=>?_;rw[getD_in (h:=hi)];refine G.ld 2 (o:=4) O O ?_;have⟨ea,ec,he3,he4⟩:=he2 _ hsn;refine(he1.stay G.ext λr hr'=>.inl<|hlow r hr').ix hsn he3 λp=>?_;refine bG ?_;have hpre:=At.wK ho hsn;have hpl:=At.zH ho<|l[i]+1;refine lp2 7 26 (ai:=λm x7 Yc T=>∃(k:Nat)(v:Z)(gb:C dL)(acc:C Z),Yc=B k/\k+m=(A.hx l[i]).length/\GB 3 1 v acc gb/\NQ (Rw A.nr) acc/\acc.length<=A.pre l[i]+k/\F ids (hM H H2) T ((dc,22,vs.set rule v)::(xc,124,[I (D ⟨dc,0,Q⟩) A.nr A.nr])::(u,27,q.cells A)::(gb++az))) ?_ (A.hx l[i]).length ⟨0,v,gb,acc,rfl,N,hg,hD,N,G⟩;clear G hg hD hac;rintro m' x7 Yc MH H4 ⟨k,v,gb,acc,rfl,hkm,hg,hD,hac,G⟩;refine kX (λhc2=>?_) λhc2=>?_
 .obtain rfl:k=(A.hx l[i]).length:=N;refine tl ?_;refine dQ ?_;subst hK;refine⟨l.length-(i+1),N,_,_,_,_,_,_,_,_,O,i+1,l[i]+1,v,gb,acc,og,N,hg,hD,N,N,λs hs=>?_,G⟩
  .obtain⟨j,hj,rfl⟩:=iM hs;rw[List.getElem_drop];have:=j5.1 hup i (i+1+j) hi (by rw[uF]at hj;omega) N;omega
 have hk':k<(A.hx l[i]).length:=N;refine Jl (he4.stay G.ext λr hr'=>.inl<|hlow r hr') hk' λp=>?_;have hem:=bB hk';have hke:(A.hx l[i])[k]?=D (A.hx l[i])[k]:=av hk';have Wo:=ho.len l[i];generalize(A.hx l[i])[k]=e at hke hem|-;refine G.ns O O O λH8 re G Bg=>?_;have G:F ids (hM H H2) H8 ((re,121,[B e.1,B e.2.1,B e.2.2])::(dc,22,vs.set rule v)::(xc,124,[I (D ⟨dc,0,Q⟩) A.nr A.nr])::(u,27,q.cells A)::(gb++az)):=G;refine X7 (λhc1=>?_) λhc1=>?_
 .refine dQ ?_;exact⟨(A.hx l[i]).length-(k+1),N,_,_,_,_,O,k+1,v,gb,acc,og,N,hg,hD,N,F.drop (A:=[_]) G⟩
 have hSc:=G;have G:=G.base;obtain⟨va,vl,vc,rfl⟩:=hg.sl;have hvr:(vs.set rule<|I va vl vc)[rule]?=D (I va vl vc):=by rw[dG,if_pos O,if_pos N]
 refine eU ?_;refine G.Uw (k:=rule) y hvr<|eU ?_;refine G.PL O O O N λH9 rx G tq=>?_;have n1:re≠dc:=G.nq 1 2 O O N;have n2:re≠xc:=G.nq 1 3 O O N;have n4:dc≠xc:=G.nq 2 3 O O N;have Wl:=G;have G:=(G.to (cs':=[B e.2.1]) O).perm<|dS _<|iG [_,_,_,_] gb az;refine hg.FM G N O O N λv' HA gQ hg' G _ _ vT=>?_;obtain⟨wa,wl,wc,rfl⟩:=hg'.sl;have G:=G.perm<|iG gQ [_,_,_,_] az;simp only[bI,bN]at G;have hS1:=G;refine G.RO (k:=rule) y (by rw[bJ];omega) (kk:=λHB G=>?_);refine splitK (λK hK=>?_) ?_
 .have r1:∀{o n:Nat}{a b:R},o+n<=3->mY ⟨2,0,0,0,hM H8 H9,HA⟩ ⟨4,re,o,n,a,b⟩=f:=λh=>pP (Wl.get 1 O) ((hS1.get 0 O).jb O) h (Gf ⟨_,_,_,rfl⟩)
  have r2:∀{n:Nat}{a b:R},n=1->mY ⟨2,0,0,0,hM H8 H9,HA⟩ ⟨4,dc,rule,n,a,b⟩=f:=λh=>pP (Wl.get 2 O) ((hS1.get 1 O).jb O) (by rw[bJ];omega) λv hv=>by
   subst h;rw[dY (by rw[bJ];omega),jg,kC,aP,uS]at hv;subst hv;exact hg.same
  have r3:∀{n:Nat}{a b:R},n=1->mY ⟨2,0,0,0,hM H8 H9,HA⟩ ⟨4,xc,0,n,a,b⟩=f:=λh=>pP (Wl.get 3 O) ((hS1.get 2 O).jb O) (by subst h;exact ax 1) λv hv=>by
   have:=jK<|eX hv;simp at this;subst this;exact oF _ _ _ λx h=>by cases h;rfl
  simp only[tq,d_,fK];generalize rule=ke at r2|-;rcases vT with e|e<;>rw[e]<;>apply OQ (A:=hM H8 H9) (vn:=HA) (a:=re) (b:=dc) (c:=xc) n1 n2 n4 (by rfl) jr jr hK<;>repeat' apply ik
  all_goals first|exact trivial|(intro h;cases h;done)|exactλ_=>⟨rfl,rfl⟩|exactλ_=>r1 N|exactλ_=>r2 O|exactλ_=>r3 O
 refine dQ ?_;rw[List.set_set]at G
 have hNQ:NQ (Rw A.nr) (acc++[B e.2.1]):=λx E=>by
  rcases bZ.1 E with E|E
  .exact hD x E
  .rw[aP]at E;subst E;exact⟨_,O,jw _,by have:=ho.call hem N;omega⟩
 exact⟨(A.hx l[i]).length-(k+1),N,_,_,_,_,O,k+1,_,gQ,acc++[B e.2.1],og,N,hg',hNQ,by rw[aQ];simp;omega,F.drop (A:=[_])<|hSc.over G⟩
end
section
variable{S:C Nat}{SH:Nat->Prop}
def UM(hw:Wf H)(h:sQ SH H A q)(ho:A.Ok):aO Pg X 132 [q.v A] H (Q1 (λv T=>JH H.next 100000 (Rw A.nr) A.nr T v) H):=by
 have G:=F.refl hw;have Lm:=ho.few;refine jS [0,1,2,3,4,5,16,17] ?_;refine G.box O λH1 u G=>?_;rw[jM]at G;refine G.rZ 0 O (ax 6) ?_;refine G.cm (tY G.wf (h.ex G.ext) ho) ?_;rintro v H2 rfl E G;refine bG ?_;refine gF (λhb=>by cases hb) λ_=>?_;refine G.ld 0 (o:=0) O O ?_;refine bG ?_;refine G.mkS (ax _) N λH4 dc G=>?_;rw[mZ]at G;refine G.iX λH5 xc G=>G.jH λHn G=>?_;refine eU ?_;have G:F [] H Hn [(dc,22,aX A.nr<|I Q 0 0),(xc,124,[I (D ⟨dc,0,Q⟩) A.nr A.nr]),(u,27,q.cells A)]:=G.perm<|gq _ _ _;refine lp2 5 17 (ai:=λm x5 yo T=>∃(i:Nat)(vs:C Z)(az:C dL),yo=B i/\i+m=A.nr/\vs.length=A.nr/\(∀j,i<=j->j<A.nr->vs[j]?=D (I Q 0 0))/\(∀x∈vs,WI (Rw A.nr) x az)/\F [] H T ((dc,22,vs)::(xc,124,[I (D ⟨dc,0,Q⟩) A.nr A.nr])::(u,27,q.cells A)::az)) ?_ A.nr ⟨0,_,[],rfl,N,jl ..,λj _ hj=>by rw[kH,if_pos hj],λx E=>by rw[oJ E];exact .inl ⟨0,O⟩,G⟩;clear G;rintro m x5 yo ni H6 ⟨i,vs,az,rfl,him,hvl,hnil,hq,G⟩;refine kX (λhc=>?_) λhc=>?_
 .refine tl ?_;refine G.pz<|rr ?_;exact⟨⟨_,_,vs,O,je.one G (aN ..) N<|G.wQ<|aN ..,λx E=>(hq x E).nums G λe he=>by simp[he]⟩,G.ext⟩
 have hi:i<A.nr:=N;show aO Pg X 158 [B i,pt u,pt xc] H6 _;refine aO.mono (R7 h ho hi hvl (hnil i (ax _) hi) G) ?_;rintro _ H7 ⟨v,gb,hv,G⟩;refine dQ ?_;refine⟨A.nr-(i+1),N,_,_,_,_,O,i+1,vs.set i v,gb++az,og,N,by rw[bJ];exact hvl,λj W J=>?_,λx hx2=>?_,G⟩
 .rw[List.getElem?_set_ne N];exact hnil j N J
 .rcases ig hx2 with g|rfl
  .exact(hq x g).imp_right λ⟨r,n,c,M,j,g1,g2,g3⟩=>⟨r,n,c,M,j,g1,cZ _ g2,g3⟩
  .exact hv.imp_right λ⟨r,n,c,M,j,g1,g2,g3⟩=>⟨r,n,c,M,j,g1,dn _ g2,g3⟩
def index_spec{bs:C Bool}(hw:Wf H)(hn:bs.length<=1000000)(hf:je SH 4 H a bs.length 1<|bs.map .bool):aO Pg X 156 [I a bs.length c,.bool f] H (Q0 (λv=>∃z:Int,v=vi z) H):=by
 refine Fh [0,1,4,5,7,8] ?_;refine FY 4 5 8 (ai:=λm x4 x5 x8 T=>∃i:Nat,x8=B i/\i+m=bs.length/\T=H) ?_ bs.length ⟨0,rfl,N,rfl⟩;rintro m x4 x5 x8 ni H1 ⟨i,rfl,him,rfl⟩;refine kX (λhc=>?_) λhc=>?_
 .refine tl<|rr ?_;exact⟨⟨_,O⟩,O⟩
 have hi:i<bs.length:=N;refine hf.ix hi (v:=.bool bs[i]) (by rw[bF,av hi];rfl) λp=>?_;refine PU.of (v:=.bool bs[i]) (by cases bs[i]<;>kernel_rfl) ?_;refine qx (λ_=>?_) λ_=>?_
 .refine rr ?_;exact⟨⟨_,O⟩,O⟩
 .refine dQ ?_;exact⟨bs.length-(i+1),N,_,_,_,_,_,O,i+1,og,N,O⟩
theorem UN(hw:Wf H)(hn:n<=1000)(h:JH b 100000 (Rw n) n H v):aO Pg X 131 [v] H (Q1 (λv _=>∃z:Int,v=vi z) H):=by
 refine jS [0,2] ?_;refine aO.mono (IY hw hn N ⟨b,h⟩) ?_;rintro _ H1 ⟨⟨a,c,bs,rfl,hbl,hf⟩,E⟩;rw[<-hbl]at hf|-;have G:=(F.refl hw).call E;refine aO.mono (index_spec (SH:=(H.next<=·)) G.wf N hf) ?_;rintro _ H2 ⟨hz,rfl⟩;refine rr ?_;exact⟨hz,E⟩
def YY(hw:Wf H)(h:sQ SH H A q)(ho:A.Ok):aO Pg X 98 [q.v A] H (Q1 (λv _=>∃z:Int,v=vi z) H):=by
 have G:=F.refl hw;refine jS [0,1,2] ?_;refine G.box O λH1 u G=>?_;rw[jM]at G;refine G.rZ 0 O (ax 6) ?_;refine G.cm (tY G.wf (h.ex G.ext) ho) ?_;rintro v H2 rfl E G;refine bG ?_;refine gF (λhb=>by cases hb) λ_=>?_;refine G.rZ 0 O (ax 6) ?_;refine G.cm (UM G.wf (h.ex G.ext) ho) ?_;rintro v H3 hC E G;refine G.cm (UN G.wf ho.few hC) ?_;rintro v H4 hz E G;refine rr ?_;exact⟨hz,G.ext⟩
end
section
variable{S:C Nat}{SH:Nat->Prop}
def amC(A:At)(H:R)(v:Z):Prop:=∀(T:R)(s:Nat)(e:Ed),Ext H T->Wf T->e∈A.hx s->nU Pg X (Mj v) [.agg ⟨[B e.1,B e.2.1,B e.2.2]⟩] T (Q1 (λv _=>∃b:Bool,v=.bool b) T)
def YZ{re:Nat}{l:C Bool}(h:H.cell re 0=D v)(y:re<H.next)(hl:Bs b H A.nr v l)(ho:A.Ok):amC A H (.func (.func 128) ⟨[]⟩ ⟨[pt re]⟩):=by
 intro T s e E hw he;have hl:=hl.ex E;have h:T.cell re 0=D v:=(kr (E.obj re y kg) 0).trans h;have y:=aR y E.next
 show aO Pg X 128 [_,pt re] T _;have G:=F.refl hw;refine jS [0,1,2,3] ?_;refine G.box O λH1 rb G=>?_;have G:F [] T H1 [(rb,121,[B e.1,B e.2.1,B e.2.2])]:=G;refine wS (λhc=>?_) λhc=>?_
 .refine rr ?_;exact⟨⟨f,O⟩,G.ext⟩
 refine wS (λhc2=>?_) λhc2=>?_
 .refine G.Be h y<|G.pz ?_;obtain⟨ea,ec,rfl,_⟩:=id hl;refine(hl.ex G.ext).at (ho.call he N) λp t ht=>rr ?_;exact⟨⟨t,O⟩,G.ext⟩
 .refine rr ?_;exact⟨⟨aC,O⟩,G.ext⟩
def acN(z:Int):aO Pg X 130 [vi z] H (Q0 (λv=>∃b,v=.bool b) H):=by
 refine Fh [0,2] ?_;refine rr ?_;exact⟨⟨_,O⟩,O⟩
def R8(hn:zs.length<=1000000)(hf:je SH 3 H a zs.length 1<|zs.map vi):aO Pg X 129 [I a zs.length c,.func (.func 130) ⟨[]⟩ ⟨[]⟩] H (Q0 (λv=>∃z:Int,v=vi z) H):=by
 refine Fh [0,1,4,5,7,8] ?_;refine FY 4 5 8 (ai:=λm x4 x5 x8 T=>∃i:Nat,x8=B i/\i+m=zs.length/\T=H) ?_ zs.length ⟨0,rfl,N,rfl⟩;rintro m x4 x5 x8 ni H1 ⟨i,rfl,him,rfl⟩;refine kX (λhc=>?_) λhc=>?_
 .refine tl<|rr ?_;exact⟨⟨_,O⟩,O⟩
 have hi:i<zs.length:=N;refine hf.ix hi (jR _<|av hi) λp=>?_;show aO Pg X 130 [vi zs[i]] H1 _;refine aO.mono (acN _) ?_;rintro _ _ ⟨⟨b,rfl⟩,rfl⟩;refine qx (λhb=>?_) λhb=>?_
 .refine rr ?_;exact⟨⟨_,O⟩,O⟩
 .refine dQ ?_;exact⟨zs.length-(i+1),N,_,_,_,_,_,O,i+1,og,N,O⟩
def Pt{v:Int}:(l.map vi).set k (vi v)=(l.set k v).map vi:=fZ.symm
def Y0(a b:Int)(l:C Int):Prop:=∀z∈l,a<=z/\z<=b
def Y0.wk{a b a' b':Int}(h:Y0 a b l)(W:a'<=a)(J:b<=b'):Y0 a' b' l:=λz hz=>⟨vv W (h z hz).1,vv (h z hz).2 J⟩
def Y0.set{a b z:Int}(h:Y0 a b l)(W:a<=z)(J:z<=b):Y0 a b (l.set k z):=λhr hy=>by
 rcases ig hy with g|rfl
 .exact h hr g
 .exact⟨W,J⟩
def pos(l:C Int):Nat:=l.countP λz=>decide<|0<z
def aii(l:C Int):pos l<=l.length:=List.countP_le_length
def ae1(h:k<l.length)(z:Int):pos (l.set k z)+(if 0<l[k]then 1 else 0)=pos l+(if 0<z then 1 else 0):=by
 unfold pos;rw[List.countP_set h]
 have:(if 0<l[k]then 1 else 0)<=l.countP λz=>decide (0<z):=by
  split
  .next g=>exact List.countP_pos_iff.2 ⟨_,bB h,mg g⟩
  .exact bA _
 simp only[decide_eq_true_eq];omega
theorem Ho(hw:Wf H)(h:sQ SH H A q)(ho:A.Ok):aO Pg X 97 [q.v A] H (Q1 (λv _=>∃z:Int,v=vi z) H):=by
 have G:=F.refl hw;have hbig:=ho.big;have Lm:=ho.few;refine jS [0,1,2,3,4,5,7,9,10,11,12,13,14,16,27,28,29,33,34,35,55,56,57,107,108,109] ?_;refine G.box O λH1 u G=>?_;rw[jM]at G;refine G.rZ 0 O (ax 6) ?_;refine G.cm (tY G.wf (h.ex G.ext) ho) ?_;rintro v H2 rfl E G;refine bG ?_;refine gF (λhb=>by cases hb) λ_=>?_;refine G.rZ 0 O (ax 6) ?_;refine G.cm (Fe G.wf (h.ex G.ext) ho) ?_;rintro v H4 ⟨l,hl,_⟩ E G;obtain⟨ea,ec,rfl,_⟩:=id hl;refine G.ns O O O λH5 re G hx5=>?_;have hS0:F [] H H5 [(re,34,[I ea A.nr ec]),(u,27,q.cells A)]:=G;have hrg:u<H5.next:=(hS0.lo _<|aS (i:=1) O).2
 have hwv:=YZ ((hS0.get 0 O).cell O) (hS0.lo _<|aS (i:=0) O).2 (hl.ex hx5) ho;have cS:∀{k v},(q.cells A)[k]?=D v->H5.cell u k=D v:=λhv=>(hS0.get 1 O).cell hv;have cN:H5.read u 0 6=D (q.cells A):=(hS0.get 1 O).read<|ax 6;have hA:sQ SH H5 A q:=h.ex hS0.ext;have akU:=hS0.ext;have hw5:=hS0.wf;clear G E hl hS0;have G:=F.refl hw5;refine G.Aj (o:=0) (n:=6) (vs:=q.cells A) cN hrg<|aO.mono (sI G.wf q A) ?_;rintro v H6 ⟨rfl,E⟩;have G:=G.call E;refine G.mkS (ax _) N λH7 di G=>?_;rw[mZ]at G;refine G.Be (cS (k:=4) O) hrg ?_;refine bG ?_;have hz:∀n,aX n (bX .i64 0)=(aX n 0:C Int).map vi:=λn=>ku.symm;have b0:∀n,Y0 0 0 (aX n 0):=λn z h=>by rw[oJ h];omega
 rw[hz]at G;refine gK.vg λK hK=>lp6 7 9 29 33 34 35 (ai:=λm x7 x9 x29 Bf x34 Eh T=>∃(i:Nat)(zs:C Int),x29=B i/\i+m=A.ns/\zs.length=A.ns/\Y0 0 (A.pre i) zs/\F [] H5 T [(di,3,zs.map vi)]) ?_ A.ns ⟨0,_,rfl,N,jl ..,(b0 _).wk N N,G⟩;clear G;rintro m x7 x9 x29 Bf x34 Eh ni H8 ⟨i,zs,rfl,him,hzl,hzb,G⟩;refine kX (λhc=>?_) λhc=>?_
 .subst hK;refine bG ?_;have hpi:=At.zH ho i;replace hzb:=hzb.wk (j4 0) (show(A.pre i:Int)<=100000 by omega);refine tp ?_;refine G.Be (cS (k:=0) O) hrg ?_;refine bG ?_;refine G.mkS (ax _) N λH9 dl G=>?_;rw[mZ,hz]at G;refine NG 11 12 13 57 (ai:=λm iJ kW jI x57 T=>∃(i:Nat)(gb:C dL)(ys:C Int)(nx:C Nat),x57=B i/\i+m=A.ns/\ys.length=A.nr/\Y0 0 i ys/\(∀s∈nx,s<A.ns)/\nx.length<=i/\GB 3 1 iJ (fF nx) gb/\F [] H5 T ((dl,3,ys.map vi)::(di,3,zs.map vi)::gb)) ?_ A.ns ⟨0,[],_,[],rfl,N,jl ..,b0 _,(nofun),ax _,GB.nil _ _,G⟩;clear G;rintro m iJ kW jI x57 amq Dq ⟨i,gb,ys,nx,rfl,him,hyl,hyb,hnx,hnl,hg,G⟩;refine kX (λhc=>?_) λhc=>?_
  .have hpz:=aii zs;refine tl ?_;refine lp6 11 14 16 107 108 109 (ai:=λm iJ sP pG x107 amD aij T=>∃(rg:Nat)(gb:C dL)(ys zs:C Int)(nx:C Nat),rg+m<=8000/\pos zs+nx.length<=m/\ys.length=A.nr/\Y0 (-rg) 4000 ys/\zs.length=A.ns/\Y0 (-(rg*100000:Nat)) 100000 zs/\(∀s∈nx,s<A.ns)/\GB 3 1 iJ (fF nx) gb/\F [] H5 T ((dl,3,ys.map vi)::(di,3,zs.map vi)::gb)) ?_ (pos zs+nx.length) ⟨0,gb,ys,zs,nx,N,ax _,hyl,hyb.wk N N,hzl,hzb.wk N N,hnx,hg,G⟩;clear G hg hnx hyb hyl hzb hzl;rintro m iJ sP pG x107 amD aij anC Sn ⟨rg,gb,ys,zs,nx,hpm,hm,hyl,hyb,hzl,hzb,hnx,hg,G⟩;refine tl ?_
   have fin:aO Pg X 129 [I (D ⟨dl,0,Q⟩) A.nr A.nr,.func (.func 130) ⟨[]⟩ ⟨[]⟩] Sn (Q0 (λv=>∃z:Int,v=vi z) Sn):=by
    have:=je.one (SH:=λ_=>True) G (aN ..) (show _=A.nr*1 by rw[aK,hyl,dz]) trivial;rw[<-hyl]at this|-;exact R8 N this
   rcases hg with⟨rfl,hn,rfl⟩|⟨r,n,eB,rfl,hn,rfl⟩
   .refine bG ?_;refine aT (λhc=>N) λ_=>?_;refine tl<|aO.mono fin ?_;rintro v T ⟨hv,rfl⟩;refine rr ?_;exact⟨hv,akU.trans G.ext⟩
   have hn:nx.length=n:=mg hn;subst hn;refine Mo (λhc=>?_) λhc=>?_
   .refine tl<|aO.mono fin ?_;rintro v T ⟨hv,rfl⟩;refine rr ?_;exact⟨hv,akU.trans G.ext⟩
   obtain⟨zJ,cur,rfl⟩:∃a b,nx=a++[b]:=⟨nx.dropLast,nx.getLast (λe=>by subst e;simp at hc),(mP _).symm⟩;have hlen:(zJ++[cur]).length=zJ.length+1:=by simp
   rw[hlen]at hm|-;have Jm:cur<A.ns:=hnx cur kg;refine qL ?_;rw[show((zJ.length+1:Nat):Int)-1=(zJ.length:Nat) by omega];refine G.ix (v:=B cur) N kg λp=>?_;refine qL ?_;rw[show((zJ.length+1:Nat):Int)-1=(zJ.length:Nat) by omega];refine PU.of (BM N)<|G.Be (cS (k:=3) O) hrg<|(hA.ex G.ext).Be Jm λp=>?_;have hoc:=ho.o cur Jm;have hyk:=hyb _<|bB (show A.aj cur<ys.length by omega);refine G.ix hoc (jR _<|av N) λp=>?_;refine qL ?_;refine G.Zg hoc (by rw[aK];omega) (kk:=λp H12 G=>?_);rw[Pt]at G;replace hyb:=(hyb.wk (a':=-((rg+1:Nat):Int)) N<|j4 _).set (k:=A.aj cur) (z:=ys[A.aj cur]-1) N N;replace hyl:(ys.set (A.aj cur)<|ys[A.aj cur]-1).length=A.nr:=by rw[bJ];exact hyl
   generalize ys.set (A.aj cur) (ys[A.aj cur]-1)=ys' at hyb hyl G;clear hyk;have G:F [] H5 H12 ((dl,3,ys'.map vi)::(di,3,zs.map vi)::[(r,3,fF (zJ++[cur])++eB)]):=G;refine G.Be (cS (k:=4) O) hrg<|hA.ldE G.ext Jm λp fa fc hE=>?_;refine bG ?_;have hg:GB 3 1 (I (D ⟨r,0,Q⟩) zJ.length<|fJ 1) (fF zJ) [(r,3,fF (zJ++[cur])++eB)]:=.inr ⟨r,_,B cur::eB,O,by simp,by simp⟩;have hEl:=ho.len cur;refine FY 11 16 109 (ai:=λm' iJ pG aij T=>∃(k:Nat)(gb:C dL)(zs:C Int)(nx:C Nat),aij=B k/\k+m'=(A.hx cur).length/\pos zs+nx.length+1<=m/\zs.length=A.ns/\Y0 (-((rg*100000+k:Nat):Int)) 100000 zs/\(∀s∈nx,s<A.ns)/\GB 3 1 iJ (fF nx) gb/\F [] H5 T ((di,3,zs.map vi)::(dl,3,ys'.map vi)::gb)) ?_ (A.hx cur).length ⟨0,_,zs,zJ,rfl,N,N,hzl,hzb.wk N<|j4 _,λs hs=>hnx s<|by simp[hs],hg,G.perm<|gq _ _ _⟩;clear G hg hzb hzl hnx hm;rintro m' y11 y16 anD anE H13 ⟨k,gb,zs,nx,rfl,hkm,hm,hzl,hzb,hnx,hg,G⟩;refine kX (λhc2=>?_) λhc2=>?_
   .exact⟨pos zs+nx.length,N,_,_,_,_,_,_,_,_,O,rg+1,gb,ys',zs,nx,N,ax _,hyl,hyb,hzl,hzb.wk N<|j4 _,hnx,hg,G.perm<|gq _ _ _⟩
   have hk':k<(A.hx cur).length:=N;refine Jl (hE.ex G.ext) hk' λp=>?_;have hem:=bB hk';have⟨g1,_,_⟩:=ho.e cur Jm _ hem;generalize(A.hx cur)[k]=e at hem g1|-;have Si:=hzb _<|bB (show e.2.2<zs.length by omega);have hps:=ae1 (show e.2.2<zs.length by omega)<|zs[e.2.2]-1;refine G.ns O O O λH14 re' G _=>?_;have G:F [] H5 H14 ((re',121,[B e.1,B e.2.1,B e.2.2])::(di,3,zs.map vi)::(dl,3,ys'.map vi)::gb):=G;refine G.rZ 0 O (ax 3) ?_;refine nU.mono (hwv H14 cur e G.ext G.wf hem) ?_;rintro v Pv ⟨⟨b,rfl⟩,NN⟩;have G:=G.call NN;refine qx (λhb2=>?_) λhb2=>?_
   .refine dQ ?_;exact⟨(A.hx cur).length-(k+1),N,_,_,_,_,_,O,k+1,gb,zs,nx,og,N,hm,hzl,hzb.wk N<|j4 _,hnx,hg,F.drop (A:=[_]) G⟩
   refine G.ld 0 (o:=2) O O<|G.ix g1 (jR _<|av N) λp=>?_;refine qL ?_;refine G.Zg g1 (by rw[aK];omega) (kk:=λp H16 G=>?_);rw[Pt]at G;have akV:=(hzb.wk (a':=-((rg*100000+(k+1):Nat):Int)) N<|j4 _).set (k:=e.2.2) (z:=zs[e.2.2]-1) N N;have akW:(zs.set e.2.2<|zs[e.2.2]-1).length=A.ns:=by rw[bJ];exact hzl
   have hzv:(zs.set e.2.2<|zs[e.2.2]-1)[e.2.2]?=D (zs[e.2.2]-1):=by rw[dG,if_pos O,if_pos N]
   refine G.ld 0 (o:=2) O O<|G.ix g1 (jR _ hzv) λp=>?_;refine rV (λhc3=>?_) λhc3=>?_
   .rw[if_pos N,if_neg N]at hps;refine G.ld 0 (o:=2) O O<|hg.push (G.perm<|aG (l₁:=[_,_,_]) (l₂:=gb)) N O O O O O N (by rw[aK];omega) λw v' Sr gQ hg' G=>?_;have G:=G.perm<|aG (l₂:=[_,_,_]) (l₁:=gQ);refine dQ ?_;refine⟨(A.hx cur).length-(k+1),N,_,_,_,_,_,O,k+1,gQ,_,nx++[e.2.2],og,N,by rw[aQ];simp;omega,akW,akV,λs hs=>?_,?_,F.drop (A:=[_]) G⟩
    .rcases bZ.1 hs with hs|hs
     .exact hnx s hs
     .rw[aP]at hs;subst hs;exact g1
    .have e2:fF (nx++[e.2.2])=fF nx++[B e.2.2]:=by simp
     rw[e2];exact hg'
   .refine dQ ?_;refine⟨(A.hx cur).length-(k+1),N,_,_,_,_,_,O,k+1,gb,_,nx,og,N,?_,akW,akV,hnx,hg,F.drop (A:=[_]) G⟩;split at hps<;>split at hps<;>omega
  have hi:i<A.ns:=N;refine G.ix hi (jR _<|av N) λp=>?_;refine bG ?_;refine G.Be (cS (k:=3) O) hrg<|(hA.ex G.ext).Be hi λp=>?_;have hoi:=ho.o i hi;have hyk:=hyb _<|bB (show A.aj i<ys.length by omega);refine G.ix hoi (jR _<|av N) λp=>?_;refine dQ ?_;refine G.Zg hoi (by rw[aK];omega) (kk:=λp H12 G=>?_);rw[Pt]at G;replace hyb:=(hyb.wk (b':=((i+1:Nat):Int)) (j4 _) N).set (k:=A.aj i) (z:=ys[A.aj i]+1) N N;replace hyl:(ys.set (A.aj i)<|ys[A.aj i]+1).length=A.nr:=by rw[bJ];exact hyl
  generalize ys.set (A.aj i) (ys[A.aj i]+1)=ys' at hyb hyl G;clear hyk;refine aT (λhc2=>?_) λhc2=>?_
  .refine hg.push (G.perm<|aG (l₁:=[_,_]) (l₂:=gb)) N O O O O O N (by rw[aK];omega) λw v' H13 gQ hg' G=>?_;have G:=G.perm<|aG (l₂:=[_,_]) (l₁:=gQ);refine dQ ?_;refine⟨A.ns-(i+1),N,_,_,_,_,_,_,O,i+1,gQ,ys',nx++[i],og,N,hyl,hyb,λs hs=>?_,by rw[aQ];simp;omega,?_,G⟩
   .rcases bZ.1 hs with hs|hs
    .exact hnx s hs
    .rw[aP]at hs;omega
   .have e:fF (nx++[i])=fF nx++[B i]:=by simp
    rw[e];exact hg'
  .refine dQ ?_;exact⟨A.ns-(i+1),N,_,_,_,_,_,_,O,i+1,gb,ys',nx,og,N,hyl,hyb,hnx,N,hg,G⟩
 have hi:i<A.ns:=N;refine hA.ldE G.ext hi λp fa fc hE=>?_;refine bG ?_;have hpre:=At.wK ho hi;have hpl:=At.zH ho<|i+1;refine lp2 9 35 (ai:=λm x9 Eh T=>∃(k:Nat)(zs:C Int),Eh=B k/\k+m=(A.hx i).length/\zs.length=A.ns/\Y0 0 ((A.pre i+k:Nat):Int) zs/\F [] H5 T [(di,3,zs.map vi)]) ?_ (A.hx i).length ⟨0,zs,rfl,N,hzl,hzb,G⟩;clear G hzl hzb;rintro m' x9 Eh MH H9 ⟨k,zs,rfl,hkm,hzl,hzb,G⟩;refine kX (λhc2=>?_) λhc2=>?_
 .refine tl ?_;refine dQ ?_;subst hK;exact⟨A.ns-(i+1),N,_,_,_,_,_,_,_,_,O,i+1,zs,og,N,hzl,hzb.wk (j4 _) N,G⟩
 have hk':k<(A.hx i).length:=N;refine Jl (hE.ex G.ext) hk' λp=>?_;have hem:=bB hk';have Wo:=ho.len i;have⟨g1,_,_⟩:=ho.e i hi _ hem;generalize(A.hx i)[k]=e at hem g1|-;have Si:=hzb _<|bB (show e.2.2<zs.length by omega);refine G.ns O O O λDq re' G _=>?_;have G:F [] H5 Dq [(re',121,[B e.1,B e.2.1,B e.2.2]),(di,3,zs.map vi)]:=G;refine G.rZ 0 O (ax 3) ?_;refine nU.mono (hwv Dq i e G.ext G.wf hem) ?_;rintro v Sn ⟨⟨b,rfl⟩,NN⟩;have G:=G.call NN;refine qx (λhb2=>?_) λhb2=>?_
 .refine G.ld 0 (o:=2) O O<|G.ix g1 (jR _<|av N) λp=>?_;refine dQ ?_;refine G.Zg g1 (by rw[aK];omega) (kk:=λp H12 G=>?_);have G:=F.drop (A:=[_]) G;rw[Pt]at G;refine dQ ?_;exact⟨(A.hx i).length-(k+1),N,_,_,_,_,O,k+1,_,og,N,by rw[bJ];exact hzl,(hzb.wk (j4 _) N).set N N,G⟩
 .refine dQ ?_;exact⟨(A.hx i).length-(k+1),N,_,_,_,_,O,k+1,zs,og,N,hzl,hzb.wk (j4 _) N,F.drop (A:=[_]) G⟩
end
section
variable{S:C Nat}{SH:Nat->Prop}
def Use(A:At)(b:Nat)(H:R)(x:Z):Prop:=∃q':AV,x=q'.v A/\sQ (b<=·) H A q'
def LD(hw:Wf H)(h:sQ SH H A q)(ho:A.Ok):aO Pg X 69 [q.v A] H (Qe (λv T=>∃(x:Z)(code z:Int),v=.tuple ⟨[x,vi code,vi z]⟩/\(bK x).length=6/\all' fC (bK x)=f/\(code=0->Use A.trim H.next T x)) H):=by
 have G:=F.refl hw;have okt:=At.JJ ho;refine jS [0,1,2,3,4,5,6,7] ?_;refine G.box O λH1 u G=>?_;rw[jM]at G;refine G.iX λH2 ro G=>G.rZ 1 O (ax 6) ?_;refine G.cm (tY G.wf (h.ex G.ext) ho) ?_;rintro v H3 rfl E G;refine bG ?_;refine gF (λhb=>by cases hb) λ_=>?_;refine G.rZ 1 O (ax 6) ?_;refine G.cm (YE G.wf (h.ex G.ext) ho) ?_;rintro v H4 ⟨l,hl,hlr⟩ E G;obtain⟨ea,ec,rfl,_⟩:=id hl;refine hl.at ho.pos λp t ht=>?_;refine G.kL ?_;refine gF (λhb=>?_) λhb=>?_
 .refine PU.b6 O<|G.jH λHn G=>rr ?_;apply G.iI;exact⟨⟨_,_,_,O,O,O,λh=>absurd h mO⟩,G.ext⟩
 refine G.rZ 1 O (ax 6) ?_;refine aO.mono (NV G.wf (h.ex G.ext) ho) ?_;rintro v H5 ⟨⟨q',rfl,hA'⟩,E⟩;have hge:=G.ext.next
 have hro:=(G.lo _<|aS (i:=0) O).2;have hrg:=(G.lo _<|aS (i:=1) O).2;have G:=G.call E;refine G.ns O O O λH6 rt G hx6=>?_;have G:F [] H H6 [(rt,27,q'.cells A.trim),(ro,27,[I Q 0 0,I Q 0 0,I Q 0 0,I Q 0 0,I Q 0 0,vi 0]),(u,27,q.cells A)]:=G;have hA':=hA'.ex hx6;refine G.rZ 0 O (ax 6) ?_;refine G.cm (Ho G.wf hA' okt) ?_;rintro _ H7 ⟨z,rfl⟩ E G;have hA':=hA'.ex E;refine wR (λhc=>?_) λhc=>?_
 .refine PU.b6 O<|G.jH λHn G=>rr ?_;apply G.iI;exact⟨⟨_,_,_,O,O,O,λh=>absurd h mO⟩,G.ext⟩
 subst hc;refine G.rZ 0 O (ax 6) ?_;refine G.cm (YY G.wf hA' okt) ?_;rintro _ H8 ⟨z,rfl⟩ E G;have hA':=hA'.ex E;refine wR (λhc=>?_) λhc=>?_
 .refine PU.b6 O<|G.jH λHn G=>rr ?_;apply G.iI;exact⟨⟨_,_,_,O,O,O,λh=>absurd h mO⟩,G.ext⟩
 subst hc;refine G.rZ 0 O (ax 6) ?_;have hS0:=F.drop (A:=[_]) G;have G:=hS0.base;refine G.jH λHn G=>rr ?_
 exact G.iI<|⟨⟨_,_,_,O,O,O,λ_=>⟨q',rfl,(hA'.stay G.ext λr y=>by
  have y:r∈[ro,u]:=y;simp at y;rcases y with rfl|rfl
  .exact eO hro
  .exact eO hrg).wk λr y=>a_ hge y⟩⟩,(hS0.over G).ext⟩
abbrev Hr:C Z:=[I Q 0 0,I Q 0 0,I Q 0 0,I Q 0 0,I Q 0 0,vi 0]
theorem aik(hw:Wf H):aO Pg X 76 [.agg ⟨Hr⟩] H (Q1 (λv _=>v=.bool aC) H):=by
 have G:=F.refl hw;refine jS [0,1,2,3,4,5,6,7,8,10,45,46,71,72,73,89,90,91,102] ?_;refine G.box O λH1 u G=>?_;have G:F [] H H1 [(u,27,Hr)]:=G;refine eU ?_;refine G.nD λH2 rn G f1=>?_;refine G.mh λHn G=>?_;have n1:rn≠u:=G.nq 0 1 O O N;refine splitK (λK hK=>?_) ?_
 .simp only[f1,d_,fK];apply lQ (a:=rn) (b:=u) n1 xN jr jr hK
 refine aT (λhc=>?_) λhc=>absurd O hc;refine rr ?_;exact⟨O,G.ext⟩
def UO(hw:Wf H)(h:sQ SH H A q)(ho:A.Ok):aO Pg X 51 [q.v A] H (Q1 (λv _=>∃code z:Int,v=.tuple ⟨[vi code,vi z]⟩) H):=by
 have G:=F.refl hw;refine jS [0,1,2,3,5,6] ?_;refine G.box O λH1 u G=>?_;rw[jM]at G;refine G.rZ 0 O (ax 6) ?_;refine G.cm (LD G.wf (h.ex G.ext) ho) ?_;rintro v H2 ⟨x,code,z,rfl,LY,T_,_⟩ E G;refine bG ?_;refine G.ns LY O T_ λH3 rt G hx3=>rr ?_;exact⟨⟨_,_,O⟩,G.ext⟩
def ail(hw:Wf H):aO Pg X 51 [.agg ⟨Hr⟩] H (Q1 (λv _=>∃z:Int,v=.tuple ⟨[vi 2,vi z]⟩) H):=by
 have G:=F.refl hw;refine jS [0,1,2,3,5,6] ?_;refine G.box O λH1 u G=>?_;have G:F [] H H1 [(u,27,Hr)]:=G;refine G.rZ 0 O (ax 6) ?_
 have key:aO Pg X 69 [.agg ⟨Hr⟩] H1 (Q1 (λv _=>v=.tuple ⟨[.agg ⟨Hr⟩,vi 2,vi (-1)]⟩) H1):=by
  have G:=F.refl G.wf;refine jS [0,1,2,3,4,5,6,7] ?_;refine G.box O λH2 u G=>?_;have G:F [] H1 H2 [(u,27,Hr)]:=G;refine G.iX λH3 ro G=>?_;refine G.rZ 1 O (ax 6) ?_;refine G.cm (aik G.wf) ?_;rintro _ H4 rfl E G;refine bG ?_;refine gF (λ_=>?_) (λh=>by cases h);refine PU.b6 O<|G.jH λHn G=>rr ?_;exact G.iI<|⟨O,G.ext⟩
 refine aO.mono key ?_;rintro v H2 ⟨rfl,E⟩;have G:=G.call E;refine bG ?_;refine G.ns O O O λH3 rt G hx3=>rr ?_;exact⟨⟨_,O⟩,G.ext⟩
def akX(H:R)(v:Z)(T:R):Prop:=∃(x:Z)(ok:Int),v=.tuple ⟨[x,vi ok]⟩/\(ok=0->x=.agg ⟨Hr⟩)/\(ok≠0->∃A,At.Ok A/\A.ns<=300/\A.ty<=5000/\A.trim=A/\Use A H.next T x)
def R9(hw:Wf H)(hT:BV H)(s:aV):aO Pg X 42 [.string s] H (Q1 (akX H) H):=by
 have G:=F.refl hw;refine jS [0,2,3,4,5,6,7] ?_;refine G.iX λH1 ro G=>?_;refine aO.mono (YM G.wf (hT.ex G.ext) s) ?_;rintro v H2 ⟨⟨x,ok,rfl,LY,T_,hA⟩,E⟩;have hge:=G.ext.next
 have hro:=(G.lo _<|aS (i:=0) O).2;have G:=G.call E;refine bG ?_;refine G.ns LY O T_ λH3 ra G hx3=>?_;refine aT (λhc=>?_) λhc=>?_
 .refine PU.b6 O<|G.jH λHn G=>rr ?_;exact G.iI<|⟨⟨_,_,O,λ_=>rfl,λh=>absurd O h⟩,G.ext⟩
 obtain⟨A,q,rfl,hA,ho,anh,hty⟩:=hA hc;have hA:=hA.ex hx3;refine G.rZ 0 O (ax 6)<|aO.mono (sI G.wf q A) ?_;rintro v H4 ⟨rfl,E⟩;have G:=G.call E;have hA:=hA.ex E;refine rV (λhc2=>?_) λhc2=>?_
 .refine PU.b6 O<|G.jH λHn G=>rr ?_;exact G.iI<|⟨⟨_,_,O,λ_=>rfl,λh=>absurd O h⟩,G.ext⟩
 refine tl<|G.rZ 0 O (ax 6)<|aO.mono (LD G.wf hA ho) ?_;rintro v H5 ⟨⟨x,code,z,rfl,LY,T_,hU⟩,E⟩;have hge4:=G.ext.next
 have amE:=(G.lo _<|aS (i:=1) O).2;have G:=G.call E;refine bG ?_;refine G.ns LY O T_ λH6 rt G hx6=>dN (λhc3=>?_) λhc3=>?_
 .refine PU.b6 O<|G.jH λHn G=>rr ?_;exact G.iI<|⟨⟨_,_,O,λ_=>rfl,λh=>absurd O h⟩,G.ext⟩
 obtain⟨q',rfl,hA'⟩:=hU hc3;refine G.rZ 0 O (ax 6) ?_;have hS0:=F.drop (A:=[_,_]) G;have G:=hS0.base;refine G.jH λHn G=>rr ?_;apply G.iI
 exact⟨⟨_,_,O,λh=>absurd h mO,λ_=>⟨A.trim,At.JJ ho,by show A.ns<=300;omega,hty,At.YB ho,q',rfl,((hA'.ex hx6).stay G.ext λr y=>by
  have y:r∈[ro]:=y;simp at y;subst y;exact eO amE).wk λr y=>a_ hge4 y⟩⟩,(hS0.over G).ext⟩
end
end Go.Proofs.Lv
