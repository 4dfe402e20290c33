/-
  Part 06 of the proof. No condition.
-/
import Derived.Test.YtpngmpbmokhmiaaGreatDoorZ05
set_option linter.unusedVariables false
set_option linter.unusedSimpArgs false
set_option maxRecDepth 100000
set_option maxHeartbeats 4000000
set_option linter.defProp false
open Option renaming some->Z,none->T,rec->aQ
open Bool renaming true->f,false->aA
open Go renaming Value->C,TypeId->aI
open Go.Value renaming int->a_,slice->J,bool->aO,string->aJ,pointer->bG,tuple->fJ,agg->dN,map->gz
open Nat renaming succ->dh,ble->aD
open List renaming length->u,replicate->aY
open Go.ByteArray renaming toList_eq->jc
open Go.IntKind renaming i64->bC
open List.Perm renaming cons->fA
noncomputable section
namespace Go.Proofs.Lu
open Go.Ae Go.Ae.hx
variable{K:C->R->Prop}{H':Int->Prop}{F fE ks l jw rcs:D C}{a a2 na ra ua:aC Addr}{m mm:D (aZ×C)}{b c es i k n nc nn o p r rc rf E uc w:Nat}{e kt t ty vt:aI}{L hx Pf gb GX:D eF}{H Q H0:R}{v x3:C}{ch root z:Int}{nm:aZ}{ay ok aa:Bool}
section
variable{S:D Nat}{cs:Nat->Prop}
def Nl(kd:Int)(n:Nat):Prop:=(kd=0/\2<=n)\/kd=1\/((kd=2\/kd=3\/kd=4)/\n=1)\/((kd=5\/kd=6\/kd=7)/\n=0)
def aaq(kd:Int)(n:Nat):bM Pg X 228 [vi kd,W n] H (Q0 (λv=>∃b:Bool,v=aO b/\(b=f->Nl kd n)) H):=by
 have g:∀(b:Bool) E,Ci E 12=aO b->(b=f->kd=2\/kd=3\/kd=4)->iC Pg X (sub Ez [1,0,1,0,1,1,1,1,1]) (Il (vi kd) (W n) (aO aA) (vi kd) E H) (uk 0<|uQ Pg X (sub Ez [1,1])<|jO Pg [.tmp 4]<|Q0 (λv=>∃b:Bool,v=aO b/\(b=f->Nl kd n)) H):=by
  intro b E j y
  have s:∀E,iC Pg X (sub Ez [1,1]) (Il (vi kd) (W n) (aO aA) (vi kd) E H) (jO Pg [.tmp 4]<|Q0 (λv=>∃b:Bool,v=aO b/\(b=f->Nl kd n)) H):=λE=>
   by refine tl ?_;refine rr ?_;exact⟨⟨aA,O,λh=>by cases h⟩,rfl⟩
  refine tl ?_;rw[j];refine ig (λj=>?_) λj=>?_
  .refine bN ?_;refine rr ?_;exact⟨⟨_,O,λh=>.inr<|.inr<|.inl ⟨y j,by have:=gF h;omega⟩⟩,rfl⟩
  refine tJ (λd=>?_) λd=>?_
  .rw[bY d];refine bN ?_;refine rr ?_;exact⟨⟨_,O,λh=>.inr<|.inr<|.inr ⟨.inl d,by have:=gF h;omega⟩⟩,rfl⟩
  refine aV (λd=>?_) λd=>?_
  .rw[bY d];refine bN ?_;refine rr ?_;exact⟨⟨_,O,λh=>.inr<|.inr<|.inr ⟨.inr<|.inl d,by have:=gF h;omega⟩⟩,rfl⟩
  refine aV (λd=>?_) λd=>?_
  .refine rr ?_;exact⟨⟨_,O,λh=>.inr<|.inr<|.inr ⟨.inr<|.inr d,by have:=gF h;omega⟩⟩,rfl⟩
  exact s _
 refine ce [0,1,4,5] ?_;refine tK (λd=>?_) λd=>?_
 .refine rr ?_;exact⟨⟨_,O,λh=>.inl ⟨d,by have:=gF h;omega⟩⟩,rfl⟩
 refine aV (λd=>?_) λd=>?_
 .refine rr ?_;exact⟨⟨_,O,λh=>.inr<|.inl d⟩,rfl⟩
 refine aV (λd=>?_) λd=>?_
 .exact g _ _ O λ_=>.inl d
 refine aV (λd=>?_) λd=>?_
 .exact g _ _ O λ_=>.inr<|.inl d
 exact g _ _ O λh=>.inr<|.inr (by have:=gF h;omega)
def _root_.Go.Ae.Fl.Q7(h:Fl H a n 1 F)(hk:k<n)(c:Nat):∃r o,∃hl:k<u F,BS 1 (J a n c) (W k)=Z (bG<|Z ⟨r,o,T⟩)/\r<H.bV/\H.cell r o=Z F[k]:=by
 have hl:k<u F:=by have:=h.1;omega
 have⟨r,o,I,B,h3,_⟩:=h.idx (c:=c) (dI 0) hk;exact⟨r,o,hl,I,B,h3 0 _ (dI 0) (by rw[dY,dZ];exact av hl)⟩
def NoR(cs:Nat->Prop)(H:R)(i:Nat)(l:D C):Prop:=∃(d:Int)(a:aC Addr)(n c:Nat)(ks:D C)(t:aZ)(g:aC Addr)(s j:Nat)(at':Int),l=[vi d,J a n c,aJ t,J g s j,vi at']/\n<=20001/\t.size<=1000000/\jC cs 3 H a n 1 ks/\Nl d n/\(∀x∈ks,∃z:Nat,x=W z/\z<i)
def intOf(v:C):Int:=match v with
 |Value.int _ z=>z
 |_=>0
def rootOf(rcs:D C)(i:Nat):Int:=intOf<|(El rcs 7 i)[5]?.getD<|a_ bC 0
def PO{a b c d e ay:C}(h:El rcs 7 i=[a,b,c,d,e,vi z,ay]):rootOf rcs i=z:=by unfold rootOf;rw[h];rfl
abbrev gV(ra:aC Addr)(rn rc:Nat)(na:aC Addr)(nn nc:Nat):C:=dN ⟨[J ra rn rc,J na nn nc]⟩
def Dn(cs:Nat->Prop)(H:R)(rn:Nat)(rcs:D C)(nn:Nat)(jw:D C):Prop:=(∀i,i<nn->NoR cs H i (El jw 5 i))/\∀i,i<rn->0<=rootOf rcs i/\rootOf rcs i<nn
def Nn(hw:Wf H){rn:Nat}(hG:Gr b H ra rn rcs na nn jw):bM Pg X 206 [gV ra rn rc na nn nc] H (Q1 (λv _=>∃t:Bool,v=aO t/\(t=f->Dn (b<=·) H rn rcs nn jw)) H):=by
 have⟨g1,g2,g3,g4,g5,g6⟩:=hG;have G:=gM hw;refine lF [0,1,2,3,4,6,8,10,11,12,25,26,27,41,42,43] ?_;refine G.box O λH1 E G=>?_;refine fF ?_;refine lp8 2 3 4 6 12 25 26 27 (h1:=λm I x3 x4 x6 mQ ap aq B Q=>∃i:Nat,I=aO aA/\mQ=W i/\i+m=nn/\(∀j,j<i->NoR (b<=·) H j (El jw 5 j))/\SH [] H Q [(E,171,[J ra rn rc,J na nn nc])]) ?_ nn ⟨0,rfl,rfl,N,λj h=>N,G⟩;clear G;rintro m I x3 x4 x6 mQ ap aq B oW H2 ⟨i,rfl,rfl,ar,d,G⟩;refine tK (λV=>?_) λV=>?_
 .have s:i<nn:=N;have⟨r,o,e,hr,hrd,hel,o0,_⟩:=g4.1.read N s nc;rw[e];refine bN ?_;have⟨kd,ka,kn,kc,ks,t,rs,at',he,hk1,hk2,hk3,hk4,hk5⟩:=g6 i s;obtain⟨xa,xn,xc,aw,rfl,Q4⟩:=id hk5;rw[he]at hrd;refine G.BN hrd hr<|G.og O O O λH3 ab G ao=>?_;have G:SH [] H H3 [(ab,238,[vi kd,J ka kn kc,aJ t,J xa xn xc,vi at']),(E,171,[J ra rn rc,J na nn nc])]:=G;refine fF ?_;refine dn (aaq kd kn) ?_;rintro v H4 ⟨⟨t1,rfl,an⟩,rfl⟩;refine G.kN ?_;refine ig (λhb=>?_) λhb=>?_
  .refine rr ?_;refine⟨⟨aA,O,λh=>by cases h⟩,G.ext⟩
  have Y:=an (by cases t1 with
   |true=>rfl
   |false=>cases hb)
  refine fF ?_;refine Gg 2 6 27 (h1:=λm I x6 B Q=>∃k:Nat,I=aO aA/\B=W k/\k+m=kn/\(∀j(h:j<u ks),j<k->∃z:Nat,ks[j]=W z/\z<i)/\SH [] H Q [(ab,238,[vi kd,J ka kn kc,aJ t,J xa xn xc,vi at']),(E,171,[J ra rn rc,J na nn nc])]) ?_ kn ⟨0,rfl,rfl,N,λj h h'=>N,G⟩;clear G;rintro m' I x6 B oW H5 ⟨k,rfl,rfl,am,g,G⟩;refine tK (λV=>?_) λV=>?_
  .have y:k<kn:=N;have⟨r',o',hl,e',hr',Np⟩:=hk1.1.Q7 y kc;rw[e'];refine bN ?_;have⟨z,hz⟩:=hk3 _<|bH hl;rw[hz]at Np;refine G.CJ Np hr' ?_;refine tJ (λP=>?_) λP=>?_
   .refine rr ?_;exact⟨⟨aA,O,λh=>by cases h⟩,G.ext⟩
   refine aV (λU=>?_) λU=>?_
   .refine rr ?_;exact⟨⟨aA,O,λh=>by cases h⟩,G.ext⟩
   refine eD ?_;refine⟨kn-(k+1),N,_,_,_,_,_,O,k+1,O,pq,N,λj hj al=>?_,G⟩;rcases dH j k with h|h
   .exact g j hj h
   .obtain rfl:j=k:=N;exact⟨z.toNat,by rw[hz];congr 1;omega,N⟩
  refine tp ?_;refine eD ?_;refine⟨nn-(i+1),N,_,_,_,_,_,_,_,_,_,_,O,i+1,O,pq,N,λj hj=>?_,fV (A:=[_]) G⟩;rcases dH j i with h|h
  .exact d j h
  .obtain rfl:j=i:=N;refine⟨kd,ka,kn,kc,ks,t,xa,xn,xc,at',he,hk2,hk4,hk1,Y,λx M=>?_⟩;obtain⟨j',ad,rfl⟩:=iM M;exact g j' ad (by have:=hk1.1.1;omega)
 have s:i=nn:=N;subst s;refine tm ?_;refine Gg 2 8 43 (h1:=λm I x8 ac Q=>∃k:Nat,I=aO aA/\ac=W k/\k+m=rn/\(∀j,j<k->0<=rootOf rcs j/\rootOf rcs j<i)/\SH [] H Q [(E,171,[J ra rn rc,J na i nc])]) ?_ rn ⟨0,rfl,rfl,N,λj h=>N,G⟩;clear G;rintro m' I x8 ac oW H5 ⟨k,rfl,rfl,am,g,G⟩;refine tK (λV=>?_) λV=>?_
 .have y:k<rn:=N;have⟨r,o,e,hr,hrd,hel,o0,_⟩:=g1.1.read N y rc;rw[e];refine bN ?_;have⟨nm,aa,ay,w,ch,root,at',he,hnm⟩:=g3 k y;rw[he]at hrd;refine G.BN hrd hr<|G.og O O O λH3 ru G ao=>?_;have G:SH [] H H3 [(ru,234,yj nm aa ay w ch root at'),(E,171,[J ra rn rc,J na i nc])]:=G;refine ym (λP=>?_) λP=>?_
  .refine rr ?_;exact⟨⟨aA,O,λh=>by cases h⟩,G.ext⟩
  refine ym (λU=>?_) λU=>?_
  .refine rr ?_;exact⟨⟨aA,O,λh=>by cases h⟩,G.ext⟩
  refine eD ?_;refine⟨rn-(k+1),N,_,_,_,_,_,O,k+1,O,pq,N,λj al=>?_,fV (A:=[_]) G⟩;rcases dH j k with h|h
  .exact g j h
  .obtain rfl:j=k:=N;rw[PO he];omega
 refine tl<|rr ?_;exact⟨⟨f,O,λ_=>⟨λj hj=>d j hj,λj hj=>g j N⟩⟩,G.ext⟩
def Gr.ru{rn:Nat}(s:Gr b H ra rn rcs na nn jw)(hi:i<rn)(c:Nat):∃(r o:Nat)(nm:aZ)(aa ay w:Bool)(ch at':Int),BS 7 (J ra rn c) (W i)=Z (bG<|Z ⟨r,o,T⟩)/\r<H.bV/\H.read r o 7=Z (yj nm aa ay w ch (rootOf rcs i) at')/\(∀g x,g<7->(yj nm aa ay w ch (rootOf rcs i) at')[g]?=Z x->H.cell r (o+g)=Z x)/\nm.size<=1000000/\El rcs 7 i=yj nm aa ay w ch (rootOf rcs i) at':=by
 have⟨g1,g2,g3,g4,g5,g6⟩:=s;have⟨r,o,e,hr,hrd,hel,o0,e0,ho⟩:=g1.1.read N hi c;have⟨r',o',e',hr',hcl,_⟩:=g1.1.idx (c:=c) N hi;rw[e]at e';cases e';have⟨nm,aa,ay,w,ch,root,at',d,hnm⟩:=g3 i hi;rw[PO d];have d:El rcs 7 i=yj nm aa ay w ch root at':=d;refine⟨r,o,nm,aa,ay,w,ch,at',e,hr,d▸hrd,λg x j M=>hcl g x j ?_,hnm,d⟩;rw[<-d,oN,jj j]at M;exact M
def Gr.no{rn:Nat}(j:Gr b H ra rn rcs na nn jw)(hi:i<nn)(c:Nat)(hl:El jw 5 i=l):∃(r o:Nat),BS 5 (J na nn c) (W i)=Z (bG<|Z ⟨r,o,T⟩)/\r<H.bV/\H.read r o 5=Z l/\∀d x,d<5->l[d]?=Z x->H.cell r (o+d)=Z x:=by
 have⟨g1,g2,g3,g4,g5,g6⟩:=j;have⟨r,o,e,hr,hrd,hel,o0,e0,ho⟩:=g4.1.read N hi c;have⟨r',o',e',hr',hcl,_⟩:=g4.1.idx (c:=c) N hi;rw[e]at e';cases e';refine⟨r,o,e,hr,hl▸hrd,λd x g M=>hcl d x g ?_⟩;rw[<-hl,oN,jj g]at M;exact M
def Fl.uniq{cs':D C}(h:Fl H a n es F)(d:Fl H a n es cs'):F=cs':=by
 apply ja<|h.1.trans d.1.symm;intro i I B;have⟨r,o,e,_,hc⟩:=h.2 i _<|av I;have⟨r',o',e',_,hc'⟩:=d.2 i _<|av B;rw[e]at e';cases e';rw[hc]at hc';exact eO hc'
def NoR.back(d:NoC cs H l)(M:Ext H Q)(h:NoR cs Q i l):NoR cs H i l:=by
 have⟨kd,a,n,c,ks,t,rs,at',e,I,B,h3,h4,h5⟩:=d;have⟨kd',a',n',c',ks',t',xa,xn,xc,T6,e',g1,g2,g3,g4,g5⟩:=h;rw[e]at e';cases e';have:=Fl.uniq (I.ex M).1 g3.1;subst this;exact⟨kd,a,n,c,ks,t,xa,xn,xc,at',e,g1,g2,I,g4,g5⟩
def NoR.ex(M:Ext H Q)(h:NoR cs H i l):NoR cs Q i l:=by
 have⟨kd',a',n',c',ks',t',xa,xn,xc,T6,e',g1,g2,g3,g4,g5⟩:=h;exact⟨kd',a',n',c',ks',t',xa,xn,xc,T6,e',g1,g2,g3.ex M,g4,g5⟩
def Gr.ex{rn:Nat}(d:Gr b H ra rn rcs na nn jw)(M:Ext H Q):Gr b Q ra rn rcs na nn jw:=by
 have⟨g1,g2,g3,g4,g5,g6⟩:=d;exact⟨g1.ex M,g2,g3,g4.ex M,g5,λi g=>(g6 i g).st M nofun⟩
def Dn.back{rn:Nat}(g:Gr b H ra rn rcs na nn jw)(M:Ext H Q)(h:Dn (b<=·) Q rn rcs nn jw):Dn (b<=·) H rn rcs nn jw:=
 ⟨λi d=>(h.1 i d).back (g.2.2.2.2.2 i d) M,h.2⟩
def Nq(cs:Nat->Prop)(H:R)(rn:Nat)(rcs:D C)(nn:Nat)(jw:D C):Prop:=Dn cs H rn rcs nn jw/\1<=rn/\∀i,i+1<rn->rootOf rcs i<rootOf rcs (i+1)
def Wo(hw:Wf H){rn:Nat}(d:Gr b H ra rn rcs na nn jw):bM Pg X 176 [gV ra rn rc na nn nc] H (Q1 (λv _=>∃t:Bool,v=aO t/\(t=f->Nq (b<=·) H rn rcs nn jw)) H):=by
 have G:=gM hw;have g2:=d.2.1;refine lF [0,1,2,3] ?_;refine G.box O λH1 E G=>?_;refine ym (λy=>?_) λy=>?_
 .refine rr ?_;exact⟨⟨aA,O,λh=>by cases h⟩,G.ext⟩
 apply G.jl;have s:=G.ext;refine G.cm (Nn G.wf<|d.ex s) ?_;rintro v P ⟨t,rfl,ht⟩ M G;refine sD (λA=>?_) λA=>?_
 .refine rr ?_;exact⟨⟨aA,O,λh=>by cases h⟩,G.ext⟩
 have U:=Dn.back d s (ht (by cases t with
  |true=>rfl
  |false=>cases A))
 refine tl ?_;refine lp2 2 3 (h1:=λm I x3 Q=>∃i:Nat,I=aO aA/\x3=W i/\1<=i/\i+m=rn/\(∀j,j+1<i->rootOf rcs j<rootOf rcs (j+1))/\SH [] H Q [(E,171,[J ra rn rc,J na nn nc])]) ?_ (rn-1) ⟨1,rfl,rfl,N,N,λj h=>N,G⟩;clear G;rintro m I x3 oW P ⟨i,rfl,rfl,V,Y,B,G⟩;refine aai (λy=>?_) λy=>?_
 .have⟨r1,o1,zN,u1,f1,w1,c1,a1,e1,hl1,Be,uR,_,_⟩:=d.ru (i:=i) N rc;have⟨r2,o2,nm2,u2,f2,w2,c2,a2,e2,hl2,aar,xz,_,_⟩:=d.ru (i:=i-1) N rc;refine fF ?_;rw[e1];refine G.kN ?_;refine G.Jk (uR 5 _ N O) hl1 ?_;refine fF ?_;refine rA ?_;rw[show((i:Int)-1)=((i-1:Nat):Int) by omega,e2];refine G.kN ?_;refine G.Jk (xz 5 _ N O) hl2 ?_;refine ym (λg=>?_) λg=>?_
  .refine rr ?_;exact⟨⟨aA,O,λh=>by cases h⟩,G.ext⟩
  refine eD ?_;refine⟨rn-(i+1),N,_,_,_,_,O,i+1,O,pq,N,N,λj hj=>?_,G⟩;rcases dH (j+1) i with h|h
  .exact B j h
  .obtain rfl:i=j+1:=N;rw[jo]at g;omega
 refine tl<|rr ?_;exact⟨⟨f,O,λ_=>⟨U,N,λj hj=>B j N⟩⟩,G.ext⟩
def PR(y:Wf H){rn:Nat}(d:Gr b H ra rn rcs na nn jw)(hi:i<rn)(g:∀j,j<rn->0<=rootOf rcs j/\rootOf rcs j<nn):bM Pg X 178 [gV ra rn rc na nn nc,W i] H (Q1 (λv _=>∃k:Nat,v=W k/\k<=nn) H):=by
 have G:=gM y;have B:=d.2.1;have g5:=d.2.2.2.2.1;refine lF [0,1,2,4] ?_;refine G.box O λA E G=>?_;refine G.kN ?_;refine aV (λs=>?_) λs=>?_
 .refine rr ?_;exact⟨⟨0,O,N⟩,G.ext⟩
 apply G.qE;have⟨r2,o2,nm2,u2,f2,w2,c2,a2,e2,hl2,aar,xz,_,_⟩:=d.ru (i:=i-1) N rc;refine rA ?_;rw[show((i:Int)-1)=((i-1:Nat):Int) by omega,e2];refine G.kN ?_;refine G.CJ (xz 5 _ N O) hl2 ?_;have I:=g (i-1) N;refine eD ?_;refine rr ?_;exact⟨⟨(rootOf rcs (i-1)+1).toNat,by show vi _=vi (((rootOf rcs (i-1)+1).toNat:Nat):Int);rw[Int.toNat_of_nonneg N],N⟩,G.ext⟩
end
section
variable{S:D Nat}{cs:Nat->Prop}
abbrev mkE(m:D<|aZ×C):D (C×C):=m.map λp=>(aJ p.1,p.2)
def wz(H:R)(r:Nat)(m:D<|aZ×C):Prop:=r<H.bV/\H.obj r=.map (mkE m)
def wz.ex(h:wz H r m)(M:pN S H Q)(d:r∉S):wz Q r m:=⟨aP h.1 M.bV,(M.obj r h.1 d).trans h.2⟩
def _root_.Go.Ae.SH.Gv(G:SH S H0 H L)(h:wz H r m):r∉L.map (·.1):=λg=>by
 obtain⟨e,d,rfl⟩:=bT.1 g;have⟨az,I,_⟩:=G.bk e d;rw[h.2]at I;cases I
def adI{a b:aZ}(h:tO a b=f):a=b:=by
 rw[Ar]at h;have h:=eq_of_beq h;rw[jc,jc]at h;exact vJ<|jJ.1 h
def Gx(a:aZ):tO a a=f:=by rw[Ar];exact beq_self_eq_true _
def PS(ht:∀a b,mU Pg t (aJ a) (aJ b)=Z (tO a b))(k:aZ):∀(m:D<|aZ×C)(i:Nat),∃ay:aC<|Nat×C,tQ Pg t (aJ k) (mkE m) i=Z ay/\(∀j v,ay=Z (j,v)->i<=j/\m[j-i]?=Z (k,v))/\(ay=T->∀p∈m,p.1≠k):=by
 intro m
 induction m with
 |nil=>exactλi=>⟨T,rfl,λj v h=>by(cases h),nofun⟩
 |cons p m d=>
  intro i;show∃ay,(aN (mU Pg t (aJ k)<|aJ p.1) λb=>b_ b (Z<|Z (i,p.2))<|tQ Pg t (aJ k) (mkE m)<|dh i)=Z ay/\_;rw[ht];cases hb:tO k p.1 with
  |true=>
   have:=adI hb;refine⟨Z (i,p.2),O,λj v h=>?_,λh=>by cases h⟩;cases h;exact⟨ax _,by rw[kJ,this];rfl⟩
  |false=>
   have⟨ay,I,B,h3⟩:=d<|dh i;refine⟨ay,I,λj v h=>?_,λh q hq=>?_⟩
   .have⟨g1,g2⟩:=B j v h;refine⟨N,?_⟩;rw[show j-i=(j-i.succ)+1 by omega];exact g2
   .rcases bW.1 hq with rfl|hq
    .intro e;rw[<-e,Gx]at hb;cases hb
    .exact h3 h q hq
def ME.look{z:C}{k:aZ}(y:wz H r m)(I:vk Pg t=Z (kt,vt))(B:zh Pg vt=Z z)(g:∀a b,mU Pg kt (aJ a) (aJ b)=Z (tO a b))(kk:∀ay:aC C,(∀v,ay=Z v->(k,v)∈m)->(ay=T->∀p∈m,p.1≠k)->K (okd ok (ay.getD z) ay.isSome H).1 H):ME (uM Pg t (gz<|Z r) (aJ k) ok H) K:=by
 have⟨ay,e,g1,g2⟩:=PS g k m 0
 have s:Bi Pg kt (aJ k)=Z ():=by
  show aN (mU Pg kt (aJ k)<|aJ k) _=_;rw[g,Gx];rfl
 have d:mapOf H (gz<|Z r)=Z (mkE m):=by
  show LH (H.obj r)=_;rw[y.2];rfl
 have:uM Pg t (gz<|Z r) (aJ k) ok H=Z (okd ok ((ay.map (·.2)).getD z) (ay.map (·.2)).isSome H):=by
  show(aN (vk Pg t) λq=>aN (zh Pg q.2) λz=>aN (mapOf H<|gz<|Z r) λes=>aN (Bi Pg q.1<|aJ k) λ_=>aN (tQ Pg q.1 (aJ k) es 0) λay=>_)=_;rw[I];show(aN (zh Pg vt) λz=>aN (mapOf H<|gz<|Z r) λes=>aN (Bi Pg kt<|aJ k) λ_=>aN (tQ Pg kt (aJ k) es 0) λay=>_)=_;rw[B,d,s];show aN (tQ Pg kt (aJ k) (mkE m) 0) _=_;rw[e];cases ay<;>rfl
 have j:=kk (ay.map (·.2)) (λv h=>?_) λh=>?_
 .rw[this];cases ok<;>exact ME.of O j
 .cases ay with
  |none=>cases h
  |some p=>cases h;exact aT (g1 p.1 p.2 O).2
 .cases ay with
  |none=>exact g2 O
  |some p=>cases h
def _root_.Go.Ae.SH.upd{k:aZ}(G:SH S H0 H L)(N:r∈S\/H0.bV<=r)(d:wz H r m)(I:vk Pg t=Z (kt,vt))(s:∀a b,mU Pg kt (aJ a) (aJ b)=Z (tO a b))(kk:∀Q m',wz Q r m'->(∀p∈m',p∈m\/p=(k,v))->SH S H0 Q L->K undef Q):ME (wV Pg t (gz<|Z r) (aJ k) v H) K:=by
 have⟨ay,e,g1,g2⟩:=PS s k m 0
 have B:Bi Pg kt (aJ k)=Z ():=by
  show aN (mU Pg kt (aJ k)<|aJ k) _=_;rw[s,Gx];rfl
 have j:∃m',(∀p∈m',p∈m\/p=(k,v))/\wV Pg t (gz<|Z r) (aJ k) v H=Z (undef,H.put r<|.map<|mkE m'):=by
  have:wV Pg t (gz<|Z r) (aJ k) v H=@aQ (Nat×C) (λ_=>aC<|C×R) (Z (undef,H.put r<|.map<|app (mkE m) [(aJ k,v)])) (λp=>Z (undef,H.put r<|.map<|setAt (aJ k,v) p.1<|mkE m)) ay:=by
   show(aN (vk Pg t) λq=>aN (LH<|H.obj r) λes=>aN (Bi Pg q.1<|aJ k) λ_=>aN (tQ Pg q.1 (aJ k) es 0) λay=>_)=_;rw[I];show(aN (LH<|H.obj r) λes=>aN (Bi Pg kt<|aJ k) λ_=>aN (tQ Pg kt (aJ k) es 0) λay=>_)=_;rw[d.2,B];show aN (tQ Pg kt (aJ k) (mkE m) 0) _=_;rw[e];rfl
  rw[this];cases ay with
  |none=>
   refine⟨m++[(k,v)],λp g=>?_,?_⟩
   .rcases cB.1 g with h|h
    .exact .inl h
    .exact .inr<|om h
   .show Z (undef,H.put r<|.map<|app (mkE m) [(aJ k,v)])=_;rw[uH];simp[mkE]
  |some q=>
   refine⟨m.set q.1 (k,v),λp g=>?_,?_⟩
   .rcases iT g with h|h
    .exact .inl h
    .exact .inr h
   .show Z (undef,H.put r<|.map<|setAt (aJ k,v) q.1<|mkE m)=_;rw[Cc];simp[mkE,gW]
 have⟨m',hm',e'⟩:=j;refine ME.of e'<|kk _ m' ⟨d.1,by rw[wM,jj O]⟩ hm' ?_;have M:=SH.Gv G d;refine⟨pN.later G.ext (pN.put H r _) (λq A=>by rw[aS]at A;subst A;exact N),λe y=>(G.bk e y).iB ?_,G.lo,G.ne,?_⟩
 .rw[wM,jx λh=>M (by rw[<-h];exact bT.2 ⟨e,y,O⟩)]
 .rw[wN];have:=G.wf;show min H.low r<=H.bV;omega
theorem ME.mkMap{q:aI×aI}{n:Int}(G:SH S H0 H L)(I:vk Pg t=Z q)(kk:∀Q r,wz Q r []->Ext H Q->H.bV<=r->SH S H0 Q L->K (gz<|Z r) Q):ME (vw Pg t (Z<|vi n) H) K:=by
 refine ME.of (v:=gz<|Z H.bV) (H:=H.new<|.map []) ?_<|kk _ _ ⟨dI _,by rw[xV,jj O];rfl⟩ (Ext.new _ _) (ax _)<|G.call<|Ext.new _ _;show aN (vk Pg t) _=_;rw[I];rfl
def ME.Kj{z:C}{k:aZ}(g:wz H r m)(I:vk Pg t=Z (kt,vt))(B:zh Pg vt=Z z)(d:∀a b,mU Pg kt (aJ a) (aJ b)=Z (tO a b))(kk:∀ay:aC C,(∀v,ay=Z v->(k,v)∈m)->(ay=T->∀p∈m,p.1≠k)->K (fJ ⟨[ay.getD z,aO ay.isSome]⟩) H):ME (uM Pg t (gz<|Z r) (aJ k) f H) K:=ME.look g I B d kk
def ME.aii{z:C}{k:aZ}(g:wz H r m)(I:vk Pg t=Z (kt,vt))(B:zh Pg vt=Z z)(d:∀a b,mU Pg kt (aJ a) (aJ b)=Z (tO a b))(kk:∀ay:aC C,(∀v,ay=Z v->(k,v)∈m)->(ay=T->∀p∈m,p.1≠k)->K (ay.getD z) H):ME (uM Pg t (gz<|Z r) (aJ k) aA H) K:=ME.look g I B d kk
def Dp:vk Pg 236=Z (9,3):=fQ
def T7:zh Pg 3=Z (vi 0):=fQ
def eqS(a b:aZ):mU Pg 9 (aJ a) (aJ b)=Z (tO a b):=fQ
def Q8(rn:Nat)(m:D<|aZ×C):Prop:=∀p∈m,∃i:Nat,i<rn/\p.2=W i
def Wp(hw:Wf H){rn:Nat}(hG:Gr b H ra rn rcs na nn jw):bM Pg X 177 [gV ra rn rc na nn nc] H λv Q=>∃r m,v=gz (Z r)/\wz Q r m/\Q8 rn m/\Ext H Q/\H.bV<=r:=by
 have G:=gM hw;have g2:=hG.2.1;refine lF [0,1,2,3,4,5,7,13,14,15] ?_;refine G.box O λH1 E G=>?_;refine fF ?_;have ac:=G.ext.bV;refine ME.mkMap G Dp λH2 r g M hr G=>?_;refine fF ?_;refine Ov 4 5 7 15 (h1:=λm x4 x5 x7 U Q=>∃(i:Nat)(mm:D<|aZ×C),U=W i/\i+m=rn/\wz Q r mm/\Q8 rn mm/\SH [] H Q [(E,171,[J ra rn rc,J na nn nc])]) ?_ rn ⟨0,[],rfl,N,g,nofun,G⟩;have y:H.bV<=r:=N;clear G g;rintro m x4 x5 x7 U oW H3 ⟨i,mm,rfl,ad,g,j,G⟩;refine tK (λhc=>?_) λhc=>?_
 .have⟨r1,o1,zN,u1,f1,w1,c1,a1,e1,hl1,Be,uR,hsz,_⟩:=hG.ru (i:=i) N rc;rw[e1];refine bN ?_;refine G.BN Be hl1<|G.og O O O λH4 ru G ab=>?_;have g:=g.ex ab<|nofun;have G:SH [] H H4 [(ru,234,yj zN u1 f1 w1 c1 (rootOf rcs i) a1),(E,171,[J ra rn rc,J na nn nc])]:=G;refine fF ?_;refine ME.Kj g Dp T7 eqS λay hf hn=>?_;refine G.kN ?_
  have next:∀x(s:R) d Bw,wz s r d->Q8 rn d->SH [] H s [(ru,234,yj zN u1 f1 w1 c1 (rootOf rcs i) a1),(E,171,[J ra rn rc,J na nn nc])]->∃P,P<m/\EF (gV ra rn rc na nn nc) (bG<|Z ⟨E,0,T⟩) (.map T) (gz<|Z r) (J ra rn rc) (W rn) (λm x4 x5 x7 U Q=>∃(i:Nat)(mm:D<|aZ×C),U=W i/\i+m=rn/\wz Q r mm/\Q8 rn mm/\SH [] H Q [(E,171,[J ra rn rc,J na nn nc])]) P (EC (gV ra rn rc na nn nc) (bG<|Z ⟨E,0,T⟩) (.map T) (gz<|Z r) (W i) (bG<|Z ⟨ru,0,T⟩) x (J ra rn rc) (W rn) (vi<|(i:Int)+1) Bw s):=by
   intro x s d Bw I B h3;exact⟨rn-(i+1),N,_,_,_,_,_,_,O,i+1,d,pq,N,I,B,fV (A:=[_]) h3⟩
  refine ig (λhb=>?_) λhb=>?_
  .refine G.qE<|G.upd (.inr y) g Dp eqS λs d V Y G=>?_;refine eD ?_;refine next _ _ _ _ V (λp hp=>?_) G
   rcases Y p hp with h|rfl
   .exact j p h
   .exact⟨i,N,O⟩
  .refine eD ?_;exact next _ _ _ _ g j G
 refine tl<|rr ?_;exact⟨r,mm,O,g,j,G.ext,y⟩
end
section
variable{S:D Nat}{cs:Nat->Prop}
theorem Wq(hw:Wf H){rn:Nat}(M:Gr b H ra rn rcs na nn jw)(hm:wz H r m)(y:Q8 rn m){w:Bool}{at' kd g:Int}{N c2:Nat}{t:aZ}:
 bM Pg X 179 [gV ra rn rc na nn nc,gz<|Z r,dN ⟨yj nm aa ay w ch root at'⟩,dN ⟨[vi kd,J a n c,aJ t,J a2 N c2,vi g]⟩] H (Q1 (λv _=>∃z:Int,v=vi z) H):=by
 have G:=gM hw;have g2:=M.2.1;refine lF [0,1,2,3,4,6,7,8,9,10,11,13] ?_;refine G.box O λI E G=>?_;refine G.box O λI rr G=>?_;refine G.box O λI B G=>?_;refine ym (λj=>?_) λj=>?_
 .refine QN (λd=>?_) λd=>?_
  .refine Lu.rr ?_;exact⟨⟨_,O⟩,G.ext⟩
  .refine Lu.rr ?_;exact⟨⟨_,O⟩,G.ext⟩
 refine nO (λj=>?_) λj=>?_
 .refine Lu.rr ?_;exact⟨⟨_,O⟩,G.ext⟩
 apply G.qE;have s:=hm.ex G.ext<|nofun;refine ME.Kj s Dp T7 eqS λV Y hn=>?_;refine G.kN ?_;refine ig (λd=>?_) λd=>?_
 .refine Lu.rr ?_;exact⟨⟨_,O⟩,G.ext⟩
 cases V with
 |none=>cases d
 |some v=>
  have⟨i,hi,A⟩:=y _<|Y v O;have A:v=W i:=A;subst A;have⟨r1,o1,zN,u1,f1,w1,c1,a1,e1,hl1,Be,uR,hsz,_⟩:=M.ru (i:=i) hi rc;simp only[p9];apply G.qE;rw[e1];refine G.kN ?_;refine G.BN Be hl1<|G.og O O O λP ru G ab=>?_;have G:SH [] H P [(ru,234,yj zN u1 f1 w1 c1 (rootOf rcs i) a1),(B,238,[vi kd,J a n c,aJ t,J a2 N c2,vi g]),(rr,234,yj nm aa ay w ch root at'),(E,171,[J ra rn rc,J na nn nc])]:=G
  repeat' (first|(refine Lu.rr ?_;exact⟨⟨_,O⟩,G.ext⟩)|(refine aV (λj=>?_) λj=>?_)|(refine ig (λd=>?_) λd=>?_)|first|(refine G.kN ?_)|(refine PU.b1 O ?_)|(refine PU.b2 O ?_)|(refine PU.b3 O ?_)|(refine PU.b4 O ?_)|(refine PU.b5 O ?_)|(refine PU.b6 O ?_)|(refine PU.b7 O ?_)|(refine PU.b8 O ?_)|(refine PU.b9 O ?_)|(refine G.qE ?_)|(refine G.jl ?_)|(refine G.VM ?_)|(refine G.Py ?_)|(refine G.j_ λU G=>?_)|(refine G.oq λU G=>?_)|(refine VO ?_))
end
section
variable{S:D Nat}{cs:Nat->Prop}
def T9(v:C):bM Pg X 208 [v,vi 0,vi 0] H λ_ Q=>Q=H:=by
 refine lF [0,1,2,6,7] ?_;refine eD ?_;refine lp2 6 7 (h1:=λm d g Q=>d=vi 1/\Q=H) ?_ 0 ⟨rfl,rfl⟩;rintro m d g E Q ⟨rfl,rfl⟩;refine tp ?_;rw[dQ N];refine bN ?_;refine rn ?_;exact O
def amh(v l:C):bM Pg X 190 [v,vi 0,vi 0,l] H λ_ Q=>Q=H:=by
 refine lF [0,1,2,3,8,9,10,11,12,13,14,15,16,17,18] ?_;refine alY 1 2 3 8 9 10 11 12 13 14 15 16 17 18 (h1:=λk d g x3 U V s A I y P B M j W Q=>d=vi 0/\g=vi 0/\Q=H) ?_ 0 ⟨rfl,rfl,rfl⟩;rintro k d g x3 U V s A I y P B M j W E Q ⟨rfl,rfl,rfl⟩;refine tl ?_;refine rA ?_;refine bN ?_;rw[bY N];refine bN ?_;refine dn (T9 _) ?_;rintro _ _ rfl;refine rr ?_;exact O
def YH(ho:X.o 160 [J a 0 c] H=T):bM Pg X 160 [J a 0 c] H λv Q=>Q=H:=by
 refine ce [0,2] (ho:=ho) ?_;refine tp ?_;rw[Eo (u64_in N)];refine dn (Nj _ N N) ?_;rintro v Q ⟨⟨l,rfl,I,_⟩,rfl⟩;refine dn (amh _ _) ?_;rintro v d rfl;refine rn ?_;exact O
def adJ:bM Pg X 160 [J T 0 0] H λv Q=>Q=H:=YH fQ
def Nr(j:n<=1000000)(d:Nm H' r ty n H0 H L):bM Pg X 160 [sl r n c] H λv Q=>Nm H' r ty n H0 Q L:=by
 obtain _|m:=n
 .refine dn (YH fQ) ?_;rintro v g rfl;exact d
 have⟨g,e,d⟩:=SB.put alZ (rest:=[]) (c:=c) (λl ⟨z,h,_⟩=>⟨z,h⟩) N d;exact bM.orc (v:=fJ ⟨[]⟩) (Q:=g) e d
def _root_.Go.Ae.SB.i1N(h:SB (MN H') r ty 1 n H0 H L)(d:o<n)(k:∀x,H' x->K (vi x) H):ME (yh T (bG<|Z ⟨r,o,T⟩) H) K:=by
 have:=SB.i1 h (z:=(o:Int)) N N k
 rwa [show((o:Int).toNat*1)=o by omega]at this
def _root_.Go.Ae.SB.ajx(h:SB (MN H') r ty 1 n H0 H L)(d:o<n)(k:∀x,H' x->K (vi x) (hN H)):ME (yh T (bG<|Z ⟨r,o,T⟩)<|hN H) K:=SB.i1N h.Bt d k
def _root_.Go.Ae.SB.iwN(h:SB (MN H') r ty 1 n H0 H L)(d:o<n){x:Int}(M:H' x)(k:∀H1,SB (MN H') r ty 1 n H0 H1 L->K undef H1):ME (GU 1 (bG<|Z ⟨r,o,T⟩) (vi x) H) K:=by
 have:=SB.iw h (z:=(o:Int)) N N M k
 rwa [show((o:Int).toNat*1)=o by omega]at this
def sU(h:k<n):BS 1 (J (Z ⟨r,o,T⟩) n c) (W k)=Z (bG<|Z ⟨r,o+k,T⟩):=by rw[uK h,dY]
def Ws(h:w<=n):Tc 1 (J (Z ⟨r,o,T⟩) n<|gK 1) (Z<|W w) T T=Z (J (Z ⟨r,o+w,T⟩) (n-w)<|gK 1):=by rw[Tv h,dY]
def _root_.Go.Ae.SB.clr(h:SB (MN H') r ty 1 n H0 H L)(M:w<=n)(k:∀H1,SB (MN H') r ty 1 w H0 H1 L->K (fJ ⟨[]⟩) H1):ME (clA [a_ bC 0] (J (Z ⟨r,w,T⟩) (n-w)<|gK 1) H) K:=by
 have⟨F,I,B,G⟩:=h;have A:u (qd [a_ bC 0]<|n-w)=n-w:=by rw[Sq];simp
 have⟨H1,e,hS1,_⟩:=G.zV 0 (r:=r) (o:=w) (vs:=qd [a_ bC 0]<|n-w) O N (by
  rw[nC]
  induction n-w with
  |zero=>rfl
  |succ d s=>exact s)
 have:clA [a_ bC 0] (J (Z ⟨r,w,T⟩) (n-w)<|gK 1) H=Z (fJ ⟨[]⟩,H1):=by
  show(aN (H.write r w<|qd [a_ bC 0]<|n-w) λQ=>Z (fJ #[],Q))=_;rw[e];rfl
 refine ME.of this<|k H1 ⟨splice F w<|qd [a_ bC 0]<|n-w,?_,λj y=>?_,hS1⟩
 .rw[o_ N];omega
 .have g:El (splice F w<|qd [a_ bC 0]<|n-w) 1 j=El F 1 j:=by
   apply iQ;intro i;rw[oN,oN,sN N]
   by_cases hi:i<1
   .rw[jj hi,jj hi,jx N]
   .rw[jx hi,jx hi]
  rw[g];exact B j N
theorem Ir(hn:n<=1000000)(d:Nm H' r ty n H0 H L):bM Pg X 162 [sl r n (gK 1)] H λv Q=>∃n',n'<=n/\v=sl r n' (gK 1)/\Nm H' r ty n' H0 Q L:=by
 refine ce [0,2,3,4,5] ?_;refine tK (λhc=>?_) λhc=>?_
 .refine rr ?_;exact⟨n,ax _,O,d⟩
 refine Ov 2 3 4 5 (h1:=λm x2 x3 x4 A Q=>∃k:Nat,x3=W k/\1<=k/\k+m=n/\Nm H' r ty n H0 Q L) ?_ (n-1) ⟨1,rfl,N,N,d⟩;clear d;rintro m x2 x3 x4 A E H1 ⟨k,rfl,ab,ac,d⟩;refine mG (λP=>?_) λP=>?_
 .refine tl<|rr ?_;exact⟨n,ax _,O,d⟩
 refine dA (sU N)<|d.ajx N λx M=>?_
 repeat(first|(refine d.kN ?_)|(with_reducible refine rA ?_)|(with_reducible refine PE ?_)|(with_reducible refine d.i1Q N N λz hz=>?_)|(refine anW ?_))
 refine nO (λU=>?_) λU=>?_
 .refine eD ?_;exact⟨n-(k+1),N,_,_,_,_,_,_,O,k+1,pq,N,N,d⟩
 refine dA (Ws N)<|lp2 3 5 (h1:=λs x3 A Q=>∃j g:Nat,x3=W j/\A=W g/\1<=g/\j<=k+g/\k+g<=n/\j+1<=k+g/\k+g+s=n/\Nm H' r ty n H0 Q L) ?_ (n-k-1) ⟨k,1,rfl,rfl,N,N,N,N,N,d⟩;clear d;rintro s x3 A E H2 ⟨j,g,rfl,rfl,I,B,h3,h4,h5,d⟩;refine mG (λV=>?_) λV=>?_
 .refine tl ?_;refine dA (Ws N) ?_;rw[bB];refine d.clr N λH3 d=>dA (De N) ?_;refine bN ?_;refine rr ?_;exact⟨j,N,O,d⟩
 refine dA (sU N)<|d.ajx N λx M=>?_;refine rA ?_;rw[show((g:Int)-1)=((g-1:Nat):Int) by omega];refine dA (sU N) ?_;simp only[iU d.wf];refine d.ajx N λy hy=>?_;refine bN ?_;refine iY (by simp only[eZ];rfl) ?_;simp only[iU d.wf];refine eU (λY=>?_) λY=>?_
 .refine dA (sU N)<|d.i1N N λx M=>dA (sU N) ?_;rw[bB];refine d.iwN N M λH3 d=>?_;refine eD ?_;refine eD ?_;exact⟨s-1,N,_,_,_,_,O,j+1,g+1,by rw[show((j:Int)+1)=((j+1:Nat):Int) by omega],pq,N,N,N,N,N,d⟩
 .refine eD ?_;exact⟨s-1,N,_,_,_,_,O,j,g+1,O,pq,N,N,N,N,N,d⟩
def T_:bM Pg X 162 [J T 0 0] H λv Q=>v=J T 0 0/\Q=H:=by
 refine GV [0,2,3,4,5] ?_;rw[bY N];refine bN ?_;refine rr ?_;exact⟨O,O⟩
end
section
variable{S:D Nat}{cs:Nat->Prop}
def aij(K:Nat)(H':Int->Prop)(H:R)(v:C):Prop:=∃a n c F,v=J a n c/\Fl H a n 1 F/\n<=K/\∀x∈F,∃z:Int,x=vi z/\H' z
def Kk(b K:Nat)(H':Int->Prop)(H:R)(v:C):Prop:=∃a n c F,v=J a n c/\jC (b<=·) 3 H a n 1 F/\n<=K/\∀x∈F,∃z:Int,x=vi z/\H' z
def Kk.nil(b K:Nat)(H':Int->Prop)(H:R):Kk b K H' H (J T 0 0):=⟨T,0,0,[],O,jC.nil _ _ _ _ _,bD _,nofun⟩
def Kl(U:Wf H){K:Nat}(Y:K<=1000000)(P:aij K H' H v):bM Pg X 229 [v] H (Q1 (λv Q=>Kk H.bV K H' Q v) H):=by
 obtain⟨a,n,c,F,rfl,B,M,I⟩:=P;have G:=gM U;refine lF [0,2] ?_;rw[Ep fQ];refine sD (λA=>?_) λA=>?_
 .refine rr ?_;exact⟨Kk.nil _ _ _ _,Ext.refl _⟩
 .refine ME.of (ajg N) ?_;have G:=G.grow 3 [];have j:=G.ext.bV;refine G.VN N (.inr ⟨_,O⟩) (B.ex G.ext) N λs y V W g d=>rr ?_;exact⟨⟨s,n,y,F,O,g.le j,M,I⟩,d.ext⟩
def Nm.nums{K:Nat}(s:Nm H' r ty n H0 H L)(A:n<=K)(c:Nat):aij K H' H (sl r n c):=by
 have⟨F,I,B,G⟩:=s;have P:=(G.lo _<|aK ..).2;refine⟨_,n,c,F.take n,O,⟨by rw[dS];omega,λi x d=>⟨r,0,rfl,P,?_⟩⟩,A,λx M=>?_⟩
 .have j:i<n:=by
   have:=(bK.1 d).1;rw[dS]at this;omega
  rw[iq,jj j]at d;have:=(G.get 0 O).cell d
  rwa [bB]
 .obtain⟨i,d,rfl⟩:=iM M;have y:=d;rw[dS,jF N]at d;have⟨z,e,hq⟩:=B i N;have g:=oN F 1 i 0;rw[jj (dI 0),e,dY,dZ,av (show i<u F by omega)]at g;refine⟨z,?_,hq⟩;rw[nT];exact(eO g).symm
def aas{x:C}{K:Nat}(s:K<=1000000)(y:GB 3 1 x ks gb)(G:SH [] H0 H<|gb++L)(hl:u ks<=K)(hk:∀x∈ks,∃z:Int,x=vi z/\H' z){Kp:C->C->R->Prop}(kk:∀j v Q,Kk H0.bV K H' Q v->Ext H0 Q->Kp j v Q):bM Pg X 160 [x] H λU H1=>bM Pg X 162 [x] H1 λj H2=>bM Pg X 229 [j] H2 (Kp j):=by
 rcases y with⟨rfl,rfl,rfl⟩|⟨r,n,fE,rfl,W,rfl⟩
 .refine dn adJ ?_;rintro _ _ rfl;refine dn T_ ?_;rintro _ _ ⟨rfl,rfl⟩;refine dn (Kl (H':=H') (K:=K) G.wf s ⟨T,0,0,[],O,Fl.nil _ _ _,bD _,nofun⟩) ?_;rintro v H1 ⟨⟨a,n,c,F,rfl,I,B⟩,M⟩;exact kk _ _ _ ⟨a,n,c,F,O,I.le G.ext.bV,B⟩ (G.call M).ext
 .have d:Nm H' r 3 n H0 H L:=by
   refine⟨ks++fE,by rw[aU];omega,λk A=>?_,G⟩;have g:k<u ks:=N;have⟨z,e,hq⟩:=hk _<|bH g;refine⟨z,?_,hq⟩;rw[<-e];unfold El;rw[dY,eH (by rw[aU];omega),jy g];rfl
  refine dn (Nr N d) ?_;intro U H1 d;refine dn (Ir N d) ?_;rintro j H2 ⟨Y,P,rfl,d⟩;refine dn (Kl d.wf s<|Nm.nums d N _) ?_;rintro v V ⟨⟨a,n,c,F,rfl,I,B⟩,M⟩;exact kk _ _ _ ⟨a,n,c,F,O,I.le d.ext.bV,B⟩ (d.call M).ext
abbrev Ua(n:Nat)(z:Int):Prop:=0<=z/\z<n
def aat(hw:Wf H){rn:Nat}(s:Gr b H ra rn rcs na nn jw)(hm:wz H r m)(ao:Q8 rn m)(hi:i<rn)(hB:∀j,j<rn->0<=rootOf rcs j/\rootOf rcs j<nn):
 bM Pg X 207 [gV ra rn rc na nn nc,gz<|Z r,W i] H (Q1 (λv Q=>Kk H.bV 4001 (Ua rn) Q v) H):=by
 have G:=gM hw;have g2:=s.2.1;have g5:=s.2.2.2.2.1;refine lF [0,1,2,3,6,7,8,9,10,11] ?_;refine G.box O λH1 E G=>?_;apply G.jl;have ap:=G.ext;refine G.cm (PR G.wf (s.ex ap) hi hB) ?_;rintro v H2 ⟨k0,rfl,aq⟩ M G;refine YA 7 8 9 10 11 (h1:=λm' g x8 x9 V Y Q=>∃(k:Nat)(ks:D C)(gb:D eF),x8=W k/\k+m'=4001/\u ks<=k/\GB 3 1 g ks gb/\(∀x∈ks,∃z:Int,x=vi z/\Ua rn z)/\SH [] H Q (gb++[(E,171,[J ra rn rc,J na nn nc])])) ?_ (4001-k0) ⟨k0,[],[],rfl,N,bD _,GB.nil _ _,nofun,G⟩;clear G;rintro m' g x8 x9 V Y oW H3 ⟨k,ks,gb,rfl,aw,ar,hg,d,G⟩;refine tl ?_;have G:=G.perm aG;simp only[bQ,bX]at G;refine fF ?_;have⟨r1,o1,zN,u1,f1,w1,c1,a1,e1,hl1,Be,uR,hsz,_⟩:=s.ru (i:=i) hi rc;rw[e1];refine G.kN ?_;refine G.CJ (uR 5 _ N O) hl1 ?_;have hb:=hB i hi;refine MQ (λhc=>?_) λhc=>?_
 .refine tl<|aas (K:=4001) N hg (G.perm<|aG (l₁:=[_])) N d λv2 v H4 P U=>rr ?_;exact⟨P,U⟩
 have y:k<nn:=N;apply G.qE;have⟨kd,ka,kn,kc,ks',t,rs,at',he,hk1,hk2,hk3,hk4,hk5⟩:=s.2.2.2.2.2 k y;obtain⟨xa,xn,xc,aE,rfl,Q4⟩:=id hk5;have⟨r2,o2,e2,hl2,aar,xz⟩:=s.no y nc he;rw[e2];refine G.kN ?_;refine G.BN aar hl2<|G.og O O O λH4 ac G U=>?_;have G:SH [] H H4 ((ac,238,[vi kd,J ka kn kc,aJ t,J xa xn xc,vi at'])::(E,171,[J ra rn rc,J na nn nc])::gb):=G;refine fF ?_
 have zO:∀g x9 V Y ks gb Bw H5,u ks<=k+1->GB 3 1 g ks gb->(∀x∈ks,∃z:Int,x=vi z/\Ua rn z)->SH [] H H5 ((ac,238,[vi kd,J ka kn kc,aJ t,J xa xn xc,vi at'])::(E,171,[J ra rn rc,J na nn nc])::gb)->∃ab,ab<m'/\Fz (gV ra rn rc na nn nc) (gz<|Z r) (W i) (bG<|Z ⟨E,0,T⟩) (J T 0 0) (λm' g x8 x9 V Y Q=>∃(k:Nat)(ks:D C)(gb:D eF),x8=W k/\k+m'=4001/\u ks<=k/\GB 3 1 g ks gb/\(∀x∈ks,∃z:Int,x=vi z/\Ua rn z)/\SH [] H Q (gb++[(E,171,[J ra rn rc,J na nn nc])])) ab (FU (gV ra rn rc na nn nc) (gz<|Z r) (W i) (bG<|Z ⟨E,0,T⟩) (J T 0 0) g (vi<|(k:Int)+1) x9 V Y Bw H5):=by
  intro g x9 V Y ks gb Bw H5 I B h3 h4;exact⟨4001-(k+1),N,_,_,_,_,_,_,_,O,k+1,ks,gb,pq,N,I,B,h3,(fV (A:=[_]) h4).perm<|aG (l₁:=[_])⟩
 refine nO (λal=>?_) λal=>?_
 .refine eD ?_;exact zO _ _ _ _ ks gb _ _ N hg d G
 apply G.qE;have an:=hm.ex G.ext<|nofun;refine ME.Kj an Dp T7 eqS λf' hf hn=>?_;refine G.kN ?_;refine ig (λhb=>?_) λhb=>?_;rotate_left
 .refine eD ?_;exact zO _ _ _ _ ks gb _ _ N hg d G
 cases f' with
 |none=>cases hb
 |some v=>
  obtain⟨z,hz,P⟩:=ao _<|hf v O;have P:v=W z:=P;subst P;simp only[p9];have hO:=G.perm<|aG (l₁:=[_,_]);have hO:=hO.own;refine hO.bS O O O N λH5 rx ad=>?_;obtain⟨v',H6,iX,e1,am,xJ,_⟩:=hg.app (m:=0) (cx:=1) (L:=[]) (by rw[bF];exact ad) N O O N N;refine ME.of e1 ?_;rw[bF]at xJ;refine eD ?_;refine zO _ _ _ _ _ iX _ _ ?_ am (λx M=>?_) ?_
  .rw[aU];show u ks+1<=_;omega
  .rcases cB.1 M with h|h
   .exact d x h
   .have h:x∈[W z]:=h;exact⟨z,aS.1 h,N,N⟩
  .exact((G.perm<|aG (l₁:=[_,_])).frame xJ).perm<|aG (l₂:=[_,_])
end
section
variable{S:D Nat}{cs:Nat->Prop}
def OG(ty:aI)(es:Nat)(P:D C->Prop):D C->D eF->Prop
 |[],az=>az=[]
 |v::vs,az=>∃ks gb R',az=gb++R'/\GB ty es v ks gb/\P ks/\OG ty es P vs R'
def OG.aaa{P:D C->Prop}(d:P []):∀n,OG ty es P (aY n<|J T 0 0) []
 |0=>rfl
 |n+1=>⟨[],[],[],rfl,GB.nil _ _,d,OG.aaa d n⟩
def OG.mono{ty:aI}{es:Nat}{P d:D C->Prop}(g:∀ks,P ks->d ks):∀{vs:D C}{az:D eF},OG ty es P vs az->OG ty es d vs az
 |[],az,h=>h
 |v::vs,az,⟨ks,gb,R',I,B,h3,h4⟩=>⟨ks,gb,R',I,B,g _ h3,OG.mono g h4⟩
def OG.at{P:D C->Prop}:∀{vs:D C}{az:D eF}(i:Nat),OG ty es P vs az->(h:i<u vs)->∃A gb h2 ks,az=A++(gb++h2)/\GB ty es vs[i] ks gb/\P ks/\
 ∀g:D C->Prop,(∀ks,P ks->g ks)->∀v' d iX,GB ty es v' d iX->g d->OG ty es g (vs.set i v') (A++(iX++h2))
 |v::vs,az,0,h,_=>by
  obtain⟨ks,gb,R',rfl,I,B,M⟩:=h;exact⟨[],gb,R',ks,O,I,B,λg j v' d iX s y=>⟨d,iX,R',rfl,s,y,M.mono j⟩⟩
 |v::vs,az,i+1,h,hi=>by
  obtain⟨ks,gb,R',rfl,I,B,M⟩:=h;obtain⟨A,U,h2,N,rfl,s,y,V⟩:=OG.at i M (om hi);refine⟨gb++A,U,h2,N,by rw[cK],s,y,λg j v' d iX W X=>?_⟩;exact⟨ks,gb,A++(iX++h2),by rw[cK],I,j _ B,V g j v' d iX W X⟩
 |[],az,i,h,hi=>absurd hi gB
def Gy(hi:i<u F):splice F i [v]=F.set i v:=by
 apply iQ;intro j;rw[sN (by show i+1<=_;omega),dX]
 by_cases h:i<=j/\j<i+[v].length
 .have:i=j:=by have:=h.2;simp at this;omega
  subst this;rw[jj h,jj O,jj hi,kJ];rfl
 .rw[jx h,jx λe=>h (by subst e;simp)]
def OG.all{P:D C->Prop}:∀{vs:D C}{az L:D eF},OG ty es P vs az->SH S H0 H (az++L)->∀x∈vs,∃a n c ks,x=J a n c/\u ks=n*es/\P ks/\jC (λr=>r∈az.map (·.1)) ty H a n es ks
 |[],az,L,h,G=>nofun
 |v::vs,az,L,⟨ks,gb,R',I,B,h3,h4⟩,G=>by
  subst I;intro x M;rcases bW.1 M with rfl|M
  .rw[cK]at G;have⟨a,n,c,e,hl,hf⟩:=B.KE (cs:=λr=>r∈(gb++R').map (·.1)) G λe d=>bT.2 ⟨e,dM _ d,rfl⟩;exact⟨a,n,c,ks,e,hl,h3,hf⟩
  .rw[cK]at G;have⟨a,n,c,ks',e,hl,hp,hf⟩:=OG.all h4 (fV G) x M;refine⟨a,n,c,ks',e,hl,hp,hf.wk λr g=>?_⟩;obtain⟨e,d,rfl⟩:=bT.1 g;exact bT.2 ⟨e,dL _ d,O⟩
def NsP(K:Nat)(H':Int->Prop)(ks:D C):Prop:=u ks<=K/\∀x∈ks,∃z:Int,x=vi z/\H' z
def Li(b K:Nat)(H':Int->Prop)(n:Nat)(H:R)(v:C):Prop:=∃a c d,v=J a n c/\jC (b<=·) 22 H a n 1 d/\∀x∈d,Kk b K H' H x
def Ub(hw:Wf H){rn:Nat}(hG:Gr b H ra rn rcs na nn jw)(hm:wz H r m)(a7:Q8 rn m)(hB:∀j,j<rn->0<=rootOf rcs j/\rootOf rcs j<nn):
 bM Pg X 180 [gV ra rn rc na nn nc,gz<|Z r] H (Q1 (λv Q=>Li H.bV 500000 (Ua rn) rn Q v) H):=by
 have G:=gM hw;have g2:=hG.2.1;refine lF [0,1,2,4,5,6,7,9,15,16,17,28,29,30] ?_;refine G.box O λH1 E G=>?_;refine fF ?_;refine G.mkS (ax _) N λH2 y G=>?_;rw[nC]at G;refine fF ?_;refine lp7 6 7 9 17 28 29 30 (h1:=λm' x6 x7 x9 BV P U s Q=>∃(i:Nat)(g:D C)(az:D eF),BV=W i/\i+m'=rn/\u g=rn/\OG 3 1 (NsP (4001*i)<|Ua rn) g az/\SH [] H Q ((y,22,g)::(E,171,[J ra rn rc,J na nn nc])::az)) ?_ rn ⟨0,_,[],rfl,N,gB,OG.aaa ⟨bD _,nofun⟩ rn,G⟩;clear G;rintro m' x6 x7 x9 BV P U s oW H3 ⟨i,g,az,rfl,a9,ao,hR,G⟩;refine mG (λhc=>?_) λhc=>?_
 .refine tl ?_;obtain rfl:i=rn:=N;have hb:∀e:eF,e∈(y,22,g)::(E,171,[J ra i rc,J na nn nc])::az->H.bV<=e.1:=λe he=>G.yu he;refine rr ?_;refine⟨⟨_,_,g,O,?_,λx M=>?_⟩,G.ext⟩
  .exact jC.one G (aK ..) N<|hb _<|aK ..
  .obtain⟨a,n,c,ks,e,hl,hp,hf⟩:=OG.all (L:=[]) hR (by rw[bF];exact fV (A:=[_,_]) G) x M;refine⟨a,n,c,ks,e,hf.wk λr hr=>?_,by have:=hp.1;omega,hp.2⟩;obtain⟨e,he,rfl⟩:=bT.1 hr;exact hb e<|bJ _<|bJ _ he
 have⟨r1,o1,zN,u1,f1,w1,c1,a1,e1,hl1,Be,uR,hsz,_⟩:=hG.ru (i:=i) N rc;rw[e1];refine bN ?_;refine G.BN Be hl1<|G.og O O O λH4 ru G bc=>?_;have G:SH [] H H4 ((ru,234,yj zN u1 f1 w1 c1 (rootOf rcs i) a1)::(y,22,g)::(E,171,[J ra rn rc,J na nn nc])::az):=G;refine fF ?_
 have zO:∀x9 P U s g az Bw V,u g=rn->OG 3 1 (NsP (4001*(i+1))<|Ua rn) g az->SH [] H V ((y,22,g)::(E,171,[J ra rn rc,J na nn nc])::az)->∃ar,ar<m'/\DR (gV ra rn rc na nn nc) (gz<|Z r) (bG<|Z ⟨E,0,T⟩) (J T 0 0) (J (Z ⟨y,0,T⟩) rn rn) (J ra rn rc) (W rn) (λm' x6 x7 x9 BV P U s Q=>∃(i:Nat)(g:D C)(az:D eF),BV=W i/\i+m'=rn/\u g=rn/\OG 3 1 (NsP (4001*i)<|Ua rn) g az/\SH [] H Q ((y,22,g)::(E,171,[J ra rn rc,J na nn nc])::az)) ar (Dx (gV ra rn rc na nn nc) (gz<|Z r) (bG<|Z ⟨E,0,T⟩) (J T 0 0) (J (Z ⟨y,0,T⟩) rn rn) (W i) (bG<|Z ⟨ru,0,T⟩) x9 (J ra rn rc) (W rn) (vi<|(i:Int)+1) P U s Bw V):=by
  intro x9 P U s g az Bw V I B h3;exact⟨rn-(i+1),N,_,_,_,_,_,_,_,_,_,O,i+1,g,az,pq,N,I,B,h3⟩
 refine ig (λhb=>?_) λhb=>?_
 .refine eD ?_;exact zO _ _ _ _ g az _ _ ao (hR.mono λks h=>⟨by have:=h.1;omega,h.2⟩)<|fV (A:=[_]) G
 apply G.jl;have ap:=G.ext;refine dn (aat G.wf (hG.ex ap) (hm.ex ap<|nofun) a7 N hB) ?_;rintro v V ⟨⟨ua,un,uc,bd,rfl,hu,bb,aE⟩,M⟩;have a6:=G.lt;have G:=fV (A:=[_])<|G.call M;refine bN ?_;have ab:=G;have G:=ab.base;have a0:∀q∈((y,22,g)::(E,171,[J ra rn rc,J na nn nc])::az).map (λe:eF=>e.1),¬H4.bV<=q\/¬zW V q 3:=λq hq=>.inl (by have:=a6 q<|bJ _ hq;omega);refine lp2 9 30 (h1:=λaq x9 s Q=>∃(k:Nat)(d:D C)(R':D eF),s=W k/\k+aq=un/\u d=rn/\OG 3 1 (NsP (4001*i+k)<|Ua rn) d R'/\SH (((y,22,g)::(E,171,[J ra rn rc,J na nn nc])::az).map λe:eF=>e.1) V Q ((y,22,d)::(E,171,[J ra rn rc,J na nn nc])::R')) ?_ un ⟨0,g,az,rfl,N,ao,hR.mono λks h=>⟨by have:=h.1;omega,h.2⟩,G⟩;clear G;rintro aq y9 be OH H6 ⟨k,d,R',rfl,ba,Ol,Y,G⟩;refine mG (λa4=>?_) λa4=>?_
 .refine tp ?_;refine eD ?_;exact zO _ _ _ _ d R' _ _ Ol (Y.mono λks h=>⟨by have:=h.1;omega,h.2⟩)<|ab.over G
 have a5:k<un:=N;have a8:=hu.stay G.ext a0;have⟨r',o',hl,e',hr',Np⟩:=a8.1.Q7 a5 uc;rw[e'];refine bN ?_;have⟨z,hz,hz0,hz1⟩:=aE _<|bH hl;obtain⟨z,rfl⟩:∃j:Nat,z=j:=⟨z.toNat,N⟩;rw[hz]at Np;refine iV Np<|G.qE ?_;have⟨r2,o2,nm2,u2,f2,w2,c2,a2,e2,hl2,aar,xz,_,_⟩:=(hG.ex (ab.over G).ext).ru (i:=z) N rc;rw[e2];refine bN ?_;refine iV (xz 1 _ N O) ?_;refine sD (λa3=>?_) λa3=>?_;rotate_left
 .refine eD ?_;exact⟨un-(k+1),N,_,_,_,_,O,k+1,d,R',pq,N,Ol,Y.mono λks h=>⟨by have:=h.1;omega,h.2⟩,G⟩
 have ad:i<u d:=N;refine dA (sU N) ?_;rw[bB];refine G.ld 0 O (av ad) ?_;obtain⟨A,gb,h2,ks,rfl,hg,al,am⟩:=Y.at i ad;refine G.bS O O O N λH7 rx Jv=>?_;have Jv:=Jv.perm<|fA _<|DC ((y,22,d)::(E,171,[J ra rn rc,J na nn nc])::A) gb h2;have⟨v',H8,iX,e8,an,ac,_⟩:=hg.app (m:=0) (cx:=1) Jv N O O N (by have:=al.1;omega);refine ME.of e8<|dA (sU N) ?_;rw[bB];have ac:SH _ V H8 ((y,22,d)::(E,171,[J ra rn rc,J na nn nc])::(A++(iX++h2))):=ac.perm<|DC iX ((y,22,d)::(E,171,[J ra rn rc,J na nn nc])::A) h2;obtain⟨va,aw,vc,rfl⟩:∃a n c,v'=J a n c:=by rcases an with⟨rfl,_⟩|⟨r,n,fE,rfl,_⟩<;>exact⟨_,_,_,O⟩
 refine ac.st 0 O O (by show i+1<=_;omega) rfl λH9 YI=>?_;refine eD ?_;refine⟨un-(k+1),N,_,_,_,_,O,k+1,d.set i<|J va aw vc,A++(iX++h2),pq,N,by rw[bU];exact Ol,?_,?_⟩
 .refine am _ (λks h=>⟨by have:=h.1;omega,h.2⟩) _ _ _ an ⟨?_,λx M=>?_⟩
  .rw[aU];have:=al.1;show u ks+1<=_;omega
  .rcases cB.1 M with h|h
   .exact al.2 x h
   .have h:x∈[W z]:=h;exact⟨z,aS.1 h,N,N⟩
 .have YI:SH _ V H9 ((y,22,splice d i [J va aw vc])::(E,171,[J ra rn rc,J na nn nc])::(A++(iX++h2))):=YI
  rwa [Gy ad]at YI
end
section
variable{S:D Nat}{cs:Nat->Prop}
def gL(l:D Nat):Nat->Nat
 |0=>0
 |i+1=>l.getD i 0
def ajy{l:D Nat}(s:l.Pairwise (·≠·)):∀i j,1<=i->i<=u l->1<=j->j<=u l->gL l i=gL l j->i=j:=by
 have d:∀i j,i<u l->j<u l->i<j->l.getD i 0≠l.getD j 0:=λi j I B g=>by
  rw[aW,aW,av I,av B];exact lI.1 s i j I B g
 intro i j I B g y e;obtain⟨i,rfl⟩:∃k,i=k+1:=⟨i-1,N⟩;obtain⟨j,rfl⟩:∃k,j=k+1:=⟨j-1,N⟩;have e:l.getD i 0=l.getD j 0:=e;rcases kW i j with h|h|h
 .exact absurd e<|d i j N N h
 .rw[h]
 .exact absurd e.symm<|d j i N N h
theorem ajz{ops:Array Oper}{ag:Nat->Nat->Nat->Nat->Nat->Nat->Nat->D Cl}{a d e ay g:Nat}{K:Prop}(s:[a,b,c,d,e,ay,g].Pairwise (·≠·))(j:∀a b c d e ay g,ag a b c d e ay g=(ag 1 2 3 4 5 6 7).map (xq<|gL [a,b,c,d,e,ay,g]))(hk:all' (Er 7) (ag 1 2 3 4 5 6 7)=f)(h:kY ops ((ag 1 2 3 4 5 6 7).map kill)=f)(k:K):kY ops (ag a b c d e ay g)=f/\K:=by
 refine⟨?_,k⟩;rw[j];exact Es (m:=7) (ajy s) hk h
structure CY where
 (ct m l o dm dl dO s ds st fr:Nat)
def FC:D (Nat×Nat)->D C
 |[]=>[]
 |p::l=>W p.1::W p.2::FC l
def Q9(a b:D<|Nat×Nat):FC (a++b)=FC a++FC b:=by
 induction a with
 |nil=>rfl
 |cons p l d=>show W p.1::W p.2::FC (l++b)=_;rw[d];rfl
def Dq(a:D<|Nat×Nat):u (FC a)=u a*2:=by
 induction a with
 |nil=>rfl
 |cons p l d=>show u (FC l)+2=_;rw[d,cO];omega
structure CYS where
 (cnt:Nat)(ms lo:D Int)(op sf:D Bool)(ss:D Nat)(fs:D<|Nat×Nat)
def Cy(q:CY)(n:Nat)(x:CYS)(hx:D eF):Prop:=∃d y GX g,
 hx=(q.ct,3,[W x.cnt])::(q.m,22,[J (Z ⟨q.dm,0,T⟩) n n])::(q.l,22,[J (Z ⟨q.dl,0,T⟩) n n])::(q.o,34,[J (Z ⟨q.dO,0,T⟩) n n])::(q.dm,3,x.ms.map vi)::(q.dl,3,x.lo.map vi)::(q.dO,4,x.op.map aO)::(q.s,34,[J (Z ⟨q.ds,0,T⟩) n n])::(q.ds,4,x.sf.map aO)::(q.st,22,[d])::(q.fr,290,[y])::(GX++g)/\
 u x.ms=n/\u x.lo=n/\u x.op=n/\u x.sf=n/\GB 3 1 d (x.ss.map λj=>W j) GX/\GB 292 2 y (FC x.fs) g
structure FD(n:Nat)(x:CYS):Prop where
 cnt:x.cnt+x.ms.count 0=n
 fs:∀p∈x.fs,p.1<n/\p.2<=1000000
 ss:∀j∈x.ss,j<n
 sub:(x.fs.map (·.1)).Sublist x.ss
 sl:u x.ss<=x.cnt
 fl:u x.fs<=x.cnt
abbrev zH(q:CY):C:=.func (.func 187) ⟨[]⟩ ⟨[pr q.ct,pr q.m,pr q.l,pr q.o,pr q.st,pr q.fr]⟩
def CYS.begin(x:CYS)(k:Nat):CYS:={x with cnt:=x.cnt+1,ms:=x.ms.set k ((x.cnt+1:Nat):Int),lo:=x.lo.set k ((x.cnt+1:Nat):Int),op:=x.op.set k f,ss:=x.ss++[k],fs:=x.fs++[(k,0)]}
def Ns{q:CY}{x:CYS}(hn:n<=1000)(hC:Cy q n x hx)(V:FD n x)(hk:k<n)(h0:x.ms[k]?=Z 0)(G:SH S H0 H<|hx++L):
 bM Pg X 187 [W k,pr q.ct,pr q.m,pr q.l,pr q.o,pr q.st,pr q.fr] H λ_ Q=>∃M',Cy q n (x.begin k) M'/\SH S H0 Q (M'++L):=by
 have Y:=G;have G:=G.own;obtain⟨Kn,Wt,GX,g,rfl,I,B,h3,h4,h5,h6⟩:=hC;have ab:x.cnt<=n:=by have:=V.cnt;omega
 refine lF [0,1,2,3,4,5,6] ?_;apply G.qE;refine eD ?_;refine G.j_ λM G=>?_;refine fF ?_;refine dA (sU hk) ?_;rw[bB];refine G.oq (λH2 G=>?_) O (by rw[aM];show k+1<=_;omega) rfl;refine dA (sU hk) ?_;rw[bB]
 try simp only[iU G.wf]
 refine G.oq (λH3 G=>?_) O (by rw[aM];show k+1<=_;omega) rfl;refine dA (sU hk) ?_;rw[bB]
 try simp only[iU G.wf]
 refine G.oq (λH4 G=>?_) O (by rw[aM];show k+1<=_;omega) rfl
 have d:[q.ct,q.m,q.l,q.o,q.dm,q.dl,q.dO].Pairwise (·≠·):=by
  have h:List.Pairwise (·≠·) ([q.ct,q.m,q.l,q.o,q.dm,q.dl,q.dO]++q.s::q.ds::q.st::q.fr::(GX++g).map (λe:eF=>e.1)):=(List.pairwise_map (f:=λe:eF=>e.1)).2 G.ne;exact(nU.1 h).1
 refine splitK (λK hK=>?_) ?_
 .simp only[eZ,gN];generalize q.ct=ct at d|-;generalize q.m=mm at d|-;generalize q.l=ll at d|-;generalize q.o=oo at d|-;generalize q.dm=dm at d|-;generalize q.dl=dl at d|-;generalize q.dO=dO at d|-;apply ajz d yX fQ fQ hK
 have G:SH _ H _ ((q.ct,3,[W (x.cnt+1)])::(q.m,22,[J (Z ⟨q.dm,0,T⟩) n n])::(q.l,22,[J (Z ⟨q.dl,0,T⟩) n n])::(q.o,34,[J (Z ⟨q.dO,0,T⟩) n n])::(q.dm,3,splice (x.ms.map vi) k [vi ((x.cnt+1:Nat):Int)])::(q.dl,3,splice (x.lo.map vi) k [vi ((x.cnt+1:Nat):Int)])::(q.dO,4,splice (x.op.map aO) k [aO f])::(q.s,34,[J (Z ⟨q.ds,0,T⟩) n n])::(q.ds,4,x.sf.map aO)::(q.st,22,[Kn])::(q.fr,290,[Wt])::(GX++g)):=G;rw[qQ vi N,qQ vi N,qQ aO N]at G;generalize hM (hM (hM M _) _) H4=H5 at*;have ac:u x.ss<=1000:=by have:=V.sl;omega
 have OI:u (FC x.fs)<=2000:=by rw[Dq];have:=V.fl;omega
 obtain⟨a5,n5,c5,rfl⟩:∃a n c,Kn=J a n c:=by rcases h5 with⟨rfl,_⟩|⟨r,n,fE,rfl,_⟩<;>exact⟨_,_,_,O⟩
 obtain⟨a6,n6,c6,rfl⟩:∃a n c,Wt=J a n c:=by rcases h6 with⟨rfl,_⟩|⟨r,n,fE,rfl,_⟩<;>exact⟨_,_,_,O⟩
 refine G.qE<|G.bS O O O N λH7 rx P=>?_;have P:=P.perm<|fA _<|DC [_,_,_,_,_,_,_,_,_,_,_] GX g;have⟨v',H8,aau,e8,A,hS8,_⟩:=h5.app (m:=0) (cx:=1) P N O O N (by rw[aM];omega);refine ME.of e8 ?_;have G:=hS8.perm<|DC aau [_,_,_,_,_,_,_,_,_,_,_] g;simp only[bQ,bX]at G;obtain⟨a7,n7,c7,rfl⟩:∃a n c,v'=J a n c:=by rcases A with⟨rfl,_⟩|⟨r,n,fE,rfl,_⟩<;>exact⟨_,_,_,O⟩
 refine G.j_ λM G=>?_;refine fF ?_;refine G.bS O O O N λH9 ry U=>?_;have U:=U.perm<|fA _<|((gT [_,_,_,_,_,_,_,_,_,_,_]<|aG (l₁:=aau) (l₂:=g))).trans<|DC [_,_,_,_,_,_,_,_,_,_,_] g aau;have⟨w',Cw,ajA,e10,y,aju,_⟩:=h6.app (m:=0) (cx:=1) U N O O N N;refine ME.of e10 ?_;have G:=(aju.perm<|DC ajA [_,_,_,_,_,_,_,_,_,_,_] aau).perm<|gT [_,_,_,_,_,_,_,_,_,_,_]<|aG (l₁:=ajA) (l₂:=aau);simp only[bQ,bX]at G;obtain⟨a8,n8,c8,rfl⟩:∃a n c,w'=J a n c:=by rcases y with⟨rfl,_⟩|⟨r,n,fE,rfl,_⟩<;>exact⟨_,_,_,O⟩
 refine G.j_ λM G=>?_;refine rn ?_;refine⟨_,⟨J a7 n7 c7,J a8 n8 c8,aau,ajA,O,?_,?_,?_,h4,?_,?_⟩,?_⟩
 .show u (x.ms.set k _)=n;rw[bU];exact I
 .show u (x.lo.set k _)=n;rw[bU];exact B
 .show u (x.op.set k _)=n;rw[bU];exact h3
 .show GB 3 1 _ ((x.ss++[k]).map λj=>W j) _;rw[dK];exact A
 .show GB 292 2 _ (FC<|x.fs++[(k,0)]) _;rw[Q9];exact y
 .have hF:=SH.frame (hx:=(q.ct,3,[W x.cnt])::(q.m,22,[J (Z ⟨q.dm,0,T⟩) n n])::(q.l,22,[J (Z ⟨q.dl,0,T⟩) n n])::(q.o,34,[J (Z ⟨q.dO,0,T⟩) n n])::(q.dm,3,x.ms.map vi)::(q.dl,3,x.lo.map vi)::(q.dO,4,x.op.map aO)::(q.s,34,[J (Z ⟨q.ds,0,T⟩) n n])::(q.ds,4,x.sf.map aO)::(q.st,22,[J a5 n5 c5])::(q.fr,290,[J a6 n6 c6])::(GX++g)) Y G;exact hF
end
variable{q:CY}{x:CYS}
section
variable{S:D Nat}{cs:Nat->Prop}
theorem adK(hn:n<=1000)(hC:Cy q n x hx)(hO:FD n x)(hk:k<n)(U:k∈x.ss)(G:SH S H0 H<|hx++L):
 bM Pg X 188 [W k,pr q.st,pr q.o,pr q.s] H λ_ Q=>∃(p:Nat)(op sf:D Bool)(M':D eF),x.ss[p]?=Z k/\(∀j,p<j->x.ss[j]?≠Z k)/\Cy q n {x with op:=op,sf:=sf,ss:=x.ss.take p} M'/\SH S H0 Q (M'++L):=by
 have ab:=G;have G:=G.own;obtain⟨Kn,Wt,GX,Uc,rfl,I,B,h3,h4,h5,h6⟩:=hC;have am:x.cnt<=n:=by have:=hO.cnt;omega
 have ap:u x.ss<=1000:=by have:=hO.sl;omega
 rcases h5 with⟨rfl,e,rfl⟩|⟨A,sn,fE,rfl,Y,rfl⟩
 .exfalso;cases hss:x.ss with
  |nil=>rw[hss]at U;cases U
  |cons a l=>rw[hss]at e;cases e
 rw[aM,dY]at Y;subst Y;refine cem [0,1,2,3,5,7,21,22,23] ?_
 have al:1<=u x.ss:=by
  cases hss:x.ss with
  |nil=>rw[hss]at U;cases U
  |cons a l=>simp
 refine rA ?_;refine VX 5 (h1:=λm x5 Q=>∃p:Nat,x5=W p/\p=m/\p<u x.ss/\(∀j,p<j->x.ss[j]?≠Z k)/\SH _ H Q _) ?_ (u x.ss-1) ⟨u x.ss-1,by rw[show((u x.ss:Int)-1)=((u x.ss-1:Nat):Int) by omega];rfl,rfl,N,λj hj=>by rw[dB N];simp,G⟩;clear G;rintro m x5 E H1 ⟨p,rfl,rfl,V,d,G⟩;refine tm ?_;refine dA (sU V) ?_;rw[bB];refine G.ld 11 O (v:=W x.ss[p]) (by rw[bZ (by rw[aM];exact V),bL,av V];rfl) ?_;refine yl (λhc=>?_) λhc=>?_
 .have⟨i,hi,hik⟩:=iM U
  have an:i<p:=by
   rcases kW i p with h|h|h
   .exact h
   .subst h;exact absurd (by rw[hik]) hc
   .exact absurd (by rw[av hi,hik])<|d i h
  refine rA ?_;refine⟨p-1,N,_,_,_,O,p-1,by rw[show((p:Int)-1)=((p-1:Nat):Int) by omega],rfl,N,λj hj=>?_,G⟩;rcases dH p j with h|h
  .exact d j h
  .obtain rfl:j=p:=N;rw[av V];intro e;exact hc (by rw[eO e])
 have ad:x.ss[p]?=Z k:=by rw[av V];congr 1;omega
 refine tl ?_;apply G.qE;refine dA (Ws N) ?_;rw[bB];refine bN ?_;refine lp2 7 23 (h1:=λm x7 zK Q=>∃(j:Nat)(op sf:D Bool),zK=W j/\j+m=u x.ss-p/\u op=n/\u sf=n/\SH (List.map (λe:eF=>e.1)<|(q.ct,3,[W x.cnt])::(q.m,22,[J (Z ⟨q.dm,0,T⟩) n n])::(q.l,22,[J (Z ⟨q.dl,0,T⟩) n n])::(q.o,34,[J (Z ⟨q.dO,0,T⟩) n n])::(q.dm,3,x.ms.map vi)::(q.dl,3,x.lo.map vi)::(q.dO,4,x.op.map aO)::(q.s,34,[J (Z ⟨q.ds,0,T⟩) n n])::(q.ds,4,x.sf.map aO)::(q.st,22,[J (Z ⟨A,0,T⟩) (u x.ss) (gK 1)])::(q.fr,290,[Wt])::([(A,3,(x.ss.map λj=>W j)++fE)]++Uc)) H Q ((q.ct,3,[W x.cnt])::(q.m,22,[J (Z ⟨q.dm,0,T⟩) n n])::(q.l,22,[J (Z ⟨q.dl,0,T⟩) n n])::(q.o,34,[J (Z ⟨q.dO,0,T⟩) n n])::(q.dm,3,x.ms.map vi)::(q.dl,3,x.lo.map vi)::(q.dO,4,op.map aO)::(q.s,34,[J (Z ⟨q.ds,0,T⟩) n n])::(q.ds,4,sf.map aO)::(q.st,22,[J (Z ⟨A,0,T⟩) (u x.ss) (gK 1)])::(q.fr,290,[Wt])::(A,3,(x.ss.map λj=>W j)++fE)::Uc)) ?_ (u x.ss-p) ⟨0,x.op,x.sf,rfl,N,h3,h4,G⟩;clear G;rintro m x7 zK E H1 ⟨j,op,sf,rfl,ao,ho,hs,G⟩;refine mG (λac=>?_) λac=>?_
 .refine tl ?_;apply G.qE;refine dA (De N) ?_;refine G.j_ λHn G=>rn ?_;refine⟨p,op,sf,_,ad,d,⟨J (Z ⟨A,0,T⟩) p<|gK 1,Wt,[(A,3,((x.ss.take p).map λj=>W j)++(((x.ss.drop p).map λj=>W j)++fE))],Uc,rfl,I,B,ho,hs,?_,h6⟩,?_⟩
  .exact .inr ⟨A,p,_,O,by rw[aM,dS];omega,rfl⟩
  .have hF:=SH.frame (hx:=(q.ct,3,[W x.cnt])::(q.m,22,[J (Z ⟨q.dm,0,T⟩) n n])::(q.l,22,[J (Z ⟨q.dl,0,T⟩) n n])::(q.o,34,[J (Z ⟨q.dO,0,T⟩) n n])::(q.dm,3,x.ms.map vi)::(q.dl,3,x.lo.map vi)::(q.dO,4,x.op.map aO)::(q.s,34,[J (Z ⟨q.ds,0,T⟩) n n])::(q.ds,4,x.sf.map aO)::(q.st,22,[J (Z ⟨A,0,T⟩) (u x.ss) (gK 1)])::(q.fr,290,[Wt])::([(A,3,(x.ss.map λj=>W j)++fE)]++Uc)) ab G;rw[<-cK,<-dK,jb];exact hF
 have M:p+j<u x.ss:=N;refine dA (sU N)<|G.ld 11 O (v:=W x.ss[p+j]) (by rw[bZ (by rw[aM];exact M),bL,av M];rfl) ?_;have g:x.ss[p+j]<n:=hO.ss _<|bH M;generalize x.ss[p+j]=z at g;refine G.qE<|dA (sU g) ?_;rw[bB];refine G.st 6 O O (by rw[aM];show z+1<=_;omega) rfl λH2 G=>?_;simp only[kC,qX]at G;have G:=G;refine fF ?_;refine dA (sU g) ?_;rw[bB];refine G.VM (v:=aO<|sf[z]'N) ?_ (by rw[bL,av (show z<u sf by omega)];rfl);refine bN ?_;have y:=G;refine ig (λhb=>?_) λhb=>?_
 .refine dA (sU g) ?_;rw[bB]
  try simp only[iU G.wf]
  refine G.oq (λH3 G=>?_) O (by rw[aM];show z+1<=_;omega) rfl;refine splitK (λK hK=>?_) ?_
  .simp only[eZ,gN];have P:q.ds≠q.s:=(y.nq 7 8 O O N).symm;generalize q.ds=ds at P|-;generalize q.s=qs at P|-;apply nE P yX fQ fQ hK
  refine eD ?_;refine⟨u x.ss-p-(j+1),N,_,_,_,_,O,j+1,op.set z aA,sf.set z f,pq,N,by rw[bU];exact ho,by rw[bU];exact hs,?_⟩;rw[<-qQ aO N,<-qQ aO N];exact G
 .try simp only[iU G.wf]
  apply G.VM;refine G.kN ?_;refine rA ?_;refine G.kN ?_;generalize decide ((1:Int)<(u x.ss:Int)-(p:Int))=bz;refine dA (sU g) ?_;rw[bB]
  try simp only[iU G.wf]
  refine G.oq (λH3 G=>?_) O (by rw[aM];show z+1<=_;omega) rfl;refine splitK (λK hK=>?_) ?_
  .simp only[eZ,gN];have P:q.ds≠q.s:=(y.nq 7 8 O O N).symm;have n2:q.ds≠q.st:=(y.nq 8 9 O O N);have n3:q.s≠q.st:=(y.nq 7 9 O O N);generalize q.ds=ds at P n2|-;generalize q.s=qs at P n3|-;generalize q.st=qt at n2 n3|-;apply AA P n2 n3 yX fQ fQ hK
  refine eD ?_;refine⟨u x.ss-p-(j+1),N,_,_,_,_,O,j+1,op.set z aA,sf.set z bz,pq,N,by rw[bU];exact ho,by rw[bU];exact hs,?_⟩;rw[<-qQ aO N,<-qQ aO N];exact G
end
section
variable{S:D Nat}{cs:Nat->Prop}
abbrev KU(q:CY):C:=.func (.func 188) ⟨[]⟩ ⟨[pr q.st,pr q.o,pr q.s]⟩
def Jw(fs:D<|Nat×Nat)(a b:Nat)(fE:D C):(FC (fs++[(a,b)])++fE)[u fs*2]?=Z (W a)/\(FC (fs++[(a,b)])++fE)[u fs*2+1]?=Z (W b)/\∀b',splice (FC (fs++[(a,b)])++fE) (u fs*2+1) [W b']=FC (fs++[(a,b')])++fE:=by
 have d:=Dq fs
 have e:∀b,FC (fs++[(a,b)])++fE=FC fs++(W a::W b::fE):=λb=>by
  rw[Q9,cK];rfl
 refine⟨?_,?_,λb'=>?_⟩
 .rw[e,eB N,d,kJ];rfl
 .rw[e,eB N,d,show u fs*2+1-u fs*2=1 by omega];rfl
 .rw[e,e,Gy (by rw[aU,d];simp),sH _ _ N,d,show u fs*2+1-u fs*2=1 by omega];rfl
def Gz:∀(l:D Int)(t:Nat)(v:Int),l[t]?=Z 0->v≠0->(l.set t v).count 0+1=l.count 0
 |[],t,v,h,_=>by simp at h
 |a::l,0,v,h,hv=>by
  have h:a=0:=om h;subst h;rw[qX,List.count_cons_self,List.count_cons_of_ne hv]
 |a::l,t+1,v,h,hv=>by
  have d:=Gz l t v (om h) hv;rw[kC,List.count_cons,List.count_cons];omega
theorem FD.begin{t:Nat}(h:FD n x)(ht:t<n)(d:x.ms[t]?=Z 0):FD n (x.begin t):=by
 have A:=Gz x.ms t ((x.cnt+1:Nat):Int) d N;have I:=h.cnt;have B:=h.sl;have y:=h.fl;refine⟨?_,λp s=>?_,λj g=>?_,?_,?_,?_⟩
 .show x.cnt+1+(x.ms.set t _).count 0=n;omega
 .rcases cB.1 s with h'|h'
  .exact h.fs p h'
  .rw[aS]at h';subst h';exact⟨ht,N⟩
 .rcases cB.1 g with h'|h'
  .exact h.ss j h'
  .rw[aS]at h';subst h';exact ht
 .show(List.map (λp:Nat×Nat=>p.1)<|x.fs++[(t,0)]).Sublist (x.ss++[t]);rw[dK];exact h.sub.append<|List.Sublist.refl _
 .show u (x.ss++[t])<=x.cnt+1;rw[aU];simp;omega
 .show u (x.fs++[(t,0)])<=x.cnt+1;rw[aU];simp;omega
def adL{ss A:D Nat}(h:(A++[k]).Sublist ss)(M:ss[p]?=Z k)(hl:∀j,p<j->ss[j]?≠Z k):A.Sublist (ss.take p):=by
 obtain⟨d,y,rfl,I,B⟩:=List.append_sublist_iff.1 h;have g:k∈y:=B.subset<|aS.2 O;have⟨j,hj,e⟩:=iM g
 have s:u d+j<=p:=by
  rcases dH p (u d+j)with h|h
  .exact absurd (by rw[eB N,kM,av hj,e])<|hl _ h
  .exact h
 rw[List.take_append];rw[dV (show u d<=p by omega)];exact I.trans<|fB _ _
abbrev cyL(q:CY)(n:Nat)(x:CYS)(rf:Nat)(fr:D C)(g d:C)(GX:D eF):D eF:=
 (rf,292,fr)::(q.ct,3,[W x.cnt])::(q.m,22,[J (Z ⟨q.dm,0,T⟩) n n])::(q.l,22,[J (Z ⟨q.dl,0,T⟩) n n])::(q.o,34,[J (Z ⟨q.dO,0,T⟩) n n])::(q.dm,3,x.ms.map vi)::(q.dl,3,x.lo.map vi)::(q.dO,4,x.op.map aO)::(q.s,34,[J (Z ⟨q.ds,0,T⟩) n n])::(q.ds,4,x.sf.map aO)::(q.st,22,[d])::(q.fr,290,[g])::GX
def Ud{d:C}(I:u x.ms=n)(B:u x.lo=n)(g:u x.op=n)(s:u x.sf=n)(y:GB 3 1 d (x.ss.map λj=>W j) GX)(G:SH S H0 H<|cyL q n x rf (FC x.fs++fE) (J (Z ⟨rf,0,T⟩) (u x.fs)<|gK 2) d GX):∃hx,Cy q n x hx/\SH S H0 H hx:=
 ⟨_,⟨d,_,GX,[_],rfl,I,B,g,s,y,.inr ⟨rf,u x.fs,fE,rfl,Dq _,rfl⟩⟩,G.perm<|aG (l₂:=_::_::_::_::_::_::_::_::_::_::_::GX) (l₁:=[_])⟩
def YJ(n K:Nat)(H':Int->Prop)(H:R)(v:C):Prop:=∃b,Li b K H' n H v
theorem Ue{K:Nat}(hn:n<=1000)(hK:K<=1000000)(hU:YJ n K H' H<|J ua n uc){Kp:Out->Prop}{mQ CK:C}(x:CYS)(hx:D eF)(hC:Cy q n x hx)(M:FD n x)(jY vE mO V:C)(E)(H1:R)(G:SH [] H H1 hx)(kk:∀x hx jY vE mO V E H1,Cy q n x hx->FD n x->x.fs=[]->SH [] H H1 hx->Kp (.exit 2<|mE (J ua n uc) (J T 0 0) (pr q.m) (pr q.l) (pr q.o) (pr q.s) (pr q.st) (pr q.fr) (pr q.ct) (zH q) (KU q) mQ jY vE mO V (W n) CK E H1)):
 iC Pg X (.loop<|sub nG [1,1,1,1,1,1,1,1,0,1,0,0,1,1,0,0,1,0,1,1,0,0]) (mE (J ua n uc) (J T 0 0) (pr q.m) (pr q.l) (pr q.o) (pr q.s) (pr q.st) (pr q.fr) (pr q.ct) (zH q) (KU q) mQ jY vE mO V (W n) CK E H1) Kp:=by
 have⟨ub,ua',uc',uvs,eu,hU1,hU2⟩:=hU;cases eu;refine Ov 13 14 15 16 (h1:=λm jY vE mO V Q=>∃x hx,Cy q n x hx/\FD n x/\SH [] H Q hx/\m=2*x.ms.count 0+u x.fs) ?_ _ ⟨x,hx,hC,M,G,rfl⟩;clear hC M G x hx;rintro m jY vE mO V E H1 ⟨x,hx,hC,M,G,hm⟩;have a6:=hC;have bf:=G;obtain⟨Kn,Wt,GX,Uc,rfl,I,B,h3,h4,h5,h6⟩:=hC;have bo:x.cnt<=n:=by have:=M.cnt;omega
 have bt:=M.fl;refine tl ?_
 obtain⟨fa,fn,fc,rfl,bl⟩:∃a m c,Wt=J a m c/\m=u x.fs:=by
  rcases h6 with⟨rfl,e,_⟩|⟨r,m,fE,rfl,e,_⟩
  .refine⟨_,_,_,O,?_⟩;have:=Dq x.fs;rw[e]at this;simp at this;omega
  .rw[Dq]at e;exact⟨_,_,_,O,N⟩
 subst bl;refine acC (λhc=>?_) λhc=>?_
 .exact kk x _ _ _ _ _ _ _ a6 M (iL N) G
 rcases h6 with⟨e,e',_⟩|⟨rf,fn,fE,e,br,rfl⟩
 .exfalso;have:=Dq x.fs;rw[e']at this;simp at this;omega
 cases e
 obtain⟨d,p,P⟩:∃d p,x.fs=d++[p]:=by
  rcases wE x.fs with h|⟨l,p,h⟩
  .rw[h]at hc;simp at hc
  .exact⟨l,p,by rw[h,wD]⟩
 have⟨node,nx⟩:=p;have a1:u x.fs=u d+1:=by rw[P];simp
 have FV:node<n/\nx<=1000000:=M.fs (node,nx) (by rw[P];simp)
 have G:SH [] H H1 (cyL q n x rf (FC (d++[(node,nx)])++fE) (J (Z ⟨rf,0,T⟩) (u x.fs)<|gK 2) Kn GX):=by
  rw[<-P];exact G.perm<|aG (l₁:=_::_::_::_::_::_::_::_::_::_::_::GX) (l₂:=[_])
 refine fF ?_;refine rA ?_;rw[show((u x.fs:Int)-1)=(u d:Int) by omega];refine dA (uK N) ?_;rw[bB];refine bN ?_;refine G.ld 0 O (Jw d node nx fE).1 ?_;have⟨r1,o1,hl1,e1,hr1,hc1⟩:=hU1.1.Q7 FV.1 uc;have⟨ra,rn,rc,rcs,ab,hU3,hrn,aof⟩:=hU2 _<|bH hl1;rw[ab]at hc1
 have top:∀(nx:Nat)(g:D Int)(y:D Bool){Q:R},u g=n->u y=n->SH [] H Q (cyL q n {x with lo:=g,sf:=y} rf (FC (d++[(node,nx)])++fE) (J (Z ⟨rf,0,T⟩) (u x.fs)<|gK 2) Kn GX)->∃hx,Cy q n {x with lo:=g,sf:=y,fs:=d++[(node,nx)]} hx/\SH [] H Q hx:=by
  intro nx g y Q g1 g2 g3;have e:u x.fs=u (d++[(node,nx)]):=by rw[a1];simp
  rw[e]at g3;exact Ud (x:={x with lo:=g,sf:=y,fs:=d++[(node,nx)]}) I g1 h3 g2 h5 g3
 have bd:∀(nx:Nat)(g:D Int)(y:D Bool),nx<=1000000->FD n {x with lo:=g,sf:=y,fs:=d++[(node,nx)]}:=by
  intro bn g y a9;refine⟨M.cnt,λp hp=>?_,M.ss,?_,M.sl,?_⟩
  .rcases cB.1 hp with h|h
   .exact M.fs p (by rw[P];exact dM _ h)
   .rw[aS]at h;subst h;exact⟨FV.1,a9⟩
  .have:=M.sub;rw[P]at this;simpa using this
  .show u (d++[(node,bn)])<=x.cnt;rw[aU];simp;omega
 refine VX 15 (h1:=λam mO Q=>∃(nx:Nat)(g:D Int)(y:D Bool),am=rn-nx/\nx<=1000000/\u g=n/\u y=n/\SH [] H Q (cyL q n {x with lo:=g,sf:=y} rf (FC (d++[(node,nx)])++fE) (J (Z ⟨rf,0,T⟩) (u x.fs)<|gK 2) Kn GX)) ?_ _ ⟨nx,x.lo,x.sf,O,FV.2,B,h4,G⟩;clear G bf a6;rintro am bw bv H2 ⟨nx,g,y,rfl,a9,U,al,G⟩;refine tp ?_;refine G.R5 0 O (Jw d node nx fE).2.1 ?_;rw[e1];refine G.kN ?_;refine G.Jk hc1 hr1 ?_;refine acC (λbh=>?_) λbh=>?_
 .refine tl ?_;have be:FC (d++[(node,nx)])++fE=FC d++(W node::W nx::fE):=by rw[Q9,cK];rfl
  rw[be]at G;have bm:node∈x.ss:=M.sub.subset (by rw[P];simp)
  have ac:∀g y,FD n {x with lo:=g,sf:=y,fs:=d}:=λg y=>by
   refine⟨M.cnt,λp hp=>M.fs p (by rw[P];exact dM _ hp),M.ss,?_,M.sl,by show u d<=x.cnt;omega⟩;have:=M.sub;rw[P,dK]at this;exact(fB _ _).trans this
  have aq:∀(A:D Int)(Q:R)(mO V:C) E,u A=n->SH [] H Q (cyL q n {x with lo:=A,sf:=y,fs:=d} rf (FC d++(W node::W nx::fE)) (J (Z ⟨rf,0,T⟩) (u d)<|gK 2) Kn GX)->iC Pg X (sub nG [1,1,1,1,1,1,1,1,0,1,0,0,1,1,0,0,1,0,1,1,0,0,1,0,1,1,1,1,1]) (mE (J ua n uc) (J T 0 0) (pr q.m) (pr q.l) (pr q.o) (pr q.s) (pr q.st) (pr q.fr) (pr q.ct) (zH q) (KU q) mQ (bG<|Z ⟨rf,u d*2,T⟩) (W node) mO V (W n) CK E Q) (uk 3<|IU (pQ (J ua n uc) (J T 0 0) (pr q.m) (pr q.l) (pr q.o) (pr q.s) (pr q.st) (pr q.fr) (pr q.ct) (zH q) (KU q) mQ (W n) CK λm jY vE mO V Q=>∃x hx,Cy q n x hx/\FD n x/\SH [] H Q hx/\m=2*List.count 0 x.ms+u x.fs) m Kp):=by
   intro A Q mO V E bc G;refine tm ?_;refine dA (sU FV.1) ?_;rw[bB];refine G.R5 6 O (v:=vi<|A[node]'N) (by show(A.map vi)[node]?=_;rw[bL,av (show node<u A by omega)];rfl) ?_;refine fF ?_;refine dA (sU FV.1) ?_;rw[bB];refine G.R5 5 O (v:=vi<|x.ms[node]'N) (by show(x.ms.map vi)[node]?=_;rw[bL,av (show node<u x.ms by omega)];rfl) ?_;refine fF ?_;have⟨M2,hC2,ad⟩:=Ud (x:={x with lo:=A,sf:=y,fs:=d}) I bc h3 al h5 G;refine nO (λan=>?_) λan=>?_
   .exact⟨2*x.ms.count 0+u d,N,_,_,_,_,_,_,O,_,M2,hC2,ac _ _,ad,O⟩
   have KT:SH [] H Q (M2++[]):=by rw[bF];exact ad
   show bM Pg X 188 [W node,pr q.st,pr q.o,pr q.s] Q _;refine dn (adK hn hC2 (ac _ _) FV.1 bm KT) ?_;rintro v H4 ⟨p,op,ar,M3,hp,ao,aE,wu⟩;rw[bF]at wu;refine⟨2*x.ms.count 0+u d,N,_,_,_,_,_,_,O,_,M3,aE,?_,wu,O⟩;have a0:=ac A y;refine⟨a0.cnt,a0.fs,λj hj=>M.ss j<|fG hj,?_,?_,a0.fl⟩
   .have:=M.sub;rw[P,dK]at this;exact adL this hp ao
   .show u (x.ss.take p)<=x.cnt;have:=M.sl;rw[dS];omega
  refine fF ?_;refine rA ?_;rw[show((u x.fs:Int)-1)=(u d:Int) by omega];refine dA (De N)<|G.j_ λHn G=>?_;refine fF ?_;have G:SH [] H Hn (cyL q n {x with lo:=g,sf:=y,fs:=d} rf (FC d++(W node::W nx::fE)) (J (Z ⟨rf,0,T⟩) (u d)<|gK 2) Kn GX):=G;refine nO (λan=>?_) λan=>?_
  .exact aq _ _ _ _ _ U G
  obtain⟨Y,p2,aw⟩:∃Y p,d=Y++[p]:=by
   rcases wE d with h|⟨l,p,h⟩
   .rw[h]at an;simp at an
   .exact⟨l,p,by rw[h,wD]⟩
  have⟨up,un⟩:=p2;have ba:up<n:=(M.fs (up,un) (by rw[P,aw];simp)).1;have YK:u d=u Y+1:=by rw[aw];simp
  have ab:FC d=FC (Y++[(up,un)]):=by rw[aw]
  refine fF ?_;refine rA ?_;rw[show((u d:Int)-1)=(u Y:Int) by omega];refine dA (uK N) ?_;rw[bB];refine bN ?_;refine G.ld 0 O (v:=W up) (by rw[ab];exact(Jw Y up un _).1) ?_;refine fF ?_;refine dA (sU ba) ?_;rw[bB];refine G.R5 6 O (v:=vi<|g[up]'N) (by show(g.map vi)[up]?=_;rw[bL,av (show up<u g by omega)];rfl) ?_;refine fF ?_;refine dA (sU FV.1) ?_;rw[bB];refine G.R5 6 O (v:=vi<|g[node]'N) (by show(g.map vi)[node]?=_;rw[bL,av (show node<u g by omega)];rfl) ?_;refine G.kN ?_;refine dA (sU ba) ?_;rw[bB];have n5:q.l≠q.dl:=G.nq 3 6 O O N;generalize min (g[up]'N) (g[node]'N)=mn;refine G.stQ 6 O O (by rw[aM];show up+1<=u g;omega) rfl λH4 G=>?_;refine splitK (λK hK=>?_) ?_
  .simp only[eZ,gN];generalize q.l=ql at n5|-;generalize q.dl=dl at n5|-;apply nE n5 yX fQ fQ hK
  have G:SH [] H _ ((cyL q n {x with lo:=g,sf:=y,fs:=d} rf (FC d++(W node::W nx::fE)) (J (Z ⟨rf,0,T⟩) (u d)<|gK 2) Kn GX).set 6 (q.dl,3,splice (g.map vi) up [vi mn])):=G;rw[qQ vi N]at G;exact aq (g.set up mn) _ _ _ _ (by rw[bU];exact U) G
 refine G.Jk hc1 hr1 ?_;refine G.kN ?_;refine G.R5 0 O (Jw d node nx fE).2.1 ?_;have⟨r2,o2,hl2,e2,hr2,hc2'⟩:=hU3.1.Q7 (show nx<rn by omega) rc;have⟨to,a4,_⟩:=aof _<|bH hl2;rw[a4]at hc2';rw[e2];refine G.kN ?_;refine G.Jk hc2' hr2 ?_;refine fF ?_;refine G.ld 0 O (Jw d node nx fE).2.1 ?_;refine eD ?_;refine G.st 0 O O (by rw[aU,Dq,aU];show u d*2+1+1<=(u d+1)*2+u fE;omega) rfl λH3 G=>?_;have G:SH [] H H3 (cyL q n {x with lo:=g,sf:=y} rf (splice (FC (d++[(node,nx)])++fE) (u d*2+1) [W (nx+1)]) (J (Z ⟨rf,0,T⟩) (u x.fs)<|gK 2) Kn GX):=G;rw[(Jw d node nx fE).2.2]at G
 have a5:∀(b:Bool) E,Ci E 83=aO b->(b=aA->0<=to/\to<n)->iC Pg X (sub nG [1,1,1,1,1,1,1,1,0,1,0,0,1,1,0,0,1,0,1,1,0,0,1,0,1,1,0,0,0,1,0,1,1,0,1]) (mE (J ua n uc) (J T 0 0) (pr q.m) (pr q.l) (pr q.o) (pr q.s) (pr q.st) (pr q.fr) (pr q.ct) (zH q) (KU q) mQ (bG<|Z ⟨rf,u d*2,T⟩) (W node) (vi to) V (W n) CK E H3) (uk 6<|uk 5<|IU (n_ (J ua n uc) (J T 0 0) (pr q.m) (pr q.l) (pr q.o) (pr q.s) (pr q.st) (pr q.fr) (pr q.ct) (zH q) (KU q) mQ (bG<|Z ⟨rf,u d*2,T⟩) (W node) V (W n) CK λam mO Q=>∃(nx:Nat)(g:D Int)(y:D Bool),am=rn-nx/\nx<=1000000/\u g=n/\u y=n/\SH [] H Q (cyL q n {x with lo:=g,sf:=y} rf (FC (d++[(node,nx)])++fE) (J (Z ⟨rf,0,T⟩) (u x.fs)<|gK 2) Kn GX)) (rn-nx)<|uk 4<|uQ Pg X (sub nG [1,1,1,1,1,1,1,1,0,1,0,0,1,1,0,0,1,0,1,1,0,0,1,0,1,1,1])<|uk 3<|IU (pQ (J ua n uc) (J T 0 0) (pr q.m) (pr q.l) (pr q.o) (pr q.s) (pr q.st) (pr q.fr) (pr q.ct) (zH q) (KU q) mQ (W n) CK λm jY vE mO V Q=>∃x hx,Cy q n x hx/\FD n x/\SH [] H Q hx/\m=2*List.count 0 x.ms+u x.fs) m Kp):=by
  intro b E hb a4;refine tl ?_;rw[hb];refine bN ?_
  have zO:∀Bw Q A ar,u A=n->u ar=n->SH [] H Q (cyL q n {x with lo:=A,sf:=ar} rf (FC (d++[(node,nx+1)])++fE) (J (Z ⟨rf,0,T⟩) (u x.fs)<|gK 2) Kn GX)->∃bb,bb<rn-nx/\n_ (J ua n uc) (J T 0 0) (pr q.m) (pr q.l) (pr q.o) (pr q.s) (pr q.st) (pr q.fr) (pr q.ct) (zH q) (KU q) mQ (bG<|Z ⟨rf,u d*2,T⟩) (W node) V (W n) CK (λam mO Q=>∃(nx:Nat)(g:D Int)(y:D Bool),am=rn-nx/\nx<=1000000/\u g=n/\u y=n/\SH [] H Q (cyL q n {x with lo:=g,sf:=y} rf (FC (d++[(node,nx)])++fE) (J (Z ⟨rf,0,T⟩) (u x.fs)<|gK 2) Kn GX)) bb (mE (J ua n uc) (J T 0 0) (pr q.m) (pr q.l) (pr q.o) (pr q.s) (pr q.st) (pr q.fr) (pr q.ct) (zH q) (KU q) mQ (bG<|Z ⟨rf,u d*2,T⟩) (W node) (vi to) V (W n) CK Bw Q):=
   λBw Q A ar g1 g2 g3=>⟨rn-(nx+1),N,_,_,_,rfl,nx+1,A,ar,rfl,N,g1,g2,g3⟩
  refine ig (λa7=>?_) λa7=>?_
  .exact zO _ _ g y U al G
  have⟨ht0,ht1⟩:=a4 a7;obtain⟨t,rfl⟩:∃j:Nat,to=j:=⟨to.toNat,N⟩;have ap:t<n:=N;refine aV (λbj=>?_) λbj=>?_
  .refine G.qE<|dA (sU FV.1) ?_;rw[bB];refine G.st 9 O O (by rw[aM];show node+1<=u y;omega) rfl λH4 G=>?_;refine zO _ _ g (y.set node f) U (by rw[bU];exact al) ?_;have G:SH [] H H4 (cyL q n {x with lo:=g,sf:=y} rf (FC (d++[(node,nx+1)])++fE) (J (Z ⟨rf,0,T⟩) (u x.fs)<|gK 2) Kn GX|>.set 9 (q.ds,4,splice (y.map aO) node [aO f])):=G;rw[qQ aO N]at G;exact G
  refine G.qE<|dA (sU ap) ?_;rw[bB];refine G.ld 5 O (v:=vi<|x.ms[t]'N) (by show(x.ms.map vi)[t]?=_;rw[bL,av (show t<u x.ms by omega)];rfl) ?_;refine tJ (λa8=>?_) λa8=>?_
  .have a3:x.ms[t]?=Z 0:=by rw[av (show t<u x.ms by omega),a8]
   have⟨M2,hC2,ad⟩:=top (nx+1) g y U al G;have ac:=bd (nx+1) g y N;have ad:SH [] H H3 (M2++[]):=by rw[bF];exact ad
   show bM Pg X 187 [W t,pr q.ct,pr q.m,pr q.l,pr q.o,pr q.st,pr q.fr] H3 _;refine dn (Ns hn hC2 ac ap a3 ad) ?_;rintro v H4 ⟨M3,aE,wu⟩;rw[bF]at wu;have bp:=Gz x.ms t ((x.cnt+1:Nat):Int) a3 N;refine⟨2*(x.ms.set t ((x.cnt+1:Nat):Int)).count 0+(u d+2),N,_,_,_,_,_,_,O,_,M3,aE,ac.begin ap a3,wu,?_⟩;show _=2*(x.ms.set t ((x.cnt+1:Nat):Int)).count 0+u ((d++[(node,nx+1)])++[(t,0)]);rw[aU,aU];simp
  refine G.qE<|dA (sU ap) ?_;rw[bB];refine G.ld 7 O (v:=aO<|x.op[t]'N) (by show(x.op.map aO)[t]?=_;rw[bL,av (show t<u x.op by omega)];rfl) ?_;refine sD (λbg=>?_) λbg=>?_;rotate_left
  .exact zO _ _ g y U al G
  refine fF ?_;refine dA (sU FV.1) ?_;rw[bB];refine G.R5 6 O (v:=vi<|g[node]'N) (by show(g.map vi)[node]?=_;rw[bL,av (show node<u g by omega)];rfl) ?_;refine fF ?_;refine dA (sU ap) ?_;rw[bB];refine G.R5 5 O (v:=vi<|x.ms[t]'N) (by show(x.ms.map vi)[t]?=_;rw[bL,av (show t<u x.ms by omega)];rfl) ?_;refine G.kN ?_;refine dA (sU FV.1) ?_;rw[bB];have n1:q.m≠q.l:=G.nq 2 3 O O N;have n2:q.m≠q.dm:=G.nq 2 5 O O N;have n3:q.m≠q.dl:=G.nq 2 6 O O N;have n4:q.l≠q.dm:=G.nq 3 5 O O N;have n5:q.l≠q.dl:=G.nq 3 6 O O N;have n6:q.dm≠q.dl:=G.nq 5 6 O O N;generalize min (g[node]'N) (x.ms[t]'N)=mn;refine G.stQ 6 O O (by rw[aM];show node+1<=u g;omega) rfl λH4 G=>?_;refine splitK (λK hK=>?_) ?_
  .simp only[eZ,gN];generalize q.m=qm at n1 n2 n3|-;generalize q.l=ql at n1 n4 n5|-;generalize q.dm=dm at n2 n4 n6|-;generalize q.dl=dl at n3 n5 n6|-;apply VP n1 n2 n3 n4 n5 n6 yX fQ fQ hK
  refine zO _ _ (g.set node mn) y (by rw[bU];exact U) al ?_;have G:SH [] H _ ((cyL q n {x with lo:=g,sf:=y} rf (FC (d++[(node,nx+1)])++fE) (J (Z ⟨rf,0,T⟩) (u x.fs)<|gK 2) Kn GX).set 6 (q.dl,3,splice (g.map vi) node [vi mn])):=G;rw[qQ vi N]at G;exact G
 refine aV (λbi=>?_) λbi=>?_
 .exact a5 _ _ O λh=>by cases h
 .exact a5 _ _ O λh=>by have:=oQ h;omega
end
section
variable{S:D Nat}{cs:Nat->Prop}
def _root_.Go.Ae.SH.aav(G:SH S H0 H L){z:D C}(k:∀H1 r,SH S H0 (hM H H1) ((r,e,z)::L)->N9 H H1=cl 5->K (bG<|Z ⟨r,0,T⟩) H1):ME (Go.Ae.jM e z<|Go.Ae.hN H) K:=
 ME.of rfl (k _ _ (G.zq e z)<|xW<|Ext.new _ _)
def _root_.Go.Ae.SH.mkD(G:SH S H0 H L){z:D C}(d:n<=16777216)(k:∀H1 r,SH S H0 (hM H H1) ((r,e,qd z n)::L)->N9 H H1=cl 5->K (J (Z ⟨r,0,T⟩) n n) H1):ME (Go.Ae.mkS e z (W n) (W n)<|Go.Ae.hN H) K:=by
 refine ME.of ?_<|k _ _ (G.zq e<|qd z n)<|xW<|Ext.new _ _;show(aN (AZ<|W n) λg=>aN (AZ<|W n) λm=>gd (aD g m&&aD m 16777216&&f) _)=_;show gd (aD n n&&aD n 16777216&&f) _=_;rw[aH (ax n),aH d];rfl
def Wu(b n:Nat)(H:R)(v:C):Prop:=∃a c,∃d:D Bool,v=J a n c/\u d=n/\jC (b<=·) 4 H a n 1 (d.map aO)
def Uf{K:Nat}(hn:n<=1000)(hK:K<=1000000)(hU:YJ n K H' H<|J ua n uc)(x:CYS)(hx:D eF)(g:Cy q n x hx)(d:FD n x)(hf:x.fs=[])(mQ jY M y A:C)(E)(H1:R)(G:SH [] H H1 hx):
 iC Pg X (.loop<|sub nG [1,1,1,1,1,1,1,1,0,1,0,0]) (mE (J ua n uc) (J T 0 0) (pr q.m) (pr q.l) (pr q.o) (pr q.s) (pr q.st) (pr q.fr) (pr q.ct) (zH q) (KU q) mQ jY M y A (W n) (vi 0) E H1) (uk 0<|uQ Pg X (sub nG [1,1,1,1,1,1,1,1,1])<|jO Pg [.tmp 2]<|Q1 (λv Q=>Wu H.bV n Q v) H):=by
 refine lp6 12 13 14 15 16 33 (h1:=λm mQ jY M y A CK Q=>∃x hx i,CK=W i/\i+m=n/\Cy q n x hx/\FD n x/\x.fs=[]/\SH [] H Q hx) ?_ n ⟨x,hx,0,rfl,N,g,d,hf,G⟩;clear g d hf G x hx;rintro m am an ao ap aq ar E H1 ⟨x,hx,i,rfl,al,g,d,hf,G⟩;refine tp ?_;have U:=g;have ad:=G;obtain⟨Kn,Wt,GX,Uc,rfl,I,B,h3,h4,h5,h6⟩:=g;refine nO (λhc=>?_) λhc=>?_
 .refine tl ?_;apply G.qE;have hd:=G.yu<|aT (i:=8) O;refine rr ?_;refine⟨⟨_,_,x.sf,O,h4,jC.one G (aT (i:=8) O) (by rw[aM,h4,dY]) hd⟩,G.ext⟩
 refine iC.scope (az:=λ_ _ _=>False) (λ_ _ _ _ h=>h.elim) 0 ?_
 have P:∀x hx jY M y A E H1,Cy q n x hx->FD n x->SH [] H H1 hx->iC Pg X (sub nG [1,1,1,1,1,1,1,1,0,1,0,0,1,1,0,0,1,0,1]) (mE (J ua n uc) (J T 0 0) (pr q.m) (pr q.l) (pr q.o) (pr q.s) (pr q.st) (pr q.fr) (pr q.ct) (zH q) (KU q) (W i) jY M y A (W n) (W i) E H1) (gtW (sub nG [1,1,1,1,1,1,1,1,0,1,0,0,1,1,0,0,1,0]) (λ_ _ _=>False) 0<|uk 1<|uQ Pg X (sub nG [1,1,1,1,1,1,1,1,0,1,0,0,1,1,1])<|IU (zY (J ua n uc) (J T 0 0) (pr q.m) (pr q.l) (pr q.o) (pr q.s) (pr q.st) (pr q.fr) (pr q.ct) (zH q) (KU q) (W n) λm mQ jY M y A CK Q=>∃x hx i,CK=W i/\i+m=n/\Cy q n x hx/\FD n x/\x.fs=[]/\SH [] H Q hx) m<|uk 0<|uQ Pg X (sub nG [1,1,1,1,1,1,1,1,1])<|jO Pg [.tmp 2]<|Q1 (λv Q=>Wu H.bV n Q v) H):=by
  intro x hx jY M y A E H1 g d G;refine tl ?_;refine Ue hn hK hU x hx g d _ _ _ _ _ _ G λx hx jY M y A E H1 g d hf G=>?_;refine bN ?_;rw[acv];refine bN ?_;refine tp ?_;refine eD ?_;exact⟨n-(i+1),N,_,_,_,_,_,_,_,_,O,x,hx,i+1,pq,N,g,d,hf,G⟩
 refine tl ?_;apply G.qE;have j:i<n:=N;refine dA (sU j) ?_;rw[bB];refine G.ld 4 O (v:=vi<|x.ms[i]'N) (by show(x.ms.map vi)[i]?=_;rw[bL,av (show i<u x.ms by omega)];rfl) ?_;refine MQ (λY=>?_) λY=>?_
 .exact P x _ _ _ _ _ _ _ U d G
 have ab:x.ms[i]?=Z 0:=by rw[av (show i<u x.ms by omega),Y]
 have V:=G;rw[<-bF (_::_)]at V;show bM Pg X 187 [W i,pr q.ct,pr q.m,pr q.l,pr q.o,pr q.st,pr q.fr] H1 _;refine dn (Ns hn U d j ab V) ?_;rintro v H4 ⟨M3,ac,wu⟩;rw[bF]at wu;exact P _ M3 _ _ _ _ _ _ ac (d.begin j ab) wu
theorem Ko(hw:Wf H){K:Nat}(hn:n<=1000)(B:K<=1000000)(I:YJ n K H' H v):bM Pg X 157 [v] H (Q1 (λv Q=>Wu H.bV n Q v) H):=by
 obtain⟨b,ua,uc,vs,rfl,M,P⟩:=I;have I:YJ n K H' H (J ua n uc):=⟨b,ua,uc,vs,O,M,P⟩;have G:=gM hw;refine GV [0,2,3,4,5,6,7,8,9,10,11,12,13,14,15,16,32,33] ?_;refine G.mkD N λV y G f1=>?_
 try simp only[iU G.wf]
 refine G.mkD N λY j G f2=>?_
 try simp only[iU G.wf]
 refine G.aav λH3 m G f3=>?_
 try simp only[iU G.wf]
 refine G.aav λH4 l G f4=>G.oq λd G=>?_;refine G.oq λd G=>?_;have n1:l≠m:=G.nq 0 1 O O N;refine splitK (λK B=>?_) ?_
 .simp only[f1,f2,f3,f4,gN];apply nE (a:=l) (b:=m) n1 yX fQ fQ B
 generalize hM (hM (hM (hM (hM (hM H V) Y) H3) H4) _) d=H5 at*;refine G.mkD N λH6 g G g1=>?_
 try simp only[iU G.wf]
 refine G.mkD N λH7 A G g2=>?_
 try simp only[iU G.wf]
 refine G.aav λH8 o G g3=>?_
 try simp only[iU G.wf]
 refine G.aav λH9 s G g4=>G.oq λd G=>?_;refine G.oq λd G=>?_;have n2:s≠o:=G.nq 0 1 O O N;refine splitK (λK B=>?_) ?_
 .simp only[g1,g2,g3,g4,gN];apply nE (a:=s) (b:=o) n2 yX fQ fQ B
 refine G.jM λd U G=>G.jM λd fr G=>G.jM λd ct G=>G.j_ λd G=>?_;have hz:qd [a_ bC 0] n=(aY n (0:Int)).map vi:=by rw[nC,ko]
 have hb:qd [aO aA] n=(aY n aA).map aO:=by rw[nC,ko]
 rw[hz,hb]at G;have G:SH [] H d [(ct,3,[W 0]),(fr,290,[J T 0 0]),(U,22,[J T 0 0]),(s,34,[J (Z ⟨A,0,T⟩) n n]),(o,34,[J (Z ⟨g,0,T⟩) n n]),(A,4,(aY n aA).map aO),(g,4,(aY n aA).map aO),(l,22,[J (Z ⟨j,0,T⟩) n n]),(m,22,[J (Z ⟨y,0,T⟩) n n]),(j,3,(aY n (0:Int)).map vi),(y,3,(aY n (0:Int)).map vi)]:=G
 have G:=G.perm (L':=[(ct,3,[W 0]),(m,22,[J (Z ⟨y,0,T⟩) n n]),(l,22,[J (Z ⟨j,0,T⟩) n n]),(o,34,[J (Z ⟨g,0,T⟩) n n]),(y,3,(aY n (0:Int)).map vi),(j,3,(aY n (0:Int)).map vi),(g,4,(aY n aA).map aO),(s,34,[J (Z ⟨A,0,T⟩) n n]),(A,4,(aY n aA).map aO),(U,22,[J T 0 0]),(fr,290,[J T 0 0])])
  (fA _<|uC [_,_,_,_,_,_,_] [_,_]<|uC [_,_,_,_,_,_] [_,_]<|uC [_,_,_] [_,_,_,_]<|uC [_,_,_,_,_,_] []<|uC [_,_,_,_,_] []<|uC [_,_,_,_] []<|uC [_,_] [_]<|uC [_,_] []<|uC [_] []<|rW _)
 exact Uf (q:=⟨ct,m,l,o,y,j,g,s,A,U,fr⟩) hn B I ⟨0,aY n 0,aY n 0,aY n aA,aY n aA,[],[]⟩ _
  ⟨J T 0 0,J T 0 0,[],[],rfl,gB,gB,gB,gB,GB.nil _ _,GB.nil _ _⟩
  ⟨gB,nofun,nofun,List.Sublist.refl _,ax _,ax _⟩ rfl _ _ _ _ _ _ _ G
end
section
variable{S:D Nat}{cs:Nat->Prop}
def Fa(F:D C):Prop:=∀i,i<u F/3->∃(z a b:Int),El F 3 i=[vi z,vi a,vi b]/\z≠0
def Fa.app(h:Fa F)(hl:u F %3=0)(g:z≠0)(a b:Int):Fa (F++[vi z,vi a,vi b]):=by
 intro i d;have hE:=Dm (es:=3) (n:=u F/3) (F:=F) N (xs:=[vi z,vi a,vi b]) O;rw[aU]at d;simp only[cO,qG]at d;rcases dH i (u F/3)with h'|h'
 .rw[hE.1 i h'];exact h i h'
 .obtain rfl:i=u F/3:=N;exact⟨z,a,b,hE.2,g⟩
def agu{x:C}(j:GB 228 3 x F gb)(y:Fa F)(hl:u F<=10000000)(G:SH S H0 H<|Pf++gb){a b:Int}(A:z≠0){K:C->C->R->Prop}(kk:∀w v' Q iX,GB 228 3 v' (F++[vi z,vi a,vi b]) iX->Fa (F++[vi z,vi a,vi b])->SH S H0 Q (Pf++iX)->K w v' Q):
 ME (bS 228 [a_ bC 0,a_ bC 0,a_ bC 0] 3 1 [(0,dN ⟨[vi z,vi a,vi b]⟩)] H) λw s=>ME (Ch 228 3 x w s) (K w):=by
 have g:u F %3=0:=by
  rcases j with⟨_,rfl,_⟩|⟨r,n,fE,_,e,_⟩
  .rfl
  .omega
 refine G.bS O O O N λB I d=>?_;have d:=d.perm<|fA _<|aG (l₁:=Pf);have⟨v',H6,iX,e1,hg',xJ,_⟩:=j.app (m:=0) (cx:=1) d N O O N N;refine ME.of e1<|kk _ v' H6 iX hg' (y.app g A a b)<|xJ.perm aG
def Iu(v:C)(H:R)(P:Prop):Prop:=∃a n c F,v=J a n c/\Fl H a n 3 F/\Fa F/\(n=0->P)
theorem amj{rn:Nat}{P:Prop}(hG:Gr b H ra rn rcs na nn jw)(ac:Q8 rn mm)(hB:∀j,j<rn->0<=rootOf rcs j/\rootOf rcs j<nn)(H1:R)(hm:wz H1 r mm)(G:SH [] H H1<|(E,171,[J ra rn rc,J na nn nc])::gb)(s:GB 228 3 x3 F gb)(y:Fa F)(hl:u F<=9000000)(A:F=[]->P)(x2 x5 x6 x7 x8 x9 jW jh mQ al am an Jq Fx VZ ao ap aq:C)(oW):
 iC Pg X (sub Ew [1,1,1,1,1,1,1]) (Dj (gV ra rn rc na nn nc) (bG<|Z ⟨E,0,T⟩) x2 x3 (gz<|Z r) x5 x6 x7 x8 x9 jW jh mQ al am an Jq Fx VZ ao ap aq oW H1) (jO Pg [.tmp 2]<|Q1 (λv Q=>Iu v Q P) H):=by
 have g2:=hG.2.1;refine tl ?_;apply G.jl;refine G.cm (Ub G.wf (hG.ex G.ext) hm ac hB) ?_;rintro v H2 hv a4 G;refine G.cm (Ko G.wf (K:=500000) (H':=Ua rn) N N ⟨_,hv⟩) ?_;rintro v H3 ⟨ba,bc,bs,rfl,aE,Y⟩ a5 G;refine bN ?_;have a3:=G.lt;have g:=G;have G:=g.base;refine Ov 3 11 12 90 (h1:=λm y3 ar aw B Q=>∃(i:Nat)(F:D C)(gb:D eF),B=W i/\i+m=rn/\GB 228 3 y3 F gb/\Fa F/\u F<=9000000+3*i/\(F=[]->P)/\SH _ H3 Q ((E,171,[J ra rn rc,J na nn nc])::gb)) ?_ rn ⟨0,F,gb,rfl,N,s,y,N,A,G⟩;have ad:=g.Az (ty:=4) (by simp[s.all]);clear G s y hl A;rintro m y3 ar aw B OH H4 ⟨i,d,iX,rfl,a1,s,y,hl,A,G⟩;refine mG (λhc=>?_) λhc=>?_
 .refine tl ?_;obtain⟨a,n,c,rfl,a0,hf⟩:=s.KE (cs:=λ_=>True) (G.perm<|aG (l₁:=[_])) λ_ _=>trivial;refine rr ?_;exact⟨⟨a,n,c,d,O,hf.1,y,λh=>A (by subst h;exact iL N)⟩,(g.over G).ext⟩
 have V:=Y.stay G.ext λq hq=>.inr<|ad q hq;have⟨r',o',hl',e',hr',Np⟩:=V.1.Q7 (show i<rn by omega) bc;rw[e'];refine bN ?_;rw[iD]at Np;refine iV Np ?_;refine sD (λhb=>?_) λhb=>?_
 .refine PU.b3 O<|agu (Pf:=[_]) s y N G (z:=20) jg λw v' H5 I ab M U=>?_;refine eD ?_;refine⟨rn-(i+1),N,_,_,_,_,_,_,O,i+1,_,I,pq,N,ab,M,by rw[aU];show u d+3<=_;omega,λh=>absurd h gB,U⟩
 .refine eD ?_;exact⟨rn-(i+1),N,_,_,_,_,_,_,O,i+1,d,iX,pq,N,s,y,N,A,G⟩
def amk{rn:Nat}{P:Prop}(M:Gr b H ra rn rcs na nn jw)(Y:Q8 rn mm)(hB:∀j,j<rn->0<=rootOf rcs j/\rootOf rcs j<nn)(H1:R)(hm:wz H1 r mm)(G:SH [] H H1<|(E,171,[J ra rn rc,J na nn nc])::gb)(s:GB 228 3 x3 F gb)(g:Fa F)(hl:u F<=1000)(y:F=[]->P)(x2 x5 x6 x7 x8 x9 jW jh mQ ar aw aE Jq Fx VZ a0 a3 a4:C)(oW):
 iC Pg X (sub Ew [1,1,1,1,1,1]) (Dj (gV ra rn rc na nn nc) (bG<|Z ⟨E,0,T⟩) x2 x3 (gz<|Z r) x5 x6 x7 x8 x9 jW jh mQ ar aw aE Jq Fx VZ a0 a3 a4 oW H1) (jO Pg [.tmp 2]<|Q1 (λv Q=>Iu v Q P) H):=by
 have g2:=M.2.1;have g5:=M.2.2.2.2.1;refine tm ?_;have d:=G;have ab:=d.Gv hm;have G:=d.base;refine lp6 3 7 8 9 10 52 (h1:=λm y3 y7 y8 y9 a5 ac Q=>∃(i:Nat)(F:D C)(gb:D eF),ac=W i/\i+m=rn/\GB 228 3 y3 F gb/\Fa F/\u F<=1000+12006*i/\(F=[]->P)/\SH _ H1 Q ((E,171,[J ra rn rc,J na nn nc])::gb)) ?_ rn ⟨0,F,gb,rfl,N,s,g,N,y,G⟩;clear G s g hl y;rintro m y3 y7 y8 y9 a5 ac OH H4 ⟨i,ad,iX,rfl,a8,s,g,hl,y,G⟩;refine mG (λhc=>?_) λhc=>?_
 .exact amj M Y hB H4 (hm.ex G.ext ab) (d.over G) s g N y _ _ _ _ _ _ _ _ _ _ _ _ _ _ _ _ _ _ _
 have hi:i<rn:=N;have⟨r1,o1,zN,u1,f1,w1,c1,a1,e1,hl1,Be,uR,hsz,_⟩:=(M.ex (d.over G).ext).ru hi rc;rw[e1];refine bN ?_;refine ME.uE Be<|G.og O O O λH5 ru G bb=>?_;have G:SH _ H1 H5 ((ru,234,yj zN u1 f1 w1 c1 (rootOf rcs i) a1)::(E,171,[J ra rn rc,J na nn nc])::iX):=G;apply G.jl;refine G.cm (PR G.wf (M.ex (d.over<|fV (A:=[_]) G).ext) hi hB) ?_;rintro v H6 ⟨k0,rfl,a9⟩ bc G;have hb:=hB i hi;refine Gg 3 9 10 (h1:=λm' z3 z9 a6 Q=>∃(k:Nat)(F:D C)(gb:D eF),z9=W k/\k+m'=4001/\GB 228 3 z3 F gb/\Fa F/\u F<=1000+12006*i+3*k/\(F=[]->P)/\SH _ H1 Q ((ru,234,yj zN u1 f1 w1 c1 (rootOf rcs i) a1)::(E,171,[J ra rn rc,J na nn nc])::gb)) ?_ (4001-k0) ⟨k0,ad,iX,rfl,N,s,g,N,y,G⟩;clear G s g hl y;rintro m' z3 z9 a6 a7 H7 ⟨k,B,VQ,rfl,ba,s,g,hl,y,G⟩;refine agk (λao=>?_) λao=>?_
 .refine tp ?_;refine eD ?_;exact⟨rn-(i+1),N,_,_,_,_,_,_,_,_,O,i+1,B,VQ,pq,N,s,g,N,y,fV (A:=[_]) G⟩
 have V:k<nn:=N;have I:=M.ex (d.over<|fV (A:=[_]) G).ext;refine fF ?_;have⟨kd,ka,kn,kc,ks',t,rs,at',he,hk1,hk2,hk3,hk4,hk5⟩:=I.2.2.2.2.2 k V;obtain⟨xa,xn,xc,bd,rfl,Q4⟩:=id hk5;have⟨r2,o2,e2,hl2,aar,xz⟩:=I.no V nc he;rw[e2];refine G.kN ?_;refine ME.uE (H:=hN _) aar ?_;simp only[iU G.wf];have aq:=hm.ex G.ext ab;refine dn (Wq (H:=hN H7) (ax _) (r:=r) (m:=mm) (show Gr b (hN H7) ra rn rcs na nn jw from I) aq Y) ?_;rintro v H8 ⟨⟨z,rfl⟩,z8⟩;have G:=G.oD z8;refine splitK (λK hK=>?_) ?_
 .exact iY (by simp only[eZ,fP z8];rfl) hK
 refine yl (λU=>?_) λU=>?_
 .refine PU.b3 O<|agu (Pf:=[_,_]) s g N G U λw v' H5 al ap am an=>?_;refine eD ?_;exact⟨4001-(k+1),N,_,_,_,_,_,O,k+1,_,al,pq,N,ap,am,by rw[aU];show u B+3<=_;omega,λh=>absurd h gB,an⟩
 .refine eD ?_;exact⟨4001-(k+1),N,_,_,_,_,_,O,k+1,B,VQ,pq,N,s,g,N,y,G⟩
end
section
variable{S:D Nat}{cs:Nat->Prop}
def Iv(rcs:D C)(i:Nat):Bool:=match((El rcs 7 i)[1]?.getD<|aO aA)with
 |Value.bool b=>b
 |_=>aA
def Lj{w:Bool}{at':Int}(h:El rcs 7 i=yj nm aa ay w ch root at'):Iv rcs i=aa:=by unfold Iv;rw[h];rfl
def aik{rn:Nat}{P:Prop}(V:Gr b H ra rn rcs na nn jw)(hB:∀j,j<rn->0<=rootOf rcs j/\rootOf rcs j<nn)(H1:R)(G:SH [] H H1<|(E,171,[J ra rn rc,J na nn nc])::gb)(s:GB 228 3 x3 F gb)(g:Fa F)(hl:u F<=3)(M:F=[]->P)(x2 x4 x5 x6 x7 x8 x9 jW jh mQ an ao ap Jq Fx VZ aq ar aw:C)(oW):
 iC Pg X (sub Ew [1,1,1,1]) (Dj (gV ra rn rc na nn nc) (bG<|Z ⟨E,0,T⟩) x2 x3 x4 x5 x6 x7 x8 x9 jW jh mQ an ao ap Jq Fx VZ aq ar aw oW H1) (jO Pg [.tmp 2]<|Q1 (λv Q=>Iu v Q P) H):=by
 have g2:=V.2.1;refine tm ?_;refine dn (Wp G.wf<|V.ex G.ext) ?_;rintro v H2 ⟨r,mm,rfl,hm,B,am,aE⟩;have G:=G.call am;refine fF ?_;have d:=G;have I:=d.Gv hm;have G:=d.base;refine Ov 3 5 6 32 (h1:=λm y3 y5 y6 U Q=>∃(i:Nat)(F:D C)(gb:D eF),U=W i/\i+m=rn/\GB 228 3 y3 F gb/\Fa F/\u F<=3+3*i/\(F=[]->P)/\SH _ H2 Q ((E,171,[J ra rn rc,J na nn nc])::gb)) ?_ rn ⟨0,F,gb,rfl,N,s,g,N,M,G⟩;clear G s g hl M;rintro m y3 y5 y6 U OH H4 ⟨i,y,iX,rfl,a0,s,g,hl,M,G⟩;refine mG (λhc=>?_) λhc=>?_
 .exact amk V B hB H4 (hm.ex G.ext I) (d.over G) s g N M _ _ _ _ _ _ _ _ _ _ _ _ _ _ _ _ _ _ _
 have hi:i<rn:=N;have⟨r1,o1,zN,u1,f1,w1,c1,a1,e1,hl1,Be,uR,hsz,_⟩:=(V.ex (d.over G).ext).ru hi rc;rw[e1];refine bN ?_;refine ME.uE Be<|G.og O O O λH5 ru G a3=>?_;have G:SH _ H2 H5 ((ru,234,yj zN u1 f1 w1 c1 (rootOf rcs i) a1)::(E,171,[J ra rn rc,J na nn nc])::iX):=G;refine fF ?_;refine ME.aii (hm.ex G.ext I) Dp T7 eqS λay hf hn=>?_
 obtain⟨z,hz⟩:∃z:Int,ay.getD (vi 0)=vi z:=by
  cases ay with
  |none=>exact⟨0,O⟩
  |some v=>
   have⟨j,_,e⟩:=B _<|hf v O;have e:v=W j:=e;exact⟨j,by rw[e];rfl⟩
 rw[hz];refine yl (λad=>?_) λad=>?_
 .refine PU.b3 O<|agu (Pf:=[_]) s g N (fV (A:=[_]) G) (z:=16) jg λw v' H6 Y al ab ac=>?_;refine eD ?_;exact⟨rn-(i+1),N,_,_,_,_,_,_,O,i+1,_,Y,pq,N,al,ab,by rw[aU];show u y+3<=_;omega,λh=>absurd h gB,ac⟩
 .refine eD ?_;exact⟨rn-(i+1),N,_,_,_,_,_,_,O,i+1,y,iX,pq,N,s,g,N,M,fV (A:=[_]) G⟩
def Clean(cs:Nat->Prop)(H:R)(rn:Nat)(rcs:D C)(nn:Nat)(jw:D C):Prop:=Nq cs H rn rcs nn jw/\Iv rcs 0=aA
def Ug(hw:Wf H){rn:Nat}(d:Gr b H ra rn rcs na nn jw):bM Pg X 148 [gV ra rn rc na nn nc] H (Q1 (λv Q=>Iu v Q<|Clean (b<=·) H rn rcs nn jw) H):=by
 have G:=gM hw;refine lF [0,1,2,3,4,5,6,7,8,9,10,11,12,30,31,32,50,51,52,88,89,90] ?_;refine G.box O λH1 E G=>?_;refine fF ?_;have j:=G.ext;refine G.cm (Wo G.wf<|d.ex j) ?_;rintro v H2 ⟨t,rfl,Y⟩ M G;refine sD (λI=>?_) λI=>?_
 .refine PU.b3 O ?_;refine G.bS O O O N λH3 rx G=>?_;have A:=jC.one (cs:=λ_=>True) (n:=1) (es:=3) G (aK ..) O trivial;refine rr ?_;refine⟨⟨_,1,1,_,O,A.1,?_,λh=>by cases h⟩,G.ext⟩;intro i P;have P:i<1:=P;obtain rfl:i=0:=N;exact⟨2,-1,-1,O,jg⟩
 have hs:Nq (b<=·) H rn rcs nn jw:=by
  have h:=Y (by cases t with
   |true=>rfl
   |false=>cases I)
  exact⟨h.1.back d j,h.2⟩
 apply G.qE;have⟨r1,o1,zN,u1,f1,w1,c1,a1,e1,hl1,Be,uR,hsz,he1⟩:=d.ru (i:=0) hs.2.1 rc;rw[show(a_ bC 0)=W 0 from O,e1];refine bN ?_;refine G.CJ (uR 1 _ N O) hl1 ?_;refine sD (λg=>?_) λg=>?_
 .exact PU.b3 O<|agu (Pf:=[_]) (GB.nil _ _) (F:=[]) (λi h=>absurd h gB) gB G (z:=18) jg λw v' U V B s y=>aik d hs.1.2 U y B s gB (λh=>absurd h gB) _ _ _ _ _ _ _ _ _ _ _ _ _ _ _ _ _ _ _ _
 .exact aik d hs.1.2 _ G (GB.nil _ _) (λi h=>absurd h gB) gB (λ_=>⟨hs,by rw[Lj he1];exact g⟩) _ _ _ _ _ _ _ _ _ _ _ _ _ _ _ _ _ _ _ _
def Nt(V:Wf H){rn:Nat}(s:Gr b H ra rn rcs na nn jw):bM Pg X 121 [gV ra rn rc na nn nc] H (Q1 (λv _=>∃z a c:Int,v=dN ⟨[vi z,vi a,vi c]⟩/\(z=0->Clean (b<=·) H rn rcs nn jw)) H):=by
 have G:=gM V;refine lF [0,1,2,3] ?_;refine G.box O λY E G=>?_;refine G.jM λj rf G=>?_;apply G.jl;have g:=G.ext;refine G.cm (Ug G.wf<|s.ex g) ?_;rintro v H2 ⟨a,n,c,F,rfl,A,B,I⟩ M G;refine tJ (λP=>?_) λP=>?_
 .have⟨r,o,e,hr,hrd,_⟩:=A.read N (show 0<n by omega) c;rw[show(a_ bC 0)=W 0 from O,e];refine bN ?_;have⟨z,x,y,he,hz⟩:=B 0 (by have:=A.1;omega);rw[he]at hrd;refine ME.uE hrd<|G.j_ λj G=>rr ?_;exact G.jl<|⟨⟨z,x,y,O,λh=>absurd h hz⟩,G.ext⟩
 .have U:n=0:=N;have d:=I U;refine PU.b3 O<|G.j_ λj G=>rr ?_;exact G.jl<|⟨⟨0,0,0,O,λ_=>⟨⟨d.1.1.back s g,d.1.2⟩,d.2⟩⟩,G.ext⟩
end
end Go.Proofs.Lu
