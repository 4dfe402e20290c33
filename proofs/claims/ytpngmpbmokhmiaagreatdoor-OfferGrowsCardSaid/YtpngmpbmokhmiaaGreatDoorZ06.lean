/-
  Part 06 of the proof. No condition.
-/
import Derived.Test.YtpngmpbmokhmiaaGreatDoorZ05
set_option linter.unusedVariables false
set_option linter.unusedSimpArgs false
set_option maxRecDepth 100000
set_option maxHeartbeats 4000000
set_option linter.defProp false
open Option renaming some->Z,none->T,rec->aP
open Bool renaming true->F,false->aA
open Go renaming Value->D,TypeId->aH
open Go.Value renaming int->bq,slice->u,bool->aR,string->aJ,pointer->bG,tuple->fO,agg->dP,map->fK
open Nat renaming succ->dh,ble->aD
open List renaming length->J,replicate->aY
open Go.ByteArray renaming toList_eq->jb
open Go.IntKind renaming i64->bC
open List.Perm renaming cons->eX
noncomputable section
namespace Go.Proofs.Lu
open Go.Ae Go.Ae.hx
variable{K:D->R->Prop}{H':Int->Prop}{f eY ks l jA rcs:C D}{a a2 na ra ua:aC Addr}{m mm:C (aZ×D)}{b c es i k n nc nn o p r rc rf E uc w:Nat}{e kt t ty vt:aH}{L hx Pf gb GZ:C eB}{H Q H0:R}{v x3:D}{ch root z:Int}{nm:aZ}{cs ok ai:Bool}
section
variable{S:C Nat}{ay:Nat->Prop}
def Nk(kd:Int)(n:Nat):Prop:=(kd=0/\2<=n)\/kd=1\/((kd=2\/kd=3\/kd=4)/\n=1)\/((kd=5\/kd=6\/kd=7)/\n=0)
def aaj(kd:Int)(n:Nat):bQ Pg X 228 [vi kd,B n] H (Q0 (λv=>∃b:Bool,v=aR b/\(b=F->Nk kd n)) H):=by
 have g:∀(b:Bool) E,Co E 12=aR b->(b=F->kd=2\/kd=3\/kd=4)->iG Pg X (sub EH [1,0,1,0,1,1,1,1,1]) (Iq (vi kd) (B n) (aR aA) (vi kd) E H) (uB 0<|uW Pg X (sub EH [1,1])<|jZ Pg [.tmp 4]<|Q0 (λv=>∃b:Bool,v=aR b/\(b=F->Nk kd n)) H):=by
  intro b E j y
  have s:∀E,iG Pg X (sub EH [1,1]) (Iq (vi kd) (B n) (aR aA) (vi kd) E H) (jZ Pg [.tmp 4]<|Q0 (λv=>∃b:Bool,v=aR b/\(b=F->Nk kd n)) H):=λE=>
   by refine tl ?_;refine rr ?_;exact⟨⟨aA,O,λh=>by cases h⟩,rfl⟩
  refine tl ?_;rw[j];refine iI (λj=>?_) λj=>?_
  .refine bM ?_;refine rr ?_;exact⟨⟨_,O,λh=>.inr<|.inr<|.inl ⟨y j,by have:=gG h;omega⟩⟩,rfl⟩
  refine tO (λd=>?_) λd=>?_
  .rw[b_ d];refine bM ?_;refine rr ?_;exact⟨⟨_,O,λh=>.inr<|.inr<|.inr ⟨.inl d,by have:=gG h;omega⟩⟩,rfl⟩
  refine aW (λd=>?_) λd=>?_
  .rw[b_ d];refine bM ?_;refine rr ?_;exact⟨⟨_,O,λh=>.inr<|.inr<|.inr ⟨.inr<|.inl d,by have:=gG h;omega⟩⟩,rfl⟩
  refine aW (λd=>?_) λd=>?_
  .refine rr ?_;exact⟨⟨_,O,λh=>.inr<|.inr<|.inr ⟨.inr<|.inr d,by have:=gG h;omega⟩⟩,rfl⟩
  exact s _
 refine ce [0,1,4,5] ?_;refine tQ (λd=>?_) λd=>?_
 .refine rr ?_;exact⟨⟨_,O,λh=>.inl ⟨d,by have:=gG h;omega⟩⟩,rfl⟩
 refine aW (λd=>?_) λd=>?_
 .refine rr ?_;exact⟨⟨_,O,λh=>.inr<|.inl d⟩,rfl⟩
 refine aW (λd=>?_) λd=>?_
 .exact g _ _ O λ_=>.inl d
 refine aW (λd=>?_) λd=>?_
 .exact g _ _ O λ_=>.inr<|.inl d
 exact g _ _ O λh=>.inr<|.inr (by have:=gG h;omega)
def _root_.Go.Ae.Fl.Re(h:Fl H a n 1 f)(hk:k<n)(c:Nat):∃r o,∃hl:k<J f,B_ 1 (u a n c) (B k)=Z (bG<|Z ⟨r,o,T⟩)/\r<H.bU/\H.cell r o=Z f[k]:=by
 have hl:k<J f:=by have:=h.1;omega
 have⟨r,o,I,W,h3,_⟩:=h.idx (c:=c) (dI 0) hk;exact⟨r,o,hl,I,W,h3 0 _ (dI 0) (by rw[dN,d_];exact av hl)⟩
def NoR(ay:Nat->Prop)(H:R)(i:Nat)(l:C D):Prop:=∃(d:Int)(a:aC Addr)(n c:Nat)(ks:C D)(t:aZ)(g:aC Addr)(s j:Nat)(at':Int),l=[vi d,u a n c,aJ t,u g s j,vi at']/\n<=20001/\t.size<=1000000/\jJ ay 3 H a n 1 ks/\Nk d n/\(∀x∈ks,∃z:Nat,x=B z/\z<i)
def intOf(v:D):Int:=match v with
 |Value.int _ z=>z
 |_=>0
def rootOf(rcs:C D)(i:Nat):Int:=intOf<|(El rcs 7 i)[5]?.getD<|bq bC 0
def PV{a b c d e cs:D}(h:El rcs 7 i=[a,b,c,d,e,vi z,cs]):rootOf rcs i=z:=by unfold rootOf;rw[h];rfl
abbrev gV(ra:aC Addr)(rn rc:Nat)(na:aC Addr)(nn nc:Nat):D:=dP ⟨[u ra rn rc,u na nn nc]⟩
def Du(ay:Nat->Prop)(H:R)(rn:Nat)(rcs:C D)(nn:Nat)(jA:C D):Prop:=(∀i,i<nn->NoR ay H i (El jA 5 i))/\∀i,i<rn->0<=rootOf rcs i/\rootOf rcs i<nn
def Nl(hw:Wf H){rn:Nat}(hG:Gr b H ra rn rcs na nn jA):bQ Pg X 206 [gV ra rn rc na nn nc] H (Q1 (λv _=>∃t:Bool,v=aR t/\(t=F->Du (b<=·) H rn rcs nn jA)) H):=by
 have⟨g1,g2,g3,g4,g5,g6⟩:=hG;have G:=h_ hw;refine lq [0,1,2,3,4,6,8,10,11,12,25,26,27,41,42,43] ?_;refine G.box O λH1 E G=>?_;refine fJ ?_;refine lp8 2 3 4 6 12 25 26 27 (h1:=λm P x3 x4 x6 mP ao ap I Q=>∃i:Nat,P=aR aA/\mP=B i/\i+m=nn/\(∀j,j<i->NoR (b<=·) H j (El jA 5 j))/\SH [] H Q [(E,171,[u ra rn rc,u na nn nc])]) ?_ nn ⟨0,rfl,rfl,N,λj h=>N,G⟩;clear G;rintro m P x3 x4 x6 mP ao ap I oW H2 ⟨i,rfl,rfl,aq,d,G⟩;refine tQ (λW=>?_) λW=>?_
 .have s:i<nn:=N;have⟨r,o,e,hr,hrd,hel,o0,_⟩:=g4.1.read N s nc;rw[e];refine bM ?_;have⟨kd,ka,kn,kc,ks,t,rs,at',he,hk1,hk2,hk3,hk4,hk5⟩:=g6 i s;obtain⟨xa,xn,xc,ar,rfl,R7⟩:=id hk5;rw[he]at hrd;refine G.BU hrd hr<|G.oV O O O λH3 ab G an=>?_;have G:SH [] H H3 [(ab,238,[vi kd,u ka kn kc,aJ t,u xa xn xc,vi at']),(E,171,[u ra rn rc,u na nn nc])]:=G;refine fJ ?_;refine dD (aaj kd kn) ?_;rintro v H4 ⟨⟨t1,rfl,am⟩,rfl⟩;refine G.lJ ?_;refine iI (λhb=>?_) λhb=>?_
  .refine rr ?_;refine⟨⟨aA,O,λh=>by cases h⟩,G.ext⟩
  have Y:=am (by cases t1 with
   |true=>rfl
   |false=>cases hb)
  refine fJ ?_;refine Ik 2 6 27 (h1:=λm P x6 I Q=>∃k:Nat,P=aR aA/\I=B k/\k+m=kn/\(∀j(h:j<J ks),j<k->∃z:Nat,ks[j]=B z/\z<i)/\SH [] H Q [(ab,238,[vi kd,u ka kn kc,aJ t,u xa xn xc,vi at']),(E,171,[u ra rn rc,u na nn nc])]) ?_ kn ⟨0,rfl,rfl,N,λj h h'=>N,G⟩;clear G;rintro m' P x6 I oW H5 ⟨k,rfl,rfl,al,g,G⟩;refine tQ (λW=>?_) λW=>?_
  .have y:k<kn:=N;have⟨r',o',hl,e',hr',Nn⟩:=hk1.1.Re y kc;rw[e'];refine bM ?_;have⟨z,hz⟩:=hk3 _<|bH hl;rw[hz]at Nn;refine G.CO Nn hr' ?_;refine tO (λU=>?_) λU=>?_
   .refine rr ?_;exact⟨⟨aA,O,λh=>by cases h⟩,G.ext⟩
   refine aW (λV=>?_) λV=>?_
   .refine rr ?_;exact⟨⟨aA,O,λh=>by cases h⟩,G.ext⟩
   refine eG ?_;refine⟨kn-(k+1),N,_,_,_,_,_,O,k+1,O,pJ,N,λj hj ag=>?_,G⟩;rcases dH j k with h|h
   .exact g j hj h
   .obtain rfl:j=k:=N;exact⟨z.toNat,by rw[hz];congr 1;omega,N⟩
  refine tp ?_;refine eG ?_;refine⟨nn-(i+1),N,_,_,_,_,_,_,_,_,_,_,O,i+1,O,pJ,N,λj hj=>?_,fU (A:=[_]) G⟩;rcases dH j i with h|h
  .exact d j h
  .obtain rfl:j=i:=N;refine⟨kd,ka,kn,kc,ks,t,xa,xn,xc,at',he,hk2,hk4,hk1,Y,λx M=>?_⟩;obtain⟨j',ad,rfl⟩:=iO M;exact g j' ad (by have:=hk1.1.1;omega)
 have s:i=nn:=N;subst s;refine tm ?_;refine Ik 2 8 43 (h1:=λm P x8 ac Q=>∃k:Nat,P=aR aA/\ac=B k/\k+m=rn/\(∀j,j<k->0<=rootOf rcs j/\rootOf rcs j<i)/\SH [] H Q [(E,171,[u ra rn rc,u na i nc])]) ?_ rn ⟨0,rfl,rfl,N,λj h=>N,G⟩;clear G;rintro m' P x8 ac oW H5 ⟨k,rfl,rfl,al,g,G⟩;refine tQ (λW=>?_) λW=>?_
 .have y:k<rn:=N;have⟨r,o,e,hr,hrd,hel,o0,_⟩:=g1.1.read N y rc;rw[e];refine bM ?_;have⟨nm,ai,cs,w,ch,root,at',he,hnm⟩:=g3 k y;rw[he]at hrd;refine G.BU hrd hr<|G.oV O O O λH3 ru G an=>?_;have G:SH [] H H3 [(ru,234,yw nm ai cs w ch root at'),(E,171,[u ra rn rc,u na i nc])]:=G;refine yz (λU=>?_) λU=>?_
  .refine rr ?_;exact⟨⟨aA,O,λh=>by cases h⟩,G.ext⟩
  refine yz (λV=>?_) λV=>?_
  .refine rr ?_;exact⟨⟨aA,O,λh=>by cases h⟩,G.ext⟩
  refine eG ?_;refine⟨rn-(k+1),N,_,_,_,_,_,O,k+1,O,pJ,N,λj ag=>?_,fU (A:=[_]) G⟩;rcases dH j k with h|h
  .exact g j h
  .obtain rfl:j=k:=N;rw[PV he];omega
 refine tl<|rr ?_;exact⟨⟨F,O,λ_=>⟨λj hj=>d j hj,λj hj=>g j N⟩⟩,G.ext⟩
def Gr.ru{rn:Nat}(s:Gr b H ra rn rcs na nn jA)(hi:i<rn)(c:Nat):∃(r o:Nat)(nm:aZ)(ai cs w:Bool)(ch at':Int),B_ 7 (u ra rn c) (B i)=Z (bG<|Z ⟨r,o,T⟩)/\r<H.bU/\H.read r o 7=Z (yw nm ai cs w ch (rootOf rcs i) at')/\(∀g x,g<7->(yw nm ai cs w ch (rootOf rcs i) at')[g]?=Z x->H.cell r (o+g)=Z x)/\nm.size<=1000000/\El rcs 7 i=yw nm ai cs w ch (rootOf rcs i) at':=by
 have⟨g1,g2,g3,g4,g5,g6⟩:=s;have⟨r,o,e,hr,hrd,hel,o0,e0,ho⟩:=g1.1.read N hi c;have⟨r',o',e',hr',hcl,_⟩:=g1.1.idx (c:=c) N hi;rw[e]at e';cases e';have⟨nm,ai,cs,w,ch,root,at',d,hnm⟩:=g3 i hi;rw[PV d];have d:El rcs 7 i=yw nm ai cs w ch root at':=d;refine⟨r,o,nm,ai,cs,w,ch,at',e,hr,d▸hrd,λg x j M=>hcl g x j ?_,hnm,d⟩;rw[<-d,oL,if_pos j]at M;exact M
def Gr.no{rn:Nat}(j:Gr b H ra rn rcs na nn jA)(hi:i<nn)(c:Nat)(hl:El jA 5 i=l):∃(r o:Nat),B_ 5 (u na nn c) (B i)=Z (bG<|Z ⟨r,o,T⟩)/\r<H.bU/\H.read r o 5=Z l/\∀d x,d<5->l[d]?=Z x->H.cell r (o+d)=Z x:=by
 have⟨g1,g2,g3,g4,g5,g6⟩:=j;have⟨r,o,e,hr,hrd,hel,o0,e0,ho⟩:=g4.1.read N hi c;have⟨r',o',e',hr',hcl,_⟩:=g4.1.idx (c:=c) N hi;rw[e]at e';cases e';refine⟨r,o,e,hr,hl▸hrd,λd x g M=>hcl d x g ?_⟩;rw[<-hl,oL,if_pos g]at M;exact M
def Fl.uniq{cs':C D}(h:Fl H a n es f)(d:Fl H a n es cs'):f=cs':=by
 apply ja<|h.1.trans d.1.symm;intro i I W;have⟨r,o,e,_,hc⟩:=h.2 i _<|av I;have⟨r',o',e',_,hc'⟩:=d.2 i _<|av W;rw[e]at e';cases e';rw[hc]at hc';exact eF hc'
def NoR.back(d:NoC ay H l)(M:Ext H Q)(h:NoR ay Q i l):NoR ay H i l:=by
 have⟨kd,a,n,c,ks,t,rs,at',e,I,W,h3,h4,h5⟩:=d;have⟨kd',a',n',c',ks',t',xa,xn,xc,T6,e',g1,g2,g3,g4,g5⟩:=h;rw[e]at e';cases e';have:=Fl.uniq (I.ex M).1 g3.1;subst this;exact⟨kd,a,n,c,ks,t,xa,xn,xc,at',e,g1,g2,I,g4,g5⟩
def NoR.ex(M:Ext H Q)(h:NoR ay H i l):NoR ay Q i l:=by
 have⟨kd',a',n',c',ks',t',xa,xn,xc,T6,e',g1,g2,g3,g4,g5⟩:=h;exact⟨kd',a',n',c',ks',t',xa,xn,xc,T6,e',g1,g2,g3.ex M,g4,g5⟩
def Gr.ex{rn:Nat}(d:Gr b H ra rn rcs na nn jA)(M:Ext H Q):Gr b Q ra rn rcs na nn jA:=by
 have⟨g1,g2,g3,g4,g5,g6⟩:=d;exact⟨g1.ex M,g2,g3,g4.ex M,g5,λi g=>(g6 i g).st M nofun⟩
def Du.back{rn:Nat}(g:Gr b H ra rn rcs na nn jA)(M:Ext H Q)(h:Du (b<=·) Q rn rcs nn jA):Du (b<=·) H rn rcs nn jA:=
 ⟨λi d=>(h.1 i d).back (g.2.2.2.2.2 i d) M,h.2⟩
def Nq(ay:Nat->Prop)(H:R)(rn:Nat)(rcs:C D)(nn:Nat)(jA:C D):Prop:=Du ay H rn rcs nn jA/\1<=rn/\∀i,i+1<rn->rootOf rcs i<rootOf rcs (i+1)
def Wd(hw:Wf H){rn:Nat}(d:Gr b H ra rn rcs na nn jA):bQ Pg X 176 [gV ra rn rc na nn nc] H (Q1 (λv _=>∃t:Bool,v=aR t/\(t=F->Nq (b<=·) H rn rcs nn jA)) H):=by
 have G:=h_ hw;have g2:=d.2.1;refine lq [0,1,2,3] ?_;refine G.box O λH1 E G=>?_;refine yz (λy=>?_) λy=>?_
 .refine rr ?_;exact⟨⟨aA,O,λh=>by cases h⟩,G.ext⟩
 apply G.jC;have s:=G.ext;refine G.cm (Nl G.wf<|d.ex s) ?_;rintro v U ⟨t,rfl,ht⟩ M G;refine sD (λA=>?_) λA=>?_
 .refine rr ?_;exact⟨⟨aA,O,λh=>by cases h⟩,G.ext⟩
 have V:=Du.back d s (ht (by cases t with
  |true=>rfl
  |false=>cases A))
 refine tl ?_;refine lp2 2 3 (h1:=λm P x3 Q=>∃i:Nat,P=aR aA/\x3=B i/\1<=i/\i+m=rn/\(∀j,j+1<i->rootOf rcs j<rootOf rcs (j+1))/\SH [] H Q [(E,171,[u ra rn rc,u na nn nc])]) ?_ (rn-1) ⟨1,rfl,rfl,N,N,λj h=>N,G⟩;clear G;rintro m P x3 oW U ⟨i,rfl,rfl,W,Y,I,G⟩;refine aab (λy=>?_) λy=>?_
 .have⟨r1,o1,zY,u1,f1,w1,c1,a1,e1,hl1,Br,uX,_,_⟩:=d.ru (i:=i) N rc;have⟨r2,o2,nm2,u2,f2,w2,c2,a2,e2,hl2,aak,xF,_,_⟩:=d.ru (i:=i-1) N rc;refine fJ ?_;rw[e1];refine G.lJ ?_;refine G.Jq (uX 5 _ N O) hl1 ?_;refine fJ ?_;refine q_ ?_;rw[show((i:Int)-1)=((i-1:Nat):Int) by omega,e2];refine G.lJ ?_;refine G.Jq (xF 5 _ N O) hl2 ?_;refine yz (λg=>?_) λg=>?_
  .refine rr ?_;exact⟨⟨aA,O,λh=>by cases h⟩,G.ext⟩
  refine eG ?_;refine⟨rn-(i+1),N,_,_,_,_,O,i+1,O,pJ,N,N,λj hj=>?_,G⟩;rcases dH (j+1) i with h|h
  .exact I j h
  .obtain rfl:i=j+1:=N;rw[jl]at g;omega
 refine tl<|rr ?_;exact⟨⟨F,O,λ_=>⟨V,N,λj hj=>I j N⟩⟩,G.ext⟩
def PW(y:Wf H){rn:Nat}(d:Gr b H ra rn rcs na nn jA)(hi:i<rn)(g:∀j,j<rn->0<=rootOf rcs j/\rootOf rcs j<nn):bQ Pg X 178 [gV ra rn rc na nn nc,B i] H (Q1 (λv _=>∃k:Nat,v=B k/\k<=nn) H):=by
 have G:=h_ y;have I:=d.2.1;have g5:=d.2.2.2.2.1;refine lq [0,1,2,4] ?_;refine G.box O λA E G=>?_;refine G.lJ ?_;refine aW (λs=>?_) λs=>?_
 .refine rr ?_;exact⟨⟨0,O,N⟩,G.ext⟩
 apply G.qF;have⟨r2,o2,nm2,u2,f2,w2,c2,a2,e2,hl2,aak,xF,_,_⟩:=d.ru (i:=i-1) N rc;refine q_ ?_;rw[show((i:Int)-1)=((i-1:Nat):Int) by omega,e2];refine G.lJ ?_;refine G.CO (xF 5 _ N O) hl2 ?_;have M:=g (i-1) N;refine eG ?_;refine rr ?_;exact⟨⟨(rootOf rcs (i-1)+1).toNat,by show vi _=vi (((rootOf rcs (i-1)+1).toNat:Nat):Int);rw[Int.toNat_of_nonneg N],N⟩,G.ext⟩
end
section
variable{S:C Nat}{ay:Nat->Prop}
abbrev mkE(m:C<|aZ×D):C (D×D):=m.map λp=>(aJ p.1,p.2)
def wF(H:R)(r:Nat)(m:C<|aZ×D):Prop:=r<H.bU/\H.obj r=.map (mkE m)
def wF.ex(h:wF H r m)(M:pI S H Q)(d:r∉S):wF Q r m:=⟨aO h.1 M.bU,(M.obj r h.1 d).trans h.2⟩
def _root_.Go.Ae.SH.Gv(G:SH S H0 H L)(h:wF H r m):r∉L.map (·.1):=λg=>by
 obtain⟨e,d,rfl⟩:=bP.1 g;have⟨az,I,_⟩:=G.bk e d;rw[h.2]at I;cases I
def adD{a b:aZ}(h:tZ a b=F):a=b:=by
 rw[AF]at h;have h:=eq_of_beq h;rw[jb,jb]at h;exact vM<|jN.1 h
def Gx(a:aZ):tZ a a=F:=by rw[AF];exact beq_self_eq_true _
def PX(ht:∀a b,mU Pg t (aJ a) (aJ b)=Z (tZ a b))(k:aZ):∀(m:C<|aZ×D)(i:Nat),∃cs:aC<|Nat×D,t_ Pg t (aJ k) (mkE m) i=Z cs/\(∀j v,cs=Z (j,v)->i<=j/\m[j-i]?=Z (k,v))/\(cs=T->∀p∈m,p.1≠k):=by
 intro m
 induction m with
 |nil=>exactλi=>⟨T,rfl,λj v h=>by(cases h),nofun⟩
 |cons p m d=>
  intro i;show∃cs,(aN (mU Pg t (aJ k)<|aJ p.1) λb=>cr b (Z<|Z (i,p.2))<|t_ Pg t (aJ k) (mkE m)<|dh i)=Z cs/\_;rw[ht];cases hb:tZ k p.1 with
  |true=>
   have:=adD hb;refine⟨Z (i,p.2),O,λj v h=>?_,λh=>by cases h⟩;cases h;exact⟨ax _,by rw[kN,this];rfl⟩
  |false=>
   have⟨cs,I,W,h3⟩:=d<|dh i;refine⟨cs,I,λj v h=>?_,λh q hq=>?_⟩
   .have⟨g1,g2⟩:=W j v h;refine⟨N,?_⟩;rw[show j-i=(j-i.succ)+1 by omega];exact g2
   .rcases bW.1 hq with rfl|hq
    .intro e;rw[<-e,Gx]at hb;cases hb
    .exact h3 h q hq
def ME.look{z:D}{k:aZ}(y:wF H r m)(I:vz Pg t=Z (kt,vt))(W:zw Pg vt=Z z)(g:∀a b,mU Pg kt (aJ a) (aJ b)=Z (tZ a b))(kk:∀cs:aC D,(∀v,cs=Z v->(k,v)∈m)->(cs=T->∀p∈m,p.1≠k)->K (okd ok (cs.getD z) cs.isSome H).1 H):ME (uT Pg t (fK<|Z r) (aJ k) ok H) K:=by
 have⟨cs,e,g1,g2⟩:=PX g k m 0
 have s:Bw Pg kt (aJ k)=Z ():=by
  show aN (mU Pg kt (aJ k)<|aJ k) _=_;rw[g,Gx];rfl
 have d:mapOf H (fK<|Z r)=Z (mkE m):=by
  show LG (H.obj r)=_;rw[y.2];rfl
 have:uT Pg t (fK<|Z r) (aJ k) ok H=Z (okd ok ((cs.map (·.2)).getD z) (cs.map (·.2)).isSome H):=by
  show(aN (vz Pg t) λq=>aN (zw Pg q.2) λz=>aN (mapOf H<|fK<|Z r) λes=>aN (Bw Pg q.1<|aJ k) λ_=>aN (t_ Pg q.1 (aJ k) es 0) λcs=>_)=_;rw[I];show(aN (zw Pg vt) λz=>aN (mapOf H<|fK<|Z r) λes=>aN (Bw Pg kt<|aJ k) λ_=>aN (t_ Pg kt (aJ k) es 0) λcs=>_)=_;rw[W,d,s];show aN (t_ Pg kt (aJ k) (mkE m) 0) _=_;rw[e];cases cs<;>rfl
 have j:=kk (cs.map (·.2)) (λv h=>?_) λh=>?_
 .rw[this];cases ok<;>exact ME.of O j
 .cases cs with
  |none=>cases h
  |some p=>cases h;exact aV (g1 p.1 p.2 O).2
 .cases cs with
  |none=>exact g2 O
  |some p=>cases h
def _root_.Go.Ae.SH.upd{k:aZ}(G:SH S H0 H L)(N:r∈S\/H0.bU<=r)(d:wF H r m)(I:vz Pg t=Z (kt,vt))(s:∀a b,mU Pg kt (aJ a) (aJ b)=Z (tZ a b))(kk:∀Q m',wF Q r m'->(∀p∈m',p∈m\/p=(k,v))->SH S H0 Q L->K undef Q):ME (w_ Pg t (fK<|Z r) (aJ k) v H) K:=by
 have⟨cs,e,g1,g2⟩:=PX s k m 0
 have B:Bw Pg kt (aJ k)=Z ():=by
  show aN (mU Pg kt (aJ k)<|aJ k) _=_;rw[s,Gx];rfl
 have j:∃m',(∀p∈m',p∈m\/p=(k,v))/\w_ Pg t (fK<|Z r) (aJ k) v H=Z (undef,H.put r<|.map<|mkE m'):=by
  have:w_ Pg t (fK<|Z r) (aJ k) v H=@aP (Nat×D) (λ_=>aC<|D×R) (Z (undef,H.put r<|.map<|app (mkE m) [(aJ k,v)])) (λp=>Z (undef,H.put r<|.map<|setAt (aJ k,v) p.1<|mkE m)) cs:=by
   show(aN (vz Pg t) λq=>aN (LG<|H.obj r) λes=>aN (Bw Pg q.1<|aJ k) λ_=>aN (t_ Pg q.1 (aJ k) es 0) λcs=>_)=_;rw[I];show(aN (LG<|H.obj r) λes=>aN (Bw Pg kt<|aJ k) λ_=>aN (t_ Pg kt (aJ k) es 0) λcs=>_)=_;rw[d.2,B];show aN (t_ Pg kt (aJ k) (mkE m) 0) _=_;rw[e];rfl
  rw[this];cases cs with
  |none=>
   refine⟨m++[(k,v)],λp g=>?_,?_⟩
   .rcases cK.1 g with h|h
    .exact .inl h
    .exact .inr<|nZ h
   .show Z (undef,H.put r<|.map<|app (mkE m) [(aJ k,v)])=_;rw[uq];simp[mkE]
  |some q=>
   refine⟨m.set q.1 (k,v),λp g=>?_,?_⟩
   .rcases iX g with h|h
    .exact .inl h
    .exact .inr h
   .show Z (undef,H.put r<|.map<|setAt (aJ k,v) q.1<|mkE m)=_;rw[Cj];simp[mkE,gz]
 have⟨m',hm',e'⟩:=j;refine ME.of e'<|kk _ m' ⟨d.1,by rw[wS,if_pos O]⟩ hm' ?_;have M:=SH.Gv G d;refine⟨pI.later G.ext (pI.put H r _) (λq A=>by rw[aT]at A;subst A;exact N),λe y=>(G.bk e y).iE ?_,G.lo,G.ne,?_⟩
 .rw[wS,if_neg λh=>M (by rw[<-h];exact bP.2 ⟨e,y,O⟩)]
 .rw[wT];have:=G.wf;show min H.low r<=H.bU;omega
theorem ME.mkMap{q:aH×aH}{n:Int}(G:SH S H0 H L)(I:vz Pg t=Z q)(kk:∀Q r,wF Q r []->Ext H Q->H.bU<=r->SH S H0 Q L->K (fK<|Z r) Q):ME (vD Pg t (Z<|vi n) H) K:=by
 refine ME.of (v:=fK<|Z H.bU) (H:=H.new<|.map []) ?_<|kk _ _ ⟨dI _,by rw[yf,if_pos O];rfl⟩ (Ext.new _ _) (ax _)<|G.call<|Ext.new _ _;show aN (vz Pg t) _=_;rw[I];rfl
def ME.Kn{z:D}{k:aZ}(g:wF H r m)(I:vz Pg t=Z (kt,vt))(W:zw Pg vt=Z z)(d:∀a b,mU Pg kt (aJ a) (aJ b)=Z (tZ a b))(kk:∀cs:aC D,(∀v,cs=Z v->(k,v)∈m)->(cs=T->∀p∈m,p.1≠k)->K (fO ⟨[cs.getD z,aR cs.isSome]⟩) H):ME (uT Pg t (fK<|Z r) (aJ k) F H) K:=ME.look g I W d kk
def ME.aii{z:D}{k:aZ}(g:wF H r m)(I:vz Pg t=Z (kt,vt))(W:zw Pg vt=Z z)(d:∀a b,mU Pg kt (aJ a) (aJ b)=Z (tZ a b))(kk:∀cs:aC D,(∀v,cs=Z v->(k,v)∈m)->(cs=T->∀p∈m,p.1≠k)->K (cs.getD z) H):ME (uT Pg t (fK<|Z r) (aJ k) aA H) K:=ME.look g I W d kk
def Dv:vz Pg 236=Z (9,3):=fT
def T7:zw Pg 3=Z (vi 0):=fT
def eqS(a b:aZ):mU Pg 9 (aJ a) (aJ b)=Z (tZ a b):=fT
def Rf(rn:Nat)(m:C<|aZ×D):Prop:=∀p∈m,∃i:Nat,i<rn/\p.2=B i
def We(hw:Wf H){rn:Nat}(hG:Gr b H ra rn rcs na nn jA):bQ Pg X 177 [gV ra rn rc na nn nc] H λv Q=>∃r m,v=fK (Z r)/\wF Q r m/\Rf rn m/\Ext H Q/\H.bU<=r:=by
 have G:=h_ hw;have g2:=hG.2.1;refine lq [0,1,2,3,4,5,7,13,14,15] ?_;refine G.box O λH1 E G=>?_;refine fJ ?_;have ac:=G.ext.bU;refine ME.mkMap G Dv λH2 r g M hr G=>?_;refine fJ ?_;refine PO 4 5 7 15 (h1:=λm x4 x5 x7 U Q=>∃(i:Nat)(mm:C<|aZ×D),U=B i/\i+m=rn/\wF Q r mm/\Rf rn mm/\SH [] H Q [(E,171,[u ra rn rc,u na nn nc])]) ?_ rn ⟨0,[],rfl,N,g,nofun,G⟩;have y:H.bU<=r:=N;clear G g;rintro m x4 x5 x7 U oW H3 ⟨i,mm,rfl,ad,g,j,G⟩;refine tQ (λhc=>?_) λhc=>?_
 .have⟨r1,o1,zY,u1,f1,w1,c1,a1,e1,hl1,Br,uX,hsz,_⟩:=hG.ru (i:=i) N rc;rw[e1];refine bM ?_;refine G.BU Br hl1<|G.oV O O O λH4 ru G ab=>?_;have g:=g.ex ab<|nofun;have G:SH [] H H4 [(ru,234,yw zY u1 f1 w1 c1 (rootOf rcs i) a1),(E,171,[u ra rn rc,u na nn nc])]:=G;refine fJ ?_;refine ME.Kn g Dv T7 eqS λcs hf hn=>?_;refine G.lJ ?_
  have next:∀x(s:R) d BH,wF s r d->Rf rn d->SH [] H s [(ru,234,yw zY u1 f1 w1 c1 (rootOf rcs i) a1),(E,171,[u ra rn rc,u na nn nc])]->∃P,P<m/\EL (gV ra rn rc na nn nc) (bG<|Z ⟨E,0,T⟩) (.map T) (fK<|Z r) (u ra rn rc) (B rn) (λm x4 x5 x7 U Q=>∃(i:Nat)(mm:C<|aZ×D),U=B i/\i+m=rn/\wF Q r mm/\Rf rn mm/\SH [] H Q [(E,171,[u ra rn rc,u na nn nc])]) P (EK (gV ra rn rc na nn nc) (bG<|Z ⟨E,0,T⟩) (.map T) (fK<|Z r) (B i) (bG<|Z ⟨ru,0,T⟩) x (u ra rn rc) (B rn) (vi<|(i:Int)+1) BH s):=by
   intro x s d BH I W h3;exact⟨rn-(i+1),N,_,_,_,_,_,_,O,i+1,d,pJ,N,I,W,fU (A:=[_]) h3⟩
  refine iI (λhb=>?_) λhb=>?_
  .refine G.qF<|G.upd (.inr y) g Dv eqS λs d V Y G=>?_;refine eG ?_;refine next _ _ _ _ V (λp hp=>?_) G
   rcases Y p hp with h|rfl
   .exact j p h
   .exact⟨i,N,O⟩
  .refine eG ?_;exact next _ _ _ _ g j G
 refine tl<|rr ?_;exact⟨r,mm,O,g,j,G.ext,y⟩
end
section
variable{S:C Nat}{ay:Nat->Prop}
theorem Wh(hw:Wf H){rn:Nat}(N:Gr b H ra rn rcs na nn jA)(hm:wF H r m)(y:Rf rn m){w:Bool}{at' kd g:Int}{P c2:Nat}{t:aZ}:
 bQ Pg X 179 [gV ra rn rc na nn nc,fK<|Z r,dP ⟨yw nm ai cs w ch root at'⟩,dP ⟨[vi kd,u a n c,aJ t,u a2 P c2,vi g]⟩] H (Q1 (λv _=>∃z:Int,v=vi z) H):=by
 have G:=h_ hw;have g2:=N.2.1;refine lq [0,1,2,3,4,6,7,8,9,10,11,13] ?_;refine G.box O λM E G=>?_;refine G.box O λM rr G=>?_;refine G.box O λM I G=>?_;refine yz (λj=>?_) λj=>?_
 .refine QX (λd=>?_) λd=>?_
  .refine Lu.rr ?_;exact⟨⟨_,O⟩,G.ext⟩
  .refine Lu.rr ?_;exact⟨⟨_,O⟩,G.ext⟩
 refine nN (λj=>?_) λj=>?_
 .refine Lu.rr ?_;exact⟨⟨_,O⟩,G.ext⟩
 apply G.qF;have s:=hm.ex G.ext<|nofun;refine ME.Kn s Dv T7 eqS λW Y hn=>?_;refine G.lJ ?_;refine iI (λd=>?_) λd=>?_
 .refine Lu.rr ?_;exact⟨⟨_,O⟩,G.ext⟩
 cases W with
 |none=>cases d
 |some v=>
  have⟨i,hi,A⟩:=y _<|Y v O;have A:v=B i:=A;subst A;have⟨r1,o1,zY,u1,f1,w1,c1,a1,e1,hl1,Br,uX,hsz,_⟩:=N.ru (i:=i) hi rc;simp only[p_];apply G.qF;rw[e1];refine G.lJ ?_;refine G.BU Br hl1<|G.oV O O O λU ru G ab=>?_;have G:SH [] H U [(ru,234,yw zY u1 f1 w1 c1 (rootOf rcs i) a1),(I,238,[vi kd,u a n c,aJ t,u a2 P c2,vi g]),(rr,234,yw nm ai cs w ch root at'),(E,171,[u ra rn rc,u na nn nc])]:=G
  repeat' (first|(refine Lu.rr ?_;exact⟨⟨_,O⟩,G.ext⟩)|(refine aW (λj=>?_) λj=>?_)|(refine iI (λd=>?_) λd=>?_)|first|(refine G.lJ ?_)|(refine PU.b1 O ?_)|(refine PU.b2 O ?_)|(refine PU.b3 O ?_)|(refine PU.b4 O ?_)|(refine PU.b5 O ?_)|(refine PU.b6 O ?_)|(refine PU.b7 O ?_)|(refine PU.b8 O ?_)|(refine PU.b9 O ?_)|(refine G.qF ?_)|(refine G.jC ?_)|(refine G.VI ?_)|(refine G.PD ?_)|(refine G.kE λV G=>?_)|(refine G.n_ λV G=>?_)|(refine acs ?_))
end
section
variable{S:C Nat}{ay:Nat->Prop}
def T9(v:D):bQ Pg X 208 [v,vi 0,vi 0] H λ_ Q=>Q=H:=by
 refine lq [0,1,2,6,7] ?_;refine eG ?_;refine lp2 6 7 (h1:=λm d g Q=>d=vi 1/\Q=H) ?_ 0 ⟨rfl,rfl⟩;rintro m d g E Q ⟨rfl,rfl⟩;refine tp ?_;rw[dR N];refine bM ?_;refine rn ?_;exact O
def amh(v l:D):bQ Pg X 190 [v,vi 0,vi 0,l] H λ_ Q=>Q=H:=by
 refine lq [0,1,2,3,8,9,10,11,12,13,14,15,16,17,18] ?_;refine alZ 1 2 3 8 9 10 11 12 13 14 15 16 17 18 (h1:=λk d g x3 V W y A M B U I P s j Q=>d=vi 0/\g=vi 0/\Q=H) ?_ 0 ⟨rfl,rfl,rfl⟩;rintro k d g x3 V W y A M B U I P s j E Q ⟨rfl,rfl,rfl⟩;refine tl ?_;refine q_ ?_;refine bM ?_;rw[b_ N];refine bM ?_;refine dD (T9 _) ?_;rintro _ _ rfl;refine rr ?_;exact O
def Yz(ho:X.o 160 [u a 0 c] H=T):bQ Pg X 160 [u a 0 c] H λv Q=>Q=H:=by
 refine ce [0,2] (ho:=ho) ?_;refine tp ?_;rw[Ew (u64_in N)];refine dD (Nh _ N N) ?_;rintro v Q ⟨⟨l,rfl,I,_⟩,rfl⟩;refine dD (amh _ _) ?_;rintro v d rfl;refine rn ?_;exact O
def adE:bQ Pg X 160 [u T 0 0] H λv Q=>Q=H:=Yz fT
def Nr(j:n<=1000000)(d:Nm H' r ty n H0 H L):bQ Pg X 160 [sl r n c] H λv Q=>Nm H' r ty n H0 Q L:=by
 obtain _|m:=n
 .refine dD (Yz fT) ?_;rintro v g rfl;exact d
 have⟨g,e,d⟩:=SB.put al0 (rest:=[]) (c:=c) (λl ⟨z,h,_⟩=>⟨z,h⟩) N d;exact bQ.orc (v:=fO ⟨[]⟩) (Q:=g) e d
def _root_.Go.Ae.SB.i1N(h:SB (Jr H') r ty 1 n H0 H L)(d:o<n)(k:∀x,H' x->K (vi x) H):ME (wR T (bG<|Z ⟨r,o,T⟩) H) K:=by
 have:=SB.i1 h (z:=(o:Int)) N N k
 rwa [show((o:Int).toNat*1)=o by omega]at this
def _root_.Go.Ae.SB.acr(h:SB (Jr H') r ty 1 n H0 H L)(d:o<n)(k:∀x,H' x->K (vi x) (hN H)):ME (wR T (bG<|Z ⟨r,o,T⟩)<|hN H) K:=SB.i1N h.zD d k
def _root_.Go.Ae.SB.iwN(h:SB (Jr H') r ty 1 n H0 H L)(d:o<n){x:Int}(M:H' x)(k:∀H1,SB (Jr H') r ty 1 n H0 H1 L->K undef H1):ME (Es 1 (bG<|Z ⟨r,o,T⟩) (vi x) H) K:=by
 have:=SB.iw h (z:=(o:Int)) N N M k
 rwa [show((o:Int).toNat*1)=o by omega]at this
def sV(h:k<n):B_ 1 (u (Z ⟨r,o,T⟩) n c) (B k)=Z (bG<|Z ⟨r,o+k,T⟩):=by rw[uQ h,dN]
def Wi(h:w<=n):R4 1 (u (Z ⟨r,o,T⟩) n<|gQ 1) (Z<|B w) T T=Z (u (Z ⟨r,o+w,T⟩) (n-w)<|gQ 1):=by rw[Tv h,dN]
def _root_.Go.Ae.SB.clr(h:SB (Jr H') r ty 1 n H0 H L)(B:w<=n)(k:∀H1,SB (Jr H') r ty 1 w H0 H1 L->K (fO ⟨[]⟩) H1):ME (clA [bq bC 0] (u (Z ⟨r,w,T⟩) (n-w)<|gQ 1) H) K:=by
 have⟨f,I,W,G⟩:=h;have A:J (pV [bq bC 0]<|n-w)=n-w:=by rw[Sn];simp
 have⟨H1,e,hS1,_⟩:=G.zl 0 (r:=r) (o:=w) (vs:=pV [bq bC 0]<|n-w) O N (by
  rw[mK]
  induction n-w with
  |zero=>rfl
  |succ d s=>exact s)
 have:clA [bq bC 0] (u (Z ⟨r,w,T⟩) (n-w)<|gQ 1) H=Z (fO ⟨[]⟩,H1):=by
  show(aN (H.write r w<|pV [bq bC 0]<|n-w) λQ=>Z (fO #[],Q))=_;rw[e];rfl
 refine ME.of this<|k H1 ⟨splice f w<|pV [bq bC 0]<|n-w,?_,λj y=>?_,hS1⟩
 .rw[og N];omega
 .have g:El (splice f w<|pV [bq bC 0]<|n-w) 1 j=El f 1 j:=by
   apply iV;intro i;rw[oL,oL,sN N]
   by_cases hi:i<1
   .rw[if_pos hi,if_pos hi,if_neg N]
   .rw[if_neg hi,if_neg hi]
  rw[g];exact W j N
def _root_.Go.Ae.SB.less(h:SB (Jr H') r ty 1 n H0 H L)(g:w<=n):SB (Jr H') r ty 1 w H0 H L:=by
 have⟨f,I,W,G⟩:=h;exact⟨f,N,λk d=>W k N,G⟩
theorem Iy(hn:n<=1000000)(d:Nm H' r ty n H0 H L):bQ Pg X 162 [sl r n (gQ 1)] H λv Q=>∃n',n'<=n/\v=sl r n' (gQ 1)/\Nm H' r ty n' H0 Q L:=by
 refine ce [0,2,3,4,5] ?_;refine tQ (λhc=>?_) λhc=>?_
 .refine rr ?_;exact⟨n,ax _,O,d⟩
 refine PO 2 3 4 5 (h1:=λm x2 x3 x4 A Q=>∃k:Nat,x3=B k/\1<=k/\k+m=n/\Nm H' r ty n H0 Q L) ?_ (n-1) ⟨1,rfl,N,N,d⟩;clear d;rintro m x2 x3 x4 A E H1 ⟨k,rfl,ab,ac,d⟩;refine lX (λP=>?_) λP=>?_
 .refine tl<|rr ?_;exact⟨n,ax _,O,d⟩
 refine dA (sV N)<|d.acr N λx M=>?_
 repeat(first|(refine d.lJ ?_)|(with_reducible refine q_ ?_)|(with_reducible refine PK ?_)|(with_reducible refine d.i1Q N N λz hz=>?_)|(refine anV ?_))
 refine nN (λU=>?_) λU=>?_
 .refine eG ?_;exact⟨n-(k+1),N,_,_,_,_,_,_,O,k+1,pJ,N,N,d⟩
 refine dA (Wi N)<|lp2 3 5 (h1:=λs x3 A Q=>∃j g:Nat,x3=B j/\A=B g/\1<=g/\j<=k+g/\k+g<=n/\j+1<=k+g/\k+g+s=n/\Nm H' r ty n H0 Q L) ?_ (n-k-1) ⟨k,1,rfl,rfl,N,N,N,N,N,d⟩;clear d;rintro s x3 A E H2 ⟨j,g,rfl,rfl,I,W,h3,h4,h5,d⟩;refine lX (λV=>?_) λV=>?_
 .refine tl ?_;refine dA (Wi N) ?_;rw[bB];refine d.clr N λH3 d=>dA (BV N) ?_;refine bM ?_;refine rr ?_;exact⟨j,N,O,d⟩
 refine dA (sV N)<|d.acr N λx M=>?_;refine q_ ?_;rw[show((g:Int)-1)=((g-1:Nat):Int) by omega];refine dA (sV N) ?_;simp only[iT d.wf];refine d.acr N λy hy=>?_;refine bM ?_;refine ji (by simp only[fu];rfl) ?_;simp only[iT d.wf];refine fP (λY=>?_) λY=>?_
 .refine dA (sV N)<|d.i1N N λx M=>dA (sV N) ?_;rw[bB];refine d.iwN N M λH3 d=>?_;refine eG ?_;refine eG ?_;exact⟨s-1,N,_,_,_,_,O,j+1,g+1,by rw[show((j:Int)+1)=((j+1:Nat):Int) by omega],pJ,N,N,N,N,N,d⟩
 .refine eG ?_;exact⟨s-1,N,_,_,_,_,O,j,g+1,O,pJ,N,N,N,N,N,d⟩
def T_:bQ Pg X 162 [u T 0 0] H λv Q=>v=u T 0 0/\Q=H:=by
 refine GY [0,2,3,4,5] ?_;rw[b_ N];refine bM ?_;refine rr ?_;exact⟨O,O⟩
end
section
variable{S:C Nat}{ay:Nat->Prop}
def aij(K:Nat)(H':Int->Prop)(H:R)(v:D):Prop:=∃a n c f,v=u a n c/\Fl H a n 1 f/\n<=K/\∀x∈f,∃z:Int,x=vi z/\H' z
def Ko(b K:Nat)(H':Int->Prop)(H:R)(v:D):Prop:=∃a n c f,v=u a n c/\jJ (b<=·) 3 H a n 1 f/\n<=K/\∀x∈f,∃z:Int,x=vi z/\H' z
def Ko.nil(b K:Nat)(H':Int->Prop)(H:R):Ko b K H' H (u T 0 0):=⟨T,0,0,[],O,jJ.nil _ _ _ _ _,bD _,nofun⟩
def Kq(U:Wf H){K:Nat}(Y:K<=1000000)(P:aij K H' H v):bQ Pg X 229 [v] H (Q1 (λv Q=>Ko H.bU K H' Q v) H):=by
 obtain⟨a,n,c,f,rfl,B,M,I⟩:=P;have G:=h_ U;refine lq [0,2] ?_;rw[Ey fT];refine sD (λA=>?_) λA=>?_
 .refine rr ?_;exact⟨Ko.nil _ _ _ _,Ext.refl _⟩
 .refine ME.of (ajh N) ?_;have G:=G.grow 3 [];have j:=G.ext.bU;refine G.VJ N (.inr ⟨_,O⟩) (B.ex G.ext) N λs y V W g d=>rr ?_;exact⟨⟨s,n,y,f,O,g.le j,M,I⟩,d.ext⟩
def Nm.nums{K:Nat}(s:Nm H' r ty n H0 H L)(A:n<=K)(c:Nat):aij K H' H (sl r n c):=by
 have⟨f,I,W,G⟩:=s;have B:=(G.lo _<|aL ..).2;refine⟨_,n,c,f.take n,O,⟨by rw[dX];omega,λi x d=>⟨r,0,rfl,B,?_⟩⟩,A,λx M=>?_⟩
 .have j:i<n:=by
   have:=(bI.1 d).1;rw[dX]at this;omega
  rw[iB,if_pos j]at d;have:=(G.get 0 O).cell d
  rwa [bB]
 .obtain⟨i,d,rfl⟩:=iO M;have y:=d;rw[dX,jI N]at d;have⟨z,e,hq⟩:=W i N;have g:=oL f 1 i 0;rw[if_pos (dI 0),e,dN,d_,av (show i<J f by omega)]at g;refine⟨z,?_,hq⟩;rw[rT];exact(eF g).symm
def aal{x:D}{K:Nat}(s:K<=1000000)(y:GB 3 1 x ks gb)(G:SH [] H0 H<|gb++L)(hl:J ks<=K)(hk:∀x∈ks,∃z:Int,x=vi z/\H' z){Kp:D->D->R->Prop}(kk:∀j v Q,Ko H0.bU K H' Q v->Ext H0 Q->Kp j v Q):bQ Pg X 160 [x] H λP H1=>bQ Pg X 162 [x] H1 λj H2=>bQ Pg X 229 [j] H2 (Kp j):=by
 rcases y with⟨rfl,rfl,rfl⟩|⟨r,n,eY,rfl,V,rfl⟩
 .refine dD adE ?_;rintro _ _ rfl;refine dD T_ ?_;rintro _ _ ⟨rfl,rfl⟩;refine dD (Kq (H':=H') (K:=K) G.wf s ⟨T,0,0,[],O,Fl.nil _ _ _,bD _,nofun⟩) ?_;rintro v H1 ⟨⟨a,n,c,f,rfl,I,W⟩,M⟩;exact kk _ _ _ ⟨a,n,c,f,O,I.le G.ext.bU,W⟩ (G.call M).ext
 .have d:Nm H' r 3 n H0 H L:=by
   refine⟨ks++eY,by rw[aS];omega,λk A=>?_,G⟩;have g:k<J ks:=N;have⟨z,e,hq⟩:=hk _<|bH g;refine⟨z,?_,hq⟩;rw[<-e];unfold El;rw[dN,eO (by rw[aS];omega),jB g];rfl
  refine dD (Nr N d) ?_;intro P H1 d;refine dD (Iy N d) ?_;rintro j H2 ⟨Y,B,rfl,d⟩;refine dD (Kq d.wf s<|Nm.nums d N _) ?_;rintro v U ⟨⟨a,n,c,f,rfl,I,W⟩,M⟩;exact kk _ _ _ ⟨a,n,c,f,O,I.le d.ext.bU,W⟩ (d.call M).ext
abbrev Ua(n:Nat)(z:Int):Prop:=0<=z/\z<n
def aam(hw:Wf H){rn:Nat}(s:Gr b H ra rn rcs na nn jA)(hm:wF H r m)(an:Rf rn m)(hi:i<rn)(hB:∀j,j<rn->0<=rootOf rcs j/\rootOf rcs j<nn):
 bQ Pg X 207 [gV ra rn rc na nn nc,fK<|Z r,B i] H (Q1 (λv Q=>Ko H.bU 4001 (Ua rn) Q v) H):=by
 have G:=h_ hw;have g2:=s.2.1;have g5:=s.2.2.2.2.1;refine lq [0,1,2,3,6,7,8,9,10,11] ?_;refine G.box O λH1 E G=>?_;apply G.jC;have ao:=G.ext;refine G.cm (PW G.wf (s.ex ao) hi hB) ?_;rintro v H2 ⟨k0,rfl,ap⟩ M G;refine Yt 7 8 9 10 11 (h1:=λm' g x8 x9 V Y Q=>∃(k:Nat)(ks:C D)(gb:C eB),x8=B k/\k+m'=4001/\J ks<=k/\GB 3 1 g ks gb/\(∀x∈ks,∃z:Int,x=vi z/\Ua rn z)/\SH [] H Q (gb++[(E,171,[u ra rn rc,u na nn nc])])) ?_ (4001-k0) ⟨k0,[],[],rfl,N,bD _,GB.nil _ _,nofun,G⟩;clear G;rintro m' g x8 x9 V Y oW H3 ⟨k,ks,gb,rfl,ar,aq,hg,d,G⟩;refine tl ?_;have G:=G.perm aI;simp only[bV,bZ]at G;refine fJ ?_;have⟨r1,o1,zY,u1,f1,w1,c1,a1,e1,hl1,Br,uX,hsz,_⟩:=s.ru (i:=i) hi rc;rw[e1];refine G.lJ ?_;refine G.CO (uX 5 _ N O) hl1 ?_;have hb:=hB i hi;refine MO (λhc=>?_) λhc=>?_
 .refine tl<|aal (K:=4001) N hg (G.perm<|aI (l₁:=[_])) N d λv2 v H4 P U=>rr ?_;exact⟨P,U⟩
 have y:k<nn:=N;apply G.qF;have⟨kd,ka,kn,kc,ks',t,rs,at',he,hk1,hk2,hk3,hk4,hk5⟩:=s.2.2.2.2.2 k y;obtain⟨xa,xn,xc,aE,rfl,R7⟩:=id hk5;have⟨r2,o2,e2,hl2,aak,xF⟩:=s.no y nc he;rw[e2];refine G.lJ ?_;refine G.BU aak hl2<|G.oV O O O λH4 ac G U=>?_;have G:SH [] H H4 ((ac,238,[vi kd,u ka kn kc,aJ t,u xa xn xc,vi at'])::(E,171,[u ra rn rc,u na nn nc])::gb):=G;refine fJ ?_
 have zZ:∀g x9 V Y ks gb BH H5,J ks<=k+1->GB 3 1 g ks gb->(∀x∈ks,∃z:Int,x=vi z/\Ua rn z)->SH [] H H5 ((ac,238,[vi kd,u ka kn kc,aJ t,u xa xn xc,vi at'])::(E,171,[u ra rn rc,u na nn nc])::gb)->∃ab,ab<m'/\Fz (gV ra rn rc na nn nc) (fK<|Z r) (B i) (bG<|Z ⟨E,0,T⟩) (u T 0 0) (λm' g x8 x9 V Y Q=>∃(k:Nat)(ks:C D)(gb:C eB),x8=B k/\k+m'=4001/\J ks<=k/\GB 3 1 g ks gb/\(∀x∈ks,∃z:Int,x=vi z/\Ua rn z)/\SH [] H Q (gb++[(E,171,[u ra rn rc,u na nn nc])])) ab (FT (gV ra rn rc na nn nc) (fK<|Z r) (B i) (bG<|Z ⟨E,0,T⟩) (u T 0 0) g (vi<|(k:Int)+1) x9 V Y BH H5):=by
  intro g x9 V Y ks gb BH H5 I W h3 h4;exact⟨4001-(k+1),N,_,_,_,_,_,_,_,O,k+1,ks,gb,pJ,N,I,W,h3,(fU (A:=[_]) h4).perm<|aI (l₁:=[_])⟩
 refine nN (λag=>?_) λag=>?_
 .refine eG ?_;exact zZ _ _ _ _ ks gb _ _ N hg d G
 apply G.qF;have am:=hm.ex G.ext<|nofun;refine ME.Kn am Dv T7 eqS λf' hf hn=>?_;refine G.lJ ?_;refine iI (λhb=>?_) λhb=>?_;rotate_left
 .refine eG ?_;exact zZ _ _ _ _ ks gb _ _ N hg d G
 cases f' with
 |none=>cases hb
 |some v=>
  obtain⟨z,hz,P⟩:=an _<|hf v O;have P:v=B z:=P;subst P;simp only[p_];have hO:=G.perm<|aI (l₁:=[_,_]);have hO:=hO.own;refine hO.bS O O O N λH5 rx ad=>?_;obtain⟨v',H6,iN,e1,al,xP,_⟩:=hg.app (m:=0) (cx:=1) (L:=[]) (by rw[bF];exact ad) N O O N N;refine ME.of e1 ?_;rw[bF]at xP;refine eG ?_;refine zZ _ _ _ _ _ iN _ _ ?_ al (λx M=>?_) ?_
  .rw[aS];show J ks+1<=_;omega
  .rcases cK.1 M with h|h
   .exact d x h
   .have h:x∈[B z]:=h;exact⟨z,aT.1 h,N,N⟩
  .exact((G.perm<|aI (l₁:=[_,_])).frame xP).perm<|aI (l₂:=[_,_])
end
section
variable{S:C Nat}{ay:Nat->Prop}
def OI(ty:aH)(es:Nat)(P:C D->Prop):C D->C eB->Prop
 |[],az=>az=[]
 |v::vs,az=>∃ks gb R',az=gb++R'/\GB ty es v ks gb/\P ks/\OI ty es P vs R'
def OI.Z5{P:C D->Prop}(d:P []):∀n,OI ty es P (aY n<|u T 0 0) []
 |0=>rfl
 |n+1=>⟨[],[],[],rfl,GB.nil _ _,d,OI.Z5 d n⟩
def OI.mono{ty:aH}{es:Nat}{P d:C D->Prop}(g:∀ks,P ks->d ks):∀{vs:C D}{az:C eB},OI ty es P vs az->OI ty es d vs az
 |[],az,h=>h
 |v::vs,az,⟨ks,gb,R',I,W,h3,h4⟩=>⟨ks,gb,R',I,W,g _ h3,OI.mono g h4⟩
def OI.at{P:C D->Prop}:∀{vs:C D}{az:C eB}(i:Nat),OI ty es P vs az->(h:i<J vs)->∃A gb vn ks,az=A++(gb++vn)/\GB ty es vs[i] ks gb/\P ks/\
 ∀g:C D->Prop,(∀ks,P ks->g ks)->∀v' d iN,GB ty es v' d iN->g d->OI ty es g (vs.set i v') (A++(iN++vn))
 |v::vs,az,0,h,_=>by
  obtain⟨ks,gb,R',rfl,I,W,B⟩:=h;exact⟨[],gb,R',ks,O,I,W,λg j v' d iN s y=>⟨d,iN,R',rfl,s,y,B.mono j⟩⟩
 |v::vs,az,i+1,h,hi=>by
  obtain⟨ks,gb,R',rfl,I,W,B⟩:=h;obtain⟨A,N,vn,M,rfl,s,y,U⟩:=OI.at i B (nZ hi);refine⟨gb++A,N,vn,M,by rw[cz],s,y,λg j v' d iN V X=>?_⟩;exact⟨ks,gb,A++(iN++vn),by rw[cz],I,j _ W,U g j v' d iN V X⟩
 |[],az,i,h,hi=>absurd hi gD
def Gy(hi:i<J f):splice f i [v]=f.set i v:=by
 apply iV;intro j;rw[sN (by show i+1<=_;omega),dU]
 by_cases h:i<=j/\j<i+[v].length
 .have:i=j:=by have:=h.2;simp at this;omega
  subst this;rw[if_pos h,if_pos O,if_pos hi,kN];rfl
 .rw[if_neg h,if_neg λe=>h (by subst e;simp)]
def OI.all{P:C D->Prop}:∀{vs:C D}{az L:C eB},OI ty es P vs az->SH S H0 H (az++L)->∀x∈vs,∃a n c ks,x=u a n c/\J ks=n*es/\P ks/\jJ (λr=>r∈az.map (·.1)) ty H a n es ks
 |[],az,L,h,G=>nofun
 |v::vs,az,L,⟨ks,gb,R',I,W,h3,h4⟩,G=>by
  subst I;intro x M;rcases bW.1 M with rfl|M
  .rw[cz]at G;have⟨a,n,c,e,hl,hf⟩:=W.KF (ay:=λr=>r∈(gb++R').map (·.1)) G λe d=>bP.2 ⟨e,dK _ d,rfl⟩;exact⟨a,n,c,ks,e,hl,h3,hf⟩
  .rw[cz]at G;have⟨a,n,c,ks',e,hl,hp,hf⟩:=OI.all h4 (fU G) x M;refine⟨a,n,c,ks',e,hl,hp,hf.wk λr g=>?_⟩;obtain⟨e,d,rfl⟩:=bP.1 g;exact bP.2 ⟨e,dL _ d,O⟩
def NsP(K:Nat)(H':Int->Prop)(ks:C D):Prop:=J ks<=K/\∀x∈ks,∃z:Int,x=vi z/\H' z
def Lg(b K:Nat)(H':Int->Prop)(n:Nat)(H:R)(v:D):Prop:=∃a c d,v=u a n c/\jJ (b<=·) 22 H a n 1 d/\∀x∈d,Ko b K H' H x
def Ub(hw:Wf H){rn:Nat}(hG:Gr b H ra rn rcs na nn jA)(hm:wF H r m)(a7:Rf rn m)(hB:∀j,j<rn->0<=rootOf rcs j/\rootOf rcs j<nn):
 bQ Pg X 180 [gV ra rn rc na nn nc,fK<|Z r] H (Q1 (λv Q=>Lg H.bU 500000 (Ua rn) rn Q v) H):=by
 have G:=h_ hw;have g2:=hG.2.1;refine lq [0,1,2,4,5,6,7,9,15,16,17,28,29,30] ?_;refine G.box O λH1 E G=>?_;refine fJ ?_;refine G.mkS (ax _) N λH2 y G=>?_;rw[mK]at G;refine fJ ?_;refine lp7 6 7 9 17 28 29 30 (h1:=λm' x6 x7 x9 Cc P U s Q=>∃(i:Nat)(g:C D)(az:C eB),Cc=B i/\i+m'=rn/\J g=rn/\OI 3 1 (NsP (4001*i)<|Ua rn) g az/\SH [] H Q ((y,22,g)::(E,171,[u ra rn rc,u na nn nc])::az)) ?_ rn ⟨0,_,[],rfl,N,gD,OI.Z5 ⟨bD _,nofun⟩ rn,G⟩;clear G;rintro m' x6 x7 x9 Cc P U s oW H3 ⟨i,g,az,rfl,a9,an,hR,G⟩;refine lX (λhc=>?_) λhc=>?_
 .refine tl ?_;obtain rfl:i=rn:=N;have hb:∀e:eB,e∈(y,22,g)::(E,171,[u ra i rc,u na nn nc])::az->H.bU<=e.1:=λe he=>G.yV he;refine rr ?_;refine⟨⟨_,_,g,O,?_,λx M=>?_⟩,G.ext⟩
  .exact jJ.one G (aL ..) N<|hb _<|aL ..
  .obtain⟨a,n,c,ks,e,hl,hp,hf⟩:=OI.all (L:=[]) hR (by rw[bF];exact fU (A:=[_,_]) G) x M;refine⟨a,n,c,ks,e,hf.wk λr hr=>?_,by have:=hp.1;omega,hp.2⟩;obtain⟨e,he,rfl⟩:=bP.1 hr;exact hb e<|bL _<|bL _ he
 have⟨r1,o1,zY,u1,f1,w1,c1,a1,e1,hl1,Br,uX,hsz,_⟩:=hG.ru (i:=i) N rc;rw[e1];refine bM ?_;refine G.BU Br hl1<|G.oV O O O λH4 ru G bc=>?_;have G:SH [] H H4 ((ru,234,yw zY u1 f1 w1 c1 (rootOf rcs i) a1)::(y,22,g)::(E,171,[u ra rn rc,u na nn nc])::az):=G;refine fJ ?_
 have zZ:∀x9 P U s g az BH V,J g=rn->OI 3 1 (NsP (4001*(i+1))<|Ua rn) g az->SH [] H V ((y,22,g)::(E,171,[u ra rn rc,u na nn nc])::az)->∃aq,aq<m'/\DY (gV ra rn rc na nn nc) (fK<|Z r) (bG<|Z ⟨E,0,T⟩) (u T 0 0) (u (Z ⟨y,0,T⟩) rn rn) (u ra rn rc) (B rn) (λm' x6 x7 x9 Cc P U s Q=>∃(i:Nat)(g:C D)(az:C eB),Cc=B i/\i+m'=rn/\J g=rn/\OI 3 1 (NsP (4001*i)<|Ua rn) g az/\SH [] H Q ((y,22,g)::(E,171,[u ra rn rc,u na nn nc])::az)) aq (DD (gV ra rn rc na nn nc) (fK<|Z r) (bG<|Z ⟨E,0,T⟩) (u T 0 0) (u (Z ⟨y,0,T⟩) rn rn) (B i) (bG<|Z ⟨ru,0,T⟩) x9 (u ra rn rc) (B rn) (vi<|(i:Int)+1) P U s BH V):=by
  intro x9 P U s g az BH V I W h3;exact⟨rn-(i+1),N,_,_,_,_,_,_,_,_,_,O,i+1,g,az,pJ,N,I,W,h3⟩
 refine iI (λhb=>?_) λhb=>?_
 .refine eG ?_;exact zZ _ _ _ _ g az _ _ an (hR.mono λks h=>⟨by have:=h.1;omega,h.2⟩)<|fU (A:=[_]) G
 apply G.jC;have ao:=G.ext;refine dD (aam G.wf (hG.ex ao) (hm.ex ao<|nofun) a7 N hB) ?_;rintro v V ⟨⟨ua,un,uc,bd,rfl,hu,bb,aE⟩,M⟩;have a6:=G.lt;have G:=fU (A:=[_])<|G.call M;refine bM ?_;have ab:=G;have G:=ab.base;have a0:∀q∈((y,22,g)::(E,171,[u ra rn rc,u na nn nc])::az).map (λe:eB=>e.1),¬H4.bU<=q\/¬Ah V q 3:=λq hq=>.inl (by have:=a6 q<|bL _ hq;omega);refine lp2 9 30 (h1:=λap x9 s Q=>∃(k:Nat)(d:C D)(R':C eB),s=B k/\k+ap=un/\J d=rn/\OI 3 1 (NsP (4001*i+k)<|Ua rn) d R'/\SH (((y,22,g)::(E,171,[u ra rn rc,u na nn nc])::az).map λe:eB=>e.1) V Q ((y,22,d)::(E,171,[u ra rn rc,u na nn nc])::R')) ?_ un ⟨0,g,az,rfl,N,an,hR.mono λks h=>⟨by have:=h.1;omega,h.2⟩,G⟩;clear G;rintro ap y9 be OJ H6 ⟨k,d,R',rfl,ba,On,Y,G⟩;refine lX (λa4=>?_) λa4=>?_
 .refine tp ?_;refine eG ?_;exact zZ _ _ _ _ d R' _ _ On (Y.mono λks h=>⟨by have:=h.1;omega,h.2⟩)<|ab.over G
 have a5:k<un:=N;have a8:=hu.stay G.ext a0;have⟨r',o',hl,e',hr',Nn⟩:=a8.1.Re a5 uc;rw[e'];refine bM ?_;have⟨z,hz,hz0,hz1⟩:=aE _<|bH hl;obtain⟨z,rfl⟩:∃j:Nat,z=j:=⟨z.toNat,N⟩;rw[hz]at Nn;refine iY Nn<|G.qF ?_;have⟨r2,o2,nm2,u2,f2,w2,c2,a2,e2,hl2,aak,xF,_,_⟩:=(hG.ex (ab.over G).ext).ru (i:=z) N rc;rw[e2];refine bM ?_;refine iY (xF 1 _ N O) ?_;refine sD (λa3=>?_) λa3=>?_;rotate_left
 .refine eG ?_;exact⟨un-(k+1),N,_,_,_,_,O,k+1,d,R',pJ,N,On,Y.mono λks h=>⟨by have:=h.1;omega,h.2⟩,G⟩
 have ad:i<J d:=N;refine dA (sV N) ?_;rw[bB];refine G.ld 0 O (av ad) ?_;obtain⟨A,gb,vn,ks,rfl,hg,ag,al⟩:=Y.at i ad;refine G.bS O O O N λH7 rx JC=>?_;have JC:=JC.perm<|eX _<|DJ ((y,22,d)::(E,171,[u ra rn rc,u na nn nc])::A) gb vn;have⟨v',H8,iN,e8,am,ac,_⟩:=hg.app (m:=0) (cx:=1) JC N O O N (by have:=ag.1;omega);refine ME.of e8<|dA (sV N) ?_;rw[bB];have ac:SH _ V H8 ((y,22,d)::(E,171,[u ra rn rc,u na nn nc])::(A++(iN++vn))):=ac.perm<|DJ iN ((y,22,d)::(E,171,[u ra rn rc,u na nn nc])::A) vn;obtain⟨va,ar,vc,rfl⟩:∃a n c,v'=u a n c:=by rcases am with⟨rfl,_⟩|⟨r,n,eY,rfl,_⟩<;>exact⟨_,_,_,O⟩
 refine ac.st 0 O O (by show i+1<=_;omega) rfl λH9 YA=>?_;refine eG ?_;refine⟨un-(k+1),N,_,_,_,_,O,k+1,d.set i<|u va ar vc,A++(iN++vn),pJ,N,by rw[bR];exact On,?_,?_⟩
 .refine al _ (λks h=>⟨by have:=h.1;omega,h.2⟩) _ _ _ am ⟨?_,λx M=>?_⟩
  .rw[aS];have:=ag.1;show J ks+1<=_;omega
  .rcases cK.1 M with h|h
   .exact ag.2 x h
   .have h:x∈[B z]:=h;exact⟨z,aT.1 h,N,N⟩
 .have YA:SH _ V H9 ((y,22,splice d i [u va ar vc])::(E,171,[u ra rn rc,u na nn nc])::(A++(iN++vn))):=YA
  rwa [Gy ad]at YA
end
section
variable{S:C Nat}{ay:Nat->Prop}
def gL(l:C Nat):Nat->Nat
 |0=>0
 |i+1=>l.getD i 0
def ajy{l:C Nat}(s:l.Pairwise (·≠·)):∀i j,1<=i->i<=J l->1<=j->j<=J l->gL l i=gL l j->i=j:=by
 have d:∀i j,i<J l->j<J l->i<j->l.getD i 0≠l.getD j 0:=λi j I W g=>by
  rw[aU,aU,av I,av W];exact jQ.1 s i j I W g
 intro i j I W g y e;obtain⟨i,rfl⟩:∃k,i=k+1:=⟨i-1,N⟩;obtain⟨j,rfl⟩:∃k,j=k+1:=⟨j-1,N⟩;have e:l.getD i 0=l.getD j 0:=e;rcases kY i j with h|h|h
 .exact absurd e<|d i j N N h
 .rw[h]
 .exact absurd e.symm<|d j i N N h
theorem ajz{ops:Array Oper}{ak:Nat->Nat->Nat->Nat->Nat->Nat->Nat->C Cl}{a d e cs g:Nat}{K:Prop}(s:[a,b,c,d,e,cs,g].Pairwise (·≠·))(j:∀a b c d e cs g,ak a b c d e cs g=(ak 1 2 3 4 5 6 7).map (xA<|gL [a,b,c,d,e,cs,g]))(hk:all' (Ez 7) (ak 1 2 3 4 5 6 7)=F)(h:kZ ops ((ak 1 2 3 4 5 6 7).map kill)=F)(k:K):kZ ops (ak a b c d e cs g)=F/\K:=by
 refine⟨?_,k⟩;rw[j];exact EA (m:=7) (ajy s) hk h
structure CY where
 (ct m l o dm dl dO s ds st fr:Nat)
def FC:C (Nat×Nat)->C D
 |[]=>[]
 |p::l=>B p.1::B p.2::FC l
def Rh(a b:C<|Nat×Nat):FC (a++b)=FC a++FC b:=by
 induction a with
 |nil=>rfl
 |cons p l d=>show B p.1::B p.2::FC (l++b)=_;rw[d];rfl
def Dw(a:C<|Nat×Nat):J (FC a)=J a*2:=by
 induction a with
 |nil=>rfl
 |cons p l d=>show J (FC l)+2=_;rw[d,cO];omega
structure CYS where
 (cnt:Nat)(ms lo:C Int)(op sf:C Bool)(ss:C Nat)(fs:C<|Nat×Nat)
def Cy(q:CY)(n:Nat)(x:CYS)(hx:C eB):Prop:=∃d y GZ g,
 hx=(q.ct,3,[B x.cnt])::(q.m,22,[u (Z ⟨q.dm,0,T⟩) n n])::(q.l,22,[u (Z ⟨q.dl,0,T⟩) n n])::(q.o,34,[u (Z ⟨q.dO,0,T⟩) n n])::(q.dm,3,x.ms.map vi)::(q.dl,3,x.lo.map vi)::(q.dO,4,x.op.map aR)::(q.s,34,[u (Z ⟨q.ds,0,T⟩) n n])::(q.ds,4,x.sf.map aR)::(q.st,22,[d])::(q.fr,290,[y])::(GZ++g)/\
 J x.ms=n/\J x.lo=n/\J x.op=n/\J x.sf=n/\GB 3 1 d (x.ss.map λj=>B j) GZ/\GB 292 2 y (FC x.fs) g
structure FD(n:Nat)(x:CYS):Prop where
 cnt:x.cnt+x.ms.count 0=n
 fs:∀p∈x.fs,p.1<n/\p.2<=1000000
 ss:∀j∈x.ss,j<n
 sub:(x.fs.map (·.1)).Sublist x.ss
 sl:J x.ss<=x.cnt
 fl:J x.fs<=x.cnt
abbrev zS(q:CY):D:=.func (.func 187) ⟨[]⟩ ⟨[pr q.ct,pr q.m,pr q.l,pr q.o,pr q.st,pr q.fr]⟩
def CYS.begin(x:CYS)(k:Nat):CYS:={x with cnt:=x.cnt+1,ms:=x.ms.set k ((x.cnt+1:Nat):Int),lo:=x.lo.set k ((x.cnt+1:Nat):Int),op:=x.op.set k F,ss:=x.ss++[k],fs:=x.fs++[(k,0)]}
def Ns{q:CY}{x:CYS}(hn:n<=1000)(hC:Cy q n x hx)(V:FD n x)(hk:k<n)(h0:x.ms[k]?=Z 0)(G:SH S H0 H<|hx++L):
 bQ Pg X 187 [B k,pr q.ct,pr q.m,pr q.l,pr q.o,pr q.st,pr q.fr] H λ_ Q=>∃M',Cy q n (x.begin k) M'/\SH S H0 Q (M'++L):=by
 have Y:=G;have G:=G.own;obtain⟨Kr,Wj,GZ,g,rfl,I,W,h3,h4,h5,h6⟩:=hC;have ab:x.cnt<=n:=by have:=V.cnt;omega
 refine lq [0,1,2,3,4,5,6] ?_;apply G.qF;refine eG ?_;refine G.kE λM G=>?_;refine fJ ?_;refine dA (sV hk) ?_;rw[bB];refine G.n_ (λH2 G=>?_) O (by rw[aK];show k+1<=_;omega) rfl;refine dA (sV hk) ?_;rw[bB]
 try simp only[iT G.wf]
 refine G.n_ (λH3 G=>?_) O (by rw[aK];show k+1<=_;omega) rfl;refine dA (sV hk) ?_;rw[bB]
 try simp only[iT G.wf]
 refine G.n_ (λH4 G=>?_) O (by rw[aK];show k+1<=_;omega) rfl
 have d:[q.ct,q.m,q.l,q.o,q.dm,q.dl,q.dO].Pairwise (·≠·):=by
  have h:List.Pairwise (·≠·) ([q.ct,q.m,q.l,q.o,q.dm,q.dl,q.dO]++q.s::q.ds::q.st::q.fr::(GZ++g).map (λe:eB=>e.1)):=(List.pairwise_map (f:=λe:eB=>e.1)).2 G.ne;exact(nQ.1 h).1
 refine splitK (λK hK=>?_) ?_
 .simp only[fu,gT];generalize q.ct=ct at d|-;generalize q.m=mm at d|-;generalize q.l=ll at d|-;generalize q.o=oo at d|-;generalize q.dm=dm at d|-;generalize q.dl=dl at d|-;generalize q.dO=dO at d|-;apply ajz d yB fT fT hK
 have G:SH _ H _ ((q.ct,3,[B (x.cnt+1)])::(q.m,22,[u (Z ⟨q.dm,0,T⟩) n n])::(q.l,22,[u (Z ⟨q.dl,0,T⟩) n n])::(q.o,34,[u (Z ⟨q.dO,0,T⟩) n n])::(q.dm,3,splice (x.ms.map vi) k [vi ((x.cnt+1:Nat):Int)])::(q.dl,3,splice (x.lo.map vi) k [vi ((x.cnt+1:Nat):Int)])::(q.dO,4,splice (x.op.map aR) k [aR F])::(q.s,34,[u (Z ⟨q.ds,0,T⟩) n n])::(q.ds,4,x.sf.map aR)::(q.st,22,[Kr])::(q.fr,290,[Wj])::(GZ++g)):=G;rw[qP vi N,qP vi N,qP aR N]at G;generalize hM (hM (hM M _) _) H4=H5 at*;have ac:J x.ss<=1000:=by have:=V.sl;omega
 have OK:J (FC x.fs)<=2000:=by rw[Dw];have:=V.fl;omega
 obtain⟨a5,n5,c5,rfl⟩:∃a n c,Kr=u a n c:=by rcases h5 with⟨rfl,_⟩|⟨r,n,eY,rfl,_⟩<;>exact⟨_,_,_,O⟩
 obtain⟨a6,n6,c6,rfl⟩:∃a n c,Wj=u a n c:=by rcases h6 with⟨rfl,_⟩|⟨r,n,eY,rfl,_⟩<;>exact⟨_,_,_,O⟩
 refine G.qF<|G.bS O O O N λH7 rx P=>?_;have P:=P.perm<|eX _<|DJ [_,_,_,_,_,_,_,_,_,_,_] GZ g;have⟨v',H8,aan,e8,A,hS8,_⟩:=h5.app (m:=0) (cx:=1) P N O O N (by rw[aK];omega);refine ME.of e8 ?_;have G:=hS8.perm<|DJ aan [_,_,_,_,_,_,_,_,_,_,_] g;simp only[bV,bZ]at G;obtain⟨a7,n7,c7,rfl⟩:∃a n c,v'=u a n c:=by rcases A with⟨rfl,_⟩|⟨r,n,eY,rfl,_⟩<;>exact⟨_,_,_,O⟩
 refine G.kE λM G=>?_;refine fJ ?_;refine G.bS O O O N λH9 ry U=>?_;have U:=U.perm<|eX _<|((gZ [_,_,_,_,_,_,_,_,_,_,_]<|aI (l₁:=aan) (l₂:=g))).trans<|DJ [_,_,_,_,_,_,_,_,_,_,_] g aan;have⟨w',CF,ajA,e10,y,ajv,_⟩:=h6.app (m:=0) (cx:=1) U N O O N N;refine ME.of e10 ?_;have G:=(ajv.perm<|DJ ajA [_,_,_,_,_,_,_,_,_,_,_] aan).perm<|gZ [_,_,_,_,_,_,_,_,_,_,_]<|aI (l₁:=ajA) (l₂:=aan);simp only[bV,bZ]at G;obtain⟨a8,n8,c8,rfl⟩:∃a n c,w'=u a n c:=by rcases y with⟨rfl,_⟩|⟨r,n,eY,rfl,_⟩<;>exact⟨_,_,_,O⟩
 refine G.kE λM G=>?_;refine rn ?_;refine⟨_,⟨u a7 n7 c7,u a8 n8 c8,aan,ajA,O,?_,?_,?_,h4,?_,?_⟩,?_⟩
 .show J (x.ms.set k _)=n;rw[bR];exact I
 .show J (x.lo.set k _)=n;rw[bR];exact W
 .show J (x.op.set k _)=n;rw[bR];exact h3
 .show GB 3 1 _ ((x.ss++[k]).map λj=>B j) _;rw[dM];exact A
 .show GB 292 2 _ (FC<|x.fs++[(k,0)]) _;rw[Rh];exact y
 .have hF:=SH.frame (hx:=(q.ct,3,[B x.cnt])::(q.m,22,[u (Z ⟨q.dm,0,T⟩) n n])::(q.l,22,[u (Z ⟨q.dl,0,T⟩) n n])::(q.o,34,[u (Z ⟨q.dO,0,T⟩) n n])::(q.dm,3,x.ms.map vi)::(q.dl,3,x.lo.map vi)::(q.dO,4,x.op.map aR)::(q.s,34,[u (Z ⟨q.ds,0,T⟩) n n])::(q.ds,4,x.sf.map aR)::(q.st,22,[u a5 n5 c5])::(q.fr,290,[u a6 n6 c6])::(GZ++g)) Y G;exact hF
end
variable{q:CY}{x:CYS}
section
variable{S:C Nat}{ay:Nat->Prop}
theorem adF(hn:n<=1000)(hC:Cy q n x hx)(hO:FD n x)(hk:k<n)(U:k∈x.ss)(G:SH S H0 H<|hx++L):
 bQ Pg X 188 [B k,pr q.st,pr q.o,pr q.s] H λ_ Q=>∃(p:Nat)(op sf:C Bool)(M':C eB),x.ss[p]?=Z k/\(∀j,p<j->x.ss[j]?≠Z k)/\Cy q n {x with op:=op,sf:=sf,ss:=x.ss.take p} M'/\SH S H0 Q (M'++L):=by
 have ab:=G;have G:=G.own;obtain⟨Kr,Wj,GZ,Uc,rfl,I,W,h3,h4,h5,h6⟩:=hC;have al:x.cnt<=n:=by have:=hO.cnt;omega
 have ao:J x.ss<=1000:=by have:=hO.sl;omega
 rcases h5 with⟨rfl,e,rfl⟩|⟨A,sn,eY,rfl,Y,rfl⟩
 .exfalso;cases hss:x.ss with
  |nil=>rw[hss]at U;cases U
  |cons a l=>rw[hss]at e;cases e
 rw[aK,dN]at Y;subst Y;refine cem [0,1,2,3,5,7,21,22,23] ?_
 have ag:1<=J x.ss:=by
  cases hss:x.ss with
  |nil=>rw[hss]at U;cases U
  |cons a l=>simp
 refine q_ ?_;refine VQ 5 (h1:=λm x5 Q=>∃p:Nat,x5=B p/\p=m/\p<J x.ss/\(∀j,p<j->x.ss[j]?≠Z k)/\SH _ H Q _) ?_ (J x.ss-1) ⟨J x.ss-1,by rw[show((J x.ss:Int)-1)=((J x.ss-1:Nat):Int) by omega];rfl,rfl,N,λj hj=>by rw[dw N];simp,G⟩;clear G;rintro m x5 E H1 ⟨p,rfl,rfl,V,d,G⟩;refine tm ?_;refine dA (sV V) ?_;rw[bB];refine G.ld 11 O (v:=B x.ss[p]) (by rw[bX (by rw[aK];exact V),bK,av V];rfl) ?_;refine yx (λhc=>?_) λhc=>?_
 .have⟨i,hi,hik⟩:=iO U
  have am:i<p:=by
   rcases kY i p with h|h|h
   .exact h
   .subst h;exact absurd (by rw[hik]) hc
   .exact absurd (by rw[av hi,hik])<|d i h
  refine q_ ?_;refine⟨p-1,N,_,_,_,O,p-1,by rw[show((p:Int)-1)=((p-1:Nat):Int) by omega],rfl,N,λj hj=>?_,G⟩;rcases dH p j with h|h
  .exact d j h
  .obtain rfl:j=p:=N;rw[av V];intro e;exact hc (by rw[eF e])
 have ad:x.ss[p]?=Z k:=by rw[av V];congr 1;omega
 refine tl ?_;apply G.qF;refine dA (Wi N) ?_;rw[bB];refine bM ?_;refine lp2 7 23 (h1:=λm x7 zV Q=>∃(j:Nat)(op sf:C Bool),zV=B j/\j+m=J x.ss-p/\J op=n/\J sf=n/\SH (List.map (λe:eB=>e.1)<|(q.ct,3,[B x.cnt])::(q.m,22,[u (Z ⟨q.dm,0,T⟩) n n])::(q.l,22,[u (Z ⟨q.dl,0,T⟩) n n])::(q.o,34,[u (Z ⟨q.dO,0,T⟩) n n])::(q.dm,3,x.ms.map vi)::(q.dl,3,x.lo.map vi)::(q.dO,4,x.op.map aR)::(q.s,34,[u (Z ⟨q.ds,0,T⟩) n n])::(q.ds,4,x.sf.map aR)::(q.st,22,[u (Z ⟨A,0,T⟩) (J x.ss) (gQ 1)])::(q.fr,290,[Wj])::([(A,3,(x.ss.map λj=>B j)++eY)]++Uc)) H Q ((q.ct,3,[B x.cnt])::(q.m,22,[u (Z ⟨q.dm,0,T⟩) n n])::(q.l,22,[u (Z ⟨q.dl,0,T⟩) n n])::(q.o,34,[u (Z ⟨q.dO,0,T⟩) n n])::(q.dm,3,x.ms.map vi)::(q.dl,3,x.lo.map vi)::(q.dO,4,op.map aR)::(q.s,34,[u (Z ⟨q.ds,0,T⟩) n n])::(q.ds,4,sf.map aR)::(q.st,22,[u (Z ⟨A,0,T⟩) (J x.ss) (gQ 1)])::(q.fr,290,[Wj])::(A,3,(x.ss.map λj=>B j)++eY)::Uc)) ?_ (J x.ss-p) ⟨0,x.op,x.sf,rfl,N,h3,h4,G⟩;clear G;rintro m x7 zV E H1 ⟨j,op,sf,rfl,an,ho,hs,G⟩;refine lX (λac=>?_) λac=>?_
 .refine tl ?_;apply G.qF;refine dA (BV N) ?_;refine G.kE λHn G=>rn ?_;refine⟨p,op,sf,_,ad,d,⟨u (Z ⟨A,0,T⟩) p<|gQ 1,Wj,[(A,3,((x.ss.take p).map λj=>B j)++(((x.ss.drop p).map λj=>B j)++eY))],Uc,rfl,I,W,ho,hs,?_,h6⟩,?_⟩
  .exact .inr ⟨A,p,_,O,by rw[aK,dX];omega,rfl⟩
  .have hF:=SH.frame (hx:=(q.ct,3,[B x.cnt])::(q.m,22,[u (Z ⟨q.dm,0,T⟩) n n])::(q.l,22,[u (Z ⟨q.dl,0,T⟩) n n])::(q.o,34,[u (Z ⟨q.dO,0,T⟩) n n])::(q.dm,3,x.ms.map vi)::(q.dl,3,x.lo.map vi)::(q.dO,4,x.op.map aR)::(q.s,34,[u (Z ⟨q.ds,0,T⟩) n n])::(q.ds,4,x.sf.map aR)::(q.st,22,[u (Z ⟨A,0,T⟩) (J x.ss) (gQ 1)])::(q.fr,290,[Wj])::([(A,3,(x.ss.map λj=>B j)++eY)]++Uc)) ab G;rw[<-cz,<-dM,iM];exact hF
 have M:p+j<J x.ss:=N;refine dA (sV N)<|G.ld 11 O (v:=B x.ss[p+j]) (by rw[bX (by rw[aK];exact M),bK,av M];rfl) ?_;have g:x.ss[p+j]<n:=hO.ss _<|bH M;generalize x.ss[p+j]=z at g;refine G.qF<|dA (sV g) ?_;rw[bB];refine G.st 6 O O (by rw[aK];show z+1<=_;omega) rfl λH2 G=>?_;simp only[kG,qW]at G;have G:=G;refine fJ ?_;refine dA (sV g) ?_;rw[bB];refine G.VI (v:=aR<|sf[z]'N) ?_ (by rw[bK,av (show z<J sf by omega)];rfl);refine bM ?_;have y:=G;refine iI (λhb=>?_) λhb=>?_
 .refine dA (sV g) ?_;rw[bB]
  try simp only[iT G.wf]
  refine G.n_ (λH3 G=>?_) O (by rw[aK];show z+1<=_;omega) rfl;refine splitK (λK hK=>?_) ?_
  .simp only[fu,gT];have P:q.ds≠q.s:=(y.nq 7 8 O O N).symm;generalize q.ds=ds at P|-;generalize q.s=qs at P|-;apply mO P yB fT fT hK
  refine eG ?_;refine⟨J x.ss-p-(j+1),N,_,_,_,_,O,j+1,op.set z aA,sf.set z F,pJ,N,by rw[bR];exact ho,by rw[bR];exact hs,?_⟩;rw[<-qP aR N,<-qP aR N];exact G
 .try simp only[iT G.wf]
  apply G.VI;refine G.lJ ?_;refine q_ ?_;refine G.lJ ?_;generalize decide ((1:Int)<(J x.ss:Int)-(p:Int))=bz;refine dA (sV g) ?_;rw[bB]
  try simp only[iT G.wf]
  refine G.n_ (λH3 G=>?_) O (by rw[aK];show z+1<=_;omega) rfl;refine splitK (λK hK=>?_) ?_
  .simp only[fu,gT];have P:q.ds≠q.s:=(y.nq 7 8 O O N).symm;have n2:q.ds≠q.st:=(y.nq 8 9 O O N);have n3:q.s≠q.st:=(y.nq 7 9 O O N);generalize q.ds=ds at P n2|-;generalize q.s=qs at P n3|-;generalize q.st=qt at n2 n3|-;apply zP P n2 n3 yB fT fT hK
  refine eG ?_;refine⟨J x.ss-p-(j+1),N,_,_,_,_,O,j+1,op.set z aA,sf.set z bz,pJ,N,by rw[bR];exact ho,by rw[bR];exact hs,?_⟩;rw[<-qP aR N,<-qP aR N];exact G
end
section
variable{S:C Nat}{ay:Nat->Prop}
abbrev KT(q:CY):D:=.func (.func 188) ⟨[]⟩ ⟨[pr q.st,pr q.o,pr q.s]⟩
def JD(fs:C<|Nat×Nat)(a b:Nat)(eY:C D):(FC (fs++[(a,b)])++eY)[J fs*2]?=Z (B a)/\(FC (fs++[(a,b)])++eY)[J fs*2+1]?=Z (B b)/\∀b',splice (FC (fs++[(a,b)])++eY) (J fs*2+1) [B b']=FC (fs++[(a,b')])++eY:=by
 have d:=Dw fs
 have e:∀b,FC (fs++[(a,b)])++eY=FC fs++(B a::B b::eY):=λb=>by
  rw[Rh,cz];rfl
 refine⟨?_,?_,λb'=>?_⟩
 .rw[e,eD N,d,kN];rfl
 .rw[e,eD N,d,show J fs*2+1-J fs*2=1 by omega];rfl
 .rw[e,e,Gy (by rw[aS,d];simp),sH _ _ N,d,show J fs*2+1-J fs*2=1 by omega];rfl
def Gz:∀(l:C Int)(t:Nat)(v:Int),l[t]?=Z 0->v≠0->(l.set t v).count 0+1=l.count 0
 |[],t,v,h,_=>by simp at h
 |a::l,0,v,h,hv=>by
  have h:a=0:=nZ h;subst h;rw[qW,List.count_cons_self,List.count_cons_of_ne hv]
 |a::l,t+1,v,h,hv=>by
  have d:=Gz l t v (nZ h) hv;rw[kG,List.count_cons,List.count_cons];omega
theorem FD.begin{t:Nat}(h:FD n x)(ht:t<n)(d:x.ms[t]?=Z 0):FD n (x.begin t):=by
 have A:=Gz x.ms t ((x.cnt+1:Nat):Int) d N;have I:=h.cnt;have W:=h.sl;have y:=h.fl;refine⟨?_,λp s=>?_,λj g=>?_,?_,?_,?_⟩
 .show x.cnt+1+(x.ms.set t _).count 0=n;omega
 .rcases cK.1 s with h'|h'
  .exact h.fs p h'
  .rw[aT]at h';subst h';exact⟨ht,N⟩
 .rcases cK.1 g with h'|h'
  .exact h.ss j h'
  .rw[aT]at h';subst h';exact ht
 .show(List.map (λp:Nat×Nat=>p.1)<|x.fs++[(t,0)]).Sublist (x.ss++[t]);rw[dM];exact h.sub.append<|List.Sublist.refl _
 .show J (x.ss++[t])<=x.cnt+1;rw[aS];simp;omega
 .show J (x.fs++[(t,0)])<=x.cnt+1;rw[aS];simp;omega
def adG{ss A:C Nat}(h:(A++[k]).Sublist ss)(B:ss[p]?=Z k)(hl:∀j,p<j->ss[j]?≠Z k):A.Sublist (ss.take p):=by
 obtain⟨d,y,rfl,I,W⟩:=List.append_sublist_iff.1 h;have g:k∈y:=W.subset<|aT.2 O;have⟨j,hj,e⟩:=iO g
 have s:J d+j<=p:=by
  rcases dH p (J d+j)with h|h
  .exact absurd (by rw[eD N,jH,av hj,e])<|hl _ h
  .exact h
 rw[List.take_append];rw[dV (show J d<=p by omega)];exact I.trans<|fC _ _
abbrev cyL(q:CY)(n:Nat)(x:CYS)(rf:Nat)(fr:C D)(g d:D)(GZ:C eB):C eB:=
 (rf,292,fr)::(q.ct,3,[B x.cnt])::(q.m,22,[u (Z ⟨q.dm,0,T⟩) n n])::(q.l,22,[u (Z ⟨q.dl,0,T⟩) n n])::(q.o,34,[u (Z ⟨q.dO,0,T⟩) n n])::(q.dm,3,x.ms.map vi)::(q.dl,3,x.lo.map vi)::(q.dO,4,x.op.map aR)::(q.s,34,[u (Z ⟨q.ds,0,T⟩) n n])::(q.ds,4,x.sf.map aR)::(q.st,22,[d])::(q.fr,290,[g])::GZ
def Ud{d:D}(I:J x.ms=n)(W:J x.lo=n)(g:J x.op=n)(s:J x.sf=n)(y:GB 3 1 d (x.ss.map λj=>B j) GZ)(G:SH S H0 H<|cyL q n x rf (FC x.fs++eY) (u (Z ⟨rf,0,T⟩) (J x.fs)<|gQ 2) d GZ):∃hx,Cy q n x hx/\SH S H0 H hx:=
 ⟨_,⟨d,_,GZ,[_],rfl,I,W,g,s,y,.inr ⟨rf,J x.fs,eY,rfl,Dw _,rfl⟩⟩,G.perm<|aI (l₂:=_::_::_::_::_::_::_::_::_::_::_::GZ) (l₁:=[_])⟩
def YB(n K:Nat)(H':Int->Prop)(H:R)(v:D):Prop:=∃b,Lg b K H' n H v
theorem Ue{K:Nat}(hn:n<=1000)(hK:K<=1000000)(hU:YB n K H' H<|u ua n uc){Kp:Out->Prop}{mP CP:D}(x:CYS)(hx:C eB)(hC:Cy q n x hx)(M:FD n x)(ko vH mM V:D)(E)(H1:R)(G:SH [] H H1 hx)(kk:∀x hx ko vH mM V E H1,Cy q n x hx->FD n x->x.fs=[]->SH [] H H1 hx->Kp (.exit 2<|mE (u ua n uc) (u T 0 0) (pr q.m) (pr q.l) (pr q.o) (pr q.s) (pr q.st) (pr q.fr) (pr q.ct) (zS q) (KT q) mP ko vH mM V (B n) CP E H1)):
 iG Pg X (.loop<|sub nC [1,1,1,1,1,1,1,1,0,1,0,0,1,1,0,0,1,0,1,1,0,0]) (mE (u ua n uc) (u T 0 0) (pr q.m) (pr q.l) (pr q.o) (pr q.s) (pr q.st) (pr q.fr) (pr q.ct) (zS q) (KT q) mP ko vH mM V (B n) CP E H1) Kp:=by
 have⟨ub,ua',uc',uvs,eu,hU1,hU2⟩:=hU;cases eu;refine PO 13 14 15 16 (h1:=λm ko vH mM V Q=>∃x hx,Cy q n x hx/\FD n x/\SH [] H Q hx/\m=2*x.ms.count 0+J x.fs) ?_ _ ⟨x,hx,hC,M,G,rfl⟩;clear hC M G x hx;rintro m ko vH mM V E H1 ⟨x,hx,hC,M,G,hm⟩;have a6:=hC;have bf:=G;obtain⟨Kr,Wj,GZ,Uc,rfl,I,W,h3,h4,h5,h6⟩:=hC;have bo:x.cnt<=n:=by have:=M.cnt;omega
 have bt:=M.fl;refine tl ?_
 obtain⟨fa,fn,fc,rfl,bl⟩:∃a m c,Wj=u a m c/\m=J x.fs:=by
  rcases h6 with⟨rfl,e,_⟩|⟨r,m,eY,rfl,e,_⟩
  .refine⟨_,_,_,O,?_⟩;have:=Dw x.fs;rw[e]at this;simp at this;omega
  .rw[Dw]at e;exact⟨_,_,_,O,N⟩
 subst bl;refine acu (λhc=>?_) λhc=>?_
 .exact kk x _ _ _ _ _ _ _ a6 M (jf N) G
 rcases h6 with⟨e,e',_⟩|⟨rf,fn,eY,e,br,rfl⟩
 .exfalso;have:=Dw x.fs;rw[e']at this;simp at this;omega
 cases e
 obtain⟨d,p,P⟩:∃d p,x.fs=d++[p]:=by
  rcases wI x.fs with h|⟨l,p,h⟩
  .rw[h]at hc;simp at hc
  .exact⟨l,p,by rw[h,wH]⟩
 have⟨node,nx⟩:=p;have a1:J x.fs=J d+1:=by rw[P];simp
 have FU:node<n/\nx<=1000000:=M.fs (node,nx) (by rw[P];simp)
 have G:SH [] H H1 (cyL q n x rf (FC (d++[(node,nx)])++eY) (u (Z ⟨rf,0,T⟩) (J x.fs)<|gQ 2) Kr GZ):=by
  rw[<-P];exact G.perm<|aI (l₁:=_::_::_::_::_::_::_::_::_::_::_::GZ) (l₂:=[_])
 refine fJ ?_;refine q_ ?_;rw[show((J x.fs:Int)-1)=(J d:Int) by omega];refine dA (uQ N) ?_;rw[bB];refine bM ?_;refine G.ld 0 O (JD d node nx eY).1 ?_;have⟨r1,o1,hl1,e1,hr1,hc1⟩:=hU1.1.Re FU.1 uc;have⟨ra,rn,rc,rcs,ab,hU3,hrn,aoe⟩:=hU2 _<|bH hl1;rw[ab]at hc1
 have top:∀(nx:Nat)(g:C Int)(y:C Bool){Q:R},J g=n->J y=n->SH [] H Q (cyL q n {x with lo:=g,sf:=y} rf (FC (d++[(node,nx)])++eY) (u (Z ⟨rf,0,T⟩) (J x.fs)<|gQ 2) Kr GZ)->∃hx,Cy q n {x with lo:=g,sf:=y,fs:=d++[(node,nx)]} hx/\SH [] H Q hx:=by
  intro nx g y Q g1 g2 g3;have e:J x.fs=J (d++[(node,nx)]):=by rw[a1];simp
  rw[e]at g3;exact Ud (x:={x with lo:=g,sf:=y,fs:=d++[(node,nx)]}) I g1 h3 g2 h5 g3
 have bd:∀(nx:Nat)(g:C Int)(y:C Bool),nx<=1000000->FD n {x with lo:=g,sf:=y,fs:=d++[(node,nx)]}:=by
  intro bn g y a9;refine⟨M.cnt,λp hp=>?_,M.ss,?_,M.sl,?_⟩
  .rcases cK.1 hp with h|h
   .exact M.fs p (by rw[P];exact dK _ h)
   .rw[aT]at h;subst h;exact⟨FU.1,a9⟩
  .have:=M.sub;rw[P]at this;simpa using this
  .show J (d++[(node,bn)])<=x.cnt;rw[aS];simp;omega
 refine VQ 15 (h1:=λal mM Q=>∃(nx:Nat)(g:C Int)(y:C Bool),al=rn-nx/\nx<=1000000/\J g=n/\J y=n/\SH [] H Q (cyL q n {x with lo:=g,sf:=y} rf (FC (d++[(node,nx)])++eY) (u (Z ⟨rf,0,T⟩) (J x.fs)<|gQ 2) Kr GZ)) ?_ _ ⟨nx,x.lo,x.sf,O,FU.2,W,h4,G⟩;clear G bf a6;rintro al bw bv H2 ⟨nx,g,y,rfl,a9,U,ag,G⟩;refine tp ?_;refine G.Ov 0 O (JD d node nx eY).2.1 ?_;rw[e1];refine G.lJ ?_;refine G.Jq hc1 hr1 ?_;refine acu (λbh=>?_) λbh=>?_
 .refine tl ?_;have be:FC (d++[(node,nx)])++eY=FC d++(B node::B nx::eY):=by rw[Rh,cz];rfl
  rw[be]at G;have bm:node∈x.ss:=M.sub.subset (by rw[P];simp)
  have ac:∀g y,FD n {x with lo:=g,sf:=y,fs:=d}:=λg y=>by
   refine⟨M.cnt,λp hp=>M.fs p (by rw[P];exact dK _ hp),M.ss,?_,M.sl,by show J d<=x.cnt;omega⟩;have:=M.sub;rw[P,dM]at this;exact(fC _ _).trans this
  have ap:∀(A:C Int)(Q:R)(mM V:D) E,J A=n->SH [] H Q (cyL q n {x with lo:=A,sf:=y,fs:=d} rf (FC d++(B node::B nx::eY)) (u (Z ⟨rf,0,T⟩) (J d)<|gQ 2) Kr GZ)->iG Pg X (sub nC [1,1,1,1,1,1,1,1,0,1,0,0,1,1,0,0,1,0,1,1,0,0,1,0,1,1,1,1,1]) (mE (u ua n uc) (u T 0 0) (pr q.m) (pr q.l) (pr q.o) (pr q.s) (pr q.st) (pr q.fr) (pr q.ct) (zS q) (KT q) mP (bG<|Z ⟨rf,J d*2,T⟩) (B node) mM V (B n) CP E Q) (uB 3<|IW (pR (u ua n uc) (u T 0 0) (pr q.m) (pr q.l) (pr q.o) (pr q.s) (pr q.st) (pr q.fr) (pr q.ct) (zS q) (KT q) mP (B n) CP λm ko vH mM V Q=>∃x hx,Cy q n x hx/\FD n x/\SH [] H Q hx/\m=2*List.count 0 x.ms+J x.fs) m Kp):=by
   intro A Q mM V E bc G;refine tm ?_;refine dA (sV FU.1) ?_;rw[bB];refine G.Ov 6 O (v:=vi<|A[node]'N) (by show(A.map vi)[node]?=_;rw[bK,av (show node<J A by omega)];rfl) ?_;refine fJ ?_;refine dA (sV FU.1) ?_;rw[bB];refine G.Ov 5 O (v:=vi<|x.ms[node]'N) (by show(x.ms.map vi)[node]?=_;rw[bK,av (show node<J x.ms by omega)];rfl) ?_;refine fJ ?_;have⟨M2,hC2,ad⟩:=Ud (x:={x with lo:=A,sf:=y,fs:=d}) I bc h3 ag h5 G;refine nN (λam=>?_) λam=>?_
   .exact⟨2*x.ms.count 0+J d,N,_,_,_,_,_,_,O,_,M2,hC2,ac _ _,ad,O⟩
   have Nj:SH [] H Q (M2++[]):=by rw[bF];exact ad
   show bQ Pg X 188 [B node,pr q.st,pr q.o,pr q.s] Q _;refine dD (adF hn hC2 (ac _ _) FU.1 bm Nj) ?_;rintro v H4 ⟨p,op,aq,M3,hp,an,aE,wD⟩;rw[bF]at wD;refine⟨2*x.ms.count 0+J d,N,_,_,_,_,_,_,O,_,M3,aE,?_,wD,O⟩;have a0:=ac A y;refine⟨a0.cnt,a0.fs,λj hj=>M.ss j<|fG hj,?_,?_,a0.fl⟩
   .have:=M.sub;rw[P,dM]at this;exact adG this hp an
   .show J (x.ss.take p)<=x.cnt;have:=M.sl;rw[dX];omega
  refine fJ ?_;refine q_ ?_;rw[show((J x.fs:Int)-1)=(J d:Int) by omega];refine dA (BV N)<|G.kE λHn G=>?_;refine fJ ?_;have G:SH [] H Hn (cyL q n {x with lo:=g,sf:=y,fs:=d} rf (FC d++(B node::B nx::eY)) (u (Z ⟨rf,0,T⟩) (J d)<|gQ 2) Kr GZ):=G;refine nN (λam=>?_) λam=>?_
  .exact ap _ _ _ _ _ U G
  obtain⟨Y,p2,ar⟩:∃Y p,d=Y++[p]:=by
   rcases wI d with h|⟨l,p,h⟩
   .rw[h]at am;simp at am
   .exact⟨l,p,by rw[h,wH]⟩
  have⟨up,un⟩:=p2;have ba:up<n:=(M.fs (up,un) (by rw[P,ar];simp)).1;have YC:J d=J Y+1:=by rw[ar];simp
  have ab:FC d=FC (Y++[(up,un)]):=by rw[ar]
  refine fJ ?_;refine q_ ?_;rw[show((J d:Int)-1)=(J Y:Int) by omega];refine dA (uQ N) ?_;rw[bB];refine bM ?_;refine G.ld 0 O (v:=B up) (by rw[ab];exact(JD Y up un _).1) ?_;refine fJ ?_;refine dA (sV ba) ?_;rw[bB];refine G.Ov 6 O (v:=vi<|g[up]'N) (by show(g.map vi)[up]?=_;rw[bK,av (show up<J g by omega)];rfl) ?_;refine fJ ?_;refine dA (sV FU.1) ?_;rw[bB];refine G.Ov 6 O (v:=vi<|g[node]'N) (by show(g.map vi)[node]?=_;rw[bK,av (show node<J g by omega)];rfl) ?_;refine G.lJ ?_;refine dA (sV ba) ?_;rw[bB];have n5:q.l≠q.dl:=G.nq 3 6 O O N;generalize min (g[up]'N) (g[node]'N)=mn;refine G.stQ 6 O O (by rw[aK];show up+1<=J g;omega) rfl λH4 G=>?_;refine splitK (λK hK=>?_) ?_
  .simp only[fu,gT];generalize q.l=ql at n5|-;generalize q.dl=dl at n5|-;apply mO n5 yB fT fT hK
  have G:SH [] H _ ((cyL q n {x with lo:=g,sf:=y,fs:=d} rf (FC d++(B node::B nx::eY)) (u (Z ⟨rf,0,T⟩) (J d)<|gQ 2) Kr GZ).set 6 (q.dl,3,splice (g.map vi) up [vi mn])):=G;rw[qP vi N]at G;exact ap (g.set up mn) _ _ _ _ (by rw[bR];exact U) G
 refine G.Jq hc1 hr1 ?_;refine G.lJ ?_;refine G.Ov 0 O (JD d node nx eY).2.1 ?_;have⟨r2,o2,hl2,e2,hr2,hc2'⟩:=hU3.1.Re (show nx<rn by omega) rc;have⟨to,a4,_⟩:=aoe _<|bH hl2;rw[a4]at hc2';rw[e2];refine G.lJ ?_;refine G.Jq hc2' hr2 ?_;refine fJ ?_;refine G.ld 0 O (JD d node nx eY).2.1 ?_;refine eG ?_;refine G.st 0 O O (by rw[aS,Dw,aS];show J d*2+1+1<=(J d+1)*2+J eY;omega) rfl λH3 G=>?_;have G:SH [] H H3 (cyL q n {x with lo:=g,sf:=y} rf (splice (FC (d++[(node,nx)])++eY) (J d*2+1) [B (nx+1)]) (u (Z ⟨rf,0,T⟩) (J x.fs)<|gQ 2) Kr GZ):=G;rw[(JD d node nx eY).2.2]at G
 have a5:∀(b:Bool) E,Co E 83=aR b->(b=aA->0<=to/\to<n)->iG Pg X (sub nC [1,1,1,1,1,1,1,1,0,1,0,0,1,1,0,0,1,0,1,1,0,0,1,0,1,1,0,0,0,1,0,1,1,0,1]) (mE (u ua n uc) (u T 0 0) (pr q.m) (pr q.l) (pr q.o) (pr q.s) (pr q.st) (pr q.fr) (pr q.ct) (zS q) (KT q) mP (bG<|Z ⟨rf,J d*2,T⟩) (B node) (vi to) V (B n) CP E H3) (uB 6<|uB 5<|IW (nX (u ua n uc) (u T 0 0) (pr q.m) (pr q.l) (pr q.o) (pr q.s) (pr q.st) (pr q.fr) (pr q.ct) (zS q) (KT q) mP (bG<|Z ⟨rf,J d*2,T⟩) (B node) V (B n) CP λal mM Q=>∃(nx:Nat)(g:C Int)(y:C Bool),al=rn-nx/\nx<=1000000/\J g=n/\J y=n/\SH [] H Q (cyL q n {x with lo:=g,sf:=y} rf (FC (d++[(node,nx)])++eY) (u (Z ⟨rf,0,T⟩) (J x.fs)<|gQ 2) Kr GZ)) (rn-nx)<|uB 4<|uW Pg X (sub nC [1,1,1,1,1,1,1,1,0,1,0,0,1,1,0,0,1,0,1,1,0,0,1,0,1,1,1])<|uB 3<|IW (pR (u ua n uc) (u T 0 0) (pr q.m) (pr q.l) (pr q.o) (pr q.s) (pr q.st) (pr q.fr) (pr q.ct) (zS q) (KT q) mP (B n) CP λm ko vH mM V Q=>∃x hx,Cy q n x hx/\FD n x/\SH [] H Q hx/\m=2*List.count 0 x.ms+J x.fs) m Kp):=by
  intro b E hb a4;refine tl ?_;rw[hb];refine bM ?_
  have zZ:∀BH Q A aq,J A=n->J aq=n->SH [] H Q (cyL q n {x with lo:=A,sf:=aq} rf (FC (d++[(node,nx+1)])++eY) (u (Z ⟨rf,0,T⟩) (J x.fs)<|gQ 2) Kr GZ)->∃bb,bb<rn-nx/\nX (u ua n uc) (u T 0 0) (pr q.m) (pr q.l) (pr q.o) (pr q.s) (pr q.st) (pr q.fr) (pr q.ct) (zS q) (KT q) mP (bG<|Z ⟨rf,J d*2,T⟩) (B node) V (B n) CP (λal mM Q=>∃(nx:Nat)(g:C Int)(y:C Bool),al=rn-nx/\nx<=1000000/\J g=n/\J y=n/\SH [] H Q (cyL q n {x with lo:=g,sf:=y} rf (FC (d++[(node,nx)])++eY) (u (Z ⟨rf,0,T⟩) (J x.fs)<|gQ 2) Kr GZ)) bb (mE (u ua n uc) (u T 0 0) (pr q.m) (pr q.l) (pr q.o) (pr q.s) (pr q.st) (pr q.fr) (pr q.ct) (zS q) (KT q) mP (bG<|Z ⟨rf,J d*2,T⟩) (B node) (vi to) V (B n) CP BH Q):=
   λBH Q A aq g1 g2 g3=>⟨rn-(nx+1),N,_,_,_,rfl,nx+1,A,aq,rfl,N,g1,g2,g3⟩
  refine iI (λa7=>?_) λa7=>?_
  .exact zZ _ _ g y U ag G
  have⟨ht0,ht1⟩:=a4 a7;obtain⟨t,rfl⟩:∃j:Nat,to=j:=⟨to.toNat,N⟩;have ao:t<n:=N;refine aW (λbj=>?_) λbj=>?_
  .refine G.qF<|dA (sV FU.1) ?_;rw[bB];refine G.st 9 O O (by rw[aK];show node+1<=J y;omega) rfl λH4 G=>?_;refine zZ _ _ g (y.set node F) U (by rw[bR];exact ag) ?_;have G:SH [] H H4 (cyL q n {x with lo:=g,sf:=y} rf (FC (d++[(node,nx+1)])++eY) (u (Z ⟨rf,0,T⟩) (J x.fs)<|gQ 2) Kr GZ|>.set 9 (q.ds,4,splice (y.map aR) node [aR F])):=G;rw[qP aR N]at G;exact G
  refine G.qF<|dA (sV ao) ?_;rw[bB];refine G.ld 5 O (v:=vi<|x.ms[t]'N) (by show(x.ms.map vi)[t]?=_;rw[bK,av (show t<J x.ms by omega)];rfl) ?_;refine tO (λa8=>?_) λa8=>?_
  .have a3:x.ms[t]?=Z 0:=by rw[av (show t<J x.ms by omega),a8]
   have⟨M2,hC2,ad⟩:=top (nx+1) g y U ag G;have ac:=bd (nx+1) g y N;have ad:SH [] H H3 (M2++[]):=by rw[bF];exact ad
   show bQ Pg X 187 [B t,pr q.ct,pr q.m,pr q.l,pr q.o,pr q.st,pr q.fr] H3 _;refine dD (Ns hn hC2 ac ao a3 ad) ?_;rintro v H4 ⟨M3,aE,wD⟩;rw[bF]at wD;have bp:=Gz x.ms t ((x.cnt+1:Nat):Int) a3 N;refine⟨2*(x.ms.set t ((x.cnt+1:Nat):Int)).count 0+(J d+2),N,_,_,_,_,_,_,O,_,M3,aE,ac.begin ao a3,wD,?_⟩;show _=2*(x.ms.set t ((x.cnt+1:Nat):Int)).count 0+J ((d++[(node,nx+1)])++[(t,0)]);rw[aS,aS];simp
  refine G.qF<|dA (sV ao) ?_;rw[bB];refine G.ld 7 O (v:=aR<|x.op[t]'N) (by show(x.op.map aR)[t]?=_;rw[bK,av (show t<J x.op by omega)];rfl) ?_;refine sD (λbg=>?_) λbg=>?_;rotate_left
  .exact zZ _ _ g y U ag G
  refine fJ ?_;refine dA (sV FU.1) ?_;rw[bB];refine G.Ov 6 O (v:=vi<|g[node]'N) (by show(g.map vi)[node]?=_;rw[bK,av (show node<J g by omega)];rfl) ?_;refine fJ ?_;refine dA (sV ao) ?_;rw[bB];refine G.Ov 5 O (v:=vi<|x.ms[t]'N) (by show(x.ms.map vi)[t]?=_;rw[bK,av (show t<J x.ms by omega)];rfl) ?_;refine G.lJ ?_;refine dA (sV FU.1) ?_;rw[bB];have n1:q.m≠q.l:=G.nq 2 3 O O N;have n2:q.m≠q.dm:=G.nq 2 5 O O N;have n3:q.m≠q.dl:=G.nq 2 6 O O N;have n4:q.l≠q.dm:=G.nq 3 5 O O N;have n5:q.l≠q.dl:=G.nq 3 6 O O N;have n6:q.dm≠q.dl:=G.nq 5 6 O O N;generalize min (g[node]'N) (x.ms[t]'N)=mn;refine G.stQ 6 O O (by rw[aK];show node+1<=J g;omega) rfl λH4 G=>?_;refine splitK (λK hK=>?_) ?_
  .simp only[fu,gT];generalize q.m=qm at n1 n2 n3|-;generalize q.l=ql at n1 n4 n5|-;generalize q.dm=dm at n2 n4 n6|-;generalize q.dl=dl at n3 n5 n6|-;apply VK n1 n2 n3 n4 n5 n6 yB fT fT hK
  refine zZ _ _ (g.set node mn) y (by rw[bR];exact U) ag ?_;have G:SH [] H _ ((cyL q n {x with lo:=g,sf:=y} rf (FC (d++[(node,nx+1)])++eY) (u (Z ⟨rf,0,T⟩) (J x.fs)<|gQ 2) Kr GZ).set 6 (q.dl,3,splice (g.map vi) node [vi mn])):=G;rw[qP vi N]at G;exact G
 refine aW (λbi=>?_) λbi=>?_
 .exact a5 _ _ O λh=>by cases h
 .exact a5 _ _ O λh=>by have:=oP h;omega
end
section
variable{S:C Nat}{ay:Nat->Prop}
def _root_.Go.Ae.SH.aao(G:SH S H0 H L){z:C D}(k:∀H1 r,SH S H0 (hM H H1) ((r,e,z)::L)->N_ H H1=cl 5->K (bG<|Z ⟨r,0,T⟩) H1):ME (Go.Ae.jP e z<|Go.Ae.hN H) K:=
 ME.of rfl (k _ _ (G.zC e z)<|yg<|Ext.new _ _)
def _root_.Go.Ae.SH.mkD(G:SH S H0 H L){z:C D}(d:n<=16777216)(k:∀H1 r,SH S H0 (hM H H1) ((r,e,pV z n)::L)->N_ H H1=cl 5->K (u (Z ⟨r,0,T⟩) n n) H1):ME (Go.Ae.mkS e z (B n) (B n)<|Go.Ae.hN H) K:=by
 refine ME.of ?_<|k _ _ (G.zC e<|pV z n)<|yg<|Ext.new _ _;show(aN (Bh<|B n) λg=>aN (Bh<|B n) λm=>gd (aD g m&&aD m 16777216&&F) _)=_;show gd (aD n n&&aD n 16777216&&F) _=_;rw[aG (ax n),aG d];rfl
def Wl(b n:Nat)(H:R)(v:D):Prop:=∃a c,∃d:C Bool,v=u a n c/\J d=n/\jJ (b<=·) 4 H a n 1 (d.map aR)
def Uf{K:Nat}(hn:n<=1000)(hK:K<=1000000)(hU:YB n K H' H<|u ua n uc)(x:CYS)(hx:C eB)(g:Cy q n x hx)(d:FD n x)(hf:x.fs=[])(mP ko M y A:D)(E)(H1:R)(G:SH [] H H1 hx):
 iG Pg X (.loop<|sub nC [1,1,1,1,1,1,1,1,0,1,0,0]) (mE (u ua n uc) (u T 0 0) (pr q.m) (pr q.l) (pr q.o) (pr q.s) (pr q.st) (pr q.fr) (pr q.ct) (zS q) (KT q) mP ko M y A (B n) (vi 0) E H1) (uB 0<|uW Pg X (sub nC [1,1,1,1,1,1,1,1,1])<|jZ Pg [.tmp 2]<|Q1 (λv Q=>Wl H.bU n Q v) H):=by
 refine lp6 12 13 14 15 16 33 (h1:=λm mP ko M y A CP Q=>∃x hx i,CP=B i/\i+m=n/\Cy q n x hx/\FD n x/\x.fs=[]/\SH [] H Q hx) ?_ n ⟨x,hx,0,rfl,N,g,d,hf,G⟩;clear g d hf G x hx;rintro m al am an ao ap aq E H1 ⟨x,hx,i,rfl,ag,g,d,hf,G⟩;refine tp ?_;have U:=g;have ad:=G;obtain⟨Kr,Wj,GZ,Uc,rfl,I,W,h3,h4,h5,h6⟩:=g;refine nN (λhc=>?_) λhc=>?_
 .refine tl ?_;apply G.qF;have hd:=G.yV<|aV (i:=8) O;refine rr ?_;refine⟨⟨_,_,x.sf,O,h4,jJ.one G (aV (i:=8) O) (by rw[aK,h4,dN]) hd⟩,G.ext⟩
 refine iG.scope (az:=λ_ _ _=>False) (λ_ _ _ _ h=>h.elim) 0 ?_
 have P:∀x hx ko M y A E H1,Cy q n x hx->FD n x->SH [] H H1 hx->iG Pg X (sub nC [1,1,1,1,1,1,1,1,0,1,0,0,1,1,0,0,1,0,1]) (mE (u ua n uc) (u T 0 0) (pr q.m) (pr q.l) (pr q.o) (pr q.s) (pr q.st) (pr q.fr) (pr q.ct) (zS q) (KT q) (B i) ko M y A (B n) (B i) E H1) (gtW (sub nC [1,1,1,1,1,1,1,1,0,1,0,0,1,1,0,0,1,0]) (λ_ _ _=>False) 0<|uB 1<|uW Pg X (sub nC [1,1,1,1,1,1,1,1,0,1,0,0,1,1,1])<|IW (Ai (u ua n uc) (u T 0 0) (pr q.m) (pr q.l) (pr q.o) (pr q.s) (pr q.st) (pr q.fr) (pr q.ct) (zS q) (KT q) (B n) λm mP ko M y A CP Q=>∃x hx i,CP=B i/\i+m=n/\Cy q n x hx/\FD n x/\x.fs=[]/\SH [] H Q hx) m<|uB 0<|uW Pg X (sub nC [1,1,1,1,1,1,1,1,1])<|jZ Pg [.tmp 2]<|Q1 (λv Q=>Wl H.bU n Q v) H):=by
  intro x hx ko M y A E H1 g d G;refine tl ?_;refine Ue hn hK hU x hx g d _ _ _ _ _ _ G λx hx ko M y A E H1 g d hf G=>?_;refine bM ?_;rw[ack];refine bM ?_;refine tp ?_;refine eG ?_;exact⟨n-(i+1),N,_,_,_,_,_,_,_,_,O,x,hx,i+1,pJ,N,g,d,hf,G⟩
 refine tl ?_;apply G.qF;have j:i<n:=N;refine dA (sV j) ?_;rw[bB];refine G.ld 4 O (v:=vi<|x.ms[i]'N) (by show(x.ms.map vi)[i]?=_;rw[bK,av (show i<J x.ms by omega)];rfl) ?_;refine MO (λY=>?_) λY=>?_
 .exact P x _ _ _ _ _ _ _ U d G
 have ab:x.ms[i]?=Z 0:=by rw[av (show i<J x.ms by omega),Y]
 have V:=G;rw[<-bF (_::_)]at V;show bQ Pg X 187 [B i,pr q.ct,pr q.m,pr q.l,pr q.o,pr q.st,pr q.fr] H1 _;refine dD (Ns hn U d j ab V) ?_;rintro v H4 ⟨M3,ac,wD⟩;rw[bF]at wD;exact P _ M3 _ _ _ _ _ _ ac (d.begin j ab) wD
theorem Ks(hw:Wf H){K:Nat}(hn:n<=1000)(I:K<=1000000)(M:YB n K H' H v):bQ Pg X 157 [v] H (Q1 (λv Q=>Wl H.bU n Q v) H):=by
 obtain⟨b,ua,uc,vs,rfl,P,U⟩:=M;have M:YB n K H' H (u ua n uc):=⟨b,ua,uc,vs,O,P,U⟩;have G:=h_ hw;refine GY [0,2,3,4,5,6,7,8,9,10,11,12,13,14,15,16,32,33] ?_;refine G.mkD N λW y G f1=>?_
 try simp only[iT G.wf]
 refine G.mkD N λY j G f2=>?_
 try simp only[iT G.wf]
 refine G.aao λH3 m G f3=>?_
 try simp only[iT G.wf]
 refine G.aao λH4 l G f4=>G.n_ λd G=>?_;refine G.n_ λd G=>?_;have n1:l≠m:=G.nq 0 1 O O N;refine splitK (λK I=>?_) ?_
 .simp only[f1,f2,f3,f4,gT];apply mO (a:=l) (b:=m) n1 yB fT fT I
 generalize hM (hM (hM (hM (hM (hM H W) Y) H3) H4) _) d=H5 at*;refine G.mkD N λH6 g G g1=>?_
 try simp only[iT G.wf]
 refine G.mkD N λH7 A G g2=>?_
 try simp only[iT G.wf]
 refine G.aao λH8 o G g3=>?_
 try simp only[iT G.wf]
 refine G.aao λH9 s G g4=>G.n_ λd G=>?_;refine G.n_ λd G=>?_;have n2:s≠o:=G.nq 0 1 O O N;refine splitK (λK I=>?_) ?_
 .simp only[g1,g2,g3,g4,gT];apply mO (a:=s) (b:=o) n2 yB fT fT I
 refine G.jP λd V G=>G.jP λd fr G=>G.jP λd ct G=>G.kE λd G=>?_;have hz:pV [bq bC 0] n=(aY n (0:Int)).map vi:=by rw[mK,jL]
 have hb:pV [aR aA] n=(aY n aA).map aR:=by rw[mK,jL]
 rw[hz,hb]at G;have G:SH [] H d [(ct,3,[B 0]),(fr,290,[u T 0 0]),(V,22,[u T 0 0]),(s,34,[u (Z ⟨A,0,T⟩) n n]),(o,34,[u (Z ⟨g,0,T⟩) n n]),(A,4,(aY n aA).map aR),(g,4,(aY n aA).map aR),(l,22,[u (Z ⟨j,0,T⟩) n n]),(m,22,[u (Z ⟨y,0,T⟩) n n]),(j,3,(aY n (0:Int)).map vi),(y,3,(aY n (0:Int)).map vi)]:=G
 have G:=G.perm (L':=[(ct,3,[B 0]),(m,22,[u (Z ⟨y,0,T⟩) n n]),(l,22,[u (Z ⟨j,0,T⟩) n n]),(o,34,[u (Z ⟨g,0,T⟩) n n]),(y,3,(aY n (0:Int)).map vi),(j,3,(aY n (0:Int)).map vi),(g,4,(aY n aA).map aR),(s,34,[u (Z ⟨A,0,T⟩) n n]),(A,4,(aY n aA).map aR),(V,22,[u T 0 0]),(fr,290,[u T 0 0])])
  (eX _<|uK [_,_,_,_,_,_,_] [_,_]<|uK [_,_,_,_,_,_] [_,_]<|uK [_,_,_] [_,_,_,_]<|uK [_,_,_,_,_,_] []<|uK [_,_,_,_,_] []<|uK [_,_,_,_] []<|uK [_,_] [_]<|uK [_,_] []<|uK [_] []<|rQ _)
 exact Uf (q:=⟨ct,m,l,o,y,j,g,s,A,V,fr⟩) hn I M ⟨0,aY n 0,aY n 0,aY n aA,aY n aA,[],[]⟩ _
  ⟨u T 0 0,u T 0 0,[],[],rfl,gD,gD,gD,gD,GB.nil _ _,GB.nil _ _⟩
  ⟨gD,nofun,nofun,List.Sublist.refl _,ax _,ax _⟩ rfl _ _ _ _ _ _ _ G
end
section
variable{S:C Nat}{ay:Nat->Prop}
def Fa(f:C D):Prop:=∀i,i<J f/3->∃(z a b:Int),El f 3 i=[vi z,vi a,vi b]/\z≠0
def Fa.app(h:Fa f)(hl:J f %3=0)(g:z≠0)(a b:Int):Fa (f++[vi z,vi a,vi b]):=by
 intro i d;have hE:=Dt (es:=3) (n:=J f/3) (f:=f) N (xs:=[vi z,vi a,vi b]) O;rw[aS]at d;simp only[cO,qH]at d;rcases dH i (J f/3)with h'|h'
 .rw[hE.1 i h'];exact h i h'
 .obtain rfl:i=J f/3:=N;exact⟨z,a,b,hE.2,g⟩
def agu{x:D}(j:GB 228 3 x f gb)(y:Fa f)(hl:J f<=10000000)(G:SH S H0 H<|Pf++gb){a b:Int}(A:z≠0){K:D->D->R->Prop}(kk:∀w v' Q iN,GB 228 3 v' (f++[vi z,vi a,vi b]) iN->Fa (f++[vi z,vi a,vi b])->SH S H0 Q (Pf++iN)->K w v' Q):
 ME (bS 228 [bq bC 0,bq bC 0,bq bC 0] 3 1 [(0,dP ⟨[vi z,vi a,vi b]⟩)] H) λw s=>ME (Bo 228 3 x w s) (K w):=by
 have g:J f %3=0:=by
  rcases j with⟨_,rfl,_⟩|⟨r,n,eY,_,e,_⟩
  .rfl
  .omega
 refine G.bS O O O N λB I d=>?_;have d:=d.perm<|eX _<|aI (l₁:=Pf);have⟨v',H6,iN,e1,hg',xP,_⟩:=j.app (m:=0) (cx:=1) d N O O N N;refine ME.of e1<|kk _ v' H6 iN hg' (y.app g A a b)<|xP.perm aI
def Iz(v:D)(H:R)(P:Prop):Prop:=∃a n c f,v=u a n c/\Fl H a n 3 f/\Fa f/\(n=0->P)
theorem amj{rn:Nat}{P:Prop}(hG:Gr b H ra rn rcs na nn jA)(ac:Rf rn mm)(hB:∀j,j<rn->0<=rootOf rcs j/\rootOf rcs j<nn)(H1:R)(hm:wF H1 r mm)(G:SH [] H H1<|(E,171,[u ra rn rc,u na nn nc])::gb)(s:GB 228 3 x3 f gb)(y:Fa f)(hl:J f<=9000000)(A:f=[]->P)(x2 x5 x6 x7 x8 x9 j_ je mP ag al am Jw Fx VT an ao ap:D)(oW):
 iG Pg X (sub EF [1,1,1,1,1,1,1]) (Dp (gV ra rn rc na nn nc) (bG<|Z ⟨E,0,T⟩) x2 x3 (fK<|Z r) x5 x6 x7 x8 x9 j_ je mP ag al am Jw Fx VT an ao ap oW H1) (jZ Pg [.tmp 2]<|Q1 (λv Q=>Iz v Q P) H):=by
 have g2:=hG.2.1;refine tl ?_;apply G.jC;refine G.cm (Ub G.wf (hG.ex G.ext) hm ac hB) ?_;rintro v H2 hv a4 G;refine G.cm (Ks G.wf (K:=500000) (H':=Ua rn) N N ⟨_,hv⟩) ?_;rintro v H3 ⟨ba,bc,bs,rfl,aE,Y⟩ a5 G;refine bM ?_;have a3:=G.lt;have g:=G;have G:=g.base;refine PO 3 11 12 90 (h1:=λm y3 aq ar I Q=>∃(i:Nat)(f:C D)(gb:C eB),I=B i/\i+m=rn/\GB 228 3 y3 f gb/\Fa f/\J f<=9000000+3*i/\(f=[]->P)/\SH _ H3 Q ((E,171,[u ra rn rc,u na nn nc])::gb)) ?_ rn ⟨0,f,gb,rfl,N,s,y,N,A,G⟩;have ad:=g.AO (ty:=4) (by simp[s.all]);clear G s y hl A;rintro m y3 aq ar I OJ H4 ⟨i,d,iN,rfl,a1,s,y,hl,A,G⟩;refine lX (λhc=>?_) λhc=>?_
 .refine tl ?_;obtain⟨a,n,c,rfl,a0,hf⟩:=s.KF (ay:=λ_=>True) (G.perm<|aI (l₁:=[_])) λ_ _=>trivial;refine rr ?_;exact⟨⟨a,n,c,d,O,hf.1,y,λh=>A (by subst h;exact jf N)⟩,(g.over G).ext⟩
 have W:=Y.stay G.ext λq hq=>.inr<|ad q hq;have⟨r',o',hl',e',hr',Nn⟩:=W.1.Re (show i<rn by omega) bc;rw[e'];refine bM ?_;rw[ik]at Nn;refine iY Nn ?_;refine sD (λhb=>?_) λhb=>?_
 .refine PU.b3 O<|agu (Pf:=[_]) s y N G (z:=20) jq λw v' H5 M ab U V=>?_;refine eG ?_;refine⟨rn-(i+1),N,_,_,_,_,_,_,O,i+1,_,M,pJ,N,ab,U,by rw[aS];show J d+3<=_;omega,λh=>absurd h gD,V⟩
 .refine eG ?_;exact⟨rn-(i+1),N,_,_,_,_,_,_,O,i+1,d,iN,pJ,N,s,y,N,A,G⟩
def amk{rn:Nat}{P:Prop}(U:Gr b H ra rn rcs na nn jA)(Y:Rf rn mm)(hB:∀j,j<rn->0<=rootOf rcs j/\rootOf rcs j<nn)(H1:R)(hm:wF H1 r mm)(G:SH [] H H1<|(E,171,[u ra rn rc,u na nn nc])::gb)(s:GB 228 3 x3 f gb)(g:Fa f)(hl:J f<=1000)(y:f=[]->P)(x2 x5 x6 x7 x8 x9 j_ je mP aq ar aE Jw Fx VT a0 a3 a4:D)(oW):
 iG Pg X (sub EF [1,1,1,1,1,1]) (Dp (gV ra rn rc na nn nc) (bG<|Z ⟨E,0,T⟩) x2 x3 (fK<|Z r) x5 x6 x7 x8 x9 j_ je mP aq ar aE Jw Fx VT a0 a3 a4 oW H1) (jZ Pg [.tmp 2]<|Q1 (λv Q=>Iz v Q P) H):=by
 have g2:=U.2.1;have g5:=U.2.2.2.2.1;refine tm ?_;have d:=G;have ab:=d.Gv hm;have G:=d.base;refine lp6 3 7 8 9 10 52 (h1:=λm y3 y7 y8 y9 a5 ac Q=>∃(i:Nat)(f:C D)(gb:C eB),ac=B i/\i+m=rn/\GB 228 3 y3 f gb/\Fa f/\J f<=1000+12006*i/\(f=[]->P)/\SH _ H1 Q ((E,171,[u ra rn rc,u na nn nc])::gb)) ?_ rn ⟨0,f,gb,rfl,N,s,g,N,y,G⟩;clear G s g hl y;rintro m y3 y7 y8 y9 a5 ac OJ H4 ⟨i,ad,iN,rfl,a8,s,g,hl,y,G⟩;refine lX (λhc=>?_) λhc=>?_
 .exact amj U Y hB H4 (hm.ex G.ext ab) (d.over G) s g N y _ _ _ _ _ _ _ _ _ _ _ _ _ _ _ _ _ _ _
 have hi:i<rn:=N;have⟨r1,o1,zY,u1,f1,w1,c1,a1,e1,hl1,Br,uX,hsz,_⟩:=(U.ex (d.over G).ext).ru hi rc;rw[e1];refine bM ?_;refine ME.uL Br<|G.oV O O O λH5 ru G bb=>?_;have G:SH _ H1 H5 ((ru,234,yw zY u1 f1 w1 c1 (rootOf rcs i) a1)::(E,171,[u ra rn rc,u na nn nc])::iN):=G;apply G.jC;refine G.cm (PW G.wf (U.ex (d.over<|fU (A:=[_]) G).ext) hi hB) ?_;rintro v H6 ⟨k0,rfl,a9⟩ bc G;have hb:=hB i hi;refine Ik 3 9 10 (h1:=λm' z3 z9 a6 Q=>∃(k:Nat)(f:C D)(gb:C eB),z9=B k/\k+m'=4001/\GB 228 3 z3 f gb/\Fa f/\J f<=1000+12006*i+3*k/\(f=[]->P)/\SH _ H1 Q ((ru,234,yw zY u1 f1 w1 c1 (rootOf rcs i) a1)::(E,171,[u ra rn rc,u na nn nc])::gb)) ?_ (4001-k0) ⟨k0,ad,iN,rfl,N,s,g,N,y,G⟩;clear G s g hl y;rintro m' z3 z9 a6 a7 H7 ⟨k,I,VL,rfl,ba,s,g,hl,y,G⟩;refine agk (λan=>?_) λan=>?_
 .refine tp ?_;refine eG ?_;exact⟨rn-(i+1),N,_,_,_,_,_,_,_,_,O,i+1,I,VL,pJ,N,s,g,N,y,fU (A:=[_]) G⟩
 have W:k<nn:=N;have M:=U.ex (d.over<|fU (A:=[_]) G).ext;refine fJ ?_;have⟨kd,ka,kn,kc,ks',t,rs,at',he,hk1,hk2,hk3,hk4,hk5⟩:=M.2.2.2.2.2 k W;obtain⟨xa,xn,xc,bd,rfl,R7⟩:=id hk5;have⟨r2,o2,e2,hl2,aak,xF⟩:=M.no W nc he;rw[e2];refine G.lJ ?_;refine ME.uL (H:=hN _) aak ?_;simp only[iT G.wf];have ap:=hm.ex G.ext ab;refine dD (Wh (H:=hN H7) (ax _) (r:=r) (m:=mm) (show Gr b (hN H7) ra rn rcs na nn jA from M) ap Y) ?_;rintro v H8 ⟨⟨z,rfl⟩,BK⟩;have G:=G.oI BK;refine splitK (λK hK=>?_) ?_
 .exact ji (by simp only[fu,gJ BK];rfl) hK
 refine yx (λV=>?_) λV=>?_
 .refine PU.b3 O<|agu (Pf:=[_,_]) s g N G V λw v' H5 ag ao al am=>?_;refine eG ?_;exact⟨4001-(k+1),N,_,_,_,_,_,O,k+1,_,ag,pJ,N,ao,al,by rw[aS];show J I+3<=_;omega,λh=>absurd h gD,am⟩
 .refine eG ?_;exact⟨4001-(k+1),N,_,_,_,_,_,O,k+1,I,VL,pJ,N,s,g,N,y,G⟩
end
section
variable{S:C Nat}{ay:Nat->Prop}
def IA(rcs:C D)(i:Nat):Bool:=match((El rcs 7 i)[1]?.getD<|aR aA)with
 |Value.bool b=>b
 |_=>aA
def Lh{w:Bool}{at':Int}(h:El rcs 7 i=yw nm ai cs w ch root at'):IA rcs i=ai:=by unfold IA;rw[h];rfl
def aik{rn:Nat}{P:Prop}(W:Gr b H ra rn rcs na nn jA)(hB:∀j,j<rn->0<=rootOf rcs j/\rootOf rcs j<nn)(H1:R)(G:SH [] H H1<|(E,171,[u ra rn rc,u na nn nc])::gb)(s:GB 228 3 x3 f gb)(g:Fa f)(hl:J f<=3)(U:f=[]->P)(x2 x4 x5 x6 x7 x8 x9 j_ je mP am an ao Jw Fx VT ap aq ar:D)(oW):
 iG Pg X (sub EF [1,1,1,1]) (Dp (gV ra rn rc na nn nc) (bG<|Z ⟨E,0,T⟩) x2 x3 x4 x5 x6 x7 x8 x9 j_ je mP am an ao Jw Fx VT ap aq ar oW H1) (jZ Pg [.tmp 2]<|Q1 (λv Q=>Iz v Q P) H):=by
 have g2:=W.2.1;refine tm ?_;refine dD (We G.wf<|W.ex G.ext) ?_;rintro v H2 ⟨r,mm,rfl,hm,I,al,aE⟩;have G:=G.call al;refine fJ ?_;have d:=G;have M:=d.Gv hm;have G:=d.base;refine PO 3 5 6 32 (h1:=λm y3 y5 y6 V Q=>∃(i:Nat)(f:C D)(gb:C eB),V=B i/\i+m=rn/\GB 228 3 y3 f gb/\Fa f/\J f<=3+3*i/\(f=[]->P)/\SH _ H2 Q ((E,171,[u ra rn rc,u na nn nc])::gb)) ?_ rn ⟨0,f,gb,rfl,N,s,g,N,U,G⟩;clear G s g hl U;rintro m y3 y5 y6 V OJ H4 ⟨i,y,iN,rfl,a0,s,g,hl,U,G⟩;refine lX (λhc=>?_) λhc=>?_
 .exact amk W I hB H4 (hm.ex G.ext M) (d.over G) s g N U _ _ _ _ _ _ _ _ _ _ _ _ _ _ _ _ _ _ _
 have hi:i<rn:=N;have⟨r1,o1,zY,u1,f1,w1,c1,a1,e1,hl1,Br,uX,hsz,_⟩:=(W.ex (d.over G).ext).ru hi rc;rw[e1];refine bM ?_;refine ME.uL Br<|G.oV O O O λH5 ru G a3=>?_;have G:SH _ H2 H5 ((ru,234,yw zY u1 f1 w1 c1 (rootOf rcs i) a1)::(E,171,[u ra rn rc,u na nn nc])::iN):=G;refine fJ ?_;refine ME.aii (hm.ex G.ext M) Dv T7 eqS λcs hf hn=>?_
 obtain⟨z,hz⟩:∃z:Int,cs.getD (vi 0)=vi z:=by
  cases cs with
  |none=>exact⟨0,O⟩
  |some v=>
   have⟨j,_,e⟩:=I _<|hf v O;have e:v=B j:=e;exact⟨j,by rw[e];rfl⟩
 rw[hz];refine yx (λad=>?_) λad=>?_
 .refine PU.b3 O<|agu (Pf:=[_]) s g N (fU (A:=[_]) G) (z:=16) jq λw v' H6 Y ag ab ac=>?_;refine eG ?_;exact⟨rn-(i+1),N,_,_,_,_,_,_,O,i+1,_,Y,pJ,N,ag,ab,by rw[aS];show J y+3<=_;omega,λh=>absurd h gD,ac⟩
 .refine eG ?_;exact⟨rn-(i+1),N,_,_,_,_,_,_,O,i+1,y,iN,pJ,N,s,g,N,U,fU (A:=[_]) G⟩
def Clean(ay:Nat->Prop)(H:R)(rn:Nat)(rcs:C D)(nn:Nat)(jA:C D):Prop:=Nq ay H rn rcs nn jA/\IA rcs 0=aA
def Ug(hw:Wf H){rn:Nat}(d:Gr b H ra rn rcs na nn jA):bQ Pg X 148 [gV ra rn rc na nn nc] H (Q1 (λv Q=>Iz v Q<|Clean (b<=·) H rn rcs nn jA) H):=by
 have G:=h_ hw;refine lq [0,1,2,3,4,5,6,7,8,9,10,11,12,30,31,32,50,51,52,88,89,90] ?_;refine G.box O λH1 E G=>?_;refine fJ ?_;have j:=G.ext;refine G.cm (Wd G.wf<|d.ex j) ?_;rintro v H2 ⟨t,rfl,Y⟩ M G;refine sD (λP=>?_) λP=>?_
 .refine PU.b3 O ?_;refine G.bS O O O N λH3 rx G=>?_;have A:=jJ.one (ay:=λ_=>True) (n:=1) (es:=3) G (aL ..) O trivial;refine rr ?_;refine⟨⟨_,1,1,_,O,A.1,?_,λh=>by cases h⟩,G.ext⟩;intro i U;have U:i<1:=U;obtain rfl:i=0:=N;exact⟨2,-1,-1,O,jq⟩
 have hs:Nq (b<=·) H rn rcs nn jA:=by
  have h:=Y (by cases t with
   |true=>rfl
   |false=>cases P)
  exact⟨h.1.back d j,h.2⟩
 apply G.qF;have⟨r1,o1,zY,u1,f1,w1,c1,a1,e1,hl1,Br,uX,hsz,he1⟩:=d.ru (i:=0) hs.2.1 rc;rw[show(bq bC 0)=B 0 from O,e1];refine bM ?_;refine G.CO (uX 1 _ N O) hl1 ?_;refine sD (λg=>?_) λg=>?_
 .exact PU.b3 O<|agu (Pf:=[_]) (GB.nil _ _) (f:=[]) (λi h=>absurd h gD) gD G (z:=18) jq λw v' V W I s y=>aik d hs.1.2 V y I s gD (λh=>absurd h gD) _ _ _ _ _ _ _ _ _ _ _ _ _ _ _ _ _ _ _ _
 .exact aik d hs.1.2 _ G (GB.nil _ _) (λi h=>absurd h gD) gD (λ_=>⟨hs,by rw[Lh he1];exact g⟩) _ _ _ _ _ _ _ _ _ _ _ _ _ _ _ _ _ _ _ _
def Nt(W:Wf H){rn:Nat}(s:Gr b H ra rn rcs na nn jA):bQ Pg X 121 [gV ra rn rc na nn nc] H (Q1 (λv _=>∃z a c:Int,v=dP ⟨[vi z,vi a,vi c]⟩/\(z=0->Clean (b<=·) H rn rcs nn jA)) H):=by
 have G:=h_ W;refine lq [0,1,2,3] ?_;refine G.box O λY E G=>?_;refine G.jP λj rf G=>?_;apply G.jC;have g:=G.ext;refine G.cm (Ug G.wf<|s.ex g) ?_;rintro v H2 ⟨a,n,c,f,rfl,A,I,P⟩ M G;refine tO (λU=>?_) λU=>?_
 .have⟨r,o,e,hr,hrd,_⟩:=A.read N (show 0<n by omega) c;rw[show(bq bC 0)=B 0 from O,e];refine bM ?_;have⟨z,x,y,he,hz⟩:=I 0 (by have:=A.1;omega);rw[he]at hrd;refine ME.uL hrd<|G.kE λj G=>rr ?_;exact G.jC<|⟨⟨z,x,y,O,λh=>absurd h hz⟩,G.ext⟩
 .have V:n=0:=N;have d:=P V;refine PU.b3 O<|G.kE λj G=>rr ?_;exact G.jC<|⟨⟨0,0,0,O,λ_=>⟨⟨d.1.1.back s g,d.1.2⟩,d.2⟩⟩,G.ext⟩
end
end Go.Proofs.Lu
