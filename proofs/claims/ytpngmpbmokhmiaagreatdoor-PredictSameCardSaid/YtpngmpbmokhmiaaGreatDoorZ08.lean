/-
  Part 08 of the proof. No condition.
-/
import Derived.Test.YtpngmpbmokhmiaaGreatDoorZ07
set_option linter.unusedVariables false
set_option linter.unusedSimpArgs false
set_option maxRecDepth 100000
set_option maxHeartbeats 4000000
set_option linter.defProp false
open Option renaming some->Z,none->W,rec->aN
open Bool renaming true->f,false->aA
open Go renaming Value->D,TypeId->aG
open Go.Value renaming int->bV,slice->T,bool->gF,tuple->Jn
open Nat renaming succ->bU,ble->aB
open Go.ByteArray renaming toList_eq->h_
open List renaming replicate->aU
open List.Perm renaming cons->dQ
noncomputable section
namespace Go.Proofs.Lu
open Go.Ae Go.Ae.SH
variable{m mm:List (ByteArray×D)}{K:D->F->Prop}{E dY ks l iH rcs z:List D}{a a2 na ra ua:Option Addr}{h1:Int->Prop}{b c es i n nc nn o p r rc rf u uc w:Nat}{L SH Pf gb EN:List dJ}{e kt t ty vt:aG}{H C H0:F}{k nm:ByteArray}{v x3:D}{ch root:Int}{av ok rg:Bool}
section
variable{S:List Nat}{ax:Nat->Prop}
def KA(kd:Int)(n:Nat):Prop:=(kd=0/\2<=n)\/kd=1\/((kd=2\/kd=3\/kd=4)/\n=1)\/((kd=5\/kd=6\/kd=7)/\n=0)
def XO(kd:Int)(n:Nat):aJ Pg X 228 [vi kd,B n] H (Q0 (λv=>∃b:Bool,v=.bool b/\(b=f->KA kd n)) H):=by
 have fin:∀(b:Bool) u,Aw u 12=.bool b->(b=f->kd=2\/kd=3\/kd=4)->gJ Pg X (sub CJ [1,0,1,0,1,1,1,1,1]) (FC (vi kd) (B n) (.bool aA) (vi kd) u H) (rO 0<|sW Pg X (sub CJ [1,1])<|jR Pg [.tmp 4]<|Q0 (λv=>∃b:Bool,v=.bool b/\(b=f->KA kd n)) H):=by
  intro b u hb hk
  have alh:∀u,gJ Pg X (sub CJ [1,1]) (FC (vi kd) (B n) (.bool aA) (vi kd) u H) (jR Pg [.tmp 4]<|Q0 (λv=>∃b:Bool,v=.bool b/\(b=f->KA kd n)) H):=λu=>
   by refine tl ?_;refine rr ?_;exact⟨⟨aA,O,λh=>by cases h⟩,rfl⟩
  refine tl ?_;rw[hb];refine dL (λhb=>?_) λhb=>?_
  .refine aY ?_;refine rr ?_;exact⟨⟨_,O,λh=>.inr<|.inr<|.inl ⟨hk hb,by have:=fE h;omega⟩⟩,rfl⟩
  refine aY ?_;refine aC (λy=>?_) λy=>?_
  .rw[bG y];refine aY ?_;refine rr ?_;exact⟨⟨_,O,λh=>.inr<|.inr<|.inr ⟨.inl y,by have:=fE h;omega⟩⟩,rfl⟩
  refine aC (λy=>?_) λy=>?_
  .rw[bG y];refine aY ?_;refine rr ?_;exact⟨⟨_,O,λh=>.inr<|.inr<|.inr ⟨.inr<|.inl y,by have:=fE h;omega⟩⟩,rfl⟩
  refine aC (λy=>?_) λy=>?_
  .refine rr ?_;exact⟨⟨_,O,λh=>.inr<|.inr<|.inr ⟨.inr<|.inr y,by have:=fE h;omega⟩⟩,rfl⟩
  exact alh _
 refine ce [0,1,4,5] ?_;refine tp ?_;refine aC (λy=>?_) λy=>?_
 .refine rr ?_;exact⟨⟨_,O,λh=>.inl ⟨y,by have:=fE h;omega⟩⟩,rfl⟩
 refine aC (λy=>?_) λy=>?_
 .refine rr ?_;exact⟨⟨_,O,λh=>.inr<|.inl y⟩,rfl⟩
 refine aC (λy=>?_) λy=>?_
 .exact fin _ _ O λ_=>.inl y
 refine aC (λy=>?_) λy=>?_
 .exact fin _ _ O λ_=>.inr<|.inl y
 exact fin _ _ O λh=>.inr<|.inr (by have:=fE h;omega)
def _root_.Go.Ae.Fl.Oo{k:Nat}(h:Fl H a n 1 E)(hk:k<n)(c:Nat):∃r o,∃hl:k<E.length,Ac 1 (T a n c) (B k)=Z (.pointer<|Z ⟨r,o,W⟩)/\r<H.next/\H.cell r o=Z E[k]:=by
 have hl:k<E.length:=by have:=h.1;omega
 obtain⟨r,o,Q,I,h3,_⟩:=h.idx (c:=c) (dI 0) hk;exact⟨r,o,hl,Q,I,h3 0 _ (dI 0) (by rw[dz,dD];exact au hl)⟩
def NoR(ax:Nat->Prop)(H:F)(i:Nat)(l:List D):Prop:=∃(kd:Int)(a:Option Addr)(n c:Nat)(ks:List D)(t:ByteArray)(xa:Option Addr)(xn xc:Nat)(at':Int),l=[vi kd,T a n c,.string t,T xa xn xc,vi at']/\n<=20001/\t.size<=1000000/\i_ ax 3 H a n 1 ks/\KA kd n/\(∀x∈ks,∃z:Nat,x=B z/\z<i)
def intOf(v:D):Int:=match v with
 |.int _ z=>z
 |_=>0
def rootOf(rcs:List D)(i:Nat):Int:=intOf<|(El rcs 7 i)[5]?.getD<|.int .i64 0
def MW{a b c d e av:D}{z:Int}(h:El rcs 7 i=[a,b,c,d,e,vi z,av]):rootOf rcs i=z:=by unfold rootOf;rw[h];rfl
abbrev gV(ra:Option Addr)(rn rc:Nat)(na:Option Addr)(nn nc:Nat):D:=.agg ⟨[T ra rn rc,T na nn nc]⟩
def Bz(ax:Nat->Prop)(H:F)(rn:Nat)(rcs:List D)(nn:Nat)(iH:List D):Prop:=(∀i,i<nn->NoR ax H i (El iH 5 i))/\∀i,i<rn->0<=rootOf rcs i/\rootOf rcs i<nn
def KB(hw:Wf H){rn:Nat}(hG:Gr b H ra rn rcs na nn iH):aJ Pg X 206 [gV ra rn rc na nn nc] H (Q1 (λv _=>∃t:Bool,v=.bool t/\(t=f->Bz (b<=·) H rn rcs nn iH)) H):=by
 obtain⟨g1,g2,g3,g4,g5,g6⟩:=hG;have G:=M.refl hw;refine ce [0,1,2,3,4,6,8,10,11,12,25,26,27,41,42,43] ?_;refine tl ?_;refine G.box O λH1 u G=>?_;refine d_ ?_;refine lp8 2 3 4 6 12 25 26 27 (h2:=λm x2 x3 x4 x6 kQ x25 XA x27 C=>∃i:Nat,x2=.bool aA/\kQ=B i/\i+m=nn/\(∀j,j<i->NoR (b<=·) H j (El iH 5 j))/\M [] H C [(u,171,[T ra rn rc,T na nn nc])]) ?_ nn ⟨0,rfl,rfl,N,λj h=>absurd h N,G⟩;clear G;rintro m x2 x3 x4 x6 kQ x25 XA x27 mO H2 ⟨i,rfl,rfl,him,hdone,G⟩;refine tp ?_;refine aC (λy=>?_) λy=>?_
 .have hin:i<nn:=by omega
  obtain⟨r,o,e,R,hrd,hel,o0,_⟩:=g4.1.read N hin nc;rw[e];refine aY ?_;obtain⟨kd,ka,kn,kc,ks,t,rs,at',he,hk1,hk2,hk3,hk4,hk5⟩:=g6 i hin;obtain⟨xa,xn,xc,xcs,rfl,Tm⟩:=id hk5;rw[he]at hrd;refine G.zP hrd R<|G.nZ O O O λH3 rn' G hx3=>?_;have G:M [] H H3 [(rn',238,[vi kd,T ka kn kc,.string t,T xa xn xc,vi at']),(u,171,[T ra rn rc,T na nn nc])]:=G;refine d_ ?_;refine aJ.mono (XO kd kn) ?_;rintro v H4 ⟨⟨t1,rfl,ht1⟩,rfl⟩;refine G.kK ?_;refine dL (λhb=>?_) λhb=>?_
  .refine rr ?_;refine⟨⟨aA,O,λh=>by cases h⟩,G.ext⟩
  have hfit:=ht1 (by cases t1 with
   |true=>rfl
   |false=>cases hb)
  refine d_ ?_;refine Ig 2 6 27 (h2:=λm x2 x6 x27 C=>∃k:Nat,x2=.bool aA/\x27=B k/\k+m=kn/\(∀j(h:j<ks.length),j<k->∃z:Nat,ks[j]=B z/\z<i)/\M [] H C [(rn',238,[vi kd,T ka kn kc,.string t,T xa xn xc,vi at']),(u,171,[T ra rn rc,T na nn nc])]) ?_ kn ⟨0,rfl,rfl,N,λj h h'=>absurd h' N,G⟩;clear G;rintro m' x2 x6 x27 mO H5 ⟨k,rfl,rfl,hkm,hkd,G⟩;refine tp ?_;refine aC (λy=>?_) λy=>?_
  .have hkn:k<kn:=by omega
   obtain⟨r',o',hl,e',hr',KC⟩:=hk1.1.Oo hkn kc;rw[e'];refine aY ?_;obtain⟨z,hz⟩:=hk3 _<|bB hl;rw[hz]at KC;refine G.Ay KC hr' ?_;refine aY ?_;refine aC (λhc2=>?_) λhc2=>?_
   .refine rr ?_;exact⟨⟨aA,O,λh=>by cases h⟩,G.ext⟩
   refine aC (λhc3=>?_) λhc3=>?_
   .refine rr ?_;exact⟨⟨aA,O,λh=>by cases h⟩,G.ext⟩
   refine dU ?_;refine⟨kn-(k+1),N,_,_,_,_,_,O,k+1,O,nX,N,λj hj hjk=>?_,G⟩;rcases bZ j k with h|h
   .exact hkd j hj h
   .obtain rfl:j=k:=by omega
    exact⟨z.toNat,by rw[hz];congr 1;omega,N⟩
  refine tp ?_;refine dU ?_;refine⟨nn-(i+1),N,_,_,_,_,_,_,_,_,_,_,O,i+1,O,nX,N,λj hj=>?_,M.drop (A:=[_]) G⟩;rcases bZ j i with h|h
  .exact hdone j h
  .obtain rfl:j=i:=by omega
   refine⟨kd,ka,kn,kc,ks,t,xa,xn,xc,at',he,hk2,hk4,hk1,hfit,λx J=>?_⟩;obtain⟨j',hj',rfl⟩:=iJ J;exact hkd j' hj' (by have:=hk1.1.1;omega)
 have hin:i=nn:=by omega
 subst hin;refine tm ?_;refine Ig 2 8 43 (h2:=λm x2 x8 x43 C=>∃k:Nat,x2=.bool aA/\x43=B k/\k+m=rn/\(∀j,j<k->0<=rootOf rcs j/\rootOf rcs j<i)/\M [] H C [(u,171,[T ra rn rc,T na i nc])]) ?_ rn ⟨0,rfl,rfl,N,λj h=>absurd h N,G⟩;clear G;rintro m' x2 x8 x43 mO H5 ⟨k,rfl,rfl,hkm,hkd,G⟩;refine tp ?_;refine aC (λy=>?_) λy=>?_
 .have hkn:k<rn:=by omega
  obtain⟨r,o,e,R,hrd,hel,o0,_⟩:=g1.1.read N hkn rc;rw[e];refine aY ?_;obtain⟨nm,rg,av,w,ch,root,at',he,hnm⟩:=g3 k hkn;rw[he]at hrd;refine G.zP hrd R<|G.nZ O O O λH3 ru G hx3=>?_;have G:M [] H H3 [(ru,234,wh nm rg av w ch root at'),(u,171,[T ra rn rc,T na i nc])]:=G;refine d_ ?_;refine aC (λhc2=>?_) λhc2=>?_
  .refine rr ?_;exact⟨⟨aA,O,λh=>by cases h⟩,G.ext⟩
  refine d_ ?_;refine aC (λhc3=>?_) λhc3=>?_
  .refine rr ?_;exact⟨⟨aA,O,λh=>by cases h⟩,G.ext⟩
  refine dU ?_;refine⟨rn-(k+1),N,_,_,_,_,_,O,k+1,O,nX,N,λj hjk=>?_,M.drop (A:=[_]) G⟩;rcases bZ j k with h|h
  .exact hkd j h
  .obtain rfl:j=k:=by omega
   rw[MW he];omega
 refine tl<|rr ?_;exact⟨⟨f,O,λ_=>⟨λj hj=>hdone j hj,λj hj=>hkd j N⟩⟩,G.ext⟩
def Gr.ru{rn:Nat}(hG:Gr b H ra rn rcs na nn iH)(hi:i<rn)(c:Nat):∃(r o:Nat)(nm:ByteArray)(rg av w:Bool)(ch at':Int),Ac 7 (T ra rn c) (B i)=Z (.pointer<|Z ⟨r,o,W⟩)/\r<H.next/\H.read r o 7=Z (wh nm rg av w ch (rootOf rcs i) at')/\(∀f' x,f'<7->(wh nm rg av w ch (rootOf rcs i) at')[f']?=Z x->H.cell r (o+f')=Z x)/\nm.size<=1000000/\El rcs 7 i=wh nm rg av w ch (rootOf rcs i) at':=by
 obtain⟨g1,g2,g3,g4,g5,g6⟩:=hG;obtain⟨r,o,e,R,hrd,hel,o0,e0,ho⟩:=g1.1.read N hi c;obtain⟨r',o',e',hr',hcl,_⟩:=g1.1.idx (c:=c) N hi;rw[e]at e';cases e';obtain⟨nm,rg,av,w,ch,root,at',he,hnm⟩:=g3 i hi;rw[MW he];have he:El rcs 7 i=wh nm rg av w ch root at':=he;refine⟨r,o,nm,rg,av,w,ch,at',e,R,he▸hrd,λf' x hf J=>hcl f' x hf ?_,hnm,he⟩;rw[<-he,mG,if_pos hf]at J;exact J
def Gr.no{rn:Nat}(hG:Gr b H ra rn rcs na nn iH)(hi:i<nn)(c:Nat)(hl:El iH 5 i=l):∃(r o:Nat),Ac 5 (T na nn c) (B i)=Z (.pointer<|Z ⟨r,o,W⟩)/\r<H.next/\H.read r o 5=Z l/\∀f' x,f'<5->l[f']?=Z x->H.cell r (o+f')=Z x:=by
 obtain⟨g1,g2,g3,g4,g5,g6⟩:=hG;obtain⟨r,o,e,R,hrd,hel,o0,e0,ho⟩:=g4.1.read N hi c;obtain⟨r',o',e',hr',hcl,_⟩:=g4.1.idx (c:=c) N hi;rw[e]at e';cases e';refine⟨r,o,e,R,hl▸hrd,λf' x hf J=>hcl f' x hf ?_⟩;rw[<-hl,mG,if_pos hf]at J;exact J
def Fl.uniq{cs':List D}(h:Fl H a n es E)(h':Fl H a n es cs'):E=cs':=by
 apply qA<|h.1.trans h'.1.symm;intro i Q I;obtain⟨r,o,e,_,y⟩:=h.2 i _<|au Q;obtain⟨r',o',e',_,hc'⟩:=h'.2 i _<|au I;rw[e]at e';cases e';rw[y]at hc';exact dH hc'
def NoR.back(hn:NoC ax H l)(J:Ext H C)(h:NoR ax C i l):NoR ax H i l:=by
 obtain⟨kd,a,n,c,ks,t,rs,at',e,Q,I,h3,h4,h5⟩:=hn;obtain⟨kd',a',n',c',ks',t',xa,xn,xc,QH,e',g1,g2,g3,g4,g5⟩:=h;rw[e]at e';cases e';have:=Fl.uniq (Q.ex J).1 g3.1;subst this;exact⟨kd,a,n,c,ks,t,xa,xn,xc,at',e,g1,g2,Q,g4,g5⟩
def NoR.ex(J:Ext H C)(h:NoR ax H i l):NoR ax C i l:=by
 obtain⟨kd',a',n',c',ks',t',xa,xn,xc,QH,e',g1,g2,g3,g4,g5⟩:=h;exact⟨kd',a',n',c',ks',t',xa,xn,xc,QH,e',g1,g2,g3.ex J,g4,g5⟩
def Gr.ex{rn:Nat}(hG:Gr b H ra rn rcs na nn iH)(J:Ext H C):Gr b C ra rn rcs na nn iH:=by
 obtain⟨g1,g2,g3,g4,g5,g6⟩:=hG;exact⟨g1.ex J,g2,g3,g4.ex J,g5,λi hi=>(g6 i hi).st J λ_ h=>nomatch h⟩
def Bz.back{rn:Nat}(hG:Gr b H ra rn rcs na nn iH)(J:Ext H C)(h:Bz (b<=·) C rn rcs nn iH):Bz (b<=·) H rn rcs nn iH:=
 ⟨λi hi=>(h.1 i hi).back (hG.2.2.2.2.2 i hi) J,h.2⟩
def KE(ax:Nat->Prop)(H:F)(rn:Nat)(rcs:List D)(nn:Nat)(iH:List D):Prop:=Bz ax H rn rcs nn iH/\1<=rn/\∀i,i+1<rn->rootOf rcs i<rootOf rcs (i+1)
def Tw(hw:Wf H){rn:Nat}(hG:Gr b H ra rn rcs na nn iH):aJ Pg X 176 [gV ra rn rc na nn nc] H (Q1 (λv _=>∃t:Bool,v=.bool t/\(t=f->KE (b<=·) H rn rcs nn iH)) H):=by
 have G:=M.refl hw;have g2:=hG.2.1;refine ce [0,1,2,3] ?_;refine tl ?_;refine G.box O λH1 u G=>?_;refine d_ ?_;refine aC (λy=>?_) λy=>?_
 .refine rr ?_;exact⟨⟨aA,O,λh=>by cases h⟩,G.ext⟩
 refine G.iK ?_;have hx1:=G.ext;refine aJ.mono (KB G.wf<|hG.ex hx1) ?_;rintro v H2 ⟨⟨t,rfl,ht⟩,J⟩;have G:=G.call J;refine aY ?_;refine dL (λhb=>?_) λhb=>?_
 .refine rr ?_;exact⟨⟨aA,O,λh=>by cases h⟩,G.ext⟩
 have hR:=Bz.back hG hx1 (ht (by cases t with
  |true=>rfl
  |false=>cases hb))
 refine tl ?_;refine lp2 2 3 (h2:=λm x2 x3 C=>∃i:Nat,x2=.bool aA/\x3=B i/\1<=i/\i+m=rn/\(∀j,j+1<i->rootOf rcs j<rootOf rcs (j+1))/\M [] H C [(u,171,[T ra rn rc,T na nn nc])]) ?_ (rn-1) ⟨1,rfl,rfl,N,N,λj h=>absurd h N,G⟩;clear G;rintro m x2 x3 mO H2 ⟨i,rfl,rfl,hi1,him,R,G⟩;refine tm ?_;refine aC (λy=>?_) λy=>?_
 .obtain⟨r1,o1,yf,u1,f1,w1,c1,a1,e1,hl1,zo,sw,_,_⟩:=hG.ru (i:=i) N rc;obtain⟨r2,o2,nm2,u2,f2,w2,c2,a2,e2,hl2,XP,vk,_,_⟩:=hG.ru (i:=i-1) N rc;refine d_ ?_;rw[e1];refine G.kK ?_;refine G.Gn (sw 5 _ N O) hl1 ?_;refine d_ ?_;refine qX ?_;rw[show((i:Int)-1)=((i-1:Nat):Int) by omega,e2];refine G.kK ?_;refine G.Gn (vk 5 _ N O) hl2 ?_;refine d_ ?_;refine aC (λhc2=>?_) λhc2=>?_
  .refine rr ?_;exact⟨⟨aA,O,λh=>by cases h⟩,G.ext⟩
  refine dU ?_;refine⟨rn-(i+1),N,_,_,_,_,O,i+1,O,nX,N,N,λj hj=>?_,G⟩;rcases bZ (j+1) i with h|h
  .exact R j h
  .obtain rfl:i=j+1:=by omega
   rw[kW]at hc2;omega
 refine tl<|rr ?_;exact⟨⟨f,O,λ_=>⟨hR,N,λj hj=>R j N⟩⟩,G.ext⟩
def MX(hw:Wf H){rn:Nat}(hG:Gr b H ra rn rcs na nn iH)(hi:i<rn)(hB:∀j,j<rn->0<=rootOf rcs j/\rootOf rcs j<nn):aJ Pg X 178 [gV ra rn rc na nn nc,B i] H (Q1 (λv _=>∃k:Nat,v=B k/\k<=nn) H):=by
 have G:=M.refl hw;have g2:=hG.2.1;have g5:=hG.2.2.2.2.1;refine ce [0,1,2,4] ?_;refine tl ?_;refine G.box O λH1 u G=>?_;refine G.kK ?_;refine aC (λy=>?_) λy=>?_
 .refine rr ?_;exact⟨⟨0,O,N⟩,G.ext⟩
 refine G.oF ?_;obtain⟨r2,o2,nm2,u2,f2,w2,c2,a2,e2,hl2,XP,vk,_,_⟩:=hG.ru (i:=i-1) N rc;refine qX ?_;rw[show((i:Int)-1)=((i-1:Nat):Int) by omega,e2];refine G.kK ?_;refine G.Ay (vk 5 _ N O) hl2 ?_;have hb:=hB (i-1) N;refine dU ?_;refine rr ?_;exact⟨⟨(rootOf rcs (i-1)+1).toNat,by show vi _=vi (((rootOf rcs (i-1)+1).toNat:Nat):Int);rw[Int.toNat_of_nonneg N],N⟩,G.ext⟩
end
section
variable{S:List Nat}{ax:Nat->Prop}
abbrev XQ(m:List<|ByteArray×D):List (D×D):=m.map λp=>(.string p.1,p.2)
def uj(H:F)(r:Nat)(m:List<|ByteArray×D):Prop:=r<H.next/\H.obj r=.map (XQ m)
def uj.ex(h:uj H r m)(J:oz S H C)(R:r∉S):uj C r m:=⟨aP h.1 J.next,(J.obj r h.1 R).trans h.2⟩
def _root_.Go.Ae.M.EA(G:M S H0 H L)(h:uj H r m):r∉L.map (·.1):=λR=>by
 obtain⟨e,he,rfl⟩:=bQ.1 R;obtain⟨hr,Q,_⟩:=G.bk e he;rw[h.2]at Q;cases Q
def abp{a b:ByteArray}(h:qV a b=f):a=b:=by
 rw[yN]at h;have h:=eq_of_beq h;rw[h_,h_]at h;exact sZ<|iW.1 h
def EB(a:ByteArray):qV a a=f:=by rw[yN];exact beq_self_eq_true _
def MY(ht:∀a b,kY Pg t (.string a) (.string b)=Z (qV a b))(k:ByteArray):∀(m:List<|ByteArray×D)(i:Nat),∃av:Option<|Nat×D,qW Pg t (.string k) (XQ m) i=Z av/\(∀j v,av=Z (j,v)->i<=j/\m[j-i]?=Z (k,v))/\(av=W->∀p∈m,p.1≠k):=by
 intro m
 induction m with
 |nil=>exactλi=>⟨W,rfl,λj v h=>by(cases h),λ_ p h=>nomatch h⟩
 |cons p m ih=>
  intro i;show∃av,(aK (kY Pg t (.string k)<|.string p.1) λb=>bR b (Z<|Z (i,p.2))<|qW Pg t (.string k) (XQ m)<|bU i)=Z av/\_;rw[ht];cases hb:qV k p.1 with
  |true=>
   have:=abp hb;refine⟨Z (i,p.2),O,λj v h=>?_,λh=>by cases h⟩;cases h;exact⟨az _,by rw[ja,this];rfl⟩
  |false=>
   obtain⟨av,Q,I,h3⟩:=ih<|bU i;refine⟨av,Q,λj v h=>?_,λh q hq=>?_⟩
   .obtain⟨g1,g2⟩:=I j v h;refine⟨N,?_⟩;rw[show j-i=(j-i.succ)+1 by omega];exact g2
   .rcases bM.1 hq with rfl|hq
    .intro e;rw[<-e,EB]at hb;cases hb
    .exact h3 h q hq
def ME.look{z:D}(hm:uj H r m)(Q:uz Pg t=Z (kt,vt))(I:xz Pg vt=Z z)(h3:∀a b,kY Pg kt (.string a) (.string b)=Z (qV a b))(kk:∀av:Option D,(∀v,av=Z v->(k,v)∈m)->(av=W->∀p∈m,p.1≠k)->K (okd ok (av.getD z) av.isSome H).1 H):ME (r_ Pg t (.map<|Z r) (.string k) ok H) K:=by
 obtain⟨av,e,g1,g2⟩:=MY h3 k m 0
 have hk:zw Pg kt (.string k)=Z ():=by
  show aK (kY Pg kt (.string k)<|.string k) _=_;rw[h3,EB];rfl
 have hmo:mapOf H (.map<|Z r)=Z (XQ m):=by
  show Jp (H.obj r)=_;rw[hm.2];rfl
 have:r_ Pg t (.map<|Z r) (.string k) ok H=Z (okd ok ((av.map (·.2)).getD z) (av.map (·.2)).isSome H):=by
  show(aK (uz Pg t) λq=>aK (xz Pg q.2) λz=>aK (mapOf H<|.map<|Z r) λes=>aK (zw Pg q.1<|.string k) λ_=>aK (qW Pg q.1 (.string k) es 0) λav=>_)=_;rw[Q];show(aK (xz Pg vt) λz=>aK (mapOf H<|.map<|Z r) λes=>aK (zw Pg kt<|.string k) λ_=>aK (qW Pg kt (.string k) es 0) λav=>_)=_;rw[I,hmo,hk];show aK (qW Pg kt (.string k) (XQ m) 0) _=_;rw[e];cases av<;>rfl
 have hK:=kk (av.map (·.2)) (λv h=>?_) λh=>?_
 .rw[this];cases ok<;>exact ME.of O hK
 .cases av with
  |none=>cases h
  |some p=>cases h;exact aR (g1 p.1 p.2 O).2
 .cases av with
  |none=>exact g2 O
  |some p=>cases h
def _root_.Go.Ae.M.upd(G:M S H0 H L)(R:r∈S\/H0.next<=r)(hm:uj H r m)(Q:uz Pg t=Z (kt,vt))(h3:∀a b,kY Pg kt (.string a) (.string b)=Z (qV a b))(kk:∀C m',uj C r m'->(∀p∈m',p∈m\/p=(k,v))->M S H0 C L->K undef C):ME (uN Pg t (.map<|Z r) (.string k) v H) K:=by
 obtain⟨av,e,g1,g2⟩:=MY h3 k m 0
 have hk:zw Pg kt (.string k)=Z ():=by
  show aK (kY Pg kt (.string k)<|.string k) _=_;rw[h3,EB];rfl
 have key:∃m',(∀p∈m',p∈m\/p=(k,v))/\uN Pg t (.map<|Z r) (.string k) v H=Z (undef,H.put r<|.map<|XQ m'):=by
  have:uN Pg t (.map<|Z r) (.string k) v H=@aN (Nat×D) (λ_=>Option<|D×F) (Z (undef,H.put r<|.map<|app (XQ m) [(.string k,v)])) (λp=>Z (undef,H.put r<|.map<|setAt (.string k,v) p.1<|XQ m)) av:=by
   show(aK (uz Pg t) λq=>aK (Jp<|H.obj r) λes=>aK (zw Pg q.1<|.string k) λ_=>aK (qW Pg q.1 (.string k) es 0) λav=>_)=_;rw[Q];show(aK (Jp<|H.obj r) λes=>aK (zw Pg kt<|.string k) λ_=>aK (qW Pg kt (.string k) es 0) λav=>_)=_;rw[hm.2,hk];show aK (qW Pg kt (.string k) (XQ m) 0) _=_;rw[e];rfl
  rw[this];cases av with
  |none=>
   refine⟨m++[(k,v)],λp hp=>?_,?_⟩
   .rcases bX.1 hp with h|h
    .exact .inl h
    .exact .inr (by simpa using h)
   .show Z (undef,H.put r<|.map<|app (XQ m) [(.string k,v)])=_;rw[qd];simp[XQ]
  |some q=>
   refine⟨m.set q.1 (k,v),λp hp=>?_,?_⟩
   .rcases gY hp with h|h
    .exact .inl h
    .exact .inr h
   .show Z (undef,H.put r<|.map<|setAt (.string k,v) q.1<|XQ m)=_;rw[z8];simp[XQ,fV]
 obtain⟨m',hm',e'⟩:=key;refine ME.of e'<|kk _ m' ⟨hm.1,by rw[uF,if_pos O]⟩ hm' ?_;have hn:=M.EA G hm;refine⟨oz.later G.ext (oz.put H r _) (λq hq=>by rw[aO]at hq;subst hq;exact R),λe he=>(G.bk e he).jf ?_,G.lo,G.ne,?_⟩
 .rw[uF,if_neg λh=>hn (by rw[<-h];exact bQ.2 ⟨e,he,O⟩)]
 .rw[uG];have:=G.wf;show min H.low r<=H.next
  omega
theorem ME.mkMap{q:aG×aG}{n:Int}(G:M S H0 H L)(Q:uz Pg t=Z q)(kk:∀C r,uj C r []->Ext H C->H.next<=r->M S H0 C L->K (.map<|Z r) C):ME (uB Pg t (Z<|vi n) H) K:=by
 refine ME.of (v:=.map<|Z H.next) (H:=H.new<|.map []) ?_<|kk _ _ ⟨dI _,by rw[xF,if_pos O];rfl⟩ (Ext.new _ _) (az _)<|G.call<|Ext.new _ _;show aK (uz Pg t) _=_;rw[Q];rfl
def ME.Ip{z:D}(hm:uj H r m)(Q:uz Pg t=Z (kt,vt))(I:xz Pg vt=Z z)(h3:∀a b,kY Pg kt (.string a) (.string b)=Z (qV a b))(kk:∀av:Option D,(∀v,av=Z v->(k,v)∈m)->(av=W->∀p∈m,p.1≠k)->K (.tuple ⟨[av.getD z,.bool av.isSome]⟩) H):ME (r_ Pg t (.map<|Z r) (.string k) f H) K:=ME.look hm Q I h3 kk
def ME.afN{z:D}(hm:uj H r m)(Q:uz Pg t=Z (kt,vt))(I:xz Pg vt=Z z)(h3:∀a b,kY Pg kt (.string a) (.string b)=Z (qV a b))(kk:∀av:Option D,(∀v,av=Z v->(k,v)∈m)->(av=W->∀p∈m,p.1≠k)->K (av.getD z) H):ME (r_ Pg t (.map<|Z r) (.string k) aA H) K:=ME.look hm Q I h3 kk
def BA:uz Pg 236=Z (9,3):=by kernel_rfl
def QI:xz Pg 3=Z (vi 0):=by kernel_rfl
def eqS(a b:ByteArray):kY Pg 9 (.string a) (.string b)=Z (qV a b):=by kernel_rfl
def Oq(rn:Nat)(m:List<|ByteArray×D):Prop:=∀p∈m,∃i:Nat,i<rn/\p.2=B i
def Tx(hw:Wf H){rn:Nat}(hG:Gr b H ra rn rcs na nn iH):aJ Pg X 177 [gV ra rn rc na nn nc] H λv C=>∃r m,v=.map (Z r)/\uj C r m/\Oq rn m/\Ext H C/\H.next<=r:=by
 have G:=M.refl hw;have g2:=hG.2.1;refine ce [0,1,2,3,4,5,7,13,14,15] ?_;refine tl ?_;refine G.box O λH1 u G=>?_;refine d_ ?_;have hge:=G.ext.next
 refine ME.mkMap G BA λH2 r hm J R G=>?_;refine d_ ?_;refine Oa 4 5 7 15 (h2:=λm x4 x5 x7 lH C=>∃(i:Nat)(mm:List<|ByteArray×D),lH=B i/\i+m=rn/\uj C r mm/\Oq rn mm/\M [] H C [(u,171,[T ra rn rc,T na nn nc])]) ?_ rn ⟨0,[],rfl,N,hm,(λp h=>nomatch h),G⟩;have hrn:H.next<=r:=by omega
 clear G hm;rintro m x4 x5 x7 lH mO H3 ⟨i,mm,rfl,him,hm,hnm,G⟩;refine tp ?_;refine aC (λy=>?_) λy=>?_
 .obtain⟨r1,o1,yf,u1,f1,w1,c1,a1,e1,hl1,zo,sw,hsz,_⟩:=hG.ru (i:=i) N rc;rw[e1];refine aY ?_;refine G.zP zo hl1<|G.nZ O O O λH4 ru G hx4=>?_;have hm:=hm.ex hx4 λh=>nomatch h;have G:M [] H H4 [(ru,234,wh yf u1 f1 w1 c1 (rootOf rcs i) a1),(u,171,[T ra rn rc,T na nn nc])]:=G;refine d_ ?_;refine ME.Ip hm BA QI eqS λav hf hn=>?_;refine G.kK ?_
  have next:∀x(H5:F) YH zG,uj H5 r YH->Oq rn YH->M [] H H5 [(ru,234,wh yf u1 f1 w1 c1 (rootOf rcs i) a1),(u,171,[T ra rn rc,T na nn nc])]->∃m_1,m_1<m/\CP (gV ra rn rc na nn nc) (.pointer<|Z ⟨u,0,W⟩) (.map W) (.map<|Z r) (T ra rn rc) (B rn) (λm x4 x5 x7 lH C=>∃(i:Nat)(mm:List<|ByteArray×D),lH=B i/\i+m=rn/\uj C r mm/\Oq rn mm/\M [] H C [(u,171,[T ra rn rc,T na nn nc])]) m_1 (CO (gV ra rn rc na nn nc) (.pointer<|Z ⟨u,0,W⟩) (.map W) (.map<|Z r) (B i) (.pointer<|Z ⟨ru,0,W⟩) x (T ra rn rc) (B rn) (vi<|(i:Int)+1) zG H5):=by
   intro x H5 YH zG Q I h3;exact⟨rn-(i+1),N,_,_,_,_,_,_,O,i+1,YH,nX,N,Q,I,M.drop (A:=[_]) h3⟩
  refine dL (λhb=>?_) λhb=>?_
  .refine G.oF<|G.upd (.inr hrn) hm BA eqS λH5 YH hm' hmm G=>?_;refine dU ?_;refine next _ _ _ _ hm' (λp hp=>?_) G
   rcases hmm p hp with h|rfl
   .exact hnm p h
   .exact⟨i,N,O⟩
  .refine dU ?_;exact next _ _ _ _ hm hnm G
 refine tl<|rr ?_;exact⟨r,mm,O,hm,hnm,G.ext,hrn⟩
end
section
variable{S:List Nat}{ax:Nat->Prop}
theorem Ty(hw:Wf H){rn:Nat}(hG:Gr b H ra rn rcs na nn iH)(hm:uj H r m)(hnm:Oq rn m){w:Bool}{at' kd at2:Int}{n2 c2:Nat}{t:ByteArray}:
 aJ Pg X 179 [gV ra rn rc na nn nc,.map<|Z r,.agg ⟨wh nm rg av w ch root at'⟩,.agg ⟨[vi kd,T a n c,.string t,T a2 n2 c2,vi at2]⟩] H (Q1 (λv _=>∃z:Int,v=vi z) H):=by
 have G:=M.refl hw;have g2:=hG.2.1;refine ce [0,1,2,3,4,6,7,8,9,10,11,13] ?_;refine tl ?_;refine G.box O λH1 u G=>?_;refine G.box O λH1 rr G=>?_;refine G.box O λH1 rn' G=>?_;refine d_ ?_;refine aC (λy=>?_) λy=>?_
 .refine d_ ?_;refine dL (λhb=>?_) λhb=>?_
  .refine Lu.rr ?_;exact⟨⟨_,O⟩,G.ext⟩
  .refine Lu.rr ?_;exact⟨⟨_,O⟩,G.ext⟩
 refine aC (λy=>?_) λy=>?_;rotate_left
 .refine Lu.rr ?_;exact⟨⟨_,O⟩,G.ext⟩
 refine G.oF ?_;have hm1:=hm.ex G.ext λh=>nomatch h;refine ME.Ip hm1 BA QI eqS λf' hf hn=>?_;refine G.kK ?_;refine dL (λhb=>?_) λhb=>?_
 .refine Lu.rr ?_;exact⟨⟨_,O⟩,G.ext⟩
 cases f' with
 |none=>cases hb
 |some v=>
  obtain⟨i,hi,hv⟩:=hnm _<|hf v O;have hv:v=B i:=hv;subst hv;obtain⟨r1,o1,yf,u1,f1,w1,c1,a1,e1,hl1,zo,sw,hsz,_⟩:=hG.ru (i:=i) hi rc;simp only[nS];refine G.oF ?_;rw[e1];refine G.kK ?_;refine G.zP zo hl1<|G.nZ O O O λH4 ru G hx4=>?_;have G:M [] H H4 [(ru,234,wh yf u1 f1 w1 c1 (rootOf rcs i) a1),(rn',238,[vi kd,T a n c,.string t,T a2 n2 c2,vi at2]),(rr,234,wh nm rg av w ch root at'),(u,171,[T ra rn rc,T na nn nc])]:=G
  repeat' (first|(refine Lu.rr ?_;exact⟨⟨_,O⟩,G.ext⟩)|(refine aC (λy=>?_) λy=>?_)|(refine dL (λhb=>?_) λhb=>?_)|first|(refine G.kK ?_)|(refine PU.b1 O ?_)|(refine PU.b2 O ?_)|(refine PU.b3 O ?_)|(refine PU.b4 O ?_)|(refine PU.b5 O ?_)|(refine PU.b6 O ?_)|(refine PU.b7 O ?_)|(refine PU.b8 O ?_)|(refine PU.b9 O ?_)|(refine G.oF ?_)|(refine G.iK ?_)|(refine G.Qg ?_)|(refine G.Vd ?_)|(refine G.jE λHn G=>?_)|(refine G.lW λHn G=>?_)|(refine aag ?_))
end
section
variable{S:List Nat}{ax:Nat->Prop}
def QJ(v:D):aJ Pg X 208 [v,vi 0,vi 0] H λ_ C=>C=H:=by
 refine ce [0,1,2,6,7] ?_;refine tl ?_;refine dU ?_;refine lp2 6 7 (h2:=λm x8 x9 C=>x8=vi 1/\C=H) ?_ 0 ⟨rfl,rfl⟩;rintro m x8 x9 u C ⟨rfl,rfl⟩;refine tp ?_;rw[dn N];refine aY ?_;refine rn ?_;exact O
def ajB(v l:D):aJ Pg X 190 [v,vi 0,vi 0,l] H λ_ C=>C=H:=by
 refine ce [0,1,2,3,8,9,10,11,12,13,14,15,16,17,18] ?_;refine tl ?_;refine ajm 1 2 3 8 9 10 11 12 13 14 15 16 17 18 (h2:=λk x1 x2 x3 x8 x9 jh iL kQ jF rA lH pz zF zf C=>x1=vi 0/\x2=vi 0/\C=H) ?_ 0 ⟨rfl,rfl,rfl⟩;rintro k x1 x2 x3 x8 x9 jh iL kQ jF rA lH pz zF zf u C ⟨rfl,rfl,rfl⟩;refine tl ?_;refine qX ?_;refine aY ?_;rw[bG N];refine aY ?_;refine aJ.mono (QJ _) ?_;rintro _ _ rfl;refine rr ?_;exact O
def VD(ho:X.o 160 [T a 0 c] H=W):aJ Pg X 160 [T a 0 c] H λv C=>C=H:=by
 refine ce [0,2] (ho:=ho) ?_;refine tp ?_;rw[Cu (u64_in N)];refine aJ.mono (Kw _ N N) ?_;rintro v C ⟨⟨l,rfl,Q,_⟩,rfl⟩;refine aJ.mono (ajB _ _) ?_;rintro v H1 rfl;refine rn ?_;exact O
def abq:aJ Pg X 160 [T W 0 0] H λv C=>C=H:=VD (by kernel_rfl)
def KF(hn:n<=1000000)(hB:Nm h1 r ty n H0 H L):aJ Pg X 160 [sl r n c] H λv C=>Nm h1 r ty n H0 C L:=by
 obtain _|m:=n
 .refine aJ.mono (VD<|by kernel_rfl) ?_;rintro v H1 rfl;exact hB
 obtain⟨H1,e,hB⟩:=SB.put ajn (rest:=[]) (c:=c) (λl ⟨z,h,_⟩=>⟨z,h⟩) N hB;exact aJ.orc (v:=.tuple ⟨[]⟩) (C:=H1) e hB
def _root_.Go.Ae.SB.i1N(h:SB (Gp h1) r ty 1 n H0 H L)(hz:o<n)(k:∀x,h1 x->K (vi x) H):ME (uP W (.pointer<|Z ⟨r,o,W⟩) H) K:=by
 have:=SB.i1 h (z:=(o:Int)) N N k
 rwa [show((o:Int).toNat*1)=o by omega]at this
def _root_.Go.Ae.SB.aaf(h:SB (Gp h1) r ty 1 n H0 H L)(hz:o<n)(k:∀x,h1 x->K (vi x) (hN H)):ME (uP W (.pointer<|Z ⟨r,o,W⟩)<|hN H) K:=SB.i1N h.xG hz k
def _root_.Go.Ae.SB.iwN(h:SB (Gp h1) r ty 1 n H0 H L)(hz:o<n){x:Int}(J:h1 x)(k:∀H1,SB (Gp h1) r ty 1 n H0 H1 L->K undef H1):ME (Cq 1 (.pointer<|Z ⟨r,o,W⟩) (vi x) H) K:=by
 have:=SB.iw h (z:=(o:Int)) N N J k
 rwa [show((o:Int).toNat*1)=o by omega]at this
def qz{k:Nat}(h:k<n):Ac 1 (T (Z ⟨r,o,W⟩) n c) (B k)=Z (.pointer<|Z ⟨r,o+k,W⟩):=by rw[vO h,dz]
def Tz(h:w<=n):U4 1 (T (Z ⟨r,o,W⟩) n<|fI 1) (Z<|B w) W W=Z (T (Z ⟨r,o+w,W⟩) (n-w)<|fI 1):=by rw[Qf h,dz]
def _root_.Go.Ae.SB.clr(h:SB (Gp h1) r ty 1 n H0 H L)(hw:w<=n)(k:∀H1,SB (Gp h1) r ty 1 w H0 H1 L->K (.tuple ⟨[]⟩) H1):ME (clA [.int .i64 0] (T (Z ⟨r,w,W⟩) (n-w)<|fI 1) H) K:=by
 obtain⟨E,Q,I,G⟩:=h;have hl:(oL [.int .i64 0]<|n-w).length=n-w:=by rw[Pe];simp
 obtain⟨H1,e,hS1,_⟩:=G.zC 0 (r:=r) (o:=w) (vs:=oL [.int .i64 0]<|n-w) O N (by
  rw[mK]
  induction n-w with
  |zero=>rfl
  |succ d ih=>exact ih)
 have:clA [.int .i64 0] (T (Z ⟨r,w,W⟩) (n-w)<|fI 1) H=Z (.tuple ⟨[]⟩,H1):=by
  show(aK (H.write r w<|oL [.int .i64 0]<|n-w) λC=>Z (Jn #[],C))=_;rw[e];rfl
 refine ME.of this<|k H1 ⟨splice E w<|oL [.int .i64 0]<|n-w,?_,λj hj=>?_,hS1⟩
 .rw[lY N];omega
 .have he:El (splice E w<|oL [.int .i64 0]<|n-w) 1 j=El E 1 j:=by
   apply gX;intro i;rw[mG,mG,qo N]
   by_cases hi:i<1
   .rw[if_pos hi,if_pos hi,if_neg N]
   .rw[if_neg hi,if_neg hi]
  rw[he];exact I j N
def _root_.Go.Ae.SB.less(h:SB (Gp h1) r ty 1 n H0 H L)(hw:w<=n):SB (Gp h1) r ty 1 w H0 H L:=by
 obtain⟨E,Q,I,G⟩:=h;exact⟨E,N,λk hk=>I k N,G⟩
theorem FI(hn:n<=1000000)(hB:Nm h1 r ty n H0 H L):aJ Pg X 162 [sl r n (fI 1)] H λv C=>∃n',n'<=n/\v=sl r n' (fI 1)/\Nm h1 r ty n' H0 C L:=by
 refine ce [0,2,3,4,5] ?_;refine tp ?_;refine aC (λy=>?_) λy=>?_
 .refine rr ?_;exact⟨n,az _,O,hB⟩
 refine Oa 2 3 4 5 (h2:=λm x2 x3 x4 x5 C=>∃k:Nat,x3=B k/\1<=k/\k+m=n/\Nm h1 r ty n H0 C L) ?_ (n-1) ⟨1,rfl,N,N,hB⟩;clear hB;rintro m x2 x3 x4 x5 u H1 ⟨k,rfl,hk1,hkm,hB⟩;refine tp ?_;refine aC (λhc2=>?_) λhc2=>?_;rotate_left
 .refine tl<|rr ?_;exact⟨n,az _,O,hB⟩
 refine PU.of (qz N)<|hB.aaf N λx J=>?_
 repeat(first|(refine hB.kK ?_)|(with_reducible refine qX ?_)|(with_reducible refine MO ?_)|(with_reducible refine hB.i1Q N N λz hz=>?_)|(refine ak1 ?_))
 refine aC (λhc3=>?_) λhc3=>?_;rotate_left
 .refine dU ?_;exact⟨n-(k+1),N,_,_,_,_,_,_,O,k+1,nX,N,N,hB⟩
 refine PU.of (Tz N)<|lp2 3 5 (h2:=λm' x3 x5 C=>∃k' k2:Nat,x3=B k'/\x5=B k2/\1<=k2/\k'<=k+k2/\k+k2<=n/\k'+1<=k+k2/\k+k2+m'=n/\Nm h1 r ty n H0 C L) ?_ (n-k-1) ⟨k,1,rfl,rfl,N,N,N,N,N,hB⟩;clear hB;rintro m' x3 x5 u H2 ⟨k',k2,rfl,rfl,Q,I,h3,h4,h5,hB⟩;refine tp ?_;refine aC (λhc4=>?_) λhc4=>?_;rotate_left
 .refine tl ?_;refine PU.of (Tz N) ?_;rw[aW];refine hB.clr N λH3 hB=>PU.of (Bh N) ?_;refine aY ?_;refine rr ?_;exact⟨k',N,O,hB⟩
 refine PU.of (qz N)<|hB.aaf N λx J=>?_;refine qX ?_;rw[show((k2:Int)-1)=((k2-1:Nat):Int) by omega];refine PU.of (qz N) ?_;simp only[gZ hB.wf];refine hB.aaf N λhc hy=>?_;refine aY ?_;refine iB (by simp only[eG];rfl) ?_;simp only[gZ hB.wf];refine bT (λYz=>?_) λYz=>?_
 .refine PU.of (qz N)<|hB.i1N N λx J=>PU.of (qz N) ?_;rw[aW];refine hB.iwN N J λH3 hB=>?_;refine dU ?_;refine dU ?_;exact⟨m'-1,N,_,_,_,_,O,k'+1,k2+1,by rw[show((k':Int)+1)=((k'+1:Nat):Int) by omega],nX,N,N,N,N,N,hB⟩
 .refine dU ?_;exact⟨m'-1,N,_,_,_,_,O,k',k2+1,O,nX,N,N,N,N,N,hB⟩
def QK:aJ Pg X 162 [T W 0 0] H λv C=>v=T W 0 0/\C=H:=by
 refine ce [0,2,3,4,5] ?_;refine tp ?_;rw[bG N];refine aY ?_;refine rr ?_;exact⟨O,O⟩
end
section
variable{S:List Nat}{ax:Nat->Prop}
def afO(K:Nat)(h1:Int->Prop)(H:F)(v:D):Prop:=∃a n c E,v=T a n c/\Fl H a n 1 E/\n<=K/\∀x∈E,∃z:Int,x=vi z/\h1 z
def Iq(b K:Nat)(h1:Int->Prop)(H:F)(v:D):Prop:=∃a n c E,v=T a n c/\i_ (b<=·) 3 H a n 1 E/\n<=K/\∀x∈E,∃z:Int,x=vi z/\h1 z
def Iq.nil(b K:Nat)(h1:Int->Prop)(H:F):Iq b K h1 H (T W 0 0):=⟨W,0,0,[],O,i_.nil _ _ _ _ _,bg _,λx h=>nomatch h⟩
def Ir(hw:Wf H){K:Nat}(hK:K<=1000000)(hv:afO K h1 H v):aJ Pg X 229 [v] H (Q1 (λv C=>Iq H.next K h1 C v) H):=by
 obtain⟨a,n,c,E,rfl,hf,hn,hi⟩:=hv;have G:=M.refl hw;refine ce [0,2] ?_;refine tl ?_;rw[Cw (by kernel_rfl)];refine aY ?_;refine dL (λhb=>?_) λhb=>?_
 .refine rr ?_;exact⟨Iq.nil _ _ _ _,Ext.refl _⟩
 .refine ME.of (agL N) ?_;have G:=G.grow 3 [];have hge:=G.ext.next
  refine G.SN N (.inr ⟨_,O⟩) (hf.ex G.ext) N λa' c' H1 L' hf' hS'=>rr ?_;exact⟨⟨a',n,c',E,O,hf'.le hge,hn,hi⟩,hS'.ext⟩
def Nm.nums{K:Nat}(hB:Nm h1 r ty n H0 H L)(hn:n<=K)(c:Nat):afO K h1 H (sl r n c):=by
 obtain⟨E,Q,I,G⟩:=hB;have R:=(G.lo _<|aL ..).2;refine⟨_,n,c,E.take n,O,⟨by rw[eH];omega,λi x hi=>⟨r,0,rfl,R,?_⟩⟩,hn,λx J=>?_⟩
 .have hi':i<n:=by
   have:=(bA.1 hi).1;rw[eH]at this;omega
  rw[iU,if_pos hi']at hi;have:=(G.get 0 O).cell hi
  rwa [aW]
 .obtain⟨i,hi,rfl⟩:=iJ J;have hi0:=hi;rw[eH,iT N]at hi;obtain⟨z,e,hq⟩:=I i N;have h1':=mG E 1 i 0;rw[if_pos (dI 0),e,dz,dD,au (show i<E.length by omega)]at h1';refine⟨z,?_,hq⟩;rw[List.getElem_take];exact(dH h1').symm
def XR{x:D}{K:Nat}(hK:K<=1000000)(hg:GB 3 1 x ks gb)(G:M [] H0 H<|gb++L)(hl:ks.length<=K)(hk:∀x∈ks,∃z:Int,x=vi z/\h1 z){Kp:D->D->F->Prop}(kk:∀v2 v C,Iq H0.next K h1 C v->Ext H0 C->Kp v2 v C):aJ Pg X 160 [x] H λv1 H1=>aJ Pg X 162 [x] H1 λv2 H2=>aJ Pg X 229 [v2] H2 (Kp v2):=by
 rcases hg with⟨rfl,rfl,rfl⟩|⟨r,n,dY,rfl,hn,rfl⟩
 .refine aJ.mono abq ?_;rintro _ _ rfl;refine aJ.mono QK ?_;rintro _ _ ⟨rfl,rfl⟩;refine aJ.mono (Ir (h1:=h1) (K:=K) G.wf hK ⟨W,0,0,[],O,Fl.nil _ _ _,bg _,λx h=>nomatch h⟩) ?_;rintro v H1 ⟨⟨a,n,c,E,rfl,Q,I⟩,J⟩;exact kk _ _ _ ⟨a,n,c,E,O,Q.le G.ext.next,I⟩ (G.call J).ext
 .have hB:Nm h1 r 3 n H0 H L:=by
   refine⟨ks++dY,by rw[aQ];omega,λk hk'=>?_,G⟩;have hkl:k<ks.length:=by omega
   obtain⟨z,e,hq⟩:=hk _<|bB hkl;refine⟨z,?_,hq⟩;rw[<-e];unfold El;rw[dz,dN (by rw[aQ];omega),iI hkl];rfl
  refine aJ.mono (KF N hB) ?_;intro v1 H1 hB;refine aJ.mono (FI N hB) ?_;rintro v2 H2 ⟨n',hn',rfl,hB⟩;refine aJ.mono (Ir hB.wf hK<|Nm.nums hB N _) ?_;rintro v H3 ⟨⟨a,n,c,E,rfl,Q,I⟩,J⟩;exact kk _ _ _ ⟨a,n,c,E,O,Q.le hB.ext.next,I⟩ (hB.call J).ext
abbrev QL(n:Nat)(z:Int):Prop:=0<=z/\z<n
def XT(hw:Wf H){rn:Nat}(hG:Gr b H ra rn rcs na nn iH)(hm:uj H r m)(hnm:Oq rn m)(hi:i<rn)(hB:∀j,j<rn->0<=rootOf rcs j/\rootOf rcs j<nn):
 aJ Pg X 207 [gV ra rn rc na nn nc,.map<|Z r,B i] H (Q1 (λv C=>Iq H.next 4001 (QL rn) C v) H):=by
 have G:=M.refl hw;have g2:=hG.2.1;have g5:=hG.2.2.2.2.1;refine ce [0,1,2,3,6,7,8,9,10,11] ?_;refine tl ?_;refine G.box O λH1 u G=>?_;refine G.iK ?_;have hx1:=G.ext;refine aJ.mono (MX G.wf (hG.ex hx1) hi hB) ?_;rintro v H2 ⟨⟨k0,rfl,hk0⟩,J⟩;have G:=G.call J;refine Vx 7 8 9 10 11 (h2:=λm' x7 x8 x9 jh iL C=>∃(k:Nat)(ks:List D)(gb:List dJ),x8=B k/\k+m'=4001/\ks.length<=k/\GB 3 1 x7 ks gb/\(∀x∈ks,∃z:Int,x=vi z/\QL rn z)/\M [] H C (gb++[(u,171,[T ra rn rc,T na nn nc])])) ?_ (4001-k0) ⟨k0,[],[],rfl,N,bg _,GB.nil _ _,(λx h=>nomatch h),G⟩;clear G;rintro m' x7 x8 x9 jh iL mO H3 ⟨k,ks,gb,rfl,hkm,hkl,hg,hks,G⟩;refine tl ?_;have G:=G.perm aF;simp only[bE,bK]at G;refine d_ ?_;obtain⟨r1,o1,yf,u1,f1,w1,c1,a1,e1,hl1,zo,sw,hsz,_⟩:=hG.ru (i:=i) hi rc;rw[e1];refine G.kK ?_;refine G.Ay (sw 5 _ N O) hl1 ?_;have hb:=hB i hi;refine aY ?_;refine aC (λy=>?_) λy=>?_;rotate_left
 .refine tl<|XR (K:=4001) N hg (G.perm<|aF (l₁:=[_])) N hks λv2 v H4 hv hx4=>rr ?_;exact⟨hv,hx4⟩
 have hkn:k<nn:=by omega
 refine G.oF ?_;obtain⟨kd,ka,kn,kc,ks',t,rs,at',he,hk1,hk2,hk3,hk4,hk5⟩:=hG.2.2.2.2.2 k hkn;obtain⟨xa,xn,xc,xcs,rfl,Tm⟩:=id hk5;obtain⟨r2,o2,e2,hl2,XP,vk⟩:=hG.no hkn nc he;rw[e2];refine G.kK ?_;refine G.zP XP hl2<|G.nZ O O O λH4 rn' G hx4=>?_;have G:M [] H H4 ((rn',238,[vi kd,T ka kn kc,.string t,T xa xn xc,vi at'])::(u,171,[T ra rn rc,T na nn nc])::gb):=G;refine d_ ?_
 have w_:∀x7 x9 jh iL ks gb zG H5,ks.length<=k+1->GB 3 1 x7 ks gb->(∀x∈ks,∃z:Int,x=vi z/\QL rn z)->M [] H H5 ((rn',238,[vi kd,T ka kn kc,.string t,T xa xn xc,vi at'])::(u,171,[T ra rn rc,T na nn nc])::gb)->∃m_1,m_1<m'/\Dx (gV ra rn rc na nn nc) (.map<|Z r) (B i) (.pointer<|Z ⟨u,0,W⟩) (T W 0 0) (λm' x7 x8 x9 jh iL C=>∃(k:Nat)(ks:List D)(gb:List dJ),x8=B k/\k+m'=4001/\ks.length<=k/\GB 3 1 x7 ks gb/\(∀x∈ks,∃z:Int,x=vi z/\QL rn z)/\M [] H C (gb++[(u,171,[T ra rn rc,T na nn nc])])) m_1 (DU (gV ra rn rc na nn nc) (.map<|Z r) (B i) (.pointer<|Z ⟨u,0,W⟩) (T W 0 0) x7 (vi<|(k:Int)+1) x9 jh iL zG H5):=by
  intro x7 x9 jh iL ks gb zG H5 Q I h3 h4;exact⟨4001-(k+1),N,_,_,_,_,_,_,_,O,k+1,ks,gb,nX,N,Q,I,h3,(M.drop (A:=[_]) h4).perm<|aF (l₁:=[_])⟩
 refine aC (λhc2=>?_) λhc2=>?_;rotate_left
 .refine dU ?_;exact w_ _ _ _ _ ks gb _ _ N hg hks G
 refine G.oF ?_;have hm1:=hm.ex G.ext λh=>nomatch h;refine ME.Ip hm1 BA QI eqS λf' hf hn=>?_;refine G.kK ?_;refine dL (λhb=>?_) λhb=>?_;rotate_left
 .refine dU ?_;exact w_ _ _ _ _ ks gb _ _ N hg hks G
 cases f' with
 |none=>cases hb
 |some v=>
  obtain⟨z,hz,hv⟩:=hnm _<|hf v O;have hv:v=B z:=hv;subst hv;simp only[nS];have hO:=G.perm<|aF (l₁:=[_,_]);have hO:=hO.own;refine hO.bS O O O N λH5 rx hS5=>?_;obtain⟨v',H6,gT,e1,hg',vZ,_⟩:=hg.app (m:=0) (cx:=1) (L:=[]) (by rw[a_];exact hS5) N O O N N;refine ME.of e1 ?_;rw[a_]at vZ;refine dU ?_;refine w_ _ _ _ _ _ gT _ _ ?_ hg' (λx J=>?_) ?_
  .rw[aQ];show ks.length+1<=_;omega
  .rcases bX.1 J with h|h
   .exact hks x h
   .have h:x∈[B z]:=h;exact⟨z,aO.1 h,N,N⟩
  .exact((G.perm<|aF (l₁:=[_,_])).frame vZ).perm<|aF (l₂:=[_,_])
end
section
variable{S:List Nat}{ax:Nat->Prop}
def LQ(ty:aG)(es:Nat)(P:List D->Prop):List D->List dJ->Prop
 |[],hr=>hr=[]
 |v::vs,hr=>∃ks gb R',hr=gb++R'/\GB ty es v ks gb/\P ks/\LQ ty es P vs R'
def LQ.aak{P:List D->Prop}(h0:P []):∀n,LQ ty es P (aU n<|T W 0 0) []
 |0=>rfl
 |n+1=>⟨[],[],[],rfl,GB.nil _ _,h0,LQ.aak h0 n⟩
def LQ.mono{P P':List D->Prop}(hp:∀ks,P ks->P' ks):∀{vs:List D}{hr:List dJ},LQ ty es P vs hr->LQ ty es P' vs hr
 |[],hr,h=>h
 |v::vs,hr,⟨ks,gb,R',Q,I,h3,h4⟩=>⟨ks,gb,R',Q,I,hp _ h3,LQ.mono hp h4⟩
def LQ.at{P:List D->Prop}:∀{vs:List D}{hr:List dJ}(i:Nat),LQ ty es P vs hr->(h:i<vs.length)->∃A gb vn ks,hr=A++(gb++vn)/\GB ty es vs[i] ks gb/\P ks/\
 ∀P':List D->Prop,(∀ks,P ks->P' ks)->∀v' ks' gT,GB ty es v' ks' gT->P' ks'->LQ ty es P' (vs.set i v') (A++(gT++vn))
 |v::vs,hr,0,h,_=>by
  obtain⟨ks,gb,R',rfl,Q,I,h4⟩:=h;exact⟨[],gb,R',ks,O,Q,I,λP' hp v' ks' gT g1 g2=>⟨ks',gT,R',rfl,g1,g2,h4.mono hp⟩⟩
 |v::vs,hr,i+1,h,hi=>by
  obtain⟨ks,gb,R',rfl,Q,I,h4⟩:=h;obtain⟨A,YC,vn,ks2,rfl,g1,g2,g4⟩:=LQ.at i h4 (by simpa using hi);refine⟨gb++A,YC,vn,ks2,by rw[bP],g1,g2,λP' hp v' ks' gT k1 k2=>?_⟩;exact⟨ks,gb,A++(gT++vn),by rw[bP],Q,hp _ I,g4 P' hp v' ks' gT k1 k2⟩
 |[],hr,i,h,hi=>absurd hi (by simp)
def EC(hi:i<E.length):splice E i [v]=E.set i v:=by
 apply gX;intro j;rw[qo (by show i+1<=_;omega),dB]
 by_cases h:i<=j/\j<i+[v].length
 .have:i=j:=by have:=h.2;simp at this;omega
  subst this;rw[if_pos h,if_pos O,if_pos hi,ja];rfl
 .rw[if_neg h,if_neg λe=>h (by subst e;simp)]
def LQ.all{P:List D->Prop}:∀{vs:List D}{hr L:List dJ},LQ ty es P vs hr->M S H0 H (hr++L)->∀x∈vs,∃a n c ks,x=T a n c/\ks.length=n*es/\P ks/\i_ (λr=>r∈hr.map (·.1)) ty H a n es ks
 |[],hr,L,h,G=>λx J=>nomatch J
 |v::vs,hr,L,⟨ks,gb,R',Q,I,h3,h4⟩,G=>by
  subst Q;intro x J;rcases bM.1 J with rfl|J
  .rw[bP]at G;obtain⟨a,n,c,e,hl,hf⟩:=I.Jc (ax:=λr=>r∈(gb++R').map (·.1)) G λe he=>bQ.2 ⟨e,cZ _ he,rfl⟩;exact⟨a,n,c,ks,e,hl,h3,hf⟩
  .rw[bP]at G;obtain⟨a,n,c,ks',e,hl,hp,hf⟩:=LQ.all h4 (M.drop G) x J;refine⟨a,n,c,ks',e,hl,hp,hf.wk λr R=>?_⟩;obtain⟨e,he,rfl⟩:=bQ.1 R;exact bQ.2 ⟨e,cO _ he,O⟩
def NsP(K:Nat)(h1:Int->Prop)(ks:List D):Prop:=ks.length<=K/\∀x∈ks,∃z:Int,x=vi z/\h1 z
def Jf(b K:Nat)(h1:Int->Prop)(n:Nat)(H:F)(v:D):Prop:=∃a c vs,v=T a n c/\i_ (b<=·) 22 H a n 1 vs/\∀x∈vs,Iq b K h1 H x
def QM(hw:Wf H){rn:Nat}(hG:Gr b H ra rn rcs na nn iH)(hm:uj H r m)(hnm:Oq rn m)(hB:∀j,j<rn->0<=rootOf rcs j/\rootOf rcs j<nn):
 aJ Pg X 180 [gV ra rn rc na nn nc,.map<|Z r] H (Q1 (λv C=>Jf H.next 500000 (QL rn) rn C v) H):=by
 have G:=M.refl hw;have g2:=hG.2.1;refine ce [0,1,2,4,5,6,7,9,15,16,17,28,29,30] ?_;refine tl ?_;refine G.box O λH1 u G=>?_;refine d_ ?_;refine G.mkS (az _) N λH2 rl G=>?_;rw[mK]at G;refine d_ ?_;refine lp7 6 7 9 17 28 29 30 (h2:=λm' x6 x7 x9 zF x28 x29 x30 C=>∃(i:Nat)(vs:List D)(hr:List dJ),zF=B i/\i+m'=rn/\vs.length=rn/\LQ 3 1 (NsP (4001*i)<|QL rn) vs hr/\M [] H C ((rl,22,vs)::(u,171,[T ra rn rc,T na nn nc])::hr)) ?_ rn ⟨0,_,[],rfl,N,by simp,LQ.aak ⟨bg _,λx h=>nomatch h⟩ rn,G⟩;clear G;rintro m' x6 x7 x9 zF x28 x29 x30 mO H3 ⟨i,vs,hr,rfl,him,hvl,hR,G⟩;refine tp ?_;refine aC (λy=>?_) λy=>?_;rotate_left
 .refine tl ?_;obtain rfl:i=rn:=by omega
  have hb:∀e:dJ,e∈(rl,22,vs)::(u,171,[T ra i rc,T na nn nc])::hr->H.next<=e.1:=λe he=>G.wB he
  refine rr ?_;refine⟨⟨_,_,vs,O,?_,λx J=>?_⟩,G.ext⟩
  .exact i_.one G (aL ..) N<|hb _<|aL ..
  .obtain⟨a,n,c,ks,e,hl,hp,hf⟩:=LQ.all (L:=[]) hR (by rw[a_];exact M.drop (A:=[_,_]) G) x J;refine⟨a,n,c,ks,e,hf.wk λr R=>?_,by have:=hp.1;omega,hp.2⟩;obtain⟨e,he,rfl⟩:=bQ.1 R;exact hb e<|bH _<|bH _ he
 obtain⟨r1,o1,yf,u1,f1,w1,c1,a1,e1,hl1,zo,sw,hsz,_⟩:=hG.ru (i:=i) N rc;rw[e1];refine aY ?_;refine G.zP zo hl1<|G.nZ O O O λH4 ru G hx4=>?_;have G:M [] H H4 ((ru,234,wh yf u1 f1 w1 c1 (rootOf rcs i) a1)::(rl,22,vs)::(u,171,[T ra rn rc,T na nn nc])::hr):=G;refine d_ ?_
 have w_:∀x9 x28 x29 x30 vs hr zG H5,vs.length=rn->LQ 3 1 (NsP (4001*(i+1))<|QL rn) vs hr->M [] H H5 ((rl,22,vs)::(u,171,[T ra rn rc,T na nn nc])::hr)->∃m_1,m_1<m'/\BZ (gV ra rn rc na nn nc) (.map<|Z r) (.pointer<|Z ⟨u,0,W⟩) (T W 0 0) (T (Z ⟨rl,0,W⟩) rn rn) (T ra rn rc) (B rn) (λm' x6 x7 x9 zF x28 x29 x30 C=>∃(i:Nat)(vs:List D)(hr:List dJ),zF=B i/\i+m'=rn/\vs.length=rn/\LQ 3 1 (NsP (4001*i)<|QL rn) vs hr/\M [] H C ((rl,22,vs)::(u,171,[T ra rn rc,T na nn nc])::hr)) m_1 (BK (gV ra rn rc na nn nc) (.map<|Z r) (.pointer<|Z ⟨u,0,W⟩) (T W 0 0) (T (Z ⟨rl,0,W⟩) rn rn) (B i) (.pointer<|Z ⟨ru,0,W⟩) x9 (T ra rn rc) (B rn) (vi<|(i:Int)+1) x28 x29 x30 zG H5):=by
  intro x9 x28 x29 x30 vs hr zG H5 Q I h3;exact⟨rn-(i+1),N,_,_,_,_,_,_,_,_,_,O,i+1,vs,hr,nX,N,Q,I,h3⟩
 refine dL (λhb=>?_) λhb=>?_
 .refine dU ?_;exact w_ _ _ _ _ vs hr _ _ hvl (hR.mono λks h=>⟨by have:=h.1;omega,h.2⟩)<|M.drop (A:=[_]) G
 refine G.iK ?_;have hx5:=G.ext;refine aJ.mono (XT G.wf (hG.ex hx5) (hm.ex hx5 λh=>nomatch h) hnm N hB) ?_;rintro v H5 ⟨⟨ua,un,uc,ucs,rfl,hu,hun,ali⟩,J⟩;have hlt:=G.lt;have G:=M.drop (A:=[_])<|G.call J;refine aY ?_;have hS0:=G;have G:=hS0.base;have hS5:∀q∈((rl,22,vs)::(u,171,[T ra rn rc,T na nn nc])::hr).map (λe:dJ=>e.1),¬H4.next<=q\/¬yw H5 q 3:=λq hq=>.inl (by have:=hlt q<|bH _ hq;omega)
 refine lp2 9 30 (h2:=λm'' x9 x30 C=>∃(k:Nat)(vs':List D)(R':List dJ),x30=B k/\k+m''=un/\vs'.length=rn/\LQ 3 1 (NsP (4001*i+k)<|QL rn) vs' R'/\M (((rl,22,vs)::(u,171,[T ra rn rc,T na nn nc])::hr).map λe:dJ=>e.1) H5 C ((rl,22,vs')::(u,171,[T ra rn rc,T na nn nc])::R')) ?_ un ⟨0,vs,hr,rfl,N,hvl,hR.mono λks h=>⟨by have:=h.1;omega,h.2⟩,G⟩;clear G;rintro m'' y9 y30 LU H6 ⟨k,vs',R',rfl,hkm,Ll,hR',G⟩;refine tp ?_;refine aC (λhc2=>?_) λhc2=>?_;rotate_left
 .refine tp ?_;refine dU ?_;exact w_ _ _ _ _ vs' R' _ _ Ll (hR'.mono λks h=>⟨by have:=h.1;omega,h.2⟩)<|hS0.over G
 have hkn:k<un:=by omega
 have hu6:=hu.stay G.ext hS5;obtain⟨r',o',hl,e',hr',KC⟩:=hu6.1.Oo hkn uc;rw[e'];refine aY ?_;obtain⟨z,hz,hz0,hz1⟩:=ali _<|bB hl;obtain⟨z,rfl⟩:∃j:Nat,z=j:=⟨z.toNat,N⟩;rw[hz]at KC;refine ME.ld KC<|G.oF ?_;obtain⟨r2,o2,nm2,u2,f2,w2,c2,a2,e2,hl2,XP,vk,_,_⟩:=(hG.ex (hS0.over G).ext).ru (i:=z) N rc;rw[e2];refine aY ?_;refine ME.ld (vk 1 _ N O) ?_;refine aY ?_;refine dL (λhb2=>?_) λhb2=>?_;rotate_left
 .refine dU ?_;exact⟨un-(k+1),N,_,_,_,_,O,k+1,vs',R',nX,N,Ll,hR'.mono λks h=>⟨by have:=h.1;omega,h.2⟩,G⟩
 have hil:i<vs'.length:=by omega
 refine PU.of (qz N) ?_;rw[aW];refine G.ld 0 O (au hil) ?_;obtain⟨A,gb,vn,ks,rfl,hg,hks,hput⟩:=hR'.at i hil;refine G.bS O O O N λH7 rx FY=>?_;have FY:=FY.perm<|dQ _<|BM ((rl,22,vs')::(u,171,[T ra rn rc,T na nn nc])::A) gb vn;obtain⟨v',H8,gT,e8,hg',XL,_⟩:=hg.app (m:=0) (cx:=1) FY N O O N (by have:=hks.1;omega);refine ME.of e8<|PU.of (qz N) ?_;rw[aW];have XL:M _ H5 H8 ((rl,22,vs')::(u,171,[T ra rn rc,T na nn nc])::(A++(gT++vn))):=XL.perm<|BM gT ((rl,22,vs')::(u,171,[T ra rn rc,T na nn nc])::A) vn;obtain⟨va,vn',vc,rfl⟩:∃a n c,v'=T a n c:=by rcases hg' with⟨rfl,_⟩|⟨r,n,dY,rfl,_⟩<;>exact⟨_,_,_,O⟩
 refine XL.st 0 O O (by show i+1<=_;omega) rfl λH9 VE=>?_;refine dU ?_;refine⟨un-(k+1),N,_,_,_,_,O,k+1,vs'.set i<|T va vn' vc,A++(gT++vn),nX,N,by rw[bF];exact Ll,?_,?_⟩
 .refine hput _ (λks h=>⟨by have:=h.1;omega,h.2⟩) _ _ _ hg' ⟨?_,λx J=>?_⟩
  .rw[aQ];have:=hks.1;show ks.length+1<=_;omega
  .rcases bX.1 J with h|h
   .exact hks.2 x h
   .have h:x∈[B z]:=h;exact⟨z,aO.1 h,N,N⟩
 .have VE:M _ H5 H9 ((rl,22,splice vs' i [T va vn' vc])::(u,171,[T ra rn rc,T na nn nc])::(A++(gT++vn))):=VE
  rwa [EC hil]at VE
end
section
variable{S:List Nat}{ax:Nat->Prop}
def gL(l:List Nat):Nat->Nat
 |0=>0
 |i+1=>l.getD i 0
def ag2{l:List Nat}(hn:l.Pairwise (·≠·)):∀i j,1<=i->i<=l.length->1<=j->j<=l.length->gL l i=gL l j->i=j:=by
 have key:∀i j,i<l.length->j<l.length->i<j->l.getD i 0≠l.getD j 0:=λi j Q I h3=>by
  rw[bC,bC,au Q,au I];exact jS.1 hn i j Q I h3
 intro i j Q I h3 h4 e;obtain⟨i,rfl⟩:∃k,i=k+1:=⟨i-1,N⟩;obtain⟨j,rfl⟩:∃k,j=k+1:=⟨j-1,N⟩;have e:l.getD i 0=l.getD j 0:=e;rcases kC i j with h|h|h
 .exact absurd e<|key i j N N h
 .rw[h]
 .exact absurd e.symm<|key j i N N h
theorem ag3{ops:Array Oper}{H':Nat->Nat->Nat->Nat->Nat->Nat->Nat->List Cl}{a d e av g:Nat}{K:Prop}(hn:[a,b,c,d,e,av,g].Pairwise (·≠·))(hC:∀a b c d e av g,H' a b c d e av g=(H' 1 2 3 4 5 6 7).map (uY<|gL [a,b,c,d,e,av,g]))(hk:all' (Cx 7) (H' 1 2 3 4 5 6 7)=f)(h:jI ops ((H' 1 2 3 4 5 6 7).map kill)=f)(k:K):jI ops (H' a b c d e av g)=f/\K:=by
 refine⟨?_,k⟩;rw[hC];exact Cz (m:=7) (ag2 hn) hk h
structure CY where
 (ct m l o dm dl dO s ds st fr:Nat)
def Dz:List (Nat×Nat)->List D
 |[]=>[]
 |p::l=>B p.1::B p.2::Dz l
def Ou(a b:List<|Nat×Nat):Dz (a++b)=Dz a++Dz b:=by
 induction a with
 |nil=>rfl
 |cons p l ih=>show B p.1::B p.2::Dz (l++b)=_;rw[ih];rfl
def BB(a:List<|Nat×Nat):(Dz a).length=a.length*2:=by
 induction a with
 |nil=>rfl
 |cons p l ih=>show(Dz l).length+2=_;rw[ih,cr];omega
structure YI where
 (cnt:Nat)(ms lo:List Int)(op sf:List Bool)(ss:List Nat)(fs:List<|Nat×Nat)
def Cy(q:CY)(n:Nat)(x:YI)(SH:List dJ):Prop:=∃Iu TA EN QN,
 SH=(q.ct,3,[B x.cnt])::(q.m,22,[T (Z ⟨q.dm,0,W⟩) n n])::(q.l,22,[T (Z ⟨q.dl,0,W⟩) n n])::(q.o,34,[T (Z ⟨q.dO,0,W⟩) n n])::(q.dm,3,x.ms.map vi)::(q.dl,3,x.lo.map vi)::(q.dO,4,x.op.map .bool)::(q.s,34,[T (Z ⟨q.ds,0,W⟩) n n])::(q.ds,4,x.sf.map .bool)::(q.st,22,[Iu])::(q.fr,290,[TA])::(EN++QN)/\
 x.ms.length=n/\x.lo.length=n/\x.op.length=n/\x.sf.length=n/\GB 3 1 Iu (x.ss.map λj=>B j) EN/\GB 292 2 TA (Dz x.fs) QN
structure DC(n:Nat)(x:YI):Prop where
 cnt:x.cnt+x.ms.count 0=n
 fs:∀p∈x.fs,p.1<n/\p.2<=1000000
 ss:∀j∈x.ss,j<n
 sub:(x.fs.map (·.1)).Sublist x.ss
 sl:x.ss.length<=x.cnt
 fl:x.fs.length<=x.cnt
abbrev xW(q:CY):D:=.func (.func 187) ⟨[]⟩ ⟨[pr q.ct,pr q.m,pr q.l,pr q.o,pr q.st,pr q.fr]⟩
def YI.begin(x:YI)(k:Nat):YI:={x with cnt:=x.cnt+1,ms:=x.ms.set k ((x.cnt+1:Nat):Int),lo:=x.lo.set k ((x.cnt+1:Nat):Int),op:=x.op.set k f,ss:=x.ss++[k],fs:=x.fs++[(k,0)]}
def KH{q:CY}{x:YI}{k:Nat}(hn:n<=1000)(hC:Cy q n x SH)(hO:DC n x)(hk:k<n)(h0:x.ms[k]?=Z 0)(G:M S H0 H<|SH++L):
 aJ Pg X 187 [B k,pr q.ct,pr q.m,pr q.l,pr q.o,pr q.st,pr q.fr] H λ_ C=>∃M',Cy q n (x.begin k) M'/\M S H0 C (M'++L):=by
 have hS0:=G;have G:=G.own;obtain⟨Iu,TA,EN,QN,rfl,Q,I,h3,h4,h5,h6⟩:=hC;have hcn:x.cnt<=n:=by have:=hO.cnt;omega
 refine ce [0,1,2,3,4,5,6] ?_;refine tl ?_;refine G.oF ?_;refine dU ?_;refine G.jE λHn G=>?_;refine d_ ?_;refine PU.of (qz hk) ?_;rw[aW];refine G.lW (λH2 G=>?_) O (by rw[aM];show k+1<=_;omega) rfl;refine PU.of (qz hk) ?_;rw[aW]
 try simp only[gZ G.wf]
 refine G.lW (λH3 G=>?_) O (by rw[aM];show k+1<=_;omega) rfl;refine PU.of (qz hk) ?_;rw[aW]
 try simp only[gZ G.wf]
 refine G.lW (λH4 G=>?_) O (by rw[aM];show k+1<=_;omega) rfl
 have hne:[q.ct,q.m,q.l,q.o,q.dm,q.dl,q.dO].Pairwise (·≠·):=by
  have h:List.Pairwise (·≠·) ([q.ct,q.m,q.l,q.o,q.dm,q.dl,q.dO]++q.s::q.ds::q.st::q.fr::(EN++QN).map (λe:dJ=>e.1)):=(List.pairwise_map (f:=λe:dJ=>e.1)).2 G.ne;exact(lK.1 h).1
 refine splitK (λK hK=>?_) ?_
 .simp only[eG,fT];generalize q.ct=ct at hne|-;generalize q.m=mm at hne|-;generalize q.l=ll at hne|-;generalize q.o=oo at hne|-;generalize q.dm=dm at hne|-;generalize q.dl=dl at hne|-;generalize q.dO=dO at hne|-;apply ag3 hne (by intros;rfl) (by kernel_rfl) (by kernel_rfl) hK
 have G:M _ H _ ((q.ct,3,[B (x.cnt+1)])::(q.m,22,[T (Z ⟨q.dm,0,W⟩) n n])::(q.l,22,[T (Z ⟨q.dl,0,W⟩) n n])::(q.o,34,[T (Z ⟨q.dO,0,W⟩) n n])::(q.dm,3,splice (x.ms.map vi) k [vi ((x.cnt+1:Nat):Int)])::(q.dl,3,splice (x.lo.map vi) k [vi ((x.cnt+1:Nat):Int)])::(q.dO,4,splice (x.op.map .bool) k [.bool f])::(q.s,34,[T (Z ⟨q.ds,0,W⟩) n n])::(q.ds,4,x.sf.map .bool)::(q.st,22,[Iu])::(q.fr,290,[TA])::(EN++QN)):=G;rw[oP vi N,oP vi N,oP gF N]at G;generalize hM (hM (hM Hn _) _) H4=H5 at*;have hl5:x.ss.length<=1000:=by have:=hO.sl;omega
 have K8:(Dz x.fs).length<=2000:=by rw[BB];have:=hO.fl;omega
 obtain⟨a5,n5,c5,rfl⟩:∃a n c,Iu=T a n c:=by rcases h5 with⟨rfl,_⟩|⟨r,n,dY,rfl,_⟩<;>exact⟨_,_,_,O⟩
 obtain⟨a6,n6,c6,rfl⟩:∃a n c,TA=T a n c:=by rcases h6 with⟨rfl,_⟩|⟨r,n,dY,rfl,_⟩<;>exact⟨_,_,_,O⟩
 refine G.oF<|G.bS O O O N λH7 rx FY=>?_;have FY:=FY.perm<|dQ _<|BM [_,_,_,_,_,_,_,_,_,_,_] EN QN;obtain⟨v',H8,XU,e8,hg',XL,_⟩:=h5.app (m:=0) (cx:=1) FY N O O N (by rw[aM];omega);refine ME.of e8 ?_;have G:=XL.perm<|BM XU [_,_,_,_,_,_,_,_,_,_,_] QN;simp only[bE,bK]at G;obtain⟨a7,n7,c7,rfl⟩:∃a n c,v'=T a n c:=by rcases hg' with⟨rfl,_⟩|⟨r,n,dY,rfl,_⟩<;>exact⟨_,_,_,O⟩
 refine G.jE λHn G=>?_;refine d_ ?_;refine G.bS O O O N λH9 ry VE=>?_;have VE:=VE.perm<|dQ _<|((gB [_,_,_,_,_,_,_,_,_,_,_]<|aF (l₁:=XU) (l₂:=QN))).trans<|BM [_,_,_,_,_,_,_,_,_,_,_] QN XU;obtain⟨w',Dm,ag4,e10,ajC,agZ,_⟩:=h6.app (m:=0) (cx:=1) VE N O O N N;refine ME.of e10 ?_;have G:=(agZ.perm<|BM ag4 [_,_,_,_,_,_,_,_,_,_,_] XU).perm<|gB [_,_,_,_,_,_,_,_,_,_,_]<|aF (l₁:=ag4) (l₂:=XU);simp only[bE,bK]at G;obtain⟨a8,n8,c8,rfl⟩:∃a n c,w'=T a n c:=by rcases ajC with⟨rfl,_⟩|⟨r,n,dY,rfl,_⟩<;>exact⟨_,_,_,O⟩
 refine G.jE λHn G=>?_;refine rn ?_;refine⟨_,⟨T a7 n7 c7,T a8 n8 c8,XU,ag4,O,?_,?_,?_,h4,?_,?_⟩,?_⟩
 .show(x.ms.set k _).length=n;rw[bF];exact Q
 .show(x.lo.set k _).length=n;rw[bF];exact I
 .show(x.op.set k _).length=n;rw[bF];exact h3
 .show GB 3 1 _ ((x.ss++[k]).map λj=>B j) _;rw[dG];exact hg'
 .show GB 292 2 _ (Dz<|x.fs++[(k,0)]) _;rw[Ou];exact ajC
 .have hF:=M.frame (SH:=(q.ct,3,[B x.cnt])::(q.m,22,[T (Z ⟨q.dm,0,W⟩) n n])::(q.l,22,[T (Z ⟨q.dl,0,W⟩) n n])::(q.o,34,[T (Z ⟨q.dO,0,W⟩) n n])::(q.dm,3,x.ms.map vi)::(q.dl,3,x.lo.map vi)::(q.dO,4,x.op.map .bool)::(q.s,34,[T (Z ⟨q.ds,0,W⟩) n n])::(q.ds,4,x.sf.map .bool)::(q.st,22,[T a5 n5 c5])::(q.fr,290,[T a6 n6 c6])::(EN++QN)) hS0 G;exact hF
end
variable{q:CY}{x:YI}
section
variable{S:List Nat}{ax:Nat->Prop}
theorem abr{k:Nat}(hn:n<=1000)(hC:Cy q n x SH)(hO:DC n x)(hk:k<n)(hm:k∈x.ss)(G:M S H0 H<|SH++L):
 aJ Pg X 188 [B k,pr q.st,pr q.o,pr q.s] H λ_ C=>∃(p:Nat)(op sf:List Bool)(M':List dJ),x.ss[p]?=Z k/\(∀j,p<j->x.ss[j]?≠Z k)/\Cy q n {x with op:=op,sf:=sf,ss:=x.ss.take p} M'/\M S H0 C (M'++L):=by
 have hS0:=G;have G:=G.own;obtain⟨Iu,TA,EN,QN,rfl,Q,I,h3,h4,h5,h6⟩:=hC;have hcn:x.cnt<=n:=by have:=hO.cnt;omega
 have hl5:x.ss.length<=1000:=by have:=hO.sl;omega
 rcases h5 with⟨rfl,e,rfl⟩|⟨rt,sn,dY,rfl,hsn,rfl⟩
 .exfalso;cases hss:x.ss with
  |nil=>rw[hss]at hm;cases hm
  |cons a l=>rw[hss]at e;cases e
 rw[aM,dz]at hsn;subst hsn;refine ce [0,1,2,3,5,7,21,22,23] ?_;refine tm ?_
 have hpos:1<=x.ss.length:=by
  cases hss:x.ss with
  |nil=>rw[hss]at hm;cases hm
  |cons a l=>simp
 refine qX ?_;refine YE 5 (h2:=λm x5 C=>∃p:Nat,x5=B p/\p=m/\p<x.ss.length/\(∀j,p<j->x.ss[j]?≠Z k)/\M _ H C _) ?_ (x.ss.length-1) ⟨x.ss.length-1,by rw[show((x.ss.length:Int)-1)=((x.ss.length-1:Nat):Int) by omega];rfl,rfl,N,λj hj=>by rw[fC N];simp,G⟩;clear G;rintro m x5 u H1 ⟨p,rfl,rfl,hp,hlast,G⟩;refine tm ?_;refine PU.of (qz hp) ?_;rw[aW];refine G.ld 11 O (v:=B x.ss[p]) (by rw[bJ (by rw[aM];exact hp),bD,au hp];rfl) ?_;refine aY ?_;refine bT (λy=>?_) λy=>?_
 .obtain⟨i,hi,hik⟩:=iJ hm
  have hip:i<p:=by
   rcases kC i p with h|h|h
   .exact h
   .subst h;exact absurd (by rw[hik]) y
   .exact absurd (by rw[au hi,hik])<|hlast i h
  refine qX ?_;refine⟨p-1,N,_,_,_,O,p-1,by rw[show((p:Int)-1)=((p-1:Nat):Int) by omega],rfl,N,λj hj=>?_,G⟩;rcases bZ p j with h|h
  .exact hlast j h
  .obtain rfl:j=p:=by omega
   rw[au hp];intro e;exact y (by rw[dH e])
 have hpk:x.ss[p]?=Z k:=by rw[au hp];congr 1;omega
 refine tl ?_;refine G.oF ?_;refine PU.of (Tz N) ?_;rw[aW];refine aY ?_;refine lp2 7 23 (h2:=λm x7 xM C=>∃(j:Nat)(op sf:List Bool),xM=B j/\j+m=x.ss.length-p/\op.length=n/\sf.length=n/\M (List.map (λe:dJ=>e.1)<|(q.ct,3,[B x.cnt])::(q.m,22,[T (Z ⟨q.dm,0,W⟩) n n])::(q.l,22,[T (Z ⟨q.dl,0,W⟩) n n])::(q.o,34,[T (Z ⟨q.dO,0,W⟩) n n])::(q.dm,3,x.ms.map vi)::(q.dl,3,x.lo.map vi)::(q.dO,4,x.op.map .bool)::(q.s,34,[T (Z ⟨q.ds,0,W⟩) n n])::(q.ds,4,x.sf.map .bool)::(q.st,22,[T (Z ⟨rt,0,W⟩) x.ss.length (fI 1)])::(q.fr,290,[TA])::([(rt,3,(x.ss.map λj=>B j)++dY)]++QN)) H C ((q.ct,3,[B x.cnt])::(q.m,22,[T (Z ⟨q.dm,0,W⟩) n n])::(q.l,22,[T (Z ⟨q.dl,0,W⟩) n n])::(q.o,34,[T (Z ⟨q.dO,0,W⟩) n n])::(q.dm,3,x.ms.map vi)::(q.dl,3,x.lo.map vi)::(q.dO,4,op.map .bool)::(q.s,34,[T (Z ⟨q.ds,0,W⟩) n n])::(q.ds,4,sf.map .bool)::(q.st,22,[T (Z ⟨rt,0,W⟩) x.ss.length (fI 1)])::(q.fr,290,[TA])::(rt,3,(x.ss.map λj=>B j)++dY)::QN)) ?_ (x.ss.length-p) ⟨0,x.op,x.sf,rfl,N,h3,h4,G⟩;clear G;rintro m x7 xM u H1 ⟨j,op,sf,rfl,hjm,ho,hs,G⟩;refine tp ?_;refine aC (λhc2=>?_) λhc2=>?_;rotate_left
 .refine tl ?_;refine G.oF ?_;refine PU.of (Bh N) ?_;refine G.jE λHn G=>rn ?_;refine⟨p,op,sf,_,hpk,hlast,⟨T (Z ⟨rt,0,W⟩) p<|fI 1,TA,[(rt,3,((x.ss.take p).map λj=>B j)++(((x.ss.drop p).map λj=>B j)++dY))],QN,rfl,Q,I,ho,hs,?_,h6⟩,?_⟩
  .exact .inr ⟨rt,p,_,O,by rw[aM,eH];omega,rfl⟩
  .have hF:=M.frame (SH:=(q.ct,3,[B x.cnt])::(q.m,22,[T (Z ⟨q.dm,0,W⟩) n n])::(q.l,22,[T (Z ⟨q.dl,0,W⟩) n n])::(q.o,34,[T (Z ⟨q.dO,0,W⟩) n n])::(q.dm,3,x.ms.map vi)::(q.dl,3,x.lo.map vi)::(q.dO,4,x.op.map .bool)::(q.s,34,[T (Z ⟨q.ds,0,W⟩) n n])::(q.ds,4,x.sf.map .bool)::(q.st,22,[T (Z ⟨rt,0,W⟩) x.ss.length (fI 1)])::(q.fr,290,[TA])::([(rt,3,(x.ss.map λj=>B j)++dY)]++QN)) hS0 G;rw[<-bP,<-dG,iO];exact hF
 have hpj:p+j<x.ss.length:=by omega
 refine PU.of (qz N)<|G.ld 11 O (v:=B x.ss[p+j]) (by rw[bJ (by rw[aM];exact hpj),bD,au hpj];rfl) ?_;have hzn:x.ss[p+j]<n:=hO.ss _<|bB hpj;generalize x.ss[p+j]=z at hzn;refine G.oF<|PU.of (qz hzn) ?_;rw[aW];refine G.st 6 O O (by rw[aM];show z+1<=_;omega) rfl λH2 G=>?_;simp only[jo,o7]at G;have G:=G;refine d_ ?_;refine PU.of (qz hzn) ?_;rw[aW];refine G.Qg (v:=.bool<|sf[z]'N) ?_ (by rw[bD,au (show z<sf.length by omega)];rfl);refine aY ?_;have hS1:=G;refine dL (λhb=>?_) λhb=>?_
 .refine PU.of (qz hzn) ?_;rw[aW]
  try simp only[gZ G.wf]
  refine G.lW (λH3 G=>?_) O (by rw[aM];show z+1<=_;omega) rfl;refine splitK (λK hK=>?_) ?_
  .simp only[eG,fT];have n1:q.ds≠q.s:=(hS1.nq 7 8 O O N).symm;generalize q.ds=ds at n1|-;generalize q.s=qs at n1|-;apply lX n1 (by intros;rfl) (by kernel_rfl) (by kernel_rfl) hK
  refine dU ?_;refine⟨x.ss.length-p-(j+1),N,_,_,_,_,O,j+1,op.set z aA,sf.set z f,nX,N,by rw[bF];exact ho,by rw[bF];exact hs,?_⟩;rw[<-oP gF N,<-oP gF N];exact G
 .try simp only[gZ G.wf]
  refine G.Qg ?_;refine G.kK ?_;refine qX ?_;refine G.kK ?_;generalize decide ((1:Int)<(x.ss.length:Int)-(p:Int))=bz;refine PU.of (qz hzn) ?_;rw[aW]
  try simp only[gZ G.wf]
  refine G.lW (λH3 G=>?_) O (by rw[aM];show z+1<=_;omega) rfl;refine splitK (λK hK=>?_) ?_
  .simp only[eG,fT];have n1:q.ds≠q.s:=(hS1.nq 7 8 O O N).symm;have n2:q.ds≠q.st:=(hS1.nq 8 9 O O N);have n3:q.s≠q.st:=(hS1.nq 7 9 O O N);generalize q.ds=ds at n1 n2|-;generalize q.s=qs at n1 n3|-;generalize q.st=qt at n2 n3|-;apply xS n1 n2 n3 (by intros;rfl) (by kernel_rfl) (by kernel_rfl) hK
  refine dU ?_;refine⟨x.ss.length-p-(j+1),N,_,_,_,_,O,j+1,op.set z aA,sf.set z bz,nX,N,by rw[bF];exact ho,by rw[bF];exact hs,?_⟩;rw[<-oP gF N,<-oP gF N];exact G
end
section
variable{S:List Nat}{ax:Nat->Prop}
abbrev IP(q:CY):D:=.func (.func 188) ⟨[]⟩ ⟨[pr q.st,pr q.o,pr q.s]⟩
def GA(fs:List<|Nat×Nat)(a b:Nat)(dY:List D):(Dz (fs++[(a,b)])++dY)[fs.length*2]?=Z (B a)/\(Dz (fs++[(a,b)])++dY)[fs.length*2+1]?=Z (B b)/\∀b',splice (Dz (fs++[(a,b)])++dY) (fs.length*2+1) [B b']=Dz (fs++[(a,b')])++dY:=by
 have hl:=BB fs
 have e:∀b,Dz (fs++[(a,b)])++dY=Dz fs++(B a::B b::dY):=λb=>by
  rw[Ou,bP];rfl
 refine⟨?_,?_,λb'=>?_⟩
 .rw[e,dS N,hl,ja];rfl
 .rw[e,dS N,hl,show fs.length*2+1-fs.length*2=1 by omega];rfl
 .rw[e,e,EC (by rw[aQ,hl];simp),p9 _ _ N,hl,show fs.length*2+1-fs.length*2=1 by omega];rfl
def EF:∀(l:List Int)(t:Nat)(v:Int),l[t]?=Z 0->v≠0->(l.set t v).count 0+1=l.count 0
 |[],t,v,h,_=>by simp at h
 |a::l,0,v,h,hv=>by
  have h:a=0:=by simpa using h
  subst h;rw[o7,List.count_cons_self,List.count_cons_of_ne hv]
 |a::l,t+1,v,h,hv=>by
  have ih:=EF l t v (by simpa using h) hv;rw[jo,uS,uS];omega
theorem DC.begin{t:Nat}(h:DC n x)(ht:t<n)(h0:x.ms[t]?=Z 0):DC n (x.begin t):=by
 have y:=EF x.ms t ((x.cnt+1:Nat):Int) h0 N;have Q:=h.cnt;have I:=h.sl;have h3:=h.fl;refine⟨?_,λp hp=>?_,λj hj=>?_,?_,?_,?_⟩
 .show x.cnt+1+(x.ms.set t _).count 0=n;omega
 .rcases bX.1 hp with h'|h'
  .exact h.fs p h'
  .rw[aO]at h';subst h';exact⟨ht,N⟩
 .rcases bX.1 hj with h'|h'
  .exact h.ss j h'
  .rw[aO]at h';subst h';exact ht
 .show(List.map (λp:Nat×Nat=>p.1)<|x.fs++[(t,0)]).Sublist (x.ss++[t]);rw[dG];exact h.sub.append<|List.Sublist.refl _
 .show(x.ss++[t]).length<=x.cnt+1;rw[aQ];simp;omega
 .show(x.fs++[(t,0)]).length<=x.cnt+1;rw[aQ];simp;omega
def abt{ss A:List Nat}{k:Nat}(h:(A++[k]).Sublist ss)(hp:ss[p]?=Z k)(hl:∀j,p<j->ss[j]?≠Z k):A.Sublist (ss.take p):=by
 obtain⟨r1,r2,rfl,Q,I⟩:=List.append_sublist_iff.1 h;have hk:k∈r2:=I.subset<|aO.2 O;obtain⟨j,hj,e⟩:=iJ hk
 have hle:r1.length+j<=p:=by
  rcases bZ p (r1.length+j)with h|h
  .exact absurd (by rw[dS N,iR,au hj,e])<|hl _ h
  .exact h
 rw[List.take_append];rw[cK (show r1.length<=p by omega)];exact Q.trans<|dZ _ _
abbrev XV(q:CY)(n:Nat)(x:YI)(rf:Nat)(fr:List D)(TA Iu:D)(EN:List dJ):List dJ:=
 (rf,292,fr)::(q.ct,3,[B x.cnt])::(q.m,22,[T (Z ⟨q.dm,0,W⟩) n n])::(q.l,22,[T (Z ⟨q.dl,0,W⟩) n n])::(q.o,34,[T (Z ⟨q.dO,0,W⟩) n n])::(q.dm,3,x.ms.map vi)::(q.dl,3,x.lo.map vi)::(q.dO,4,x.op.map .bool)::(q.s,34,[T (Z ⟨q.ds,0,W⟩) n n])::(q.ds,4,x.sf.map .bool)::(q.st,22,[Iu])::(q.fr,290,[TA])::EN
def QO{Iu:D}(Q:x.ms.length=n)(I:x.lo.length=n)(h3:x.op.length=n)(h4:x.sf.length=n)(h5:GB 3 1 Iu (x.ss.map λj=>B j) EN)(G:M S H0 H<|XV q n x rf (Dz x.fs++dY) (T (Z ⟨rf,0,W⟩) x.fs.length<|fI 2) Iu EN):∃SH,Cy q n x SH/\M S H0 H SH:=
 ⟨_,⟨Iu,_,EN,[_],rfl,Q,I,h3,h4,h5,.inr ⟨rf,x.fs.length,dY,rfl,BB _,rfl⟩⟩,G.perm<|aF (l₂:=_::_::_::_::_::_::_::_::_::_::_::EN) (l₁:=[_])⟩
def VF(n K:Nat)(h1:Int->Prop)(H:F)(v:D):Prop:=∃b,Jf b K h1 n H v
theorem QS{K:Nat}(hn:n<=1000)(hK:K<=1000000)(hU:VF n K h1 H<|T ua n uc){Kp:Out->Prop}{kQ Az:D}(x:YI)(SH:List dJ)(hC:Cy q n x SH)(hO:DC n x)(jF rA lH pz:D)(u)(H1:F)(G:M [] H H1 SH)(kk:∀x SH jF rA lH pz u H1,Cy q n x SH->DC n x->x.fs=[]->M [] H H1 SH->Kp (.exit 2<|kL (T ua n uc) (T W 0 0) (pr q.m) (pr q.l) (pr q.o) (pr q.s) (pr q.st) (pr q.fr) (pr q.ct) (xW q) (IP q) kQ jF rA lH pz (B n) Az u H1)):
 gJ Pg X (.loop<|sub lq [1,1,1,1,1,1,1,1,0,1,0,0,1,1,0,0,1,0,1,1,0,0]) (kL (T ua n uc) (T W 0 0) (pr q.m) (pr q.l) (pr q.o) (pr q.s) (pr q.st) (pr q.fr) (pr q.ct) (xW q) (IP q) kQ jF rA lH pz (B n) Az u H1) Kp:=by
 obtain⟨ub,ua',uc',uvs,eu,hU1,hU2⟩:=hU;cases eu;refine Oa 13 14 15 16 (h2:=λm jF rA lH pz C=>∃x SH,Cy q n x SH/\DC n x/\M [] H C SH/\m=2*x.ms.count 0+x.fs.length) ?_ _ ⟨x,SH,hC,hO,G,rfl⟩;clear hC hO G x SH;rintro m jF rA lH pz u H1 ⟨x,SH,hC,hO,G,hm⟩;have hC0:=hC;have hS0:=G;obtain⟨Iu,TA,EN,QN,rfl,Q,I,h3,h4,h5,h6⟩:=hC;have hcn:x.cnt<=n:=by have:=hO.cnt;omega
 have hfl:=hO.fl;refine tl ?_
 obtain⟨fa,fn,fc,rfl,hfn⟩:∃a m c,TA=T a m c/\m=x.fs.length:=by
  rcases h6 with⟨rfl,e,_⟩|⟨r,m,dY,rfl,e,_⟩
  .refine⟨_,_,_,O,?_⟩;have:=BB x.fs;rw[e]at this;simp at this;omega
  .rw[BB]at e;exact⟨_,_,_,O,N⟩
 subst hfn;refine d_ ?_;refine aC (λy=>?_) λy=>?_;rotate_left
 .exact kk x _ _ _ _ _ _ _ hC0 hO (gK N) G
 rcases h6 with⟨e,e',_⟩|⟨rf,fn,dY,e,hfe,rfl⟩
 .exfalso;have:=BB x.fs;rw[e']at this;simp at this;omega
 cases e
 obtain⟨fs',p,hfs⟩:∃fs' p,x.fs=fs'++[p]:=by
  rcases uu x.fs with h|⟨l,p,h⟩
  .rw[h]at y;simp at y
  .exact⟨l,p,by rw[h,uq]⟩
 obtain⟨node,nx⟩:=p;have hlen:x.fs.length=fs'.length+1:=by rw[hfs];simp
 have DV:node<n/\nx<=1000000:=hO.fs (node,nx) (by rw[hfs];simp)
 have G:M [] H H1 (XV q n x rf (Dz (fs'++[(node,nx)])++dY) (T (Z ⟨rf,0,W⟩) x.fs.length<|fI 2) Iu EN):=by
  rw[<-hfs];exact G.perm<|aF (l₁:=_::_::_::_::_::_::_::_::_::_::_::EN) (l₂:=[_])
 refine d_ ?_;refine qX ?_;rw[show((x.fs.length:Int)-1)=(fs'.length:Int) by omega];refine PU.of (vO N) ?_;rw[aW];refine aY ?_;refine G.ld 0 O (GA fs' node nx dY).1 ?_;obtain⟨r1,o1,hl1,e1,hr1,hc1⟩:=hU1.1.Oo DV.1 uc;obtain⟨ra,rn,rc,rcs,hrow,hU3,hrn,alj⟩:=hU2 _<|bB hl1;rw[hrow]at hc1
 have top:∀(nx:Nat)(lo:List Int)(sf:List Bool){C:F},lo.length=n->sf.length=n->M [] H C (XV q n {x with lo:=lo,sf:=sf} rf (Dz (fs'++[(node,nx)])++dY) (T (Z ⟨rf,0,W⟩) x.fs.length<|fI 2) Iu EN)->∃SH,Cy q n {x with lo:=lo,sf:=sf,fs:=fs'++[(node,nx)]} SH/\M [] H C SH:=by
  intro nx lo sf C g1 g2 g3;have e:x.fs.length=(fs'++[(node,nx)]).length:=by rw[hlen];simp
  rw[e]at g3;exact QO (x:={x with lo:=lo,sf:=sf,fs:=fs'++[(node,nx)]}) Q g1 h3 g2 h5 g3
 have alk:∀(nx:Nat)(lo:List Int)(sf:List Bool),nx<=1000000->DC n {x with lo:=lo,sf:=sf,fs:=fs'++[(node,nx)]}:=by
  intro nx' lo sf hnx;refine⟨hO.cnt,λp hp=>?_,hO.ss,?_,hO.sl,?_⟩
  .rcases bX.1 hp with h|h
   .exact hO.fs p (by rw[hfs];exact cZ _ h)
   .rw[aO]at h;subst h;exact⟨DV.1,hnx⟩
  .have:=hO.sub;rw[hfs]at this;simpa using this
  .show(fs'++[(node,nx')]).length<=x.cnt;rw[aQ];simp;omega
 refine YE 15 (h2:=λm15 lH C=>∃(nx:Nat)(lo:List Int)(sf:List Bool),m15=rn-nx/\nx<=1000000/\lo.length=n/\sf.length=n/\M [] H C (XV q n {x with lo:=lo,sf:=sf} rf (Dz (fs'++[(node,nx)])++dY) (T (Z ⟨rf,0,W⟩) x.fs.length<|fI 2) Iu EN)) ?_ _ ⟨nx,x.lo,x.sf,O,DV.2,I,h4,G⟩;clear G hS0 hC0;rintro m15 y15 rg2 H2 ⟨nx,lo,sf,rfl,hnx,hlo,hsf,G⟩;refine tp ?_;refine G.LA 0 O (GA fs' node nx dY).2.1 ?_;rw[e1];refine G.kK ?_;refine G.Gn hc1 hr1 ?_;refine d_ ?_;refine aC (λhc2=>?_) λhc2=>?_;rotate_left
 .refine tl ?_;have alm:Dz (fs'++[(node,nx)])++dY=Dz fs'++(B node::B nx::dY):=by rw[Ou,bP];rfl
  rw[alm]at G;have hin:node∈x.ss:=hO.sub.subset (by rw[hfs];simp)
  have hO2:∀lo sf,DC n {x with lo:=lo,sf:=sf,fs:=fs'}:=λlo sf=>by
   refine⟨hO.cnt,λp hp=>hO.fs p (by rw[hfs];exact cZ _ hp),hO.ss,?_,hO.sl,by show fs'.length<=x.cnt;omega⟩;have:=hO.sub;rw[hfs,dG]at this;exact(dZ _ _).trans this
  have last:∀(lo':List Int)(C:F)(lH pz:D) u,lo'.length=n->M [] H C (XV q n {x with lo:=lo',sf:=sf,fs:=fs'} rf (Dz fs'++(B node::B nx::dY)) (T (Z ⟨rf,0,W⟩) fs'.length<|fI 2) Iu EN)->gJ Pg X (sub lq [1,1,1,1,1,1,1,1,0,1,0,0,1,1,0,0,1,0,1,1,0,0,1,0,1,1,1,1,1]) (kL (T ua n uc) (T W 0 0) (pr q.m) (pr q.l) (pr q.o) (pr q.s) (pr q.st) (pr q.fr) (pr q.ct) (xW q) (IP q) kQ (.pointer<|Z ⟨rf,fs'.length*2,W⟩) (B node) lH pz (B n) Az u C) (rO 3<|FV (nM (T ua n uc) (T W 0 0) (pr q.m) (pr q.l) (pr q.o) (pr q.s) (pr q.st) (pr q.fr) (pr q.ct) (xW q) (IP q) kQ (B n) Az λm jF rA lH pz C=>∃x SH,Cy q n x SH/\DC n x/\M [] H C SH/\m=2*List.count 0 x.ms+x.fs.length) m Kp):=by
   intro lo' C lH pz u ah4 G;refine tm ?_;refine PU.of (qz DV.1) ?_;rw[aW];refine G.LA 6 O (v:=vi<|lo'[node]'N) (by show(lo'.map vi)[node]?=_;rw[bD,au (show node<lo'.length by omega)];rfl) ?_;refine d_ ?_;refine PU.of (qz DV.1) ?_;rw[aW];refine G.LA 5 O (v:=vi<|x.ms[node]'N) (by show(x.ms.map vi)[node]?=_;rw[bD,au (show node<x.ms.length by omega)];rfl) ?_;refine d_ ?_;obtain⟨M2,hC2,hS2⟩:=QO (x:={x with lo:=lo',sf:=sf,fs:=fs'}) Q ah4 h3 hsf h5 G;refine aC (λhc6=>?_) λhc6=>?_;rotate_left
   .exact⟨2*x.ms.count 0+fs'.length,N,_,_,_,_,_,_,O,_,M2,hC2,hO2 _ _,hS2,O⟩
   have adY:M [] H C (M2++[]):=by rw[a_];exact hS2
   show aJ Pg X 188 [B node,pr q.st,pr q.o,pr q.s] C _;refine aJ.mono (abr hn hC2 (hO2 _ _) DV.1 hin adY) ?_;rintro v H4 ⟨p,op,sf',M3,hp,hlast,hC3,rQ⟩;rw[a_]at rQ;refine⟨2*x.ms.count 0+fs'.length,N,_,_,_,_,_,_,O,_,M3,hC3,?_,rQ,O⟩;have hO3:=hO2 lo' sf;refine⟨hO3.cnt,hO3.fs,λj hj=>hO.ss j<|eP hj,?_,?_,hO3.fl⟩
   .have:=hO.sub;rw[hfs,dG]at this;exact abt this hp hlast
   .show(x.ss.take p).length<=x.cnt;have:=hO.sl;rw[eH];omega
  refine d_ ?_;refine qX ?_;rw[show((x.fs.length:Int)-1)=(fs'.length:Int) by omega];refine PU.of (Bh N)<|G.jE λHn G=>?_;refine d_ ?_;have G:M [] H Hn (XV q n {x with lo:=lo,sf:=sf,fs:=fs'} rf (Dz fs'++(B node::B nx::dY)) (T (Z ⟨rf,0,W⟩) fs'.length<|fI 2) Iu EN):=G;refine aC (λhc6=>?_) λhc6=>?_;rotate_left
  .exact last _ _ _ _ _ hlo G
  obtain⟨fs2,p2,ag5⟩:∃fs2 p,fs'=fs2++[p]:=by
   rcases uu fs' with h|⟨l,p,h⟩
   .rw[h]at hc6;simp at hc6
   .exact⟨l,p,by rw[h,uq]⟩
  obtain⟨up,un⟩:=p2;have hup:up<n:=(hO.fs (up,un) (by rw[hfs,ag5];simp)).1;have VG:fs'.length=fs2.length+1:=by rw[ag5];simp
  have hrow:Dz fs'=Dz (fs2++[(up,un)]):=by rw[ag5]
  refine d_ ?_;refine qX ?_;rw[show((fs'.length:Int)-1)=(fs2.length:Int) by omega];refine PU.of (vO N) ?_;rw[aW];refine aY ?_;refine G.ld 0 O (v:=B up) (by rw[hrow];exact(GA fs2 up un _).1) ?_;refine d_ ?_;refine PU.of (qz hup) ?_;rw[aW];refine G.LA 6 O (v:=vi<|lo[up]'N) (by show(lo.map vi)[up]?=_;rw[bD,au (show up<lo.length by omega)];rfl) ?_;refine d_ ?_;refine PU.of (qz DV.1) ?_;rw[aW];refine G.LA 6 O (v:=vi<|lo[node]'N) (by show(lo.map vi)[node]?=_;rw[bD,au (show node<lo.length by omega)];rfl) ?_;refine G.kK ?_;refine PU.of (qz hup) ?_;rw[aW];have n5:q.l≠q.dl:=G.nq 3 6 O O N;generalize min (lo[up]'N) (lo[node]'N)=mn;refine G.stQ 6 O O (by rw[aM];show up+1<=lo.length;omega) rfl λH4 G=>?_;refine splitK (λK hK=>?_) ?_
  .simp only[eG,fT];generalize q.l=ql at n5|-;generalize q.dl=dl at n5|-;apply lX n5 (by intros;rfl) (by kernel_rfl) (by kernel_rfl) hK
  have G:M [] H _ ((XV q n {x with lo:=lo,sf:=sf,fs:=fs'} rf (Dz fs'++(B node::B nx::dY)) (T (Z ⟨rf,0,W⟩) fs'.length<|fI 2) Iu EN).set 6 (q.dl,3,splice (lo.map vi) up [vi mn])):=G;rw[oP vi N]at G;exact last (lo.set up mn) _ _ _ _ (by rw[bF];exact hlo) G
 refine G.Gn hc1 hr1 ?_;refine G.kK ?_;refine G.LA 0 O (GA fs' node nx dY).2.1 ?_;obtain⟨r2,o2,hl2,e2,hr2,hc2'⟩:=hU3.1.Oo (show nx<rn by omega) rc;obtain⟨to,hto,_⟩:=alj _<|bB hl2;rw[hto]at hc2';rw[e2];refine G.kK ?_;refine G.Gn hc2' hr2 ?_;refine d_ ?_;refine G.ld 0 O (GA fs' node nx dY).2.1 ?_;refine dU ?_;refine G.st 0 O O (by rw[aQ,BB,aQ];show fs'.length*2+1+1<=(fs'.length+1)*2+dY.length;omega) rfl λH3 G=>?_;have G:M [] H H3 (XV q n {x with lo:=lo,sf:=sf} rf (splice (Dz (fs'++[(node,nx)])++dY) (fs'.length*2+1) [B (nx+1)]) (T (Z ⟨rf,0,W⟩) x.fs.length<|fI 2) Iu EN):=G;rw[(GA fs' node nx dY).2.2]at G
 have fin:∀(b:Bool) u,Aw u 83=.bool b->(b=aA->0<=to/\to<n)->gJ Pg X (sub lq [1,1,1,1,1,1,1,1,0,1,0,0,1,1,0,0,1,0,1,1,0,0,1,0,1,1,0,0,0,1,0,1,1,0,1]) (kL (T ua n uc) (T W 0 0) (pr q.m) (pr q.l) (pr q.o) (pr q.s) (pr q.st) (pr q.fr) (pr q.ct) (xW q) (IP q) kQ (.pointer<|Z ⟨rf,fs'.length*2,W⟩) (B node) (vi to) pz (B n) Az u H3) (rO 6<|rO 5<|FV (lU (T ua n uc) (T W 0 0) (pr q.m) (pr q.l) (pr q.o) (pr q.s) (pr q.st) (pr q.fr) (pr q.ct) (xW q) (IP q) kQ (.pointer<|Z ⟨rf,fs'.length*2,W⟩) (B node) pz (B n) Az λm15 lH C=>∃(nx:Nat)(lo:List Int)(sf:List Bool),m15=rn-nx/\nx<=1000000/\lo.length=n/\sf.length=n/\M [] H C (XV q n {x with lo:=lo,sf:=sf} rf (Dz (fs'++[(node,nx)])++dY) (T (Z ⟨rf,0,W⟩) x.fs.length<|fI 2) Iu EN)) (rn-nx)<|rO 4<|sW Pg X (sub lq [1,1,1,1,1,1,1,1,0,1,0,0,1,1,0,0,1,0,1,1,0,0,1,0,1,1,1])<|rO 3<|FV (nM (T ua n uc) (T W 0 0) (pr q.m) (pr q.l) (pr q.o) (pr q.s) (pr q.st) (pr q.fr) (pr q.ct) (xW q) (IP q) kQ (B n) Az λm jF rA lH pz C=>∃x SH,Cy q n x SH/\DC n x/\M [] H C SH/\m=2*List.count 0 x.ms+x.fs.length) m Kp):=by
  intro b u hb hto;refine tl ?_;rw[hb];refine aY ?_
  have w_:∀zG C lo' sf',lo'.length=n->sf'.length=n->M [] H C (XV q n {x with lo:=lo',sf:=sf'} rf (Dz (fs'++[(node,nx+1)])++dY) (T (Z ⟨rf,0,W⟩) x.fs.length<|fI 2) Iu EN)->∃m_1,m_1<rn-nx/\lU (T ua n uc) (T W 0 0) (pr q.m) (pr q.l) (pr q.o) (pr q.s) (pr q.st) (pr q.fr) (pr q.ct) (xW q) (IP q) kQ (.pointer<|Z ⟨rf,fs'.length*2,W⟩) (B node) pz (B n) Az (λm15 lH C=>∃(nx:Nat)(lo:List Int)(sf:List Bool),m15=rn-nx/\nx<=1000000/\lo.length=n/\sf.length=n/\M [] H C (XV q n {x with lo:=lo,sf:=sf} rf (Dz (fs'++[(node,nx)])++dY) (T (Z ⟨rf,0,W⟩) x.fs.length<|fI 2) Iu EN)) m_1 (kL (T ua n uc) (T W 0 0) (pr q.m) (pr q.l) (pr q.o) (pr q.s) (pr q.st) (pr q.fr) (pr q.ct) (xW q) (IP q) kQ (.pointer<|Z ⟨rf,fs'.length*2,W⟩) (B node) (vi to) pz (B n) Az zG C):=
   λzG C lo' sf' g1 g2 g3=>⟨rn-(nx+1),N,_,_,_,rfl,nx+1,lo',sf',rfl,N,g1,g2,g3⟩
  refine dL (λhb2=>?_) λhb2=>?_
  .exact w_ _ _ lo sf hlo hsf G
  obtain⟨ht0,ht1⟩:=hto hb2;obtain⟨t,rfl⟩:∃j:Nat,to=j:=⟨to.toNat,N⟩;have htn:t<n:=by omega
  refine aC (λhc4=>?_) λhc4=>?_
  .refine G.oF<|PU.of (qz DV.1) ?_;rw[aW];refine G.st 9 O O (by rw[aM];show node+1<=sf.length;omega) rfl λH4 G=>?_;refine w_ _ _ lo (sf.set node f) hlo (by rw[bF];exact hsf) ?_;have G:M [] H H4 (XV q n {x with lo:=lo,sf:=sf} rf (Dz (fs'++[(node,nx+1)])++dY) (T (Z ⟨rf,0,W⟩) x.fs.length<|fI 2) Iu EN|>.set 9 (q.ds,4,splice (sf.map .bool) node [.bool f])):=G;rw[oP gF N]at G;exact G
  refine G.oF<|PU.of (qz htn) ?_;rw[aW];refine G.ld 5 O (v:=vi<|x.ms[t]'N) (by show(x.ms.map vi)[t]?=_;rw[bD,au (show t<x.ms.length by omega)];rfl) ?_;refine aY ?_;refine aC (λYz=>?_) λYz=>?_
  .have hm0:x.ms[t]?=Z 0:=by rw[au (show t<x.ms.length by omega),Yz]
   obtain⟨M2,hC2,hS2⟩:=top (nx+1) lo sf hlo hsf G;have hO2:=alk (nx+1) lo sf N;have hS2:M [] H H3 (M2++[]):=by rw[a_];exact hS2
   show aJ Pg X 187 [B t,pr q.ct,pr q.m,pr q.l,pr q.o,pr q.st,pr q.fr] H3 _;refine aJ.mono (KH hn hC2 hO2 htn hm0 hS2) ?_;rintro v H4 ⟨M3,hC3,rQ⟩;rw[a_]at rQ;have hct:=EF x.ms t ((x.cnt+1:Nat):Int) hm0 N;refine⟨2*(x.ms.set t ((x.cnt+1:Nat):Int)).count 0+(fs'.length+2),N,_,_,_,_,_,_,O,_,M3,hC3,hO2.begin htn hm0,rQ,?_⟩;show _=2*(x.ms.set t ((x.cnt+1:Nat):Int)).count 0+((fs'++[(node,nx+1)])++[(t,0)]).length;rw[aQ,aQ];simp
  refine G.oF<|PU.of (qz htn) ?_;rw[aW];refine G.ld 7 O (v:=.bool<|x.op[t]'N) (by show(x.op.map gF)[t]?=_;rw[bD,au (show t<x.op.length by omega)];rfl) ?_;refine aY ?_;refine dL (λhb6=>?_) λhb6=>?_;rotate_left
  .exact w_ _ _ lo sf hlo hsf G
  refine d_ ?_;refine PU.of (qz DV.1) ?_;rw[aW];refine G.LA 6 O (v:=vi<|lo[node]'N) (by show(lo.map vi)[node]?=_;rw[bD,au (show node<lo.length by omega)];rfl) ?_;refine d_ ?_;refine PU.of (qz htn) ?_;rw[aW];refine G.LA 5 O (v:=vi<|x.ms[t]'N) (by show(x.ms.map vi)[t]?=_;rw[bD,au (show t<x.ms.length by omega)];rfl) ?_;refine G.kK ?_;refine PU.of (qz DV.1) ?_;rw[aW];have n1:q.m≠q.l:=G.nq 2 3 O O N;have n2:q.m≠q.dm:=G.nq 2 5 O O N;have n3:q.m≠q.dl:=G.nq 2 6 O O N;have n4:q.l≠q.dm:=G.nq 3 5 O O N;have n5:q.l≠q.dl:=G.nq 3 6 O O N;have n6:q.dm≠q.dl:=G.nq 5 6 O O N;generalize min (lo[node]'N) (x.ms[t]'N)=mn;refine G.stQ 6 O O (by rw[aM];show node+1<=lo.length;omega) rfl λH4 G=>?_;refine splitK (λK hK=>?_) ?_
  .simp only[eG,fT];generalize q.m=qm at n1 n2 n3|-;generalize q.l=ql at n1 n4 n5|-;generalize q.dm=dm at n2 n4 n6|-;generalize q.dl=dl at n3 n5 n6|-;apply aai n1 n2 n3 n4 n5 n6 (by intros;rfl) (by kernel_rfl) (by kernel_rfl) hK
  refine w_ _ _ (lo.set node mn) sf (by rw[bF];exact hlo) hsf ?_;have G:M [] H _ ((XV q n {x with lo:=lo,sf:=sf} rf (Dz (fs'++[(node,nx+1)])++dY) (T (Z ⟨rf,0,W⟩) x.fs.length<|fI 2) Iu EN).set 6 (q.dl,3,splice (lo.map vi) node [vi mn])):=G;rw[oP vi N]at G;exact G
 refine aC (λhc3=>?_) λhc3=>?_
 .exact fin _ _ O λh=>by cases h
 .exact fin _ _ O λh=>by have:=mJ h;omega
end
section
variable{S:List Nat}{ax:Nat->Prop}
def _root_.Go.Ae.M.XW(G:M S H0 H L)(k:∀H1 r,M S H0 (hM H H1) ((r,e,z)::L)->Lt H H1=cl 5->K (.pointer<|Z ⟨r,0,W⟩) H1):ME (Go.Ae.iZ e z<|Go.Ae.hN H) K:=
 ME.of rfl (k _ _ (G.xY e z)<|xq<|Ext.new _ _)
def _root_.Go.Ae.M.mkD(G:M S H0 H L)(hn:n<=16777216)(k:∀H1 r,M S H0 (hM H H1) ((r,e,oL z n)::L)->Lt H H1=cl 5->K (T (Z ⟨r,0,W⟩) n n) H1):ME (Go.Ae.mkS e z (B n) (B n)<|Go.Ae.hN H) K:=by
 refine ME.of ?_<|k _ _ (G.xY e<|oL z n)<|xq<|Ext.new _ _;show(aK (zh<|B n) λn'=>aK (zh<|B n) λm=>gd (aB n' m&&aB m 16777216&&f) _)=_;show gd (aB n n&&aB n 16777216&&f) _=_;rw[aH (az n),aH hn];rfl
def TB(b n:Nat)(H:F)(v:D):Prop:=∃a c,∃bs:List Bool,v=T a n c/\bs.length=n/\i_ (b<=·) 4 H a n 1 (bs.map .bool)
def QT{K:Nat}(hn:n<=1000)(hK:K<=1000000)(hU:VF n K h1 H<|T ua n uc)(x:YI)(SH:List dJ)(hC:Cy q n x SH)(hO:DC n x)(hf:x.fs=[])(kQ jF rA lH pz:D)(u)(H1:F)(G:M [] H H1 SH):
 gJ Pg X (.loop<|sub lq [1,1,1,1,1,1,1,1,0,1,0,0]) (kL (T ua n uc) (T W 0 0) (pr q.m) (pr q.l) (pr q.o) (pr q.s) (pr q.st) (pr q.fr) (pr q.ct) (xW q) (IP q) kQ jF rA lH pz (B n) (vi 0) u H1) (rO 0<|sW Pg X (sub lq [1,1,1,1,1,1,1,1,1])<|jR Pg [.tmp 2]<|Q1 (λv C=>TB H.next n C v) H):=by
 refine lp6 12 13 14 15 16 33 (h2:=λm kQ jF rA lH pz Az C=>∃x SH i,Az=B i/\i+m=n/\Cy q n x SH/\DC n x/\x.fs=[]/\M [] H C SH) ?_ n ⟨x,SH,0,rfl,N,hC,hO,hf,G⟩;clear hC hO hf G x SH;rintro m y12 y13 y14 y15 y16 y33 u H1 ⟨x,SH,i,rfl,him,hC,hO,hf,G⟩;refine tp ?_;have hC0:=hC;have hS0:=G;obtain⟨Iu,TA,EN,QN,rfl,Q,I,h3,h4,h5,h6⟩:=hC;refine aC (λy=>?_) λy=>?_;rotate_left
 .refine tl ?_;refine G.oF ?_;have hd:=G.wB<|aR (i:=8) O;refine rr ?_;refine⟨⟨_,_,x.sf,O,h4,i_.one G (aR (i:=8) O) (by rw[aM,h4,dz]) hd⟩,G.ext⟩
 refine gJ.scope (hr:=λ_ _ _=>False) (λ_ _ _ _ h=>h.elim) 0 ?_
 have fin:∀x SH jF rA lH pz u H1,Cy q n x SH->DC n x->M [] H H1 SH->gJ Pg X (sub lq [1,1,1,1,1,1,1,1,0,1,0,0,1,1,0,0,1,0,1]) (kL (T ua n uc) (T W 0 0) (pr q.m) (pr q.l) (pr q.o) (pr q.s) (pr q.st) (pr q.fr) (pr q.ct) (xW q) (IP q) (B i) jF rA lH pz (B n) (B i) u H1) (Z_ (sub lq [1,1,1,1,1,1,1,1,0,1,0,0,1,1,0,0,1,0]) (λ_ _ _=>False) 0<|rO 1<|sW Pg X (sub lq [1,1,1,1,1,1,1,1,0,1,0,0,1,1,1])<|FV (yx (T ua n uc) (T W 0 0) (pr q.m) (pr q.l) (pr q.o) (pr q.s) (pr q.st) (pr q.fr) (pr q.ct) (xW q) (IP q) (B n) λm kQ jF rA lH pz Az C=>∃x SH i,Az=B i/\i+m=n/\Cy q n x SH/\DC n x/\x.fs=[]/\M [] H C SH) m<|rO 0<|sW Pg X (sub lq [1,1,1,1,1,1,1,1,1])<|jR Pg [.tmp 2]<|Q1 (λv C=>TB H.next n C v) H):=by
  intro x SH jF rA lH pz u H1 hC hO G;refine tl ?_;refine QS hn hK hU x SH hC hO _ _ _ _ _ _ G λx SH jF rA lH pz u H1 hC hO hf G=>?_;refine aY ?_;rw[aaa];refine aY ?_;refine tp ?_;refine dU ?_;exact⟨n-(i+1),N,_,_,_,_,_,_,_,_,O,x,SH,i+1,nX,N,hC,hO,hf,G⟩
 refine tl ?_;refine G.oF ?_;have hin:i<n:=by omega
 refine PU.of (qz hin) ?_;rw[aW];refine G.ld 4 O (v:=vi<|x.ms[i]'N) (by show(x.ms.map vi)[i]?=_;rw[bD,au (show i<x.ms.length by omega)];rfl) ?_;refine aY ?_;refine aC (λYz=>?_) λYz=>?_;rotate_left
 .exact fin x _ _ _ _ _ _ _ hC0 hO G
 have hm0:x.ms[i]?=Z 0:=by rw[au (show i<x.ms.length by omega),Yz]
 have hS2:=G;rw[<-a_ (_::_)]at hS2;show aJ Pg X 187 [B i,pr q.ct,pr q.m,pr q.l,pr q.o,pr q.st,pr q.fr] H1 _;refine aJ.mono (KH hn hC0 hO hin hm0 hS2) ?_;rintro v H4 ⟨M3,hC3,rQ⟩;rw[a_]at rQ;exact fin _ M3 _ _ _ _ _ _ hC3 (hO.begin hin hm0) rQ
theorem Iv(hw:Wf H){K:Nat}(hn:n<=1000)(hK:K<=1000000)(hU:VF n K h1 H v):aJ Pg X 157 [v] H (Q1 (λv C=>TB H.next n C v) H):=by
 obtain⟨b,ua,uc,vs,rfl,hU1,hU2⟩:=hU;have hU:VF n K h1 H (T ua n uc):=⟨b,ua,uc,vs,O,hU1,hU2⟩;have G:=M.refl hw;refine ce [0,2,3,4,5,6,7,8,9,10,11,12,13,14,15,16,32,33] ?_;refine tp ?_;refine G.mkD N λH1 dm G f1=>?_
 try simp only[gZ G.wf]
 refine G.mkD N λH2 dl G f2=>?_
 try simp only[gZ G.wf]
 refine G.XW λH3 m G f3=>?_
 try simp only[gZ G.wf]
 refine G.XW λH4 l G f4=>G.lW λHn G=>?_;refine G.lW λHn G=>?_;have n1:l≠m:=G.nq 0 1 O O N;refine splitK (λK hK=>?_) ?_
 .simp only[f1,f2,f3,f4,fT];apply lX (a:=l) (b:=m) n1 (by intros;rfl) (by kernel_rfl) (by kernel_rfl) hK
 generalize hM (hM (hM (hM (hM (hM H H1) H2) H3) H4) _) Hn=H5 at*;refine G.mkD N λH6 dO G g1=>?_
 try simp only[gZ G.wf]
 refine G.mkD N λH7 ds G g2=>?_
 try simp only[gZ G.wf]
 refine G.XW λH8 o G g3=>?_
 try simp only[gZ G.wf]
 refine G.XW λH9 s G g4=>G.lW λHn G=>?_;refine G.lW λHn G=>?_;have n2:s≠o:=G.nq 0 1 O O N;refine splitK (λK hK=>?_) ?_
 .simp only[g1,g2,g3,g4,fT];apply lX (a:=s) (b:=o) n2 (by intros;rfl) (by kernel_rfl) (by kernel_rfl) hK
 refine G.iZ λHn st G=>G.iZ λHn fr G=>G.iZ λHn ct G=>G.jE λHn G=>?_;have hz:oL [.int .i64 0] n=(aU n (0:Int)).map vi:=by rw[mK,jY]
 have hb:oL [.bool aA] n=(aU n aA).map gF:=by rw[mK,jY]
 rw[hz,hb]at G;have G:M [] H Hn [(ct,3,[B 0]),(fr,290,[T W 0 0]),(st,22,[T W 0 0]),(s,34,[T (Z ⟨ds,0,W⟩) n n]),(o,34,[T (Z ⟨dO,0,W⟩) n n]),(ds,4,(aU n aA).map gF),(dO,4,(aU n aA).map gF),(l,22,[T (Z ⟨dl,0,W⟩) n n]),(m,22,[T (Z ⟨dm,0,W⟩) n n]),(dl,3,(aU n (0:Int)).map vi),(dm,3,(aU n (0:Int)).map vi)]:=G
 have G:=G.perm (L':=[(ct,3,[B 0]),(m,22,[T (Z ⟨dm,0,W⟩) n n]),(l,22,[T (Z ⟨dl,0,W⟩) n n]),(o,34,[T (Z ⟨dO,0,W⟩) n n]),(dm,3,(aU n (0:Int)).map vi),(dl,3,(aU n (0:Int)).map vi),(dO,4,(aU n aA).map gF),(s,34,[T (Z ⟨ds,0,W⟩) n n]),(ds,4,(aU n aA).map gF),(st,22,[T W 0 0]),(fr,290,[T W 0 0])])
  (dQ _<|rP [_,_,_,_,_,_,_] [_,_]<|rP [_,_,_,_,_,_] [_,_]<|rP [_,_,_] [_,_,_,_]<|rP [_,_,_,_,_,_] []<|rP [_,_,_,_,_] []<|rP [_,_,_,_] []<|rP [_,_] [_]<|rP [_,_] []<|rP [_] []<|pN _)
 exact QT (q:=⟨ct,m,l,o,dm,dl,dO,s,ds,st,fr⟩) hn hK hU ⟨0,aU n 0,aU n 0,aU n aA,aU n aA,[],[]⟩ _
  ⟨T W 0 0,T W 0 0,[],[],rfl,by simp,by simp,by simp,by simp,GB.nil _ _,GB.nil _ _⟩
  ⟨by simp,(λp h=>nomatch h),(λj h=>nomatch h),List.Sublist.refl _,az _,az _⟩ O _ _ _ _ _ _ _ G
end
section
variable{S:List Nat}{ax:Nat->Prop}
def Fa(E:List D):Prop:=∀i,i<E.length/3->∃(z a b:Int),El E 3 i=[vi z,vi a,vi b]/\z≠0
def Fa.app(h:Fa E)(hl:E.length %3=0){z:Int}(hz:z≠0)(a b:Int):Fa (E++[vi z,vi a,vi b]):=by
 intro i hi;have hE:=Bv (es:=3) (n:=E.length/3) (E:=E) N (xs:=[vi z,vi a,vi b]) O;rw[aQ]at hi;simp only[cr,uT]at hi;rcases bZ i (E.length/3)with h'|h'
 .rw[hE.1 i h'];exact h i h'
 .obtain rfl:i=E.length/3:=by omega
  exact⟨z,a,b,hE.2,hz⟩
def ad1{x:D}(hg:GB 228 3 x E gb)(hF:Fa E)(hl:E.length<=10000000)(G:M S H0 H<|Pf++gb){z a b:Int}(hz:z≠0){K:D->D->F->Prop}(kk:∀w v' C gT,GB 228 3 v' (E++[vi z,vi a,vi b]) gT->Fa (E++[vi z,vi a,vi b])->M S H0 C (Pf++gT)->K w v' C):
 ME (bS 228 [.int .i64 0,.int .i64 0,.int .i64 0] 3 1 [(0,.agg ⟨[vi z,vi a,vi b]⟩)] H) λw H5=>ME (zB 228 3 x w H5) (K w):=by
 have hl3:E.length %3=0:=by
  rcases hg with⟨_,rfl,_⟩|⟨r,n,dY,_,e,_⟩
  .rfl
  .omega
 refine G.bS O O O N λH1 rx hS1=>?_;have hS1:=hS1.perm<|dQ _<|aF (l₁:=Pf);obtain⟨v',H6,gT,e1,hg',vZ,_⟩:=hg.app (m:=0) (cx:=1) hS1 N O O N N;refine ME.of e1<|kk _ v' H6 gT hg' (hF.app hl3 hz a b)<|vZ.perm aF
def FJ(v:D)(H:F)(P:Prop):Prop:=∃a n c E,v=T a n c/\Fl H a n 3 E/\Fa E/\(n=0->P)
theorem ajD{rn:Nat}{P:Prop}(hG:Gr b H ra rn rcs na nn iH)(hnm:Oq rn mm)(hB:∀j,j<rn->0<=rootOf rcs j/\rootOf rcs j<nn)(H1:F)(hm:uj H1 r mm)(G:M [] H H1<|(u,171,[T ra rn rc,T na nn nc])::gb)(hg:GB 228 3 x3 E gb)(hF:Fa E)(hl:E.length<=9000000)(hu:E=[]->P)(x2 x5 x6 x7 x8 x9 jh iL kQ x30 x31 x32 Gu Dv S8 x88 x89 x90:D)(mO):
 gJ Pg X (sub CF [1,1,1,1,1,1,1]) (Bp (gV ra rn rc na nn nc) (.pointer<|Z ⟨u,0,W⟩) x2 x3 (.map<|Z r) x5 x6 x7 x8 x9 jh iL kQ x30 x31 x32 Gu Dv S8 x88 x89 x90 mO H1) (jR Pg [.tmp 2]<|Q1 (λv C=>FJ v C P) H):=by
 have g2:=hG.2.1;refine tl ?_;refine G.iK ?_;refine aJ.mono (QM G.wf (hG.ex G.ext) hm hnm hB) ?_;rintro v H2 ⟨hv,hx2⟩;have G:=G.call hx2;refine aJ.mono (Iv G.wf (K:=500000) (h1:=QL rn) N N ⟨_,hv⟩) ?_;rintro v H3 ⟨⟨ba,bc,bs,rfl,hbl,hbf⟩,hx3⟩;have G:=G.call hx3;refine aY ?_;have hlt:=G.lt;have hS0:=G;have G:=hS0.base;refine Oa 3 11 12 90 (h2:=λm y3 y11 y12 y90 C=>∃(i:Nat)(E:List D)(gb:List dJ),y90=B i/\i+m=rn/\GB 228 3 y3 E gb/\Fa E/\E.length<=9000000+3*i/\(E=[]->P)/\M _ H3 C ((u,171,[T ra rn rc,T na nn nc])::gb)) ?_ rn ⟨0,E,gb,rfl,N,hg,hF,N,hu,G⟩;have hty:=hS0.IG (ty:=4) (by simp[hg.all]);clear G hg hF hl hu;rintro m y3 y11 y12 y90 LU H4 ⟨i,cs',gT,rfl,him,hg,hF,hl,hu,G⟩;refine tp ?_;refine aC (λy=>?_) λy=>?_;rotate_left
 .refine tl ?_;obtain⟨a,n,c,rfl,hcl,hf⟩:=hg.Jc (ax:=λ_=>True) (G.perm<|aF (l₁:=[_])) λ_ _=>trivial;refine rr ?_;exact⟨⟨a,n,c,cs',O,hf.1,hF,λh=>hu (by subst h;exact gK N)⟩,(hS0.over G).ext⟩
 have hb4:=hbf.stay G.ext λq hq=>.inr<|hty q hq;obtain⟨r',o',hl',e',hr',KC⟩:=hb4.1.Oo (show i<rn by omega) bc;rw[e'];refine aY ?_;rw[mq]at KC;refine ME.ld KC ?_;refine aY ?_;refine dL (λhb=>?_) λhb=>?_
 .refine PU.b3 O<|ad1 (Pf:=[_]) hg hF N G (z:=20) (by decide) λw v' H5 gb5 hg5 hF5 hS5=>?_;refine dU ?_;refine⟨rn-(i+1),N,_,_,_,_,_,_,O,i+1,_,gb5,nX,N,hg5,hF5,by rw[aQ];show cs'.length+3<=_;omega,λh=>absurd h<|by simp,hS5⟩
 .refine dU ?_;exact⟨rn-(i+1),N,_,_,_,_,_,_,O,i+1,cs',gT,nX,N,hg,hF,N,hu,G⟩
def ajE{rn:Nat}{P:Prop}(hG:Gr b H ra rn rcs na nn iH)(hnm:Oq rn mm)(hB:∀j,j<rn->0<=rootOf rcs j/\rootOf rcs j<nn)(H1:F)(hm:uj H1 r mm)(G:M [] H H1<|(u,171,[T ra rn rc,T na nn nc])::gb)(hg:GB 228 3 x3 E gb)(hF:Fa E)(hl:E.length<=1000)(hu:E=[]->P)(x2 x5 x6 x7 x8 x9 jh iL kQ x30 x31 x32 Gu Dv S8 x88 x89 x90:D)(mO):
 gJ Pg X (sub CF [1,1,1,1,1,1]) (Bp (gV ra rn rc na nn nc) (.pointer<|Z ⟨u,0,W⟩) x2 x3 (.map<|Z r) x5 x6 x7 x8 x9 jh iL kQ x30 x31 x32 Gu Dv S8 x88 x89 x90 mO H1) (jR Pg [.tmp 2]<|Q1 (λv C=>FJ v C P) H):=by
 have g2:=hG.2.1;have g5:=hG.2.2.2.2.1;refine tm ?_;have hS0:=G;have hnr:=hS0.EA hm;have G:=hS0.base;refine lp6 3 7 8 9 10 52 (h2:=λm y3 y7 y8 y9 y10 y52 C=>∃(i:Nat)(E:List D)(gb:List dJ),y52=B i/\i+m=rn/\GB 228 3 y3 E gb/\Fa E/\E.length<=1000+12006*i/\(E=[]->P)/\M _ H1 C ((u,171,[T ra rn rc,T na nn nc])::gb)) ?_ rn ⟨0,E,gb,rfl,N,hg,hF,N,hu,G⟩;clear G hg hF hl hu;rintro m y3 y7 y8 y9 y10 y52 LU H4 ⟨i,cs',gT,rfl,him,hg,hF,hl,hu,G⟩;refine tp ?_;refine aC (λy=>?_) λy=>?_;rotate_left
 .exact ajD hG hnm hB H4 (hm.ex G.ext hnr) (hS0.over G) hg hF N hu _ _ _ _ _ _ _ _ _ _ _ _ _ _ _ _ _ _ _
 have hi:i<rn:=by omega
 obtain⟨r1,o1,yf,u1,f1,w1,c1,a1,e1,hl1,zo,sw,hsz,_⟩:=(hG.ex (hS0.over G).ext).ru hi rc;rw[e1];refine aY ?_;refine ME.rF zo<|G.nZ O O O λH5 ru G hx5=>?_;have G:M _ H1 H5 ((ru,234,wh yf u1 f1 w1 c1 (rootOf rcs i) a1)::(u,171,[T ra rn rc,T na nn nc])::gT):=G;refine G.iK ?_;refine aJ.mono (MX G.wf (hG.ex (hS0.over<|M.drop (A:=[_]) G).ext) hi hB) ?_;rintro v H6 ⟨⟨k0,rfl,hk0⟩,hx6⟩;have G:=G.call hx6;have hb:=hB i hi;refine Ig 3 9 10 (h2:=λm' z3 z9 z10 C=>∃(k:Nat)(E:List D)(gb:List dJ),z9=B k/\k+m'=4001/\GB 228 3 z3 E gb/\Fa E/\E.length<=1000+12006*i+3*k/\(E=[]->P)/\M _ H1 C ((ru,234,wh yf u1 f1 w1 c1 (rootOf rcs i) a1)::(u,171,[T ra rn rc,T na nn nc])::gb)) ?_ (4001-k0) ⟨k0,cs',gT,rfl,N,hg,hF,N,hu,G⟩;clear G hg hF hl hu;rintro m' z3 z9 z10 amw H7 ⟨k,cs2,YC,rfl,hkm,hg,hF,hl,hu,G⟩;refine tm ?_;refine aC (λhc2=>?_) λhc2=>?_;rotate_left
 .refine tp ?_;refine dU ?_;exact⟨rn-(i+1),N,_,_,_,_,_,_,_,_,O,i+1,cs2,YC,nX,N,hg,hF,N,hu,M.drop (A:=[_]) G⟩
 have hkn:k<nn:=by omega
 have hG7:=hG.ex (hS0.over<|M.drop (A:=[_]) G).ext;refine d_ ?_;obtain⟨kd,ka,kn,kc,ks',t,rs,at',he,hk1,hk2,hk3,hk4,hk5⟩:=hG7.2.2.2.2.2 k hkn;obtain⟨xa,xn,xc,xcs,rfl,Tm⟩:=id hk5;obtain⟨r2,o2,e2,hl2,XP,vk⟩:=hG7.no hkn nc he;rw[e2];refine G.kK ?_;refine ME.rF (H:=hN _) XP ?_;simp only[gZ G.wf];have hm7:=hm.ex G.ext hnr;refine aJ.mono (Ty (H:=hN H7) (az _) (r:=r) (m:=mm) (show Gr b (hN H7) ra rn rcs na nn iH from hG7) hm7 hnm) ?_;rintro v H8 ⟨⟨z,rfl⟩,Bw⟩;have G:=G.mV Bw;refine splitK (λK hK=>?_) ?_
 .exact iB (by simp only[eG,fK Bw];rfl) hK
 refine aY ?_;refine bT (λhc3=>?_) λhc3=>?_
 .refine PU.b3 O<|ad1 (Pf:=[_,_]) hg hF N G hc3 λw v' H5 gb5 hg5 hF5 hS5=>?_;refine dU ?_;exact⟨4001-(k+1),N,_,_,_,_,_,O,k+1,_,gb5,nX,N,hg5,hF5,by rw[aQ];show cs2.length+3<=_;omega,λh=>absurd h<|by simp,hS5⟩
 .refine dU ?_;exact⟨4001-(k+1),N,_,_,_,_,_,O,k+1,cs2,YC,nX,N,hg,hF,N,hu,G⟩
end
section
variable{S:List Nat}{ax:Nat->Prop}
def FK(rcs:List D)(i:Nat):Bool:=match((El rcs 7 i)[1]?.getD<|.bool aA)with
 |.bool b=>b
 |_=>aA
def Jg{w:Bool}{at':Int}(h:El rcs 7 i=wh nm rg av w ch root at'):FK rcs i=rg:=by unfold FK;rw[h];rfl
def afP{rn:Nat}{P:Prop}(hG:Gr b H ra rn rcs na nn iH)(hB:∀j,j<rn->0<=rootOf rcs j/\rootOf rcs j<nn)(H1:F)(G:M [] H H1<|(u,171,[T ra rn rc,T na nn nc])::gb)(hg:GB 228 3 x3 E gb)(hF:Fa E)(hl:E.length<=3)(hu:E=[]->P)(x2 x4 x5 x6 x7 x8 x9 jh iL kQ x30 x31 x32 Gu Dv S8 x88 x89 x90:D)(mO):
 gJ Pg X (sub CF [1,1,1,1]) (Bp (gV ra rn rc na nn nc) (.pointer<|Z ⟨u,0,W⟩) x2 x3 x4 x5 x6 x7 x8 x9 jh iL kQ x30 x31 x32 Gu Dv S8 x88 x89 x90 mO H1) (jR Pg [.tmp 2]<|Q1 (λv C=>FJ v C P) H):=by
 have g2:=hG.2.1;refine tm ?_;refine aJ.mono (Tx G.wf<|hG.ex G.ext) ?_;rintro v H2 ⟨r,mm,rfl,hm,hnm,hx2,hge⟩;have G:=G.call hx2;refine d_ ?_;have hS0:=G;have hnr:=hS0.EA hm;have G:=hS0.base;refine Oa 3 5 6 32 (h2:=λm y3 y5 y6 y32 C=>∃(i:Nat)(E:List D)(gb:List dJ),y32=B i/\i+m=rn/\GB 228 3 y3 E gb/\Fa E/\E.length<=3+3*i/\(E=[]->P)/\M _ H2 C ((u,171,[T ra rn rc,T na nn nc])::gb)) ?_ rn ⟨0,E,gb,rfl,N,hg,hF,N,hu,G⟩;clear G hg hF hl hu;rintro m y3 y5 y6 y32 LU H4 ⟨i,cs',gT,rfl,him,hg,hF,hl,hu,G⟩;refine tp ?_;refine aC (λy=>?_) λy=>?_;rotate_left
 .exact ajE hG hnm hB H4 (hm.ex G.ext hnr) (hS0.over G) hg hF N hu _ _ _ _ _ _ _ _ _ _ _ _ _ _ _ _ _ _ _
 have hi:i<rn:=by omega
 obtain⟨r1,o1,yf,u1,f1,w1,c1,a1,e1,hl1,zo,sw,hsz,_⟩:=(hG.ex (hS0.over G).ext).ru hi rc;rw[e1];refine aY ?_;refine ME.rF zo<|G.nZ O O O λH5 ru G hx5=>?_;have G:M _ H2 H5 ((ru,234,wh yf u1 f1 w1 c1 (rootOf rcs i) a1)::(u,171,[T ra rn rc,T na nn nc])::gT):=G;refine d_ ?_;refine ME.afN (hm.ex G.ext hnr) BA QI eqS λav hf hn=>?_
 obtain⟨z,hz⟩:∃z:Int,av.getD (vi 0)=vi z:=by
  cases av with
  |none=>exact⟨0,O⟩
  |some v=>
   obtain⟨j,_,e⟩:=hnm _<|hf v O;have e:v=B j:=e;exact⟨j,by rw[e];rfl⟩
 rw[hz];refine aY ?_;refine bT (λhc3=>?_) λhc3=>?_
 .refine PU.b3 O<|ad1 (Pf:=[_]) hg hF N (M.drop (A:=[_]) G) (z:=16) (by decide) λw v' H6 gb5 hg5 hF5 hS5=>?_;refine dU ?_;exact⟨rn-(i+1),N,_,_,_,_,_,_,O,i+1,_,gb5,nX,N,hg5,hF5,by rw[aQ];show cs'.length+3<=_;omega,λh=>absurd h<|by simp,hS5⟩
 .refine dU ?_;exact⟨rn-(i+1),N,_,_,_,_,_,_,O,i+1,cs',gT,nX,N,hg,hF,N,hu,M.drop (A:=[_]) G⟩
def Clean(ax:Nat->Prop)(H:F)(rn:Nat)(rcs:List D)(nn:Nat)(iH:List D):Prop:=KE ax H rn rcs nn iH/\FK rcs 0=aA
def QU(hw:Wf H){rn:Nat}(hG:Gr b H ra rn rcs na nn iH):aJ Pg X 148 [gV ra rn rc na nn nc] H (Q1 (λv C=>FJ v C<|Clean (b<=·) H rn rcs nn iH) H):=by
 have G:=M.refl hw;refine ce [0,1,2,3,4,5,6,7,8,9,10,11,12,30,31,32,50,51,52,88,89,90] ?_;refine tl ?_;refine G.box O λH1 u G=>?_;refine d_ ?_;have hx1:=G.ext;refine aJ.mono (Tw G.wf<|hG.ex hx1) ?_;rintro v H2 ⟨⟨t,rfl,ht⟩,J⟩;have G:=G.call J;refine aY ?_;refine dL (λhb=>?_) λhb=>?_
 .refine PU.b3 O ?_;refine G.bS O O O N λH3 rx G=>?_;have hfl:=i_.one (ax:=λ_=>True) (n:=1) (es:=3) G (aL ..) O trivial;refine rr ?_;refine⟨⟨_,1,1,_,O,hfl.1,?_,λh=>by cases h⟩,G.ext⟩;intro i hi;have hi:i<1:=hi;obtain rfl:i=0:=by omega
  exact⟨2,-1,-1,O,by decide⟩
 have hs:KE (b<=·) H rn rcs nn iH:=by
  have h:=ht (by cases t with
   |true=>rfl
   |false=>cases hb)
  exact⟨h.1.back hG hx1,h.2⟩
 refine G.oF ?_;obtain⟨r1,o1,yf,u1,f1,w1,c1,a1,e1,hl1,zo,sw,hsz,he1⟩:=hG.ru (i:=0) hs.2.1 rc;rw[show(bV .i64 0)=B 0 from O,e1];refine aY ?_;refine G.Ay (sw 1 _ N O) hl1 ?_;refine aY ?_;refine dL (λhb2=>?_) λhb2=>?_
 .exact PU.b3 O<|ad1 (Pf:=[_]) (GB.nil _ _) (E:=[]) (λi h=>absurd h<|by simp) (by simp) G (z:=18) (by decide) λw v' H5 gb5 hg5 hF5 hS5=>afP hG hs.1.2 H5 hS5 hg5 hF5 (by simp) (λh=>absurd h<|by simp) _ _ _ _ _ _ _ _ _ _ _ _ _ _ _ _ _ _ _ _
 .exact afP hG hs.1.2 _ G (GB.nil _ _) (λi h=>absurd h<|by simp) (by simp) (λ_=>⟨hs,by rw[Jg he1];exact hb2⟩) _ _ _ _ _ _ _ _ _ _ _ _ _ _ _ _ _ _ _ _
def KI(hw:Wf H){rn:Nat}(hG:Gr b H ra rn rcs na nn iH):aJ Pg X 121 [gV ra rn rc na nn nc] H (Q1 (λv _=>∃z a c:Int,v=.agg ⟨[vi z,vi a,vi c]⟩/\(z=0->Clean (b<=·) H rn rcs nn iH)) H):=by
 have G:=M.refl hw;refine ce [0,1,2,3] ?_;refine tl ?_;refine G.box O λH1 u G=>?_;refine G.iZ λHn rf G=>?_;refine G.iK ?_;have hx1:=G.ext;refine aJ.mono (QU G.wf<|hG.ex hx1) ?_;rintro v H2 ⟨⟨a,n,c,E,rfl,hf,hF,hP⟩,J⟩;have G:=G.call J;refine aY ?_;refine aC (λy=>?_) λy=>?_
 .obtain⟨r,o,e,R,hrd,_⟩:=hf.read N (show 0<n by omega) c;rw[show(bV .i64 0)=B 0 from O,e];refine aY ?_;obtain⟨z,x,hc,he,hz⟩:=hF 0 (by have:=hf.1;omega);rw[he]at hrd;refine ME.rF hrd<|G.jE λHn G=>rr ?_;exact G.iK<|⟨⟨z,x,hc,O,λh=>absurd h hz⟩,G.ext⟩
 .have hn:n=0:=by omega
  have hcl:=hP hn;refine PU.b3 O<|G.jE λHn G=>rr ?_;exact G.iK<|⟨⟨0,0,0,O,λ_=>⟨⟨hcl.1.1.back hG hx1,hcl.1.2⟩,hcl.2⟩⟩,G.ext⟩
end
end Go.Proofs.Lu
