/-
  Part 10 of the proof. No condition.
-/
import Derived.Test.YtdkcdlnfeodaaaaGreatDoorR09
import Derived.Test.YtdkcdlnfeodaaaaGreatDoorR07
set_option linter.unusedVariables false
set_option linter.unusedSimpArgs false
set_option maxRecDepth 100000
set_option maxHeartbeats 4000000
noncomputable section
namespace Go.Proofs.Lu
open Go.Ae Go.Ae.M
variable{m mm:List (ByteArray×Value)}{K:Value->ag->Prop}{cs cs' dH eG ks l rcs z:List Value}{a a2 na ra ua:Option Addr}{e kt t ty vt:TypeId}{Q:Int->Prop}{b c es i n nc nn o p r rc rf rg uc w:Nat}{Dy L M Pf gb:List cz}{H H' H0:ag}{k nm:ByteArray}{Gg gK v x x3 zO:Value}{ch root:Int}{f u:Bool}
section
variable{S:List Nat}{F:Nat->Prop}
def KZ(kd:Int)(n:Nat):Prop:=(kd=0/\2<=n)\/kd=1\/((kd=2\/kd=3\/kd=4)/\n=1)\/((kd=5\/kd=6\/kd=7)/\n=0)
theorem Vv(kd:Int)(n:Nat):az Pg X 199 [vi kd,vn n] H (Q0 (λv=>∃b:Bool,v=.bool b/\(b=true->KZ kd n)) H):=by
 have fin:∀(b:Bool) rg,BA rg 12=.bool b->(b=true->kd=2\/kd=3\/kd=4)->dJ Pg X (sub Ay [1,0,1,0,1,1,1,1,1]) (Ei (vi kd) (vn n) (.bool false) (vi kd) rg H) (j3 0<|nR Pg X (sub Ay [1,1])<|f_ Pg [.tmp 4]<|Q0 (λv=>∃b:Bool,v=.bool b/\(b=true->KZ kd n)) H):=by
  intro b rg hb hk
  have aic:∀rg,dJ Pg X (sub Ay [1,1]) (Ei (vi kd) (vn n) (.bool false) (vi kd) rg H) (f_ Pg [.tmp 4]<|Q0 (λv=>∃b:Bool,v=.bool b/\(b=true->KZ kd n)) H):=λrg=>
   by refine tl ?_;refine rr ?_;exact⟨⟨false,rfl,λh=>by cases h⟩,rfl⟩
  refine tl ?_;rw[hb];refine bO (λhb=>?_) λhb=>?_
  .refine aF ?_;refine rr ?_;exact⟨⟨_,rfl,λh=>.inr<|.inr<|.inl ⟨hk hb,by have:=cZ h;omega⟩⟩,rfl⟩
  refine aF ?_;refine ah (λhc=>?_) λhc=>?_
  .rw[aS hc];refine aF ?_;refine rr ?_;exact⟨⟨_,rfl,λh=>.inr<|.inr<|.inr ⟨.inl hc,by have:=cZ h;omega⟩⟩,rfl⟩
  refine ah (λhc=>?_) λhc=>?_
  .rw[aS hc];refine aF ?_;refine rr ?_;exact⟨⟨_,rfl,λh=>.inr<|.inr<|.inr ⟨.inr<|.inl hc,by have:=cZ h;omega⟩⟩,rfl⟩
  refine ah (λhc=>?_) λhc=>?_
  .refine rr ?_;exact⟨⟨_,rfl,λh=>.inr<|.inr<|.inr ⟨.inr<|.inr hc,by have:=cZ h;omega⟩⟩,rfl⟩
  exact aic _
 refine ce [0,1,4,5] ?_;refine tl ?_;refine aF ?_;refine ah (λhc=>?_) λhc=>?_
 .refine rr ?_;exact⟨⟨_,rfl,λh=>.inl ⟨hc,by have:=cZ h;omega⟩⟩,rfl⟩
 refine ah (λhc=>?_) λhc=>?_
 .refine rr ?_;exact⟨⟨_,rfl,λh=>.inr<|.inl hc⟩,rfl⟩
 refine ah (λhc=>?_) λhc=>?_
 .exact fin _ _ rfl λ_=>.inl hc
 refine ah (λhc=>?_) λhc=>?_
 .exact fin _ _ rfl λ_=>.inr<|.inl hc
 exact fin _ _ rfl λh=>.inr<|.inr (by have:=cZ h;omega)
theorem _root_.Go.Ae.Fl.Wd{k:Nat}(h:Fl H a n 1 cs)(hk:k<n)(c:Nat):∃r o,∃hl:k<cs.length,zH 1 (.slice a n c) (vn k)=some (.pointer<|some ⟨r,o,none⟩)/\r<H.next/\H.cell r o=some cs[k]:=by
 have hl:k<cs.length:=by have:=h.1;omega
 obtain⟨r,o,h1,h2,h3,_⟩:=h.idx (c:=c) (bL 0) hk;exact⟨r,o,hl,h1,h2,h3 0 _ (bL 0) (by rw[bG,bn];exact ae hl)⟩
def ZA(F:Nat->Prop)(H:ag)(i:Nat)(l:List Value):Prop:=∃(kd:Int)(a:Option Addr)(n c:Nat)(ks:List Value)(t:ByteArray)(xa:Option Addr)(xn xc:Nat)(at':Int),l=[vi kd,.slice a n c,.string t,.slice xa xn xc,vi at']/\n<=20001/\t.size<=1000000/\jT F 3 H a n 1 ks/\KZ kd n/\(∀x∈ks,∃z:Nat,x=vn z/\z<i)
def intOf(v:Value):Int:=match v with
 |.int _ z=>z
 |_=>0
def rootOf(rcs:List Value)(i:Nat):Int:=intOf<|(El rcs 7 i)[5]?.getD<|.int .i64 0
theorem K3{a b c d e f:Value}{z:Int}(h:El rcs 7 i=[a,b,c,d,e,vi z,f]):rootOf rcs i=z:=by unfold rootOf;rw[h];rfl
abbrev gV(ra:Option Addr)(rn rc:Nat)(na:Option Addr)(nn nc:Nat):Value:=.agg ⟨[.slice ra rn rc,.slice na nn nc]⟩
def zf(F:Nat->Prop)(H:ag)(rn:Nat)(rcs:List Value)(nn:Nat)(eG:List Value):Prop:=(∀i,i<nn->ZA F H i (El eG 5 i))/\∀i,i<rn->0<=rootOf rcs i/\rootOf rcs i<nn
theorem Ji(hw:Wf H){rn:Nat}(hG:Gr b H ra rn rcs na nn eG):az Pg X 183 [gV ra rn rc na nn nc] H (Q1 (λv _=>∃t:Bool,v=.bool t/\(t=true->zf (b<=·) H rn rcs nn eG)) H):=by
 obtain⟨g1,g2,g3,g4,g5,g6⟩:=hG;have hS:=SH.refl hw;refine ce [0,1,2,3,4,6,8,10,11,12,25,26,27,41,42,43] ?_;refine tl ?_;refine hS.box rfl λH1 rg hS=>?_
 repeat(first|(refine hS.aY ?_)|(refine hS.dQ ?_))
 refine lp8 2 3 4 6 12 25 26 27 (I:=λm x2 x3 x4 x6 gK x25 x26 x27 H'=>∃i:Nat,x2=.bool false/\gK=vn i/\i+m=nn/\(∀j,j<i->ZA (b<=·) H j (El eG 5 j))/\SH [] H H' [(rg,69,[.slice ra rn rc,.slice na nn nc])]) ?_ nn ⟨0,rfl,rfl,aa,λj h=>absurd h aa,hS⟩;clear hS;rintro m x2 x3 x4 x6 gK x25 x26 x27 l7 H2 ⟨i,rfl,rfl,him,hdone,hS⟩;refine tl ?_;refine aF ?_;refine ah (λhc=>?_) λhc=>?_
 .have hin:i<nn:=by omega
  obtain⟨r,o,e,hr,hrd,hel,o0,_⟩:=g4.1.read aa hin nc;rw[e];refine aF ?_;obtain⟨kd,ka,kn,kc,ks,t,rs,at',he,hk1,hk2,hk3,hk4,hk5⟩:=g6 i hin;obtain⟨xa,xn,xc,xcs,rfl,hk6⟩:=id hk5;rw[he]at hrd;refine hS.xZ hrd hr ?_;refine hS.mO rfl rfl rfl λH3 rn' hS hx3=>?_;have hS:SH [] H H3 [(rn',145,[vi kd,.slice ka kn kc,.string t,.slice xa xn xc,vi at']),(rg,69,[.slice ra rn rc,.slice na nn nc])]:=hS
  repeat(first|(refine hS.aY ?_)|(refine hS.dQ ?_))
  refine az.mono (Vv kd kn) ?_;rintro v H4 ⟨⟨t1,rfl,ht1⟩,rfl⟩;refine hS.aY ?_;refine bO (λhb=>?_) λhb=>?_
  .refine rr ?_;refine⟨⟨false,rfl,λh=>by cases h⟩,hS.ext⟩
  have hfit:=ht1 (by cases t1 with
   |true=>rfl
   |false=>cases hb)
  refine hS.dQ ?_;refine hS.aY ?_;refine Vg 2 6 27 (I:=λm x2 x6 x27 H'=>∃k:Nat,x2=.bool false/\x27=vn k/\k+m=kn/\(∀j(h:j<ks.length),j<k->∃z:Nat,ks[j]=vn z/\z<i)/\SH [] H H' [(rn',145,[vi kd,.slice ka kn kc,.string t,.slice xa xn xc,vi at']),(rg,69,[.slice ra rn rc,.slice na nn nc])]) ?_ kn ⟨0,rfl,rfl,aa,λj h h'=>absurd h' aa,hS⟩;clear hS;rintro m' x2 x6 x27 l7 H5 ⟨k,rfl,rfl,hkm,hkd,hS⟩;refine tl ?_;refine aF ?_;refine ah (λhc=>?_) λhc=>?_
  .have hkn:k<kn:=by omega
   obtain⟨r',o',hl,e',hr',Jj⟩:=hk1.1.Wd hkn kc;rw[e'];refine aF ?_;obtain⟨z,hz⟩:=hk3 _<|bF hl;rw[hz]at Jj;refine hS.E8 Jj hr' ?_;refine aF ?_;refine ah (λhc2=>?_) λhc2=>?_
   .refine rr ?_;exact⟨⟨false,rfl,λh=>by cases h⟩,hS.ext⟩
   refine ah (λhc3=>?_) λhc3=>?_
   .refine rr ?_;exact⟨⟨false,rfl,λh=>by cases h⟩,hS.ext⟩
   refine bE ?_;refine⟨kn-(k+1),aa,_,_,_,_,_,rfl,k+1,rfl,uN,aa,λj hj hjk=>?_,hS⟩;rcases aN j k with h|h
   .exact hkd j hj h
   .obtain rfl:j=k:=by omega
    exact⟨z.toNat,by rw[hz];congr 1;omega,aa⟩
  refine tl ?_;refine aF ?_;refine bE ?_;refine⟨nn-(i+1),aa,_,_,_,_,_,_,_,_,_,_,rfl,i+1,rfl,uN,aa,λj hj=>?_,SH.drop (A:=[_]) hS⟩;rcases aN j i with h|h
  .exact hdone j h
  .obtain rfl:j=i:=by omega
   refine⟨kd,ka,kn,kc,ks,t,xa,xn,xc,at',he,hk2,hk4,hk1,hfit,λx hx=>?_⟩;obtain⟨j',hj',rfl⟩:=fD hx;exact hkd j' hj' (by have:=hk1.1.1;omega)
 have hin:i=nn:=by omega
 subst hin;refine tl ?_
 repeat(first|(refine hS.aY ?_)|(refine hS.dQ ?_))
 refine Vg 2 8 43 (I:=λm x2 x8 x43 H'=>∃k:Nat,x2=.bool false/\x43=vn k/\k+m=rn/\(∀j,j<k->0<=rootOf rcs j/\rootOf rcs j<i)/\SH [] H H' [(rg,69,[.slice ra rn rc,.slice na i nc])]) ?_ rn ⟨0,rfl,rfl,aa,λj h=>absurd h aa,hS⟩;clear hS;rintro m' x2 x8 x43 l7 H5 ⟨k,rfl,rfl,hkm,hkd,hS⟩;refine tl ?_;refine aF ?_;refine ah (λhc=>?_) λhc=>?_
 .have hkn:k<rn:=by omega
  obtain⟨r,o,e,hr,hrd,hel,o0,_⟩:=g1.1.read aa hkn rc;rw[e];refine aF ?_;obtain⟨nm,u,f,w,ch,root,at',he,hnm⟩:=g3 k hkn;rw[he]at hrd;refine hS.xZ hrd hr ?_;refine hS.mO rfl rfl rfl λH3 ru hS hx3=>?_;have hS:SH [] H H3 [(ru,141,sZ nm u f w ch root at'),(rg,69,[.slice ra rn rc,.slice na i nc])]:=hS
  repeat(first|(refine hS.aY ?_)|(refine hS.dQ ?_))
  refine ah (λhc2=>?_) λhc2=>?_
  .refine rr ?_;exact⟨⟨false,rfl,λh=>by cases h⟩,hS.ext⟩
  refine hS.dQ ?_;refine hS.dQ ?_;refine hS.aY ?_;refine ah (λhc3=>?_) λhc3=>?_
  .refine rr ?_;exact⟨⟨false,rfl,λh=>by cases h⟩,hS.ext⟩
  refine bE ?_;refine⟨rn-(k+1),aa,_,_,_,_,_,rfl,k+1,rfl,uN,aa,λj hjk=>?_,SH.drop (A:=[_]) hS⟩;rcases aN j k with h|h
  .exact hkd j h
  .obtain rfl:j=k:=by omega
   rw[K3 he];omega
 refine tl ?_;refine rr ?_;exact⟨⟨true,rfl,λ_=>⟨λj hj=>hdone j hj,λj hj=>hkd j aa⟩⟩,hS.ext⟩
theorem Gr.ru{rn:Nat}(hG:Gr b H ra rn rcs na nn eG)(hi:i<rn)(c:Nat):∃(r o:Nat)(nm:ByteArray)(u f w:Bool)(ch at':Int),zH 7 (.slice ra rn c) (vn i)=some (.pointer<|some ⟨r,o,none⟩)/\r<H.next/\H.read r o 7=some (sZ nm u f w ch (rootOf rcs i) at')/\(∀f' x,f'<7->(sZ nm u f w ch (rootOf rcs i) at')[f']?=some x->H.cell r (o+f')=some x)/\nm.size<=1000000/\El rcs 7 i=sZ nm u f w ch (rootOf rcs i) at':=by
 obtain⟨g1,g2,g3,g4,g5,g6⟩:=hG;obtain⟨r,o,e,hr,hrd,hel,o0,e0,ho⟩:=g1.1.read aa hi c;obtain⟨r',o',e',hr',hcl,_⟩:=g1.1.idx (c:=c) aa hi;rw[e]at e';cases e';obtain⟨nm,u,f,w,ch,root,at',he,hnm⟩:=g3 i hi;rw[K3 he];have he:El rcs 7 i=sZ nm u f w ch root at':=he;refine⟨r,o,nm,u,f,w,ch,at',e,hr,he▸hrd,λf' x hf hx=>hcl f' x hf ?_,hnm,he⟩;rw[<-he,j4,if_pos hf]at hx;exact hx
theorem Gr.no{rn:Nat}(hG:Gr b H ra rn rcs na nn eG)(hi:i<nn)(c:Nat)(hl:El eG 5 i=l):∃(r o:Nat),zH 5 (.slice na nn c) (vn i)=some (.pointer<|some ⟨r,o,none⟩)/\r<H.next/\H.read r o 5=some l/\∀f' x,f'<5->l[f']?=some x->H.cell r (o+f')=some x:=by
 obtain⟨g1,g2,g3,g4,g5,g6⟩:=hG;obtain⟨r,o,e,hr,hrd,hel,o0,e0,ho⟩:=g4.1.read aa hi c;obtain⟨r',o',e',hr',hcl,_⟩:=g4.1.idx (c:=c) aa hi;rw[e]at e';cases e';refine⟨r,o,e,hr,hl▸hrd,λf' x hf hx=>hcl f' x hf ?_⟩;rw[<-hl,j4,if_pos hf]at hx;exact hx
theorem Fl.uniq(h:Fl H a n es cs)(h':Fl H a n es cs'):cs=cs':=by
 apply qi<|h.1.trans h'.1.symm;intro i h1 h2;obtain⟨r,o,e,_,hc⟩:=h.2 i _<|ae h1;obtain⟨r',o',e',_,hc'⟩:=h'.2 i _<|ae h2;rw[e]at e';cases e';rw[hc]at hc';exact bN hc'
theorem ZA.back(hn:NoC F H l)(hx:Ext H H')(h:ZA F H' i l):ZA F H i l:=by
 obtain⟨kd,a,n,c,ks,t,rs,at',e,h1,h2,h3,h4,h5⟩:=hn;obtain⟨kd',a',n',c',ks',t',xa,xn,xc,Pe,e',g1,g2,g3,g4,g5⟩:=h;rw[e]at e';cases e';have:=Fl.uniq (h1.ex hx).1 g3.1;subst this;exact⟨kd,a,n,c,ks,t,xa,xn,xc,at',e,g1,g2,h1,g4,g5⟩
theorem ZA.ex(hx:Ext H H')(h:ZA F H i l):ZA F H' i l:=by
 obtain⟨kd',a',n',c',ks',t',xa,xn,xc,Pe,e',g1,g2,g3,g4,g5⟩:=h;exact⟨kd',a',n',c',ks',t',xa,xn,xc,Pe,e',g1,g2,g3.ex hx,g4,g5⟩
theorem Gr.ex{rn:Nat}(hG:Gr b H ra rn rcs na nn eG)(hx:Ext H H'):Gr b H' ra rn rcs na nn eG:=by
 obtain⟨g1,g2,g3,g4,g5,g6⟩:=hG;exact⟨g1.ex hx,g2,g3,g4.ex hx,g5,λi hi=>(g6 i hi).st hx λ_ h=>nomatch h⟩
theorem zf.back{rn:Nat}(hG:Gr b H ra rn rcs na nn eG)(hx:Ext H H')(h:zf (b<=·) H' rn rcs nn eG):zf (b<=·) H rn rcs nn eG:=
 ⟨λi hi=>(h.1 i hi).back (hG.2.2.2.2.2 i hi) hx,h.2⟩
def Jk(F:Nat->Prop)(H:ag)(rn:Nat)(rcs:List Value)(nn:Nat)(eG:List Value):Prop:=zf F H rn rcs nn eG/\1<=rn/\∀i,i+1<rn->rootOf rcs i<rootOf rcs (i+1)
theorem Ry(hw:Wf H){rn:Nat}(hG:Gr b H ra rn rcs na nn eG):az Pg X 149 [gV ra rn rc na nn nc] H (Q1 (λv _=>∃t:Bool,v=.bool t/\(t=true->Jk (b<=·) H rn rcs nn eG)) H):=by
 have hS:=SH.refl hw;have g2:=hG.2.1;refine ce [0,1,2,3] ?_;refine tl ?_;refine hS.box rfl λH1 rg hS=>?_
 repeat(first|(refine hS.aY ?_)|(refine hS.dQ ?_))
 refine ah (λhc=>?_) λhc=>?_
 .refine rr ?_;exact⟨⟨false,rfl,λh=>by cases h⟩,hS.ext⟩
 refine hS.eU ?_;have hx1:=hS.ext;refine az.mono (Ji hS.wf<|hG.ex hx1) ?_;rintro v H2 ⟨⟨t,rfl,ht⟩,hx⟩;have hS:=hS.call hx;refine aF ?_;refine bO (λhb=>?_) λhb=>?_
 .refine rr ?_;exact⟨⟨false,rfl,λh=>by cases h⟩,hS.ext⟩
 have hR:=zf.back hG hx1 (ht (by cases t with
  |true=>rfl
  |false=>cases hb))
 refine tl ?_;refine lp2 2 3 (I:=λm x2 x3 H'=>∃i:Nat,x2=.bool false/\x3=vn i/\1<=i/\i+m=rn/\(∀j,j+1<i->rootOf rcs j<rootOf rcs (j+1))/\SH [] H H' [(rg,69,[.slice ra rn rc,.slice na nn nc])]) ?_ (rn-1) ⟨1,rfl,rfl,aa,aa,λj h=>absurd h aa,hS⟩;clear hS;rintro m x2 x3 l7 H2 ⟨i,rfl,rfl,hi1,him,hr,hS⟩;refine tl ?_
 repeat(first|(refine hS.aY ?_)|(refine hS.dQ ?_))
 refine ah (λhc=>?_) λhc=>?_
 .obtain⟨r1,o1,tQ,u1,f1,w1,c1,a1,e1,hl1,xw,qP,_,_⟩:=hG.ru (i:=i) aa rc;obtain⟨r2,o2,nm2,u2,f2,w2,c2,a2,e2,hl2,Vw,uI,_,_⟩:=hG.ru (i:=i-1) aa rc;refine hS.kI ?_;refine hS.aY ?_;rw[e1];refine hS.aY ?_;refine hS.JR (qP 5 _ aa rfl) hl1 ?_
  repeat(first|(refine hS.aY ?_)|(refine hS.kI ?_))
  refine dD ?_;rw[show((i:Int)-1)=((i-1:Nat):Int) by omega,e2];refine hS.aY ?_;refine hS.JR (uI 5 _ aa rfl) hl2 ?_;refine hS.aY ?_;refine wS ?_;refine ah (λhc2=>?_) λhc2=>?_
  .refine rr ?_;exact⟨⟨false,rfl,λh=>by cases h⟩,hS.ext⟩
  refine bE ?_;refine⟨rn-(i+1),aa,_,_,_,_,rfl,i+1,rfl,uN,aa,aa,λj hj=>?_,hS⟩;rcases aN (j+1) i with h|h
  .exact hr j h
  .obtain rfl:i=j+1:=by omega
   rw[Nat.add_sub_cancel]at hc2;omega
 refine tl ?_;refine rr ?_;exact⟨⟨true,rfl,λ_=>⟨hR,aa,λj hj=>hr j aa⟩⟩,hS.ext⟩
theorem K4(hw:Wf H){rn:Nat}(hG:Gr b H ra rn rcs na nn eG)(hi:i<rn)(hB:∀j,j<rn->0<=rootOf rcs j/\rootOf rcs j<nn):az Pg X 151 [gV ra rn rc na nn nc,vn i] H (Q1 (λv _=>∃k:Nat,v=vn k/\k<=nn) H):=by
 have hS:=SH.refl hw;have g2:=hG.2.1;have g5:=hG.2.2.2.2.1;refine ce [0,1,2,4] ?_;refine tl ?_;refine hS.box rfl λH1 rg hS=>?_;refine hS.aY ?_;refine ah (λhc=>?_) λhc=>?_
 .refine rr ?_;exact⟨⟨0,rfl,aa⟩,hS.ext⟩
 refine hS.dQ ?_;obtain⟨r2,o2,nm2,u2,f2,w2,c2,a2,e2,hl2,Vw,uI,_,_⟩:=hG.ru (i:=i-1) aa rc;refine dD ?_;rw[show((i:Int)-1)=((i-1:Nat):Int) by omega,e2];refine hS.aY ?_;refine hS.E8 (uI 5 _ aa rfl) hl2 ?_;have hb:=hB (i-1) aa;refine bE ?_;refine rr ?_;exact⟨⟨(rootOf rcs (i-1)+1).toNat,by show vi _=vi (((rootOf rcs (i-1)+1).toNat:Nat):Int);rw[Int.toNat_of_nonneg aa],aa⟩,hS.ext⟩
end
section
variable{S:List Nat}{F:Nat->Prop}
abbrev Vx(m:List<|ByteArray×Value):List (Value×Value):=m.map λp=>(.string p.1,p.2)
def qx(H:ag)(r:Nat)(m:List<|ByteArray×Value):Prop:=r<H.next/\H.obj r=.map (Vx m)
theorem qx.ex(h:qx H r m)(hx:qU S H H')(hr:r∉S):qx H' r m:=⟨aH h.1 hx.next,(hx.obj r h.1 hr).trans h.2⟩
theorem _root_.Go.Ae.SH.Dm(hS:SH S H0 H L)(h:qx H r m):r∉L.map (·.1):=λhr=>by
 obtain⟨e,he,rfl⟩:=aZ.1 hr;obtain⟨R,h1,_⟩:=hS.bk e he;rw[h.2]at h1;cases h1
theorem ZB{a b:ByteArray}(h:nT a b=true):a=b:=by
 rw[wL]at h;have h:=eq_of_beq h;rw[ByteArray.toList_eq,ByteArray.toList_eq]at h;exact pR<|fJ.1 h
theorem Dn(a:ByteArray):nT a a=true:=by rw[wL];exact beq_self_eq_true _
theorem K5(ht:∀a b,nH Pg t (.string a) (.string b)=some (nT a b))(k:ByteArray):∀(m:List<|ByteArray×Value)(i:Nat),∃f:Option<|Nat×Value,uS Pg t (.string k) (Vx m) i=some f/\(∀j v,f=some (j,v)->i<=j/\m[j-i]?=some (k,v))/\(f=none->∀p∈m,p.1≠k):=by
 intro m
 induction m with
 |nil=>exactλi=>⟨none,rfl,λj v h=>by(cases h),λ_ p h=>nomatch h⟩
 |cons p m ih=>
  intro i;show∃f,(ax (nH Pg t (.string k)<|.string p.1) λb=>aU b (some<|some (i,p.2))<|uS Pg t (.string k) (Vx m)<|Nat.succ i)=some f/\_;rw[ht];cases hb:nT k p.1 with
  |true=>
   have:=ZB hb;refine⟨some (i,p.2),rfl,λj v h=>?_,λh=>by cases h⟩;cases h;exact⟨aj _,by rw[dY,this];rfl⟩
  |false=>
   obtain⟨f,h1,h2,h3⟩:=ih<|Nat.succ i;refine⟨f,h1,λj v h=>?_,λh q hq=>?_⟩
   .obtain⟨g1,g2⟩:=h2 j v h;refine⟨aa,?_⟩;rw[show j-i=(j-i.succ)+1 by omega];exact g2
   .rcases bP.1 hq with rfl|hq
    .intro e;rw[<-e,Dn]at hb;cases hb
    .exact h3 h q hq
theorem ME.look{z:Value}{ok:Bool}(hm:qx H r m)(h1:zD Pg t=some (kt,vt))(h2:Cb Pg vt=some z)(h3:∀a b,nH Pg kt (.string a) (.string b)=some (nT a b))(kk:∀f:Option Value,(∀v,f=some v->(k,v)∈m)->(f=none->∀p∈m,p.1≠k)->K (okd ok (f.getD z) f.isSome H).1 H):ME (uK Pg t (.map<|some r) (.string k) ok H) K:=by
 obtain⟨f,e,g1,g2⟩:=K5 h3 k m 0
 have hk:DI Pg kt (.string k)=some ():=by
  show ax (nH Pg kt (.string k)<|.string k) _=_;rw[h3,Dn];rfl
 have hmo:mapOf H (.map<|some r)=some (Vx m):=by
  show Nr (H.obj r)=_;rw[hm.2];rfl
 have:uK Pg t (.map<|some r) (.string k) ok H=some (okd ok ((f.map (·.2)).getD z) (f.map (·.2)).isSome H):=by
  show(ax (zD Pg t) λq=>ax (Cb Pg q.2) λz=>ax (mapOf H<|.map<|some r) λes=>ax (DI Pg q.1<|.string k) λ_=>ax (uS Pg q.1 (.string k) es 0) λf=>_)=_;rw[h1];show(ax (Cb Pg vt) λz=>ax (mapOf H<|.map<|some r) λes=>ax (DI Pg kt<|.string k) λ_=>ax (uS Pg kt (.string k) es 0) λf=>_)=_;rw[h2,hmo,hk];show ax (uS Pg kt (.string k) (Vx m) 0) _=_;rw[e];cases f<;>rfl
 have hK:=kk (f.map (·.2)) (λv h=>?_) λh=>?_
 .rw[this];cases ok<;>exact ME.of rfl hK
 .cases f with
  |none=>cases h
  |some p=>cases h;exact aA (g1 p.1 p.2 rfl).2
 .cases f with
  |none=>exact g2 rfl
  |some p=>cases h
theorem _root_.Go.Ae.SH.upd(hS:SH S H0 H L)(hr:r∈S\/H0.next<=r)(hm:qx H r m)(h1:zD Pg t=some (kt,vt))(h3:∀a b,nH Pg kt (.string a) (.string b)=some (nT a b))(kk:∀H' m',qx H' r m'->(∀p∈m',p∈m\/p=(k,v))->(∀p,p∈m\/p=(k,v)->∃q∈m',q.1=p.1)->SH S H0 H' L->K undef H'):ME (oU Pg t (.map<|some r) (.string k) v H) K:=by
 obtain⟨f,e,g1,g2⟩:=K5 h3 k m 0
 have hk:DI Pg kt (.string k)=some ():=by
  show ax (nH Pg kt (.string k)<|.string k) _=_;rw[h3,Dn];rfl
 have key:∃m',(∀p∈m',p∈m\/p=(k,v))/\(∀p,p∈m\/p=(k,v)->∃q∈m',q.1=p.1)/\oU Pg t (.map<|some r) (.string k) v H=some (undef,H.put r<|.map<|Vx m'):=by
  have:oU Pg t (.map<|some r) (.string k) v H=@Option.rec (Nat×Value) (λ_=>Option<|Value×ag) (some (undef,H.put r<|.map<|app (Vx m) [(.string k,v)])) (λp=>some (undef,H.put r<|.map<|setAt (.string k,v) p.1<|Vx m)) f:=by
   show(ax (zD Pg t) λq=>ax (Nr<|H.obj r) λes=>ax (DI Pg q.1<|.string k) λ_=>ax (uS Pg q.1 (.string k) es 0) λf=>_)=_;rw[h1];show(ax (Nr<|H.obj r) λes=>ax (DI Pg kt<|.string k) λ_=>ax (uS Pg kt (.string k) es 0) λf=>_)=_;rw[hm.2,hk];show ax (uS Pg kt (.string k) (Vx m) 0) _=_;rw[e];rfl
  rw[this];cases f with
  |none=>
   refine⟨m++[(k,v)],λp hp=>?_,λp hp=>⟨p,by simpa using hp,rfl⟩,?_⟩
   .rcases bX.1 hp with h|h
    .exact .inl h
    .exact .inr (by simpa using h)
   .show some (undef,H.put r<|.map<|app (Vx m) [(.string k,v)])=_;rw[nY];simp[Vx]
  |some q=>
   refine⟨m.set q.1 (k,v),λp hp=>?_,λp hp=>?_,?_⟩
   .rcases kF hp with h|h
    .exact .inl h
    .exact .inr h
   .obtain⟨h1,h2⟩:=aL.1 (g1 q.1 q.2 rfl).2;have hk2:∃x∈m.set q.1 (k,v),x.1=k:=⟨(k,v),aA (i:=q.1)<|by rw[bV,if_pos rfl,if_pos (show q.1<m.length from h1)],rfl⟩;rcases hp with hp|rfl
    .obtain⟨j,hj,rfl⟩:=fD hp;rcases fu (q.1=j)with e|e
     .subst e;obtain⟨x,h3,h4⟩:=hk2;exact⟨x,h3,h4.trans (bW (·.1) h2).symm⟩
     .exact⟨m[j],aA (i:=j) (by rw[bV,if_neg e];exact ae hj),rfl⟩
    .exact hk2
   .show some (undef,H.put r<|.map<|setAt (.string k,v) q.1<|Vx m)=_;rw[zX];simp[Vx,jH]
 obtain⟨m',hm',hm2,e'⟩:=key;refine ME.of e'<|kk _ m' ⟨hm.1,by rw[xY,if_pos rfl]⟩ hm' hm2 ?_;have hn:=SH.Dm hS hm;refine⟨qU.later hS.ext (qU.put H r _) (λq hq=>by rw[aO]at hq;subst hq;exact hr),λe he=>(hS.bk e he).mR ?_,hS.lo,hS.ne,?_⟩
 .rw[xY,if_neg λh=>hn (by rw[<-h];exact aZ.2 ⟨e,he,rfl⟩)]
 .rw[sD];have:=hS.wf;show min H.low r<=H.next
  omega
theorem ME.mkMap{q:TypeId×TypeId}{n:Int}(hS:SH S H0 H L)(h1:zD Pg t=some q)(kk:∀H' r,qx H' r []->Ext H H'->H.next<=r->SH S H0 H' L->K (.map<|some r) H'):ME (si Pg t (some<|vi n) H) K:=by
 refine ME.of (v:=.map<|some H.next) (H:=H.new<|.map []) ?_<|kk _ _ ⟨bL _,by rw[wO,if_pos rfl];rfl⟩ (Ext.new _ _) (aj _)<|hS.call<|Ext.new _ _;show ax (zD Pg t) _=_;rw[h1];rfl
theorem ME.Ph{z:Value}(hm:qx H r m)(h1:zD Pg t=some (kt,vt))(h2:Cb Pg vt=some z)(h3:∀a b,nH Pg kt (.string a) (.string b)=some (nT a b))(kk:∀f:Option Value,(∀v,f=some v->(k,v)∈m)->(f=none->∀p∈m,p.1≠k)->K (.tuple ⟨[f.getD z,.bool f.isSome]⟩) H):ME (uK Pg t (.map<|some r) (.string k) true H) K:=ME.look hm h1 h2 h3 kk
theorem ME.adj{z:Value}(hm:qx H r m)(h1:zD Pg t=some (kt,vt))(h2:Cb Pg vt=some z)(h3:∀a b,nH Pg kt (.string a) (.string b)=some (nT a b))(kk:∀f:Option Value,(∀v,f=some v->(k,v)∈m)->(f=none->∀p∈m,p.1≠k)->K (f.getD z) H):ME (uK Pg t (.map<|some r) (.string k) false H) K:=ME.look hm h1 h2 h3 kk
theorem zg:zD Pg 143=some (9,3):=by kernel_rfl
theorem Pj:Cb Pg 3=some (vi 0):=by kernel_rfl
theorem eqS(a b:ByteArray):nH Pg 9 (.string a) (.string b)=some (nT a b):=by kernel_rfl
def MQ(rn:Nat)(m:List<|ByteArray×Value):Prop:=∀p∈m,∃i:Nat,i<rn/\p.2=vn i
theorem Rz(hw:Wf H){rn:Nat}(hG:Gr b H ra rn rcs na nn eG):az Pg X 150 [gV ra rn rc na nn nc] H λv H'=>∃r m,v=.map (some r)/\qx H' r m/\MQ rn m/\Ext H H'/\H.next<=r:=by
 have hS:=SH.refl hw;have g2:=hG.2.1;refine ce [0,1,2,3,4,5,7,13,14,15] ?_;refine tl ?_;refine hS.box rfl λH1 rg hS=>?_
 repeat(first|(refine hS.aY ?_)|(refine hS.dQ ?_))
 have hge:=hS.ext.next
 refine ME.mkMap hS zg λH2 r hm hx hr hS=>?_;refine hS.dQ ?_;refine hS.aY ?_;refine PV 4 5 7 15 (I:=λm x4 x5 x7 iL H'=>∃(i:Nat)(mm:List<|ByteArray×Value),iL=vn i/\i+m=rn/\qx H' r mm/\MQ rn mm/\SH [] H H' [(rg,69,[.slice ra rn rc,.slice na nn nc])]) ?_ rn ⟨0,[],rfl,aa,hm,(λp h=>nomatch h),hS⟩;have hrn:H.next<=r:=by omega
 clear hS hm;rintro m x4 x5 x7 iL l7 H3 ⟨i,mm,rfl,him,hm,hnm,hS⟩;refine tl ?_;refine aF ?_;refine ah (λhc=>?_) λhc=>?_
 .obtain⟨r1,o1,tQ,u1,f1,w1,c1,a1,e1,hl1,xw,qP,hsz,_⟩:=hG.ru (i:=i) aa rc;rw[e1];refine aF ?_;refine hS.xZ xw hl1 ?_;refine hS.mO rfl rfl rfl λH4 ru hS hx4=>?_;have hm:=hm.ex hx4 λh=>nomatch h;have hS:SH [] H H4 [(ru,141,sZ tQ u1 f1 w1 c1 (rootOf rcs i) a1),(rg,69,[.slice ra rn rc,.slice na nn nc])]:=hS;refine hS.aY ?_;refine hS.dQ ?_;refine ME.Ph hm zg Pj eqS λf hf hn=>?_;refine hS.aY ?_
  have next:∀x(H5:ag) We xD,qx H5 r We->MQ rn We->SH [] H H5 [(ru,141,sZ tQ u1 f1 w1 c1 (rootOf rcs i) a1),(rg,69,[.slice ra rn rc,.slice na nn nc])]->∃m_1,m_1<m/\AF (gV ra rn rc na nn nc) (.pointer<|some ⟨rg,0,none⟩) (.map none) (.map<|some r) (.slice ra rn rc) (vn rn) (λm x4 x5 x7 iL H'=>∃(i:Nat)(mm:List<|ByteArray×Value),iL=vn i/\i+m=rn/\qx H' r mm/\MQ rn mm/\SH [] H H' [(rg,69,[.slice ra rn rc,.slice na nn nc])]) m_1 (AB (gV ra rn rc na nn nc) (.pointer<|some ⟨rg,0,none⟩) (.map none) (.map<|some r) (vn i) (.pointer<|some ⟨ru,0,none⟩) x (.slice ra rn rc) (vn rn) (vi<|(i:Int)+1) xD H5):=by
   intro x H5 We xD h1 h2 h3;exact⟨rn-(i+1),aa,_,_,_,_,_,_,rfl,i+1,We,uN,aa,h1,h2,SH.drop (A:=[_]) h3⟩
  refine bO (λhb=>?_) λhb=>?_
  .refine hS.dQ ?_;refine hS.upd (.inr hrn) hm zg eqS λH5 We hm' hmm _ hS=>?_;refine bE ?_;refine next _ _ _ _ hm' (λp hp=>?_) hS
   rcases hmm p hp with h|rfl
   .exact hnm p h
   .exact⟨i,aa,rfl⟩
  .refine bE ?_;exact next _ _ _ _ hm hnm hS
 refine tl ?_;refine rr ?_;exact⟨r,mm,rfl,hm,hnm,hS.ext,hrn⟩
end
section
variable{S:List Nat}{F:Nat->Prop}
theorem RA(hw:Wf H){rn:Nat}(hG:Gr b H ra rn rcs na nn eG)(hm:qx H r m)(hnm:MQ rn m){w:Bool}{at' kd at2:Int}{n2 c2:Nat}{t:ByteArray}:
 az Pg X 152 [gV ra rn rc na nn nc,.map<|some r,.agg ⟨sZ nm u f w ch root at'⟩,.agg ⟨[vi kd,.slice a n c,.string t,.slice a2 n2 c2,vi at2]⟩] H (Q1 (λv _=>∃z:Int,v=vi z) H):=by
 have hS:=SH.refl hw;have g2:=hG.2.1;refine ce [0,1,2,3,4,6,7,8,9,10,11,13] ?_;refine tl ?_;refine hS.box rfl λH1 rg hS=>?_;refine hS.box rfl λH1 rr hS=>?_;refine hS.box rfl λH1 rn' hS=>?_
 repeat(first|(refine hS.aY ?_)|(refine hS.dQ ?_))
 refine ah (λhc=>?_) λhc=>?_
 .refine hS.dQ ?_;refine hS.aY ?_;refine bO (λhb=>?_) λhb=>?_
  .refine Lu.rr ?_;exact⟨⟨_,rfl⟩,hS.ext⟩
  .refine Lu.rr ?_;exact⟨⟨_,rfl⟩,hS.ext⟩
 refine ah (λhc=>?_) λhc=>?_;rotate_left
 .refine Lu.rr ?_;exact⟨⟨_,rfl⟩,hS.ext⟩
 refine hS.dQ ?_;have hm1:=hm.ex hS.ext λh=>nomatch h;refine ME.Ph hm1 zg Pj eqS λf' hf hn=>?_;refine hS.aY ?_;refine bO (λhb=>?_) λhb=>?_
 .refine Lu.rr ?_;exact⟨⟨_,rfl⟩,hS.ext⟩
 cases f' with
 |none=>cases hb
 |some v=>
  obtain⟨i,hi,hv⟩:=hnm _<|hf v rfl;have hv:v=vn i:=hv;subst hv;obtain⟨r1,o1,tQ,u1,f1,w1,c1,a1,e1,hl1,xw,qP,hsz,_⟩:=hG.ru (i:=i) hi rc;simp only[kM];refine hS.dQ ?_;rw[e1];refine hS.aY ?_;refine hS.xZ xw hl1 ?_;refine hS.mO rfl rfl rfl λH4 ru hS hx4=>?_;have hS:SH [] H H4 [(ru,141,sZ tQ u1 f1 w1 c1 (rootOf rcs i) a1),(rn',145,[vi kd,.slice a n c,.string t,.slice a2 n2 c2,vi at2]),(rr,141,sZ nm u f w ch root at'),(rg,69,[.slice ra rn rc,.slice na nn nc])]:=hS
  repeat' (first|(refine Lu.rr ?_;exact⟨⟨_,rfl⟩,hS.ext⟩)|(refine ah (λhc=>?_) λhc=>?_)|(refine bO (λhb=>?_) λhb=>?_)|first|(refine hS.aY ?_)|(refine PU.b1 rfl ?_)|(refine PU.b2 rfl ?_)|(refine PU.b3 rfl ?_)|(refine PU.b4 rfl ?_)|(refine PU.b5 rfl ?_)|(refine PU.b6 rfl ?_)|(refine PU.b7 rfl ?_)|(refine PU.b8 rfl ?_)|(refine PU.b9 rfl ?_)|(refine hS.dQ ?_)|(refine hS.eU ?_)|(refine hS.kI ?_)|(refine hS.nN ?_)|(refine hS.kJ λHn hS=>?_)|(refine hS.qJ λHn hS=>?_)|(refine wS ?_))
end
section
variable{S:List Nat}{F:Nat->Prop}
theorem RB(hn:n<=1000000)(hB:Nm Q r ty n H0 H L):az Pg X 55 [sl r n c] H λv H'=>Nm Q r ty n H0 H' L:=by
 refine ce [0,2] ?_;refine tl ?_;refine aF ?_;rw[qI (u64_in aa)];refine az.mono (AX _ aa aa) ?_;rintro v H' ⟨⟨l,rfl,h1,_⟩,rfl⟩;refine az.mono (Zi hn _ H0 H' L hB 0 n l aa aa aa aa aa<|aj _) ?_;intro v H1 hB;refine rn ?_;exact hB
theorem Pk(v:Value):az Pg X 129 [v,vi 0,vi 0] H λ_ H'=>H'=H:=by
 refine ce [0,1,2,6,7] ?_;refine tl ?_;refine bE ?_;refine lp2 6 7 (I:=λm x8 x9 H'=>x8=vi 1/\H'=H) ?_ 0 ⟨rfl,rfl⟩;rintro m x8 x9 rg H' ⟨rfl,rfl⟩;refine tl ?_;refine aF ?_;rw[bM aa];refine aF ?_;refine rn ?_;exact rfl
theorem agL(v l:Value):az Pg X 95 [v,vi 0,vi 0,l] H λ_ H'=>H'=H:=by
 refine ce [0,1,2,3,8,9,10,11,12,13,14,15,16,17,18] ?_;refine tl ?_;refine abx 1 2 3 8 9 10 11 12 13 14 15 16 17 18 (I:=λk x1 x2 x3 x8 x9 dR fC gK gq lu iL jU qV qf H'=>x1=vi 0/\x2=vi 0/\H'=H) ?_ 0 ⟨rfl,rfl,rfl⟩;rintro k x1 x2 x3 x8 x9 dR fC gK gq lu iL jU qV qf rg H' ⟨rfl,rfl,rfl⟩;refine tl ?_;refine dD ?_;refine aF ?_;rw[aS aa];refine aF ?_;refine az.mono (Pk _) ?_;rintro _ _ rfl;refine rr ?_;exact rfl
theorem aex:az Pg X 55 [.slice none 0 0] H λv H'=>H'=H:=by
 refine ce [0,2] ?_;refine tl ?_;refine aF ?_;rw[qI (u64_in aa)];refine az.mono (AX _ aa aa) ?_;rintro v H' ⟨⟨l,rfl,h1,_⟩,rfl⟩;refine az.mono (agL _ _) ?_;rintro v H1 rfl;refine rn ?_;exact rfl
theorem _root_.Go.Ae.SB.i1N(h:SB (CW Q) r ty 1 n H0 H L)(hz:o<n)(k:∀x,Q x->K (vi x) H):ME (rQ none (.pointer<|some ⟨r,o,none⟩) H) K:=by
 have:=SB.i1 h (z:=(o:Int)) aa aa k
 rwa [show((o:Int).toNat*1)=o by omega]at this
theorem _root_.Go.Ae.SB.Yb(h:SB (CW Q) r ty 1 n H0 H L)(hz:o<n)(k:∀x,Q x->K (vi x) (hN H)):ME (rQ none (.pointer<|some ⟨r,o,none⟩)<|hN H) K:=SB.i1N h.uY hz k
theorem _root_.Go.Ae.SB.iwN(h:SB (CW Q) r ty 1 n H0 H L)(hz:o<n){x:Int}(hx:Q x)(k:∀H1,SB (CW Q) r ty 1 n H0 H1 L->K undef H1):ME (CS 1 (.pointer<|some ⟨r,o,none⟩) (vi x) H) K:=by
 have:=SB.iw h (z:=(o:Int)) aa aa hx k
 rwa [show((o:Int).toNat*1)=o by omega]at this
theorem m_{k:Nat}(h:k<n):zH 1 (.slice (some ⟨r,o,none⟩) n c) (vn k)=some (.pointer<|some ⟨r,o+k,none⟩):=by rw[uB h,bG]
theorem RD(h:w<=n):slA 1 (.slice (some ⟨r,o,none⟩) n<|dV 1) (some<|vn w) none none=some (.slice (some ⟨r,o+w,none⟩) (n-w)<|dV 1):=by rw[Oy h,bG]
theorem _root_.Go.Ae.SB.clr(h:SB (CW Q) r ty 1 n H0 H L)(hw:w<=n)(k:∀H1,SB (CW Q) r ty 1 w H0 H1 L->K (.tuple ⟨[]⟩) H1):ME (clA [.int .i64 0] (.slice (some ⟨r,w,none⟩) (n-w)<|dV 1) H) K:=by
 obtain⟨cs,h1,h2,hS⟩:=h;have hl:(mg [.int .i64 0]<|n-w).length=n-w:=by rw[NH];simp
 obtain⟨H1,e,hS1,_⟩:=hS.yN 0 (r:=r) (o:=w) (vs:=mg [.int .i64 0]<|n-w) rfl aa (by
  rw[pN]
  induction n-w with
  |zero=>rfl
  |succ d ih=>exact ih)
 have:clA [.int .i64 0] (.slice (some ⟨r,w,none⟩) (n-w)<|dV 1) H=some (.tuple ⟨[]⟩,H1):=by
  show(ax (H.write r w<|mg [.int .i64 0]<|n-w) λH'=>some (Value.tuple #[],H'))=_;rw[e];rfl
 refine ME.of this<|k H1 ⟨splice cs w<|mg [.int .i64 0]<|n-w,?_,λj hj=>?_,hS1⟩
 .rw[jr aa];omega
 .have he:El (splice cs w<|mg [.int .i64 0]<|n-w) 1 j=El cs 1 j:=by
   apply eP;intro i;rw[j4,j4,mU aa]
   by_cases hi:i<1
   .rw[if_pos hi,if_pos hi,if_neg aa]
   .rw[if_neg hi,if_neg hi]
  rw[he];exact h2 j aa
theorem _root_.Go.Ae.SB.less(h:SB (CW Q) r ty 1 n H0 H L)(hw:w<=n):SB (CW Q) r ty 1 w H0 H L:=by
 obtain⟨cs,h1,h2,hS⟩:=h;exact⟨cs,aa,λk hk=>h2 k aa,hS⟩
theorem MR(hn:n<=1000000)(hB:Nm Q r ty n H0 H L):az Pg X 57 [sl r n (dV 1)] H λv H'=>∃n',n'<=n/\v=sl r n' (dV 1)/\Nm Q r ty n' H0 H' L:=by
 refine ce [0,2,3,4,5] ?_;refine tl ?_;refine aF ?_;refine ah (λhc=>?_) λhc=>?_
 .refine rr ?_;exact⟨n,aj _,rfl,hB⟩
 refine PV 2 3 4 5 (I:=λm x2 x3 x4 x5 H'=>∃k:Nat,x3=vn k/\1<=k/\k+m=n/\Nm Q r ty n H0 H' L) ?_ (n-1) ⟨1,rfl,aa,aa,hB⟩;clear hB;rintro m x2 x3 x4 x5 rg H1 ⟨k,rfl,hk1,hkm,hB⟩;refine tl ?_;refine aF ?_;refine ah (λhc2=>?_) λhc2=>?_;rotate_left
 .refine tl ?_;refine rr ?_;exact⟨n,aj _,rfl,hB⟩
 refine PU.of (m_ aa) ?_;refine hB.Yb aa λx hx=>?_
 repeat(first|(refine hB.aY ?_)|(with_reducible refine dD ?_)|(with_reducible refine fH ?_)|(with_reducible refine hB.CX aa aa λz hz=>?_)|(refine nO ?_))
 refine ah (λhc3=>?_) λhc3=>?_;rotate_left
 .refine bE ?_;exact⟨n-(k+1),aa,_,_,_,_,_,_,rfl,k+1,uN,aa,aa,hB⟩
 refine PU.of (RD aa) ?_;refine lp2 3 5 (I:=λm' x3 x5 H'=>∃k' k2:Nat,x3=vn k'/\x5=vn k2/\1<=k2/\k'<=k+k2/\k+k2<=n/\k'+1<=k+k2/\k+k2+m'=n/\Nm Q r ty n H0 H' L) ?_ (n-k-1) ⟨k,1,rfl,rfl,aa,aa,aa,aa,aa,hB⟩;clear hB;rintro m' x3 x5 rg H2 ⟨k',k2,rfl,rfl,h1,h2,h3,h4,h5,hB⟩;refine tl ?_;refine aF ?_;refine ah (λhc4=>?_) λhc4=>?_;rotate_left
 .refine tl ?_;refine PU.of (RD aa) ?_;rw[aI];refine hB.clr aa λH3 hB=>?_;refine PU.of (CZ aa) ?_;refine aF ?_;refine rr ?_;exact⟨k',aa,rfl,hB⟩
 refine PU.of (m_ aa) ?_;refine hB.Yb aa λx hx=>?_;refine dD ?_;rw[show((k2:Int)-1)=((k2-1:Nat):Int) by omega];refine PU.of (m_ aa) ?_;simp only[eF hB.wf];refine hB.Yb aa λy hy=>?_;refine aF ?_;refine lN (by simp only[cB];rfl) ?_;simp only[eF hB.wf];refine bq (λV6=>?_) λV6=>?_
 .refine PU.of (m_ aa) ?_;refine hB.i1N aa λx hx=>?_;refine PU.of (m_ aa) ?_;rw[aI];refine hB.iwN aa hx λH3 hB=>?_;refine bE ?_;refine bE ?_;exact⟨m'-1,aa,_,_,_,_,rfl,k'+1,k2+1,by rw[show((k':Int)+1)=((k'+1:Nat):Int) by omega],uN,aa,aa,aa,aa,aa,hB⟩
 .refine bE ?_;exact⟨m'-1,aa,_,_,_,_,rfl,k',k2+1,rfl,uN,aa,aa,aa,aa,aa,hB⟩
theorem ZC:az Pg X 57 [.slice none 0 0] H λv H'=>v=.slice none 0 0/\H'=H:=by
 refine ce [0,2,3,4,5] ?_;refine tl ?_;refine aF ?_;rw[aS aa];refine aF ?_;refine rr ?_;exact⟨rfl,rfl⟩
end
section
variable{S:List Nat}{F:Nat->Prop}
def adk(K:Nat)(Q:Int->Prop)(H:ag)(v:Value):Prop:=∃a n c cs,v=.slice a n c/\Fl H a n 1 cs/\n<=K/\∀x∈cs,∃z:Int,x=vi z/\Q z
def Jl(b K:Nat)(Q:Int->Prop)(H:ag)(v:Value):Prop:=∃a n c cs,v=.slice a n c/\jT (b<=·) 3 H a n 1 cs/\n<=K/\∀x∈cs,∃z:Int,x=vi z/\Q z
theorem Jl.nil(b K:Nat)(Q:Int->Prop)(H:ag):Jl b K Q H (.slice none 0 0):=⟨none,0,0,[],rfl,jT.nil _ _ _ _ _,aM _,λx h=>nomatch h⟩
theorem Gf(hw:Wf H){K:Nat}(hK:K<=1000000)(hv:adk K Q H v):az Pg X 200 [v] H (Q1 (λv H'=>Jl H.next K Q H' v) H):=by
 obtain⟨a,n,c,cs,rfl,hf,hn,hi⟩:=hv;have hS:=SH.refl hw;refine ce [0,2] ?_;refine tl ?_;rw[Am (by kernel_rfl)];refine aF ?_;refine bO (λhb=>?_) λhb=>?_
 .refine rr ?_;exact⟨Jl.nil _ _ _ _,Ext.refl _⟩
 .refine ME.of (ad5 aa) ?_;have hS:=hS.grow 3 [];have hge:=hS.ext.next
  refine hS.QZ aa (.inr ⟨_,rfl⟩) (hf.ex hS.ext) aa λa' c' H1 L' hf' hS'=>?_;refine rr ?_;exact⟨⟨a',n,c',cs,rfl,hf'.le hge,hn,hi⟩,hS'.ext⟩
theorem Nm.nums{K:Nat}(hB:Nm Q r ty n H0 H L)(hn:n<=K)(c:Nat):adk K Q H (sl r n c):=by
 obtain⟨cs,h1,h2,hS⟩:=hB;have hr:=(hS.lo _<|aD ..).2;refine⟨_,n,c,cs.take n,rfl,⟨by rw[eH];omega,λi x hi=>⟨r,0,rfl,hr,?_⟩⟩,hn,λx hx=>?_⟩
 .have hi':i<n:=by
   have:=(aL.1 hi).1;rw[eH]at this;omega
  rw[eB,if_pos hi']at hi;have:=(hS.get 0 rfl).cell hi
  rwa [aI]
 .obtain⟨i,hi,rfl⟩:=fD hx;have hi0:=hi;rw[eH,je aa]at hi;obtain⟨z,e,hq⟩:=h2 i aa;have h1':=j4 cs 1 i 0;rw[if_pos (bL 0),e,bG,bn,ae (show i<cs.length by omega)]at h1';refine⟨z,?_,hq⟩;rw[List.getElem_take];exact(bN h1').symm
theorem Vy{K:Nat}(hK:K<=1000000)(hg:GB 3 1 x ks gb)(hS:SH [] H0 H<|gb++L)(hl:ks.length<=K)(hk:∀x∈ks,∃z:Int,x=vi z/\Q z){Kp:Value->Value->ag->Prop}(kk:∀v2 v H',Jl H0.next K Q H' v->Ext H0 H'->Kp v2 v H'):az Pg X 55 [x] H λv1 H1=>az Pg X 57 [x] H1 λv2 H2=>az Pg X 200 [v2] H2 (Kp v2):=by
 rcases hg with⟨rfl,rfl,rfl⟩|⟨r,n,dH,rfl,hn,rfl⟩
 .refine az.mono aex ?_;rintro _ _ rfl;refine az.mono ZC ?_;rintro _ _ ⟨rfl,rfl⟩;refine az.mono (Gf (Q:=Q) (K:=K) hS.wf hK ⟨none,0,0,[],rfl,Fl.nil _ _ _,aM _,λx h=>nomatch h⟩) ?_;rintro v H1 ⟨⟨a,n,c,cs,rfl,h1,h2⟩,hx⟩;exact kk _ _ _ ⟨a,n,c,cs,rfl,h1.le hS.ext.next,h2⟩ (hS.call hx).ext
 .have hB:Nm Q r 3 n H0 H L:=by
   refine⟨ks++dH,by rw[ay];omega,λk hk'=>?_,hS⟩;have hkl:k<ks.length:=by omega
   obtain⟨z,e,hq⟩:=hk _<|bF hkl;refine⟨z,?_,hq⟩;rw[<-e];unfold El;rw[bG,fA (by rw[ay];omega),jo hkl];rfl
  refine az.mono (RB aa hB) ?_;intro v1 H1 hB;refine az.mono (MR aa hB) ?_;rintro v2 H2 ⟨n',hn',rfl,hB⟩;refine az.mono (Gf hB.wf hK<|Nm.nums hB aa _) ?_;rintro v H3 ⟨⟨a,n,c,cs,rfl,h1,h2⟩,hx⟩;exact kk _ _ _ ⟨a,n,c,cs,rfl,h1.le hB.ext.next,h2⟩ (hB.call hx).ext
abbrev InR(n:Nat)(z:Int):Prop:=0<=z/\z<n
theorem Vz(hw:Wf H){rn:Nat}(hG:Gr b H ra rn rcs na nn eG)(hm:qx H r m)(hnm:MQ rn m)(hi:i<rn)(hB:∀j,j<rn->0<=rootOf rcs j/\rootOf rcs j<nn):
 az Pg X 186 [gV ra rn rc na nn nc,.map<|some r,vn i] H (Q1 (λv H'=>Jl H.next 4001 (InR rn) H' v) H):=by
 have hS:=SH.refl hw;have g2:=hG.2.1;have g5:=hG.2.2.2.2.1;refine ce [0,1,2,3,6,7,8,9,10,11] ?_;refine tl ?_;refine hS.box rfl λH1 rg hS=>?_;refine hS.eU ?_;have hx1:=hS.ext;refine az.mono (K4 hS.wf (hG.ex hx1) hi hB) ?_;rintro v H2 ⟨⟨k0,rfl,hk0⟩,hx⟩;have hS:=hS.call hx;refine V' 7 8 9 10 11 (I:=λm' x7 x8 x9 dR fC H'=>∃(k:Nat)(ks:List Value)(gb:List cz),x8=vn k/\k+m'=4001/\ks.length<=k/\GB 3 1 x7 ks gb/\(∀x∈ks,∃z:Int,x=vi z/\InR rn z)/\SH [] H H' (gb++[(rg,69,[.slice ra rn rc,.slice na nn nc])])) ?_ (4001-k0) ⟨k0,[],[],rfl,aa,aM _,GB.nil _ _,(λx h=>nomatch h),hS⟩;clear hS;rintro m' x7 x8 x9 dR fC l7 H3 ⟨k,ks,gb,rfl,hkm,hkl,hg,hks,hS⟩;refine tl ?_;have hS:=hS.perm au;simp only[a_,bB]at hS;refine hS.aY ?_;refine hS.dQ ?_;obtain⟨r1,o1,tQ,u1,f1,w1,c1,a1,e1,hl1,xw,qP,hsz,_⟩:=hG.ru (i:=i) hi rc;rw[e1];refine hS.aY ?_;refine hS.E8 (qP 5 _ aa rfl) hl1 ?_;have hb:=hB i hi;refine aF ?_;refine ah (λhc=>?_) λhc=>?_;rotate_left
 .refine tl ?_;refine Vy (K:=4001) aa hg (hS.perm<|au (l₁:=[_])) aa hks λv2 v H4 hv hx4=>?_;refine rr ?_;exact⟨hv,hx4⟩
 have hkn:k<nn:=by omega
 refine hS.dQ ?_;obtain⟨kd,ka,kn,kc,ks',t,rs,at',he,hk1,hk2,hk3,hk4,hk5⟩:=hG.2.2.2.2.2 k hkn;obtain⟨xa,xn,xc,xcs,rfl,hk6⟩:=id hk5;obtain⟨r2,o2,e2,hl2,Vw,uI⟩:=hG.no hkn nc he;rw[e2];refine hS.aY ?_;refine hS.xZ Vw hl2 ?_;refine hS.mO rfl rfl rfl λH4 rn' hS hx4=>?_;have hS:SH [] H H4 ((rn',145,[vi kd,.slice ka kn kc,.string t,.slice xa xn xc,vi at'])::(rg,69,[.slice ra rn rc,.slice na nn nc])::gb):=hS
 repeat(first|(refine hS.aY ?_)|(refine hS.dQ ?_))
 have BX:∀x7 x9 dR fC ks gb xD H5,ks.length<=k+1->GB 3 1 x7 ks gb->(∀x∈ks,∃z:Int,x=vi z/\InR rn z)->SH [] H H5 ((rn',145,[vi kd,.slice ka kn kc,.string t,.slice xa xn xc,vi at'])::(rg,69,[.slice ra rn rc,.slice na nn nc])::gb)->∃m_1,m_1<m'/\BU (gV ra rn rc na nn nc) (.map<|some r) (vn i) (.pointer<|some ⟨rg,0,none⟩) (.slice none 0 0) (λm' x7 x8 x9 dR fC H'=>∃(k:Nat)(ks:List Value)(gb:List cz),x8=vn k/\k+m'=4001/\ks.length<=k/\GB 3 1 x7 ks gb/\(∀x∈ks,∃z:Int,x=vi z/\InR rn z)/\SH [] H H' (gb++[(rg,69,[.slice ra rn rc,.slice na nn nc])])) m_1 (Cn (gV ra rn rc na nn nc) (.map<|some r) (vn i) (.pointer<|some ⟨rg,0,none⟩) (.slice none 0 0) x7 (vi<|(k:Int)+1) x9 dR fC xD H5):=by
  intro x7 x9 dR fC ks gb xD H5 h1 h2 h3 h4;exact⟨4001-(k+1),aa,_,_,_,_,_,_,_,rfl,k+1,ks,gb,uN,aa,h1,h2,h3,(SH.drop (A:=[_]) h4).perm<|au (l₁:=[_])⟩
 refine ah (λhc2=>?_) λhc2=>?_;rotate_left
 .refine bE ?_;exact BX _ _ _ _ ks gb _ _ aa hg hks hS
 refine hS.dQ ?_;have hm1:=hm.ex hS.ext λh=>nomatch h;refine ME.Ph hm1 zg Pj eqS λf' hf hn=>?_;refine hS.aY ?_;refine bO (λhb=>?_) λhb=>?_;rotate_left
 .refine bE ?_;exact BX _ _ _ _ ks gb _ _ aa hg hks hS
 cases f' with
 |none=>cases hb
 |some v=>
  obtain⟨z,hz,hv⟩:=hnm _<|hf v rfl;have hv:v=vn z:=hv;subst hv;simp only[kM];have hO:=hS.perm<|au (l₁:=[_,_]);have hO:=hO.own;refine hO.bS rfl rfl rfl aa λH5 rx hS5=>?_;obtain⟨v',H6,gY,e1,hg',wB,_⟩:=hg.app (m:=0) (cx:=1) (L:=[]) (by rw[aQ];exact hS5) aa rfl rfl aa aa;refine ME.of e1 ?_;rw[aQ]at wB;refine bE ?_;refine BX _ _ _ _ _ gY _ _ ?_ hg' (λx hx=>?_) ?_
  .rw[ay];show ks.length+1<=_;omega
  .rcases bX.1 hx with h|h
   .exact hks x h
   .have h:x∈[vn z]:=h;exact⟨z,aO.1 h,aa,aa⟩
  .exact((hS.perm<|au (l₁:=[_,_])).frame wB).perm<|au (l₂:=[_,_])
end
section
variable{S:List Nat}{F:Nat->Prop}
def J6(ty:TypeId)(es:Nat)(P:List Value->Prop):List Value->List cz->Prop
 |[],R=>R=[]
 |v::vs,R=>∃ks gb R',R=gb++R'/\GB ty es v ks gb/\P ks/\J6 ty es P vs R'
theorem J6.Ye{P:List Value->Prop}(h0:P []):∀n,J6 ty es P (List.replicate n<|.slice none 0 0) []
 |0=>rfl
 |n+1=>⟨[],[],[],rfl,GB.nil _ _,h0,J6.Ye h0 n⟩
theorem J6.mono{P P':List Value->Prop}(hp:∀ks,P ks->P' ks):∀{vs:List Value}{R:List cz},J6 ty es P vs R->J6 ty es P' vs R
 |[],R,h=>h
 |v::vs,R,⟨ks,gb,R',h1,h2,h3,h4⟩=>⟨ks,gb,R',h1,h2,hp _ h3,J6.mono hp h4⟩
theorem J6.at{P:List Value->Prop}:∀{vs:List Value}{R:List cz}(i:Nat),J6 ty es P vs R->(h:i<vs.length)->∃A gb B ks,R=A++(gb++B)/\GB ty es vs[i] ks gb/\P ks/\
 ∀P':List Value->Prop,(∀ks,P ks->P' ks)->∀v' ks' gY,GB ty es v' ks' gY->P' ks'->J6 ty es P' (vs.set i v') (A++(gY++B))
 |v::vs,R,0,h,_=>by
  obtain⟨ks,gb,R',rfl,h1,h2,h4⟩:=h;exact⟨[],gb,R',ks,rfl,h1,h2,λP' hp v' ks' gY g1 g2=>⟨ks',gY,R',rfl,g1,g2,h4.mono hp⟩⟩
 |v::vs,R,i+1,h,hi=>by
  obtain⟨ks,gb,R',rfl,h1,h2,h4⟩:=h;obtain⟨A,gb2,B,ks2,rfl,g1,g2,g4⟩:=J6.at i h4 (by simpa using hi);refine⟨gb++A,gb2,B,ks2,by rw[bg],g1,g2,λP' hp v' ks' gY k1 k2=>?_⟩;exact⟨ks,gb,A++(gY++B),by rw[bg],h1,hp _ h2,g4 P' hp v' ks' gY k1 k2⟩
 |[],R,i,h,hi=>absurd hi (by simp)
theorem Dp(hi:i<cs.length):splice cs i [v]=cs.set i v:=by
 apply eP;intro j;rw[mU (by show i+1<=_;omega),bV]
 by_cases h:i<=j/\j<i+[v].length
 .have:i=j:=by have:=h.2;simp at this;omega
  subst this;rw[if_pos h,if_pos rfl,if_pos hi,dY];rfl
 .rw[if_neg h,if_neg λe=>h (by subst e;simp)]
theorem J6.all{P:List Value->Prop}:∀{vs:List Value}{R L:List cz},J6 ty es P vs R->SH S H0 H (R++L)->∀x∈vs,∃a n c ks,x=.slice a n c/\ks.length=n*es/\P ks/\jT (λr=>r∈R.map (·.1)) ty H a n es ks
 |[],R,L,h,hS=>λx hx=>nomatch hx
 |v::vs,R,L,⟨ks,gb,R',h1,h2,h3,h4⟩,hS=>by
  subst h1;intro x hx;rcases bP.1 hx with rfl|hx
  .rw[bg]at hS;obtain⟨a,n,c,e,hl,hf⟩:=h2.Nn (F:=λr=>r∈(gb++R').map (·.1)) hS λe he=>aZ.2 ⟨e,bI _ he,rfl⟩;exact⟨a,n,c,ks,e,hl,h3,hf⟩
  .rw[bg]at hS;obtain⟨a,n,c,ks',e,hl,hp,hf⟩:=J6.all h4 (SH.drop hS) x hx;refine⟨a,n,c,ks',e,hl,hp,hf.wk λr hr=>?_⟩;obtain⟨e,he,rfl⟩:=aZ.1 hr;exact aZ.2 ⟨e,bD _ he,rfl⟩
def NsP(K:Nat)(Q:Int->Prop)(ks:List Value):Prop:=ks.length<=K/\∀x∈ks,∃z:Int,x=vi z/\Q z
def TZ(b K:Nat)(Q:Int->Prop)(n:Nat)(H:ag)(v:Value):Prop:=∃a c vs,v=.slice a n c/\jT (b<=·) 23 H a n 1 vs/\∀x∈vs,Jl b K Q H x
theorem Pm(hw:Wf H){rn:Nat}(hG:Gr b H ra rn rcs na nn eG)(hm:qx H r m)(hnm:MQ rn m)(hB:∀j,j<rn->0<=rootOf rcs j/\rootOf rcs j<nn):
 az Pg X 154 [gV ra rn rc na nn nc,.map<|some r] H (Q1 (λv H'=>TZ H.next 500000 (InR rn) rn H' v) H):=by
 have hS:=SH.refl hw;have g2:=hG.2.1;refine ce [0,1,2,4,5,6,7,9,15,16,17,28,29,30] ?_;refine tl ?_;refine hS.box rfl λH1 rg hS=>?_
 repeat(first|(refine hS.aY ?_)|(refine hS.dQ ?_))
 refine hS.mkS (aj _) aa λH2 rl hS=>?_;rw[pN]at hS;refine hS.dQ ?_;refine hS.aY ?_;refine lp7 6 7 9 17 28 29 30 (I:=λm' x6 x7 x9 qV x28 x29 x30 H'=>∃(i:Nat)(vs:List Value)(R:List cz),qV=vn i/\i+m'=rn/\vs.length=rn/\J6 3 1 (NsP (4001*i)<|InR rn) vs R/\SH [] H H' ((rl,23,vs)::(rg,69,[.slice ra rn rc,.slice na nn nc])::R)) ?_ rn ⟨0,_,[],rfl,aa,by simp,J6.Ye ⟨aM _,λx h=>nomatch h⟩ rn,hS⟩;clear hS;rintro m' x6 x7 x9 qV x28 x29 x30 l7 H3 ⟨i,vs,R,rfl,him,hvl,hR,hS⟩;refine tl ?_;refine aF ?_;refine ah (λhc=>?_) λhc=>?_;rotate_left
 .refine tl ?_;obtain rfl:i=rn:=by omega
  have hb:∀e:cz,e∈(rl,23,vs)::(rg,69,[.slice ra i rc,.slice na nn nc])::R->H.next<=e.1:=λe he=>hS.zN he
  refine rr ?_;refine⟨⟨_,_,vs,rfl,?_,λx hx=>?_⟩,hS.ext⟩
  .exact jT.one hS (aD ..) aa<|hb _<|aD ..
  .obtain⟨a,n,c,ks,e,hl,hp,hf⟩:=J6.all (L:=[]) hR (by rw[aQ];exact SH.drop (A:=[_,_]) hS) x hx;refine⟨a,n,c,ks,e,hf.wk λr hr=>?_,by have:=hp.1;omega,hp.2⟩;obtain⟨e,he,rfl⟩:=aZ.1 hr;exact hb e<|aT _<|aT _ he
 obtain⟨r1,o1,tQ,u1,f1,w1,c1,a1,e1,hl1,xw,qP,hsz,_⟩:=hG.ru (i:=i) aa rc;rw[e1];refine aF ?_;refine hS.xZ xw hl1 ?_;refine hS.mO rfl rfl rfl λH4 ru hS hx4=>?_;have hS:SH [] H H4 ((ru,141,sZ tQ u1 f1 w1 c1 (rootOf rcs i) a1)::(rl,23,vs)::(rg,69,[.slice ra rn rc,.slice na nn nc])::R):=hS
 repeat(first|(refine hS.aY ?_)|(refine hS.dQ ?_))
 have BX:∀x9 x28 x29 x30 vs R xD H5,vs.length=rn->J6 3 1 (NsP (4001*(i+1))<|InR rn) vs R->SH [] H H5 ((rl,23,vs)::(rg,69,[.slice ra rn rc,.slice na nn nc])::R)->∃m_1,m_1<m'/\zK (gV ra rn rc na nn nc) (.map<|some r) (.pointer<|some ⟨rg,0,none⟩) (.slice none 0 0) (.slice (some ⟨rl,0,none⟩) rn rn) (.slice ra rn rc) (vn rn) (λm' x6 x7 x9 qV x28 x29 x30 H'=>∃(i:Nat)(vs:List Value)(R:List cz),qV=vn i/\i+m'=rn/\vs.length=rn/\J6 3 1 (NsP (4001*i)<|InR rn) vs R/\SH [] H H' ((rl,23,vs)::(rg,69,[.slice ra rn rc,.slice na nn nc])::R)) m_1 (zq (gV ra rn rc na nn nc) (.map<|some r) (.pointer<|some ⟨rg,0,none⟩) (.slice none 0 0) (.slice (some ⟨rl,0,none⟩) rn rn) (vn i) (.pointer<|some ⟨ru,0,none⟩) x9 (.slice ra rn rc) (vn rn) (vi<|(i:Int)+1) x28 x29 x30 xD H5):=by
  intro x9 x28 x29 x30 vs R xD H5 h1 h2 h3;exact⟨rn-(i+1),aa,_,_,_,_,_,_,_,_,_,rfl,i+1,vs,R,uN,aa,h1,h2,h3⟩
 refine bO (λhb=>?_) λhb=>?_
 .refine bE ?_;exact BX _ _ _ _ vs R _ _ hvl (hR.mono λks h=>⟨by have:=h.1;omega,h.2⟩)<|SH.drop (A:=[_]) hS
 refine hS.eU ?_;have hx5:=hS.ext;refine az.mono (Vz hS.wf (hG.ex hx5) (hm.ex hx5 λh=>nomatch h) hnm aa hB) ?_;rintro v H5 ⟨⟨ua,un,uc,ucs,rfl,hu,hun,aid⟩,hx⟩;have hlt:=hS.lt;have hS:=SH.drop (A:=[_])<|hS.call hx;refine aF ?_;have hS0:=hS;have hS:=hS0.base;have hS5:∀q∈((rl,23,vs)::(rg,69,[.slice ra rn rc,.slice na nn nc])::R).map (λe:cz=>e.1),¬H4.next<=q\/¬wR H5 q 3:=λq hq=>.inl (by have:=hlt q<|aT _ hq;omega)
 refine lp2 9 30 (I:=λm'' x9 x30 H'=>∃(k:Nat)(vs':List Value)(R':List cz),x30=vn k/\k+m''=un/\vs'.length=rn/\J6 3 1 (NsP (4001*i+k)<|InR rn) vs' R'/\SH (((rl,23,vs)::(rg,69,[.slice ra rn rc,.slice na nn nc])::R).map λe:cz=>e.1) H5 H' ((rl,23,vs')::(rg,69,[.slice ra rn rc,.slice na nn nc])::R')) ?_ un ⟨0,vs,R,rfl,aa,hvl,hR.mono λks h=>⟨by have:=h.1;omega,h.2⟩,hS⟩;clear hS;rintro m'' y9 y30 RE H6 ⟨k,vs',R',rfl,hkm,JO,hR',hS⟩;refine tl ?_;refine aF ?_;refine ah (λhc2=>?_) λhc2=>?_;rotate_left
 .refine tl ?_;refine aF ?_;refine bE ?_;exact BX _ _ _ _ vs' R' _ _ JO (hR'.mono λks h=>⟨by have:=h.1;omega,h.2⟩)<|hS0.over hS
 have hkn:k<un:=by omega
 have hu6:=hu.stay hS.ext hS5;obtain⟨r',o',hl,e',hr',Jj⟩:=hu6.1.Wd hkn uc;rw[e'];refine aF ?_;obtain⟨z,hz,hz0,hz1⟩:=aid _<|bF hl;obtain⟨z,rfl⟩:∃j:Nat,z=j:=⟨z.toNat,aa⟩;rw[hz]at Jj;refine ME.ld Jj ?_;refine hS.dQ ?_;obtain⟨r2,o2,nm2,u2,f2,w2,c2,a2,e2,hl2,Vw,uI,_,_⟩:=(hG.ex (hS0.over hS).ext).ru (i:=z) aa rc;rw[e2];refine aF ?_;refine ME.ld (uI 1 _ aa rfl) ?_;refine aF ?_;refine bO (λhb2=>?_) λhb2=>?_;rotate_left
 .refine bE ?_;exact⟨un-(k+1),aa,_,_,_,_,rfl,k+1,vs',R',uN,aa,JO,hR'.mono λks h=>⟨by have:=h.1;omega,h.2⟩,hS⟩
 have hil:i<vs'.length:=by omega
 refine PU.of (m_ aa) ?_;rw[aI];refine hS.ld 0 rfl (ae hil) ?_;obtain⟨A,gb,B,ks,rfl,hg,hks,hput⟩:=hR'.at i hil;refine hS.bS rfl rfl rfl aa λH7 rx KX=>?_;have KX:=KX.perm<|List.Perm.cons _<|zw ((rl,23,vs')::(rg,69,[.slice ra rn rc,.slice na nn nc])::A) gb B;obtain⟨v',H8,gY,e8,hg',hS8,_⟩:=hg.app (m:=0) (cx:=1) KX aa rfl rfl aa (by have:=hks.1;omega);refine ME.of e8 ?_;refine PU.of (m_ aa) ?_;rw[aI];have hS8:SH _ H5 H8 ((rl,23,vs')::(rg,69,[.slice ra rn rc,.slice na nn nc])::(A++(gY++B))):=hS8.perm<|zw gY ((rl,23,vs')::(rg,69,[.slice ra rn rc,.slice na nn nc])::A) B;obtain⟨va,vn',vc,rfl⟩:∃a n c,v'=.slice a n c:=by rcases hg' with⟨rfl,_⟩|⟨r,n,dH,rfl,_⟩<;>exact⟨_,_,_,rfl⟩
 refine hS8.st 0 rfl rfl (by show i+1<=_;omega) rfl λH9 hS9=>?_;refine bE ?_;refine⟨un-(k+1),aa,_,_,_,_,rfl,k+1,vs'.set i<|.slice va vn' vc,A++(gY++B),uN,aa,by rw[bJ];exact JO,?_,?_⟩
 .refine hput _ (λks h=>⟨by have:=h.1;omega,h.2⟩) _ _ _ hg' ⟨?_,λx hx=>?_⟩
  .rw[ay];have:=hks.1;show ks.length+1<=_;omega
  .rcases bX.1 hx with h|h
   .exact hks.2 x h
   .have h:x∈[vn z]:=h;exact⟨z,aO.1 h,aa,aa⟩
 .have hS9:SH _ H5 H9 ((rl,23,splice vs' i [.slice va vn' vc])::(rg,69,[.slice ra rn rc,.slice na nn nc])::(A++(gY++B))):=hS9
  rwa [Dp hil]at hS9
end
section
variable{S:List Nat}{F:Nat->Prop}
def gL(l:List Nat):Nat->Nat
 |0=>0
 |i+1=>l.getD i 0
theorem aey{l:List Nat}(hn:l.Pairwise (·≠·)):∀i j,1<=i->i<=l.length->1<=j->j<=l.length->gL l i=gL l j->i=j:=by
 have key:∀i j,i<l.length->j<l.length->i<j->l.getD i 0≠l.getD j 0:=λi j h1 h2 h3=>by
  rw[aK,aK,ae h1,ae h2];exact kG.1 hn i j h1 h2 h3
 intro i j h1 h2 h3 h4 e;obtain⟨i,rfl⟩:∃k,i=k+1:=⟨i-1,aa⟩;obtain⟨j,rfl⟩:∃k,j=k+1:=⟨j-1,aa⟩;have e:l.getD i 0=l.getD j 0:=e;rcases iH i j with h|h|h
 .exact absurd e<|key i j aa aa h
 .rw[h]
 .exact absurd e.symm<|key j i aa aa h
theorem aez{ops:Array Oper}{C:Nat->Nat->Nat->Nat->Nat->Nat->Nat->List Cl}{a d e f g:Nat}{K:Prop}(hn:[a,b,c,d,e,f,g].Pairwise (·≠·))(hC:∀a b c d e f g,C a b c d e f g=(C 1 2 3 4 5 6 7).map (q9<|gL [a,b,c,d,e,f,g]))(hk:all' (Ao 7) (C 1 2 3 4 5 6 7)=true)(h:gQ ops ((C 1 2 3 4 5 6 7).map kill)=true)(k:K):gQ ops (C a b c d e f g)=true/\K:=by
 refine⟨?_,k⟩;rw[hC];exact Aq (m:=7) (aey hn) hk h
structure CY where
 (ct m l o dm dl dO s ds st fr:Nat)
def BZ:List (Nat×Nat)->List Value
 |[]=>[]
 |p::l=>vn p.1::vn p.2::BZ l
theorem MS(a b:List<|Nat×Nat):BZ (a++b)=BZ a++BZ b:=by
 induction a with
 |nil=>rfl
 |cons p l ih=>show vn p.1::vn p.2::BZ (l++b)=_;rw[ih];rfl
theorem zh(a:List<|Nat×Nat):(BZ a).length=a.length*2:=by
 induction a with
 |nil=>rfl
 |cons p l ih=>show(BZ l).length+2=_;rw[ih,bH];omega
structure Wh where
 (cnt:Nat)(ms lo:List Int)(op sf:List Bool)(ss:List Nat)(fs:List<|Nat×Nat)
def Cy(q:CY)(n:Nat)(x:Wh)(M:List cz):Prop:=∃Gg RF Dy Po,
 M=(q.ct,3,[vn x.cnt])::(q.m,23,[.slice (some ⟨q.dm,0,none⟩) n n])::(q.l,23,[.slice (some ⟨q.dl,0,none⟩) n n])::(q.o,36,[.slice (some ⟨q.dO,0,none⟩) n n])::(q.dm,3,x.ms.map vi)::(q.dl,3,x.lo.map vi)::(q.dO,4,x.op.map .bool)::(q.s,36,[.slice (some ⟨q.ds,0,none⟩) n n])::(q.ds,4,x.sf.map .bool)::(q.st,23,[Gg])::(q.fr,253,[RF])::(Dy++Po)/\
 x.ms.length=n/\x.lo.length=n/\x.op.length=n/\x.sf.length=n/\GB 3 1 Gg (x.ss.map λj=>vn j) Dy/\GB 255 2 RF (BZ x.fs) Po
structure B5(n:Nat)(x:Wh):Prop where
 cnt:x.cnt+x.ms.count 0=n
 fs:∀p∈x.fs,p.1<n/\p.2<=1000000
 ss:∀j∈x.ss,j<n
 sub:(x.fs.map (·.1)).Sublist x.ss
 sl:x.ss.length<=x.cnt
 fl:x.fs.length<=x.cnt
abbrev vH(q:CY):Value:=.func (.func 184) ⟨[]⟩ ⟨[pr q.ct,pr q.m,pr q.l,pr q.o,pr q.st,pr q.fr]⟩
def Wh.begin(x:Wh)(k:Nat):Wh:={x with cnt:=x.cnt+1,ms:=x.ms.set k ((x.cnt+1:Nat):Int),lo:=x.lo.set k ((x.cnt+1:Nat):Int),op:=x.op.set k true,ss:=x.ss++[k],fs:=x.fs++[(k,0)]}
theorem Jm{q:CY}{x:Wh}{k:Nat}(hn:n<=200)(hC:Cy q n x M)(hO:B5 n x)(hk:k<n)(h0:x.ms[k]?=some 0)(hS:SH S H0 H<|M++L):
 az Pg X 184 [vn k,pr q.ct,pr q.m,pr q.l,pr q.o,pr q.st,pr q.fr] H λ_ H'=>∃M',Cy q n (x.begin k) M'/\SH S H0 H' (M'++L):=by
 have hS0:=hS;have hS:=hS.own;obtain⟨Gg,RF,Dy,Po,rfl,h1,h2,h3,h4,h5,h6⟩:=hC;have hcn:x.cnt<=n:=by have:=hO.cnt;omega
 refine ce [0,1,2,3,4,5,6] ?_;refine tl ?_;refine hS.dQ ?_;refine bE ?_
 repeat(first|(refine hS.aY ?_)|(refine hS.kI ?_)|(refine hS.kJ λHn hS=>?_))
 refine PU.of (m_ hk) ?_;rw[aI];refine hS.qJ (λH2 hS=>?_) rfl (by rw[aC];show k+1<=_;omega) rfl;refine PU.of (m_ hk) ?_;rw[aI]
 try simp only[eF hS.wf]
 refine hS.qJ (λH3 hS=>?_) rfl (by rw[aC];show k+1<=_;omega) rfl;refine PU.of (m_ hk) ?_;rw[aI]
 try simp only[eF hS.wf]
 refine hS.qJ (λH4 hS=>?_) rfl (by rw[aC];show k+1<=_;omega) rfl
 have hne:[q.ct,q.m,q.l,q.o,q.dm,q.dl,q.dO].Pairwise (·≠·):=by
  have h:List.Pairwise (·≠·) ([q.ct,q.m,q.l,q.o,q.dm,q.dl,q.dO]++q.s::q.ds::q.st::q.fr::(Dy++Po).map (λe:cz=>e.1)):=(List.pairwise_map (f:=λe:cz=>e.1)).2 hS.ne;exact(ko.1 h).1
 refine splitK (λK hK=>?_) ?_
 .simp only[cB,dn];generalize q.ct=ct at hne|-;generalize q.m=mm at hne|-;generalize q.l=ll at hne|-;generalize q.o=oo at hne|-;generalize q.dm=dm at hne|-;generalize q.dl=dl at hne|-;generalize q.dO=dO at hne|-;apply aez hne (by intros;rfl) (by kernel_rfl) (by kernel_rfl) hK
 have hS:SH _ H _ ((q.ct,3,[vn (x.cnt+1)])::(q.m,23,[.slice (some ⟨q.dm,0,none⟩) n n])::(q.l,23,[.slice (some ⟨q.dl,0,none⟩) n n])::(q.o,36,[.slice (some ⟨q.dO,0,none⟩) n n])::(q.dm,3,splice (x.ms.map vi) k [vi ((x.cnt+1:Nat):Int)])::(q.dl,3,splice (x.lo.map vi) k [vi ((x.cnt+1:Nat):Int)])::(q.dO,4,splice (x.op.map .bool) k [.bool true])::(q.s,36,[.slice (some ⟨q.ds,0,none⟩) n n])::(q.ds,4,x.sf.map .bool)::(q.st,23,[Gg])::(q.fr,253,[RF])::(Dy++Po)):=hS;rw[lM vi aa,lM vi aa,lM Value.bool aa]at hS;generalize hM (hM (hM Hn _) _) H4=H5 at*;have hl5:x.ss.length<=200:=by have:=hO.sl;omega
 have hl6:(BZ x.fs).length<=400:=by rw[zh];have:=hO.fl;omega
 obtain⟨a5,n5,c5,rfl⟩:∃a n c,Gg=.slice a n c:=by rcases h5 with⟨rfl,_⟩|⟨r,n,dH,rfl,_⟩<;>exact⟨_,_,_,rfl⟩
 obtain⟨a6,n6,c6,rfl⟩:∃a n c,RF=.slice a n c:=by rcases h6 with⟨rfl,_⟩|⟨r,n,dH,rfl,_⟩<;>exact⟨_,_,_,rfl⟩
 refine hS.dQ ?_;refine hS.bS rfl rfl rfl aa λH7 rx KX=>?_;have KX:=KX.perm<|List.Perm.cons _<|zw [_,_,_,_,_,_,_,_,_,_,_] Dy Po;obtain⟨v',H8,VA,e8,hg',hS8,_⟩:=h5.app (m:=0) (cx:=1) KX aa rfl rfl aa (by rw[aC];omega);refine ME.of e8 ?_;have hS:=hS8.perm<|zw VA [_,_,_,_,_,_,_,_,_,_,_] Po;simp only[a_,bB]at hS;obtain⟨a7,n7,c7,rfl⟩:∃a n c,v'=.slice a n c:=by rcases hg' with⟨rfl,_⟩|⟨r,n,dH,rfl,_⟩<;>exact⟨_,_,_,rfl⟩
 refine hS.kJ λHn hS=>?_;refine hS.dQ ?_;refine PU.b2 rfl ?_;refine hS.aY ?_;refine hS.bS rfl rfl rfl aa λH9 ry hS9=>?_;have hS9:=hS9.perm<|List.Perm.cons _<|((iV [_,_,_,_,_,_,_,_,_,_,_]<|au (l₁:=VA) (l₂:=Po))).trans<|zw [_,_,_,_,_,_,_,_,_,_,_] Po VA;obtain⟨w',H10,aeA,e10,agM,aeu,_⟩:=h6.app (m:=0) (cx:=1) hS9 aa rfl rfl aa aa;refine ME.of e10 ?_;have hS:=(aeu.perm<|zw aeA [_,_,_,_,_,_,_,_,_,_,_] VA).perm<|iV [_,_,_,_,_,_,_,_,_,_,_]<|au (l₁:=aeA) (l₂:=VA);simp only[a_,bB]at hS;obtain⟨a8,n8,c8,rfl⟩:∃a n c,w'=.slice a n c:=by rcases agM with⟨rfl,_⟩|⟨r,n,dH,rfl,_⟩<;>exact⟨_,_,_,rfl⟩
 refine hS.kJ λHn hS=>?_;refine rn ?_;refine⟨_,⟨.slice a7 n7 c7,.slice a8 n8 c8,VA,aeA,rfl,?_,?_,?_,h4,?_,?_⟩,?_⟩
 .show(x.ms.set k _).length=n;rw[bJ];exact h1
 .show(x.lo.set k _).length=n;rw[bJ];exact h2
 .show(x.op.set k _).length=n;rw[bJ];exact h3
 .show GB 3 1 _ ((x.ss++[k]).map λj=>vn j) _;rw[dw];exact hg'
 .show GB 255 2 _ (BZ<|x.fs++[(k,0)]) _;rw[MS];exact agM
 .have hF:=SH.frame (M:=(q.ct,3,[vn x.cnt])::(q.m,23,[.slice (some ⟨q.dm,0,none⟩) n n])::(q.l,23,[.slice (some ⟨q.dl,0,none⟩) n n])::(q.o,36,[.slice (some ⟨q.dO,0,none⟩) n n])::(q.dm,3,x.ms.map vi)::(q.dl,3,x.lo.map vi)::(q.dO,4,x.op.map .bool)::(q.s,36,[.slice (some ⟨q.ds,0,none⟩) n n])::(q.ds,4,x.sf.map .bool)::(q.st,23,[.slice a5 n5 c5])::(q.fr,253,[.slice a6 n6 c6])::(Dy++Po)) hS0 hS;exact hF
end
variable{q:CY}
section
variable{S:List Nat}{F:Nat->Prop}
theorem ZD{x:Wh}{k:Nat}(hn:n<=200)(hC:Cy q n x M)(hO:B5 n x)(hk:k<n)(hm:k∈x.ss)(hS:SH S H0 H<|M++L):
 az Pg X 185 [vn k,pr q.st,pr q.o,pr q.s] H λ_ H'=>∃(p:Nat)(op sf:List Bool)(M':List cz),x.ss[p]?=some k/\(∀j,p<j->x.ss[j]?≠some k)/\Cy q n {x with op:=op,sf:=sf,ss:=x.ss.take p} M'/\SH S H0 H' (M'++L):=by
 have hS0:=hS;have hS:=hS.own;obtain⟨Gg,RF,Dy,Po,rfl,h1,h2,h3,h4,h5,h6⟩:=hC;have hcn:x.cnt<=n:=by have:=hO.cnt;omega
 have hl5:x.ss.length<=200:=by have:=hO.sl;omega
 rcases h5 with⟨rfl,e,rfl⟩|⟨rt,sn,dH,rfl,hsn,rfl⟩
 .exfalso;cases hss:x.ss with
  |nil=>rw[hss]at hm;cases hm
  |cons a l=>rw[hss]at e;cases e
 rw[aC,bG]at hsn;subst hsn;refine ce [0,1,2,3,5,7,21,22,23] ?_;refine tl ?_;refine hS.dQ ?_;refine hS.aY ?_
 have hpos:1<=x.ss.length:=by
  cases hss:x.ss with
  |nil=>rw[hss]at hm;cases hm
  |cons a l=>simp
 refine dD ?_;refine zm 5 (I:=λm x5 H'=>∃p:Nat,x5=vn p/\p=m/\p<x.ss.length/\(∀j,p<j->x.ss[j]?≠some k)/\SH _ H H' _) ?_ (x.ss.length-1) ⟨x.ss.length-1,by rw[show((x.ss.length:Int)-1)=((x.ss.length-1:Nat):Int) by omega];rfl,rfl,aa,λj hj=>by rw[dS aa];simp,hS⟩;clear hS;rintro m x5 rg H1 ⟨p,rfl,rfl,hp,hlast,hS⟩;refine tl ?_;refine hS.aY ?_;refine hS.dQ ?_;refine PU.of (m_ hp) ?_;rw[aI];refine hS.ld 11 rfl (v:=vn x.ss[p]) (by rw[aP (by rw[aC];exact hp),aR,ae hp];rfl) ?_;refine aF ?_;refine bq (λhc=>?_) λhc=>?_
 .obtain⟨i,hi,hik⟩:=fD hm
  have hip:i<p:=by
   rcases iH i p with h|h|h
   .exact h
   .subst h;exact absurd (by rw[hik]) hc
   .exact absurd (by rw[ae hi,hik])<|hlast i h
  refine dD ?_;refine⟨p-1,aa,_,_,_,rfl,p-1,by rw[show((p:Int)-1)=((p-1:Nat):Int) by omega],rfl,aa,λj hj=>?_,hS⟩;rcases aN p j with h|h
  .exact hlast j h
  .obtain rfl:j=p:=by omega
   rw[ae hp];intro e;exact hc (by rw[bN e])
 have hpk:x.ss[p]?=some k:=by rw[ae hp];congr 1;omega
 refine tl ?_;refine hS.dQ ?_;refine PU.of (RD aa) ?_;rw[aI];refine aF ?_;refine lp2 7 23 (I:=λm x7 yj H'=>∃(j:Nat)(op sf:List Bool),yj=vn j/\j+m=x.ss.length-p/\op.length=n/\sf.length=n/\SH (List.map (λe:cz=>e.1)<|(q.ct,3,[vn x.cnt])::(q.m,23,[.slice (some ⟨q.dm,0,none⟩) n n])::(q.l,23,[.slice (some ⟨q.dl,0,none⟩) n n])::(q.o,36,[.slice (some ⟨q.dO,0,none⟩) n n])::(q.dm,3,x.ms.map vi)::(q.dl,3,x.lo.map vi)::(q.dO,4,x.op.map .bool)::(q.s,36,[.slice (some ⟨q.ds,0,none⟩) n n])::(q.ds,4,x.sf.map .bool)::(q.st,23,[.slice (some ⟨rt,0,none⟩) x.ss.length (dV 1)])::(q.fr,253,[RF])::([(rt,3,(x.ss.map λj=>vn j)++dH)]++Po)) H H' ((q.ct,3,[vn x.cnt])::(q.m,23,[.slice (some ⟨q.dm,0,none⟩) n n])::(q.l,23,[.slice (some ⟨q.dl,0,none⟩) n n])::(q.o,36,[.slice (some ⟨q.dO,0,none⟩) n n])::(q.dm,3,x.ms.map vi)::(q.dl,3,x.lo.map vi)::(q.dO,4,op.map .bool)::(q.s,36,[.slice (some ⟨q.ds,0,none⟩) n n])::(q.ds,4,sf.map .bool)::(q.st,23,[.slice (some ⟨rt,0,none⟩) x.ss.length (dV 1)])::(q.fr,253,[RF])::(rt,3,(x.ss.map λj=>vn j)++dH)::Po)) ?_ (x.ss.length-p) ⟨0,x.op,x.sf,rfl,aa,h3,h4,hS⟩;clear hS;rintro m x7 yj rg H1 ⟨j,op,sf,rfl,hjm,ho,hs,hS⟩;refine tl ?_;refine aF ?_;refine ah (λhc2=>?_) λhc2=>?_;rotate_left
 .refine tl ?_;refine hS.dQ ?_;refine PU.of (CZ aa) ?_;refine hS.kJ λHn hS=>?_;refine rn ?_;refine⟨p,op,sf,_,hpk,hlast,⟨.slice (some ⟨rt,0,none⟩) p<|dV 1,RF,[(rt,3,((x.ss.take p).map λj=>vn j)++(((x.ss.drop p).map λj=>vn j)++dH))],Po,rfl,h1,h2,ho,hs,?_,h6⟩,?_⟩
  .exact .inr ⟨rt,p,_,rfl,by rw[aC,eH];omega,rfl⟩
  .have hF:=SH.frame (M:=(q.ct,3,[vn x.cnt])::(q.m,23,[.slice (some ⟨q.dm,0,none⟩) n n])::(q.l,23,[.slice (some ⟨q.dl,0,none⟩) n n])::(q.o,36,[.slice (some ⟨q.dO,0,none⟩) n n])::(q.dm,3,x.ms.map vi)::(q.dl,3,x.lo.map vi)::(q.dO,4,x.op.map .bool)::(q.s,36,[.slice (some ⟨q.ds,0,none⟩) n n])::(q.ds,4,x.sf.map .bool)::(q.st,23,[.slice (some ⟨rt,0,none⟩) x.ss.length (dV 1)])::(q.fr,253,[RF])::([(rt,3,(x.ss.map λj=>vn j)++dH)]++Po)) hS0 hS;rw[<-bg,<-dw,fV];exact hF
 have hpj:p+j<x.ss.length:=by omega
 refine PU.of (m_ aa) ?_;refine hS.ld 11 rfl (v:=vn x.ss[p+j]) (by rw[aP (by rw[aC];exact hpj),aR,ae hpj];rfl) ?_;have hzn:x.ss[p+j]<n:=hO.ss _<|bF hpj;generalize x.ss[p+j]=z at hzn;refine hS.dQ ?_;refine PU.of (m_ hzn) ?_;rw[aI];refine hS.st 6 rfl rfl (by rw[aC];show z+1<=_;omega) rfl λH2 hS=>?_;simp only[ik,lU]at hS;have hS:=hS
 repeat(first|(refine hS.aY ?_)|(refine hS.kI ?_))
 refine PU.of (m_ hzn) ?_;rw[aI];refine hS.kI (v:=.bool<|sf[z]'aa) ?_ (by rw[aR,ae (show z<sf.length by omega)];rfl);refine aF ?_;have hS1:=hS;refine bO (λhb=>?_) λhb=>?_
 .refine PU.of (m_ hzn) ?_;rw[aI]
  try simp only[eF hS.wf]
  refine hS.qJ (λH3 hS=>?_) rfl (by rw[aC];show z+1<=_;omega) rfl;refine splitK (λK hK=>?_) ?_
  .simp only[cB,dn];have n1:q.ds≠q.s:=(hS1.nq 7 8 rfl rfl aa).symm;generalize q.ds=ds at n1|-;generalize q.s=qs at n1|-;apply q_ n1 (by intros;rfl) (by kernel_rfl) (by kernel_rfl) hK
  refine bE ?_;refine⟨x.ss.length-p-(j+1),aa,_,_,_,_,rfl,j+1,op.set z false,sf.set z true,uN,aa,by rw[bJ];exact ho,by rw[bJ];exact hs,?_⟩;rw[<-lM Value.bool aa,<-lM Value.bool aa];exact hS
 .try simp only[eF hS.wf]
  refine hS.kI ?_;refine hS.aY ?_;refine dD ?_;refine hS.aY ?_;generalize decide ((1:Int)<(x.ss.length:Int)-(p:Int))=bz;refine PU.of (m_ hzn) ?_;rw[aI]
  try simp only[eF hS.wf]
  refine hS.qJ (λH3 hS=>?_) rfl (by rw[aC];show z+1<=_;omega) rfl;refine splitK (λK hK=>?_) ?_
  .simp only[cB,dn];have n1:q.ds≠q.s:=(hS1.nq 7 8 rfl rfl aa).symm;have n2:q.ds≠q.st:=(hS1.nq 8 9 rfl rfl aa);have n3:q.s≠q.st:=(hS1.nq 7 9 rfl rfl aa);generalize q.ds=ds at n1 n2|-;generalize q.s=qs at n1 n3|-;generalize q.st=qt at n2 n3|-;apply Ar n1 n2 n3 (by intros;rfl) (by kernel_rfl) (by kernel_rfl) hK
  refine bE ?_;refine⟨x.ss.length-p-(j+1),aa,_,_,_,_,rfl,j+1,op.set z false,sf.set z bz,uN,aa,by rw[bJ];exact ho,by rw[bJ];exact hs,?_⟩;rw[<-lM Value.bool aa,<-lM Value.bool aa];exact hS
end
section
variable{S:List Nat}{F:Nat->Prop}
abbrev GH(q:CY):Value:=.func (.func 185) ⟨[]⟩ ⟨[pr q.st,pr q.o,pr q.s]⟩
theorem Fs(fs:List<|Nat×Nat)(a b:Nat)(dH:List Value):(BZ (fs++[(a,b)])++dH)[fs.length*2]?=some (vn a)/\(BZ (fs++[(a,b)])++dH)[fs.length*2+1]?=some (vn b)/\∀b',splice (BZ (fs++[(a,b)])++dH) (fs.length*2+1) [vn b']=BZ (fs++[(a,b')])++dH:=by
 have hl:=zh fs
 have e:∀b,BZ (fs++[(a,b)])++dH=BZ fs++(vn a::vn b::dH):=λb=>by
  rw[MS,bg];rfl
 refine⟨?_,?_,λb'=>?_⟩
 .rw[e,bf aa,hl,dY];rfl
 .rw[e,bf aa,hl,show fs.length*2+1-fs.length*2=1 by omega];rfl
 .rw[e,e,Dp (by rw[ay,hl];simp),List.set_append_right _ _ aa,hl,show fs.length*2+1-fs.length*2=1 by omega];rfl
theorem Dq:∀(l:List Int)(t:Nat)(v:Int),l[t]?=some 0->v≠0->(l.set t v).count 0+1=l.count 0
 |[],t,v,h,_=>by simp at h
 |a::l,0,v,h,hv=>by
  have h:a=0:=by simpa using h
  subst h;rw[lU,List.count_cons_self,List.count_cons_of_ne hv]
 |a::l,t+1,v,h,hv=>by
  have ih:=Dq l t v (by simpa using h) hv;rw[ik,qW,qW];omega
theorem B5.begin{x:Wh}{t:Nat}(h:B5 n x)(ht:t<n)(h0:x.ms[t]?=some 0):B5 n (x.begin t):=by
 have hc:=Dq x.ms t ((x.cnt+1:Nat):Int) h0 aa;have h1:=h.cnt;have h2:=h.sl;have h3:=h.fl;refine⟨?_,λp hp=>?_,λj hj=>?_,?_,?_,?_⟩
 .show x.cnt+1+(x.ms.set t _).count 0=n;omega
 .rcases bX.1 hp with h'|h'
  .exact h.fs p h'
  .rw[aO]at h';subst h';exact⟨ht,aa⟩
 .rcases bX.1 hj with h'|h'
  .exact h.ss j h'
  .rw[aO]at h';subst h';exact ht
 .show(List.map (λp:Nat×Nat=>p.1)<|x.fs++[(t,0)]).Sublist (x.ss++[t]);rw[dw];exact h.sub.append<|List.Sublist.refl _
 .show(x.ss++[t]).length<=x.cnt+1;rw[ay];simp;omega
 .show(x.fs++[(t,0)]).length<=x.cnt+1;rw[ay];simp;omega
theorem ZE{ss A:List Nat}{k:Nat}(h:(A++[k]).Sublist ss)(hp:ss[p]?=some k)(hl:∀j,p<j->ss[j]?≠some k):A.Sublist (ss.take p):=by
 obtain⟨r1,r2,rfl,h1,h2⟩:=List.append_sublist_iff.1 h;have hk:k∈r2:=h2.subset<|aO.2 rfl;obtain⟨j,hj,e⟩:=fD hk
 have hle:r1.length+j<=p:=by
  rcases aN p (r1.length+j)with h|h
  .exact absurd (by rw[bf aa,iG,ae hj,e])<|hl _ h
  .exact h
 rw[List.take_append];rw[fO (show r1.length<=p by omega)];exact h1.trans<|bR _ _
abbrev VB(q:CY)(n:Nat)(x:Wh)(rf:Nat)(fr:List Value)(RF Gg:Value)(Dy:List cz):List cz:=
 (rf,255,fr)::(q.ct,3,[vn x.cnt])::(q.m,23,[.slice (some ⟨q.dm,0,none⟩) n n])::(q.l,23,[.slice (some ⟨q.dl,0,none⟩) n n])::(q.o,36,[.slice (some ⟨q.dO,0,none⟩) n n])::(q.dm,3,x.ms.map vi)::(q.dl,3,x.lo.map vi)::(q.dO,4,x.op.map .bool)::(q.s,36,[.slice (some ⟨q.ds,0,none⟩) n n])::(q.ds,4,x.sf.map .bool)::(q.st,23,[Gg])::(q.fr,253,[RF])::Dy
theorem Pp{x:Wh}(h1:x.ms.length=n)(h2:x.lo.length=n)(h3:x.op.length=n)(h4:x.sf.length=n)(h5:GB 3 1 Gg (x.ss.map λj=>vn j) Dy)(hS:SH S H0 H<|VB q n x rf (BZ x.fs++dH) (.slice (some ⟨rf,0,none⟩) x.fs.length<|dV 2) Gg Dy):∃M,Cy q n x M/\SH S H0 H M:=
 ⟨_,⟨Gg,_,Dy,[_],rfl,h1,h2,h3,h4,h5,.inr ⟨rf,x.fs.length,dH,rfl,zh _,rfl⟩⟩,hS.perm<|au (l₂:=_::_::_::_::_::_::_::_::_::_::_::Dy) (l₁:=[_])⟩
def T3(n K:Nat)(Q:Int->Prop)(H:ag)(v:Value):Prop:=∃b,TZ b K Q n H v
theorem Pq{K:Nat}(hn:n<=200)(hK:K<=1000000)(hU:T3 n K Q H<|.slice ua n uc){Kp:Out->Prop}(x:Wh)(M:List cz)(hC:Cy q n x M)(hO:B5 n x)(gq lu iL jU:Value)(rg)(H1:ag)(hS:SH [] H H1 M)(kk:∀x M gq lu iL jU rg H1,Cy q n x M->B5 n x->x.fs=[]->SH [] H H1 M->Kp (.exit 2<|iM (.slice ua n uc) (.slice none 0 0) (pr q.m) (pr q.l) (pr q.o) (pr q.s) (pr q.st) (pr q.fr) (pr q.ct) (vH q) (GH q) gK gq lu iL jU (vn n) zO rg H1)):
 dJ Pg X (.loop<|sub iZ [1,1,1,1,1,1,1,1,0,1,0,0,1,1,0,0,1,0,1,1,0,0]) (iM (.slice ua n uc) (.slice none 0 0) (pr q.m) (pr q.l) (pr q.o) (pr q.s) (pr q.st) (pr q.fr) (pr q.ct) (vH q) (GH q) gK gq lu iL jU (vn n) zO rg H1) Kp:=by
 obtain⟨ub,ua',uc',uvs,eu,hU1,hU2⟩:=hU;cases eu;refine PV 13 14 15 16 (I:=λm gq lu iL jU H'=>∃x M,Cy q n x M/\B5 n x/\SH [] H H' M/\m=2*x.ms.count 0+x.fs.length) ?_ _ ⟨x,M,hC,hO,hS,rfl⟩;clear hC hO hS x M;rintro m gq lu iL jU rg H1 ⟨x,M,hC,hO,hS,hm⟩;have hC0:=hC;have hS0:=hS;obtain⟨Gg,RF,Dy,Po,rfl,h1,h2,h3,h4,h5,h6⟩:=hC;have hcn:x.cnt<=n:=by have:=hO.cnt;omega
 have hfl:=hO.fl;refine tl ?_
 obtain⟨fa,fn,fc,rfl,hfn⟩:∃a m c,RF=.slice a m c/\m=x.fs.length:=by
  rcases h6 with⟨rfl,e,_⟩|⟨r,m,dH,rfl,e,_⟩
  .refine⟨_,_,_,rfl,?_⟩;have:=zh x.fs;rw[e]at this;simp at this;omega
  .rw[zh]at e;exact⟨_,_,_,rfl,aa⟩
 subst hfn
 repeat(first|(refine hS.aY ?_)|(refine hS.dQ ?_))
 refine ah (λhc=>?_) λhc=>?_;rotate_left
 .exact kk x _ _ _ _ _ _ _ hC0 hO (dU aa) hS
 rcases h6 with⟨e,e',_⟩|⟨rf,fn,dH,e,hfe,rfl⟩
 .exfalso;have:=zh x.fs;rw[e']at this;simp at this;omega
 cases e
 obtain⟨fs',p,hfs⟩:∃fs' p,x.fs=fs'++[p]:=by
  rcases qA x.fs with h|⟨l,p,h⟩
  .rw[h]at hc;simp at hc
  .exact⟨l,p,by rw[h,qz]⟩
 obtain⟨node,nx⟩:=p;have hlen:x.fs.length=fs'.length+1:=by rw[hfs];simp
 have Cq:node<n/\nx<=1000000:=hO.fs (node,nx) (by rw[hfs];simp)
 have hS:SH [] H H1 (VB q n x rf (BZ (fs'++[(node,nx)])++dH) (.slice (some ⟨rf,0,none⟩) x.fs.length<|dV 2) Gg Dy):=by
  rw[<-hfs];exact hS.perm<|au (l₁:=_::_::_::_::_::_::_::_::_::_::_::Dy) (l₂:=[_])
 refine hS.dQ ?_;refine hS.dQ ?_;refine hS.aY ?_;refine dD ?_;rw[show((x.fs.length:Int)-1)=(fs'.length:Int) by omega];refine PU.of (uB aa) ?_;rw[aI];refine aF ?_;refine hS.ld 0 rfl (Fs fs' node nx dH).1 ?_;obtain⟨r1,o1,hl1,e1,hr1,hc1⟩:=hU1.1.Wd Cq.1 uc;obtain⟨ra,rn,rc,rcs,hrow,hU3,hrn,aie⟩:=hU2 _<|bF hl1;rw[hrow]at hc1
 have top:∀(nx:Nat)(lo:List Int)(sf:List Bool){H':ag},lo.length=n->sf.length=n->SH [] H H' (VB q n {x with lo:=lo,sf:=sf} rf (BZ (fs'++[(node,nx)])++dH) (.slice (some ⟨rf,0,none⟩) x.fs.length<|dV 2) Gg Dy)->∃M,Cy q n {x with lo:=lo,sf:=sf,fs:=fs'++[(node,nx)]} M/\SH [] H H' M:=by
  intro nx lo sf H' g1 g2 g3;have e:x.fs.length=(fs'++[(node,nx)]).length:=by rw[hlen];simp
  rw[e]at g3;exact Pp (x:={x with lo:=lo,sf:=sf,fs:=fs'++[(node,nx)]}) h1 g1 h3 g2 h5 g3
 have aif:∀(nx:Nat)(lo:List Int)(sf:List Bool),nx<=1000000->B5 n {x with lo:=lo,sf:=sf,fs:=fs'++[(node,nx)]}:=by
  intro nx' lo sf hnx;refine⟨hO.cnt,λp hp=>?_,hO.ss,?_,hO.sl,?_⟩
  .rcases bX.1 hp with h|h
   .exact hO.fs p (by rw[hfs];exact bI _ h)
   .rw[aO]at h;subst h;exact⟨Cq.1,hnx⟩
  .have:=hO.sub;rw[hfs]at this;simpa using this
  .show(fs'++[(node,nx')]).length<=x.cnt;rw[ay];simp;omega
 refine zm 15 (I:=λm15 iL H'=>∃(nx:Nat)(lo:List Int)(sf:List Bool),m15=rn-nx/\nx<=1000000/\lo.length=n/\sf.length=n/\SH [] H H' (VB q n {x with lo:=lo,sf:=sf} rf (BZ (fs'++[(node,nx)])++dH) (.slice (some ⟨rf,0,none⟩) x.fs.length<|dV 2) Gg Dy)) ?_ _ ⟨nx,x.lo,x.sf,rfl,Cq.2,h2,h4,hS⟩;clear hS hS0 hC0;rintro m15 y15 rg2 H2 ⟨nx,lo,sf,rfl,hnx,hlo,hsf,hS⟩;refine tl ?_;refine aF ?_;refine hS.BQ 0 rfl (Fs fs' node nx dH).2.1 ?_;rw[e1];refine hS.aY ?_;refine hS.JR hc1 hr1 ?_;refine hS.aY ?_;refine wS ?_;refine ah (λhc2=>?_) λhc2=>?_;rotate_left
 .refine tl ?_;have aih:BZ (fs'++[(node,nx)])++dH=BZ fs'++(vn node::vn nx::dH):=by rw[MS,bg];rfl
  rw[aih]at hS;have hin:node∈x.ss:=hO.sub.subset (by rw[hfs];simp)
  have hO2:∀lo sf,B5 n {x with lo:=lo,sf:=sf,fs:=fs'}:=λlo sf=>by
   refine⟨hO.cnt,λp hp=>hO.fs p (by rw[hfs];exact bI _ hp),hO.ss,?_,hO.sl,by show fs'.length<=x.cnt;omega⟩;have:=hO.sub;rw[hfs,dw]at this;exact(bR _ _).trans this
  have last:∀(lo':List Int)(H':ag)(iL jU:Value) rg,lo'.length=n->SH [] H H' (VB q n {x with lo:=lo',sf:=sf,fs:=fs'} rf (BZ fs'++(vn node::vn nx::dH)) (.slice (some ⟨rf,0,none⟩) fs'.length<|dV 2) Gg Dy)->dJ Pg X (sub iZ [1,1,1,1,1,1,1,1,0,1,0,0,1,1,0,0,1,0,1,1,0,0,1,0,1,1,1,1,1]) (iM (.slice ua n uc) (.slice none 0 0) (pr q.m) (pr q.l) (pr q.o) (pr q.s) (pr q.st) (pr q.fr) (pr q.ct) (vH q) (GH q) gK (.pointer<|some ⟨rf,fs'.length*2,none⟩) (vn node) iL jU (vn n) zO rg H') (j3 3<|Ah (kD (.slice ua n uc) (.slice none 0 0) (pr q.m) (pr q.l) (pr q.o) (pr q.s) (pr q.st) (pr q.fr) (pr q.ct) (vH q) (GH q) gK (vn n) zO λm gq lu iL jU H'=>∃x M,Cy q n x M/\B5 n x/\SH [] H H' M/\m=2*List.count 0 x.ms+x.fs.length) m Kp):=by
   intro lo' H' iL jU rg afa hS;refine tl ?_
   repeat(first|(refine hS.aY ?_)|(refine hS.kI ?_))
   refine PU.of (m_ Cq.1) ?_;rw[aI];refine hS.BQ 6 rfl (v:=vi<|lo'[node]'aa) (by show(lo'.map vi)[node]?=_;rw[aR,ae (show node<lo'.length by omega)];rfl) ?_
   repeat(first|(refine hS.aY ?_)|(refine hS.kI ?_))
   refine PU.of (m_ Cq.1) ?_;rw[aI];refine hS.BQ 5 rfl (v:=vi<|x.ms[node]'aa) (by show(x.ms.map vi)[node]?=_;rw[aR,ae (show node<x.ms.length by omega)];rfl) ?_;refine hS.aY ?_;refine wS ?_;obtain⟨M2,hC2,hS2⟩:=Pp (x:={x with lo:=lo',sf:=sf,fs:=fs'}) h1 afa h3 hsf h5 hS;refine ah (λhc6=>?_) λhc6=>?_;rotate_left
   .exact⟨2*x.ms.count 0+fs'.length,aa,_,_,_,_,_,_,rfl,_,M2,hC2,hO2 _ _,hS2,rfl⟩
   have abH:SH [] H H' (M2++[]):=by rw[aQ];exact hS2
   show az Pg X 185 [vn node,pr q.st,pr q.o,pr q.s] H' _;refine az.mono (ZD hn hC2 (hO2 _ _) Cq.1 hin abH) ?_;rintro v H4 ⟨p,op,sf',M3,hp,hlast,hC3,tu⟩;rw[aQ]at tu;refine⟨2*x.ms.count 0+fs'.length,aa,_,_,_,_,_,_,rfl,_,M3,hC3,?_,tu,rfl⟩;have hO3:=hO2 lo' sf;refine⟨hO3.cnt,hO3.fs,λj hj=>hO.ss j<|iD hj,?_,?_,hO3.fl⟩
   .have:=hO.sub;rw[hfs,dw]at this;exact ZE this hp hlast
   .show(x.ss.take p).length<=x.cnt;have:=hO.sl;rw[eH];omega
  refine hS.dQ ?_;refine hS.dQ ?_;refine hS.aY ?_;refine dD ?_;rw[show((x.fs.length:Int)-1)=(fs'.length:Int) by omega];refine PU.of (CZ aa) ?_;refine hS.kJ λHn hS=>?_;refine hS.dQ ?_;refine hS.aY ?_;have hS:SH [] H Hn (VB q n {x with lo:=lo,sf:=sf,fs:=fs'} rf (BZ fs'++(vn node::vn nx::dH)) (.slice (some ⟨rf,0,none⟩) fs'.length<|dV 2) Gg Dy):=hS;refine ah (λhc6=>?_) λhc6=>?_;rotate_left
  .exact last _ _ _ _ _ hlo hS
  obtain⟨fs2,p2,aeB⟩:∃fs2 p,fs'=fs2++[p]:=by
   rcases qA fs' with h|⟨l,p,h⟩
   .rw[h]at hc6;simp at hc6
   .exact⟨l,p,by rw[h,qz]⟩
  obtain⟨up,un⟩:=p2;have hup:up<n:=(hO.fs (up,un) (by rw[hfs,aeB];simp)).1;have agN:fs'.length=fs2.length+1:=by rw[aeB];simp
  have hrow:BZ fs'=BZ (fs2++[(up,un)]):=by rw[aeB]
  refine hS.dQ ?_;refine hS.dQ ?_;refine hS.aY ?_;refine dD ?_;rw[show((fs'.length:Int)-1)=(fs2.length:Int) by omega];refine PU.of (uB aa) ?_;rw[aI];refine aF ?_;refine hS.ld 0 rfl (v:=vn up) (by rw[hrow];exact(Fs fs2 up un _).1) ?_
  repeat(first|(refine hS.aY ?_)|(refine hS.kI ?_))
  refine PU.of (m_ hup) ?_;rw[aI];refine hS.BQ 6 rfl (v:=vi<|lo[up]'aa) (by show(lo.map vi)[up]?=_;rw[aR,ae (show up<lo.length by omega)];rfl) ?_
  repeat(first|(refine hS.aY ?_)|(refine hS.kI ?_))
  refine PU.of (m_ Cq.1) ?_;rw[aI];refine hS.BQ 6 rfl (v:=vi<|lo[node]'aa) (by show(lo.map vi)[node]?=_;rw[aR,ae (show node<lo.length by omega)];rfl) ?_;refine hS.aY ?_;refine PU.of (m_ hup) ?_;rw[aI];have n5:q.l≠q.dl:=hS.nq 3 6 rfl rfl aa;generalize min (lo[up]'aa) (lo[node]'aa)=mn;refine hS.QW 6 rfl rfl (by rw[aC];show up+1<=lo.length;omega) rfl λH4 hS=>?_;refine splitK (λK hK=>?_) ?_
  .simp only[cB,dn];generalize q.l=ql at n5|-;generalize q.dl=dl at n5|-;apply q_ n5 (by intros;rfl) (by kernel_rfl) (by kernel_rfl) hK
  have hS:SH [] H _ ((VB q n {x with lo:=lo,sf:=sf,fs:=fs'} rf (BZ fs'++(vn node::vn nx::dH)) (.slice (some ⟨rf,0,none⟩) fs'.length<|dV 2) Gg Dy).set 6 (q.dl,3,splice (lo.map vi) up [vi mn])):=hS;rw[lM vi aa]at hS;exact last (lo.set up mn) _ _ _ _ (by rw[bJ];exact hlo) hS
 refine hS.JR hc1 hr1 ?_;refine hS.aY ?_;refine hS.BQ 0 rfl (Fs fs' node nx dH).2.1 ?_;obtain⟨r2,o2,hl2,e2,hr2,hc2'⟩:=hU3.1.Wd (show nx<rn by omega) rc;obtain⟨to,hto,_⟩:=aie _<|bF hl2;rw[hto]at hc2';rw[e2];refine hS.aY ?_;refine hS.JR hc2' hr2 ?_;refine hS.aY ?_;refine wS ?_;refine hS.ld 0 rfl (Fs fs' node nx dH).2.1 ?_;refine bE ?_;refine hS.st 0 rfl rfl (by rw[ay,zh,ay];show fs'.length*2+1+1<=(fs'.length+1)*2+dH.length;omega) rfl λH3 hS=>?_;have hS:SH [] H H3 (VB q n {x with lo:=lo,sf:=sf} rf (splice (BZ (fs'++[(node,nx)])++dH) (fs'.length*2+1) [vn (nx+1)]) (.slice (some ⟨rf,0,none⟩) x.fs.length<|dV 2) Gg Dy):=hS;rw[(Fs fs' node nx dH).2.2]at hS
 have fin:∀(b:Bool) rg,BA rg 83=.bool b->(b=false->0<=to/\to<n)->dJ Pg X (sub iZ [1,1,1,1,1,1,1,1,0,1,0,0,1,1,0,0,1,0,1,1,0,0,1,0,1,1,0,0,0,1,0,1,1,0,1]) (iM (.slice ua n uc) (.slice none 0 0) (pr q.m) (pr q.l) (pr q.o) (pr q.s) (pr q.st) (pr q.fr) (pr q.ct) (vH q) (GH q) gK (.pointer<|some ⟨rf,fs'.length*2,none⟩) (vn node) (vi to) jU (vn n) zO rg H3) (j3 6<|j3 5<|Ah (jm (.slice ua n uc) (.slice none 0 0) (pr q.m) (pr q.l) (pr q.o) (pr q.s) (pr q.st) (pr q.fr) (pr q.ct) (vH q) (GH q) gK (.pointer<|some ⟨rf,fs'.length*2,none⟩) (vn node) jU (vn n) zO λm15 iL H'=>∃(nx:Nat)(lo:List Int)(sf:List Bool),m15=rn-nx/\nx<=1000000/\lo.length=n/\sf.length=n/\SH [] H H' (VB q n {x with lo:=lo,sf:=sf} rf (BZ (fs'++[(node,nx)])++dH) (.slice (some ⟨rf,0,none⟩) x.fs.length<|dV 2) Gg Dy)) (rn-nx)<|j3 4<|nR Pg X (sub iZ [1,1,1,1,1,1,1,1,0,1,0,0,1,1,0,0,1,0,1,1,0,0,1,0,1,1,1])<|j3 3<|Ah (kD (.slice ua n uc) (.slice none 0 0) (pr q.m) (pr q.l) (pr q.o) (pr q.s) (pr q.st) (pr q.fr) (pr q.ct) (vH q) (GH q) gK (vn n) zO λm gq lu iL jU H'=>∃x M,Cy q n x M/\B5 n x/\SH [] H H' M/\m=2*List.count 0 x.ms+x.fs.length) m Kp):=by
  intro b rg hb hto;refine tl ?_;rw[hb];refine aF ?_
  have BX:∀xD H' lo' sf',lo'.length=n->sf'.length=n->SH [] H H' (VB q n {x with lo:=lo',sf:=sf'} rf (BZ (fs'++[(node,nx+1)])++dH) (.slice (some ⟨rf,0,none⟩) x.fs.length<|dV 2) Gg Dy)->∃m_1,m_1<rn-nx/\jm (.slice ua n uc) (.slice none 0 0) (pr q.m) (pr q.l) (pr q.o) (pr q.s) (pr q.st) (pr q.fr) (pr q.ct) (vH q) (GH q) gK (.pointer<|some ⟨rf,fs'.length*2,none⟩) (vn node) jU (vn n) zO (λm15 iL H'=>∃(nx:Nat)(lo:List Int)(sf:List Bool),m15=rn-nx/\nx<=1000000/\lo.length=n/\sf.length=n/\SH [] H H' (VB q n {x with lo:=lo,sf:=sf} rf (BZ (fs'++[(node,nx)])++dH) (.slice (some ⟨rf,0,none⟩) x.fs.length<|dV 2) Gg Dy)) m_1 (iM (.slice ua n uc) (.slice none 0 0) (pr q.m) (pr q.l) (pr q.o) (pr q.s) (pr q.st) (pr q.fr) (pr q.ct) (vH q) (GH q) gK (.pointer<|some ⟨rf,fs'.length*2,none⟩) (vn node) (vi to) jU (vn n) zO xD H'):=
   λxD H' lo' sf' g1 g2 g3=>⟨rn-(nx+1),aa,_,_,_,rfl,nx+1,lo',sf',rfl,aa,g1,g2,g3⟩
  refine bO (λhb2=>?_) λhb2=>?_
  .exact BX _ _ lo sf hlo hsf hS
  obtain⟨ht0,ht1⟩:=hto hb2;obtain⟨t,rfl⟩:∃j:Nat,to=j:=⟨to.toNat,aa⟩;have htn:t<n:=by omega
  refine ah (λhc4=>?_) λhc4=>?_
  .refine hS.dQ ?_;refine PU.of (m_ Cq.1) ?_;rw[aI];refine hS.st 9 rfl rfl (by rw[aC];show node+1<=sf.length;omega) rfl λH4 hS=>?_;refine BX _ _ lo (sf.set node true) hlo (by rw[bJ];exact hsf) ?_;have hS:SH [] H H4 (VB q n {x with lo:=lo,sf:=sf} rf (BZ (fs'++[(node,nx+1)])++dH) (.slice (some ⟨rf,0,none⟩) x.fs.length<|dV 2) Gg Dy|>.set 9 (q.ds,4,splice (sf.map .bool) node [.bool true])):=hS;rw[lM Value.bool aa]at hS;exact hS
  refine hS.dQ ?_;refine PU.of (m_ htn) ?_;rw[aI];refine hS.ld 5 rfl (v:=vi<|x.ms[t]'aa) (by show(x.ms.map vi)[t]?=_;rw[aR,ae (show t<x.ms.length by omega)];rfl) ?_;refine aF ?_;refine ah (λV6=>?_) λV6=>?_
  .have hm0:x.ms[t]?=some 0:=by rw[ae (show t<x.ms.length by omega),V6]
   obtain⟨M2,hC2,hS2⟩:=top (nx+1) lo sf hlo hsf hS;have hO2:=aif (nx+1) lo sf aa;have hS2:SH [] H H3 (M2++[]):=by rw[aQ];exact hS2
   show az Pg X 184 [vn t,pr q.ct,pr q.m,pr q.l,pr q.o,pr q.st,pr q.fr] H3 _;refine az.mono (Jm hn hC2 hO2 htn hm0 hS2) ?_;rintro v H4 ⟨M3,hC3,tu⟩;rw[aQ]at tu;have hct:=Dq x.ms t ((x.cnt+1:Nat):Int) hm0 aa;refine⟨2*(x.ms.set t ((x.cnt+1:Nat):Int)).count 0+(fs'.length+2),aa,_,_,_,_,_,_,rfl,_,M3,hC3,hO2.begin htn hm0,tu,?_⟩;show _=2*(x.ms.set t ((x.cnt+1:Nat):Int)).count 0+((fs'++[(node,nx+1)])++[(t,0)]).length;rw[ay,ay];simp
  refine hS.dQ ?_;refine PU.of (m_ htn) ?_;rw[aI];refine hS.ld 7 rfl (v:=.bool<|x.op[t]'aa) (by show(x.op.map Value.bool)[t]?=_;rw[aR,ae (show t<x.op.length by omega)];rfl) ?_;refine aF ?_;refine bO (λhb6=>?_) λhb6=>?_;rotate_left
  .exact BX _ _ lo sf hlo hsf hS
  repeat(first|(refine hS.aY ?_)|(refine hS.kI ?_))
  refine PU.of (m_ Cq.1) ?_;rw[aI];refine hS.BQ 6 rfl (v:=vi<|lo[node]'aa) (by show(lo.map vi)[node]?=_;rw[aR,ae (show node<lo.length by omega)];rfl) ?_
  repeat(first|(refine hS.aY ?_)|(refine hS.kI ?_))
  refine PU.of (m_ htn) ?_;rw[aI];refine hS.BQ 5 rfl (v:=vi<|x.ms[t]'aa) (by show(x.ms.map vi)[t]?=_;rw[aR,ae (show t<x.ms.length by omega)];rfl) ?_;refine hS.aY ?_;refine PU.of (m_ Cq.1) ?_;rw[aI];have n1:q.m≠q.l:=hS.nq 2 3 rfl rfl aa;have n2:q.m≠q.dm:=hS.nq 2 5 rfl rfl aa;have n3:q.m≠q.dl:=hS.nq 2 6 rfl rfl aa;have n4:q.l≠q.dm:=hS.nq 3 5 rfl rfl aa;have n5:q.l≠q.dl:=hS.nq 3 6 rfl rfl aa;have n6:q.dm≠q.dl:=hS.nq 5 6 rfl rfl aa;generalize min (lo[node]'aa) (x.ms[t]'aa)=mn;refine hS.QW 6 rfl rfl (by rw[aC];show node+1<=lo.length;omega) rfl λH4 hS=>?_;refine splitK (λK hK=>?_) ?_
  .simp only[cB,dn];generalize q.m=qm at n1 n2 n3|-;generalize q.l=ql at n1 n4 n5|-;generalize q.dm=dm at n2 n4 n6|-;generalize q.dl=dl at n3 n5 n6|-;apply ad7 n1 n2 n3 n4 n5 n6 (by intros;rfl) (by kernel_rfl) (by kernel_rfl) hK
  refine BX _ _ (lo.set node mn) sf (by rw[bJ];exact hlo) hsf ?_;have hS:SH [] H _ ((VB q n {x with lo:=lo,sf:=sf} rf (BZ (fs'++[(node,nx+1)])++dH) (.slice (some ⟨rf,0,none⟩) x.fs.length<|dV 2) Gg Dy).set 6 (q.dl,3,splice (lo.map vi) node [vi mn])):=hS;rw[lM vi aa]at hS;exact hS
 refine ah (λhc3=>?_) λhc3=>?_
 .exact fin _ _ rfl λh=>by cases h
 .exact fin _ _ rfl λh=>by have:=eD h;omega
end
section
variable{S:List Nat}{F:Nat->Prop}
theorem _root_.Go.Ae.SH.VD(hS:SH S H0 H L)(k:∀H1 r,SH S H0 (hM H H1) ((r,e,z)::L)->S8 H H1=cl 5->K (.pointer<|some ⟨r,0,none⟩) H1):ME (Go.Ae.iI e z<|Go.Ae.hN H) K:=
 ME.of rfl (k _ _ (hS.FL e z)<|D5<|Ext.new _ _)
theorem _root_.Go.Ae.SH.mkD(hS:SH S H0 H L)(hn:n<=16777216)(k:∀H1 r,SH S H0 (hM H H1) ((r,e,mg z n)::L)->S8 H H1=cl 5->K (.slice (some ⟨r,0,none⟩) n n) H1):ME (Go.Ae.mkS e z (vn n) (vn n)<|Go.Ae.hN H) K:=by
 refine ME.of ?_<|k _ _ (hS.FL e<|mg z n)<|D5<|Ext.new _ _;show(ax (w_<|vn n) λn'=>ax (w_<|vn n) λm=>gd (Nat.ble n' m&&Nat.ble m 16777216&&true) _)=_;show gd (Nat.ble n n&&Nat.ble n 16777216&&true) _=_;rw[av (aj n),av hn];rfl
def RG(b n:Nat)(H:ag)(v:Value):Prop:=∃a c,∃bs:List Bool,v=.slice a n c/\bs.length=n/\jT (b<=·) 4 H a n 1 (bs.map .bool)
theorem Pt{K:Nat}(hn:n<=200)(hK:K<=1000000)(hU:T3 n K Q H<|.slice ua n uc)(x:Wh)(M:List cz)(hC:Cy q n x M)(hO:B5 n x)(hf:x.fs=[])(gK gq lu iL jU:Value)(rg)(H1:ag)(hS:SH [] H H1 M):
 dJ Pg X (.loop<|sub iZ [1,1,1,1,1,1,1,1,0,1,0,0]) (iM (.slice ua n uc) (.slice none 0 0) (pr q.m) (pr q.l) (pr q.o) (pr q.s) (pr q.st) (pr q.fr) (pr q.ct) (vH q) (GH q) gK gq lu iL jU (vn n) (vi 0) rg H1) (j3 0<|nR Pg X (sub iZ [1,1,1,1,1,1,1,1,1])<|f_ Pg [.tmp 2]<|Q1 (λv H'=>RG H.next n H' v) H):=by
 refine lp6 12 13 14 15 16 33 (I:=λm gK gq lu iL jU zO H'=>∃x M i,zO=vn i/\i+m=n/\Cy q n x M/\B5 n x/\x.fs=[]/\SH [] H H' M) ?_ n ⟨x,M,0,rfl,aa,hC,hO,hf,hS⟩;clear hC hO hf hS x M;rintro m y12 y13 y14 y15 y16 y33 rg H1 ⟨x,M,i,rfl,him,hC,hO,hf,hS⟩;refine tl ?_;refine aF ?_;have hC0:=hC;have hS0:=hS;obtain⟨Gg,RF,Dy,Po,rfl,h1,h2,h3,h4,h5,h6⟩:=hC;refine ah (λhc=>?_) λhc=>?_;rotate_left
 .refine tl ?_;refine hS.dQ ?_;have hd:=hS.zN<|aA (i:=8) rfl;refine rr ?_;refine⟨⟨_,_,x.sf,rfl,h4,jT.one hS (aA (i:=8) rfl) (by rw[aC,h4,bG]) hd⟩,hS.ext⟩
 refine dJ.scope (R:=λ_ _ _=>False) (λ_ _ _ _ h=>h.elim) 0 ?_
 have fin:∀x M gq lu iL jU rg H1,Cy q n x M->B5 n x->SH [] H H1 M->dJ Pg X (sub iZ [1,1,1,1,1,1,1,1,0,1,0,0,1,1,0,0,1,0,1]) (iM (.slice ua n uc) (.slice none 0 0) (pr q.m) (pr q.l) (pr q.o) (pr q.s) (pr q.st) (pr q.fr) (pr q.ct) (vH q) (GH q) (vn i) gq lu iL jU (vn n) (vn i) rg H1) (X5 (sub iZ [1,1,1,1,1,1,1,1,0,1,0,0,1,1,0,0,1,0]) (λ_ _ _=>False) 0<|j3 1<|nR Pg X (sub iZ [1,1,1,1,1,1,1,1,0,1,0,0,1,1,1])<|Ah (vX (.slice ua n uc) (.slice none 0 0) (pr q.m) (pr q.l) (pr q.o) (pr q.s) (pr q.st) (pr q.fr) (pr q.ct) (vH q) (GH q) (vn n) λm gK gq lu iL jU zO H'=>∃x M i,zO=vn i/\i+m=n/\Cy q n x M/\B5 n x/\x.fs=[]/\SH [] H H' M) m<|j3 0<|nR Pg X (sub iZ [1,1,1,1,1,1,1,1,1])<|f_ Pg [.tmp 2]<|Q1 (λv H'=>RG H.next n H' v) H):=by
  intro x M gq lu iL jU rg H1 hC hO hS;refine tl ?_;refine Pq hn hK hU x M hC hO _ _ _ _ _ _ hS λx M gq lu iL jU rg H1 hC hO hf hS=>?_;refine aF ?_;rw[X6];refine aF ?_;refine tl ?_;refine aF ?_;refine bE ?_;exact⟨n-(i+1),aa,_,_,_,_,_,_,_,_,rfl,x,M,i+1,uN,aa,hC,hO,hf,hS⟩
 refine tl ?_;refine hS.dQ ?_;have hin:i<n:=by omega
 refine PU.of (m_ hin) ?_;rw[aI];refine hS.ld 4 rfl (v:=vi<|x.ms[i]'aa) (by show(x.ms.map vi)[i]?=_;rw[aR,ae (show i<x.ms.length by omega)];rfl) ?_;refine aF ?_;refine ah (λV6=>?_) λV6=>?_;rotate_left
 .exact fin x _ _ _ _ _ _ _ hC0 hO hS
 have hm0:x.ms[i]?=some 0:=by rw[ae (show i<x.ms.length by omega),V6]
 have hS2:=hS;rw[<-aQ (_::_)]at hS2;show az Pg X 184 [vn i,pr q.ct,pr q.m,pr q.l,pr q.o,pr q.st,pr q.fr] H1 _;refine az.mono (Jm hn hC0 hO hin hm0 hS2) ?_;rintro v H4 ⟨M3,hC3,tu⟩;rw[aQ]at tu;exact fin _ M3 _ _ _ _ _ _ hC3 (hO.begin hin hm0) tu
theorem Pv(hw:Wf H){K:Nat}(hn:n<=200)(hK:K<=1000000)(hU:T3 n K Q H v):az Pg X 153 [v] H (Q1 (λv H'=>RG H.next n H' v) H):=by
 obtain⟨b,ua,uc,vs,rfl,hU1,hU2⟩:=hU;have hU:T3 n K Q H (.slice ua n uc):=⟨b,ua,uc,vs,rfl,hU1,hU2⟩;have hS:=SH.refl hw;refine ce [0,2,3,4,5,6,7,8,9,10,11,12,13,14,15,16,32,33] ?_;refine tl ?_;refine aF ?_;refine hS.mkD aa λH1 dm hS f1=>?_
 try simp only[eF hS.wf]
 refine hS.mkD aa λH2 dl hS f2=>?_
 try simp only[eF hS.wf]
 refine hS.VD λH3 m hS f3=>?_
 try simp only[eF hS.wf]
 refine hS.VD λH4 l hS f4=>?_
 repeat(refine hS.qJ λHn hS=>?_)
 have n1:l≠m:=hS.nq 0 1 rfl rfl aa;refine splitK (λK hK=>?_) ?_
 .simp only[f1,f2,f3,f4,dn];apply q_ (a:=l) (b:=m) n1 (by intros;rfl) (by kernel_rfl) (by kernel_rfl) hK
 generalize hM (hM (hM (hM (hM (hM H H1) H2) H3) H4) _) Hn=H5 at*;refine hS.mkD aa λH6 dO hS g1=>?_
 try simp only[eF hS.wf]
 refine hS.mkD aa λH7 ds hS g2=>?_
 try simp only[eF hS.wf]
 refine hS.VD λH8 o hS g3=>?_
 try simp only[eF hS.wf]
 refine hS.VD λH9 s hS g4=>?_
 repeat(refine hS.qJ λHn hS=>?_)
 have n2:s≠o:=hS.nq 0 1 rfl rfl aa;refine splitK (λK hK=>?_) ?_
 .simp only[g1,g2,g3,g4,dn];apply q_ (a:=s) (b:=o) n2 (by intros;rfl) (by kernel_rfl) (by kernel_rfl) hK
 refine hS.iI λHn st hS=>?_;refine hS.iI λHn fr hS=>?_;refine hS.iI λHn ct hS=>?_;refine hS.kJ λHn hS=>?_;have hz:mg [.int .i64 0] n=(List.replicate n (0:Int)).map vi:=by rw[pN,oM]
 have hb:mg [.bool false] n=(List.replicate n false).map Value.bool:=by rw[pN,oM]
 rw[hz,hb]at hS;have hS:SH [] H Hn [(ct,3,[vn 0]),(fr,253,[.slice none 0 0]),(st,23,[.slice none 0 0]),(s,36,[.slice (some ⟨ds,0,none⟩) n n]),(o,36,[.slice (some ⟨dO,0,none⟩) n n]),(ds,4,(List.replicate n false).map Value.bool),(dO,4,(List.replicate n false).map Value.bool),(l,23,[.slice (some ⟨dl,0,none⟩) n n]),(m,23,[.slice (some ⟨dm,0,none⟩) n n]),(dl,3,(List.replicate n (0:Int)).map vi),(dm,3,(List.replicate n (0:Int)).map vi)]:=hS
 have hS:=hS.perm (L':=[(ct,3,[vn 0]),(m,23,[.slice (some ⟨dm,0,none⟩) n n]),(l,23,[.slice (some ⟨dl,0,none⟩) n n]),(o,36,[.slice (some ⟨dO,0,none⟩) n n]),(dm,3,(List.replicate n (0:Int)).map vi),(dl,3,(List.replicate n (0:Int)).map vi),(dO,4,(List.replicate n false).map Value.bool),(s,36,[.slice (some ⟨ds,0,none⟩) n n]),(ds,4,(List.replicate n false).map Value.bool),(st,23,[.slice none 0 0]),(fr,253,[.slice none 0 0])])
  (List.Perm.cons _<|oK [_,_,_,_,_,_,_] [_,_]<|oK [_,_,_,_,_,_] [_,_]<|oK [_,_,_] [_,_,_,_]<|oK [_,_,_,_,_,_] []<|oK [_,_,_,_,_] []<|oK [_,_,_,_] []<|oK [_,_] [_]<|oK [_,_] []<|oK [_] []<|rT _)
 exact Pt (q:=⟨ct,m,l,o,dm,dl,dO,s,ds,st,fr⟩) hn hK hU ⟨0,List.replicate n 0,List.replicate n 0,List.replicate n false,List.replicate n false,[],[]⟩ _
  ⟨.slice none 0 0,.slice none 0 0,[],[],rfl,by simp,by simp,by simp,by simp,GB.nil _ _,GB.nil _ _⟩
  ⟨by simp,(λp h=>nomatch h),(λj h=>nomatch h),List.Sublist.refl _,aj _,aj _⟩ rfl _ _ _ _ _ _ _ hS
end
section
variable{S:List Nat}{F:Nat->Prop}
def Fa(cs:List Value):Prop:=∀i,i<cs.length/3->∃(z a b:Int),El cs 3 i=[vi z,vi a,vi b]/\z≠0
theorem Fa.app(h:Fa cs)(hl:cs.length %3=0){z:Int}(hz:z≠0)(a b:Int):Fa (cs++[vi z,vi a,vi b]):=by
 intro i hi;have hE:=ze (es:=3) (n:=cs.length/3) (cs:=cs) aa (xs:=[vi z,vi a,vi b]) rfl;rw[ay]at hi;simp only[bH,lz]at hi;rcases aN i (cs.length/3)with h'|h'
 .rw[hE.1 i h'];exact h i h'
 .obtain rfl:i=cs.length/3:=by omega
  exact⟨z,a,b,hE.2,hz⟩
theorem abJ(hg:GB 135 3 x cs gb)(hF:Fa cs)(hl:cs.length<=10000000)(hS:SH S H0 H<|Pf++gb){z a b:Int}(hz:z≠0){K:Value->Value->ag->Prop}(kk:∀w v' H' gY,GB 135 3 v' (cs++[vi z,vi a,vi b]) gY->Fa (cs++[vi z,vi a,vi b])->SH S H0 H' (Pf++gY)->K w v' H'):
 ME (bS 135 [.int .i64 0,.int .i64 0,.int .i64 0] 3 1 [(0,.agg ⟨[vi z,vi a,vi b]⟩)] H) λw H5=>ME (Bz 135 3 x w H5) (K w):=by
 have hl3:cs.length %3=0:=by
  rcases hg with⟨_,rfl,_⟩|⟨r,n,dH,_,e,_⟩
  .rfl
  .omega
 refine hS.bS rfl rfl rfl aa λH1 rx hS1=>?_;have hS1:=hS1.perm<|List.Perm.cons _<|au (l₁:=Pf);obtain⟨v',H6,gY,e1,hg',wB,_⟩:=hg.app (m:=0) (cx:=1) hS1 aa rfl rfl aa aa;refine ME.of e1<|kk _ v' H6 gY hg' (hF.app hl3 hz a b)<|wB.perm au
def Eu(v:Value)(H:ag)(P:Prop):Prop:=∃a n c cs,v=.slice a n c/\Fl H a n 3 cs/\Fa cs/\(n=0->P)
theorem agO{rn:Nat}{P:Prop}(hG:Gr b H ra rn rcs na nn eG)(hnm:MQ rn mm)(hB:∀j,j<rn->0<=rootOf rcs j/\rootOf rcs j<nn)(H1:ag)(hm:qx H1 r mm)(hS:SH [] H H1<|(rg,69,[.slice ra rn rc,.slice na nn nc])::gb)(hg:GB 135 3 x3 cs gb)(hF:Fa cs)(hl:cs.length<=9000000)(hu:cs=[]->P)(x2 x5 x6 x7 x8 x9 dR fC gK x30 x31 x32 Gu C8 x52 x88 x89 x90:Value)(l7):
 dJ Pg X (sub Av [1,1,1,1,1,1,1]) (yU (gV ra rn rc na nn nc) (.pointer<|some ⟨rg,0,none⟩) x2 x3 (.map<|some r) x5 x6 x7 x8 x9 dR fC gK x30 x31 x32 Gu C8 x52 x88 x89 x90 l7 H1) (f_ Pg [.tmp 2]<|Q1 (λv H'=>Eu v H' P) H):=by
 have g2:=hG.2.1;refine tl ?_;refine hS.eU ?_;refine az.mono (Pm hS.wf (hG.ex hS.ext) hm hnm hB) ?_;rintro v H2 ⟨hv,hx2⟩;have hS:=hS.call hx2;refine az.mono (Pv hS.wf (K:=500000) (Q:=InR rn) aa aa ⟨_,hv⟩) ?_;rintro v H3 ⟨⟨ba,bc,bs,rfl,hbl,hbf⟩,hx3⟩;have hS:=hS.call hx3;refine aF ?_;have hlt:=hS.lt;have hS0:=hS;have hS:=hS0.base;refine PV 3 11 12 90 (I:=λm y3 y11 y12 y90 H'=>∃(i:Nat)(cs:List Value)(gb:List cz),y90=vn i/\i+m=rn/\GB 135 3 y3 cs gb/\Fa cs/\cs.length<=9000000+3*i/\(cs=[]->P)/\SH _ H3 H' ((rg,69,[.slice ra rn rc,.slice na nn nc])::gb)) ?_ rn ⟨0,cs,gb,rfl,aa,hg,hF,aa,hu,hS⟩;have hty:=hS0.Gt (ty:=4) (by simp[hg.all]);clear hS hg hF hl hu;rintro m y3 y11 y12 y90 RE H4 ⟨i,cs',gY,rfl,him,hg,hF,hl,hu,hS⟩;refine tl ?_;refine aF ?_;refine ah (λhc=>?_) λhc=>?_;rotate_left
 .refine tl ?_;obtain⟨a,n,c,rfl,hcl,hf⟩:=hg.Nn (F:=λ_=>True) (hS.perm<|au (l₁:=[_])) λ_ _=>trivial;refine rr ?_;exact⟨⟨a,n,c,cs',rfl,hf.1,hF,λh=>hu (by subst h;exact dU aa)⟩,(hS0.over hS).ext⟩
 have hb4:=hbf.stay hS.ext λq hq=>.inr<|hty q hq;obtain⟨r',o',hl',e',hr',Jj⟩:=hb4.1.Wd (show i<rn by omega) bc;rw[e'];refine aF ?_;rw[qj]at Jj;refine ME.ld Jj ?_;refine aF ?_;refine bO (λhb=>?_) λhb=>?_
 .refine PU.b3 rfl ?_;refine abJ (Pf:=[_]) hg hF aa hS (z:=20) (by decide) λw v' H5 gb5 hg5 hF5 hS5=>?_;refine bE ?_;refine⟨rn-(i+1),aa,_,_,_,_,_,_,rfl,i+1,_,gb5,uN,aa,hg5,hF5,by rw[ay];show cs'.length+3<=_;omega,λh=>absurd h<|by simp,hS5⟩
 .refine bE ?_;exact⟨rn-(i+1),aa,_,_,_,_,_,_,rfl,i+1,cs',gY,uN,aa,hg,hF,aa,hu,hS⟩
theorem agP{rn:Nat}{P:Prop}(hG:Gr b H ra rn rcs na nn eG)(hnm:MQ rn mm)(hB:∀j,j<rn->0<=rootOf rcs j/\rootOf rcs j<nn)(H1:ag)(hm:qx H1 r mm)(hS:SH [] H H1<|(rg,69,[.slice ra rn rc,.slice na nn nc])::gb)(hg:GB 135 3 x3 cs gb)(hF:Fa cs)(hl:cs.length<=1000)(hu:cs=[]->P)(x2 x5 x6 x7 x8 x9 dR fC gK x30 x31 x32 Gu C8 x52 x88 x89 x90:Value)(l7):
 dJ Pg X (sub Av [1,1,1,1,1,1]) (yU (gV ra rn rc na nn nc) (.pointer<|some ⟨rg,0,none⟩) x2 x3 (.map<|some r) x5 x6 x7 x8 x9 dR fC gK x30 x31 x32 Gu C8 x52 x88 x89 x90 l7 H1) (f_ Pg [.tmp 2]<|Q1 (λv H'=>Eu v H' P) H):=by
 have g2:=hG.2.1;have g5:=hG.2.2.2.2.1;refine tl ?_
 repeat(first|(refine hS.aY ?_)|(refine hS.dQ ?_))
 have hS0:=hS;have hnr:=hS0.Dm hm;have hS:=hS0.base;refine lp6 3 7 8 9 10 52 (I:=λm y3 y7 y8 y9 y10 y52 H'=>∃(i:Nat)(cs:List Value)(gb:List cz),y52=vn i/\i+m=rn/\GB 135 3 y3 cs gb/\Fa cs/\cs.length<=1000+12006*i/\(cs=[]->P)/\SH _ H1 H' ((rg,69,[.slice ra rn rc,.slice na nn nc])::gb)) ?_ rn ⟨0,cs,gb,rfl,aa,hg,hF,aa,hu,hS⟩;clear hS hg hF hl hu;rintro m y3 y7 y8 y9 y10 y52 RE H4 ⟨i,cs',gY,rfl,him,hg,hF,hl,hu,hS⟩;refine tl ?_;refine aF ?_;refine ah (λhc=>?_) λhc=>?_;rotate_left
 .exact agO hG hnm hB H4 (hm.ex hS.ext hnr) (hS0.over hS) hg hF aa hu _ _ _ _ _ _ _ _ _ _ _ _ _ _ _ _ _ _ _
 have hi:i<rn:=by omega
 obtain⟨r1,o1,tQ,u1,f1,w1,c1,a1,e1,hl1,xw,qP,hsz,_⟩:=(hG.ex (hS0.over hS).ext).ru hi rc;rw[e1];refine aF ?_;refine ME.CU xw ?_;refine hS.mO rfl rfl rfl λH5 ru hS hx5=>?_;have hS:SH _ H1 H5 ((ru,141,sZ tQ u1 f1 w1 c1 (rootOf rcs i) a1)::(rg,69,[.slice ra rn rc,.slice na nn nc])::gY):=hS;refine hS.eU ?_;refine az.mono (K4 hS.wf (hG.ex (hS0.over<|SH.drop (A:=[_]) hS).ext) hi hB) ?_;rintro v H6 ⟨⟨k0,rfl,hk0⟩,hx6⟩;have hS:=hS.call hx6;have hb:=hB i hi;refine Vg 3 9 10 (I:=λm' z3 z9 z10 H'=>∃(k:Nat)(cs:List Value)(gb:List cz),z9=vn k/\k+m'=4001/\GB 135 3 z3 cs gb/\Fa cs/\cs.length<=1000+12006*i+3*k/\(cs=[]->P)/\SH _ H1 H' ((ru,141,sZ tQ u1 f1 w1 c1 (rootOf rcs i) a1)::(rg,69,[.slice ra rn rc,.slice na nn nc])::gb)) ?_ (4001-k0) ⟨k0,cs',gY,rfl,aa,hg,hF,aa,hu,hS⟩;clear hS hg hF hl hu;rintro m' z3 z9 z10 aiR H7 ⟨k,cs2,gb2,rfl,hkm,hg,hF,hl,hu,hS⟩;refine tl ?_
 repeat(first|(refine hS.aY ?_)|(refine hS.dQ ?_))
 refine ah (λhc2=>?_) λhc2=>?_;rotate_left
 .refine tl ?_;refine aF ?_;refine bE ?_;exact⟨rn-(i+1),aa,_,_,_,_,_,_,_,_,rfl,i+1,cs2,gb2,uN,aa,hg,hF,aa,hu,SH.drop (A:=[_]) hS⟩
 have hkn:k<nn:=by omega
 have hG7:=hG.ex (hS0.over<|SH.drop (A:=[_]) hS).ext
 repeat(first|(refine hS.aY ?_)|(refine hS.kI ?_)|(refine hS.nN ?_))
 obtain⟨kd,ka,kn,kc,ks',t,rs,at',he,hk1,hk2,hk3,hk4,hk5⟩:=hG7.2.2.2.2.2 k hkn;obtain⟨xa,xn,xc,xcs,rfl,hk6⟩:=id hk5;obtain⟨r2,o2,e2,hl2,Vw,uI⟩:=hG7.no hkn nc he;rw[e2];refine hS.aY ?_;refine ME.CU (H:=hN _) Vw ?_;simp only[eF hS.wf];have hm7:=hm.ex hS.ext hnr;refine az.mono (RA (H:=hN H7) (aj _) (r:=r) (m:=mm) (show Gr b (hN H7) ra rn rcs na nn eG from hG7) hm7 hnm) ?_;rintro v H8 ⟨⟨z,rfl⟩,KY⟩;have hS:=hS.oV KY;refine splitK (λK hK=>?_) ?_
 .exact lN (by simp only[cB,dL KY];rfl) hK
 refine aF ?_;refine bq (λhc3=>?_) λhc3=>?_
 .refine PU.b3 rfl ?_;refine abJ (Pf:=[_,_]) hg hF aa hS hc3 λw v' H5 gb5 hg5 hF5 hS5=>?_;refine bE ?_;exact⟨4001-(k+1),aa,_,_,_,_,_,rfl,k+1,_,gb5,uN,aa,hg5,hF5,by rw[ay];show cs2.length+3<=_;omega,λh=>absurd h<|by simp,hS5⟩
 .refine bE ?_;exact⟨4001-(k+1),aa,_,_,_,_,_,rfl,k+1,cs2,gb2,uN,aa,hg,hF,aa,hu,hS⟩
end
section
variable{S:List Nat}{F:Nat->Prop}
def vI(rcs:List Value)(i:Nat):Bool:=match((El rcs 7 i)[1]?.getD<|.bool false)with
 |.bool b=>b
 |_=>false
theorem BK{w:Bool}{at':Int}(h:El rcs 7 i=sZ nm u f w ch root at'):vI rcs i=u:=by unfold vI;rw[h];rfl
theorem adl{rn:Nat}{P:Prop}(hG:Gr b H ra rn rcs na nn eG)(hB:∀j,j<rn->0<=rootOf rcs j/\rootOf rcs j<nn)(H1:ag)(hS:SH [] H H1<|(rg,69,[.slice ra rn rc,.slice na nn nc])::gb)(hg:GB 135 3 x3 cs gb)(hF:Fa cs)(hl:cs.length<=3)(hu:cs=[]->P)(x2 x4 x5 x6 x7 x8 x9 dR fC gK x30 x31 x32 Gu C8 x52 x88 x89 x90:Value)(l7):
 dJ Pg X (sub Av [1,1,1,1]) (yU (gV ra rn rc na nn nc) (.pointer<|some ⟨rg,0,none⟩) x2 x3 x4 x5 x6 x7 x8 x9 dR fC gK x30 x31 x32 Gu C8 x52 x88 x89 x90 l7 H1) (f_ Pg [.tmp 2]<|Q1 (λv H'=>Eu v H' P) H):=by
 have g2:=hG.2.1;refine tl ?_;refine hS.aY ?_;refine hS.eU ?_;refine az.mono (Rz hS.wf<|hG.ex hS.ext) ?_;rintro v H2 ⟨r,mm,rfl,hm,hnm,hx2,hge⟩;have hS:=hS.call hx2;refine hS.dQ ?_;refine hS.aY ?_;have hS0:=hS;have hnr:=hS0.Dm hm;have hS:=hS0.base;refine PV 3 5 6 32 (I:=λm y3 y5 y6 y32 H'=>∃(i:Nat)(cs:List Value)(gb:List cz),y32=vn i/\i+m=rn/\GB 135 3 y3 cs gb/\Fa cs/\cs.length<=3+3*i/\(cs=[]->P)/\SH _ H2 H' ((rg,69,[.slice ra rn rc,.slice na nn nc])::gb)) ?_ rn ⟨0,cs,gb,rfl,aa,hg,hF,aa,hu,hS⟩;clear hS hg hF hl hu;rintro m y3 y5 y6 y32 RE H4 ⟨i,cs',gY,rfl,him,hg,hF,hl,hu,hS⟩;refine tl ?_;refine aF ?_;refine ah (λhc=>?_) λhc=>?_;rotate_left
 .exact agP hG hnm hB H4 (hm.ex hS.ext hnr) (hS0.over hS) hg hF aa hu _ _ _ _ _ _ _ _ _ _ _ _ _ _ _ _ _ _ _
 have hi:i<rn:=by omega
 obtain⟨r1,o1,tQ,u1,f1,w1,c1,a1,e1,hl1,xw,qP,hsz,_⟩:=(hG.ex (hS0.over hS).ext).ru hi rc;rw[e1];refine aF ?_;refine ME.CU xw ?_;refine hS.mO rfl rfl rfl λH5 ru hS hx5=>?_;have hS:SH _ H2 H5 ((ru,141,sZ tQ u1 f1 w1 c1 (rootOf rcs i) a1)::(rg,69,[.slice ra rn rc,.slice na nn nc])::gY):=hS;refine hS.aY ?_;refine hS.dQ ?_;refine ME.adj (hm.ex hS.ext hnr) zg Pj eqS λf hf hn=>?_
 obtain⟨z,hz⟩:∃z:Int,f.getD (vi 0)=vi z:=by
  cases f with
  |none=>exact⟨0,rfl⟩
  |some v=>
   obtain⟨j,_,e⟩:=hnm _<|hf v rfl;have e:v=vn j:=e;exact⟨j,by rw[e];rfl⟩
 rw[hz];refine aF ?_;refine bq (λhc3=>?_) λhc3=>?_
 .refine PU.b3 rfl ?_;refine abJ (Pf:=[_]) hg hF aa (SH.drop (A:=[_]) hS) (z:=16) (by decide) λw v' H6 gb5 hg5 hF5 hS5=>?_;refine bE ?_;exact⟨rn-(i+1),aa,_,_,_,_,_,_,rfl,i+1,_,gb5,uN,aa,hg5,hF5,by rw[ay];show cs'.length+3<=_;omega,λh=>absurd h<|by simp,hS5⟩
 .refine bE ?_;exact⟨rn-(i+1),aa,_,_,_,_,_,_,rfl,i+1,cs',gY,uN,aa,hg,hF,aa,hu,SH.drop (A:=[_]) hS⟩
def Clean(F:Nat->Prop)(H:ag)(rn:Nat)(rcs:List Value)(nn:Nat)(eG:List Value):Prop:=Jk F H rn rcs nn eG/\vI rcs 0=false
theorem Pw(hw:Wf H){rn:Nat}(hG:Gr b H ra rn rcs na nn eG):az Pg X 114 [gV ra rn rc na nn nc] H (Q1 (λv H'=>Eu v H'<|Clean (b<=·) H rn rcs nn eG) H):=by
 have hS:=SH.refl hw;refine ce [0,1,2,3,4,5,6,7,8,9,10,11,12,30,31,32,50,51,52,88,89,90] ?_;refine tl ?_;refine hS.box rfl λH1 rg hS=>?_;refine hS.aY ?_;refine hS.eU ?_;have hx1:=hS.ext;refine az.mono (Ry hS.wf<|hG.ex hx1) ?_;rintro v H2 ⟨⟨t,rfl,ht⟩,hx⟩;have hS:=hS.call hx;refine aF ?_;refine bO (λhb=>?_) λhb=>?_
 .refine PU.b3 rfl ?_;refine hS.bS rfl rfl rfl aa λH3 rx hS=>?_;have hfl:=jT.one (F:=λ_=>True) (n:=1) (es:=3) hS (aD ..) rfl trivial;refine rr ?_;refine⟨⟨_,1,1,_,rfl,hfl.1,?_,λh=>by cases h⟩,hS.ext⟩;intro i hi;have hi:i<1:=hi;obtain rfl:i=0:=by omega
  exact⟨2,-1,-1,rfl,by decide⟩
 have hs:Jk (b<=·) H rn rcs nn eG:=by
  have h:=ht (by cases t with
   |true=>rfl
   |false=>cases hb)
  exact⟨h.1.back hG hx1,h.2⟩
 refine hS.dQ ?_;obtain⟨r1,o1,tQ,u1,f1,w1,c1,a1,e1,hl1,xw,qP,hsz,he1⟩:=hG.ru (i:=0) hs.2.1 rc;rw[show(Value.int .i64 0)=vn 0 from rfl,e1];refine aF ?_;refine hS.E8 (qP 1 _ aa rfl) hl1 ?_;refine aF ?_;refine bO (λhb2=>?_) λhb2=>?_
 .refine PU.b3 rfl ?_;refine abJ (Pf:=[_]) (GB.nil _ _) (cs:=[]) (λi h=>absurd h<|by simp) (by simp) hS (z:=18) (by decide) λw v' H5 gb5 hg5 hF5 hS5=>?_;exact adl hG hs.1.2 H5 hS5 hg5 hF5 (by simp) (λh=>absurd h<|by simp) _ _ _ _ _ _ _ _ _ _ _ _ _ _ _ _ _ _ _ _
 .exact adl hG hs.1.2 _ hS (GB.nil _ _) (λi h=>absurd h<|by simp) (by simp) (λ_=>⟨hs,by rw[BK he1];exact hb2⟩) _ _ _ _ _ _ _ _ _ _ _ _ _ _ _ _ _ _ _ _
theorem Jn(hw:Wf H){rn:Nat}(hG:Gr b H ra rn rcs na nn eG):az Pg X 74 [gV ra rn rc na nn nc] H (Q1 (λv _=>∃z a c:Int,v=.agg ⟨[vi z,vi a,vi c]⟩/\(z=0->Clean (b<=·) H rn rcs nn eG)) H):=by
 have hS:=SH.refl hw;refine ce [0,1,2,3] ?_;refine tl ?_;refine hS.box rfl λH1 rg hS=>?_;refine hS.iI λHn rf hS=>?_;refine hS.eU ?_;have hx1:=hS.ext;refine az.mono (Pw hS.wf<|hG.ex hx1) ?_;rintro v H2 ⟨⟨a,n,c,cs,rfl,hf,hF,hP⟩,hx⟩;have hS:=hS.call hx;refine aF ?_;refine ah (λhc=>?_) λhc=>?_
 .obtain⟨r,o,e,hr,hrd,_⟩:=hf.read aa (show 0<n by omega) c;rw[show(Value.int .i64 0)=vn 0 from rfl,e];refine aF ?_;obtain⟨z,x,y,he,hz⟩:=hF 0 (by have:=hf.1;omega);rw[he]at hrd;refine ME.CU hrd ?_;refine hS.kJ λHn hS=>?_;refine rr ?_;refine hS.eU ?_;exact⟨⟨z,x,y,rfl,λh=>absurd h hz⟩,hS.ext⟩
 .have hn:n=0:=by omega
  have hcl:=hP hn;refine PU.b3 rfl ?_;refine hS.kJ λHn hS=>?_;refine rr ?_;refine hS.eU ?_;exact⟨⟨0,0,0,rfl,λ_=>⟨⟨hcl.1.1.back hG hx1,hcl.1.2⟩,hcl.2⟩⟩,hS.ext⟩
end
end Go.Proofs.Lu
