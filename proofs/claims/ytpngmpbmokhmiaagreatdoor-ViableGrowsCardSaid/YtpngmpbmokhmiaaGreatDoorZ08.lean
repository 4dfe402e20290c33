/-
  Part 08 of the proof. No condition.
-/
import Derived.Test.YtpngmpbmokhmiaaGreatDoorZ07
set_option linter.unusedVariables false
set_option linter.unusedSimpArgs false
set_option maxRecDepth 100000
set_option maxHeartbeats 4000000
set_option linter.defProp false
open Option renaming some->D,none->Q,rec->aM
open Bool renaming true->f,false->aC
open Go renaming Value->Z,TypeId->aH
open Go.Value renaming int->bX,slice->I,bool->gI,tuple->JQ
open Nat renaming succ->bW,ble->aD
open Go.ByteArray renaming toList_eq->iq
open List renaming replicate->aX
open List.Perm renaming cons->dS
noncomputable section
namespace Go.Proofs.Lu
open Go.Ae Go.Ae.cs
variable{K:Z->R->Prop}{au:Int->Prop}{M eB ks l iK rcs:C Z}{a a2 na ra ua:aB Addr}{m mm:C (aV×Z)}{b c es i k n nc nn o p r rc rf u uc w:Nat}{e kt t ty vt:aH}{L cs Pf gb Fj:C dL}{H T H0:R}{v x3:Z}{ch root z:Int}{nm:aV}{ay ok rg:Bool}
section
variable{S:C Nat}{SH:Nat->Prop}
def Ld(kd:Int)(n:Nat):Prop:=(kd=0/\2<=n)\/kd=1\/((kd=2\/kd=3\/kd=4)/\n=1)\/((kd=5\/kd=6\/kd=7)/\n=0)
def Yr(kd:Int)(n:Nat):aO Pg X 228 [vi kd,B n] H (Q0 (λv=>∃b:Bool,v=.bool b/\(b=f->Ld kd n)) H):=by
 have fin:∀(b:Bool) u,Bc u 12=.bool b->(b=f->kd=2\/kd=3\/kd=4)->gK Pg X (sub Df [1,0,1,0,1,1,1,1,1]) (F5 (vi kd) (B n) (.bool aC) (vi kd) u H) (sw 0<|t_ Pg X (sub Df [1,1])<|jL Pg [.tmp 4]<|Q0 (λv=>∃b:Bool,v=.bool b/\(b=f->Ld kd n)) H):=by
  intro b u hb hk
  have al3:∀u,gK Pg X (sub Df [1,1]) (F5 (vi kd) (B n) (.bool aC) (vi kd) u H) (jL Pg [.tmp 4]<|Q0 (λv=>∃b:Bool,v=.bool b/\(b=f->Ld kd n)) H):=λu=>
   by refine tl ?_;refine rr ?_;exact⟨⟨aC,O,λh=>by cases h⟩,rfl⟩
  refine tl ?_;rw[hb];refine gF (λhb=>?_) λhb=>?_
  .refine bG ?_;refine rr ?_;exact⟨⟨_,O,λh=>.inr<|.inr<|.inl ⟨hk hb,by have:=fM h;omega⟩⟩,rfl⟩
  refine rV (λhc=>?_) λhc=>?_
  .rw[bL hc];refine bG ?_;refine rr ?_;exact⟨⟨_,O,λh=>.inr<|.inr<|.inr ⟨.inl hc,by have:=fM h;omega⟩⟩,rfl⟩
  refine aT (λhc=>?_) λhc=>?_
  .rw[bL hc];refine bG ?_;refine rr ?_;exact⟨⟨_,O,λh=>.inr<|.inr<|.inr ⟨.inr<|.inl hc,by have:=fM h;omega⟩⟩,rfl⟩
  refine aT (λhc=>?_) λhc=>?_
  .refine rr ?_;exact⟨⟨_,O,λh=>.inr<|.inr<|.inr ⟨.inr<|.inr hc,by have:=fM h;omega⟩⟩,rfl⟩
  exact al3 _
 refine ce [0,1,4,5] ?_;refine q_ (λhc=>?_) λhc=>?_
 .refine rr ?_;exact⟨⟨_,O,λh=>.inl ⟨hc,by have:=fM h;omega⟩⟩,rfl⟩
 refine aT (λhc=>?_) λhc=>?_
 .refine rr ?_;exact⟨⟨_,O,λh=>.inr<|.inl hc⟩,rfl⟩
 refine aT (λhc=>?_) λhc=>?_
 .exact fin _ _ O λ_=>.inl hc
 refine aT (λhc=>?_) λhc=>?_
 .exact fin _ _ O λ_=>.inr<|.inl hc
 exact fin _ _ O λh=>.inr<|.inr (by have:=fM h;omega)
def _root_.Go.Ae.Fl.O7(h:Fl H a n 1 M)(hk:k<n)(c:Nat):∃r o,∃hl:k<M.length,zN 1 (I a n c) (B k)=D (.pointer<|D ⟨r,o,Q⟩)/\r<H.next/\H.cell r o=D M[k]:=by
 have hl:k<M.length:=by have:=h.1;omega
 have⟨r,o,W,J,h3,_⟩:=h.idx (c:=c) (dM 0) hk;exact⟨r,o,hl,W,J,h3 0 _ (dM 0) (by rw[dz,dH];exact av hl)⟩
def NoR(SH:Nat->Prop)(H:R)(i:Nat)(l:C Z):Prop:=∃(kd:Int)(a:aB Addr)(n c:Nat)(ks:C Z)(t:aV)(xa:aB Addr)(xn xc:Nat)(at':Int),l=[vi kd,I a n c,.string t,I xa xn xc,vi at']/\n<=20001/\t.size<=1000000/\je SH 3 H a n 1 ks/\Ld kd n/\(∀x∈ks,∃z:Nat,x=B z/\z<i)
def intOf(v:Z):Int:=match v with
 |.int _ z=>z
 |_=>0
def rootOf(rcs:C Z)(i:Nat):Int:=intOf<|(El rcs 7 i)[5]?.getD<|.int .i64 0
def NK{a b c d e ay:Z}(h:El rcs 7 i=[a,b,c,d,e,vi z,ay]):rootOf rcs i=z:=by unfold rootOf;rw[h];rfl
abbrev gV(ra:aB Addr)(rn rc:Nat)(na:aB Addr)(nn nc:Nat):Z:=.agg ⟨[I ra rn rc,I na nn nc]⟩
def BZ(SH:Nat->Prop)(H:R)(rn:Nat)(rcs:C Z)(nn:Nat)(iK:C Z):Prop:=(∀i,i<nn->NoR SH H i (El iK 5 i))/\∀i,i<rn->0<=rootOf rcs i/\rootOf rcs i<nn
def Le(hw:Wf H){rn:Nat}(hG:Gr b H ra rn rcs na nn iK):aO Pg X 206 [gV ra rn rc na nn nc] H (Q1 (λv _=>∃t:Bool,v=.bool t/\(t=f->BZ (b<=·) H rn rcs nn iK)) H):=by
 have⟨g1,g2,g3,g4,g5,g6⟩:=hG;have G:=F.refl hw;refine jS [0,1,2,3,4,6,8,10,11,12,25,26,27,41,42,43] ?_;refine G.box O λH1 u G=>?_;refine eU ?_;refine lp8 2 3 4 6 12 25 26 27 (ai:=λm x2 x3 x4 x6 kW x25 Yc x27 T=>∃i:Nat,x2=.bool aC/\kW=B i/\i+m=nn/\(∀j,j<i->NoR (b<=·) H j (El iK 5 j))/\F [] H T [(u,171,[I ra rn rc,I na nn nc])]) ?_ nn ⟨0,rfl,rfl,N,λj h=>N,G⟩;clear G;rintro m x2 x3 x4 x6 kW x25 Yc x27 ni H2 ⟨i,rfl,rfl,him,hdone,G⟩;refine q_ (λhc=>?_) λhc=>?_
 .have hin:i<nn:=N;have⟨r,o,e,y,hrd,hel,o0,_⟩:=g4.1.read N hin nc;rw[e];refine bG ?_;have⟨kd,ka,kn,kc,ks,t,rs,at',he,hk1,hk2,hk3,hk4,hk5⟩:=g6 i hin;obtain⟨xa,xn,xc,xcs,rfl,T_⟩:=id hk5;rw[he]at hrd;refine G.Aj hrd y<|G.nI O O O λH3 rn' G hx3=>?_;have G:F [] H H3 [(rn',238,[vi kd,I ka kn kc,.string t,I xa xn xc,vi at']),(u,171,[I ra rn rc,I na nn nc])]:=G;refine eU ?_;refine aO.mono (Yr kd kn) ?_;rintro v H4 ⟨⟨t1,rfl,ht1⟩,rfl⟩;refine G.kL ?_;refine gF (λhb=>?_) λhb=>?_
  .refine rr ?_;refine⟨⟨aC,O,λh=>by cases h⟩,G.ext⟩
  have hfit:=ht1 (by cases t1 with
   |true=>rfl
   |false=>cases hb)
  refine eU ?_;refine FY 2 6 27 (ai:=λm x2 x6 x27 T=>∃k:Nat,x2=.bool aC/\x27=B k/\k+m=kn/\(∀j(h:j<ks.length),j<k->∃z:Nat,ks[j]=B z/\z<i)/\F [] H T [(rn',238,[vi kd,I ka kn kc,.string t,I xa xn xc,vi at']),(u,171,[I ra rn rc,I na nn nc])]) ?_ kn ⟨0,rfl,rfl,N,λj h h'=>N,G⟩;clear G;rintro m' x2 x6 x27 ni H5 ⟨k,rfl,rfl,hkm,hkd,G⟩;refine q_ (λhc=>?_) λhc=>?_
  .have hkn:k<kn:=N;have⟨r',o',hl,e',hr',Lf⟩:=hk1.1.O7 hkn kc;rw[e'];refine bG ?_;have⟨z,hz⟩:=hk3 _<|bB hl;rw[hz]at Lf;refine G.Be Lf hr' ?_;refine rV (λhc2=>?_) λhc2=>?_
   .refine rr ?_;exact⟨⟨aC,O,λh=>by cases h⟩,G.ext⟩
   refine aT (λhc3=>?_) λhc3=>?_
   .refine rr ?_;exact⟨⟨aC,O,λh=>by cases h⟩,G.ext⟩
   refine dQ ?_;refine⟨kn-(k+1),N,_,_,_,_,_,O,k+1,O,og,N,λj hj hjk=>?_,G⟩;rcases cr j k with h|h
   .exact hkd j hj h
   .obtain rfl:j=k:=N;exact⟨z.toNat,by rw[hz];congr 1;omega,N⟩
  refine tp ?_;refine dQ ?_;refine⟨nn-(i+1),N,_,_,_,_,_,_,_,_,_,_,O,i+1,O,og,N,λj hj=>?_,F.drop (A:=[_]) G⟩;rcases cr j i with h|h
  .exact hdone j h
  .obtain rfl:j=i:=N;refine⟨kd,ka,kn,kc,ks,t,xa,xn,xc,at',he,hk2,hk4,hk1,hfit,λx E=>?_⟩;obtain⟨j',hj',rfl⟩:=iM E;exact hkd j' hj' (by have:=hk1.1.1;omega)
 have hin:i=nn:=N;subst hin;refine tm ?_;refine FY 2 8 43 (ai:=λm x2 x8 x43 T=>∃k:Nat,x2=.bool aC/\x43=B k/\k+m=rn/\(∀j,j<k->0<=rootOf rcs j/\rootOf rcs j<i)/\F [] H T [(u,171,[I ra rn rc,I na i nc])]) ?_ rn ⟨0,rfl,rfl,N,λj h=>N,G⟩;clear G;rintro m' x2 x8 x43 ni H5 ⟨k,rfl,rfl,hkm,hkd,G⟩;refine q_ (λhc=>?_) λhc=>?_
 .have hkn:k<rn:=N;have⟨r,o,e,y,hrd,hel,o0,_⟩:=g1.1.read N hkn rc;rw[e];refine bG ?_;have⟨nm,rg,ay,w,ch,root,at',he,hnm⟩:=g3 k hkn;rw[he]at hrd;refine G.Aj hrd y<|G.nI O O O λH3 ru G hx3=>?_;have G:F [] H H3 [(ru,234,wO nm rg ay w ch root at'),(u,171,[I ra rn rc,I na i nc])]:=G;refine wS (λhc2=>?_) λhc2=>?_
  .refine rr ?_;exact⟨⟨aC,O,λh=>by cases h⟩,G.ext⟩
  refine wS (λhc3=>?_) λhc3=>?_
  .refine rr ?_;exact⟨⟨aC,O,λh=>by cases h⟩,G.ext⟩
  refine dQ ?_;refine⟨rn-(k+1),N,_,_,_,_,_,O,k+1,O,og,N,λj hjk=>?_,F.drop (A:=[_]) G⟩;rcases cr j k with h|h
  .exact hkd j h
  .obtain rfl:j=k:=N;rw[NK he];omega
 refine tl<|rr ?_;exact⟨⟨f,O,λ_=>⟨λj hj=>hdone j hj,λj hj=>hkd j N⟩⟩,G.ext⟩
def Gr.ru{rn:Nat}(hG:Gr b H ra rn rcs na nn iK)(hi:i<rn)(c:Nat):∃(r o:Nat)(nm:aV)(rg ay w:Bool)(ch at':Int),zN 7 (I ra rn c) (B i)=D (.pointer<|D ⟨r,o,Q⟩)/\r<H.next/\H.read r o 7=D (wO nm rg ay w ch (rootOf rcs i) at')/\(∀f' x,f'<7->(wO nm rg ay w ch (rootOf rcs i) at')[f']?=D x->H.cell r (o+f')=D x)/\nm.size<=1000000/\El rcs 7 i=wO nm rg ay w ch (rootOf rcs i) at':=by
 have⟨g1,g2,g3,g4,g5,g6⟩:=hG;have⟨r,o,e,y,hrd,hel,o0,e0,ho⟩:=g1.1.read N hi c;have⟨r',o',e',hr',hcl,_⟩:=g1.1.idx (c:=c) N hi;rw[e]at e';cases e';have⟨nm,rg,ay,w,ch,root,at',he,hnm⟩:=g3 i hi;rw[NK he];have he:El rcs 7 i=wO nm rg ay w ch root at':=he;refine⟨r,o,nm,rg,ay,w,ch,at',e,y,he▸hrd,λf' x hf E=>hcl f' x hf ?_,hnm,he⟩;rw[<-he,mR,if_pos hf]at E;exact E
def Gr.no{rn:Nat}(hG:Gr b H ra rn rcs na nn iK)(hi:i<nn)(c:Nat)(hl:El iK 5 i=l):∃(r o:Nat),zN 5 (I na nn c) (B i)=D (.pointer<|D ⟨r,o,Q⟩)/\r<H.next/\H.read r o 5=D l/\∀f' x,f'<5->l[f']?=D x->H.cell r (o+f')=D x:=by
 have⟨g1,g2,g3,g4,g5,g6⟩:=hG;have⟨r,o,e,y,hrd,hel,o0,e0,ho⟩:=g4.1.read N hi c;have⟨r',o',e',hr',hcl,_⟩:=g4.1.idx (c:=c) N hi;rw[e]at e';cases e';refine⟨r,o,e,y,hl▸hrd,λf' x hf E=>hcl f' x hf ?_⟩;rw[<-hl,mR,if_pos hf]at E;exact E
def Fl.uniq{cs':C Z}(h:Fl H a n es M)(h':Fl H a n es cs'):M=cs':=by
 apply qN<|h.1.trans h'.1.symm;intro i W J;have⟨r,o,e,_,hc⟩:=h.2 i _<|av W;have⟨r',o',e',_,hc'⟩:=h'.2 i _<|av J;rw[e]at e';cases e';rw[hc]at hc';exact dK hc'
def NoR.back(hn:NoC SH H l)(E:Ext H T)(h:NoR SH T i l):NoR SH H i l:=by
 have⟨kd,a,n,c,ks,t,rs,at',e,W,J,h3,h4,h5⟩:=hn;have⟨kd',a',n',c',ks',t',xa,xn,xc,Rq,e',g1,g2,g3,g4,g5⟩:=h;rw[e]at e';cases e';have:=Fl.uniq (W.ex E).1 g3.1;subst this;exact⟨kd,a,n,c,ks,t,xa,xn,xc,at',e,g1,g2,W,g4,g5⟩
def NoR.ex(E:Ext H T)(h:NoR SH H i l):NoR SH T i l:=by
 have⟨kd',a',n',c',ks',t',xa,xn,xc,Rq,e',g1,g2,g3,g4,g5⟩:=h;exact⟨kd',a',n',c',ks',t',xa,xn,xc,Rq,e',g1,g2,g3.ex E,g4,g5⟩
def Gr.ex{rn:Nat}(hG:Gr b H ra rn rcs na nn iK)(E:Ext H T):Gr b T ra rn rcs na nn iK:=by
 have⟨g1,g2,g3,g4,g5,g6⟩:=hG;exact⟨g1.ex E,g2,g3,g4.ex E,g5,λi hi=>(g6 i hi).st E nofun⟩
def BZ.back{rn:Nat}(hG:Gr b H ra rn rcs na nn iK)(E:Ext H T)(h:BZ (b<=·) T rn rcs nn iK):BZ (b<=·) H rn rcs nn iK:=
 ⟨λi hi=>(h.1 i hi).back (hG.2.2.2.2.2 i hi) E,h.2⟩
def Lg(SH:Nat->Prop)(H:R)(rn:Nat)(rcs:C Z)(nn:Nat)(iK:C Z):Prop:=BZ SH H rn rcs nn iK/\1<=rn/\∀i,i+1<rn->rootOf rcs i<rootOf rcs (i+1)
def Ug(hw:Wf H){rn:Nat}(hG:Gr b H ra rn rcs na nn iK):aO Pg X 176 [gV ra rn rc na nn nc] H (Q1 (λv _=>∃t:Bool,v=.bool t/\(t=f->Lg (b<=·) H rn rcs nn iK)) H):=by
 have G:=F.refl hw;have g2:=hG.2.1;refine jS [0,1,2,3] ?_;refine G.box O λH1 u G=>?_;refine wS (λhc=>?_) λhc=>?_
 .refine rr ?_;exact⟨⟨aC,O,λh=>by cases h⟩,G.ext⟩
 apply G.iI;have hx1:=G.ext;refine G.cm (Le G.wf<|hG.ex hx1) ?_;rintro v H2 ⟨t,rfl,ht⟩ E G;refine qx (λhb=>?_) λhb=>?_
 .refine rr ?_;exact⟨⟨aC,O,λh=>by cases h⟩,G.ext⟩
 have hR:=BZ.back hG hx1 (ht (by cases t with
  |true=>rfl
  |false=>cases hb))
 refine tl ?_;refine lp2 2 3 (ai:=λm x2 x3 T=>∃i:Nat,x2=.bool aC/\x3=B i/\1<=i/\i+m=rn/\(∀j,j+1<i->rootOf rcs j<rootOf rcs (j+1))/\F [] H T [(u,171,[I ra rn rc,I na nn nc])]) ?_ (rn-1) ⟨1,rfl,rfl,N,N,λj h=>N,G⟩;clear G;rintro m x2 x3 ni H2 ⟨i,rfl,rfl,hi1,him,y,G⟩;refine Yi (λhc=>?_) λhc=>?_
 .have⟨r1,o1,yJ,u1,f1,w1,c1,a1,e1,hl1,zP,tq,_,_⟩:=hG.ru (i:=i) N rc;have⟨r2,o2,nm2,u2,f2,w2,c2,a2,e2,hl2,Yt,vT,_,_⟩:=hG.ru (i:=i-1) N rc;refine eU ?_;rw[e1];refine G.kL ?_;refine G.GU (tq 5 _ N O) hl1 ?_;refine eU ?_;refine qL ?_;rw[show((i:Int)-1)=((i-1:Nat):Int) by omega,e2];refine G.kL ?_;refine G.GU (vT 5 _ N O) hl2 ?_;refine wS (λhc2=>?_) λhc2=>?_
  .refine rr ?_;exact⟨⟨aC,O,λh=>by cases h⟩,G.ext⟩
  refine dQ ?_;refine⟨rn-(i+1),N,_,_,_,_,O,i+1,O,og,N,N,λj hj=>?_,G⟩;rcases cr (j+1) i with h|h
  .exact y j h
  .obtain rfl:i=j+1:=N;rw[mW]at hc2;omega
 refine tl<|rr ?_;exact⟨⟨f,O,λ_=>⟨hR,N,λj hj=>y j N⟩⟩,G.ext⟩
def NL(hw:Wf H){rn:Nat}(hG:Gr b H ra rn rcs na nn iK)(hi:i<rn)(hB:∀j,j<rn->0<=rootOf rcs j/\rootOf rcs j<nn):aO Pg X 178 [gV ra rn rc na nn nc,B i] H (Q1 (λv _=>∃k:Nat,v=B k/\k<=nn) H):=by
 have G:=F.refl hw;have g2:=hG.2.1;have g5:=hG.2.2.2.2.1;refine jS [0,1,2,4] ?_;refine G.box O λH1 u G=>?_;refine G.kL ?_;refine aT (λhc=>?_) λhc=>?_
 .refine rr ?_;exact⟨⟨0,O,N⟩,G.ext⟩
 apply G.pz;have⟨r2,o2,nm2,u2,f2,w2,c2,a2,e2,hl2,Yt,vT,_,_⟩:=hG.ru (i:=i-1) N rc;refine qL ?_;rw[show((i:Int)-1)=((i-1:Nat):Int) by omega,e2];refine G.kL ?_;refine G.Be (vT 5 _ N O) hl2 ?_;have hb:=hB (i-1) N;refine dQ ?_;refine rr ?_;exact⟨⟨(rootOf rcs (i-1)+1).toNat,by show vi _=vi (((rootOf rcs (i-1)+1).toNat:Nat):Int);rw[Int.toNat_of_nonneg N],N⟩,G.ext⟩
end
section
variable{S:C Nat}{SH:Nat->Prop}
abbrev Yu(m:C<|aV×Z):C (Z×Z):=m.map λp=>(.string p.1,p.2)
def uM(H:R)(r:Nat)(m:C<|aV×Z):Prop:=r<H.next/\H.obj r=.map (Yu m)
def uM.ex(h:uM H r m)(E:oN S H T)(y:r∉S):uM T r m:=⟨aR h.1 E.next,(E.obj r h.1 y).trans h.2⟩
def _root_.Go.Ae.F.EZ(G:F S H0 H L)(h:uM H r m):r∉L.map (·.1):=λy=>by
 obtain⟨e,he,rfl⟩:=bQ.1 y;have⟨az,W,_⟩:=G.bk e he;rw[h.2]at W;cases W
def abY{a b:aV}(h:rG a b=f):a=b:=by
 rw[zu]at h;have h:=eq_of_beq h;rw[iq,iq]at h;exact uf<|iZ.1 h
def E6(a:aV):rG a a=f:=by rw[zu];exact beq_self_eq_true _
def NM(ht:∀a b,lC Pg t (.string a) (.string b)=D (rG a b))(k:aV):∀(m:C<|aV×Z)(i:Nat),∃ay:aB<|Nat×Z,rH Pg t (.string k) (Yu m) i=D ay/\(∀j v,ay=D (j,v)->i<=j/\m[j-i]?=D (k,v))/\(ay=Q->∀p∈m,p.1≠k):=by
 intro m
 induction m with
 |nil=>exactλi=>⟨Q,rfl,λj v h=>by(cases h),nofun⟩
 |cons p m ih=>
  intro i;show∃ay,(aL (lC Pg t (.string k)<|.string p.1) λb=>bV b (D<|D (i,p.2))<|rH Pg t (.string k) (Yu m)<|bW i)=D ay/\_;rw[ht];cases hb:rG k p.1 with
  |true=>
   have:=abY hb;refine⟨D (i,p.2),O,λj v h=>?_,λh=>by cases h⟩;cases h;exact⟨ax _,by rw[jc,this];rfl⟩
  |false=>
   have⟨ay,W,J,h3⟩:=ih<|bW i;refine⟨ay,W,λj v h=>?_,λh q hq=>?_⟩
   .have⟨g1,g2⟩:=J j v h;refine⟨N,?_⟩;rw[show j-i=(j-i.succ)+1 by omega];exact g2
   .rcases bP.1 hq with rfl|hq
    .intro e;rw[<-e,E6]at hb;cases hb
    .exact h3 h q hq
def ME.look{z:Z}{k:aV}(hm:uM H r m)(W:uT Pg t=D (kt,vt))(J:xW Pg vt=D z)(h3:∀a b,lC Pg kt (.string a) (.string b)=D (rG a b))(kk:∀ay:aB Z,(∀v,ay=D v->(k,v)∈m)->(ay=Q->∀p∈m,p.1≠k)->K (okd ok (ay.getD z) ay.isSome H).1 H):ME (sV Pg t (.map<|D r) (.string k) ok H) K:=by
 have⟨ay,e,g1,g2⟩:=NM h3 k m 0
 have hk:zS Pg kt (.string k)=D ():=by
  show aL (lC Pg kt (.string k)<|.string k) _=_;rw[h3,E6];rfl
 have hmo:mapOf H (.map<|D r)=D (Yu m):=by
  show JS (H.obj r)=_;rw[hm.2];rfl
 have:sV Pg t (.map<|D r) (.string k) ok H=D (okd ok ((ay.map (·.2)).getD z) (ay.map (·.2)).isSome H):=by
  show(aL (uT Pg t) λq=>aL (xW Pg q.2) λz=>aL (mapOf H<|.map<|D r) λes=>aL (zS Pg q.1<|.string k) λ_=>aL (rH Pg q.1 (.string k) es 0) λay=>_)=_;rw[W];show(aL (xW Pg vt) λz=>aL (mapOf H<|.map<|D r) λes=>aL (zS Pg kt<|.string k) λ_=>aL (rH Pg kt (.string k) es 0) λay=>_)=_;rw[J,hmo,hk];show aL (rH Pg kt (.string k) (Yu m) 0) _=_;rw[e];cases ay<;>rfl
 have hK:=kk (ay.map (·.2)) (λv h=>?_) λh=>?_
 .rw[this];cases ok<;>exact ME.of O hK
 .cases ay with
  |none=>cases h
  |some p=>cases h;exact aS (g1 p.1 p.2 O).2
 .cases ay with
  |none=>exact g2 O
  |some p=>cases h
def _root_.Go.Ae.F.upd{k:aV}(G:F S H0 H L)(y:r∈S\/H0.next<=r)(hm:uM H r m)(W:uT Pg t=D (kt,vt))(h3:∀a b,lC Pg kt (.string a) (.string b)=D (rG a b))(kk:∀T m',uM T r m'->(∀p∈m',p∈m\/p=(k,v))->F S H0 T L->K undef T):ME (vF Pg t (.map<|D r) (.string k) v H) K:=by
 have⟨ay,e,g1,g2⟩:=NM h3 k m 0
 have hk:zS Pg kt (.string k)=D ():=by
  show aL (lC Pg kt (.string k)<|.string k) _=_;rw[h3,E6];rfl
 have key:∃m',(∀p∈m',p∈m\/p=(k,v))/\vF Pg t (.map<|D r) (.string k) v H=D (undef,H.put r<|.map<|Yu m'):=by
  have:vF Pg t (.map<|D r) (.string k) v H=@aM (Nat×Z) (λ_=>aB<|Z×R) (D (undef,H.put r<|.map<|app (Yu m) [(.string k,v)])) (λp=>D (undef,H.put r<|.map<|setAt (.string k,v) p.1<|Yu m)) ay:=by
   show(aL (uT Pg t) λq=>aL (JS<|H.obj r) λes=>aL (zS Pg q.1<|.string k) λ_=>aL (rH Pg q.1 (.string k) es 0) λay=>_)=_;rw[W];show(aL (JS<|H.obj r) λes=>aL (zS Pg kt<|.string k) λ_=>aL (rH Pg kt (.string k) es 0) λay=>_)=_;rw[hm.2,hk];show aL (rH Pg kt (.string k) (Yu m) 0) _=_;rw[e];rfl
  rw[this];cases ay with
  |none=>
   refine⟨m++[(k,v)],λp hp=>?_,?_⟩
   .rcases bZ.1 hp with h|h
    .exact .inl h
    .exact .inr<|mg h
   .show D (undef,H.put r<|.map<|app (Yu m) [(.string k,v)])=_;rw[qB];simp[Yu]
  |some q=>
   refine⟨m.set q.1 (k,v),λp hp=>?_,?_⟩
   .rcases ig hp with h|h
    .exact .inl h
    .exact .inr h
   .show D (undef,H.put r<|.map<|setAt (.string k,v) q.1<|Yu m)=_;rw[Az];simp[Yu,fZ]
 have⟨m',hm',e'⟩:=key;refine ME.of e'<|kk _ m' ⟨hm.1,by rw[uZ,if_pos O]⟩ hm' ?_;have hn:=F.EZ G hm;refine⟨oN.later G.ext (oN.put H r _) (λq hq=>by rw[aP]at hq;subst hq;exact y),λe he=>(G.bk e he).jb ?_,G.lo,G.ne,?_⟩
 .rw[uZ,if_neg λh=>hn (by rw[<-h];exact bQ.2 ⟨e,he,O⟩)]
 .rw[u_];have:=G.wf;show min H.low r<=H.next
  omega
theorem ME.mkMap{q:aH×aH}{n:Int}(G:F S H0 H L)(W:uT Pg t=D q)(kk:∀T r,uM T r []->Ext H T->H.next<=r->F S H0 T L->K (.map<|D r) T):ME (uV Pg t (D<|vi n) H) K:=by
 refine ME.of (v:=.map<|D H.next) (H:=H.new<|.map []) ?_<|kk _ _ ⟨dM _,by rw[yg,if_pos O];rfl⟩ (Ext.new _ _) (ax _)<|G.call<|Ext.new _ _;show aL (uT Pg t) _=_;rw[W];rfl
def ME.IU{z:Z}{k:aV}(hm:uM H r m)(W:uT Pg t=D (kt,vt))(J:xW Pg vt=D z)(h3:∀a b,lC Pg kt (.string a) (.string b)=D (rG a b))(kk:∀ay:aB Z,(∀v,ay=D v->(k,v)∈m)->(ay=Q->∀p∈m,p.1≠k)->K (.tuple ⟨[ay.getD z,.bool ay.isSome]⟩) H):ME (sV Pg t (.map<|D r) (.string k) f H) K:=ME.look hm W J h3 kk
def ME.agx{z:Z}{k:aV}(hm:uM H r m)(W:uT Pg t=D (kt,vt))(J:xW Pg vt=D z)(h3:∀a b,lC Pg kt (.string a) (.string b)=D (rG a b))(kk:∀ay:aB Z,(∀v,ay=D v->(k,v)∈m)->(ay=Q->∀p∈m,p.1≠k)->K (ay.getD z) H):ME (sV Pg t (.map<|D r) (.string k) aC H) K:=ME.look hm W J h3 kk
def B5:uT Pg 236=D (9,3):=by kernel_rfl
def Rt:xW Pg 3=D (vi 0):=by kernel_rfl
def eqS(a b:aV):lC Pg 9 (.string a) (.string b)=D (rG a b):=by kernel_rfl
def O8(rn:Nat)(m:C<|aV×Z):Prop:=∀p∈m,∃i:Nat,i<rn/\p.2=B i
def Uh(hw:Wf H){rn:Nat}(hG:Gr b H ra rn rcs na nn iK):aO Pg X 177 [gV ra rn rc na nn nc] H λv T=>∃r m,v=.map (D r)/\uM T r m/\O8 rn m/\Ext H T/\H.next<=r:=by
 have G:=F.refl hw;have g2:=hG.2.1;refine jS [0,1,2,3,4,5,7,13,14,15] ?_;refine G.box O λH1 u G=>?_;refine eU ?_;have hge:=G.ext.next
 refine ME.mkMap G B5 λH2 r hm E y G=>?_;refine eU ?_;refine NG 4 5 7 15 (ai:=λm x4 x5 x7 lH T=>∃(i:Nat)(mm:C<|aV×Z),lH=B i/\i+m=rn/\uM T r mm/\O8 rn mm/\F [] H T [(u,171,[I ra rn rc,I na nn nc])]) ?_ rn ⟨0,[],rfl,N,hm,(nofun),G⟩;have hrn:H.next<=r:=N
 clear G hm;rintro m x4 x5 x7 lH ni H3 ⟨i,mm,rfl,him,hm,hnm,G⟩;refine q_ (λhc=>?_) λhc=>?_
 .have⟨r1,o1,yJ,u1,f1,w1,c1,a1,e1,hl1,zP,tq,hsz,_⟩:=hG.ru (i:=i) N rc;rw[e1];refine bG ?_;refine G.Aj zP hl1<|G.nI O O O λH4 ru G hx4=>?_;have hm:=hm.ex hx4<|nofun;have G:F [] H H4 [(ru,234,wO yJ u1 f1 w1 c1 (rootOf rcs i) a1),(u,171,[I ra rn rc,I na nn nc])]:=G;refine eU ?_;refine ME.IU hm B5 Rt eqS λay hf hn=>?_;refine G.kL ?_
  have next:∀x(H5:R) Zi z_,uM H5 r Zi->O8 rn Zi->F [] H H5 [(ru,234,wO yJ u1 f1 w1 c1 (rootOf rcs i) a1),(u,171,[I ra rn rc,I na nn nc])]->∃m_1,m_1<m/\Dj (gV ra rn rc na nn nc) (.pointer<|D ⟨u,0,Q⟩) (.map Q) (.map<|D r) (I ra rn rc) (B rn) (λm x4 x5 x7 lH T=>∃(i:Nat)(mm:C<|aV×Z),lH=B i/\i+m=rn/\uM T r mm/\O8 rn mm/\F [] H T [(u,171,[I ra rn rc,I na nn nc])]) m_1 (Di (gV ra rn rc na nn nc) (.pointer<|D ⟨u,0,Q⟩) (.map Q) (.map<|D r) (B i) (.pointer<|D ⟨ru,0,Q⟩) x (I ra rn rc) (B rn) (vi<|(i:Int)+1) z_ H5):=by
   intro x H5 Zi z_ W J h3;exact⟨rn-(i+1),N,_,_,_,_,_,_,O,i+1,Zi,og,N,W,J,F.drop (A:=[_]) h3⟩
  refine gF (λhb=>?_) λhb=>?_
  .refine G.pz<|G.upd (.inr hrn) hm B5 eqS λH5 Zi hm' hmm G=>?_;refine dQ ?_;refine next _ _ _ _ hm' (λp hp=>?_) G
   rcases hmm p hp with h|rfl
   .exact hnm p h
   .exact⟨i,N,O⟩
  .refine dQ ?_;exact next _ _ _ _ hm hnm G
 refine tl<|rr ?_;exact⟨r,mm,O,hm,hnm,G.ext,hrn⟩
end
section
variable{S:C Nat}{SH:Nat->Prop}
theorem Ui(hw:Wf H){rn:Nat}(hG:Gr b H ra rn rcs na nn iK)(hm:uM H r m)(hnm:O8 rn m){w:Bool}{at' kd at2:Int}{n2 c2:Nat}{t:aV}:
 aO Pg X 179 [gV ra rn rc na nn nc,.map<|D r,.agg ⟨wO nm rg ay w ch root at'⟩,.agg ⟨[vi kd,I a n c,.string t,I a2 n2 c2,vi at2]⟩] H (Q1 (λv _=>∃z:Int,v=vi z) H):=by
 have G:=F.refl hw;have g2:=hG.2.1;refine jS [0,1,2,3,4,6,7,8,9,10,11,13] ?_;refine G.box O λH1 u G=>?_;refine G.box O λH1 rr G=>?_;refine G.box O λH1 rn' G=>?_;refine wS (λhc=>?_) λhc=>?_
 .refine OP (λhb=>?_) λhb=>?_
  .refine Lu.rr ?_;exact⟨⟨_,O⟩,G.ext⟩
  .refine Lu.rr ?_;exact⟨⟨_,O⟩,G.ext⟩
 refine mF (λhc=>?_) λhc=>?_
 .refine Lu.rr ?_;exact⟨⟨_,O⟩,G.ext⟩
 apply G.pz;have hm1:=hm.ex G.ext<|nofun;refine ME.IU hm1 B5 Rt eqS λf' hf hn=>?_;refine G.kL ?_;refine gF (λhb=>?_) λhb=>?_
 .refine Lu.rr ?_;exact⟨⟨_,O⟩,G.ext⟩
 cases f' with
 |none=>cases hb
 |some v=>
  have⟨i,hi,hv⟩:=hnm _<|hf v O;have hv:v=B i:=hv;subst hv;have⟨r1,o1,yJ,u1,f1,w1,c1,a1,e1,hl1,zP,tq,hsz,_⟩:=hG.ru (i:=i) hi rc;simp only[oq];apply G.pz;rw[e1];refine G.kL ?_;refine G.Aj zP hl1<|G.nI O O O λH4 ru G hx4=>?_;have G:F [] H H4 [(ru,234,wO yJ u1 f1 w1 c1 (rootOf rcs i) a1),(rn',238,[vi kd,I a n c,.string t,I a2 n2 c2,vi at2]),(rr,234,wO nm rg ay w ch root at'),(u,171,[I ra rn rc,I na nn nc])]:=G
  repeat' (first|(refine Lu.rr ?_;exact⟨⟨_,O⟩,G.ext⟩)|(refine aT (λhc=>?_) λhc=>?_)|(refine gF (λhb=>?_) λhb=>?_)|first|(refine G.kL ?_)|(refine PU.b1 O ?_)|(refine PU.b2 O ?_)|(refine PU.b3 O ?_)|(refine PU.b4 O ?_)|(refine PU.b5 O ?_)|(refine PU.b6 O ?_)|(refine PU.b7 O ?_)|(refine PU.b8 O ?_)|(refine PU.b9 O ?_)|(refine G.pz ?_)|(refine G.iI ?_)|(refine G.QN ?_)|(refine G.VO ?_)|(refine G.jH λHn G=>?_)|(refine G.mh λHn G=>?_)|(refine aaO ?_))
end
section
variable{S:C Nat}{SH:Nat->Prop}
def Ru(v:Z):aO Pg X 208 [v,vi 0,vi 0] H λ_ T=>T=H:=by
 refine jS [0,1,2,6,7] ?_;refine dQ ?_;refine lp2 6 7 (ai:=λm x8 x9 T=>x8=vi 1/\T=H) ?_ 0 ⟨rfl,rfl⟩;rintro m x8 x9 u T ⟨rfl,rfl⟩;refine tp ?_;rw[dB N];refine bG ?_;refine rn ?_;exact O
def aki(v l:Z):aO Pg X 190 [v,vi 0,vi 0,l] H λ_ T=>T=H:=by
 refine jS [0,1,2,3,8,9,10,11,12,13,14,15,16,17,18] ?_;refine aj0 1 2 3 8 9 10 11 12 13 14 15 16 17 18 (ai:=λk x1 x2 x3 x8 x9 jo iJ kW jI sP lH pG yo wN T=>x1=vi 0/\x2=vi 0/\T=H) ?_ 0 ⟨rfl,rfl,rfl⟩;rintro k x1 x2 x3 x8 x9 jo iJ kW jI sP lH pG yo wN u T ⟨rfl,rfl,rfl⟩;refine tl ?_;refine qL ?_;refine bG ?_;rw[bL N];refine bG ?_;refine aO.mono (Ru _) ?_;rintro _ _ rfl;refine rr ?_;exact O
def Wj(ho:X.o 160 [I a 0 c] H=Q):aO Pg X 160 [I a 0 c] H λv T=>T=H:=by
 refine ce [0,2] (ho:=ho) ?_;refine tp ?_;rw[C4 (u64_in N)];refine aO.mono (Lb _ N N) ?_;rintro v T ⟨⟨l,rfl,W,_⟩,rfl⟩;refine aO.mono (aki _ _) ?_;rintro v H1 rfl;refine rn ?_;exact O
def abZ:aO Pg X 160 [I Q 0 0] H λv T=>T=H:=Wj jr
def Lh(hn:n<=1000000)(hB:Nm au r ty n H0 H L):aO Pg X 160 [sl r n c] H λv T=>Nm au r ty n H0 T L:=by
 obtain _|m:=n
 .refine aO.mono (Wj jr) ?_;rintro v H1 rfl;exact hB
 have⟨H1,e,hB⟩:=SB.put aj1 (rest:=[]) (c:=c) (λl ⟨z,h,_⟩=>⟨z,h⟩) N hB;exact aO.orc (v:=.tuple ⟨[]⟩) (T:=H1) e hB
def _root_.Go.Ae.SB.i1N(h:SB (GV au) r ty 1 n H0 H L)(hz:o<n)(k:∀x,au x->K (vi x) H):ME (vH Q (.pointer<|D ⟨r,o,Q⟩) H) K:=by
 have:=SB.i1 h (z:=(o:Int)) N N k
 rwa [show((o:Int).toNat*1)=o by omega]at this
def _root_.Go.Ae.SB.aaN(h:SB (GV au) r ty 1 n H0 H L)(hz:o<n)(k:∀x,au x->K (vi x) (hN H)):ME (vH Q (.pointer<|D ⟨r,o,Q⟩)<|hN H) K:=SB.i1N h.yh hz k
def _root_.Go.Ae.SB.iwN(h:SB (GV au) r ty 1 n H0 H L)(hz:o<n){x:Int}(E:au x)(k:∀H1,SB (GV au) r ty 1 n H0 H1 L->K undef H1):ME (CW 1 (.pointer<|D ⟨r,o,Q⟩) (vi x) H) K:=by
 have:=SB.iw h (z:=(o:Int)) N N E k
 rwa [show((o:Int).toNat*1)=o by omega]at this
def qM(h:k<n):zN 1 (I (D ⟨r,o,Q⟩) n c) (B k)=D (.pointer<|D ⟨r,o+k,Q⟩):=by rw[tX h,dz]
def Uj(h:w<=n):XY 1 (I (D ⟨r,o,Q⟩) n<|fJ 1) (D<|B w) Q Q=D (I (D ⟨r,o+w,Q⟩) (n-w)<|fJ 1):=by rw[QM h,dz]
def _root_.Go.Ae.SB.clr(h:SB (GV au) r ty 1 n H0 H L)(hw:w<=n)(k:∀H1,SB (GV au) r ty 1 w H0 H1 L->K (.tuple ⟨[]⟩) H1):ME (clA [.int .i64 0] (I (D ⟨r,w,Q⟩) (n-w)<|fJ 1) H) K:=by
 have⟨M,W,J,G⟩:=h;have hl:(o7 [.int .i64 0]<|n-w).length=n-w:=by rw[P7];simp
 have⟨H1,e,hS1,_⟩:=G.zZ 0 (r:=r) (o:=w) (vs:=o7 [.int .i64 0]<|n-w) O N (by
  rw[mZ]
  induction n-w with
  |zero=>rfl
  |succ d ih=>exact ih)
 have:clA [.int .i64 0] (I (D ⟨r,w,Q⟩) (n-w)<|fJ 1) H=D (.tuple ⟨[]⟩,H1):=by
  show(aL (H.write r w<|o7 [.int .i64 0]<|n-w) λT=>D (JQ #[],T))=_;rw[e];rfl
 refine ME.of this<|k H1 ⟨splice M w<|o7 [.int .i64 0]<|n-w,?_,λj hj=>?_,hS1⟩
 .rw[mq N];omega
 .have he:El (splice M w<|o7 [.int .i64 0]<|n-w) 1 j=El M 1 j:=by
   apply h_;intro i;rw[mR,mR,qG N]
   by_cases hi:i<1
   .rw[if_pos hi,if_pos hi,if_neg N]
   .rw[if_neg hi,if_neg hi]
  rw[he];exact J j N
def _root_.Go.Ae.SB.less(h:SB (GV au) r ty 1 n H0 H L)(hw:w<=n):SB (GV au) r ty 1 w H0 H L:=by
 have⟨M,W,J,G⟩:=h;exact⟨M,N,λk hk=>J k N,G⟩
theorem F_(hn:n<=1000000)(hB:Nm au r ty n H0 H L):aO Pg X 162 [sl r n (fJ 1)] H λv T=>∃n',n'<=n/\v=sl r n' (fJ 1)/\Nm au r ty n' H0 T L:=by
 refine ce [0,2,3,4,5] ?_;refine q_ (λhc=>?_) λhc=>?_
 .refine rr ?_;exact⟨n,ax _,O,hB⟩
 refine NG 2 3 4 5 (ai:=λm x2 x3 x4 x5 T=>∃k:Nat,x3=B k/\1<=k/\k+m=n/\Nm au r ty n H0 T L) ?_ (n-1) ⟨1,rfl,N,N,hB⟩;clear hB;rintro m x2 x3 x4 x5 u H1 ⟨k,rfl,hk1,hkm,hB⟩;refine kX (λhc2=>?_) λhc2=>?_
 .refine tl<|rr ?_;exact⟨n,ax _,O,hB⟩
 refine PU.of (qM N)<|hB.aaN N λx E=>?_
 repeat(first|(refine hB.kL ?_)|(with_reducible refine qL ?_)|(with_reducible refine NB ?_)|(with_reducible refine hB.i1Q N N λz hz=>?_)|(refine alL ?_))
 refine mF (λhc3=>?_) λhc3=>?_
 .refine dQ ?_;exact⟨n-(k+1),N,_,_,_,_,_,_,O,k+1,og,N,N,hB⟩
 refine PU.of (Uj N)<|lp2 3 5 (ai:=λm' x3 x5 T=>∃k' k2:Nat,x3=B k'/\x5=B k2/\1<=k2/\k'<=k+k2/\k+k2<=n/\k'+1<=k+k2/\k+k2+m'=n/\Nm au r ty n H0 T L) ?_ (n-k-1) ⟨k,1,rfl,rfl,N,N,N,N,N,hB⟩;clear hB;rintro m' x3 x5 u H2 ⟨k',k2,rfl,rfl,W,J,h3,h4,h5,hB⟩;refine kX (λhc4=>?_) λhc4=>?_
 .refine tl ?_;refine PU.of (Uj N) ?_;rw[aY];refine hB.clr N λH3 hB=>PU.of (BM N) ?_;refine bG ?_;refine rr ?_;exact⟨k',N,O,hB⟩
 refine PU.of (qM N)<|hB.aaN N λx E=>?_;refine qL ?_;rw[show((k2:Int)-1)=((k2-1:Nat):Int) by omega];refine PU.of (qM N) ?_;simp only[gN hB.wf];refine hB.aaN N λhr hy=>?_;refine bG ?_;refine iD (by simp only[d_];rfl) ?_;simp only[gN hB.wf];refine dN (λVw=>?_) λVw=>?_
 .refine PU.of (qM N)<|hB.i1N N λx E=>PU.of (qM N) ?_;rw[aY];refine hB.iwN N E λH3 hB=>?_;refine dQ ?_;refine dQ ?_;exact⟨m'-1,N,_,_,_,_,O,k'+1,k2+1,by rw[show((k':Int)+1)=((k'+1:Nat):Int) by omega],og,N,N,N,N,N,hB⟩
 .refine dQ ?_;exact⟨m'-1,N,_,_,_,_,O,k',k2+1,O,og,N,N,N,N,N,hB⟩
def Rv:aO Pg X 162 [I Q 0 0] H λv T=>v=I Q 0 0/\T=H:=by
 refine Fh [0,2,3,4,5] ?_;rw[bL N];refine bG ?_;refine rr ?_;exact⟨O,O⟩
end
section
variable{S:C Nat}{SH:Nat->Prop}
def agy(K:Nat)(au:Int->Prop)(H:R)(v:Z):Prop:=∃a n c M,v=I a n c/\Fl H a n 1 M/\n<=K/\∀x∈M,∃z:Int,x=vi z/\au z
def IV(b K:Nat)(au:Int->Prop)(H:R)(v:Z):Prop:=∃a n c M,v=I a n c/\je (b<=·) 3 H a n 1 M/\n<=K/\∀x∈M,∃z:Int,x=vi z/\au z
def IV.nil(b K:Nat)(au:Int->Prop)(H:R):IV b K au H (I Q 0 0):=⟨Q,0,0,[],O,je.nil _ _ _ _ _,bA _,nofun⟩
def IW(hw:Wf H){K:Nat}(hK:K<=1000000)(hv:agy K au H v):aO Pg X 229 [v] H (Q1 (λv T=>IV H.next K au T v) H):=by
 obtain⟨a,n,c,M,rfl,hf,hn,hi⟩:=hv;have G:=F.refl hw;refine jS [0,2] ?_;rw[C6 jr];refine qx (λhb=>?_) λhb=>?_
 .refine rr ?_;exact⟨IV.nil _ _ _ _,Ext.refl _⟩
 .refine ME.of (ahu N) ?_;have G:=G.grow 3 [];have hge:=G.ext.next
  refine G.TL N (.inr ⟨_,O⟩) (hf.ex G.ext) N λa' c' H1 L' hf' hS'=>rr ?_;exact⟨⟨a',n,c',M,O,hf'.le hge,hn,hi⟩,hS'.ext⟩
def Nm.nums{K:Nat}(hB:Nm au r ty n H0 H L)(hn:n<=K)(c:Nat):agy K au H (sl r n c):=by
 have⟨M,W,J,G⟩:=hB;have y:=(G.lo _<|aN ..).2;refine⟨_,n,c,M.take n,O,⟨by rw[dF];omega,λi x hi=>⟨r,0,rfl,y,?_⟩⟩,hn,λx E=>?_⟩
 .have hi':i<n:=by
   have:=(bE.1 hi).1;rw[dF]at this;omega
  rw[iW,if_pos hi']at hi;have:=(G.get 0 O).cell hi
  rwa [aY]
 .obtain⟨i,hi,rfl⟩:=iM E;have hi0:=hi;rw[dF,iV N]at hi;have⟨z,e,hq⟩:=J i N;have h1':=mR M 1 i 0;rw[if_pos (dM 0),e,dz,dH,av (show i<M.length by omega)]at h1';refine⟨z,?_,hq⟩;rw[List.getElem_take];exact(dK h1').symm
def Yv{x:Z}{K:Nat}(hK:K<=1000000)(hg:GB 3 1 x ks gb)(G:F [] H0 H<|gb++L)(hl:ks.length<=K)(hk:∀x∈ks,∃z:Int,x=vi z/\au z){Kp:Z->Z->R->Prop}(kk:∀v2 v T,IV H0.next K au T v->Ext H0 T->Kp v2 v T):aO Pg X 160 [x] H λv1 H1=>aO Pg X 162 [x] H1 λv2 H2=>aO Pg X 229 [v2] H2 (Kp v2):=by
 rcases hg with⟨rfl,rfl,rfl⟩|⟨r,n,eB,rfl,hn,rfl⟩
 .refine aO.mono abZ ?_;rintro _ _ rfl;refine aO.mono Rv ?_;rintro _ _ ⟨rfl,rfl⟩;refine aO.mono (IW (au:=au) (K:=K) G.wf hK ⟨Q,0,0,[],O,Fl.nil _ _ _,bA _,nofun⟩) ?_;rintro v H1 ⟨⟨a,n,c,M,rfl,W,J⟩,E⟩;exact kk _ _ _ ⟨a,n,c,M,O,W.le G.ext.next,J⟩ (G.call E).ext
 .have hB:Nm au r 3 n H0 H L:=by
   refine⟨ks++eB,by rw[aQ];omega,λk hk'=>?_,G⟩;have hkl:k<ks.length:=N;have⟨z,e,hq⟩:=hk _<|bB hkl;refine⟨z,?_,hq⟩;rw[<-e];unfold El;rw[dz,dY (by rw[aQ];omega),iL hkl];rfl
  refine aO.mono (Lh N hB) ?_;intro v1 H1 hB;refine aO.mono (F_ N hB) ?_;rintro v2 H2 ⟨n',hn',rfl,hB⟩;refine aO.mono (IW hB.wf hK<|Nm.nums hB N _) ?_;rintro v H3 ⟨⟨a,n,c,M,rfl,W,J⟩,E⟩;exact kk _ _ _ ⟨a,n,c,M,O,W.le hB.ext.next,J⟩ (hB.call E).ext
abbrev Rw(n:Nat)(z:Int):Prop:=0<=z/\z<n
def Yw(hw:Wf H){rn:Nat}(hG:Gr b H ra rn rcs na nn iK)(hm:uM H r m)(hnm:O8 rn m)(hi:i<rn)(hB:∀j,j<rn->0<=rootOf rcs j/\rootOf rcs j<nn):
 aO Pg X 207 [gV ra rn rc na nn nc,.map<|D r,B i] H (Q1 (λv T=>IV H.next 4001 (Rw rn) T v) H):=by
 have G:=F.refl hw;have g2:=hG.2.1;have g5:=hG.2.2.2.2.1;refine jS [0,1,2,3,6,7,8,9,10,11] ?_;refine G.box O λH1 u G=>?_;apply G.iI;have hx1:=G.ext;refine G.cm (NL G.wf (hG.ex hx1) hi hB) ?_;rintro v H2 ⟨k0,rfl,hk0⟩ E G;refine V' 7 8 9 10 11 (ai:=λm' x7 x8 x9 jo iJ T=>∃(k:Nat)(ks:C Z)(gb:C dL),x8=B k/\k+m'=4001/\ks.length<=k/\GB 3 1 x7 ks gb/\(∀x∈ks,∃z:Int,x=vi z/\Rw rn z)/\F [] H T (gb++[(u,171,[I ra rn rc,I na nn nc])])) ?_ (4001-k0) ⟨k0,[],[],rfl,N,bA _,GB.nil _ _,(nofun),G⟩;clear G;rintro m' x7 x8 x9 jo iJ ni H3 ⟨k,ks,gb,rfl,hkm,hkl,hg,hks,G⟩;refine tl ?_;have G:=G.perm aG;simp only[bI,bN]at G;refine eU ?_;have⟨r1,o1,yJ,u1,f1,w1,c1,a1,e1,hl1,zP,tq,hsz,_⟩:=hG.ru (i:=i) hi rc;rw[e1];refine G.kL ?_;refine G.Be (tq 5 _ N O) hl1 ?_;have hb:=hB i hi;refine Mo (λhc=>?_) λhc=>?_
 .refine tl<|Yv (K:=4001) N hg (G.perm<|aG (l₁:=[_])) N hks λv2 v H4 hv hx4=>rr ?_;exact⟨hv,hx4⟩
 have hkn:k<nn:=N;apply G.pz;have⟨kd,ka,kn,kc,ks',t,rs,at',he,hk1,hk2,hk3,hk4,hk5⟩:=hG.2.2.2.2.2 k hkn;obtain⟨xa,xn,xc,xcs,rfl,T_⟩:=id hk5;have⟨r2,o2,e2,hl2,Yt,vT⟩:=hG.no hkn nc he;rw[e2];refine G.kL ?_;refine G.Aj Yt hl2<|G.nI O O O λH4 rn' G hx4=>?_;have G:F [] H H4 ((rn',238,[vi kd,I ka kn kc,.string t,I xa xn xc,vi at'])::(u,171,[I ra rn rc,I na nn nc])::gb):=G;refine eU ?_
 have zf:∀x7 x9 jo iJ ks gb z_ H5,ks.length<=k+1->GB 3 1 x7 ks gb->(∀x∈ks,∃z:Int,x=vi z/\Rw rn z)->F [] H H5 ((rn',238,[vi kd,I ka kn kc,.string t,I xa xn xc,vi at'])::(u,171,[I ra rn rc,I na nn nc])::gb)->∃m_1,m_1<m'/\D7 (gV ra rn rc na nn nc) (.map<|D r) (B i) (.pointer<|D ⟨u,0,Q⟩) (I Q 0 0) (λm' x7 x8 x9 jo iJ T=>∃(k:Nat)(ks:C Z)(gb:C dL),x8=B k/\k+m'=4001/\ks.length<=k/\GB 3 1 x7 ks gb/\(∀x∈ks,∃z:Int,x=vi z/\Rw rn z)/\F [] H T (gb++[(u,171,[I ra rn rc,I na nn nc])])) m_1 (Ej (gV ra rn rc na nn nc) (.map<|D r) (B i) (.pointer<|D ⟨u,0,Q⟩) (I Q 0 0) x7 (vi<|(k:Int)+1) x9 jo iJ z_ H5):=by
  intro x7 x9 jo iJ ks gb z_ H5 W J h3 h4;exact⟨4001-(k+1),N,_,_,_,_,_,_,_,O,k+1,ks,gb,og,N,W,J,h3,(F.drop (A:=[_]) h4).perm<|aG (l₁:=[_])⟩
 refine mF (λhc2=>?_) λhc2=>?_
 .refine dQ ?_;exact zf _ _ _ _ ks gb _ _ N hg hks G
 apply G.pz;have hm1:=hm.ex G.ext<|nofun;refine ME.IU hm1 B5 Rt eqS λf' hf hn=>?_;refine G.kL ?_;refine gF (λhb=>?_) λhb=>?_;rotate_left
 .refine dQ ?_;exact zf _ _ _ _ ks gb _ _ N hg hks G
 cases f' with
 |none=>cases hb
 |some v=>
  obtain⟨z,hz,hv⟩:=hnm _<|hf v O;have hv:v=B z:=hv;subst hv;simp only[oq];have hO:=G.perm<|aG (l₁:=[_,_]);have hO:=hO.own;refine hO.bS O O O N λH5 rx hS5=>?_;obtain⟨v',H6,gQ,e1,hg',wM,_⟩:=hg.app (m:=0) (cx:=1) (L:=[]) (by rw[bq];exact hS5) N O O N N;refine ME.of e1 ?_;rw[bq]at wM;refine dQ ?_;refine zf _ _ _ _ _ gQ _ _ ?_ hg' (λx E=>?_) ?_
  .rw[aQ];show ks.length+1<=_;omega
  .rcases bZ.1 E with h|h
   .exact hks x h
   .have h:x∈[B z]:=h;exact⟨z,aP.1 h,N,N⟩
  .exact((G.perm<|aG (l₁:=[_,_])).frame wM).perm<|aG (l₂:=[_,_])
end
section
variable{S:C Nat}{SH:Nat->Prop}
def MG(ty:aH)(es:Nat)(P:C Z->Prop):C Z->C dL->Prop
 |[],az=>az=[]
 |v::vs,az=>∃ks gb R',az=gb++R'/\GB ty es v ks gb/\P ks/\MG ty es P vs R'
def MG.aaS{P:C Z->Prop}(h0:P []):∀n,MG ty es P (aX n<|I Q 0 0) []
 |0=>rfl
 |n+1=>⟨[],[],[],rfl,GB.nil _ _,h0,MG.aaS h0 n⟩
def MG.mono{P P':C Z->Prop}(hp:∀ks,P ks->P' ks):∀{vs:C Z}{az:C dL},MG ty es P vs az->MG ty es P' vs az
 |[],az,h=>h
 |v::vs,az,⟨ks,gb,R',W,J,h3,h4⟩=>⟨ks,gb,R',W,J,hp _ h3,MG.mono hp h4⟩
def MG.at{P:C Z->Prop}:∀{vs:C Z}{az:C dL}(i:Nat),MG ty es P vs az->(h:i<vs.length)->∃A gb vn ks,az=A++(gb++vn)/\GB ty es vs[i] ks gb/\P ks/\
 ∀P':C Z->Prop,(∀ks,P ks->P' ks)->∀v' ks' gQ,GB ty es v' ks' gQ->P' ks'->MG ty es P' (vs.set i v') (A++(gQ++vn))
 |v::vs,az,0,h,_=>by
  obtain⟨ks,gb,R',rfl,W,J,h4⟩:=h;exact⟨[],gb,R',ks,O,W,J,λP' hp v' ks' gQ g1 g2=>⟨ks',gQ,R',rfl,g1,g2,h4.mono hp⟩⟩
 |v::vs,az,i+1,h,hi=>by
  obtain⟨ks,gb,R',rfl,W,J,h4⟩:=h;obtain⟨A,Zf,vn,ks2,rfl,g1,g2,g4⟩:=MG.at i h4 (mg hi);refine⟨gb++A,Zf,vn,ks2,by rw[bU],g1,g2,λP' hp v' ks' gQ k1 k2=>?_⟩;exact⟨ks,gb,A++(gQ++vn),by rw[bU],W,hp _ J,g4 P' hp v' ks' gQ k1 k2⟩
 |[],az,i,h,hi=>absurd hi kg
def E7(hi:i<M.length):splice M i [v]=M.set i v:=by
 apply h_;intro j;rw[qG (by show i+1<=_;omega),dG]
 by_cases h:i<=j/\j<i+[v].length
 .have:i=j:=by have:=h.2;simp at this;omega
  subst this;rw[if_pos h,if_pos O,if_pos hi,jc];rfl
 .rw[if_neg h,if_neg λe=>h (by subst e;simp)]
def MG.all{P:C Z->Prop}:∀{vs:C Z}{az L:C dL},MG ty es P vs az->F S H0 H (az++L)->∀x∈vs,∃a n c ks,x=I a n c/\ks.length=n*es/\P ks/\je (λr=>r∈az.map (·.1)) ty H a n es ks
 |[],az,L,h,G=>nofun
 |v::vs,az,L,⟨ks,gb,R',W,J,h3,h4⟩,G=>by
  subst W;intro x E;rcases bP.1 E with rfl|E
  .rw[bU]at G;have⟨a,n,c,e,hl,hf⟩:=J.IA (SH:=λr=>r∈(gb++R').map (·.1)) G λe he=>bQ.2 ⟨e,dn _ he,rfl⟩;exact⟨a,n,c,ks,e,hl,h3,hf⟩
  .rw[bU]at G;have⟨a,n,c,ks',e,hl,hp,hf⟩:=MG.all h4 (F.drop G) x E;refine⟨a,n,c,ks',e,hl,hp,hf.wk λr y=>?_⟩;obtain⟨e,he,rfl⟩:=bQ.1 y;exact bQ.2 ⟨e,cZ _ he,O⟩
def NsP(K:Nat)(au:Int->Prop)(ks:C Z):Prop:=ks.length<=K/\∀x∈ks,∃z:Int,x=vi z/\au z
def JH(b K:Nat)(au:Int->Prop)(n:Nat)(H:R)(v:Z):Prop:=∃a c vs,v=I a n c/\je (b<=·) 22 H a n 1 vs/\∀x∈vs,IV b K au H x
def Rx(hw:Wf H){rn:Nat}(hG:Gr b H ra rn rcs na nn iK)(hm:uM H r m)(hnm:O8 rn m)(hB:∀j,j<rn->0<=rootOf rcs j/\rootOf rcs j<nn):
 aO Pg X 180 [gV ra rn rc na nn nc,.map<|D r] H (Q1 (λv T=>JH H.next 500000 (Rw rn) rn T v) H):=by
 have G:=F.refl hw;have g2:=hG.2.1;refine jS [0,1,2,4,5,6,7,9,15,16,17,28,29,30] ?_;refine G.box O λH1 u G=>?_;refine eU ?_;refine G.mkS (ax _) N λH2 rl G=>?_;rw[mZ]at G;refine eU ?_;refine lp7 6 7 9 17 28 29 30 (ai:=λm' x6 x7 x9 yo x28 x29 x30 T=>∃(i:Nat)(vs:C Z)(az:C dL),yo=B i/\i+m'=rn/\vs.length=rn/\MG 3 1 (NsP (4001*i)<|Rw rn) vs az/\F [] H T ((rl,22,vs)::(u,171,[I ra rn rc,I na nn nc])::az)) ?_ rn ⟨0,_,[],rfl,N,by simp,MG.aaS ⟨bA _,nofun⟩ rn,G⟩;clear G;rintro m' x6 x7 x9 yo x28 x29 x30 ni H3 ⟨i,vs,az,rfl,him,hvl,hR,G⟩;refine kX (λhc=>?_) λhc=>?_
 .refine tl ?_;obtain rfl:i=rn:=by omega
  have hb:∀e:dL,e∈(rl,22,vs)::(u,171,[I ra i rc,I na nn nc])::az->H.next<=e.1:=λe he=>G.wQ he
  refine rr ?_;refine⟨⟨_,_,vs,O,?_,λx E=>?_⟩,G.ext⟩
  .exact je.one G (aN ..) N<|hb _<|aN ..
  .obtain⟨a,n,c,ks,e,hl,hp,hf⟩:=MG.all (L:=[]) hR (by rw[bq];exact F.drop (A:=[_,_]) G) x E;refine⟨a,n,c,ks,e,hf.wk λr y=>?_,by have:=hp.1;omega,hp.2⟩;obtain⟨e,he,rfl⟩:=bQ.1 y;exact hb e<|bH _<|bH _ he
 have⟨r1,o1,yJ,u1,f1,w1,c1,a1,e1,hl1,zP,tq,hsz,_⟩:=hG.ru (i:=i) N rc;rw[e1];refine bG ?_;refine G.Aj zP hl1<|G.nI O O O λH4 ru G hx4=>?_;have G:F [] H H4 ((ru,234,wO yJ u1 f1 w1 c1 (rootOf rcs i) a1)::(rl,22,vs)::(u,171,[I ra rn rc,I na nn nc])::az):=G;refine eU ?_
 have zf:∀x9 x28 x29 x30 vs az z_ H5,vs.length=rn->MG 3 1 (NsP (4001*(i+1))<|Rw rn) vs az->F [] H H5 ((rl,22,vs)::(u,171,[I ra rn rc,I na nn nc])::az)->∃m_1,m_1<m'/\Cv (gV ra rn rc na nn nc) (.map<|D r) (.pointer<|D ⟨u,0,Q⟩) (I Q 0 0) (I (D ⟨rl,0,Q⟩) rn rn) (I ra rn rc) (B rn) (λm' x6 x7 x9 yo x28 x29 x30 T=>∃(i:Nat)(vs:C Z)(az:C dL),yo=B i/\i+m'=rn/\vs.length=rn/\MG 3 1 (NsP (4001*i)<|Rw rn) vs az/\F [] H T ((rl,22,vs)::(u,171,[I ra rn rc,I na nn nc])::az)) m_1 (Cg (gV ra rn rc na nn nc) (.map<|D r) (.pointer<|D ⟨u,0,Q⟩) (I Q 0 0) (I (D ⟨rl,0,Q⟩) rn rn) (B i) (.pointer<|D ⟨ru,0,Q⟩) x9 (I ra rn rc) (B rn) (vi<|(i:Int)+1) x28 x29 x30 z_ H5):=by
  intro x9 x28 x29 x30 vs az z_ H5 W J h3;exact⟨rn-(i+1),N,_,_,_,_,_,_,_,_,_,O,i+1,vs,az,og,N,W,J,h3⟩
 refine gF (λhb=>?_) λhb=>?_
 .refine dQ ?_;exact zf _ _ _ _ vs az _ _ hvl (hR.mono λks h=>⟨by have:=h.1;omega,h.2⟩)<|F.drop (A:=[_]) G
 apply G.iI;have hx5:=G.ext;refine aO.mono (Yw G.wf (hG.ex hx5) (hm.ex hx5<|nofun) hnm N hB) ?_;rintro v H5 ⟨⟨ua,un,uc,ucs,rfl,hu,hun,al4⟩,E⟩;have hlt:=G.lt;have G:=F.drop (A:=[_])<|G.call E;refine bG ?_;have hS0:=G;have G:=hS0.base;have hS5:∀q∈((rl,22,vs)::(u,171,[I ra rn rc,I na nn nc])::az).map (λe:dL=>e.1),¬H4.next<=q\/¬yS H5 q 3:=λq hq=>.inl (by have:=hlt q<|bH _ hq;omega)
 refine lp2 9 30 (ai:=λm'' x9 x30 T=>∃(k:Nat)(vs':C Z)(R':C dL),x30=B k/\k+m''=un/\vs'.length=rn/\MG 3 1 (NsP (4001*i+k)<|Rw rn) vs' R'/\F (((rl,22,vs)::(u,171,[I ra rn rc,I na nn nc])::az).map λe:dL=>e.1) H5 T ((rl,22,vs')::(u,171,[I ra rn rc,I na nn nc])::R')) ?_ un ⟨0,vs,az,rfl,N,hvl,hR.mono λks h=>⟨by have:=h.1;omega,h.2⟩,G⟩;clear G;rintro m'' y9 y30 MH H6 ⟨k,vs',R',rfl,hkm,Mg,hR',G⟩;refine kX (λhc2=>?_) λhc2=>?_
 .refine tp ?_;refine dQ ?_;exact zf _ _ _ _ vs' R' _ _ Mg (hR'.mono λks h=>⟨by have:=h.1;omega,h.2⟩)<|hS0.over G
 have hkn:k<un:=N;have hu6:=hu.stay G.ext hS5;have⟨r',o',hl,e',hr',Lf⟩:=hu6.1.O7 hkn uc;rw[e'];refine bG ?_;have⟨z,hz,hz0,hz1⟩:=al4 _<|bB hl;obtain⟨z,rfl⟩:∃j:Nat,z=j:=⟨z.toNat,N⟩;rw[hz]at Lf;refine ME.ld Lf<|G.pz ?_;have⟨r2,o2,nm2,u2,f2,w2,c2,a2,e2,hl2,Yt,vT,_,_⟩:=(hG.ex (hS0.over G).ext).ru (i:=z) N rc;rw[e2];refine bG ?_;refine ME.ld (vT 1 _ N O) ?_;refine qx (λhb2=>?_) λhb2=>?_;rotate_left
 .refine dQ ?_;exact⟨un-(k+1),N,_,_,_,_,O,k+1,vs',R',og,N,Mg,hR'.mono λks h=>⟨by have:=h.1;omega,h.2⟩,G⟩
 have hil:i<vs'.length:=N;refine PU.of (qM N) ?_;rw[aY];refine G.ld 0 O (av hil) ?_;obtain⟨A,gb,vn,ks,rfl,hg,hks,hput⟩:=hR'.at i hil;refine G.bS O O O N λH7 rx He=>?_;have He:=He.perm<|dS _<|Ci ((rl,22,vs')::(u,171,[I ra rn rc,I na nn nc])::A) gb vn;have⟨v',H8,gQ,e8,hg',Yo,_⟩:=hg.app (m:=0) (cx:=1) He N O O N (by have:=hks.1;omega);refine ME.of e8<|PU.of (qM N) ?_;rw[aY];have Yo:F _ H5 H8 ((rl,22,vs')::(u,171,[I ra rn rc,I na nn nc])::(A++(gQ++vn))):=Yo.perm<|Ci gQ ((rl,22,vs')::(u,171,[I ra rn rc,I na nn nc])::A) vn;obtain⟨va,vn',vc,rfl⟩:∃a n c,v'=I a n c:=by rcases hg' with⟨rfl,_⟩|⟨r,n,eB,rfl,_⟩<;>exact⟨_,_,_,O⟩
 refine Yo.st 0 O O (by show i+1<=_;omega) rfl λH9 Wl=>?_;refine dQ ?_;refine⟨un-(k+1),N,_,_,_,_,O,k+1,vs'.set i<|I va vn' vc,A++(gQ++vn),og,N,by rw[bJ];exact Mg,?_,?_⟩
 .refine hput _ (λks h=>⟨by have:=h.1;omega,h.2⟩) _ _ _ hg' ⟨?_,λx E=>?_⟩
  .rw[aQ];have:=hks.1;show ks.length+1<=_;omega
  .rcases bZ.1 E with h|h
   .exact hks.2 x h
   .have h:x∈[B z]:=h;exact⟨z,aP.1 h,N,N⟩
 .have Wl:F _ H5 H9 ((rl,22,splice vs' i [I va vn' vc])::(u,171,[I ra rn rc,I na nn nc])::(A++(gQ++vn))):=Wl
  rwa [E7 hil]at Wl
end
section
variable{S:C Nat}{SH:Nat->Prop}
def gL(l:C Nat):Nat->Nat
 |0=>0
 |i+1=>l.getD i 0
def ahL{l:C Nat}(hn:l.Pairwise (·≠·)):∀i j,1<=i->i<=l.length->1<=j->j<=l.length->gL l i=gL l j->i=j:=by
 have key:∀i j,i<l.length->j<l.length->i<j->l.getD i 0≠l.getD j 0:=λi j W J h3=>by
  rw[bD,bD,av W,av J];exact j5.1 hn i j W J h3
 intro i j W J h3 h4 e;obtain⟨i,rfl⟩:∃k,i=k+1:=⟨i-1,N⟩;obtain⟨j,rfl⟩:∃k,j=k+1:=⟨j-1,N⟩;have e:l.getD i 0=l.getD j 0:=e;rcases kI i j with h|h|h
 .exact absurd e<|key i j N N h
 .rw[h]
 .exact absurd e.symm<|key j i N N h
theorem ahM{ops:Array Oper}{ak:Nat->Nat->Nat->Nat->Nat->Nat->Nat->C Cl}{a d e ay g:Nat}{K:Prop}(hn:[a,b,c,d,e,ay,g].Pairwise (·≠·))(hC:∀a b c d e ay g,ak a b c d e ay g=(ak 1 2 3 4 5 6 7).map (vP<|gL [a,b,c,d,e,ay,g]))(hk:all' (C8 7) (ak 1 2 3 4 5 6 7)=f)(h:jT ops ((ak 1 2 3 4 5 6 7).map kill)=f)(k:K):jT ops (ak a b c d e ay g)=f/\K:=by
 refine⟨?_,k⟩;rw[hC];exact C9 (m:=7) (ahL hn) hk h
structure CY where
 (ct m l o dm dl dO s ds st fr:Nat)
def D9:C (Nat×Nat)->C Z
 |[]=>[]
 |p::l=>B p.1::B p.2::D9 l
def O9(a b:C<|Nat×Nat):D9 (a++b)=D9 a++D9 b:=by
 induction a with
 |nil=>rfl
 |cons p l ih=>show B p.1::B p.2::D9 (l++b)=_;rw[ih];rfl
def B6(a:C<|Nat×Nat):(D9 a).length=a.length*2:=by
 induction a with
 |nil=>rfl
 |cons p l ih=>show(D9 l).length+2=_;rw[ih,cK];omega
structure Zj where
 (cnt:Nat)(ms lo:C Int)(op sf:C Bool)(ss:C Nat)(fs:C<|Nat×Nat)
def Cy(q:CY)(n:Nat)(x:Zj)(cs:C dL):Prop:=∃IX Uk Fj Ry,
 cs=(q.ct,3,[B x.cnt])::(q.m,22,[I (D ⟨q.dm,0,Q⟩) n n])::(q.l,22,[I (D ⟨q.dl,0,Q⟩) n n])::(q.o,34,[I (D ⟨q.dO,0,Q⟩) n n])::(q.dm,3,x.ms.map vi)::(q.dl,3,x.lo.map vi)::(q.dO,4,x.op.map .bool)::(q.s,34,[I (D ⟨q.ds,0,Q⟩) n n])::(q.ds,4,x.sf.map .bool)::(q.st,22,[IX])::(q.fr,290,[Uk])::(Fj++Ry)/\
 x.ms.length=n/\x.lo.length=n/\x.op.length=n/\x.sf.length=n/\GB 3 1 IX (x.ss.map λj=>B j) Fj/\GB 292 2 Uk (D9 x.fs) Ry
structure D_(n:Nat)(x:Zj):Prop where
 cnt:x.cnt+x.ms.count 0=n
 fs:∀p∈x.fs,p.1<n/\p.2<=1000000
 ss:∀j∈x.ss,j<n
 sub:(x.fs.map (·.1)).Sublist x.ss
 sl:x.ss.length<=x.cnt
 fl:x.fs.length<=x.cnt
abbrev yE(q:CY):Z:=.func (.func 187) ⟨[]⟩ ⟨[pr q.ct,pr q.m,pr q.l,pr q.o,pr q.st,pr q.fr]⟩
def Zj.begin(x:Zj)(k:Nat):Zj:={x with cnt:=x.cnt+1,ms:=x.ms.set k ((x.cnt+1:Nat):Int),lo:=x.lo.set k ((x.cnt+1:Nat):Int),op:=x.op.set k f,ss:=x.ss++[k],fs:=x.fs++[(k,0)]}
def Li{q:CY}{x:Zj}(hn:n<=1000)(hC:Cy q n x cs)(hO:D_ n x)(hk:k<n)(h0:x.ms[k]?=D 0)(G:F S H0 H<|cs++L):
 aO Pg X 187 [B k,pr q.ct,pr q.m,pr q.l,pr q.o,pr q.st,pr q.fr] H λ_ T=>∃M',Cy q n (x.begin k) M'/\F S H0 T (M'++L):=by
 have hS0:=G;have G:=G.own;obtain⟨IX,Uk,Fj,Ry,rfl,W,J,h3,h4,h5,h6⟩:=hC;have hcn:x.cnt<=n:=by have:=hO.cnt;omega
 refine jS [0,1,2,3,4,5,6] ?_;apply G.pz;refine dQ ?_;refine G.jH λHn G=>?_;refine eU ?_;refine PU.of (qM hk) ?_;rw[aY];refine G.mh (λH2 G=>?_) O (by rw[aK];show k+1<=_;omega) rfl;refine PU.of (qM hk) ?_;rw[aY]
 try simp only[gN G.wf]
 refine G.mh (λH3 G=>?_) O (by rw[aK];show k+1<=_;omega) rfl;refine PU.of (qM hk) ?_;rw[aY]
 try simp only[gN G.wf]
 refine G.mh (λH4 G=>?_) O (by rw[aK];show k+1<=_;omega) rfl
 have hne:[q.ct,q.m,q.l,q.o,q.dm,q.dl,q.dO].Pairwise (·≠·):=by
  have h:List.Pairwise (·≠·) ([q.ct,q.m,q.l,q.o,q.dm,q.dl,q.dO]++q.s::q.ds::q.st::q.fr::(Fj++Ry).map (λe:dL=>e.1)):=(List.pairwise_map (f:=λe:dL=>e.1)).2 G.ne;exact(lV.1 h).1
 refine splitK (λK hK=>?_) ?_
 .simp only[d_,fK];generalize q.ct=ct at hne|-;generalize q.m=mm at hne|-;generalize q.l=ll at hne|-;generalize q.o=oo at hne|-;generalize q.dm=dm at hne|-;generalize q.dl=dl at hne|-;generalize q.dO=dO at hne|-;apply ahM hne xN jr jr hK
 have G:F _ H _ ((q.ct,3,[B (x.cnt+1)])::(q.m,22,[I (D ⟨q.dm,0,Q⟩) n n])::(q.l,22,[I (D ⟨q.dl,0,Q⟩) n n])::(q.o,34,[I (D ⟨q.dO,0,Q⟩) n n])::(q.dm,3,splice (x.ms.map vi) k [vi ((x.cnt+1:Nat):Int)])::(q.dl,3,splice (x.lo.map vi) k [vi ((x.cnt+1:Nat):Int)])::(q.dO,4,splice (x.op.map .bool) k [.bool f])::(q.s,34,[I (D ⟨q.ds,0,Q⟩) n n])::(q.ds,4,x.sf.map .bool)::(q.st,22,[IX])::(q.fr,290,[Uk])::(Fj++Ry)):=G;rw[pq vi N,pq vi N,pq gI N]at G;generalize hM (hM (hM Hn _) _) H4=H5 at*;have hl5:x.ss.length<=1000:=by have:=hO.sl;omega
 have LY:(D9 x.fs).length<=2000:=by rw[B6];have:=hO.fl;omega
 obtain⟨a5,n5,c5,rfl⟩:∃a n c,IX=I a n c:=by rcases h5 with⟨rfl,_⟩|⟨r,n,eB,rfl,_⟩<;>exact⟨_,_,_,O⟩
 obtain⟨a6,n6,c6,rfl⟩:∃a n c,Uk=I a n c:=by rcases h6 with⟨rfl,_⟩|⟨r,n,eB,rfl,_⟩<;>exact⟨_,_,_,O⟩
 refine G.pz<|G.bS O O O N λH7 rx He=>?_;have He:=He.perm<|dS _<|Ci [_,_,_,_,_,_,_,_,_,_,_] Fj Ry;have⟨v',H8,Yx,e8,hg',Yo,_⟩:=h5.app (m:=0) (cx:=1) He N O O N (by rw[aK];omega);refine ME.of e8 ?_;have G:=Yo.perm<|Ci Yx [_,_,_,_,_,_,_,_,_,_,_] Ry;simp only[bI,bN]at G;obtain⟨a7,n7,c7,rfl⟩:∃a n c,v'=I a n c:=by rcases hg' with⟨rfl,_⟩|⟨r,n,eB,rfl,_⟩<;>exact⟨_,_,_,O⟩
 refine G.jH λHn G=>?_;refine eU ?_;refine G.bS O O O N λH9 ry Wl=>?_;have Wl:=Wl.perm<|dS _<|((gD [_,_,_,_,_,_,_,_,_,_,_]<|aG (l₁:=Yx) (l₂:=Ry))).trans<|Ci [_,_,_,_,_,_,_,_,_,_,_] Ry Yx;have⟨w',Dq,ahN,e10,akj,ahI,_⟩:=h6.app (m:=0) (cx:=1) Wl N O O N N;refine ME.of e10 ?_;have G:=(ahI.perm<|Ci ahN [_,_,_,_,_,_,_,_,_,_,_] Yx).perm<|gD [_,_,_,_,_,_,_,_,_,_,_]<|aG (l₁:=ahN) (l₂:=Yx);simp only[bI,bN]at G;obtain⟨a8,n8,c8,rfl⟩:∃a n c,w'=I a n c:=by rcases akj with⟨rfl,_⟩|⟨r,n,eB,rfl,_⟩<;>exact⟨_,_,_,O⟩
 refine G.jH λHn G=>?_;refine rn ?_;refine⟨_,⟨I a7 n7 c7,I a8 n8 c8,Yx,ahN,O,?_,?_,?_,h4,?_,?_⟩,?_⟩
 .show(x.ms.set k _).length=n;rw[bJ];exact W
 .show(x.lo.set k _).length=n;rw[bJ];exact J
 .show(x.op.set k _).length=n;rw[bJ];exact h3
 .show GB 3 1 _ ((x.ss++[k]).map λj=>B j) _;rw[dA];exact hg'
 .show GB 292 2 _ (D9<|x.fs++[(k,0)]) _;rw[O9];exact akj
 .have hF:=F.frame (cs:=(q.ct,3,[B x.cnt])::(q.m,22,[I (D ⟨q.dm,0,Q⟩) n n])::(q.l,22,[I (D ⟨q.dl,0,Q⟩) n n])::(q.o,34,[I (D ⟨q.dO,0,Q⟩) n n])::(q.dm,3,x.ms.map vi)::(q.dl,3,x.lo.map vi)::(q.dO,4,x.op.map .bool)::(q.s,34,[I (D ⟨q.ds,0,Q⟩) n n])::(q.ds,4,x.sf.map .bool)::(q.st,22,[I a5 n5 c5])::(q.fr,290,[I a6 n6 c6])::(Fj++Ry)) hS0 G;exact hF
end
variable{q:CY}{x:Zj}
section
variable{S:C Nat}{SH:Nat->Prop}
theorem ab0(hn:n<=1000)(hC:Cy q n x cs)(hO:D_ n x)(hk:k<n)(hm:k∈x.ss)(G:F S H0 H<|cs++L):
 aO Pg X 188 [B k,pr q.st,pr q.o,pr q.s] H λ_ T=>∃(p:Nat)(op sf:C Bool)(M':C dL),x.ss[p]?=D k/\(∀j,p<j->x.ss[j]?≠D k)/\Cy q n {x with op:=op,sf:=sf,ss:=x.ss.take p} M'/\F S H0 T (M'++L):=by
 have hS0:=G;have G:=G.own;obtain⟨IX,Uk,Fj,Ry,rfl,W,J,h3,h4,h5,h6⟩:=hC;have hcn:x.cnt<=n:=by have:=hO.cnt;omega
 have hl5:x.ss.length<=1000:=by have:=hO.sl;omega
 rcases h5 with⟨rfl,e,rfl⟩|⟨rt,sn,eB,rfl,hsn,rfl⟩
 .exfalso;cases hss:x.ss with
  |nil=>rw[hss]at hm;cases hm
  |cons a l=>rw[hss]at e;cases e
 rw[aK,dz]at hsn;subst hsn;refine cem [0,1,2,3,5,7,21,22,23] ?_
 have hpos:1<=x.ss.length:=by
  cases hss:x.ss with
  |nil=>rw[hss]at hm;cases hm
  |cons a l=>simp
 refine qL ?_;refine Yb 5 (ai:=λm x5 T=>∃p:Nat,x5=B p/\p=m/\p<x.ss.length/\(∀j,p<j->x.ss[j]?≠D k)/\F _ H T _) ?_ (x.ss.length-1) ⟨x.ss.length-1,by rw[show((x.ss.length:Int)-1)=((x.ss.length-1:Nat):Int) by omega];rfl,rfl,N,λj hj=>by rw[fE N];simp,G⟩;clear G;rintro m x5 u H1 ⟨p,rfl,rfl,hp,hlast,G⟩;refine tm ?_;refine PU.of (qM hp) ?_;rw[aY];refine G.ld 11 O (v:=B x.ss[p]) (by rw[bM (by rw[aK];exact hp),bF,av hp];rfl) ?_;refine wR (λhc=>?_) λhc=>?_
 .have⟨i,hi,hik⟩:=iM hm
  have hip:i<p:=by
   rcases kI i p with h|h|h
   .exact h
   .subst h;exact absurd (by rw[hik]) hc
   .exact absurd (by rw[av hi,hik])<|hlast i h
  refine qL ?_;refine⟨p-1,N,_,_,_,O,p-1,by rw[show((p:Int)-1)=((p-1:Nat):Int) by omega],rfl,N,λj hj=>?_,G⟩;rcases cr p j with h|h
  .exact hlast j h
  .obtain rfl:j=p:=N;rw[av hp];intro e;exact hc (by rw[dK e])
 have hpk:x.ss[p]?=D k:=by rw[av hp];congr 1;omega
 refine tl ?_;apply G.pz;refine PU.of (Uj N) ?_;rw[aY];refine bG ?_;refine lp2 7 23 (ai:=λm x7 yx T=>∃(j:Nat)(op sf:C Bool),yx=B j/\j+m=x.ss.length-p/\op.length=n/\sf.length=n/\F (List.map (λe:dL=>e.1)<|(q.ct,3,[B x.cnt])::(q.m,22,[I (D ⟨q.dm,0,Q⟩) n n])::(q.l,22,[I (D ⟨q.dl,0,Q⟩) n n])::(q.o,34,[I (D ⟨q.dO,0,Q⟩) n n])::(q.dm,3,x.ms.map vi)::(q.dl,3,x.lo.map vi)::(q.dO,4,x.op.map .bool)::(q.s,34,[I (D ⟨q.ds,0,Q⟩) n n])::(q.ds,4,x.sf.map .bool)::(q.st,22,[I (D ⟨rt,0,Q⟩) x.ss.length (fJ 1)])::(q.fr,290,[Uk])::([(rt,3,(x.ss.map λj=>B j)++eB)]++Ry)) H T ((q.ct,3,[B x.cnt])::(q.m,22,[I (D ⟨q.dm,0,Q⟩) n n])::(q.l,22,[I (D ⟨q.dl,0,Q⟩) n n])::(q.o,34,[I (D ⟨q.dO,0,Q⟩) n n])::(q.dm,3,x.ms.map vi)::(q.dl,3,x.lo.map vi)::(q.dO,4,op.map .bool)::(q.s,34,[I (D ⟨q.ds,0,Q⟩) n n])::(q.ds,4,sf.map .bool)::(q.st,22,[I (D ⟨rt,0,Q⟩) x.ss.length (fJ 1)])::(q.fr,290,[Uk])::(rt,3,(x.ss.map λj=>B j)++eB)::Ry)) ?_ (x.ss.length-p) ⟨0,x.op,x.sf,rfl,N,h3,h4,G⟩;clear G;rintro m x7 yx u H1 ⟨j,op,sf,rfl,hjm,ho,hs,G⟩;refine kX (λhc2=>?_) λhc2=>?_
 .refine tl ?_;apply G.pz;refine PU.of (BM N) ?_;refine G.jH λHn G=>rn ?_;refine⟨p,op,sf,_,hpk,hlast,⟨I (D ⟨rt,0,Q⟩) p<|fJ 1,Uk,[(rt,3,((x.ss.take p).map λj=>B j)++(((x.ss.drop p).map λj=>B j)++eB))],Ry,rfl,W,J,ho,hs,?_,h6⟩,?_⟩
  .exact .inr ⟨rt,p,_,O,by rw[aK,dF];omega,rfl⟩
  .have hF:=F.frame (cs:=(q.ct,3,[B x.cnt])::(q.m,22,[I (D ⟨q.dm,0,Q⟩) n n])::(q.l,22,[I (D ⟨q.dl,0,Q⟩) n n])::(q.o,34,[I (D ⟨q.dO,0,Q⟩) n n])::(q.dm,3,x.ms.map vi)::(q.dl,3,x.lo.map vi)::(q.dO,4,x.op.map .bool)::(q.s,34,[I (D ⟨q.ds,0,Q⟩) n n])::(q.ds,4,x.sf.map .bool)::(q.st,22,[I (D ⟨rt,0,Q⟩) x.ss.length (fJ 1)])::(q.fr,290,[Uk])::([(rt,3,(x.ss.map λj=>B j)++eB)]++Ry)) hS0 G;rw[<-bU,<-dA,iP];exact hF
 have hpj:p+j<x.ss.length:=N;refine PU.of (qM N)<|G.ld 11 O (v:=B x.ss[p+j]) (by rw[bM (by rw[aK];exact hpj),bF,av hpj];rfl) ?_;have hzn:x.ss[p+j]<n:=hO.ss _<|bB hpj;generalize x.ss[p+j]=z at hzn;refine G.pz<|PU.of (qM hzn) ?_;rw[aY];refine G.st 6 O O (by rw[aK];show z+1<=_;omega) rfl λH2 G=>?_;simp only[jy,pM]at G;have G:=G;refine eU ?_;refine PU.of (qM hzn) ?_;rw[aY];refine G.QN (v:=.bool<|sf[z]'N) ?_ (by rw[bF,av (show z<sf.length by omega)];rfl);refine bG ?_;have hS1:=G;refine gF (λhb=>?_) λhb=>?_
 .refine PU.of (qM hzn) ?_;rw[aY]
  try simp only[gN G.wf]
  refine G.mh (λH3 G=>?_) O (by rw[aK];show z+1<=_;omega) rfl;refine splitK (λK hK=>?_) ?_
  .simp only[d_,fK];have n1:q.ds≠q.s:=(hS1.nq 7 8 O O N).symm;generalize q.ds=ds at n1|-;generalize q.s=qs at n1|-;apply lQ n1 xN jr jr hK
  refine dQ ?_;refine⟨x.ss.length-p-(j+1),N,_,_,_,_,O,j+1,op.set z aC,sf.set z f,og,N,by rw[bJ];exact ho,by rw[bJ];exact hs,?_⟩;rw[<-pq gI N,<-pq gI N];exact G
 .try simp only[gN G.wf]
  apply G.QN;refine G.kL ?_;refine qL ?_;refine G.kL ?_;generalize decide ((1:Int)<(x.ss.length:Int)-(p:Int))=bz;refine PU.of (qM hzn) ?_;rw[aY]
  try simp only[gN G.wf]
  refine G.mh (λH3 G=>?_) O (by rw[aK];show z+1<=_;omega) rfl;refine splitK (λK hK=>?_) ?_
  .simp only[d_,fK];have n1:q.ds≠q.s:=(hS1.nq 7 8 O O N).symm;have n2:q.ds≠q.st:=(hS1.nq 8 9 O O N);have n3:q.s≠q.st:=(hS1.nq 7 9 O O N);generalize q.ds=ds at n1 n2|-;generalize q.s=qs at n1 n3|-;generalize q.st=qt at n2 n3|-;apply xG n1 n2 n3 xN jr jr hK
  refine dQ ?_;refine⟨x.ss.length-p-(j+1),N,_,_,_,_,O,j+1,op.set z aC,sf.set z bz,og,N,by rw[bJ];exact ho,by rw[bJ];exact hs,?_⟩;rw[<-pq gI N,<-pq gI N];exact G
end
section
variable{S:C Nat}{SH:Nat->Prop}
abbrev Jj(q:CY):Z:=.func (.func 188) ⟨[]⟩ ⟨[pr q.st,pr q.o,pr q.s]⟩
def Hf(fs:C<|Nat×Nat)(a b:Nat)(eB:C Z):(D9 (fs++[(a,b)])++eB)[fs.length*2]?=D (B a)/\(D9 (fs++[(a,b)])++eB)[fs.length*2+1]?=D (B b)/\∀b',splice (D9 (fs++[(a,b)])++eB) (fs.length*2+1) [B b']=D9 (fs++[(a,b')])++eB:=by
 have hl:=B6 fs
 have e:∀b,D9 (fs++[(a,b)])++eB=D9 fs++(B a::B b::eB):=λb=>by
  rw[O9,bU];rfl
 refine⟨?_,?_,λb'=>?_⟩
 .rw[e,dV N,hl,jc];rfl
 .rw[e,dV N,hl,show fs.length*2+1-fs.length*2=1 by omega];rfl
 .rw[e,e,E7 (by rw[aQ,hl];simp),qy _ _ N,hl,show fs.length*2+1-fs.length*2=1 by omega];rfl
def E8:∀(l:C Int)(t:Nat)(v:Int),l[t]?=D 0->v≠0->(l.set t v).count 0+1=l.count 0
 |[],t,v,h,_=>by simp at h
 |a::l,0,v,h,hv=>by
  have h:a=0:=mg h;subst h;rw[pM,List.count_cons_self,List.count_cons_of_ne hv]
 |a::l,t+1,v,h,hv=>by
  have ih:=E8 l t v (mg h) hv;rw[jy,vK,vK];omega
theorem D_.begin{t:Nat}(h:D_ n x)(ht:t<n)(h0:x.ms[t]?=D 0):D_ n (x.begin t):=by
 have hc:=E8 x.ms t ((x.cnt+1:Nat):Int) h0 N;have W:=h.cnt;have J:=h.sl;have h3:=h.fl;refine⟨?_,λp hp=>?_,λj hj=>?_,?_,?_,?_⟩
 .show x.cnt+1+(x.ms.set t _).count 0=n;omega
 .rcases bZ.1 hp with h'|h'
  .exact h.fs p h'
  .rw[aP]at h';subst h';exact⟨ht,N⟩
 .rcases bZ.1 hj with h'|h'
  .exact h.ss j h'
  .rw[aP]at h';subst h';exact ht
 .show(List.map (λp:Nat×Nat=>p.1)<|x.fs++[(t,0)]).Sublist (x.ss++[t]);rw[dA];exact h.sub.append<|List.Sublist.refl _
 .show(x.ss++[t]).length<=x.cnt+1;rw[aQ];simp;omega
 .show(x.fs++[(t,0)]).length<=x.cnt+1;rw[aQ];simp;omega
def ab1{ss A:C Nat}(h:(A++[k]).Sublist ss)(hp:ss[p]?=D k)(hl:∀j,p<j->ss[j]?≠D k):A.Sublist (ss.take p):=by
 obtain⟨r1,r2,rfl,W,J⟩:=List.append_sublist_iff.1 h;have hk:k∈r2:=J.subset<|aP.2 O;have⟨j,hj,e⟩:=iM hk
 have hle:r1.length+j<=p:=by
  rcases cr p (r1.length+j)with h|h
  .exact absurd (by rw[dV N,iT,av hj,e])<|hl _ h
  .exact h
 rw[List.take_append];rw[cO (show r1.length<=p by omega)];exact W.trans<|eD _ _
abbrev Yy(q:CY)(n:Nat)(x:Zj)(rf:Nat)(fr:C Z)(Uk IX:Z)(Fj:C dL):C dL:=
 (rf,292,fr)::(q.ct,3,[B x.cnt])::(q.m,22,[I (D ⟨q.dm,0,Q⟩) n n])::(q.l,22,[I (D ⟨q.dl,0,Q⟩) n n])::(q.o,34,[I (D ⟨q.dO,0,Q⟩) n n])::(q.dm,3,x.ms.map vi)::(q.dl,3,x.lo.map vi)::(q.dO,4,x.op.map .bool)::(q.s,34,[I (D ⟨q.ds,0,Q⟩) n n])::(q.ds,4,x.sf.map .bool)::(q.st,22,[IX])::(q.fr,290,[Uk])::Fj
def Rz{IX:Z}(W:x.ms.length=n)(J:x.lo.length=n)(h3:x.op.length=n)(h4:x.sf.length=n)(h5:GB 3 1 IX (x.ss.map λj=>B j) Fj)(G:F S H0 H<|Yy q n x rf (D9 x.fs++eB) (I (D ⟨rf,0,Q⟩) x.fs.length<|fJ 2) IX Fj):∃cs,Cy q n x cs/\F S H0 H cs:=
 ⟨_,⟨IX,_,Fj,[_],rfl,W,J,h3,h4,h5,.inr ⟨rf,x.fs.length,eB,rfl,B6 _,rfl⟩⟩,G.perm<|aG (l₂:=_::_::_::_::_::_::_::_::_::_::_::Fj) (l₁:=[_])⟩
def Wm(n K:Nat)(au:Int->Prop)(H:R)(v:Z):Prop:=∃b,JH b K au n H v
theorem RA{K:Nat}(hn:n<=1000)(hK:K<=1000000)(hU:Wm n K au H<|I ua n uc){Kp:Out->Prop}{kW Bf:Z}(x:Zj)(cs:C dL)(hC:Cy q n x cs)(hO:D_ n x)(jI sP lH pG:Z)(u)(H1:R)(G:F [] H H1 cs)(kk:∀x cs jI sP lH pG u H1,Cy q n x cs->D_ n x->x.fs=[]->F [] H H1 cs->Kp (.exit 2<|kS (I ua n uc) (I Q 0 0) (pr q.m) (pr q.l) (pr q.o) (pr q.s) (pr q.st) (pr q.fr) (pr q.ct) (yE q) (Jj q) kW jI sP lH pG (B n) Bf u H1)):
 gK Pg X (.loop<|sub lG [1,1,1,1,1,1,1,1,0,1,0,0,1,1,0,0,1,0,1,1,0,0]) (kS (I ua n uc) (I Q 0 0) (pr q.m) (pr q.l) (pr q.o) (pr q.s) (pr q.st) (pr q.fr) (pr q.ct) (yE q) (Jj q) kW jI sP lH pG (B n) Bf u H1) Kp:=by
 have⟨ub,ua',uc',uvs,eu,hU1,hU2⟩:=hU;cases eu;refine NG 13 14 15 16 (ai:=λm jI sP lH pG T=>∃x cs,Cy q n x cs/\D_ n x/\F [] H T cs/\m=2*x.ms.count 0+x.fs.length) ?_ _ ⟨x,cs,hC,hO,G,rfl⟩;clear hC hO G x cs;rintro m jI sP lH pG u H1 ⟨x,cs,hC,hO,G,hm⟩;have hC0:=hC;have hS0:=G;obtain⟨IX,Uk,Fj,Ry,rfl,W,J,h3,h4,h5,h6⟩:=hC;have hcn:x.cnt<=n:=by have:=hO.cnt;omega
 have hfl:=hO.fl;refine tl ?_
 obtain⟨fa,fn,fc,rfl,hfn⟩:∃a m c,Uk=I a m c/\m=x.fs.length:=by
  rcases h6 with⟨rfl,e,_⟩|⟨r,m,eB,rfl,e,_⟩
  .refine⟨_,_,_,O,?_⟩;have:=B6 x.fs;rw[e]at this;simp at this;omega
  .rw[B6]at e;exact⟨_,_,_,O,N⟩
 subst hfn;refine X7 (λhc=>?_) λhc=>?_
 .exact kk x _ _ _ _ _ _ _ hC0 hO (gW N) G
 rcases h6 with⟨e,e',_⟩|⟨rf,fn,eB,e,hfe,rfl⟩
 .exfalso;have:=B6 x.fs;rw[e']at this;simp at this;omega
 cases e
 obtain⟨fs',p,hfs⟩:∃fs' p,x.fs=fs'++[p]:=by
  rcases uQ x.fs with h|⟨l,p,h⟩
  .rw[h]at hc;simp at hc
  .exact⟨l,p,by rw[h,uP]⟩
 have⟨node,nx⟩:=p;have hlen:x.fs.length=fs'.length+1:=by rw[hfs];simp
 have Em:node<n/\nx<=1000000:=hO.fs (node,nx) (by rw[hfs];simp)
 have G:F [] H H1 (Yy q n x rf (D9 (fs'++[(node,nx)])++eB) (I (D ⟨rf,0,Q⟩) x.fs.length<|fJ 2) IX Fj):=by
  rw[<-hfs];exact G.perm<|aG (l₁:=_::_::_::_::_::_::_::_::_::_::_::Fj) (l₂:=[_])
 refine eU ?_;refine qL ?_;rw[show((x.fs.length:Int)-1)=(fs'.length:Int) by omega];refine PU.of (tX N) ?_;rw[aY];refine bG ?_;refine G.ld 0 O (Hf fs' node nx eB).1 ?_;have⟨r1,o1,hl1,e1,hr1,hc1⟩:=hU1.1.O7 Em.1 uc;have⟨ra,rn,rc,rcs,hrow,hU3,hrn,al5⟩:=hU2 _<|bB hl1;rw[hrow]at hc1
 have top:∀(nx:Nat)(lo:C Int)(sf:C Bool){T:R},lo.length=n->sf.length=n->F [] H T (Yy q n {x with lo:=lo,sf:=sf} rf (D9 (fs'++[(node,nx)])++eB) (I (D ⟨rf,0,Q⟩) x.fs.length<|fJ 2) IX Fj)->∃cs,Cy q n {x with lo:=lo,sf:=sf,fs:=fs'++[(node,nx)]} cs/\F [] H T cs:=by
  intro nx lo sf T g1 g2 g3;have e:x.fs.length=(fs'++[(node,nx)]).length:=by rw[hlen];simp
  rw[e]at g3;exact Rz (x:={x with lo:=lo,sf:=sf,fs:=fs'++[(node,nx)]}) W g1 h3 g2 h5 g3
 have al6:∀(nx:Nat)(lo:C Int)(sf:C Bool),nx<=1000000->D_ n {x with lo:=lo,sf:=sf,fs:=fs'++[(node,nx)]}:=by
  intro nx' lo sf hnx;refine⟨hO.cnt,λp hp=>?_,hO.ss,?_,hO.sl,?_⟩
  .rcases bZ.1 hp with h|h
   .exact hO.fs p (by rw[hfs];exact dn _ h)
   .rw[aP]at h;subst h;exact⟨Em.1,hnx⟩
  .have:=hO.sub;rw[hfs]at this;simpa using this
  .show(fs'++[(node,nx')]).length<=x.cnt;rw[aQ];simp;omega
 refine Yb 15 (ai:=λm15 lH T=>∃(nx:Nat)(lo:C Int)(sf:C Bool),m15=rn-nx/\nx<=1000000/\lo.length=n/\sf.length=n/\F [] H T (Yy q n {x with lo:=lo,sf:=sf} rf (D9 (fs'++[(node,nx)])++eB) (I (D ⟨rf,0,Q⟩) x.fs.length<|fJ 2) IX Fj)) ?_ _ ⟨nx,x.lo,x.sf,O,Em.2,J,h4,G⟩;clear G hS0 hC0;rintro m15 y15 rg2 H2 ⟨nx,lo,sf,rfl,hnx,hlo,hsf,G⟩;refine tp ?_;refine G.Mm 0 O (Hf fs' node nx eB).2.1 ?_;rw[e1];refine G.kL ?_;refine G.GU hc1 hr1 ?_;refine X7 (λhc2=>?_) λhc2=>?_
 .refine tl ?_;have al7:D9 (fs'++[(node,nx)])++eB=D9 fs'++(B node::B nx::eB):=by rw[O9,bU];rfl
  rw[al7]at G;have hin:node∈x.ss:=hO.sub.subset (by rw[hfs];simp)
  have hO2:∀lo sf,D_ n {x with lo:=lo,sf:=sf,fs:=fs'}:=λlo sf=>by
   refine⟨hO.cnt,λp hp=>hO.fs p (by rw[hfs];exact dn _ hp),hO.ss,?_,hO.sl,by show fs'.length<=x.cnt;omega⟩;have:=hO.sub;rw[hfs,dA]at this;exact(eD _ _).trans this
  have last:∀(lo':C Int)(T:R)(lH pG:Z) u,lo'.length=n->F [] H T (Yy q n {x with lo:=lo',sf:=sf,fs:=fs'} rf (D9 fs'++(B node::B nx::eB)) (I (D ⟨rf,0,Q⟩) fs'.length<|fJ 2) IX Fj)->gK Pg X (sub lG [1,1,1,1,1,1,1,1,0,1,0,0,1,1,0,0,1,0,1,1,0,0,1,0,1,1,1,1,1]) (kS (I ua n uc) (I Q 0 0) (pr q.m) (pr q.l) (pr q.o) (pr q.s) (pr q.st) (pr q.fr) (pr q.ct) (yE q) (Jj q) kW (.pointer<|D ⟨rf,fs'.length*2,Q⟩) (B node) lH pG (B n) Bf u T) (sw 3<|Gm (nX (I ua n uc) (I Q 0 0) (pr q.m) (pr q.l) (pr q.o) (pr q.s) (pr q.st) (pr q.fr) (pr q.ct) (yE q) (Jj q) kW (B n) Bf λm jI sP lH pG T=>∃x cs,Cy q n x cs/\D_ n x/\F [] H T cs/\m=2*List.count 0 x.ms+x.fs.length) m Kp):=by
   intro lo' T lH pG u aiJ G;refine tm ?_;refine PU.of (qM Em.1) ?_;rw[aY];refine G.Mm 6 O (v:=vi<|lo'[node]'N) (by show(lo'.map vi)[node]?=_;rw[bF,av (show node<lo'.length by omega)];rfl) ?_;refine eU ?_;refine PU.of (qM Em.1) ?_;rw[aY];refine G.Mm 5 O (v:=vi<|x.ms[node]'N) (by show(x.ms.map vi)[node]?=_;rw[bF,av (show node<x.ms.length by omega)];rfl) ?_;refine eU ?_;have⟨M2,hC2,hS2⟩:=Rz (x:={x with lo:=lo',sf:=sf,fs:=fs'}) W aiJ h3 hsf h5 G;refine mF (λhc6=>?_) λhc6=>?_
   .exact⟨2*x.ms.count 0+fs'.length,N,_,_,_,_,_,_,O,_,M2,hC2,hO2 _ _,hS2,O⟩
   have aeD:F [] H T (M2++[]):=by rw[bq];exact hS2
   show aO Pg X 188 [B node,pr q.st,pr q.o,pr q.s] T _;refine aO.mono (ab0 hn hC2 (hO2 _ _) Em.1 hin aeD) ?_;rintro v H4 ⟨p,op,sf',M3,hp,hlast,hC3,sG⟩;rw[bq]at sG;refine⟨2*x.ms.count 0+fs'.length,N,_,_,_,_,_,_,O,_,M3,hC3,?_,sG,O⟩;have hO3:=hO2 lo' sf;refine⟨hO3.cnt,hO3.fs,λj hj=>hO.ss j<|eX hj,?_,?_,hO3.fl⟩
   .have:=hO.sub;rw[hfs,dA]at this;exact ab1 this hp hlast
   .show(x.ss.take p).length<=x.cnt;have:=hO.sl;rw[dF];omega
  refine eU ?_;refine qL ?_;rw[show((x.fs.length:Int)-1)=(fs'.length:Int) by omega];refine PU.of (BM N)<|G.jH λHn G=>?_;refine eU ?_;have G:F [] H Hn (Yy q n {x with lo:=lo,sf:=sf,fs:=fs'} rf (D9 fs'++(B node::B nx::eB)) (I (D ⟨rf,0,Q⟩) fs'.length<|fJ 2) IX Fj):=G;refine mF (λhc6=>?_) λhc6=>?_
  .exact last _ _ _ _ _ hlo G
  obtain⟨fs2,p2,ahO⟩:∃fs2 p,fs'=fs2++[p]:=by
   rcases uQ fs' with h|⟨l,p,h⟩
   .rw[h]at hc6;simp at hc6
   .exact⟨l,p,by rw[h,uP]⟩
  have⟨up,un⟩:=p2;have hup:up<n:=(hO.fs (up,un) (by rw[hfs,ahO];simp)).1;have Wo:fs'.length=fs2.length+1:=by rw[ahO];simp
  have hrow:D9 fs'=D9 (fs2++[(up,un)]):=by rw[ahO]
  refine eU ?_;refine qL ?_;rw[show((fs'.length:Int)-1)=(fs2.length:Int) by omega];refine PU.of (tX N) ?_;rw[aY];refine bG ?_;refine G.ld 0 O (v:=B up) (by rw[hrow];exact(Hf fs2 up un _).1) ?_;refine eU ?_;refine PU.of (qM hup) ?_;rw[aY];refine G.Mm 6 O (v:=vi<|lo[up]'N) (by show(lo.map vi)[up]?=_;rw[bF,av (show up<lo.length by omega)];rfl) ?_;refine eU ?_;refine PU.of (qM Em.1) ?_;rw[aY];refine G.Mm 6 O (v:=vi<|lo[node]'N) (by show(lo.map vi)[node]?=_;rw[bF,av (show node<lo.length by omega)];rfl) ?_;refine G.kL ?_;refine PU.of (qM hup) ?_;rw[aY];have n5:q.l≠q.dl:=G.nq 3 6 O O N;generalize min (lo[up]'N) (lo[node]'N)=mn;refine G.stQ 6 O O (by rw[aK];show up+1<=lo.length;omega) rfl λH4 G=>?_;refine splitK (λK hK=>?_) ?_
  .simp only[d_,fK];generalize q.l=ql at n5|-;generalize q.dl=dl at n5|-;apply lQ n5 xN jr jr hK
  have G:F [] H _ ((Yy q n {x with lo:=lo,sf:=sf,fs:=fs'} rf (D9 fs'++(B node::B nx::eB)) (I (D ⟨rf,0,Q⟩) fs'.length<|fJ 2) IX Fj).set 6 (q.dl,3,splice (lo.map vi) up [vi mn])):=G;rw[pq vi N]at G;exact last (lo.set up mn) _ _ _ _ (by rw[bJ];exact hlo) G
 refine G.GU hc1 hr1 ?_;refine G.kL ?_;refine G.Mm 0 O (Hf fs' node nx eB).2.1 ?_;have⟨r2,o2,hl2,e2,hr2,hc2'⟩:=hU3.1.O7 (show nx<rn by omega) rc;have⟨to,hto,_⟩:=al5 _<|bB hl2;rw[hto]at hc2';rw[e2];refine G.kL ?_;refine G.GU hc2' hr2 ?_;refine eU ?_;refine G.ld 0 O (Hf fs' node nx eB).2.1 ?_;refine dQ ?_;refine G.st 0 O O (by rw[aQ,B6,aQ];show fs'.length*2+1+1<=(fs'.length+1)*2+eB.length;omega) rfl λH3 G=>?_;have G:F [] H H3 (Yy q n {x with lo:=lo,sf:=sf} rf (splice (D9 (fs'++[(node,nx)])++eB) (fs'.length*2+1) [B (nx+1)]) (I (D ⟨rf,0,Q⟩) x.fs.length<|fJ 2) IX Fj):=G;rw[(Hf fs' node nx eB).2.2]at G
 have fin:∀(b:Bool) u,Bc u 83=.bool b->(b=aC->0<=to/\to<n)->gK Pg X (sub lG [1,1,1,1,1,1,1,1,0,1,0,0,1,1,0,0,1,0,1,1,0,0,1,0,1,1,0,0,0,1,0,1,1,0,1]) (kS (I ua n uc) (I Q 0 0) (pr q.m) (pr q.l) (pr q.o) (pr q.s) (pr q.st) (pr q.fr) (pr q.ct) (yE q) (Jj q) kW (.pointer<|D ⟨rf,fs'.length*2,Q⟩) (B node) (vi to) pG (B n) Bf u H3) (sw 6<|sw 5<|Gm (l8 (I ua n uc) (I Q 0 0) (pr q.m) (pr q.l) (pr q.o) (pr q.s) (pr q.st) (pr q.fr) (pr q.ct) (yE q) (Jj q) kW (.pointer<|D ⟨rf,fs'.length*2,Q⟩) (B node) pG (B n) Bf λm15 lH T=>∃(nx:Nat)(lo:C Int)(sf:C Bool),m15=rn-nx/\nx<=1000000/\lo.length=n/\sf.length=n/\F [] H T (Yy q n {x with lo:=lo,sf:=sf} rf (D9 (fs'++[(node,nx)])++eB) (I (D ⟨rf,0,Q⟩) x.fs.length<|fJ 2) IX Fj)) (rn-nx)<|sw 4<|t_ Pg X (sub lG [1,1,1,1,1,1,1,1,0,1,0,0,1,1,0,0,1,0,1,1,0,0,1,0,1,1,1])<|sw 3<|Gm (nX (I ua n uc) (I Q 0 0) (pr q.m) (pr q.l) (pr q.o) (pr q.s) (pr q.st) (pr q.fr) (pr q.ct) (yE q) (Jj q) kW (B n) Bf λm jI sP lH pG T=>∃x cs,Cy q n x cs/\D_ n x/\F [] H T cs/\m=2*List.count 0 x.ms+x.fs.length) m Kp):=by
  intro b u hb hto;refine tl ?_;rw[hb];refine bG ?_
  have zf:∀z_ T lo' sf',lo'.length=n->sf'.length=n->F [] H T (Yy q n {x with lo:=lo',sf:=sf'} rf (D9 (fs'++[(node,nx+1)])++eB) (I (D ⟨rf,0,Q⟩) x.fs.length<|fJ 2) IX Fj)->∃m_1,m_1<rn-nx/\l8 (I ua n uc) (I Q 0 0) (pr q.m) (pr q.l) (pr q.o) (pr q.s) (pr q.st) (pr q.fr) (pr q.ct) (yE q) (Jj q) kW (.pointer<|D ⟨rf,fs'.length*2,Q⟩) (B node) pG (B n) Bf (λm15 lH T=>∃(nx:Nat)(lo:C Int)(sf:C Bool),m15=rn-nx/\nx<=1000000/\lo.length=n/\sf.length=n/\F [] H T (Yy q n {x with lo:=lo,sf:=sf} rf (D9 (fs'++[(node,nx)])++eB) (I (D ⟨rf,0,Q⟩) x.fs.length<|fJ 2) IX Fj)) m_1 (kS (I ua n uc) (I Q 0 0) (pr q.m) (pr q.l) (pr q.o) (pr q.s) (pr q.st) (pr q.fr) (pr q.ct) (yE q) (Jj q) kW (.pointer<|D ⟨rf,fs'.length*2,Q⟩) (B node) (vi to) pG (B n) Bf z_ T):=
   λz_ T lo' sf' g1 g2 g3=>⟨rn-(nx+1),N,_,_,_,rfl,nx+1,lo',sf',rfl,N,g1,g2,g3⟩
  refine gF (λhb2=>?_) λhb2=>?_
  .exact zf _ _ lo sf hlo hsf G
  have⟨ht0,ht1⟩:=hto hb2;obtain⟨t,rfl⟩:∃j:Nat,to=j:=⟨to.toNat,N⟩;have htn:t<n:=N;refine aT (λhc4=>?_) λhc4=>?_
  .refine G.pz<|PU.of (qM Em.1) ?_;rw[aY];refine G.st 9 O O (by rw[aK];show node+1<=sf.length;omega) rfl λH4 G=>?_;refine zf _ _ lo (sf.set node f) hlo (by rw[bJ];exact hsf) ?_;have G:F [] H H4 (Yy q n {x with lo:=lo,sf:=sf} rf (D9 (fs'++[(node,nx+1)])++eB) (I (D ⟨rf,0,Q⟩) x.fs.length<|fJ 2) IX Fj|>.set 9 (q.ds,4,splice (sf.map .bool) node [.bool f])):=G;rw[pq gI N]at G;exact G
  refine G.pz<|PU.of (qM htn) ?_;rw[aY];refine G.ld 5 O (v:=vi<|x.ms[t]'N) (by show(x.ms.map vi)[t]?=_;rw[bF,av (show t<x.ms.length by omega)];rfl) ?_;refine rV (λVw=>?_) λVw=>?_
  .have hm0:x.ms[t]?=D 0:=by rw[av (show t<x.ms.length by omega),Vw]
   have⟨M2,hC2,hS2⟩:=top (nx+1) lo sf hlo hsf G;have hO2:=al6 (nx+1) lo sf N;have hS2:F [] H H3 (M2++[]):=by rw[bq];exact hS2
   show aO Pg X 187 [B t,pr q.ct,pr q.m,pr q.l,pr q.o,pr q.st,pr q.fr] H3 _;refine aO.mono (Li hn hC2 hO2 htn hm0 hS2) ?_;rintro v H4 ⟨M3,hC3,sG⟩;rw[bq]at sG;have hct:=E8 x.ms t ((x.cnt+1:Nat):Int) hm0 N;refine⟨2*(x.ms.set t ((x.cnt+1:Nat):Int)).count 0+(fs'.length+2),N,_,_,_,_,_,_,O,_,M3,hC3,hO2.begin htn hm0,sG,?_⟩;show _=2*(x.ms.set t ((x.cnt+1:Nat):Int)).count 0+((fs'++[(node,nx+1)])++[(t,0)]).length;rw[aQ,aQ];simp
  refine G.pz<|PU.of (qM htn) ?_;rw[aY];refine G.ld 7 O (v:=.bool<|x.op[t]'N) (by show(x.op.map gI)[t]?=_;rw[bF,av (show t<x.op.length by omega)];rfl) ?_;refine qx (λhb6=>?_) λhb6=>?_;rotate_left
  .exact zf _ _ lo sf hlo hsf G
  refine eU ?_;refine PU.of (qM Em.1) ?_;rw[aY];refine G.Mm 6 O (v:=vi<|lo[node]'N) (by show(lo.map vi)[node]?=_;rw[bF,av (show node<lo.length by omega)];rfl) ?_;refine eU ?_;refine PU.of (qM htn) ?_;rw[aY];refine G.Mm 5 O (v:=vi<|x.ms[t]'N) (by show(x.ms.map vi)[t]?=_;rw[bF,av (show t<x.ms.length by omega)];rfl) ?_;refine G.kL ?_;refine PU.of (qM Em.1) ?_;rw[aY];have n1:q.m≠q.l:=G.nq 2 3 O O N;have n2:q.m≠q.dm:=G.nq 2 5 O O N;have n3:q.m≠q.dl:=G.nq 2 6 O O N;have n4:q.l≠q.dm:=G.nq 3 5 O O N;have n5:q.l≠q.dl:=G.nq 3 6 O O N;have n6:q.dm≠q.dl:=G.nq 5 6 O O N;generalize min (lo[node]'N) (x.ms[t]'N)=mn;refine G.stQ 6 O O (by rw[aK];show node+1<=lo.length;omega) rfl λH4 G=>?_;refine splitK (λK hK=>?_) ?_
  .simp only[d_,fK];generalize q.m=qm at n1 n2 n3|-;generalize q.l=ql at n1 n4 n5|-;generalize q.dm=dm at n2 n4 n6|-;generalize q.dl=dl at n3 n5 n6|-;apply aaQ n1 n2 n3 n4 n5 n6 xN jr jr hK
  refine zf _ _ (lo.set node mn) sf (by rw[bJ];exact hlo) hsf ?_;have G:F [] H _ ((Yy q n {x with lo:=lo,sf:=sf} rf (D9 (fs'++[(node,nx+1)])++eB) (I (D ⟨rf,0,Q⟩) x.fs.length<|fJ 2) IX Fj).set 6 (q.dl,3,splice (lo.map vi) node [vi mn])):=G;rw[pq vi N]at G;exact G
 refine aT (λhc3=>?_) λhc3=>?_
 .exact fin _ _ O λh=>by cases h
 .exact fin _ _ O λh=>by have:=mX h;omega
end
section
variable{S:C Nat}{SH:Nat->Prop}
def _root_.Go.Ae.F.Yz(G:F S H0 H L){z:C Z}(k:∀H1 r,F S H0 (hM H H1) ((r,e,z)::L)->Ml H H1=cl 5->K (.pointer<|D ⟨r,0,Q⟩) H1):ME (Go.Ae.iX e z<|Go.Ae.hN H) K:=
 ME.of rfl (k _ _ (G.yG e z)<|xQ<|Ext.new _ _)
def _root_.Go.Ae.F.mkD(G:F S H0 H L){z:C Z}(hn:n<=16777216)(k:∀H1 r,F S H0 (hM H H1) ((r,e,o7 z n)::L)->Ml H H1=cl 5->K (I (D ⟨r,0,Q⟩) n n) H1):ME (Go.Ae.mkS e z (B n) (B n)<|Go.Ae.hN H) K:=by
 refine ME.of ?_<|k _ _ (G.yG e<|o7 z n)<|xQ<|Ext.new _ _;show(aL (zK<|B n) λn'=>aL (zK<|B n) λm=>gd (aD n' m&&aD m 16777216&&f) _)=_;show gd (aD n n&&aD n 16777216&&f) _=_;rw[aI (ax n),aI hn];rfl
def Ul(b n:Nat)(H:R)(v:Z):Prop:=∃a c,∃bs:C Bool,v=I a n c/\bs.length=n/\je (b<=·) 4 H a n 1 (bs.map .bool)
def RD{K:Nat}(hn:n<=1000)(hK:K<=1000000)(hU:Wm n K au H<|I ua n uc)(x:Zj)(cs:C dL)(hC:Cy q n x cs)(hO:D_ n x)(hf:x.fs=[])(kW jI sP lH pG:Z)(u)(H1:R)(G:F [] H H1 cs):
 gK Pg X (.loop<|sub lG [1,1,1,1,1,1,1,1,0,1,0,0]) (kS (I ua n uc) (I Q 0 0) (pr q.m) (pr q.l) (pr q.o) (pr q.s) (pr q.st) (pr q.fr) (pr q.ct) (yE q) (Jj q) kW jI sP lH pG (B n) (vi 0) u H1) (sw 0<|t_ Pg X (sub lG [1,1,1,1,1,1,1,1,1])<|jL Pg [.tmp 2]<|Q1 (λv T=>Ul H.next n T v) H):=by
 refine lp6 12 13 14 15 16 33 (ai:=λm kW jI sP lH pG Bf T=>∃x cs i,Bf=B i/\i+m=n/\Cy q n x cs/\D_ n x/\x.fs=[]/\F [] H T cs) ?_ n ⟨x,cs,0,rfl,N,hC,hO,hf,G⟩;clear hC hO hf G x cs;rintro m y12 y13 y14 y15 y16 y33 u H1 ⟨x,cs,i,rfl,him,hC,hO,hf,G⟩;refine tp ?_;have hC0:=hC;have hS0:=G;obtain⟨IX,Uk,Fj,Ry,rfl,W,J,h3,h4,h5,h6⟩:=hC;refine mF (λhc=>?_) λhc=>?_
 .refine tl ?_;apply G.pz;have hd:=G.wQ<|aS (i:=8) O;refine rr ?_;refine⟨⟨_,_,x.sf,O,h4,je.one G (aS (i:=8) O) (by rw[aK,h4,dz]) hd⟩,G.ext⟩
 refine gK.scope (az:=λ_ _ _=>False) (λ_ _ _ _ h=>h.elim) 0 ?_
 have fin:∀x cs jI sP lH pG u H1,Cy q n x cs->D_ n x->F [] H H1 cs->gK Pg X (sub lG [1,1,1,1,1,1,1,1,0,1,0,0,1,1,0,0,1,0,1]) (kS (I ua n uc) (I Q 0 0) (pr q.m) (pr q.l) (pr q.o) (pr q.s) (pr q.st) (pr q.fr) (pr q.ct) (yE q) (Jj q) (B i) jI sP lH pG (B n) (B i) u H1) (gtW (sub lG [1,1,1,1,1,1,1,1,0,1,0,0,1,1,0,0,1,0]) (λ_ _ _=>False) 0<|sw 1<|t_ Pg X (sub lG [1,1,1,1,1,1,1,1,0,1,0,0,1,1,1])<|Gm (yT (I ua n uc) (I Q 0 0) (pr q.m) (pr q.l) (pr q.o) (pr q.s) (pr q.st) (pr q.fr) (pr q.ct) (yE q) (Jj q) (B n) λm kW jI sP lH pG Bf T=>∃x cs i,Bf=B i/\i+m=n/\Cy q n x cs/\D_ n x/\x.fs=[]/\F [] H T cs) m<|sw 0<|t_ Pg X (sub lG [1,1,1,1,1,1,1,1,1])<|jL Pg [.tmp 2]<|Q1 (λv T=>Ul H.next n T v) H):=by
  intro x cs jI sP lH pG u H1 hC hO G;refine tl ?_;refine RA hn hK hU x cs hC hO _ _ _ _ _ _ G λx cs jI sP lH pG u H1 hC hO hf G=>?_;refine bG ?_;rw[aaI];refine bG ?_;refine tp ?_;refine dQ ?_;exact⟨n-(i+1),N,_,_,_,_,_,_,_,_,O,x,cs,i+1,og,N,hC,hO,hf,G⟩
 refine tl ?_;apply G.pz;have hin:i<n:=N;refine PU.of (qM hin) ?_;rw[aY];refine G.ld 4 O (v:=vi<|x.ms[i]'N) (by show(x.ms.map vi)[i]?=_;rw[bF,av (show i<x.ms.length by omega)];rfl) ?_;refine Mo (λVw=>?_) λVw=>?_
 .exact fin x _ _ _ _ _ _ _ hC0 hO G
 have hm0:x.ms[i]?=D 0:=by rw[av (show i<x.ms.length by omega),Vw]
 have hS2:=G;rw[<-bq (_::_)]at hS2;show aO Pg X 187 [B i,pr q.ct,pr q.m,pr q.l,pr q.o,pr q.st,pr q.fr] H1 _;refine aO.mono (Li hn hC0 hO hin hm0 hS2) ?_;rintro v H4 ⟨M3,hC3,sG⟩;rw[bq]at sG;exact fin _ M3 _ _ _ _ _ _ hC3 (hO.begin hin hm0) sG
theorem IY(hw:Wf H){K:Nat}(hn:n<=1000)(hK:K<=1000000)(hU:Wm n K au H v):aO Pg X 157 [v] H (Q1 (λv T=>Ul H.next n T v) H):=by
 obtain⟨b,ua,uc,vs,rfl,hU1,hU2⟩:=hU;have hU:Wm n K au H (I ua n uc):=⟨b,ua,uc,vs,O,hU1,hU2⟩;have G:=F.refl hw;refine Fh [0,2,3,4,5,6,7,8,9,10,11,12,13,14,15,16,32,33] ?_;refine G.mkD N λH1 dm G f1=>?_
 try simp only[gN G.wf]
 refine G.mkD N λH2 dl G f2=>?_
 try simp only[gN G.wf]
 refine G.Yz λH3 m G f3=>?_
 try simp only[gN G.wf]
 refine G.Yz λH4 l G f4=>G.mh λHn G=>?_;refine G.mh λHn G=>?_;have n1:l≠m:=G.nq 0 1 O O N;refine splitK (λK hK=>?_) ?_
 .simp only[f1,f2,f3,f4,fK];apply lQ (a:=l) (b:=m) n1 xN jr jr hK
 generalize hM (hM (hM (hM (hM (hM H H1) H2) H3) H4) _) Hn=H5 at*;refine G.mkD N λH6 dO G g1=>?_
 try simp only[gN G.wf]
 refine G.mkD N λH7 ds G g2=>?_
 try simp only[gN G.wf]
 refine G.Yz λH8 o G g3=>?_
 try simp only[gN G.wf]
 refine G.Yz λH9 s G g4=>G.mh λHn G=>?_;refine G.mh λHn G=>?_;have n2:s≠o:=G.nq 0 1 O O N;refine splitK (λK hK=>?_) ?_
 .simp only[g1,g2,g3,g4,fK];apply lQ (a:=s) (b:=o) n2 xN jr jr hK
 refine G.iX λHn st G=>G.iX λHn fr G=>G.iX λHn ct G=>G.jH λHn G=>?_;have hz:o7 [.int .i64 0] n=(aX n (0:Int)).map vi:=by rw[mZ,ku]
 have hb:o7 [.bool aC] n=(aX n aC).map gI:=by rw[mZ,ku]
 rw[hz,hb]at G;have G:F [] H Hn [(ct,3,[B 0]),(fr,290,[I Q 0 0]),(st,22,[I Q 0 0]),(s,34,[I (D ⟨ds,0,Q⟩) n n]),(o,34,[I (D ⟨dO,0,Q⟩) n n]),(ds,4,(aX n aC).map gI),(dO,4,(aX n aC).map gI),(l,22,[I (D ⟨dl,0,Q⟩) n n]),(m,22,[I (D ⟨dm,0,Q⟩) n n]),(dl,3,(aX n (0:Int)).map vi),(dm,3,(aX n (0:Int)).map vi)]:=G
 have G:=G.perm (L':=[(ct,3,[B 0]),(m,22,[I (D ⟨dm,0,Q⟩) n n]),(l,22,[I (D ⟨dl,0,Q⟩) n n]),(o,34,[I (D ⟨dO,0,Q⟩) n n]),(dm,3,(aX n (0:Int)).map vi),(dl,3,(aX n (0:Int)).map vi),(dO,4,(aX n aC).map gI),(s,34,[I (D ⟨ds,0,Q⟩) n n]),(ds,4,(aX n aC).map gI),(st,22,[I Q 0 0]),(fr,290,[I Q 0 0])])
  (dS _<|sD [_,_,_,_,_,_,_] [_,_]<|sD [_,_,_,_,_,_] [_,_]<|sD [_,_,_] [_,_,_,_]<|sD [_,_,_,_,_,_] []<|sD [_,_,_,_,_] []<|sD [_,_,_,_] []<|sD [_,_] [_]<|sD [_,_] []<|sD [_] []<|p9 _)
 exact RD (q:=⟨ct,m,l,o,dm,dl,dO,s,ds,st,fr⟩) hn hK hU ⟨0,aX n 0,aX n 0,aX n aC,aX n aC,[],[]⟩ _
  ⟨I Q 0 0,I Q 0 0,[],[],rfl,by simp,by simp,by simp,by simp,GB.nil _ _,GB.nil _ _⟩
  ⟨by simp,(nofun),(nofun),List.Sublist.refl _,ax _,ax _⟩ O _ _ _ _ _ _ _ G
end
section
variable{S:C Nat}{SH:Nat->Prop}
def Fa(M:C Z):Prop:=∀i,i<M.length/3->∃(z a b:Int),El M 3 i=[vi z,vi a,vi b]/\z≠0
def Fa.app(h:Fa M)(hl:M.length %3=0)(hz:z≠0)(a b:Int):Fa (M++[vi z,vi a,vi b]):=by
 intro i hi;have hE:=BX (es:=3) (n:=M.length/3) (M:=M) N (xs:=[vi z,vi a,vi b]) O;rw[aQ]at hi;simp only[cK,vL]at hi;rcases cr i (M.length/3)with h'|h'
 .rw[hE.1 i h'];exact h i h'
 .obtain rfl:i=M.length/3:=N;exact⟨z,a,b,hE.2,hz⟩
def aeF{x:Z}(hg:GB 228 3 x M gb)(hF:Fa M)(hl:M.length<=10000000)(G:F S H0 H<|Pf++gb){a b:Int}(hz:z≠0){K:Z->Z->R->Prop}(kk:∀w v' T gQ,GB 228 3 v' (M++[vi z,vi a,vi b]) gQ->Fa (M++[vi z,vi a,vi b])->F S H0 T (Pf++gQ)->K w v' T):
 ME (bS 228 [.int .i64 0,.int .i64 0,.int .i64 0] 3 1 [(0,.agg ⟨[vi z,vi a,vi b]⟩)] H) λw H5=>ME (zY 228 3 x w H5) (K w):=by
 have hl3:M.length %3=0:=by
  rcases hg with⟨_,rfl,_⟩|⟨r,n,eB,_,e,_⟩
  .rfl
  .omega
 refine G.bS O O O N λH1 rx hS1=>?_;have hS1:=hS1.perm<|dS _<|aG (l₁:=Pf);have⟨v',H6,gQ,e1,hg',wM,_⟩:=hg.app (m:=0) (cx:=1) hS1 N O O N N;refine ME.of e1<|kk _ v' H6 gQ hg' (hF.app hl3 hz a b)<|wM.perm aG
def Ga(v:Z)(H:R)(P:Prop):Prop:=∃a n c M,v=I a n c/\Fl H a n 3 M/\Fa M/\(n=0->P)
theorem akk{rn:Nat}{P:Prop}(hG:Gr b H ra rn rcs na nn iK)(hnm:O8 rn mm)(hB:∀j,j<rn->0<=rootOf rcs j/\rootOf rcs j<nn)(H1:R)(hm:uM H1 r mm)(G:F [] H H1<|(u,171,[I ra rn rc,I na nn nc])::gb)(hg:GB 228 3 x3 M gb)(hF:Fa M)(hl:M.length<=9000000)(hu:M=[]->P)(x2 x5 x6 x7 x8 x9 jo iJ kW x30 x31 x32 G6 D5 TV x88 x89 x90:Z)(ni):
 gK Pg X (sub Dc [1,1,1,1,1,1,1]) (BR (gV ra rn rc na nn nc) (.pointer<|D ⟨u,0,Q⟩) x2 x3 (.map<|D r) x5 x6 x7 x8 x9 jo iJ kW x30 x31 x32 G6 D5 TV x88 x89 x90 ni H1) (jL Pg [.tmp 2]<|Q1 (λv T=>Ga v T P) H):=by
 have g2:=hG.2.1;refine tl ?_;apply G.iI;refine G.cm (Rx G.wf (hG.ex G.ext) hm hnm hB) ?_;rintro v H2 hv hx2 G;refine G.cm (IY G.wf (K:=500000) (au:=Rw rn) N N ⟨_,hv⟩) ?_;rintro v H3 ⟨ba,bc,bs,rfl,hbl,hbf⟩ hx3 G;refine bG ?_;have hlt:=G.lt;have hS0:=G;have G:=hS0.base;refine NG 3 11 12 90 (ai:=λm y3 y11 y12 y90 T=>∃(i:Nat)(M:C Z)(gb:C dL),y90=B i/\i+m=rn/\GB 228 3 y3 M gb/\Fa M/\M.length<=9000000+3*i/\(M=[]->P)/\F _ H3 T ((u,171,[I ra rn rc,I na nn nc])::gb)) ?_ rn ⟨0,M,gb,rfl,N,hg,hF,N,hu,G⟩;have hty:=hS0.GX (ty:=4) (by simp[hg.all]);clear G hg hF hl hu;rintro m y3 y11 y12 y90 MH H4 ⟨i,cs',gQ,rfl,him,hg,hF,hl,hu,G⟩;refine kX (λhc=>?_) λhc=>?_
 .refine tl ?_;obtain⟨a,n,c,rfl,hcl,hf⟩:=hg.IA (SH:=λ_=>True) (G.perm<|aG (l₁:=[_])) λ_ _=>trivial;refine rr ?_;exact⟨⟨a,n,c,cs',O,hf.1,hF,λh=>hu (by subst h;exact gW N)⟩,(hS0.over G).ext⟩
 have hb4:=hbf.stay G.ext λq hq=>.inr<|hty q hq;have⟨r',o',hl',e',hr',Lf⟩:=hb4.1.O7 (show i<rn by omega) bc;rw[e'];refine bG ?_;rw[mJ]at Lf;refine ME.ld Lf ?_;refine qx (λhb=>?_) λhb=>?_
 .refine PU.b3 O<|aeF (Pf:=[_]) hg hF N G (z:=20) mO λw v' H5 gb5 hg5 hF5 hS5=>?_;refine dQ ?_;refine⟨rn-(i+1),N,_,_,_,_,_,_,O,i+1,_,gb5,og,N,hg5,hF5,by rw[aQ];show cs'.length+3<=_;omega,λh=>absurd h kg,hS5⟩
 .refine dQ ?_;exact⟨rn-(i+1),N,_,_,_,_,_,_,O,i+1,cs',gQ,og,N,hg,hF,N,hu,G⟩
def akl{rn:Nat}{P:Prop}(hG:Gr b H ra rn rcs na nn iK)(hnm:O8 rn mm)(hB:∀j,j<rn->0<=rootOf rcs j/\rootOf rcs j<nn)(H1:R)(hm:uM H1 r mm)(G:F [] H H1<|(u,171,[I ra rn rc,I na nn nc])::gb)(hg:GB 228 3 x3 M gb)(hF:Fa M)(hl:M.length<=1000)(hu:M=[]->P)(x2 x5 x6 x7 x8 x9 jo iJ kW x30 x31 x32 G6 D5 TV x88 x89 x90:Z)(ni):
 gK Pg X (sub Dc [1,1,1,1,1,1]) (BR (gV ra rn rc na nn nc) (.pointer<|D ⟨u,0,Q⟩) x2 x3 (.map<|D r) x5 x6 x7 x8 x9 jo iJ kW x30 x31 x32 G6 D5 TV x88 x89 x90 ni H1) (jL Pg [.tmp 2]<|Q1 (λv T=>Ga v T P) H):=by
 have g2:=hG.2.1;have g5:=hG.2.2.2.2.1;refine tm ?_;have hS0:=G;have hnr:=hS0.EZ hm;have G:=hS0.base;refine lp6 3 7 8 9 10 52 (ai:=λm y3 y7 y8 y9 y10 y52 T=>∃(i:Nat)(M:C Z)(gb:C dL),y52=B i/\i+m=rn/\GB 228 3 y3 M gb/\Fa M/\M.length<=1000+12006*i/\(M=[]->P)/\F _ H1 T ((u,171,[I ra rn rc,I na nn nc])::gb)) ?_ rn ⟨0,M,gb,rfl,N,hg,hF,N,hu,G⟩;clear G hg hF hl hu;rintro m y3 y7 y8 y9 y10 y52 MH H4 ⟨i,cs',gQ,rfl,him,hg,hF,hl,hu,G⟩;refine kX (λhc=>?_) λhc=>?_
 .exact akk hG hnm hB H4 (hm.ex G.ext hnr) (hS0.over G) hg hF N hu _ _ _ _ _ _ _ _ _ _ _ _ _ _ _ _ _ _ _
 have hi:i<rn:=N;have⟨r1,o1,yJ,u1,f1,w1,c1,a1,e1,hl1,zP,tq,hsz,_⟩:=(hG.ex (hS0.over G).ext).ru hi rc;rw[e1];refine bG ?_;refine ME.rZ zP<|G.nI O O O λH5 ru G hx5=>?_;have G:F _ H1 H5 ((ru,234,wO yJ u1 f1 w1 c1 (rootOf rcs i) a1)::(u,171,[I ra rn rc,I na nn nc])::gQ):=G;apply G.iI;refine G.cm (NL G.wf (hG.ex (hS0.over<|F.drop (A:=[_]) G).ext) hi hB) ?_;rintro v H6 ⟨k0,rfl,hk0⟩ hx6 G;have hb:=hB i hi;refine FY 3 9 10 (ai:=λm' z3 z9 z10 T=>∃(k:Nat)(M:C Z)(gb:C dL),z9=B k/\k+m'=4001/\GB 228 3 z3 M gb/\Fa M/\M.length<=1000+12006*i+3*k/\(M=[]->P)/\F _ H1 T ((ru,234,wO yJ u1 f1 w1 c1 (rootOf rcs i) a1)::(u,171,[I ra rn rc,I na nn nc])::gb)) ?_ (4001-k0) ⟨k0,cs',gQ,rfl,N,hg,hF,N,hu,G⟩;clear G hg hF hl hu;rintro m' z3 z9 z10 anp H7 ⟨k,cs2,Zf,rfl,hkm,hg,hF,hl,hu,G⟩;refine abG (λhc2=>?_) λhc2=>?_
 .refine tp ?_;refine dQ ?_;exact⟨rn-(i+1),N,_,_,_,_,_,_,_,_,O,i+1,cs2,Zf,og,N,hg,hF,N,hu,F.drop (A:=[_]) G⟩
 have hkn:k<nn:=N;have hG7:=hG.ex (hS0.over<|F.drop (A:=[_]) G).ext;refine eU ?_;have⟨kd,ka,kn,kc,ks',t,rs,at',he,hk1,hk2,hk3,hk4,hk5⟩:=hG7.2.2.2.2.2 k hkn;obtain⟨xa,xn,xc,xcs,rfl,T_⟩:=id hk5;have⟨r2,o2,e2,hl2,Yt,vT⟩:=hG7.no hkn nc he;rw[e2];refine G.kL ?_;refine ME.rZ (H:=hN _) Yt ?_;simp only[gN G.wf];have hm7:=hm.ex G.ext hnr;refine aO.mono (Ui (H:=hN H7) (ax _) (r:=r) (m:=mm) (show Gr b (hN H7) ra rn rcs na nn iK from hG7) hm7 hnm) ?_;rintro v H8 ⟨⟨z,rfl⟩,Bg⟩;have G:=G.nH Bg;refine splitK (λK hK=>?_) ?_
 .exact iD (by simp only[d_,fP Bg];rfl) hK
 refine wR (λhc3=>?_) λhc3=>?_
 .refine PU.b3 O<|aeF (Pf:=[_,_]) hg hF N G hc3 λw v' H5 gb5 hg5 hF5 hS5=>?_;refine dQ ?_;exact⟨4001-(k+1),N,_,_,_,_,_,O,k+1,_,gb5,og,N,hg5,hF5,by rw[aQ];show cs2.length+3<=_;omega,λh=>absurd h kg,hS5⟩
 .refine dQ ?_;exact⟨4001-(k+1),N,_,_,_,_,_,O,k+1,cs2,Zf,og,N,hg,hF,N,hu,G⟩
end
section
variable{S:C Nat}{SH:Nat->Prop}
def Gb(rcs:C Z)(i:Nat):Bool:=match((El rcs 7 i)[1]?.getD<|.bool aC)with
 |.bool b=>b
 |_=>aC
def JI{w:Bool}{at':Int}(h:El rcs 7 i=wO nm rg ay w ch root at'):Gb rcs i=rg:=by unfold Gb;rw[h];rfl
def agz{rn:Nat}{P:Prop}(hG:Gr b H ra rn rcs na nn iK)(hB:∀j,j<rn->0<=rootOf rcs j/\rootOf rcs j<nn)(H1:R)(G:F [] H H1<|(u,171,[I ra rn rc,I na nn nc])::gb)(hg:GB 228 3 x3 M gb)(hF:Fa M)(hl:M.length<=3)(hu:M=[]->P)(x2 x4 x5 x6 x7 x8 x9 jo iJ kW x30 x31 x32 G6 D5 TV x88 x89 x90:Z)(ni):
 gK Pg X (sub Dc [1,1,1,1]) (BR (gV ra rn rc na nn nc) (.pointer<|D ⟨u,0,Q⟩) x2 x3 x4 x5 x6 x7 x8 x9 jo iJ kW x30 x31 x32 G6 D5 TV x88 x89 x90 ni H1) (jL Pg [.tmp 2]<|Q1 (λv T=>Ga v T P) H):=by
 have g2:=hG.2.1;refine tm ?_;refine aO.mono (Uh G.wf<|hG.ex G.ext) ?_;rintro v H2 ⟨r,mm,rfl,hm,hnm,hx2,hge⟩;have G:=G.call hx2;refine eU ?_;have hS0:=G;have hnr:=hS0.EZ hm;have G:=hS0.base;refine NG 3 5 6 32 (ai:=λm y3 y5 y6 y32 T=>∃(i:Nat)(M:C Z)(gb:C dL),y32=B i/\i+m=rn/\GB 228 3 y3 M gb/\Fa M/\M.length<=3+3*i/\(M=[]->P)/\F _ H2 T ((u,171,[I ra rn rc,I na nn nc])::gb)) ?_ rn ⟨0,M,gb,rfl,N,hg,hF,N,hu,G⟩;clear G hg hF hl hu;rintro m y3 y5 y6 y32 MH H4 ⟨i,cs',gQ,rfl,him,hg,hF,hl,hu,G⟩;refine kX (λhc=>?_) λhc=>?_
 .exact akl hG hnm hB H4 (hm.ex G.ext hnr) (hS0.over G) hg hF N hu _ _ _ _ _ _ _ _ _ _ _ _ _ _ _ _ _ _ _
 have hi:i<rn:=N;have⟨r1,o1,yJ,u1,f1,w1,c1,a1,e1,hl1,zP,tq,hsz,_⟩:=(hG.ex (hS0.over G).ext).ru hi rc;rw[e1];refine bG ?_;refine ME.rZ zP<|G.nI O O O λH5 ru G hx5=>?_;have G:F _ H2 H5 ((ru,234,wO yJ u1 f1 w1 c1 (rootOf rcs i) a1)::(u,171,[I ra rn rc,I na nn nc])::gQ):=G;refine eU ?_;refine ME.agx (hm.ex G.ext hnr) B5 Rt eqS λay hf hn=>?_
 obtain⟨z,hz⟩:∃z:Int,ay.getD (vi 0)=vi z:=by
  cases ay with
  |none=>exact⟨0,O⟩
  |some v=>
   have⟨j,_,e⟩:=hnm _<|hf v O;have e:v=B j:=e;exact⟨j,by rw[e];rfl⟩
 rw[hz];refine wR (λhc3=>?_) λhc3=>?_
 .refine PU.b3 O<|aeF (Pf:=[_]) hg hF N (F.drop (A:=[_]) G) (z:=16) mO λw v' H6 gb5 hg5 hF5 hS5=>?_;refine dQ ?_;exact⟨rn-(i+1),N,_,_,_,_,_,_,O,i+1,_,gb5,og,N,hg5,hF5,by rw[aQ];show cs'.length+3<=_;omega,λh=>absurd h kg,hS5⟩
 .refine dQ ?_;exact⟨rn-(i+1),N,_,_,_,_,_,_,O,i+1,cs',gQ,og,N,hg,hF,N,hu,F.drop (A:=[_]) G⟩
def Clean(SH:Nat->Prop)(H:R)(rn:Nat)(rcs:C Z)(nn:Nat)(iK:C Z):Prop:=Lg SH H rn rcs nn iK/\Gb rcs 0=aC
def RE(hw:Wf H){rn:Nat}(hG:Gr b H ra rn rcs na nn iK):aO Pg X 148 [gV ra rn rc na nn nc] H (Q1 (λv T=>Ga v T<|Clean (b<=·) H rn rcs nn iK) H):=by
 have G:=F.refl hw;refine jS [0,1,2,3,4,5,6,7,8,9,10,11,12,30,31,32,50,51,52,88,89,90] ?_;refine G.box O λH1 u G=>?_;refine eU ?_;have hx1:=G.ext;refine G.cm (Ug G.wf<|hG.ex hx1) ?_;rintro v H2 ⟨t,rfl,ht⟩ E G;refine qx (λhb=>?_) λhb=>?_
 .refine PU.b3 O ?_;refine G.bS O O O N λH3 rx G=>?_;have hfl:=je.one (SH:=λ_=>True) (n:=1) (es:=3) G (aN ..) O trivial;refine rr ?_;refine⟨⟨_,1,1,_,O,hfl.1,?_,λh=>by cases h⟩,G.ext⟩;intro i hi;have hi:i<1:=hi;obtain rfl:i=0:=N;exact⟨2,-1,-1,O,by decide⟩
 have hs:Lg (b<=·) H rn rcs nn iK:=by
  have h:=ht (by cases t with
   |true=>rfl
   |false=>cases hb)
  exact⟨h.1.back hG hx1,h.2⟩
 apply G.pz;have⟨r1,o1,yJ,u1,f1,w1,c1,a1,e1,hl1,zP,tq,hsz,he1⟩:=hG.ru (i:=0) hs.2.1 rc;rw[show(bX .i64 0)=B 0 from O,e1];refine bG ?_;refine G.Be (tq 1 _ N O) hl1 ?_;refine qx (λhb2=>?_) λhb2=>?_
 .exact PU.b3 O<|aeF (Pf:=[_]) (GB.nil _ _) (M:=[]) (λi h=>absurd h kg) kg G (z:=18) mO λw v' H5 gb5 hg5 hF5 hS5=>agz hG hs.1.2 H5 hS5 hg5 hF5 kg (λh=>absurd h kg) _ _ _ _ _ _ _ _ _ _ _ _ _ _ _ _ _ _ _ _
 .exact agz hG hs.1.2 _ G (GB.nil _ _) (λi h=>absurd h kg) kg (λ_=>⟨hs,by rw[JI he1];exact hb2⟩) _ _ _ _ _ _ _ _ _ _ _ _ _ _ _ _ _ _ _ _
def Lj(hw:Wf H){rn:Nat}(hG:Gr b H ra rn rcs na nn iK):aO Pg X 121 [gV ra rn rc na nn nc] H (Q1 (λv _=>∃z a c:Int,v=.agg ⟨[vi z,vi a,vi c]⟩/\(z=0->Clean (b<=·) H rn rcs nn iK)) H):=by
 have G:=F.refl hw;refine jS [0,1,2,3] ?_;refine G.box O λH1 u G=>?_;refine G.iX λHn rf G=>?_;apply G.iI;have hx1:=G.ext;refine G.cm (RE G.wf<|hG.ex hx1) ?_;rintro v H2 ⟨a,n,c,M,rfl,hf,hF,hP⟩ E G;refine rV (λhc=>?_) λhc=>?_
 .have⟨r,o,e,y,hrd,_⟩:=hf.read N (show 0<n by omega) c;rw[show(bX .i64 0)=B 0 from O,e];refine bG ?_;have⟨z,x,hr,he,hz⟩:=hF 0 (by have:=hf.1;omega);rw[he]at hrd;refine ME.rZ hrd<|G.jH λHn G=>rr ?_;exact G.iI<|⟨⟨z,x,hr,O,λh=>absurd h hz⟩,G.ext⟩
 .have hn:n=0:=N;have hcl:=hP hn;refine PU.b3 O<|G.jH λHn G=>rr ?_;exact G.iI<|⟨⟨0,0,0,O,λ_=>⟨⟨hcl.1.1.back hG hx1,hcl.1.2⟩,hcl.2⟩⟩,G.ext⟩
end
end Go.Proofs.Lu
