/-
  Part 11 of the proof. No condition.
-/
import Derived.Test.YtpngmpbmokhmiaaGreatDoorZ10
set_option linter.unusedVariables false
set_option linter.unusedSimpArgs false
set_option maxRecDepth 100000
set_option maxHeartbeats 4000000
set_option linter.defProp false
open Option renaming some->Z,none->W
open Bool renaming true->f,false->aA
open Go renaming Value->D,TypeId->aG,Program->aS,Operand->bO
open Go.Value renaming int->bV,slice->T
open Nat renaming beq->ay,ble->aB
open List renaming range->fZ,length->gz
open List.Perm renaming swap->gm,cons->dQ
open And renaming intro->iq
noncomputable section
namespace Go.Proofs.Lu
open Go.Ae Go.Ae.SH Go.Proofs.Lv
variable{K:Nat->Prop}{L SH:List dJ}{A ai:At}{H C H0:F}{mO:List (Nat×D)}{t ty:aG}{z:Int}{a b i n nc nn r rc u rt s tn vc:Nat}{q:AV}{ox oy:bO}{mk:List Bool}{d:WD}{na ra va:Option Addr}{E evs iH rcs vcs:List D}{v x0 x1 x8:D}
section
variable{ax:Nat->Prop}{S:List Nat}
def _root_.Go.Ae.Bk.ex(h:Bk H r ty E)(R:r<H.next)(J:Ext H C):Bk C r ty E:=h.jf<|J.obj r R λh=>nomatch h
abbrev abJ(tn:Nat)(H:F)(v:D)(C:F):Prop:=∃(x:D)(e:Int),v=.tuple ⟨[x,vi e]⟩/\(bI x).length=6/\all' fB (bI x)=f/\(e=0->abI tn H x C)
def alB(hw:Wf H){rz rv:Nat}{rn:Nat}{H1:F}(hG:Gr b H ra rn rcs na nn iH)(hC:Bz (b<=·) H rn rcs nn iH/\1<=rn/\FK rcs 0=aA)(hV:Vo ax H va tn vcs)(G:M [] H H1 [(rz,27,[T W 0 0,T W 0 0,T W 0 0,T W 0 0,T W 0 0,vi 0]),(rv,180,[T va tn vc]),(u,171,[T ra rn rc,T na nn nc])]){x6 x7 x9 iL x34 DN K6:D}:
 gJ Pg X (sub aa4 [1,1]) (XD x0 x1 (pr u) (pr rv) (pr rz) (vi 0) x6 x7 x8 x9 iL x34 DN K6 mO H1) (jR Pg [.cell 4 27,.tmp 5]<|Q1 (abJ tn H) H):=by
 have g2:=hG.2.1;have g5:=hG.2.2.2.2.1;obtain⟨hC1,hC2,hC3⟩:=hC;refine tm ?_;refine aJ.mono (TH G.wf (hG.ex G.ext) (λi hi=>(hC1.1 i hi).ex G.ext) ⟨hV.1.ex G.ext,hV.2⟩) ?_;rintro v H2 ⟨⟨rl,lcs,rfl,hl1,hl2,hl3,hl4,hl5⟩,hx2⟩;have G:=G.call hx2;obtain⟨kd,zs,hNd⟩:=VH.of (ax:=(b<=·)) (H:=H) hC1.1;refine G.iK ?_;refine aJ.mono (TI G.wf (hG.ex G.ext) (hNd.ex G.ext) hl3 hl2 hl4 hl5) ?_;rintro v H3 ⟨⟨rs,rr,ws,bs,rfl,⟨hs1,hs2⟩,⟨hr1,hr2⟩,hs3,hr3,hwl,hbl,hsz⟩,hx3⟩;have G:=G.call hx3;have hfs:i_ (λ_=>True) 3 H3 (Z ⟨rs,0,W⟩) nn 1 (fG ws):=hs3.Rw hs2 (by rw[dz,aM];exact hwl) trivial;have hfr:i_ (λ_=>True) 4 H3 (Z ⟨rr,0,W⟩) nn 1 (bools bs):=hr3.Rw hr2 (by rw[dz,aM];exact hbl) trivial;have hl3:=hl3.ex hl2 hx3;refine d_ ?_;refine Oa 5 9 11 36 (h2:=λm x5 x9 iL K6 C=>∃i,K6=B i/\i+m=rn/\x5=vi 0/\x9=B (min (EK rcs ws i) 4001)/\Ext H3 C/\M [] H C [(rz,27,[T W 0 0,T W 0 0,T W 0 0,T W 0 0,T W 0 0,vi 0]),(rv,180,[T va tn vc]),(u,171,[T ra rn rc,T na nn nc])]) ?_ rn ⟨0,rfl,N,rfl,rfl,Ext.refl _,G⟩;clear G;rintro m x5 x9 iL K6 mO H4 ⟨i,rfl,him,rfl,rfl,hx4,G⟩;refine tp ?_;refine aC (λy=>?_) λy=>?_;rotate_left
 .obtain rfl:i=rn:=by omega
  refine tp ?_;refine aC (λh4=>?_) λh4=>?_
  .refine PU.b6 O<|G.jE λHn G=>Lu.rr ?_;refine G.iK ?_;exact⟨⟨_,_,O,O,O,λh=>absurd h<|by decide⟩,G.ext⟩
  have ht:EK rcs ws i<=4000:=by omega
  refine d_ ?_;have J:=hx3.trans hx4;refine aJ.mono (TV G.wf (hG.ex G.ext) (hNd.ex G.ext) hC1.2 hC3 hC2 ⟨hl3.ex (aP hl2 hx3.next) hx4,aP hl2 J.next,hl4⟩ hl5 ⟨hs3.ex hs2 hx4,aP hs2 hx4.next,hwl⟩ hsz ht) ?_;rintro v H5 ⟨⟨A,q,rfl,hA,hok,hty⟩,hx5⟩;have hge:=G.ext.next
  have hlo:=G.lo;have G:=G.call hx5;have hO:=G.base;refine hO.st 0 O O (az 6) O λH6 hO6=>?_
  have hA:=hA.stay hO6.ext (λr R=>by
   obtain⟨e,he,rfl⟩:=bQ.1 R;exact dP (hlo e he).2)
  have G:M [] H H6 [(rz,27,q.cells A),(rv,180,[T va tn vc]),(u,171,[T ra i rc,T na nn nc])]:=G.over hO6;refine Lu.rr ?_;exact G.iK<|⟨⟨_,_,O,O,O,λ_=>⟨A,q,rfl,hA.wk λr R=>by omega,hok,hty⟩⟩,G.ext⟩
 have hi:i<rn:=by omega
 obtain⟨r1,o1,yf,u1,f1,w1,c1,a1,e1,hl1,zo,sw,hsz1,hel⟩:=hG.ru hi rc;have hroot:=hC1.2 i hi;have htt:EK rcs ws (i+1)=EK rcs ws i+(if FK rcs i=f then 0 else 2+ak ws (rootOf rcs i).toNat):=rfl;rw[Jg hel]at htt;obtain⟨k,hk⟩:∃k:Nat,rootOf rcs i=k:=⟨(rootOf rcs i).toNat,N⟩;have hkn:k<nn:=by omega
 rw[e1];refine aY ?_;refine G.zP zo hl1<|G.nZ O O O λH5 ru G hx5=>?_;have G:M [] H H5 [(ru,234,wh yf u1 f1 w1 c1 (rootOf rcs i) a1),(rz,27,[T W 0 0,T W 0 0,T W 0 0,T W 0 0,T W 0 0,vi 0]),(rv,180,[T va tn vc]),(u,171,[T ra rn rc,T na nn nc])]:=G;have aed:=hx4.trans hx5;rw[hk]at G htt;refine d_ ?_;refine dL (λhb=>?_) λhb=>?_
 .rw[if_pos hb]at htt;refine dU ?_;exact⟨rn-(i+1),N,_,_,_,_,_,_,O,i+1,nX,N,O,by rw[htt];rfl,aed,M.drop (A:=[_]) G⟩
 rw[if_neg (by rw[hb];simp)]at htt;refine G.oF<|(hfr.ex aed).ix (k:=k) (v:=.bool<|bs[k]?.getD aA) hkn (by rw[bD,au (show k<bs.length by omega)];rfl) λp=>?_;refine aY ?_;refine dL (λhb2=>?_) λhb2=>?_
 .refine PU.b6 O<|G.jE λHn G=>Lu.rr ?_;refine G.iK ?_;exact⟨⟨_,_,O,O,O,λh=>absurd h<|by decide⟩,G.ext⟩
 have hWk:ak ws k<=4001:=ajH<|hsz k hkn;have hW2:ak ws ((k:Int)).toNat=ak ws k:=rfl;refine dU ?_;refine G.oF<|(hfs.ex aed).ix (k:=k) (v:=B<|ak ws k) hkn (by rw[bD,au (show k<ws.length by omega)];show _=Z (B<|ws[k]?.getD 0);rw[au (show k<ws.length by omega)];rfl) λp=>?_;refine dU ?_;rw[min2];refine aY ?_;refine dU ?_;exact⟨rn-(i+1),N,_,_,_,_,_,_,O,i+1,nX,N,O,by rw[show min (((min (EK rcs ws i) 4001:Nat):Int)+2+(ak ws k:Int)) 4001=((min (EK rcs ws<|i+1) 4001:Nat):Int) by omega],aed,M.drop (A:=[_]) G⟩
end
section
variable{ax:Nat->Prop}{S:List Nat}
def Oz(hw:Wf H){rn:Nat}(hG:Gr b H ra rn rcs na nn iH)(hcap:na=W\/nc=fI 5)(hV:Vo ax H va tn vcs):
 aJ Pg X 94 [gV ra rn rc na nn nc,vV va tn vc] H (Q1 (abJ tn H) H):=by
 have G:=M.refl hw;refine ce [0,1,2,3,4,5,6,7,8,9,11,34,35,36] ?_;refine tl ?_;refine G.box O λH1 u G=>?_;refine G.box O λH2 rv G=>?_;refine G.iZ λH3 rz G=>?_;refine d_ ?_;have hG3:=hG.ex G.ext;refine aJ.mono (KI (nG H3) (show Gr b (hN H3) ra rn rcs na nn iH from hG3)) ?_;rintro v H4 ⟨⟨z,a,c,rfl,hcl⟩,hx4⟩;have alC:=G.ext;have G:=G.mV hx4;rw[Ey];refine aY ?_;refine bT (λy=>?_) λy=>?_
 .refine splitK (λK hK=>?_) ?_
  .exact iB (by simp only[eG,fK hx4];rfl) hK
  refine PU.b6 O<|G.jE λHn G=>rr ?_;refine G.iK ?_;exact⟨⟨_,_,O,O,O,λh=>absurd h<|by decide⟩,G.ext⟩
 have hC:=hcl y;have hC:Bz (b<=·) H rn rcs nn iH/\1<=rn/\FK rcs 0=aA:=⟨Bz.back hG alC hC.1.1,hC.1.2.1,hC.2⟩;refine d_ ?_;refine aJ.mono (QV (nG _) (show Gr b (hN<|hM H3 H4) ra rn rcs na nn iH from(hG.ex G.ext:Gr b (hM H3 H4) ra rn rcs na nn iH)) hcap) ?_;rintro v H5 ⟨⟨ya,yn,yc,ycs,rfl,hY⟩,hx5⟩;have G:=G.mV hx5;refine d_ ?_;refine aJ.mono (TG (nG _) (ax:=((hN<|hM H3 H4).next<=·)) (F':=ax) (a:=ya) (n:=yn) (c:=yc) (E:=ycs) (a':=va) (n':=tn) (c':=vc) (cs':=vcs) ?_ ?_) ?_
 .exact hY
 .exact⟨(show i_ ax 240 (hN<|hM (hM H3 H4) H5) va tn 4 vcs from(hV.1.ex G.ext:i_ ax 240 (hM (hM H3 H4) H5) va tn 4 vcs)),hV.2⟩
 rintro v H6 ⟨⟨bb,rfl⟩,hx6⟩;have G:=G.mV hx6;refine aY ?_;refine splitK (λK hK=>?_) ?_
 .exact iB (by simp only[eG,fK hx4,fK hx5,fK hx6];rfl) hK
 refine dL (λhb=>?_) λhb=>?_
 .refine PU.b6 O<|G.jE λHn G=>rr ?_;refine G.iK ?_;exact⟨⟨_,_,O,O,O,λh=>absurd h<|by decide⟩,G.ext⟩
 exact alB hw hG hC hV G
end
section
variable{ax:Nat->Prop}{S:List Nat}
def TW(hw:Wf H):aJ Pg X 35 [q.v A] H (Q1 (λv _=>v=B A.ns) H):=by
 have G:=M.refl hw;refine ce [0,1,2] ?_;refine tl ?_;refine G.box O λH1 u G=>?_;refine d_ ?_;refine rr ?_;exact⟨O,G.ext⟩
abbrev ajP(H:F)(v:D)(C:F):Prop:=∃(A:At)(q:AV),v=q.v A/\rX (H.next<=·) C A q/\A.Ok/\A.ns<=1000/\A.ty<=5000
theorem Ya(hw:Wf H)(hT:Bt H)(s:ByteArray):aJ Pg X 68 [.string s] H (Q1 (λv C=>∃(x:D)(ok:Int),v=.tuple ⟨[x,vi ok]⟩/\(bI x).length=6/\all' fB (bI x)=f/\(ok≠0->ajP H x C)) H):=by
 have G:=M.refl hw;refine ce [0,2,3,4,5,6,7] ?_;refine tl ?_;refine G.iZ λH1 rz G=>?_;refine aY ?_;refine aC (λy=>?_) λy=>?_
 .refine PU.b6 O<|G.jE λHn G=>rr ?_;exact G.iK<|⟨⟨_,_,O,O,O,λh=>absurd O h⟩,G.ext⟩
 refine aJ.mono (LP G.wf (hT.ex G.ext) s) ?_;rintro v H2 ⟨⟨ra,rn,rc,rcs,na,nn,nc,iH,cd,e,rfl,hG,hcap⟩,hx2⟩;have G:=G.call hx2;refine G.kK ?_;have hS0:=G;have G:=M.refl hS0.wf;refine G.iZ λH3 u G=>G.iZ λH4 re G=>?_;refine G.kK ?_;refine G.jE λHn G=>?_;refine G.jE λHn G=>?_;refine d_ ?_;have alD:=G.ext;have G:M [] H _ [(re,173,[vi cd,vi e]),(u,171,[T ra rn rc,T na nn nc]),(rz,27,[T W 0 0,T W 0 0,T W 0 0,T W 0 0,T W 0 0,vi 0])]:=M.frame (SH:=[]) hS0 G;refine bT (λy=>?_) λy=>?_
 .refine PU.b6 O<|G.jE λHn G=>rr ?_;exact G.iK<|⟨⟨_,_,O,O,O,λh=>absurd O h⟩,G.ext⟩
 have hG3:Gr H1.next Hn ra rn rcs na nn iH:=hG.ex alD
 refine d_ ?_;refine aJ.mono (QV (nG _) (show Gr H1.next (hN Hn) ra rn rcs na nn iH from hG3) hcap) ?_;rintro v H5 ⟨⟨ya,yn,yc,ycs,rfl,hY⟩,hx5⟩;have G:=G.mV hx5;have hlo:=G.lo;have hge:=G.ext.next
 refine aJ.mono (Oz (nG _) (ax:=((hN Hn).next<=·)) (show Gr H1.next (hN<|hM Hn H5) ra rn rcs na nn iH from(hG3.ex hx5.draw:Gr H1.next (hM Hn H5) ra rn rcs na nn iH)) hcap hY) ?_;rintro v H6 ⟨⟨x,e,rfl,K8,Tm,hA⟩,hx6⟩;have G:=G.mV hx6;refine aY ?_;have hS0:=G;have G:=M.refl hS0.wf;refine G.XW λH7 rm G f7=>?_
 have hnr:rm≠u:=by
  have Q:=G.wB<|aL ..
  have I:=(hS0.lo _<|aR (i:=1) O).2;intro h;subst h;exact eF Q I
 refine G.lW (hl:=K8) (hk:=Tm) λH8 G=>?_;refine splitK (λK hK=>?_) ?_
 .simp only[eG,fK hx5,fK hx6,f7,fT];rw[fQ,K8];apply lX (a:=rm) (b:=u) hnr (by intros;rfl) (by kernel_rfl) (by kernel_rfl) hK
 have hxB:=G.ext;have G:=M.frame (SH:=[]) hS0 G;simp only[bE,bK]at G;refine bT (λy=>?_) λy=>?_
 .refine PU.b6 O<|G.jE λHn G=>rr ?_;exact G.iK<|⟨⟨_,_,O,O,O,λh=>absurd O h⟩,G.ext⟩
 obtain⟨A,q,rfl,hA,hok,hty⟩:=hA y;have G:M [] H _ [(rm,27,q.cells A),(re,173,[vi cd,vi _]),(u,171,[T ra rn rc,T na nn nc]),(rz,27,[T W 0 0,T W 0 0,T W 0 0,T W 0 0,T W 0 0,vi 0])]:=G;refine G.iK ?_;refine aJ.mono (TW G.wf) ?_;rintro v H9 ⟨rfl,LW⟩;have G:=G.call LW;refine aY ?_;refine aC (λy=>?_) λy=>?_
 .refine PU.b6 O<|G.jE λHn G=>rr ?_;exact G.iK<|⟨⟨_,_,O,O,O,λh=>absurd O h⟩,G.ext⟩
 have hA:rX ((hM Hn H5).next<=·) (hM (hM Hn H5) H6) A q:=⟨hA.n,hA.s,hA.p,hA.o,hA.e⟩;have hA:=(hA.ex hxB).ex LW;have G:=G.perm (L':=[(rz,27,[T W 0 0,T W 0 0,T W 0 0,T W 0 0,T W 0 0,vi 0])]++[(rm,27,q.cells A),(re,173,[vi cd,vi _]),(u,171,[T ra rn rc,T na nn nc])])<|aF (l₁:=[_,_,_]);refine G.rF 1 O (az 6) ?_;have hO:=M.own G;refine hO.st 0 O O (az 6) O λDm hO=>?_
 have hA:=hA.stay hO.ext (λr R=>by
  obtain rfl:r=rz:=aO.1 R;exact dP (hlo _<|aR (i:=2) O).2)
 have G:M [] H Dm [(rz,27,q.cells A),(rm,27,q.cells A),(re,173,[vi cd,vi _]),(u,171,[T ra rn rc,T na nn nc])]:=M.frame G hO;refine rr ?_;exact G.rF 0 O (az 6)<|⟨⟨_,_,O,O,O,λ_=>⟨A,q,rfl,hA.wk λr R=>aX hge R,hok,N,by have:=hY.2.1;omega⟩⟩,G.ext⟩
end
section
section laid
variable{S:List Nat}{es c:Nat}{a:Option Addr}{xs:List D}{K:D->F->Prop}
def _root_.Go.Ae.M.apG(G:M S H0 H L)(he:0<es)(J:Fl H a n es xs)(hn:n<=16777216)(k:∀v' H1 gT,GB ty es v' xs gT->M S H0 H1 (gT++L)->Ext H H1->K v' H1):ME (zB ty es (T W 0 0) (T a n c) H) K:=by
 rw[Cv (.inl O) (xH J he) hn];split
 .next h0=>
  subst h0;obtain rfl:xs=[]:=dK.1 (by have:=J.1;omega);exact k _ H [] (GB.nil _ _) G<|Ext.refl _
 .next h0=>exact k _ _ [(H.next,ty,xs)] (.inr ⟨H.next,n,[],O,J.1,by simp⟩) (G.grow ty xs)<|Ext.new _ _
def _root_.Go.Ae.M.alE(G:M S H0 H L)(he:0<es)(J:Fl H a n es xs)(hn:n<=16777216)(k:∀v' H1 gT,GB ty es v' xs gT->M S H0 (hM H H1) (gT++L)->Ext (hN H) H1->K v' H1):ME (zB ty es (T W 0 0) (T a n c)<|hN H) K:=by
 have hx':Fl (hN H) a n es xs:=J;rw[Cv (.inl O) (xH hx' he) hn];split
 .next h0=>
  subst h0;obtain rfl:xs=[]:=dK.1 (by have:=J.1;omega);refine k _ (hN H) [] (GB.nil _ _) ?_<|Ext.refl _;rw[gZ G.wf];exact G
 .next h0=>exact k _ _ [(H.next,ty,xs)] (.inr ⟨H.next,n,[],O,J.1,by simp⟩) (G.xY ty xs)<|Ext.new _ _
end laid
variable{ax:Nat->Prop}{S:List Nat}
def Own(A:At)(E:List D)(SH:List dJ):Prop:=E.length=6/\all' fB E=f/\∀r,Bd r A<|(r,27,E)::SH
def Own.of{nv sv pv ov ev:D}{gn gs gp go ge hr:List dJ}(Q:GB 9 1 nv (A.nm.map .string) gn)(I:GB 3 1 sv (fG A.st) gs)(h3:GB 3 1 pv (fG A.sp) gp)(h4:GB 3 1 ov (fG A.ow) go)(h5:GB 119 1 ev evs ge)(h6:H_ 121 3 (A.eg.map zq) evs hr):Own A [nv,sv,pv,ov,ev,B A.ty] (gn++(gs++(gp++(go++(ge++hr))))):=by
 refine⟨O,?_,λr=>⟨nv,sv,pv,ov,ev,evs,gn,gs,gp,go,ge,hr,rfl,Q,I,h3,h4,h5,h6⟩⟩;have e1:=Q.sl;have e2:=I.sl;have e3:=h3.sl;have e4:=h4.sl;have e5:=h5.sl;obtain⟨_,_,_,rfl⟩:=e1;obtain⟨_,_,_,rfl⟩:=e2;obtain⟨_,_,_,rfl⟩:=e3;obtain⟨_,_,_,rfl⟩:=e4;obtain⟨_,_,_,rfl⟩:=e5;rfl
def aee(hl:A.eg.length=A.ns)(hi:i<A.ns):(A.eg.take<|i+1).map zq=(A.eg.take i).map zq++[zq (A.cs i)]:=by
 have h:i<A.eg.length:=by omega
 unfold At.cs;rw[eO,au h,dG];rfl
def afU(a b c d e av:List dJ):(a++(b++(c++(d++(e++av))))).Perm (av++(e++(d++(c++(a++b))))):=by
 have Q:=aF (l₁:=a++(b++(c++(d++e)))) (l₂:=av);have I:=aF (l₁:=a++(b++(c++d))) (l₂:=e);have h3:=aF (l₁:=a++(b++c)) (l₂:=d);have h4:=aF (l₁:=a++b) (l₂:=c);simp only[bP]at Q I h3 h4;exact Q.trans<|gB av<|I.trans<|gB e<|h3.trans<|gB d h4
def Nb(hw:Wf H)(h:rX ax H A q)(ho:A.Ok):aJ Pg X 54 [q.v A] H λv C=>∃E M',v=.agg ⟨E⟩/\Own A E M'/\M [] H C M':=by
 have G:=M.refl hw;have hbig:=ho.big;have KL:=ho.few;refine ce [0,1,2,3,5,34,35,36] ?_;refine tl ?_;refine G.box O λH1 u G=>?_;have G:M [] H H1 [(u,27,[T q.na A.nr q.nc,T q.sa A.nr q.sc,T q.pa A.nr q.pc,T q.oa A.ns q.oc,T q.ea A.ns q.ec,B A.ty])]:=G;refine G.iZ λH2 rz G=>?_;refine d_ ?_;refine G.iZ λH3 rt G=>?_;refine G.kK ?_;refine G.jE λHn G=>?_;refine d_ ?_;refine G.apG N (h.ex G.ext).n.1 N λnv H4 gn hgn G _=>?_;have G:=G.perm<|iE gn [_,_,_] [];simp only[a_,bE,bK]at G;have Q:=hgn.sl;obtain⟨na,nn,nc,rfl⟩:=Q;refine G.jE λHn G=>?_;refine d_ ?_;refine G.apG N (h.ex G.ext).s.1 N λsv H5 gs hgs G _=>?_;have G:=G.perm<|iE gs [_,_,_] gn;simp only[a_,bE,bK]at G;have Q:=hgs.sl;obtain⟨sa,sn,sc,rfl⟩:=Q;refine G.jE λHn G=>?_;refine d_ ?_;refine G.apG N (h.ex G.ext).p.1 N λpv H6 gp Q5 G _=>?_;have G:=G.perm<|iE gp [_,_,_]<|gs++gn;simp only[a_,bE,bK]at G;have Q:=Q5.sl;obtain⟨pa,pn,pc,rfl⟩:=Q;refine G.jE λHn G=>?_;refine d_ ?_;refine G.apG N (h.ex G.ext).o.1 N λov H7 go hgo G _=>?_;have G:=G.perm<|iE go [_,_,_]<|gp++(gs++gn);simp only[a_,bE,bK]at G;have Q:=hgo.sl;obtain⟨oa,on,oc,rfl⟩:=Q;refine G.jE λHn G=>?_;refine d_ ?_;refine lp2 5 36 (h2:=λm x5 K6 C=>∃i ev evs ge hr,K6=B i/\i+m=A.ns/\GB 119 1 ev evs ge/\H_ 121 3 ((A.eg.take i).map zq) evs hr/\M [] H C ((rt,27,[T na nn nc,T sa sn sc,T pa pn pc,T oa on oc,ev,B A.ty])::(rz,27,[T W 0 0,T W 0 0,T W 0 0,T W 0 0,T W 0 0,vi 0])::(u,27,[T q.na A.nr q.nc,T q.sa A.nr q.sc,T q.pa A.nr q.pc,T q.oa A.ns q.oc,T q.ea A.ns q.ec,B A.ty])::(ge++(hr++(go++(gp++(gs++gn))))))) ?_ A.ns ⟨0,_,[],[],[],rfl,N,GB.nil _ _,rfl,G⟩;clear G;rintro m x5 K6 mO H8 ⟨i,ev,evs,ge,hr,rfl,him,hge,hR,G⟩;have hE:evs.length=min i A.ns:=by rw[<-hR.len,aM,eH,ho.zJ]
 refine tp ?_;refine aC (λy=>?_) λy=>?_;rotate_left
 .obtain rfl:i=A.ns:=by omega
  refine tl ?_;rw[cK (by rw[ho.zJ];omega)]at hR;have hown:=Own.of hgn hgs Q5 hgo hge hR;have Q:=hge.sl;obtain⟨ea,en,ec,rfl⟩:=Q;refine G.iK<|G.jE λHn G=>rr ?_;refine d_ ?_;exact⟨_,_,O,hown,(M.drop (A:=[_,_,_]) G).perm<|afU ge hr go gp gs gn⟩
 have hi:i<A.ns:=by omega
 refine h.ldE G.ext hi λp a c hf=>?_;refine d_ ?_;refine G.alE N (hf.ex G.ext).1 (by have:=ho.len i;omega) λv2 H9 gr hgr G LW=>?_;have Q:=hgr.sl;obtain⟨ra,rn,rc,rfl⟩:=Q;refine G.Qa O O O N λDm rx G sw=>?_
 have G:=G.perm (L':=(rx,119,bI<|T ra rn rc)::(ge++([(rt,27,[T na nn nc,T sa sn sc,T pa pn pc,T oa on oc,ev,B A.ty]),(rz,27,[T W 0 0,T W 0 0,T W 0 0,T W 0 0,T W 0 0,vi 0]),(u,27,[T q.na A.nr q.nc,T q.sa A.nr q.sc,T q.pa A.nr q.pc,T q.oa A.ns q.oc,T q.ea A.ns q.ec,B A.ty])]++(gr++(hr++(go++(gp++(gs++gn)))))))) (by
  refine dQ _ ?_;have p1:=iE (gr++[(rt,27,[T na nn nc,T sa sn sc,T pa pn pc,T oa on oc,ev,B A.ty]),(rz,27,[T W 0 0,T W 0 0,T W 0 0,T W 0 0,T W 0 0,vi 0]),(u,27,[T q.na A.nr q.nc,T q.sa A.nr q.sc,T q.pa A.nr q.pc,T q.oa A.ns q.oc,T q.ea A.ns q.ec,B A.ty])]) ge<|hr++(go++(gp++(gs++gn)));have p2:=iE gr [(rt,27,[T na nn nc,T sa sn sc,T pa pn pc,T oa on oc,ev,B A.ty]),(rz,27,[T W 0 0,T W 0 0,T W 0 0,T W 0 0,T W 0 0,vi 0]),(u,27,[T q.na A.nr q.nc,T q.sa A.nr q.sc,T q.pa A.nr q.pc,T q.oa A.ns q.oc,T q.ea A.ns q.ec,B A.ty])]<|hr++(go++(gp++(gs++gn)));simp only[bP]at p1;exact p1.trans<|gB ge p2)
 refine hge.Gj G N O O N λv' OW ge' hge' G _ _ vk=>?_;have Q:=hge'.sl;obtain⟨ea,en,ec,rfl⟩:=Q;have G:=G.perm<|iE ge' [_,_,_] _;simp only[a_,bE,bK]at G;refine G.lW λH12 G=>?_;refine splitK (λK hK=>?_) ?_
 .simp only[sw,eG,fK LW,fT];rcases vk with e|e<;>rw[e]<;>apply Eh (a:=rt) (by intros;rfl) (by kernel_rfl) (by kernel_rfl) hK
 refine dU ?_;refine⟨A.ns-(i+1),N,_,_,_,_,O,i+1,_,_,ge',hr++gr,nX,N,hge',?_,G.perm ?_⟩
 .rw[aee ho.zJ hi];exact hR.snoc hgr
 .refine(gB [_,_,_]<|gB ge' ?_);rw[bP];exact iE gr hr _
end
section
variable{ax:Nat->Prop}{S:List Nat}
def _root_.Go.Proofs.Lv.Bs.n'(h:Bs b H n v mk):Bs b (hN H) n v mk:=h
def _root_.Go.Ae.EL{c:Cl}{l:List Cl}(h:c.k≠2/\c.k≠3):noTwo (c::l)=noTwo l:=by
 unfold noTwo;rw[all_eq,all_eq,wH];have I:ay c.k 2=aA:=by rw[<-bY];intro e;exact h.1<|aT e
 have h3:ay c.k 3=aA:=by rw[<-bY];intro e;exact h.2<|aT e
 rw[I,h3];rfl
def _root_.Go.Ae.ze(n:Nat)(p:D)(H:F)(l:List Cl):noTwo (clL n p H (hN H)::l)=noTwo l:=by
 refine EL ?_
 have:clL n p H (hN H)=(aK (qg p) λa=>Z<|Cl.mk 4 a.block a.off n hh0 hh0).getD (cl 1):=by
  show bR (aB H.next H.next) _ _=_;rw[aH (az _)];rfl
 rw[this];cases qg p with
 |none=>exact⟨by show(1:Nat)≠2;decide,by show(1:Nat)≠3;decide⟩
 |some a=>exact⟨by show(4:Nat)≠2;decide,by show(4:Nat)≠3;decide⟩
def _root_.Go.Ae.BC(l:List Cl):noTwo (cl 0::l)=noTwo l:=EL ⟨by decide,by decide⟩
def _root_.Go.Ae.aef(l:List Cl):noTwo (cl 1::l)=noTwo l:=EL ⟨by decide,by decide⟩
def _root_.Go.Ae.xg:noTwo []=f:=rfl
def TX{rm:Nat}(hrm:H.cell rm 0=Z v)(hrl:rm<H.next)(hrg:H.cell u 1=Z (T q.sa A.nr q.sc))(hgl:u<H.next)(hA:rX ax H A q)(hl:Bs b H A.ns v mk)(ho:A.Ok)(hmk:∀s,on mk s<->A.Mk f s):
 Wnt A A.leads H (.func (.func 78) ⟨[]⟩ ⟨[pr rm,pr u]⟩):=by
 intro C s e J hw he;have hl:=hl.ex J;have hA:=hA.ex J;have hs:=ho.lt he;obtain⟨he1,_,he3⟩:=ho.e s hs e he;have hrm:C.cell rm 0=Z v:=(lQ (J.obj rm hrl<|by simp) 0).trans hrm;have hrg:C.cell u 1=Z (T q.sa A.nr q.sc):=(lQ (J.obj u hgl<|by simp) 1).trans hrg;have hrl:=aP hrl J.next
 have hgl:=aP hgl J.next
 show aJ Pg X 78 [_,pr rm,pr u] C _;have G:=M.refl hw;refine ce [0,1,2,3,4] ?_;refine tl ?_;refine G.box O λH1 rb G=>?_;have G:M [] C H1 [(rb,121,[B e.1,B e.2.1,B e.2.2])]:=G;have hl1:=(hl.ex G.ext).n';have hA1:=(hA.ex G.ext).n';obtain⟨ea,ec,rfl,_⟩:=id hl;refine G.Gn hrm hrl ?_;refine d_ ?_;refine hl1.at he1 λp t ht=>?_
 try simp only[gZ G.wf]
 refine dL (λhb=>?_) λhb=>?_
 .refine d_ ?_;refine bT (λy=>?_) λy=>?_
  .refine splitK (λK hK=>?_) ?_
   .exact iB (by simp only[ze,BC,xg]) hK
   refine rr ?_;exact⟨⟨f,O,λ_=>⟨(hmk _).1<|ht.1 hb,λh=>absurd N y⟩,λ_=>rfl⟩,G.ext⟩
  have hca:=ho.call he N;refine G.Gn hrm hrl ?_;refine G.kK ?_;refine G.Gn hrg hgl ?_;refine d_ ?_;refine hA1.ldS ho hca λp=>?_
  try simp only[gZ G.wf]
  refine hl1.at (ho.s _ hca).1 λp t2 ht2=>?_
  try simp only[gZ G.wf]
  refine splitK (λK hK=>?_) ?_
  .exact iB (by simp only[ze,BC,xg]) hK
  refine rr ?_;exact⟨⟨t2,O,λh=>⟨(hmk _).1<|ht.1 hb,λ_=>(hmk _).1<|ht2.1 h⟩,λh=>ht2.2<|(hmk _).2<|h.2 N⟩,G.ext⟩
 .refine splitK (λK hK=>?_) ?_
  .exact iB (by simp only[ze,BC,xg]) hK
  refine rr ?_;refine⟨⟨aA,O,λh=>(by cases h),λh=>?_⟩,G.ext⟩;rw[hb]at ht;exact absurd (ht.2<|(hmk _).2 h.1) (by simp)
end
section
variable{ax:Nat->Prop}{S:List Nat}
theorem abK{re:Nat}{e:Ed}(hB:Bd rt ai SH)(G:M S H0 H<|SH++((re,121,[B e.1,B e.2.1,B e.2.2])::L))(hs:s<ai.ns)(hl:ai.eg.length=ai.ns)(ht:(ai.cs s).length<=1000000){x2 x3 x4 x5 XA x27 x28 zT x38 x39:D}{K:Out->Prop}(hlk:Aw mO 51=.bool f)(kk:∀mO C M',Bd rt (ai.pu s e) M'->M S H0 C (M'++((re,121,[B e.1,B e.2.1,B e.2.2])::L))->K (.norm<|CK x0 x1 x2 x3 x4 x5 (pr rt) (B s) x8 (pr re) XA x27 x28 zT x38 x39 mO C)):
 gJ Pg X (sub LC [1,1,1,1,1,1,0,1,0,0,1,1,0,0,1,1,1,0,0,1,1,0,0,1,1]) (CK x0 x1 x2 x3 x4 x5 (pr rt) (B s) x8 (pr re) XA x27 x28 zT x38 x39 mO H) K:=by
 obtain⟨nv,sv,pv,ov,ev,evs,gn,gs,gp,go,ge,hr,rfl,hgn,hgs,Q5,hgo,hge,hR⟩:=hB;have hev:evs.length=ai.ns:=by rw[<-hR.len,aM,hl]
 rcases hge with⟨_,h0,_⟩|⟨rE,n,dY,rfl,hn,rfl⟩
 .rw[h0]at hev;simp at hev;omega
 obtain rfl:n=ai.ns:=by omega
 obtain⟨A',gb,vn,rfl,hgb,hput⟩:=hR.at s N
 have hE:(ai.eg.map zq)[s]?.getD []=zq (ai.cs s):=by
  unfold At.cs;rw[bD,au (show s<ai.eg.length by omega)];rfl
 rw[hE]at hgb;have hv0:(evs++dY)[s]?=Z evs[s]:=by rw[bJ N];exact au N
 have G:M S H0 H ((re,121,[B e.1,B e.2.1,B e.2.2])::(rt,27,[nv,sv,pv,ov,T (Z ⟨rE,0,W⟩) ai.ns<|fI 1,B ai.ty])::(rE,119,evs++dY)::(gb++((gn++(gs++(gp++go)))++(A'++(vn++L))))):=G.perm (by
  have p0:=iE ((rt,27,[nv,sv,pv,ov,T (Z ⟨rE,0,W⟩) ai.ns<|fI 1,B ai.ty])::(gn++(gs++(gp++(go++([(rE,119,evs++dY)]++(A'++(gb++vn)))))))) [(re,121,[B e.1,B e.2.1,B e.2.2])] L;have p1:=iE (gn++(gs++(gp++go))) [(rE,119,evs++dY)]<|A'++(gb++(vn++L));have p2:=iE ((gn++(gs++(gp++go)))++A') gb<|vn++L;simp only[bP,bE,bK]at p0 p1 p2|-;exact p0.trans<|((p1.trans<|p2.cons _).cons _).cons _)
 refine tl ?_;rw[hlk];refine dL (λ_=>?_) (λhb=>by cases hb);refine d_ ?_;refine G.TP hs hv0<|d_ ?_;refine G.Qa O O O N λH2 rx G sw=>?_;have hS0:=G;have G:=(G.to (cs':=[B e.1,B e.2.1,B e.2.2]) O).perm (L':=(rx,121,[B e.1,B e.2.1,B e.2.2])::(gb++([(re,121,[B e.1,B e.2.1,B e.2.2]),(rt,27,[nv,sv,pv,ov,T (Z ⟨rE,0,W⟩) ai.ns<|fI 1,B ai.ty]),(rE,119,evs++dY)]++((gn++(gs++(gp++go)))++(A'++(vn++L))))))<|(iE [_,_,_] gb _).cons _;refine hgb.Gj G N O O (by rw[Ji];omega) λv' H3 gT hgb' G _ _ vk=>?_;have G:=G.perm<|iE gT [_,_,_] _;simp only[bE,bK]at G;have hS1:=G;obtain⟨va,vl,vc,rfl⟩:=hgb'.sl;refine G.Q3 hs (by rw[aQ];omega) (kk:=λH4 G=>?_);have n1:re≠rt:=G.nq 0 1 O O N;have n2:re≠rE:=G.nq 0 2 O O N;have n3:rt≠rE:=G.nq 1 2 O O N;refine splitK (λK hK=>?_) ?_
 .have r1:∀{o n:Nat}{a b:F},o+n<=3->mY ⟨2,0,0,0,hM H H2,H3⟩ ⟨4,re,o,n,a,b⟩=f:=λh=>p8 (hS0.get 1 O) ((hS1.get 0 O).jf O) h (FN ⟨_,_,_,rfl⟩)
  have r2:∀{a b:F},mY ⟨2,0,0,0,hM H H2,H3⟩ ⟨4,rt,4,1,a,b⟩=f:=λ{a b}=>p8 (hS0.get 2 O) ((hS1.get 1 O).jf O) (by show 4+1<=6;omega) (by
   intro v hv;have hv:v∈[T (Z ⟨rE,0,W⟩) ai.ns (fI 1)]:=hv;rw[aO]at hv;subst hv;exact oQ _ _ _ λx h=>by cases h;rfl)
  have r3:∀{a b:F},mY ⟨2,0,0,0,hM H H2,H3⟩ ⟨4,rE,s,1,a,b⟩=f:=λ{a b}=>p8 (hS0.get 3 O) ((hS1.get 2 O).jf O) (by rw[aQ];omega) (by
   intro v hv
   have:v=evs[s]:=by
    have Q:((evs++dY).drop s).take 1=[evs[s]]:=by
     rw[dN (by rw[aQ];omega),jO,j3,iI N]
    rw[Q,aO]at hv;exact hv
   subst this;exact Ap hR _<|bB _)
  simp only[sw,eG,fT];rcases vk with e|e<;>rw[e]<;>apply N9 (A:=hM H H2) (vn:=H3) (a:=re) (b:=rt) (c:=rE) n1 n2 n3 (by rfl) (by kernel_rfl) (by kernel_rfl) hK<;>repeat' apply iq
  all_goals first|exact trivial|(intro h;cases h;done)|exactλ_=>⟨rfl,rfl⟩|exactλ_=>r1 N|exactλ_=>r2|exactλ_=>r3
 refine kk _ _ ((rt,27,[nv,sv,pv,ov,T (Z ⟨rE,0,W⟩) ai.ns<|fI 1,B ai.ty])::(gn++(gs++(gp++(go++([(rE,119,evs.set s (T va vl vc)++dY)]++(A'++(gT++vn)))))))) ⟨nv,sv,pv,ov,_,evs.set s<|T va vl vc,gn,gs,gp,go,_,A'++(gT++vn),O,hgn,hgs,Q5,hgo,.inr ⟨rE,ai.ns,dY,O,by rw[bF];omega,rfl⟩,?_⟩ ?_
 .have:=hput (T va vl vc) (zq<|ai.cs s++[e]) gT (by rw[Oy];exact hgb');have e2:(ai.pu s e).eg.map zq=(ai.eg.map zq).set s (zq<|ai.cs s++[e]):=fV;rw[e2];exact this
 .rw[lM _ _ N]at G;refine G.perm<|rZ ?_;have p0:=iE ((rt,27,[nv,sv,pv,ov,T (Z ⟨rE,0,W⟩) ai.ns<|fI 1,B ai.ty])::(gn++(gs++(gp++(go++([(rE,119,evs.set s (T va vl vc)++dY)]++(A'++(gT++vn)))))))) [(re,121,[B e.1,B e.2.1,B e.2.2])] L;have p1:=iE (gn++(gs++(gp++go))) [(rE,119,evs.set s (T va vl vc)++dY)]<|A'++(gT++(vn++L));have p2:=iE ((gn++(gs++(gp++go)))++A') gT<|vn++L;simp only[bP,bE,bK]at p0 p1 p2|-;exact p0.trans<|((p1.trans<|p2.cons _).cons _).cons _
def At.cl(ai:At)(s:Nat):At:={ai with eg:=ai.eg.set s []}
def abL(hB:Bd rt ai SH)(G:M S H0 H<|SH++L)(hs:s<ai.ns)(hl:ai.eg.length=ai.ns){K:D->D->D->F->Prop}(kk:∀v p rg C M',Bd rt (ai.cl s) M'->M S H0 C (M'++L)->K v p rg C):
 ME (Go.Ae.uP W (.pointer<|Z ⟨rt,4,W⟩) H) λv H1=>PU (Ac 1 v<|B s) λp=>ME (Go.Ae.Cq 1 p (T W 0 0) H1) λrg H2=>K v p rg H2:=by
 obtain⟨nv,sv,pv,ov,ev,evs,gn,gs,gp,go,ge,hr,rfl,hgn,hgs,Q5,hgo,hge,hR⟩:=hB;have hev:evs.length=ai.ns:=by rw[<-hR.len,aM,hl]
 rcases hge with⟨_,h0,_⟩|⟨rE,n,dY,rfl,hn,rfl⟩
 .rw[h0]at hev;simp at hev;omega
 obtain rfl:n=ai.ns:=by omega
 obtain⟨A',gb,vn,rfl,hgb,hput⟩:=hR.at s N
 have G:M S H0 H ((rt,27,[nv,sv,pv,ov,T (Z ⟨rE,0,W⟩) ai.ns<|fI 1,B ai.ty])::(rE,119,evs++dY)::(gb++((gn++(gs++(gp++go)))++(A'++(vn++L))))):=G.perm (by
  have p1:=iE (gn++(gs++(gp++go))) [(rE,119,evs++dY)]<|A'++(gb++(vn++L));have p2:=iE ((gn++(gs++(gp++go)))++A') gb<|vn++L;simp only[bP,bE,bK]at p1 p2|-;exact(p1.trans<|p2.cons _).cons _)
 refine G.oF ?_;refine G.YD hs (by rw[aQ];omega) (kk:=λp H4 G=>?_);have G:M S H0 H4 ((rt,27,[nv,sv,pv,ov,T (Z ⟨rE,0,W⟩) ai.ns<|fI 1,B ai.ty])::(rE,119,(evs++dY).set s<|T W 0 0)::(gb++((gn++(gs++(gp++go)))++(A'++(vn++L))))):=G;refine kk _ p undef H4 ((rt,27,[nv,sv,pv,ov,T (Z ⟨rE,0,W⟩) ai.ns<|fI 1,B ai.ty])::(gn++(gs++(gp++(go++([(rE,119,evs.set s (T W 0 0)++dY)]++(A'++([]++vn)))))))) ⟨nv,sv,pv,ov,_,evs.set s<|T W 0 0,gn,gs,gp,go,_,A'++([]++vn),O,hgn,hgs,Q5,hgo,.inr ⟨rE,ai.ns,dY,O,by rw[bF];omega,rfl⟩,?_⟩ ?_
 .have:=hput (T W 0 0) (zq []) [] (GB.nil _ _);have e2:(ai.cl s).eg.map zq=(ai.eg.map zq).set s (zq []):=fV;rw[e2];exact this
 .rw[lM _ _ N]at G;have G:=M.drop (A:=gb)<|G.perm<|iE [_,_] gb _;refine G.perm<|rZ ?_;have p1:=iE (gn++(gs++(gp++go))) [(rE,119,evs.set s (T W 0 0)++dY)]<|A'++(vn++L);simp only[bP,bE,bK]at p1|-;exact p1.cons _
end
section
variable{ax:Nat->Prop}{S:List Nat}
namespace At
variable{i j:Nat}
variable{k:Nat}
structure OX(A ai:At)(i:Nat):Prop where
 nm:ai.nm=A.nm
 st:ai.st=A.st
 sp:ai.sp=A.sp
 ow:ai.ow=A.ow
 ty:ai.ty=A.ty
 zJ:ai.eg.length=A.ns
 e:∀s,s<i->ai.cs s=A.K9 s
open Classical in
def FO(A:At)(i j:Nat):List Ed:=if A.met i then((A.cs i).take j).filter (λe=>decide<|A.leads e)else[]
def ahk(i:Nat):A.FO i 0=[]:=by unfold FO;rw[j3,List.filter_nil];split<;>rfl
def abM(i:Nat):A.FO i (A.cs i).length=A.K9 i:=by unfold FO K9;rw[qC]
def abN(i j:Nat):(A.FO i j).length<=(A.cs i).length:=by
 classical
 unfold FO;split
 .exact aX (mX _ _) (by rw[eH];omega)
 .exact bg _
def aeg(hj:j<(A.cs i).length)(hm:A.met i)(hl:A.leads (A.cs i)[j]):A.FO i (j+1)=A.FO i j++[(A.cs i)[j]]:=by
 unfold FO;rw[if_pos hm,if_pos hm,eO,au hj,rT];congr 1;show List.filter _ [_]=_;rw[nQ,if_pos<|by simpa using hl];rfl
def Q8(hj:j<(A.cs i).length)(h:¬(A.met i/\A.leads (A.cs i)[j])):A.FO i (j+1)=A.FO i j:=by
 unfold FO
 by_cases hm:A.met i
 .rw[if_pos hm,if_pos hm,eO,au hj,rT]
  have:List.filter (λe=>@decide (A.leads e)<|Classical.propDecidable _) (Z (A.cs i)[j]).toList=[]:=by
   show List.filter _ [_]=_;rw[nQ,if_neg<|by simpa usingλhl=>h ⟨hm,hl⟩];rfl
  rw[this,a_]
 .rw[if_neg hm,if_neg hm]
def OX.ns(h:OX A ai k):ai.ns=A.ns:=dV gz h.ow
def OX.init(ho:A.Ok):OX A A 0:=⟨O,O,O,O,O,ho.zJ,λs h=>absurd h<|jP s⟩
def ajQ(hl:ai.eg.length=ai.ns)(hi:i<ai.ns)(t:Nat):(ai.cl i).cs t=if t=i then[]else ai.cs t:=by
 show(ai.eg.set i [])[t]?.getD []=_;rw[dB]
 by_cases h:i=t
 .subst h;rw[if_pos O,if_pos N,if_pos O];rfl
 .rw[if_neg h,if_neg λe=>h e.symm];rfl
theorem OX.cl(h:OX A ai i)(hi:i<A.ns):OX A (ai.cl i) i/\(ai.cl i).cs i=A.FO i 0:=by
 have hl:ai.eg.length=ai.ns:=h.zJ.trans h.ns.symm;refine⟨⟨h.nm,h.st,h.sp,h.ow,h.ty,(bF ..).trans h.zJ,λs hs=>?_⟩,?_⟩
 .rw[ajQ hl (by rw[h.ns];exact hi),if_neg N];exact h.e s hs
 .rw[ajQ hl (by rw[h.ns];exact hi),if_pos O,ahk]
theorem OX.pu(h:OX A ai i)(hi:i<A.ns)(e:Ed):OX A (ai.pu i e) i/\(ai.pu i e).cs i=ai.cs i++[e]:=by
 have hl:ai.eg.length=ai.ns:=h.zJ.trans h.ns.symm;refine⟨⟨h.nm,h.st,h.sp,h.ow,h.ty,(bF ..).trans h.zJ,λs hs=>?_⟩,?_⟩
 .rw[ahf hl (by rw[h.ns];exact hi),if_neg N];exact h.e s hs
 .rw[ahf hl (by rw[h.ns];exact hi),if_pos O]
def OX.succ(h:OX A ai i)(he:ai.cs i=A.K9 i):OX A ai (i+1):=
 ⟨h.nm,h.st,h.sp,h.ow,h.ty,h.zJ,λs hs=>by
   rcases bZ s i with Q|Q
   .exact h.e s Q
   .obtain rfl:s=i:=by omega
    exact he⟩
theorem OX.done(h:OX A ai A.ns):ai=A.trim:=by
 obtain⟨Q,I,h3,h4,h5,h6,h7⟩:=h
 have:ai.eg=(fZ A.ns).map A.K9:=by
  refine qA (by rw[aM,pQ];exact h6) λs hs hs'=>?_;rw[mq,List.getElem_range,<-h7 s N];unfold cs;rw[au hs];rfl
 cases ai;simp only at Q I h3 h4 h5 this;subst Q I h3 h4 h5 this;rfl
end At
theorem Nc(hw:Wf H)(h:rX ax H A q)(ho:A.Ok):aJ Pg X 52 [q.v A] H (Qe (λv C=>∃q':AV,v=q'.v A.trim/\rX (H.next<=·) C A.trim q') H):=by
 have G:=M.refl hw;have hbig:=ho.big;refine ce [0,1,2,3,4,5,6,7,8,10,26,27,28,37,38,39] ?_;refine tl ?_;refine G.box O λH1 u G=>?_;rw[jV]at G;refine G.iZ λH2 rz G=>G.rF 1 O (by show 0+6<=6;omega) ?_;refine aJ.mono (sU G.wf (h.ex G.ext) ho) ?_;rintro v H3 ⟨rfl,J⟩;have G:=G.call J;refine aY ?_;refine dL (λhb=>by cases hb) λ_=>?_;refine G.rF 1 O (by show 0+6<=6;omega) ?_;refine aJ.mono (EI G.wf (h.ex G.ext) ho f) ?_;rintro v H4 ⟨⟨mk,hm,hmk⟩,J⟩;have G:=G.call J;obtain⟨ma,mc,rfl,_⟩:=id hm;refine G.ns O O O λH5 rm G hx5=>?_;have G:M [] H H5 [(rm,34,[T ma A.ns mc]),(rz,27,[T W 0 0,T W 0 0,T W 0 0,T W 0 0,T W 0 0,vi 0]),(u,27,q.cells A)]:=G;refine G.rF 2 O (by show 0+6<=6;omega) ?_;refine G.ld 2 (o:=1) O O ?_;have hwant:=TX (A:=A) (q:=q) (rm:=rm) (u:=u) ((G.get 0 O).cell O) (G.lo _<|aR (i:=0) O).2 ((G.get 2 O).cell (o:=1) O) (G.lo _<|aR (i:=2) O).2 (h.ex G.ext) (hm.ex hx5) ho hmk;have hSt:A.st.length=A.nr:=ho.VJ;have KL:=ho.few;rw[show T q.sa A.nr q.sc=.slice q.sa A.st.length q.sc by rw[hSt]];refine aJ.mono (M0 (fa:=q.sa) (fc:=q.sc) (fl:=A.st) (w:=A.leads) G.wf (h.ex G.ext) ho (by rw[hSt];exact(h.ex G.ext).s) (λs hs=>?_) N hwant) ?_
 .obtain⟨r,R,rfl⟩:=iJ hs;have:=(ho.s r N).1;unfold At.S at this
  rwa [au R]at this
 rintro v H6 ⟨⟨GG,hm2,hk2⟩,hx6⟩;have G:=G.call hx6
 have hmet:∀s,on GG s<->A.met s:=λs=>by
  rw[hk2]
  have:(·∈A.st)=A.isS:=by
   funext s;apply propext;constructor
   .intro hs;obtain⟨r,R,rfl⟩:=iJ hs;refine⟨r,N,?_⟩;unfold At.S;rw[au R];rfl
   .rintro⟨r,R,rfl⟩;unfold At.S;rw[au (show r<A.st.length by omega)];exact bB _
  rw[this];rfl
 obtain⟨na,nc,rfl,_⟩:=id hm2;refine G.rF 2 O (by show 0+6<=6;omega) ?_;refine aJ.mono (Nb G.wf (h.ex G.ext) ho) ?_;rintro v H7 ⟨E,M',rfl,hown,FY⟩;have vZ:=G;refine FY.ns (v:=.agg ⟨E⟩) hown.1 O hown.2.1 λH8 rt G Bw=>?_;have hB:=hown.2.2 rt;have G:M [] H6 H8 (((rt,27,E)::M')++[]):=G.cast (a_ _).symm;generalize(rt,27,E)::M'=SH at hB G;have hrg:∀{C}(_:Ext H6 C),Bk C u 27 (q.cells A):=λ{C} J=>(vZ.bk (u,27,q.cells A)<|by simp).ex (vZ.lo (u,27,q.cells A)<|by simp).2 J;refine ME.ld ((hrg G.ext).cell (o:=4) O) ?_;refine aY ?_;refine lp7 7 8 10 28 37 38 39 (h2:=λm x7 x8 jh x28 zT x38 x39 C=>∃i ai SH,x28=B i/\i+m=A.ns/\At.OX A ai i/\Bd rt ai SH/\M [] H6 C (SH++[])) ?_ A.ns ⟨0,A,SH,rfl,N,At.OX.init ho,hB,G⟩;clear G hB FY Bw;clear SH;rintro m x7 x8 jh x28 zT x38 x39 mO H9 ⟨i,ai,SH,rfl,him,hT,hB,G⟩;refine tp ?_;refine aC (λy=>?_) λy=>?_;rotate_left
 .obtain rfl:i=A.ns:=by omega
  obtain rfl:=hT.done;have ok:=At.Jh ho;refine tl ?_;rw[a_]at G;have QG:=M.frame (SH:=[]) vZ G;obtain⟨q0,hr0,_⟩:=hB.atM QG ok;refine ME.rF hr0 ?_;have G:=QG.perm (L':=(rz,27,[T W 0 0,T W 0 0,T W 0 0,T W 0 0,T W 0 0,vi 0])::(rm,34,[T ma A.ns mc])::(u,27,q.cells A)::SH)<|(aF (l₁:=SH) (l₂:=[(rm,34,[T ma A.ns mc]),(rz,27,[T W 0 0,T W 0 0,T W 0 0,T W 0 0,T W 0 0,vi 0]),(u,27,q.cells A)])).trans<|gm _ _ _;refine G.st 0 O O (az 6) O λDm G=>?_;have G:M [] H Dm ((rz,27,q0.cells A.trim)::(rm,34,[T ma A.ns mc])::(u,27,q.cells A)::SH):=G;have hS2:=G.perm (L':=SH++[(rz,27,q0.cells A.trim),(rm,34,[T ma A.ns mc]),(u,27,q.cells A)])<|aF (l₁:=[_,_,_]);obtain⟨q1,hr1,hat⟩:=hB.atM hS2 ok
  have eq:q1.cells A.trim=q0.cells A.trim:=by
   obtain⟨E,hm,h6⟩:∃E,((rt,27,E):dJ)∈SH/\E.length=6:=by
    obtain⟨nv,sv,pv,ov,ev,evs,gn,gs,gp,go,ge,hr,rfl,_⟩:=hB;exact⟨_,aL ..,O⟩
   have a0:=(QG.bk _<|cZ _ hm).read (o:=0) (n:=6) (by show 0+6<=E.length;omega);have a1:=(hS2.bk _<|cZ _ hm).read (o:=0) (n:=6) (by show 0+6<=E.length;omega);have b0:=a0.symm.trans hr0;have b1:=a1.symm.trans hr1;exact dH<|b1.symm.trans b0
  refine rr ?_;refine G.rF 0 O (az 6) ?_;exact⟨⟨q1,by rw[<-eq];rfl,hat⟩,G.ext⟩
 have hi:i<A.ns:=by omega
 have ajR:=vZ.ext;refine h.ldE (ajR.trans G.ext) hi λp ea ec hf=>?_;refine aY ?_;refine abL hB G (by rw[hT.ns];exact hi) (hT.zJ.trans hT.ns.symm) λv p rg Dm M1 hB1 G=>?_;obtain⟨hT1,hj1⟩:=hT.cl hi;have hlen:=ho.len i;refine lp2 10 39 (h2:=λm jh x39 C=>∃j ai SH,x39=B j/\j+m=(A.cs i).length/\At.OX A ai i/\ai.cs i=A.FO i j/\Bd rt ai SH/\M [] H6 C (SH++[])) ?_ (A.cs i).length ⟨0,_,M1,rfl,N,hT1,hj1,hB1,G⟩;clear G hB hB1 hT hT1 hj1;rintro m2 jh x39 alF OW ⟨j,ai,SH,rfl,hjm,hT,hrow,hB,G⟩;refine tp ?_;refine aC (λy=>?_) λy=>?_;rotate_left
 .obtain rfl:j=(A.cs i).length:=by omega
  refine tl ?_;refine dU ?_;refine⟨A.ns-(i+1),N,_,_,_,_,_,_,_,_,_,O,i+1,ai,SH,nX,N,hT.succ<|by rw[hrow,At.abM],hB,G⟩
 have hj:j<(A.cs i).length:=by omega
 refine IU (hf.ex<|ajR.trans G.ext) hj λp=>G.ns O O O λH12 re G ahl=>?_;have G:M [] H6 H12 (SH++[(re,121,[B (A.cs i)[j].1,B (A.cs i)[j].2.1,B (A.cs i)[j].2.2])]):=G.perm<|iE [_] SH [];have hTl:(ai.cs i).length<=1000000:=by rw[hrow];have:=At.abN (A:=A) i j;omega
 refine(hm2.ex G.ext).at hi λp t ht=>?_;refine aY ?_;refine dL (λhb=>?_) λhb=>?_
 .have hmi:=(hmet i).1 (ht.1 hb);refine ME.rF ((G.bk (re,121,[B (A.cs i)[j].1,B (A.cs i)[j].2.1,B (A.cs i)[j].2.2])<|by simp).read (o:=0) (n:=3)<|az 3)<|aJ.mono (hwant H12 i (A.cs i)[j] (hx6.trans G.ext) G.wf<|bB hj) ?_;rintro v H13 ⟨⟨b,rfl,hbl⟩,alG⟩;have G:=G.call alG;cases b with
  |true=>
   obtain⟨hT1,hr1⟩:=hT.pu hi (A.cs i)[j];refine abK (L:=[]) hB G (by rw[hT.ns];exact hi) (hT.zJ.trans hT.ns.symm) hTl O λmO H14 M1 hB1 G=>?_;refine aY ?_;refine tl ?_;refine dU ?_;refine⟨(A.cs i).length-(j+1),N,_,_,_,_,O,j+1,_,M1,nX,N,hT1,by rw[hr1,hrow,At.aeg hj hmi<|hbl.1 O],hB1,(M.drop (A:=[_])<|G.perm<|iE _ [(re,121,_)] [])⟩
  |false=>
   refine tl ?_;refine tl ?_;refine dU ?_;refine⟨(A.cs i).length-(j+1),N,_,_,_,_,O,j+1,ai,SH,nX,N,hT,by rw[hrow,At.Q8 hj λh=>by cases hbl.2 h.2],hB,(M.drop (A:=[_])<|G.perm<|iE _ [(re,121,_)] [])⟩
 .have hmi:¬A.met i:=λh=>by
   have:=ht.2<|(hmet i).2 h;rw[hb]at this;cases this
  subst hb;refine tl ?_;refine tl ?_;refine dU ?_;refine⟨(A.cs i).length-(j+1),N,_,_,_,_,O,j+1,ai,SH,nX,N,hT,by rw[hrow,At.Q8 hj λh=>hmi h.1],hB,(M.drop (A:=[_])<|G.perm<|iE _ [(re,121,_)] [])⟩
end
section
open Go.Ae Go.Ae.SH
def Q9{P:aS}(hb:0<b)(h:a<=9223372036854775807):lN P .rem t ox oy (B a) (B b)=Z (B<|a %b):=lS O (by
 show jQ (Op.intDiv .rem .i64 a b)=_;unfold Op.intDiv;rw[if_neg N];show Z (bV .i64<|(a:Int).tmod b)=_;have Q:(a:Int).tmod b=((a %b:Nat):Int):=by rw[Int.tmod_eq_emod_of_nonneg N];rfl
 have I:a %b<=a:=Nat.mod_le _ _;rw[Q])
def OH{P:aS}(b:Nat)(e:z=(b:Int))(hb:0<b)(h:a<=9223372036854775807):lN P .quo t ox oy (B a) (.int .i64 z)=Z (B<|a/b):=by subst e;exact Fs N N N
def addN{P:aS}(a:Nat)(e:z=(a:Int))(h:a+b<=9223372036854775807):lN P .add t ox oy (.int .i64 z) (B b)=Z (B<|a+b):=by subst e;exact fA N N
def qj{P:aS}(b:Nat)(e:z=(b:Int))(hb:0<b)(h:a<=9223372036854775807):lN P .rem t ox oy (B a) (.int .i64 z)=Z (B<|a %b):=by subst e;exact Q9 hb h
def mulN{P:aS}(a:Nat)(e:z=(a:Int))(h:a*b<=9223372036854775807):lN P .mul t ox oy (.int .i64 z) (B b)=Z (B<|a*b):=by
 subst e;have h':(a:Int)*(b:Int)=((a*b:Nat):Int):=by push_cast;rfl
 rw[Z7 (by rw[h'];omega) (by rw[h'];omega),h']
def jB{P:aS}(b:Nat)(e:z=(b:Int))(h:a+b<=9223372036854775807):lN P .add t ox oy (B a) (.int .i64 z)=Z (B<|a+b):=by subst e;exact fA N N
end
end Go.Proofs.Lu
