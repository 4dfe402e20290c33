/-
  Part 09 of the proof. No condition.
-/
import Derived.Test.YtpngmpbmokhmiaaGreatDoorZ08
set_option linter.unusedVariables false
set_option linter.unusedSimpArgs false
set_option maxRecDepth 100000
set_option maxHeartbeats 4000000
set_option linter.defProp false
open Option renaming some->Z,none->T
open Bool renaming true->F,false->aA
open Go renaming Value->D,TypeId->aH,Program->aX,Operand->cB
open Go.Value renaming int->bq,slice->u,bool->aR,string->aJ,pointer->bG,tuple->fO,agg->dP
open Nat renaming beq->aB,ble->aD
open List renaming length->J,range->dZ
open List.Perm renaming swap->gX,cons->eX
open And renaming intro->iZ
open Go.IntKind renaming i64->bC
noncomputable section
namespace Go.Proofs.Lu
open Go.Ae Go.Ae.hx Go.Proofs.Lv
variable{K:Nat->Prop}{A au:At}{L hx:C eB}{H Q H0:R}{t ty:aH}{z:Int}{a b i n nc nn r rc E rt s tn vc:Nat}{oW:C (Nat×D)}{q:AV}{ox oy:cB}{mk:C Bool}{d:WD}{na ra va:aC Addr}{f evs jA rcs vcs:C D}{v x0 x1 x8:D}
section
variable{ay:Nat->Prop}{S:C Nat}
def _root_.Go.Ae.Bk.ex(h:Bk H r ty f)(e:r<H.bU)(M:Ext H Q):Bk Q r ty f:=h.iE<|M.obj r e nofun
abbrev adX(tn:Nat)(H:R)(v:D)(Q:R):Prop:=∃(x:D)(e:Int),v=fO ⟨[x,vi e]⟩/\J (bY x)=6/\all' fZ (bY x)=F/\(e=0->adW tn H x Q)
def aot(hw:Wf H){rz rv:Nat}{rn:Nat}{H1:R}(V:Gr b H ra rn rcs na nn jA)(hC:Du (b<=·) H rn rcs nn jA/\1<=rn/\IA rcs 0=aA)(hV:Vo ay H va tn vcs)(G:SH [] H H1 [(rz,27,[u T 0 0,u T 0 0,u T 0 0,u T 0 0,u T 0 0,vi 0]),(rv,180,[u va tn vc]),(E,171,[u ra rn rc,u na nn nc])]){x6 x7 x9 je a5 FO KI:D}:
 iG Pg X (sub adj [1,1]) (Z_ x0 x1 (pr E) (pr rv) (pr rz) (vi 0) x6 x7 x8 x9 je a5 FO KI oW H1) (jZ Pg [.cell 4 27,.tmp 5]<|Q1 (adX tn H) H):=by
 have g2:=V.2.1;have g5:=V.2.2.2.2.1;have⟨hC1,hC2,hC3⟩:=hC;refine tm ?_;refine G.cm (Wq G.wf (V.ex G.ext) (λi hi=>(hC1.1 i hi).ex G.ext) ⟨hV.1.ex G.ext,hV.2⟩) ?_;rintro v H2 ⟨rl,bd,rfl,ab,w,x,ac,ad⟩ bc G;have⟨kd,zs,hNd⟩:=YD.of (ay:=(b<=·)) (H:=H) hC1.1;apply G.jC;refine G.cm (Ws G.wf (V.ex G.ext) (hNd.ex G.ext) x w ac ad) ?_;rintro v H3 ⟨rs,rr,g,bs,rfl,⟨bb,I⟩,⟨ba,a2⟩,al,a3,an,ap,am⟩ P G;have ar:jJ (λ_=>True) 3 H3 (Z ⟨rs,0,T⟩) nn 1 (gq g):=al.UO I (by rw[dN,aK];exact an) trivial;have aq:jJ (λ_=>True) 4 H3 (Z ⟨rr,0,T⟩) nn 1 (bools bs):=a3.UO a2 (by rw[dN,aK];exact ap) trivial;have x:=x.ex w P;refine fJ ?_;refine PO 5 9 11 36 (h1:=λm x5 x9 je KI Q=>∃i,KI=B i/\i+m=rn/\x5=vi 0/\x9=B (min (GI rcs g i) 4001)/\Ext H3 Q/\SH [] H Q [(rz,27,[u T 0 0,u T 0 0,u T 0 0,u T 0 0,u T 0 0,vi 0]),(rv,180,[u va tn vc]),(E,171,[u ra rn rc,u na nn nc])]) ?_ rn ⟨0,rfl,N,rfl,rfl,Ext.refl _,G⟩;clear G;rintro m x5 x9 je KI oW H4 ⟨i,rfl,a9,rfl,rfl,l,G⟩;refine lX (λhc=>?_) λhc=>?_
 .obtain rfl:i=rn:=N;refine tQ (λh4=>?_) λh4=>?_
  .refine PU.b6 O<|G.kE λHn G=>Lu.rr ?_;apply G.jC;exact⟨⟨_,_,O,O,O,λh=>absurd h jq⟩,G.ext⟩
  have ht:GI rcs g i<=4000:=N;refine fJ ?_;have M:=P.trans l;refine dD (WC G.wf (V.ex G.ext) (hNd.ex G.ext) hC1.2 hC3 hC2 ⟨x.ex (aO w P.bU) l,aO w M.bU,ac⟩ ad ⟨al.ex I l,aO I l.bU,an⟩ am ht) ?_;rintro v H5 ⟨⟨A,q,rfl,hA,a0,a4⟩,U⟩;have a8:=G.ext.bU;have aE:=G.lo;have G:=G.call U;have hO:=G.base;refine hO.st 0 O O (ax 6) O λH6 Y=>?_
  have hA:=hA.stay Y.ext (λr hr=>by
   obtain⟨e,he,rfl⟩:=bP.1 hr;exact fH (aE e he).2)
  have G:SH [] H H6 [(rz,27,q.cells A),(rv,180,[u va tn vc]),(E,171,[u ra i rc,u na nn nc])]:=G.over Y;refine Lu.rr ?_;exact G.jC<|⟨⟨_,_,O,O,O,λ_=>⟨A,q,rfl,hA.wk λr hr=>N,a0,a4⟩⟩,G.ext⟩
 have hi:i<rn:=N;have⟨r1,o1,zY,u1,f1,w1,c1,a1,e1,ab,Br,uX,hsz1,hel⟩:=V.ru hi rc;have ag:=hC1.2 i hi;have W:GI rcs g (i+1)=GI rcs g i+(if IA rcs i=F then 0 else 2+h2 g (rootOf rcs i).toNat):=rfl;rw[Lh hel]at W;obtain⟨k,hk⟩:∃k:Nat,rootOf rcs i=k:=⟨(rootOf rcs i).toNat,N⟩;have y:k<nn:=N;rw[e1];refine bM ?_;refine G.BU Br ab<|G.oV O O O λH5 ru G U=>?_;have G:SH [] H H5 [(ru,234,yw zY u1 f1 w1 c1 (rootOf rcs i) a1),(rz,27,[u T 0 0,u T 0 0,u T 0 0,u T 0 0,u T 0 0,vi 0]),(rv,180,[u va tn vc]),(E,171,[u ra rn rc,u na nn nc])]:=G;have o:=l.trans U;rw[hk]at G W;refine QX (λhb=>?_) λhb=>?_
 .rw[if_pos hb]at W;refine eG ?_;exact⟨rn-(i+1),N,_,_,_,_,_,_,O,i+1,pJ,N,O,by rw[W];rfl,o,fU (A:=[_]) G⟩
 rw[if_neg (by rw[hb];simp)]at W;refine G.qF<|(aq.ex o).ix (k:=k) (v:=aR<|bs[k]?.getD aA) y (by rw[bK,av (show k<J bs by omega)];rfl) λp=>?_;refine sD (λao=>?_) λao=>?_
 .refine PU.b6 O<|G.kE λHn G=>Lu.rr ?_;apply G.jC;exact⟨⟨_,_,O,O,O,λh=>absurd h jq⟩,G.ext⟩
 have a7:h2 g k<=4001:=amo<|am k y;have a6:h2 g ((k:Int)).toNat=h2 g k:=rfl;refine eG ?_;refine G.qF<|(ar.ex o).ix (k:=k) (v:=B<|h2 g k) y (by rw[bK,av (show k<J g by omega)];show _=Z (B<|g[k]?.getD 0);rw[av (show k<J g by omega)];rfl) λp=>?_;refine eG ?_;rw[min2];refine bM ?_;refine eG ?_;exact⟨rn-(i+1),N,_,_,_,_,_,_,O,i+1,pJ,N,O,by rw[show min (((min (GI rcs g i) 4001:Nat):Int)+2+(h2 g k:Int)) 4001=((min (GI rcs g<|i+1) 4001:Nat):Int) by omega],o,fU (A:=[_]) G⟩
end
section
variable{ay:Nat->Prop}{S:C Nat}
def Rp(W:Wf H){rn:Nat}(x:Gr b H ra rn rcs na nn jA)(o:na=T\/nc=gQ 5)(M:Vo ay H va tn vcs):
 bQ Pg X 94 [gV ra rn rc na nn nc,vV va tn vc] H (Q1 (adX tn H) H):=by
 have G:=h_ W;refine lq [0,1,2,3,4,5,6,7,8,9,11,34,35,36] ?_;refine G.box O λH1 E G=>?_;refine G.box O λH2 rv G=>?_;refine G.jP λe rz G=>?_;refine fJ ?_;have B:=x.ex G.ext;refine dD (Nt (oU e) (show Gr b (hN e) ra rn rcs na nn jA from B)) ?_;rintro v l ⟨⟨z,a,c,rfl,N⟩,g⟩;have y:=G.ext;have G:=G.oI g;rw[Gt];refine yx (λV=>?_) λV=>?_
 .refine splitK (λK I=>?_) ?_
  .exact ji (by simp only[fu,gJ g];rfl) I
  refine PU.b6 O<|G.kE λY G=>rr ?_;apply G.jC;exact⟨⟨_,_,O,O,O,λh=>absurd h jq⟩,G.ext⟩
 have m:=N V;have m:Du (b<=·) H rn rcs nn jA/\1<=rn/\IA rcs 0=aA:=⟨Du.back x y m.1.1,m.1.2.1,m.2⟩;refine fJ ?_;refine dD (Uh (oU _) (show Gr b (hN<|hM e l) ra rn rcs na nn jA from(x.ex G.ext:Gr b (hM e l) ra rn rcs na nn jA)) o) ?_;rintro v U ⟨⟨ya,yn,yc,P,rfl,hY⟩,p⟩;have G:=G.oI p;refine fJ ?_;refine dD (Wp (oU _) (ay:=((hN<|hM e l).bU<=·)) (F':=ay) (a:=ya) (n:=yn) (c:=yc) (f:=P) (a':=va) (n':=tn) (c':=vc) (cs':=vcs) ?_ ?_) ?_
 .exact hY
 .exact⟨(show jJ ay 240 (hN<|hM (hM e l) U) va tn 4 vcs from(M.1.ex G.ext:jJ ay 240 (hM (hM e l) U) va tn 4 vcs)),M.2⟩
 rintro v H6 ⟨⟨bb,rfl⟩,w⟩;have G:=G.oI w;refine bM ?_;refine splitK (λK I=>?_) ?_
 .exact ji (by simp only[fu,gJ g,gJ p,gJ w];rfl) I
 refine iI (λhb=>?_) λhb=>?_
 .refine PU.b6 O<|G.kE λY G=>rr ?_;apply G.jC;exact⟨⟨_,_,O,O,O,λh=>absurd h jq⟩,G.ext⟩
 exact aot W x m M G
end
section
variable{ay:Nat->Prop}{S:C Nat}
def WG(e:Wf H):bQ Pg X 35 [q.v A] H (Q1 (λv _=>v=B A.ns) H):=by
 have G:=h_ e;refine lq [0,1,2] ?_;refine G.box O λg E G=>?_;refine fJ ?_;refine rr ?_;exact⟨O,G.ext⟩
abbrev amx(H:R)(v:D)(Q:R):Prop:=∃(A:At)(q:AV),v=q.v A/\vI (H.bU<=·) Q A q/\A.Ok/\A.ns<=1000/\A.ty<=5000/\A.tot<=2*A.ns
theorem aax(hw:Wf H)(hT:Dr H)(s:aZ):bQ Pg X 68 [aJ s] H (Q1 (λv Q=>∃(x:D)(ok:Int),v=fO ⟨[x,vi ok]⟩/\J (bY x)=6/\all' fZ (bY x)=F/\(ok≠0->amx H x Q)) H):=by
 have G:=h_ hw;refine lq [0,2,3,4,5,6,7] ?_;refine G.jP λV U G=>?_;refine tO (λw=>?_) λw=>?_
 .refine PU.b6 O<|G.kE λm G=>rr ?_;exact G.jC<|⟨⟨_,_,O,O,O,λh=>absurd O h⟩,G.ext⟩
 refine G.cm (OH G.wf (hT.ex G.ext) s) ?_;rintro v H2 ⟨ra,rn,rc,rcs,na,nn,nc,jA,cd,e,rfl,hG,y⟩ ao G;refine G.lJ ?_;have l:=G;have G:=h_ l.wf;refine G.jP λH3 E G=>G.jP λH4 re G=>?_;refine G.lJ ?_;refine G.kE λm G=>?_;refine G.kE λm G=>?_;refine fJ ?_;have ab:=G.ext;have G:SH [] H _ [(re,173,[vi cd,vi e]),(E,171,[u ra rn rc,u na nn nc]),(U,27,[u T 0 0,u T 0 0,u T 0 0,u T 0 0,u T 0 0,vi 0])]:=SH.frame (hx:=[]) l G;refine fP (λw=>?_) λw=>?_
 .refine PU.b6 O<|G.kE λm G=>rr ?_;exact G.jC<|⟨⟨_,_,O,O,O,λh=>absurd O h⟩,G.ext⟩
 have M:Gr V.bU m ra rn rcs na nn jA:=hG.ex ab;refine fJ ?_;refine dD (Uh (oU _) (show Gr V.bU (hN m) ra rn rcs na nn jA from M) y) ?_;rintro v Y ⟨⟨ya,yn,yc,ap,rfl,hY⟩,B⟩;have G:=G.oI B;have ad:=G.lo;have ac:=G.ext.bU;refine dD (Rp (oU _) (ay:=((hN m).bU<=·)) (show Gr V.bU (hN<|hM m Y) ra rn rcs na nn jA from(M.ex B.draw:Gr V.bU (hM m Y) ra rn rcs na nn jA)) y hY) ?_;rintro v H6 ⟨⟨x,e,rfl,OK,R7,g⟩,P⟩;have G:=G.oI P;refine bM ?_;have l:=G;have G:=h_ l.wf;refine G.aao λH7 rm G f7=>?_
 have ag:rm≠E:=by
  have I:=G.yV<|aL ..
  have W:=(l.lo _<|aV (i:=1) O).2;intro h;subst h;exact fI I W
 refine G.n_ (hl:=OK) (hk:=R7) λH8 G=>?_;refine splitK (λK hK=>?_) ?_
 .simp only[fu,gJ B,gJ P,f7,gT];rw[ig,OK];apply mO (a:=rm) (b:=E) ag yB fT fT hK
 have an:=G.ext;have G:=SH.frame (hx:=[]) l G;simp only[bV,bZ]at G;refine fP (λw=>?_) λw=>?_
 .refine PU.b6 O<|G.kE λm G=>rr ?_;exact G.jC<|⟨⟨_,_,O,O,O,λh=>absurd O h⟩,G.ext⟩
 obtain⟨A,q,rfl,g,al,am⟩:=g w;have G:SH [] H _ [(rm,27,q.cells A),(re,173,[vi cd,vi _]),(E,171,[u ra rn rc,u na nn nc]),(U,27,[u T 0 0,u T 0 0,u T 0 0,u T 0 0,u T 0 0,vi 0])]:=G;apply G.jC;refine G.cm (WG G.wf) ?_;rintro v H9 rfl Kt G;refine tO (λw=>?_) λw=>?_
 .refine PU.b6 O<|G.kE λm G=>rr ?_;exact G.jC<|⟨⟨_,_,O,O,O,λh=>absurd O h⟩,G.ext⟩
 have g:vI ((hM m Y).bU<=·) (hM (hM m Y) H6) A q:=⟨g.n,g.s,g.p,g.o,g.e⟩;have g:=(g.ex an).ex Kt;have G:=G.perm (L':=[(U,27,[u T 0 0,u T 0 0,u T 0 0,u T 0 0,u T 0 0,vi 0])]++[(rm,27,q.cells A),(re,173,[vi cd,vi _]),(E,171,[u ra rn rc,u na nn nc])])<|aI (l₁:=[_,_,_]);refine G.uL 1 O (ax 6) ?_;have hO:=SH.own G;refine hO.st 0 O O (ax 6) O λCF hO=>?_
 have g:=g.stay hO.ext (λr hr=>by
  obtain rfl:r=U:=aT.1 hr;exact fH (ad _<|aV (i:=2) O).2)
 have G:SH [] H CF [(U,27,q.cells A),(rm,27,q.cells A),(re,173,[vi cd,vi _]),(E,171,[u ra rn rc,u na nn nc])]:=SH.frame G hO;refine rr ?_;exact G.uL 0 O (ax 6)<|⟨⟨_,_,O,O,O,λ_=>⟨A,q,rfl,g.wk λr hr=>aQ ac hr,al,N,by have:=hY.2.1;omega,am.2⟩⟩,G.ext⟩
end
section
section laid
variable{S:C Nat}{es c:Nat}{a:aC Addr}{xs:C D}{K:D->R->Prop}
def _root_.Go.Ae.SH.apG(G:SH S H0 H L)(g:0<es)(M:Fl H a n es xs)(l:n<=16777216)(k:∀v' H1 iN,GB ty es v' xs iN->SH S H0 H1 (iN++L)->Ext H H1->K v' H1):ME (Bo ty es (u T 0 0) (u a n c) H) K:=by
 rw[Cv (.inl O) (uf M g) l];split
 .next e=>
  subst e;obtain rfl:xs=[]:=eU.1 (by have:=M.1;omega);exact k _ H [] (GB.nil _ _) G<|Ext.refl _
 .next e=>exact k _ _ [(H.bU,ty,xs)] (.inr ⟨H.bU,n,[],O,M.1,gD⟩) (G.grow ty xs)<|Ext.new _ _
def _root_.Go.Ae.SH.aow(G:SH S H0 H L)(l:0<es)(M:Fl H a n es xs)(m:n<=16777216)(k:∀v' H1 iN,GB ty es v' xs iN->SH S H0 (hM H H1) (iN++L)->Ext (hN H) H1->K v' H1):ME (Bo ty es (u T 0 0) (u a n c)<|hN H) K:=by
 have e:Fl (hN H) a n es xs:=M;rw[Cv (.inl O) (uf e l) m];split
 .next g=>
  subst g;obtain rfl:xs=[]:=eU.1 (by have:=M.1;omega);refine k _ (hN H) [] (GB.nil _ _) ?_<|Ext.refl _;rw[iT G.wf];exact G
 .next g=>exact k _ _ [(H.bU,ty,xs)] (.inr ⟨H.bU,n,[],O,M.1,gD⟩) (G.zC ty xs)<|Ext.new _ _
end laid
variable{ay:Nat->Prop}{S:C Nat}
def Own(A:At)(f:C D)(hx:C eB):Prop:=J f=6/\all' fZ f=F/\∀r,Bd r A<|(r,27,f)::hx
def Own.of{A:At}{l p o m ev:D}{evs:C D}{gn g e go ge az:C eB}(I:GB 9 1 l (A.nm.map aJ) gn)(W:GB 3 1 p (gq A.st) g)(w:GB 3 1 o (gq A.sp) e)(x:GB 3 1 m (gq A.ow) go)(y:GB 119 1 ev evs ge)(V:IX 121 3 (A.eg.map Bt) evs az):Own A [l,p,o,m,ev,B A.ty] (gn++(g++(e++(go++(ge++az))))):=by
 refine⟨O,?_,λr=>⟨l,p,o,m,ev,evs,gn,g,e,go,ge,az,rfl,I,W,w,x,y,V⟩⟩;have M:=I.sl;have N:=W.sl;have P:=w.sl;have T:=x.sl;have U:=y.sl;obtain⟨_,_,_,rfl⟩:=M;obtain⟨_,_,_,rfl⟩:=N;obtain⟨_,_,_,rfl⟩:=P;obtain⟨_,_,_,rfl⟩:=T;obtain⟨_,_,_,rfl⟩:=U;rfl
def agH(hl:J A.eg=A.ns)(hi:i<A.ns):(A.eg.take<|i+1).map Bt=(A.eg.take i).map Bt++[Bt (A.rg i)]:=by
 have h:i<J A.eg:=N;unfold At.rg;rw[dY,av h,dM];rfl
def aip(a b c d e cs:C eB):(a++(b++(c++(d++(e++cs))))).Perm (cs++(e++(d++(c++(a++b))))):=by
 have I:=aI (l₁:=a++(b++(c++(d++e)))) (l₂:=cs);have W:=aI (l₁:=a++(b++(c++d))) (l₂:=e);have g:=aI (l₁:=a++(b++c)) (l₂:=d);have l:=aI (l₁:=a++b) (l₂:=c);simp only[cz]at I W g l;exact I.trans<|gZ cs<|W.trans<|gZ e<|g.trans<|gZ d l
def P6(hw:Wf H)(h:vI ay H A q)(ho:A.Ok):bQ Pg X 54 [q.v A] H λv Q=>∃f M',v=dP ⟨f⟩/\Own A f M'/\SH [] H Q M':=by
 have G:=h_ hw;have ad:=ho.big;have JF:=ho.few;refine lq [0,1,2,3,5,34,35,36] ?_;refine G.box O λH1 E G=>?_;have G:SH [] H H1 [(E,27,[u q.na A.nr q.nc,u q.sa A.nr q.sc,u q.pa A.nr q.pc,u q.oa A.ns q.oc,u q.ea A.ns q.ec,B A.ty])]:=G;refine G.jP λH2 rz G=>?_;refine fJ ?_;refine G.jP λH3 rt G=>?_;refine G.lJ ?_;refine G.kE λP G=>?_;refine fJ ?_;refine G.apG N (h.ex G.ext).n.1 N λnv H4 g V G _=>?_;have G:=G.perm<|jw g [_,_,_] [];simp only[bF,bV,bZ]at G;have I:=V.sl;obtain⟨na,nn,nc,rfl⟩:=I;refine G.kE λP G=>?_;refine fJ ?_;refine G.apG N (h.ex G.ext).s.1 N λsv H5 l ac G _=>?_;have G:=G.perm<|jw l [_,_,_] g;simp only[bF,bV,bZ]at G;have I:=ac.sl;obtain⟨sa,sn,sc,rfl⟩:=I;refine G.kE λP G=>?_;refine fJ ?_;refine G.apG N (h.ex G.ext).p.1 N λpv H6 y Un G _=>?_;have G:=G.perm<|jw y [_,_,_]<|l++g;simp only[bF,bV,bZ]at G;have I:=Un.sl;obtain⟨pa,pn,pc,rfl⟩:=I;refine G.kE λP G=>?_;refine fJ ?_;refine G.apG N (h.ex G.ext).o.1 N λov H7 go W G _=>?_;have G:=G.perm<|jw go [_,_,_]<|y++(l++g);simp only[bF,bV,bZ]at G;have I:=W.sl;obtain⟨oa,on,oc,rfl⟩:=I;refine G.kE λP G=>?_;refine fJ ?_;refine lp2 5 36 (h1:=λm x5 KI Q=>∃i ev evs ge az,KI=B i/\i+m=A.ns/\GB 119 1 ev evs ge/\IX 121 3 ((A.eg.take i).map Bt) evs az/\SH [] H Q ((rt,27,[u na nn nc,u sa sn sc,u pa pn pc,u oa on oc,ev,B A.ty])::(rz,27,[u T 0 0,u T 0 0,u T 0 0,u T 0 0,u T 0 0,vi 0])::(E,27,[u q.na A.nr q.nc,u q.sa A.nr q.sc,u q.pa A.nr q.pc,u q.oa A.ns q.oc,u q.ea A.ns q.ec,B A.ty])::(ge++(az++(go++(y++(l++g))))))) ?_ A.ns ⟨0,_,[],[],[],rfl,N,GB.nil _ _,rfl,G⟩;clear G;rintro m x5 KI oW H8 ⟨i,ev,evs,ge,az,rfl,ag,M,hR,G⟩;have hE:J evs=min i A.ns:=by rw[<-hR.len,aK,dX,ho.Be]
 refine lX (λhc=>?_) λhc=>?_
 .obtain rfl:i=A.ns:=N;refine tl ?_;rw[dV (by rw[ho.Be];omega)]at hR;have ab:=Own.of V ac Un W M hR;have I:=M.sl;obtain⟨ea,en,ec,rfl⟩:=I;refine G.jC<|G.kE λP G=>rr ?_;refine fJ ?_;exact⟨_,_,O,ab,(fU (A:=[_,_,_]) G).perm<|aip ge az go y l g⟩
 have hi:i<A.ns:=N;refine h.ldE G.ext hi λp a c hf=>?_;refine fJ ?_;refine G.aow N (hf.ex G.ext).1 (by have:=ho.len i;omega) λv2 H9 U Y G Kt=>?_;have I:=Y.sl;obtain⟨ra,rn,rc,rfl⟩:=I;refine G.Tq O O O N λCF rx G uX=>?_
 have G:=G.perm (L':=(rx,119,bY<|u ra rn rc)::(ge++([(rt,27,[u na nn nc,u sa sn sc,u pa pn pc,u oa on oc,ev,B A.ty]),(rz,27,[u T 0 0,u T 0 0,u T 0 0,u T 0 0,u T 0 0,vi 0]),(E,27,[u q.na A.nr q.nc,u q.sa A.nr q.sc,u q.pa A.nr q.pc,u q.oa A.ns q.oc,u q.ea A.ns q.ec,B A.ty])]++(U++(az++(go++(y++(l++g)))))))) (by
  refine eX _ ?_;have p1:=jw (U++[(rt,27,[u na nn nc,u sa sn sc,u pa pn pc,u oa on oc,ev,B A.ty]),(rz,27,[u T 0 0,u T 0 0,u T 0 0,u T 0 0,u T 0 0,vi 0]),(E,27,[u q.na A.nr q.nc,u q.sa A.nr q.sc,u q.pa A.nr q.pc,u q.oa A.ns q.oc,u q.ea A.ns q.ec,B A.ty])]) ge<|az++(go++(y++(l++g)));have p2:=jw U [(rt,27,[u na nn nc,u sa sn sc,u pa pn pc,u oa on oc,ev,B A.ty]),(rz,27,[u T 0 0,u T 0 0,u T 0 0,u T 0 0,u T 0 0,vi 0]),(E,27,[u q.na A.nr q.nc,u q.sa A.nr q.sc,u q.pa A.nr q.pc,u q.oa A.ns q.oc,u q.ea A.ns q.ec,B A.ty])]<|az++(go++(y++(l++g)));simp only[cz]at p1;exact p1.trans<|gZ ge p2)
 refine M.Jp G N O O N λv' Ry x w G _ _ xF=>?_;have I:=w.sl;obtain⟨ea,en,ec,rfl⟩:=I;have G:=G.perm<|jw x [_,_,_] _;simp only[bF,bV,bZ]at G;refine G.n_ λUq G=>?_;refine splitK (λK hK=>?_) ?_
 .simp only[uX,fu,gJ Kt,gT];rcases xF with e|e<;>rw[e]<;>apply Gc (a:=rt) yB fT fT hK
 refine eG ?_;refine⟨A.ns-(i+1),N,_,_,_,_,O,i+1,_,_,x,az++U,pJ,N,w,?_,G.perm ?_⟩
 .rw[agH ho.Be hi];exact hR.snoc Y
 .refine(gZ [_,_,_]<|gZ x ?_);rw[cz];exact jw U az _
end
section
variable{ay:Nat->Prop}{S:C Nat}
def _root_.Go.Proofs.Lv.Bs.n'(h:Bs b H n v mk):Bs b (hN H) n v mk:=h
def _root_.Go.Ae.GL{c:Cl}{l:C Cl}(h:c.k≠2/\c.k≠3):noTwo (c::l)=noTwo l:=by
 unfold noTwo;rw[all_eq,all_eq,yI];have W:aB c.k 2=aA:=by rw[<-dn];intro e;exact h.1<|bA e
 have g:aB c.k 3=aA:=by rw[<-dn];intro e;exact h.2<|bA e
 rw[W,g];rfl
def _root_.Go.Ae.Bb(n:Nat)(p:D)(H:R)(l:C Cl):noTwo (clL n p H (hN H)::l)=noTwo l:=by
 refine GL ?_
 have:clL n p H (hN H)=(aN (sJ p) λa=>Z<|Cl.mk 4 a.block a.off n hh0 hh0).getD (cl 1):=by
  show cr (aD H.bU H.bU) _ _=_;rw[aG (ax _)];rfl
 rw[this];cases sJ p with
 |none=>exact⟨by show(1:Nat)≠2;decide,by show(1:Nat)≠3;decide⟩
 |some a=>exact⟨by show(4:Nat)≠2;decide,by show(4:Nat)≠3;decide⟩
def _root_.Go.Ae.Dx(l:C Cl):noTwo (cl 0::l)=noTwo l:=GL ⟨jq,jq⟩
def _root_.Go.Ae.agI(l:C Cl):noTwo (cl 1::l)=noTwo l:=GL ⟨jq,jq⟩
def _root_.Go.Ae.zg:noTwo []=F:=rfl
def WH{rm:Nat}(o:H.cell rm 0=Z v)(l:rm<H.bU)(w:H.cell E 1=Z (u q.sa A.nr q.sc))(m:E<H.bU)(V:vI ay H A q)(hl:Bs b H A.ns v mk)(ho:A.Ok)(g:∀s,on mk s<->A.Mk F s):
 Wnt A A.leads H (.func (.func 78) ⟨[]⟩ ⟨[pr rm,pr E]⟩):=by
 intro Q s e M hw Y;have hl:=hl.ex M;have V:=V.ex M;have hs:=ho.lt Y;have⟨he1,_,he3⟩:=ho.e s hs e Y;have o:Q.cell rm 0=Z v:=(nU (M.obj rm l gD) 0).trans o;have w:Q.cell E 1=Z (u q.sa A.nr q.sc):=(nU (M.obj E m gD) 1).trans w;have l:=aO l M.bU;have m:=aO m M.bU;show bQ Pg X 78 [_,pr rm,pr E] Q _;have G:=h_ hw;refine lq [0,1,2,3,4] ?_;refine G.box O λH1 rb G=>?_;have G:SH [] Q H1 [(rb,121,[B e.1,B e.2.1,B e.2.2])]:=G;have I:=(hl.ex G.ext).n';have W:=(V.ex G.ext).n';obtain⟨ea,ec,rfl,_⟩:=id hl;refine G.Jq o l ?_;refine fJ ?_;refine I.at he1 λp t U=>?_
 try simp only[iT G.wf]
 refine iI (λT=>?_) λT=>?_
 .refine Ow (λhc=>?_) λhc=>?_
  .refine splitK (λK x=>?_) ?_
   .exact ji (by simp only[Bb,Dx,zg]) x
   refine rr ?_;exact⟨⟨F,O,λ_=>⟨(g _).1<|U.1 T,λh=>absurd N hc⟩,λ_=>rfl⟩,G.ext⟩
  have y:=ho.call Y N;refine G.Jq o l ?_;refine G.lJ ?_;refine G.Jq w m ?_;refine fJ ?_;refine W.ldS ho y λp=>?_
  try simp only[iT G.wf]
  refine I.at (ho.s _ y).1 λp t2 P=>?_
  try simp only[iT G.wf]
  refine splitK (λK x=>?_) ?_
  .exact ji (by simp only[Bb,Dx,zg]) x
  refine rr ?_;exact⟨⟨t2,O,λh=>⟨(g _).1<|U.1 T,λ_=>(g _).1<|P.1 h⟩,λh=>P.2<|(g _).2<|h.2 N⟩,G.ext⟩
 .refine splitK (λK x=>?_) ?_
  .exact ji (by simp only[Bb,Dx,zg]) x
  refine rr ?_;refine⟨⟨aA,O,λh=>(by cases h),λh=>?_⟩,G.ext⟩;rw[T]at U;exact absurd (U.2<|(g _).2 h.1) gD
end
section
variable{ay:Nat->Prop}{S:C Nat}
theorem adY{l:Nat}{e:Ed}(hB:Bd rt au hx)(G:SH S H0 H<|hx++((l,121,[B e.1,B e.2.1,B e.2.2])::L))(hs:s<au.ns)(hl:J au.eg=au.ns)(ht:J (au.rg s)<=1000000){x2 x3 x4 x5 ag al am Cb an ao:D}{K:Out->Prop}(a0:Co oW 51=aR F)(kk:∀oW Q M',Bd rt (au.pu s e) M'->SH S H0 Q (M'++((l,121,[B e.1,B e.2.1,B e.2.2])::L))->K (.norm<|EI x0 x1 x2 x3 x4 x5 (pr rt) (B s) x8 (pr l) ag al am Cb an ao oW Q)):
 iG Pg X (sub Oy [1,1,1,1,1,1,0,1,0,0,1,1,0,0,1,1,1,0,0,1,1,0,0,1,1]) (EI x0 x1 x2 x3 x4 x5 (pr rt) (B s) x8 (pr l) ag al am Cb an ao oW H) K:=by
 obtain⟨nv,sv,pv,ov,ev,evs,w,M,y,go,ge,az,rfl,aq,aE,Un,ar,ap,hR⟩:=hB;have ac:J evs=au.ns:=by rw[<-hR.len,aK,hl]
 rcases ap with⟨_,h0,_⟩|⟨g,n,p,rfl,hn,rfl⟩
 .rw[h0]at ac;simp at ac;omega
 obtain rfl:n=au.ns:=N;obtain⟨m,gb,vn,rfl,ad,ab⟩:=hR.at s N
 have hE:(au.eg.map Bt)[s]?.getD []=Bt (au.rg s):=by
  unfold At.rg;rw[bK,av (show s<J au.eg by omega)];rfl
 rw[hE]at ad;have a1:(evs++p)[s]?=Z evs[s]:=by rw[bX N];exact av N
 have G:SH S H0 H ((l,121,[B e.1,B e.2.1,B e.2.2])::(rt,27,[nv,sv,pv,ov,u (Z ⟨g,0,T⟩) au.ns<|gQ 1,B au.ty])::(g,119,evs++p)::(gb++((w++(M++(y++go)))++(m++(vn++L))))):=G.perm (by
  have p0:=jw ((rt,27,[nv,sv,pv,ov,u (Z ⟨g,0,T⟩) au.ns<|gQ 1,B au.ty])::(w++(M++(y++(go++([(g,119,evs++p)]++(m++(gb++vn)))))))) [(l,121,[B e.1,B e.2.1,B e.2.2])] L;have p1:=jw (w++(M++(y++go))) [(g,119,evs++p)]<|m++(gb++(vn++L));have p2:=jw ((w++(M++(y++go)))++m) gb<|vn++L;simp only[cz,bV,bZ]at p0 p1 p2|-;exact p0.trans<|((p1.trans<|p2.cons _).cons _).cons _)
 refine tl ?_;rw[a0];refine iI (λ_=>?_) (λhb=>by cases hb);refine fJ ?_;refine G.R8 hs a1<|fJ ?_;refine G.Tq O O O N λH2 rx G uX=>?_;have U:=G;have G:=(G.to (cs':=[B e.1,B e.2.1,B e.2.2]) O).perm (L':=(rx,121,[B e.1,B e.2.1,B e.2.2])::(gb++([(l,121,[B e.1,B e.2.1,B e.2.2]),(rt,27,[nv,sv,pv,ov,u (Z ⟨g,0,T⟩) au.ns<|gQ 1,B au.ty]),(g,119,evs++p)]++((w++(M++(y++go)))++(m++(vn++L))))))<|(jw [_,_,_] gb _).cons _;refine ad.Jp G N O O (by rw[Lj];omega) λv' H3 Y P G _ _ xF=>?_;have G:=G.perm<|jw Y [_,_,_] _;simp only[bV,bZ]at G;have V:=G;obtain⟨va,vl,vc,rfl⟩:=P.sl;refine G.OM hs (by rw[aS];omega) (kk:=λH4 G=>?_);have n1:l≠rt:=G.nq 0 1 O O N;have n2:l≠g:=G.nq 0 2 O O N;have n3:rt≠g:=G.nq 1 2 O O N;refine splitK (λK hK=>?_) ?_
 .have r1:∀{o n:Nat}{a b:R},o+n<=3->oQ ⟨2,0,0,0,hM H H2,H3⟩ ⟨4,l,o,n,a,b⟩=F:=λh=>sF (U.get 1 O) ((V.get 0 O).iE O) h (ID ⟨_,_,_,rfl⟩)
  have r2:∀{a b:R},oQ ⟨2,0,0,0,hM H H2,H3⟩ ⟨4,rt,4,1,a,b⟩=F:=λ{a b}=>sF (U.get 2 O) ((V.get 1 O).iE O) (by show 4+1<=6;omega) (by
   intro v W;have W:v∈[u (Z ⟨g,0,T⟩) au.ns (gQ 1)]:=W;rw[aT]at W;subst W;exact qQ _ _ _ λx h=>by cases h;rfl)
  have r3:∀{a b:R},oQ ⟨2,0,0,0,hM H H2,H3⟩ ⟨4,g,s,1,a,b⟩=F:=λ{a b}=>sF (U.get 3 O) ((V.get 2 O).iE O) (by rw[aS];omega) (by
   intro v W
   have:v=evs[s]:=by
    have I:((evs++p).drop s).take 1=[evs[s]]:=by
     rw[eO (by rw[aS];omega),jU,kT,jB N]
    rw[I,aT]at W;exact W
   subst this;exact Ba hR _<|bH _)
  simp only[uX,fu,gT];rcases xF with e|e<;>rw[e]<;>apply QY (A:=hM H H2) (vn:=H3) (a:=l) (b:=rt) (c:=g) n1 n2 n3 (by rfl) fT fT hK<;>repeat' apply iZ
  all_goals first|exact trivial|(intro h;cases h;done)|exactλ_=>⟨rfl,rfl⟩|exactλ_=>r1 N|exactλ_=>r2|exactλ_=>r3
 refine kk _ _ ((rt,27,[nv,sv,pv,ov,u (Z ⟨g,0,T⟩) au.ns<|gQ 1,B au.ty])::(w++(M++(y++(go++([(g,119,evs.set s (u va vl vc)++p)]++(m++(Y++vn)))))))) ⟨nv,sv,pv,ov,_,evs.set s<|u va vl vc,w,M,y,go,_,m++(Y++vn),O,aq,aE,Un,ar,.inr ⟨g,au.ns,p,O,by rw[bR];omega,rfl⟩,?_⟩ ?_
 .have:=ab (u va vl vc) (Bt<|au.rg s++[e]) Y (by rw[Rl];exact P);have e2:(au.pu s e).eg.map Bt=(au.eg.map Bt).set s (Bt<|au.rg s++[e]):=gz;rw[e2];exact this
 .rw[nR _ _ N]at G;refine G.perm<|uS ?_;have p0:=jw ((rt,27,[nv,sv,pv,ov,u (Z ⟨g,0,T⟩) au.ns<|gQ 1,B au.ty])::(w++(M++(y++(go++([(g,119,evs.set s (u va vl vc)++p)]++(m++(Y++vn)))))))) [(l,121,[B e.1,B e.2.1,B e.2.2])] L;have p1:=jw (w++(M++(y++go))) [(g,119,evs.set s (u va vl vc)++p)]<|m++(Y++(vn++L));have p2:=jw ((w++(M++(y++go)))++m) Y<|vn++L;simp only[cz,bV,bZ]at p0 p1 p2|-;exact p0.trans<|((p1.trans<|p2.cons _).cons _).cons _
def At.cl(au:At)(s:Nat):At:={au with eg:=au.eg.set s []}
def adZ(hB:Bd rt au hx)(G:SH S H0 H<|hx++L)(hs:s<au.ns)(hl:J au.eg=au.ns){K:D->D->D->R->Prop}(kk:∀v p ai Q M',Bd rt (au.cl s) M'->SH S H0 Q (M'++L)->K v p ai Q):
 ME (Go.Ae.wR T (bG<|Z ⟨rt,4,T⟩) H) λv H1=>PU (B_ 1 v<|B s) λp=>ME (Go.Ae.Es 1 p (u T 0 0) H1) λai H2=>K v p ai H2:=by
 obtain⟨P,W,V,U,ev,evs,l,o,m,go,ge,az,rfl,Y,ac,Un,ab,X,hR⟩:=hB;have y:J evs=au.ns:=by rw[<-hR.len,aK,hl]
 rcases X with⟨_,h0,_⟩|⟨e,n,w,rfl,hn,rfl⟩
 .rw[h0]at y;simp at y;omega
 obtain rfl:n=au.ns:=N;obtain⟨g,x,vn,rfl,ad,I⟩:=hR.at s N
 have G:SH S H0 H ((rt,27,[P,W,V,U,u (Z ⟨e,0,T⟩) au.ns<|gQ 1,B au.ty])::(e,119,evs++w)::(x++((l++(o++(m++go)))++(g++(vn++L))))):=G.perm (by
  have M:=jw (l++(o++(m++go))) [(e,119,evs++w)]<|g++(x++(vn++L));have p2:=jw ((l++(o++(m++go)))++g) x<|vn++L;simp only[cz,bV,bZ]at M p2|-;exact(M.trans<|p2.cons _).cons _)
 apply G.qF;refine G.Ya hs (by rw[aS];omega) (kk:=λp H4 G=>?_);have G:SH S H0 H4 ((rt,27,[P,W,V,U,u (Z ⟨e,0,T⟩) au.ns<|gQ 1,B au.ty])::(e,119,(evs++w).set s<|u T 0 0)::(x++((l++(o++(m++go)))++(g++(vn++L))))):=G;refine kk _ p undef H4 ((rt,27,[P,W,V,U,u (Z ⟨e,0,T⟩) au.ns<|gQ 1,B au.ty])::(l++(o++(m++(go++([(e,119,evs.set s (u T 0 0)++w)]++(g++([]++vn)))))))) ⟨P,W,V,U,_,evs.set s<|u T 0 0,l,o,m,go,_,g++([]++vn),O,Y,ac,Un,ab,.inr ⟨e,au.ns,w,O,by rw[bR];omega,rfl⟩,?_⟩ ?_
 .have:=I (u T 0 0) (Bt []) [] (GB.nil _ _);have e2:(au.cl s).eg.map Bt=(au.eg.map Bt).set s (Bt []):=gz;rw[e2];exact this
 .rw[nR _ _ N]at G;have G:=fU (A:=x)<|G.perm<|jw [_,_] x _;refine G.perm<|uS ?_;have M:=jw (l++(o++(m++go))) [(e,119,evs.set s (u T 0 0)++w)]<|g++(vn++L);simp only[cz,bV,bZ]at M|-;exact M.cons _
end
section
variable{ay:Nat->Prop}{S:C Nat}
namespace At
variable{i j:Nat}
variable{k:Nat}
structure R9(A au:At)(i:Nat):Prop where
 nm:au.nm=A.nm
 st:au.st=A.st
 sp:au.sp=A.sp
 ow:au.ow=A.ow
 ty:au.ty=A.ty
 Be:J au.eg=A.ns
 e:∀s,s<i->au.rg s=A.Nu s
open Classical in
def IE(A:At)(i j:Nat):C Ed:=if A.met i then((A.rg i).take j).filter (λe=>decide<|A.leads e)else[]
def ajO(i:Nat):A.IE i 0=[]:=by unfold IE;rw[kT,List.filter_nil];split<;>rfl
def ad1(i:Nat):A.IE i (J<|A.rg i)=A.Nu i:=by unfold IE Nu;rw[kI]
def ad2(i j:Nat):J (A.IE i j)<=J (A.rg i):=by
 classical
 unfold IE;split
 .exact aQ (m_ _ _) (by rw[dX];omega)
 .exact bD _
def agJ(g:j<J (A.rg i))(e:A.met i)(hl:A.leads (A.rg i)[j]):A.IE i (j+1)=A.IE i j++[(A.rg i)[j]]:=by
 unfold IE;rw[if_pos e,if_pos e,dY,av g,uN];congr 1;show List.filter _ [_]=_;rw[pY,if_pos<|nZ hl];rfl
def Ur(g:j<J (A.rg i))(h:¬(A.met i/\A.leads (A.rg i)[j])):A.IE i (j+1)=A.IE i j:=by
 unfold IE
 by_cases hm:A.met i
 .rw[if_pos hm,if_pos hm,dY,av g,uN]
  have:List.filter (λe=>@decide (A.leads e)<|Classical.propDecidable _) (Z (A.rg i)[j]).toList=[]:=by
   show List.filter _ [_]=_;rw[pY,if_neg<|by simpa usingλl=>h ⟨hm,l⟩];rfl
  rw[this,bF]
 .rw[if_neg hm,if_neg hm]
def R9.ns(h:R9 A au k):au.ns=A.ns:=fq J h.ow
def R9.init(ho:A.Ok):R9 A A 0:=⟨O,O,O,O,O,ho.Be,λs h=>absurd h<|iP s⟩
def amy(hl:J au.eg=au.ns)(hi:i<au.ns)(t:Nat):(au.cl i).rg t=if t=i then[]else au.rg t:=by
 show(au.eg.set i [])[t]?.getD []=_;rw[dU]
 by_cases h:i=t
 .subst h;rw[if_pos O,if_pos N,if_pos O];rfl
 .rw[if_neg h,if_neg λe=>h e.symm];rfl
theorem R9.cl(h:R9 A au i)(hi:i<A.ns):R9 A (au.cl i) i/\(au.cl i).rg i=A.IE i 0:=by
 have g:J au.eg=au.ns:=h.Be.trans h.ns.symm;refine⟨⟨h.nm,h.st,h.sp,h.ow,h.ty,(bR ..).trans h.Be,λs hs=>?_⟩,?_⟩
 .rw[amy g (by rw[h.ns];exact hi),if_neg N];exact h.e s hs
 .rw[amy g (by rw[h.ns];exact hi),if_pos O,ajO]
theorem R9.pu(h:R9 A au i)(hi:i<A.ns)(e:Ed):R9 A (au.pu i e) i/\(au.pu i e).rg i=au.rg i++[e]:=by
 have g:J au.eg=au.ns:=h.Be.trans h.ns.symm;refine⟨⟨h.nm,h.st,h.sp,h.ow,h.ty,(bR ..).trans h.Be,λs hs=>?_⟩,?_⟩
 .rw[ajJ g (by rw[h.ns];exact hi),if_neg N];exact h.e s hs
 .rw[ajJ g (by rw[h.ns];exact hi),if_pos O]
def R9.succ(h:R9 A au i)(g:au.rg i=A.Nu i):R9 A au (i+1):=
 ⟨h.nm,h.st,h.sp,h.ow,h.ty,h.Be,λs hs=>by
   rcases dH s i with I|I
   .exact h.e s I
   .obtain rfl:s=i:=N;exact g⟩
theorem R9.done(h:R9 A au A.ns):au=A.trim:=by
 have⟨I,W,h3,h4,h5,h6,h7⟩:=h
 have:au.eg=(dZ A.ns).map A.Nu:=by
  refine ja (by rw[aK,l7];exact h6) λs hs e=>?_;rw[ik,kF,<-h7 s N];unfold rg;rw[av hs];rfl
 cases au;simp only at I W h3 h4 h5 this;subst I W h3 h4 h5 this;rfl
end At
theorem P7(hw:Wf H)(h:vI ay H A q)(ho:A.Ok):bQ Pg X 52 [q.v A] H (Qe (λv Q=>∃q':AV,v=q'.v A.trim/\vI (H.bU<=·) Q A.trim q') H):=by
 have G:=h_ hw;have aq:=ho.big;refine lq [0,1,2,3,4,5,6,7,8,10,26,27,28,37,38,39] ?_;refine G.box O λH1 E G=>?_;rw[lN]at G;refine G.jP λH2 rz G=>G.uL 1 O (ax 6) ?_;refine G.cm (vJ G.wf (h.ex G.ext) ho) ?_;rintro v H3 rfl M G;refine bM ?_;refine iI (λW=>by cases W) λ_=>?_;refine G.uL 1 O (ax 6) ?_;refine G.cm (GG G.wf (h.ex G.ext) ho F) ?_;rintro v H4 ⟨mk,hm,a2⟩ M G;obtain⟨ma,mc,rfl,_⟩:=id hm;refine G.ns O O O λH5 rm G a4=>?_;have G:SH [] H H5 [(rm,34,[u ma A.ns mc]),(rz,27,[u T 0 0,u T 0 0,u T 0 0,u T 0 0,u T 0 0,vi 0]),(E,27,q.cells A)]:=G;refine G.uL 2 O (ax 6) ?_;refine G.ld 2 (o:=1) O O ?_;have y:=WH (A:=A) (q:=q) (rm:=rm) (E:=E) ((G.get 0 O).cell O) (G.lo _<|aV (i:=0) O).2 ((G.get 2 O).cell (o:=1) O) (G.lo _<|aV (i:=2) O).2 (h.ex G.ext) (hm.ex a4) ho a2;have ad:J A.st=A.nr:=ho.YF;have JF:=ho.few;rw[show u q.sa A.nr q.sc=u q.sa (J A.st) q.sc by rw[ad]];refine dD (PZ (fa:=q.sa) (fc:=q.sc) (fl:=A.st) (w:=A.leads) G.wf (h.ex G.ext) ho (by rw[ad];exact(h.ex G.ext).s) (λs hs=>?_) N y) ?_
 .obtain⟨r,hr,rfl⟩:=iO hs;have:=(ho.s r N).1;unfold At.S at this
  rwa [av hr]at this
 rintro v H6 ⟨⟨JG,al,ar⟩,am⟩;have G:=G.call am
 have U:∀s,on JG s<->A.met s:=λs=>by
  rw[ar]
  have:(·∈A.st)=A.isS:=by
   funext s;apply propext;constructor
   .intro hs;obtain⟨r,hr,rfl⟩:=iO hs;refine⟨r,N,?_⟩;unfold At.S;rw[av hr];rfl
   .rintro⟨r,hr,rfl⟩;unfold At.S;rw[av (show r<J A.st by omega)];exact bH _
  rw[this];rfl
 obtain⟨na,nc,rfl,_⟩:=id al;refine G.uL 2 O (ax 6) ?_;refine dD (P6 G.wf (h.ex G.ext) ho) ?_;rintro v H7 ⟨f,M',rfl,x,JC⟩;have xP:=G;refine JC.ns (v:=dP ⟨f⟩) x.1 O x.2.1 λH8 rt G BK=>?_;have g:=x.2.2 rt;have G:SH [] H6 H8 (((rt,27,f)::M')++[]):=G.cast (bF _).symm;generalize(rt,27,f)::M'=hx at g G;have a3:∀{Q}(_:Ext H6 Q),Bk Q E 27 (q.cells A):=λ{Q} M=>(xP.bk (E,27,q.cells A) gD).ex (xP.lo (E,27,q.cells A) gD).2 M;refine iY ((a3 G.ext).cell (o:=4) O) ?_;refine bM ?_;refine lp7 7 8 10 28 37 38 39 (h1:=λm x7 x8 j_ an Cb a5 P Q=>∃i au hx,an=B i/\i+m=A.ns/\At.R9 A au i/\Bd rt au hx/\SH [] H6 Q (hx++[])) ?_ A.ns ⟨0,A,hx,rfl,N,At.R9.init ho,g,G⟩;clear G g JC BK;clear hx;rintro m x7 x8 j_ an Cb a5 P oW H9 ⟨i,au,hx,rfl,ba,l,g,G⟩;refine lX (λhc=>?_) λhc=>?_
 .obtain rfl:i=A.ns:=N;obtain rfl:=l.done;have ok:=At.Li ho;refine tl ?_;rw[bF]at G;have T4:=SH.frame (hx:=[]) xP G;have⟨q0,hr0,_⟩:=g.atM T4 ok;refine ME.uL hr0 ?_;have G:=T4.perm (L':=(rz,27,[u T 0 0,u T 0 0,u T 0 0,u T 0 0,u T 0 0,vi 0])::(rm,34,[u ma A.ns mc])::(E,27,q.cells A)::hx)<|(aI (l₁:=hx) (l₂:=[(rm,34,[u ma A.ns mc]),(rz,27,[u T 0 0,u T 0 0,u T 0 0,u T 0 0,u T 0 0,vi 0]),(E,27,q.cells A)])).trans<|gX _ _ _;refine G.st 0 O O (ax 6) O λCF G=>?_;have G:SH [] H CF ((rz,27,q0.cells A.trim)::(rm,34,[u ma A.ns mc])::(E,27,q.cells A)::hx):=G;have ac:=G.perm (L':=hx++[(rz,27,q0.cells A.trim),(rm,34,[u ma A.ns mc]),(E,27,q.cells A)])<|aI (l₁:=[_,_,_]);have⟨q1,hr1,hat⟩:=g.atM ac ok
  have eq:q1.cells A.trim=q0.cells A.trim:=by
   obtain⟨f,hm,h6⟩:∃f,((rt,27,f):eB)∈hx/\J f=6:=by
    obtain⟨nv,sv,pv,ov,ev,evs,gn,gs,gp,go,ge,az,rfl,_⟩:=g;exact⟨_,aL ..,O⟩
   have a0:=(T4.bk _<|dK _ hm).read (o:=0) (n:=6) (by show 0+6<=J f;omega);have a1:=(ac.bk _<|dK _ hm).read (o:=0) (n:=6) (by show 0+6<=J f;omega);have b0:=a0.symm.trans hr0;have b1:=a1.symm.trans hr1;exact eF<|b1.symm.trans b0
  refine rr ?_;refine G.uL 0 O (ax 6) ?_;exact⟨⟨q1,by rw[<-eq];rfl,hat⟩,G.ext⟩
 have Y:i<A.ns:=N;have ab:=xP.ext;refine h.ldE (ab.trans G.ext) Y λp ea ec hf=>?_;refine bM ?_;refine adZ g G (by rw[l.ns];exact Y) (l.Be.trans l.ns.symm) λv p ai CF M1 I G=>?_;have⟨hT1,hj1⟩:=l.cl Y;have aE:=ho.len i;refine lp2 10 39 (h1:=λm j_ P Q=>∃j au hx,P=B j/\j+m=J (A.rg i)/\At.R9 A au i/\au.rg i=A.IE i j/\Bd rt au hx/\SH [] H6 Q (hx++[])) ?_ (J<|A.rg i) ⟨0,_,M1,rfl,N,hT1,hj1,I,G⟩;clear G g I l hT1 hj1;rintro m2 j_ P a9 Ry ⟨j,au,hx,rfl,bb,l,e,g,G⟩;refine lX (λhc=>?_) λhc=>?_
 .obtain rfl:j=J (A.rg i):=N;refine tl ?_;refine eG ?_;refine⟨A.ns-(i+1),N,_,_,_,_,_,_,_,_,_,O,i+1,au,hx,pJ,N,l.succ<|by rw[e,At.ad1],g,G⟩
 have hj:j<J (A.rg i):=N;refine KV (hf.ex<|ab.trans G.ext) hj λp=>G.ns O O O λUq re G a8=>?_;have G:SH [] H6 Uq (hx++[(re,121,[B (A.rg i)[j].1,B (A.rg i)[j].2.1,B (A.rg i)[j].2.2])]):=G.perm<|jw [_] hx [];have ap:J (au.rg i)<=1000000:=by rw[e];have:=At.ad2 (A:=A) i j;omega
 refine(al.ex G.ext).at Y λp t ht=>?_;refine sD (λW=>?_) λW=>?_
 .have V:=(U i).1 (ht.1 W);refine ME.uL ((G.bk (re,121,[B (A.rg i)[j].1,B (A.rg i)[j].2.1,B (A.rg i)[j].2.2]) gD).read (o:=0) (n:=3)<|ax 3)<|dD (y Uq i (A.rg i)[j] (am.trans G.ext) G.wf<|bH hj) ?_;rintro v a6 ⟨⟨b,rfl,ag⟩,ao⟩;have G:=G.call ao;cases b with
  |true=>
   have⟨hT1,hr1⟩:=l.pu Y (A.rg i)[j];refine adY (L:=[]) g G (by rw[l.ns];exact Y) (l.Be.trans l.ns.symm) ap O λoW a7 M1 I G=>?_;refine bM ?_;refine tl ?_;refine eG ?_;refine⟨J (A.rg i)-(j+1),N,_,_,_,_,O,j+1,_,M1,pJ,N,hT1,by rw[hr1,e,At.agJ hj V<|ag.1 O],I,(fU (A:=[_])<|G.perm<|jw _ [(re,121,_)] [])⟩
  |false=>
   refine tl ?_;refine tl ?_;refine eG ?_;refine⟨J (A.rg i)-(j+1),N,_,_,_,_,O,j+1,au,hx,pJ,N,l,by rw[e,At.Ur hj λh=>by cases ag.2 h.2],g,(fU (A:=[_])<|G.perm<|jw _ [(re,121,_)] [])⟩
 .have V:¬A.met i:=λh=>by
   have:=ht.2<|(U i).2 h;rw[W]at this;cases this
  subst W;refine tl ?_;refine tl ?_;refine eG ?_;refine⟨J (A.rg i)-(j+1),N,_,_,_,_,O,j+1,au,hx,pJ,N,l,by rw[e,At.Ur hj λh=>V h.1],g,(fU (A:=[_])<|G.perm<|jw _ [(re,121,_)] [])⟩
end
section
open Go.Ae Go.Ae.hx
def aen{P:aX}(e:0<b)(h:a<=9223372036854775807):mW P .rem t ox oy (B a) (B b)=Z (B<|a %b):=nV O (by
 show lH (Op.intDiv .rem bC a b)=_;unfold Op.intDiv;rw[if_neg N];show Z (bq bC<|(a:Int).tmod b)=_;have I:(a:Int).tmod b=((a %b:Nat):Int):=by rw[Int.tmod_eq_emod_of_nonneg N];rfl
 have W:a %b<=a:=Nat.mod_le _ _;rw[I])
def NR{P:aX}(b:Nat)(e:z=(b:Int))(g:0<b)(h:a<=9223372036854775807):mW P .quo t ox oy (B a) (bq bC z)=Z (B<|a/b):=by subst e;exact Ie N N N
def addN{P:aX}(a:Nat)(e:z=(a:Int))(h:a+b<=9223372036854775807):mW P .add t ox oy (bq bC z) (B b)=Z (B<|a+b):=by subst e;exact gB N N
def sw{P:aX}(b:Nat)(e:z=(b:Int))(g:0<b)(h:a<=9223372036854775807):mW P .rem t ox oy (B a) (bq bC z)=Z (B<|a %b):=by subst e;exact aen g h
def mulN{P:aX}(a:Nat)(e:z=(a:Int))(h:a*b<=9223372036854775807):mW P .mul t ox oy (bq bC z) (B b)=Z (B<|a*b):=by
 subst e;have g:(a:Int)*(b:Int)=((a*b:Nat):Int):=by push_cast;rfl
 rw[acg (by rw[g];omega) (by rw[g];omega),g]
def lu{P:aX}(b:Nat)(e:z=(b:Int))(h:a+b<=9223372036854775807):mW P .add t ox oy (B a) (bq bC z)=Z (B<|a+b):=by subst e;exact gB N N
end
end Go.Proofs.Lu
