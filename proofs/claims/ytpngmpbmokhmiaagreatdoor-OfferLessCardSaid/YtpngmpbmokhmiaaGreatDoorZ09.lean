/-
  Part 09 of the proof. No condition.
-/
import Derived.Test.YtpngmpbmokhmiaaGreatDoorZ08
set_option linter.unusedVariables false
set_option linter.unusedSimpArgs false
set_option maxRecDepth 100000
set_option maxHeartbeats 4000000
set_option linter.defProp false
open Option renaming some->Z,none->T
open Bool renaming true->f,false->aA
open Go renaming Value->C,TypeId->aI,Program->aX,Operand->cz
open Go.Value renaming int->a_,slice->J,bool->aO,string->aJ,pointer->bG,tuple->fJ,agg->dN
open Nat renaming beq->aB,ble->aD
open List renaming length->u,range->d_
open List.Perm renaming swap->iF,cons->fA
open And renaming intro->iZ
open Go.IntKind renaming i64->bC
noncomputable section
namespace Go.Proofs.Lu
open Go.Ae Go.Ae.hx Go.Proofs.Lv
variable{K:Nat->Prop}{A au:At}{L hx:D eF}{H Q H0:R}{t ty:aI}{z:Int}{a b i n nc nn r rc E rt s tn vc:Nat}{oW:D (Nat×C)}{q:AV}{ox oy:cz}{mk:D Bool}{d:WD}{na ra va:aC Addr}{F evs jw rcs vcs:D C}{v x0 x1 x8:C}
section
variable{cs:Nat->Prop}{S:D Nat}
def _root_.Go.Ae.Bk.ex(h:Bk H r ty F)(e:r<H.bV)(M:Ext H Q):Bk Q r ty F:=h.iB<|M.obj r e nofun
abbrev ad3(tn:Nat)(H:R)(v:C)(Q:R):Prop:=∃(x:C)(e:Int),v=fJ ⟨[x,vi e]⟩/\u (cr x)=6/\all' gI (cr x)=f/\(e=0->ad2 tn H x Q)
def aou(hw:Wf H){rz rv:Nat}{rn:Nat}{H1:R}(U:Gr b H ra rn rcs na nn jw)(hC:Dn (b<=·) H rn rcs nn jw/\1<=rn/\Iv rcs 0=aA)(hV:Vo cs H va tn vcs)(G:SH [] H H1 [(rz,27,[J T 0 0,J T 0 0,J T 0 0,J T 0 0,J T 0 0,vi 0]),(rv,180,[J va tn vc]),(E,171,[J ra rn rc,J na nn nc])]){x6 x7 x9 jh a5 FP KI:C}:
 iC Pg X (sub adp [1,1]) (aag x0 x1 (pr E) (pr rv) (pr rz) (vi 0) x6 x7 x8 x9 jh a5 FP KI oW H1) (jO Pg [.cell 4 27,.tmp 5]<|Q1 (ad3 tn H) H):=by
 have g2:=U.2.1;have g5:=U.2.2.2.2.1;have⟨hC1,hC2,hC3⟩:=hC;refine tm ?_;refine G.cm (Wy G.wf (U.ex G.ext) (λi hi=>(hC1.1 i hi).ex G.ext) ⟨hV.1.ex G.ext,hV.2⟩) ?_;rintro v H2 ⟨rl,bd,rfl,ab,w,x,ac,ad⟩ bc G;have⟨kd,zs,hNd⟩:=YL.of (cs:=(b<=·)) (H:=H) hC1.1;apply G.jl;refine G.cm (Wz G.wf (U.ex G.ext) (hNd.ex G.ext) x w ac ad) ?_;rintro v H3 ⟨rs,rr,g,bs,rfl,⟨bb,B⟩,⟨ba,a2⟩,am,a3,ao,aq,an⟩ I G;have aw:jC (λ_=>True) 3 H3 (Z ⟨rs,0,T⟩) nn 1 (gq g):=am.UT B (by rw[dY,aM];exact ao) trivial;have ar:jC (λ_=>True) 4 H3 (Z ⟨rr,0,T⟩) nn 1 (bools bs):=a3.UT a2 (by rw[dY,aM];exact aq) trivial;have x:=x.ex w I;refine fF ?_;refine Ov 5 9 11 36 (h1:=λm x5 x9 jh KI Q=>∃i,KI=W i/\i+m=rn/\x5=vi 0/\x9=W (min (GI rcs g i) 4001)/\Ext H3 Q/\SH [] H Q [(rz,27,[J T 0 0,J T 0 0,J T 0 0,J T 0 0,J T 0 0,vi 0]),(rv,180,[J va tn vc]),(E,171,[J ra rn rc,J na nn nc])]) ?_ rn ⟨0,rfl,N,rfl,rfl,Ext.refl _,G⟩;clear G;rintro m x5 x9 jh KI oW H4 ⟨i,rfl,a9,rfl,rfl,l,G⟩;refine mG (λhc=>?_) λhc=>?_
 .obtain rfl:i=rn:=N;refine tK (λh4=>?_) λh4=>?_
  .refine PU.b6 O<|G.j_ λHn G=>Lu.rr ?_;apply G.jl;exact⟨⟨_,_,O,O,O,λh=>absurd h jg⟩,G.ext⟩
  have ht:GI rcs g i<=4000:=N;refine fF ?_;have M:=I.trans l;refine dn (WN G.wf (U.ex G.ext) (hNd.ex G.ext) hC1.2 hC3 hC2 ⟨x.ex (aP w I.bV) l,aP w M.bV,ac⟩ ad ⟨am.ex B l,aP B l.bV,ao⟩ an ht) ?_;rintro v H5 ⟨⟨A,q,rfl,hA,a0,a4⟩,P⟩;have a8:=G.ext.bV;have aE:=G.lo;have G:=G.call P;have hO:=G.base;refine hO.st 0 O O (ax 6) O λH6 Y=>?_
  have hA:=hA.stay Y.ext (λr hr=>by
   obtain⟨e,he,rfl⟩:=bT.1 hr;exact fI (aE e he).2)
  have G:SH [] H H6 [(rz,27,q.cells A),(rv,180,[J va tn vc]),(E,171,[J ra i rc,J na nn nc])]:=G.over Y;refine Lu.rr ?_;exact G.jl<|⟨⟨_,_,O,O,O,λ_=>⟨A,q,rfl,hA.wk λr hr=>N,a0,a4⟩⟩,G.ext⟩
 have hi:i<rn:=N;have⟨r1,o1,zN,u1,f1,w1,c1,a1,e1,ab,Be,uR,hsz1,hel⟩:=U.ru hi rc;have al:=hC1.2 i hi;have V:GI rcs g (i+1)=GI rcs g i+(if Iv rcs i=f then 0 else 2+vn g (rootOf rcs i).toNat):=rfl;rw[Lj hel]at V;obtain⟨k,hk⟩:∃k:Nat,rootOf rcs i=k:=⟨(rootOf rcs i).toNat,N⟩;have y:k<nn:=N;rw[e1];refine bN ?_;refine G.BN Be ab<|G.og O O O λH5 ru G P=>?_;have G:SH [] H H5 [(ru,234,yj zN u1 f1 w1 c1 (rootOf rcs i) a1),(rz,27,[J T 0 0,J T 0 0,J T 0 0,J T 0 0,J T 0 0,vi 0]),(rv,180,[J va tn vc]),(E,171,[J ra rn rc,J na nn nc])]:=G;have o:=l.trans P;rw[hk]at G V;refine QN (λhb=>?_) λhb=>?_
 .rw[jj hb]at V;refine eD ?_;exact⟨rn-(i+1),N,_,_,_,_,_,_,O,i+1,pq,N,O,by rw[V];rfl,o,fV (A:=[_]) G⟩
 rw[jx (by rw[hb];simp)]at V;refine G.qE<|(ar.ex o).ix (k:=k) (v:=aO<|bs[k]?.getD aA) y (by rw[bL,av (show k<u bs by omega)];rfl) λp=>?_;refine sD (λap=>?_) λap=>?_
 .refine PU.b6 O<|G.j_ λHn G=>Lu.rr ?_;apply G.jl;exact⟨⟨_,_,O,O,O,λh=>absurd h jg⟩,G.ext⟩
 have a7:vn g k<=4001:=amo<|an k y;have a6:vn g ((k:Int)).toNat=vn g k:=rfl;refine eD ?_;refine G.qE<|(aw.ex o).ix (k:=k) (v:=W<|vn g k) y (by rw[bL,av (show k<u g by omega)];show _=Z (W<|g[k]?.getD 0);rw[av (show k<u g by omega)];rfl) λp=>?_;refine eD ?_;rw[min2];refine bN ?_;refine eD ?_;exact⟨rn-(i+1),N,_,_,_,_,_,_,O,i+1,pq,N,O,by rw[show min (((min (GI rcs g i) 4001:Nat):Int)+2+(vn g k:Int)) 4001=((min (GI rcs g<|i+1) 4001:Nat):Int) by omega],o,fV (A:=[_]) G⟩
end
section
variable{cs:Nat->Prop}{S:D Nat}
def Rf(W:Wf H){rn:Nat}(x:Gr b H ra rn rcs na nn jw)(o:na=T\/nc=gK 5)(M:Vo cs H va tn vcs):
 bM Pg X 94 [gV ra rn rc na nn nc,vV va tn vc] H (Q1 (ad3 tn H) H):=by
 have G:=gM W;refine lF [0,1,2,3,4,5,6,7,8,9,11,34,35,36] ?_;refine G.box O λH1 E G=>?_;refine G.box O λH2 rv G=>?_;refine G.jM λe rz G=>?_;refine fF ?_;have B:=x.ex G.ext;refine dn (Nt (oC e) (show Gr b (hN e) ra rn rcs na nn jw from B)) ?_;rintro v l ⟨⟨z,a,c,rfl,N⟩,g⟩;have y:=G.ext;have G:=G.oD g;rw[Gt];refine yl (λV=>?_) λV=>?_
 .refine splitK (λK I=>?_) ?_
  .exact iY (by simp only[eZ,fP g];rfl) I
  refine PU.b6 O<|G.j_ λY G=>rr ?_;apply G.jl;exact⟨⟨_,_,O,O,O,λh=>absurd h jg⟩,G.ext⟩
 have m:=N V;have m:Dn (b<=·) H rn rcs nn jw/\1<=rn/\Iv rcs 0=aA:=⟨Dn.back x y m.1.1,m.1.2.1,m.2⟩;refine fF ?_;refine dn (Uh (oC _) (show Gr b (hN<|hM e l) ra rn rcs na nn jw from(x.ex G.ext:Gr b (hM e l) ra rn rcs na nn jw)) o) ?_;rintro v U ⟨⟨ya,yn,yc,P,rfl,hY⟩,p⟩;have G:=G.oD p;refine fF ?_;refine dn (Wx (oC _) (cs:=((hN<|hM e l).bV<=·)) (F':=cs) (a:=ya) (n:=yn) (c:=yc) (F:=P) (a':=va) (n':=tn) (c':=vc) (cs':=vcs) ?_ ?_) ?_
 .exact hY
 .exact⟨(show jC cs 240 (hN<|hM (hM e l) U) va tn 4 vcs from(M.1.ex G.ext:jC cs 240 (hM (hM e l) U) va tn 4 vcs)),M.2⟩
 rintro v H6 ⟨⟨bb,rfl⟩,w⟩;have G:=G.oD w;refine bN ?_;refine splitK (λK I=>?_) ?_
 .exact iY (by simp only[eZ,fP g,fP p,fP w];rfl) I
 refine ig (λhb=>?_) λhb=>?_
 .refine PU.b6 O<|G.j_ λY G=>rr ?_;apply G.jl;exact⟨⟨_,_,O,O,O,λh=>absurd h jg⟩,G.ext⟩
 exact aou W x m M G
end
section
variable{cs:Nat->Prop}{S:D Nat}
def NC(e:Wf H):bM Pg X 35 [q.v A] H (Q1 (λv _=>v=W A.ns) H):=by
 have G:=gM e;refine lF [0,1,2] ?_;refine G.box O λg E G=>?_;refine fF ?_;refine rr ?_;exact⟨O,G.ext⟩
abbrev amx(H:R)(v:C)(Q:R):Prop:=∃(A:At)(q:AV),v=q.v A/\vF (H.bV<=·) Q A q/\A.Ok/\A.ns<=1000/\A.ty<=5000/\A.tot<=2*A.ns
theorem aaE(hw:Wf H)(hT:Dl H)(s:aZ):bM Pg X 68 [aJ s] H (Q1 (λv Q=>∃(x:C)(ok:Int),v=fJ ⟨[x,vi ok]⟩/\u (cr x)=6/\all' gI (cr x)=f/\(ok≠0->amx H x Q)) H):=by
 have G:=gM hw;refine lF [0,2,3,4,5,6,7] ?_;refine G.jM λW V G=>?_;refine tJ (λw=>?_) λw=>?_
 .refine PU.b6 O<|G.j_ λm G=>rr ?_;exact G.jl<|⟨⟨_,_,O,O,O,λh=>absurd O h⟩,G.ext⟩
 refine G.cm (OE G.wf (hT.ex G.ext) s) ?_;rintro v H2 ⟨ra,rn,rc,rcs,na,nn,nc,jw,cd,e,rfl,hG,y⟩ ap G;refine G.kN ?_;have l:=G;have G:=gM l.wf;refine G.jM λH3 E G=>G.jM λH4 re G=>?_;refine G.kN ?_;refine G.j_ λm G=>?_;refine G.j_ λm G=>?_;refine fF ?_;have ab:=G.ext;have G:SH [] H _ [(re,173,[vi cd,vi e]),(E,171,[J ra rn rc,J na nn nc]),(V,27,[J T 0 0,J T 0 0,J T 0 0,J T 0 0,J T 0 0,vi 0])]:=SH.frame (hx:=[]) l G;refine eU (λw=>?_) λw=>?_
 .refine PU.b6 O<|G.j_ λm G=>rr ?_;exact G.jl<|⟨⟨_,_,O,O,O,λh=>absurd O h⟩,G.ext⟩
 have P:Gr W.bV m ra rn rcs na nn jw:=hG.ex ab;refine fF ?_;refine dn (Uh (oC _) (show Gr W.bV (hN m) ra rn rcs na nn jw from P) y) ?_;rintro v Y ⟨⟨ya,yn,yc,aq,rfl,hY⟩,M⟩;have G:=G.oD M;have ad:=G.lo;have ac:=G.ext.bV;refine dn (Rf (oC _) (cs:=((hN m).bV<=·)) (show Gr W.bV (hN<|hM m Y) ra rn rcs na nn jw from(P.ex M.draw:Gr W.bV (hM m Y) ra rn rcs na nn jw)) y hY) ?_;rintro v H6 ⟨⟨x,e,rfl,OI,Q4,g⟩,U⟩;have G:=G.oD U;refine bN ?_;have l:=G;have G:=gM l.wf;refine G.aav λH7 rm G f7=>?_
 have al:rm≠E:=by
  have I:=G.yu<|aK ..
  have B:=(l.lo _<|aT (i:=1) O).2;intro h;subst h;exact fu I B
 refine G.oq (hl:=OI) (hk:=Q4) λH8 G=>?_;refine splitK (λK hK=>?_) ?_
 .simp only[eZ,fP M,fP U,f7,gN];rw[h_,OI];apply nE (a:=rm) (b:=E) al yX fQ fQ hK
 have ao:=G.ext;have G:=SH.frame (hx:=[]) l G;simp only[bQ,bX]at G;refine eU (λw=>?_) λw=>?_
 .refine PU.b6 O<|G.j_ λm G=>rr ?_;exact G.jl<|⟨⟨_,_,O,O,O,λh=>absurd O h⟩,G.ext⟩
 obtain⟨A,q,rfl,g,am,an⟩:=g w;have G:SH [] H _ [(rm,27,q.cells A),(re,173,[vi cd,vi _]),(E,171,[J ra rn rc,J na nn nc]),(V,27,[J T 0 0,J T 0 0,J T 0 0,J T 0 0,J T 0 0,vi 0])]:=G;apply G.jl;refine G.cm (NC G.wf) ?_;rintro v H9 rfl GY G;refine tJ (λw=>?_) λw=>?_
 .refine PU.b6 O<|G.j_ λm G=>rr ?_;exact G.jl<|⟨⟨_,_,O,O,O,λh=>absurd O h⟩,G.ext⟩
 have g:vF ((hM m Y).bV<=·) (hM (hM m Y) H6) A q:=⟨g.n,g.s,g.p,g.o,g.e⟩;have g:=(g.ex ao).ex GY;have G:=G.perm (L':=[(V,27,[J T 0 0,J T 0 0,J T 0 0,J T 0 0,J T 0 0,vi 0])]++[(rm,27,q.cells A),(re,173,[vi cd,vi _]),(E,171,[J ra rn rc,J na nn nc])])<|aG (l₁:=[_,_,_]);refine G.uE 1 O (ax 6) ?_;have hO:=SH.own G;refine hO.st 0 O O (ax 6) O λCw hO=>?_
 have g:=g.stay hO.ext (λr hr=>by
  obtain rfl:r=V:=aS.1 hr;exact fI (ad _<|aT (i:=2) O).2)
 have G:SH [] H Cw [(V,27,q.cells A),(rm,27,q.cells A),(re,173,[vi cd,vi _]),(E,171,[J ra rn rc,J na nn nc])]:=SH.frame G hO;refine rr ?_;exact G.uE 0 O (ax 6)<|⟨⟨_,_,O,O,O,λ_=>⟨A,q,rfl,g.wk λr hr=>aR ac hr,am,N,by have:=hY.2.1;omega,an.2⟩⟩,G.ext⟩
end
section
section laid
variable{S:D Nat}{es c:Nat}{a:aC Addr}{xs:D C}{K:C->R->Prop}
def _root_.Go.Ae.SH.apG(G:SH S H0 H L)(g:0<es)(M:Fl H a n es xs)(l:n<=16777216)(k:∀v' H1 iX,GB ty es v' xs iX->SH S H0 H1 (iX++L)->Ext H H1->K v' H1):ME (Ch ty es (J T 0 0) (J a n c) H) K:=by
 rw[Co (.inl O) (tT M g) l];split
 .next e=>
  subst e;obtain rfl:xs=[]:=eP.1 (by have:=M.1;omega);exact k _ H [] (GB.nil _ _) G<|Ext.refl _
 .next e=>exact k _ _ [(H.bV,ty,xs)] (.inr ⟨H.bV,n,[],O,M.1,gB⟩) (G.grow ty xs)<|Ext.new _ _
def _root_.Go.Ae.SH.aox(G:SH S H0 H L)(l:0<es)(M:Fl H a n es xs)(m:n<=16777216)(k:∀v' H1 iX,GB ty es v' xs iX->SH S H0 (hM H H1) (iX++L)->Ext (hN H) H1->K v' H1):ME (Ch ty es (J T 0 0) (J a n c)<|hN H) K:=by
 have e:Fl (hN H) a n es xs:=M;rw[Co (.inl O) (tT e l) m];split
 .next g=>
  subst g;obtain rfl:xs=[]:=eP.1 (by have:=M.1;omega);refine k _ (hN H) [] (GB.nil _ _) ?_<|Ext.refl _;rw[iU G.wf];exact G
 .next g=>exact k _ _ [(H.bV,ty,xs)] (.inr ⟨H.bV,n,[],O,M.1,gB⟩) (G.zq ty xs)<|Ext.new _ _
end laid
variable{cs:Nat->Prop}{S:D Nat}
def Own(A:At)(F:D C)(hx:D eF):Prop:=u F=6/\all' gI F=f/\∀r,Bd r A<|(r,27,F)::hx
def Own.of{A:At}{l p o m ev:C}{evs:D C}{gn g e go ge az:D eF}(I:GB 9 1 l (A.nm.map aJ) gn)(B:GB 3 1 p (gq A.st) g)(w:GB 3 1 o (gq A.sp) e)(x:GB 3 1 m (gq A.ow) go)(y:GB 119 1 ev evs ge)(V:Jm 121 3 (A.eg.map Bf) evs az):Own A [l,p,o,m,ev,W A.ty] (gn++(g++(e++(go++(ge++az))))):=by
 refine⟨O,?_,λr=>⟨l,p,o,m,ev,evs,gn,g,e,go,ge,az,rfl,I,B,w,x,y,V⟩⟩;have M:=I.sl;have N:=B.sl;have P:=w.sl;have T:=x.sl;have U:=y.sl;obtain⟨_,_,_,rfl⟩:=M;obtain⟨_,_,_,rfl⟩:=N;obtain⟨_,_,_,rfl⟩:=P;obtain⟨_,_,_,rfl⟩:=T;obtain⟨_,_,_,rfl⟩:=U;rfl
def agH(hl:u A.eg=A.ns)(hi:i<A.ns):(A.eg.take<|i+1).map Bf=(A.eg.take i).map Bf++[Bf (A.rg i)]:=by
 have h:i<u A.eg:=N;unfold At.rg;rw[dU,av h,dK];rfl
def aip(a b c d e ay:D eF):(a++(b++(c++(d++(e++ay))))).Perm (ay++(e++(d++(c++(a++b))))):=by
 have I:=aG (l₁:=a++(b++(c++(d++e)))) (l₂:=ay);have B:=aG (l₁:=a++(b++(c++d))) (l₂:=e);have g:=aG (l₁:=a++(b++c)) (l₂:=d);have l:=aG (l₁:=a++b) (l₂:=c);simp only[cK]at I B g l;exact I.trans<|gT ay<|B.trans<|gT e<|g.trans<|gT d l
def PY(hw:Wf H)(h:vF cs H A q)(ho:A.Ok):bM Pg X 54 [q.v A] H λv Q=>∃F M',v=dN ⟨F⟩/\Own A F M'/\SH [] H Q M':=by
 have G:=gM hw;have ad:=ho.big;have Jz:=ho.few;refine lF [0,1,2,3,5,34,35,36] ?_;refine G.box O λH1 E G=>?_;have G:SH [] H H1 [(E,27,[J q.na A.nr q.nc,J q.sa A.nr q.sc,J q.pa A.nr q.pc,J q.oa A.ns q.oc,J q.ea A.ns q.ec,W A.ty])]:=G;refine G.jM λH2 rz G=>?_;refine fF ?_;refine G.jM λH3 rt G=>?_;refine G.kN ?_;refine G.j_ λM G=>?_;refine fF ?_;refine G.apG N (h.ex G.ext).n.1 N λnv H4 g U G _=>?_;have G:=G.perm<|jB g [_,_,_] [];simp only[bF,bQ,bX]at G;have I:=U.sl;obtain⟨na,nn,nc,rfl⟩:=I;refine G.j_ λM G=>?_;refine fF ?_;refine G.apG N (h.ex G.ext).s.1 N λsv H5 l ac G _=>?_;have G:=G.perm<|jB l [_,_,_] g;simp only[bF,bQ,bX]at G;have I:=ac.sl;obtain⟨sa,sn,sc,rfl⟩:=I;refine G.j_ λM G=>?_;refine fF ?_;refine G.apG N (h.ex G.ext).p.1 N λpv H6 y Un G _=>?_;have G:=G.perm<|jB y [_,_,_]<|l++g;simp only[bF,bQ,bX]at G;have I:=Un.sl;obtain⟨pa,pn,pc,rfl⟩:=I;refine G.j_ λM G=>?_;refine fF ?_;refine G.apG N (h.ex G.ext).o.1 N λov H7 go V G _=>?_;have G:=G.perm<|jB go [_,_,_]<|y++(l++g);simp only[bF,bQ,bX]at G;have I:=V.sl;obtain⟨oa,on,oc,rfl⟩:=I;refine G.j_ λM G=>?_;refine fF ?_;refine lp2 5 36 (h1:=λm x5 KI Q=>∃i ev evs ge az,KI=W i/\i+m=A.ns/\GB 119 1 ev evs ge/\Jm 121 3 ((A.eg.take i).map Bf) evs az/\SH [] H Q ((rt,27,[J na nn nc,J sa sn sc,J pa pn pc,J oa on oc,ev,W A.ty])::(rz,27,[J T 0 0,J T 0 0,J T 0 0,J T 0 0,J T 0 0,vi 0])::(E,27,[J q.na A.nr q.nc,J q.sa A.nr q.sc,J q.pa A.nr q.pc,J q.oa A.ns q.oc,J q.ea A.ns q.ec,W A.ty])::(ge++(az++(go++(y++(l++g))))))) ?_ A.ns ⟨0,_,[],[],[],rfl,N,GB.nil _ _,rfl,G⟩;clear G;rintro m x5 KI oW H8 ⟨i,ev,evs,ge,az,rfl,am,B,hR,G⟩;have hE:u evs=min i A.ns:=by rw[<-hR.len,aM,dS,ho.AX]
 refine mG (λhc=>?_) λhc=>?_
 .obtain rfl:i=A.ns:=N;refine tl ?_;rw[dV (by rw[ho.AX];omega)]at hR;have ab:=Own.of U ac Un V B hR;have I:=B.sl;obtain⟨ea,en,ec,rfl⟩:=I;refine G.jl<|G.j_ λM G=>rr ?_;refine fF ?_;exact⟨_,_,O,ab,(fV (A:=[_,_,_]) G).perm<|aip ge az go y l g⟩
 have hi:i<A.ns:=N;refine h.ldE G.ext hi λp a c hf=>?_;refine fF ?_;refine G.aox N (hf.ex G.ext).1 (by have:=ho.len i;omega) λv2 H9 P Y G GY=>?_;have I:=Y.sl;obtain⟨ra,rn,rc,rfl⟩:=I;refine G.R4 O O O N λCw rx G uR=>?_
 have G:=G.perm (L':=(rx,119,cr<|J ra rn rc)::(ge++([(rt,27,[J na nn nc,J sa sn sc,J pa pn pc,J oa on oc,ev,W A.ty]),(rz,27,[J T 0 0,J T 0 0,J T 0 0,J T 0 0,J T 0 0,vi 0]),(E,27,[J q.na A.nr q.nc,J q.sa A.nr q.sc,J q.pa A.nr q.pc,J q.oa A.ns q.oc,J q.ea A.ns q.ec,W A.ty])]++(P++(az++(go++(y++(l++g)))))))) (by
  refine fA _ ?_;have p1:=jB (P++[(rt,27,[J na nn nc,J sa sn sc,J pa pn pc,J oa on oc,ev,W A.ty]),(rz,27,[J T 0 0,J T 0 0,J T 0 0,J T 0 0,J T 0 0,vi 0]),(E,27,[J q.na A.nr q.nc,J q.sa A.nr q.sc,J q.pa A.nr q.pc,J q.oa A.ns q.oc,J q.ea A.ns q.ec,W A.ty])]) ge<|az++(go++(y++(l++g)));have p2:=jB P [(rt,27,[J na nn nc,J sa sn sc,J pa pn pc,J oa on oc,ev,W A.ty]),(rz,27,[J T 0 0,J T 0 0,J T 0 0,J T 0 0,J T 0 0,vi 0]),(E,27,[J q.na A.nr q.nc,J q.sa A.nr q.sc,J q.pa A.nr q.pc,J q.oa A.ns q.oc,J q.ea A.ns q.ec,W A.ty])]<|az++(go++(y++(l++g)));simp only[cK]at p1;exact p1.trans<|gT ge p2)
 refine B.KB G N O O N λv' Rt x w G _ _ xz=>?_;have I:=w.sl;obtain⟨ea,en,ec,rfl⟩:=I;have G:=G.perm<|jB x [_,_,_] _;simp only[bF,bQ,bX]at G;refine G.oq λal G=>?_;refine splitK (λK hK=>?_) ?_
 .simp only[uR,eZ,fP GY,gN];rcases xz with e|e<;>rw[e]<;>apply Gc (a:=rt) yX fQ fQ hK
 refine eD ?_;refine⟨A.ns-(i+1),N,_,_,_,_,O,i+1,_,_,x,az++P,pq,N,w,?_,G.perm ?_⟩
 .rw[agH ho.AX hi];exact hR.snoc Y
 .refine(gT [_,_,_]<|gT x ?_);rw[cK];exact jB P az _
end
section
variable{cs:Nat->Prop}{S:D Nat}
def _root_.Go.Proofs.Lv.Bs.n'(h:Bs b H n v mk):Bs b (hN H) n v mk:=h
def _root_.Go.Ae.GK{c:Cl}{l:D Cl}(h:c.k≠2/\c.k≠3):noTwo (c::l)=noTwo l:=by
 unfold noTwo;rw[all_eq,all_eq,yB];have B:aB c.k 2=aA:=by rw[<-dw];intro e;exact h.1<|bA e
 have g:aB c.k 3=aA:=by rw[<-dw];intro e;exact h.2<|bA e
 rw[B,g];rfl
def _root_.Go.Ae.AR(n:Nat)(p:C)(H:R)(l:D Cl):noTwo (clL n p H (hN H)::l)=noTwo l:=by
 refine GK ?_
 have:clL n p H (hN H)=(aN (sJ p) λa=>Z<|Cl.mk 4 a.block a.off n hh0 hh0).getD (cl 1):=by
  show b_ (aD H.bV H.bV) _ _=_;rw[aH (ax _)];rfl
 rw[this];cases sJ p with
 |none=>exact⟨by show(1:Nat)≠2;decide,by show(1:Nat)≠3;decide⟩
 |some a=>exact⟨by show(4:Nat)≠2;decide,by show(4:Nat)≠3;decide⟩
def _root_.Go.Ae.Dr(l:D Cl):noTwo (cl 0::l)=noTwo l:=GK ⟨jg,jg⟩
def _root_.Go.Ae.Ah:noTwo []=true:=rfl
def _root_.Go.Ae.agI(l:D Cl):noTwo (cl 1::l)=noTwo l:=GK ⟨jg,jg⟩
def WO{rm:Nat}(o:H.cell rm 0=Z v)(l:rm<H.bV)(w:H.cell E 1=Z (J q.sa A.nr q.sc))(m:E<H.bV)(U:vF cs H A q)(hl:Bs b H A.ns v mk)(ho:A.Ok)(g:∀s,on mk s<->A.Mk f s):
 Wnt A A.leads H (.func (.func 78) ⟨[]⟩ ⟨[pr rm,pr E]⟩):=by
 intro Q s e M hw Y;have hl:=hl.ex M;have U:=U.ex M;have hs:=ho.lt Y;have⟨he1,_,he3⟩:=ho.e s hs e Y;have o:Q.cell rm 0=Z v:=(l8 (M.obj rm l gB) 0).trans o;have w:Q.cell E 1=Z (J q.sa A.nr q.sc):=(l8 (M.obj E m gB) 1).trans w;have l:=aP l M.bV;have m:=aP m M.bV;show bM Pg X 78 [_,pr rm,pr E] Q _;have G:=gM hw;refine lF [0,1,2,3,4] ?_;refine G.box O λH1 rb G=>?_;have G:SH [] Q H1 [(rb,121,[W e.1,W e.2.1,W e.2.2])]:=G;have B:=(hl.ex G.ext).n';have V:=(U.ex G.ext).n';obtain⟨ea,ec,rfl,_⟩:=id hl;refine G.Jk o l ?_;refine fF ?_;refine B.at he1 λp t T=>?_
 try simp only[iU G.wf]
 refine ig (λP=>?_) λP=>?_
 .refine Oq (λhc=>?_) λhc=>?_
  .refine splitK (λK x=>?_) ?_
   .exact iY (by simp only[AR,Dr,Ah]) x
   refine rr ?_;exact⟨⟨f,O,λ_=>⟨(g _).1<|T.1 P,λh=>absurd N hc⟩,λ_=>rfl⟩,G.ext⟩
  have y:=ho.call Y N;refine G.Jk o l ?_;refine G.kN ?_;refine G.Jk w m ?_;refine fF ?_;refine V.ldS ho y λp=>?_
  try simp only[iU G.wf]
  refine B.at (ho.s _ y).1 λp t2 I=>?_
  try simp only[iU G.wf]
  refine splitK (λK x=>?_) ?_
  .exact iY (by simp only[AR,Dr,Ah]) x
  refine rr ?_;exact⟨⟨t2,O,λh=>⟨(g _).1<|T.1 P,λ_=>(g _).1<|I.1 h⟩,λh=>I.2<|(g _).2<|h.2 N⟩,G.ext⟩
 .refine splitK (λK x=>?_) ?_
  .exact iY (by simp only[AR,Dr,Ah]) x
  refine rr ?_;refine⟨⟨aA,O,λh=>(by cases h),λh=>?_⟩,G.ext⟩;rw[P]at T;exact absurd (T.2<|(g _).2 h.1) gB
end
section
variable{cs:Nat->Prop}{S:D Nat}
theorem ad4{l:Nat}{e:Ed}(hB:Bd rt au hx)(G:SH S H0 H<|hx++((l,121,[W e.1,W e.2.1,W e.2.2])::L))(hs:s<au.ns)(hl:u au.eg=au.ns)(ht:u (au.rg s)<=1000000){x2 x3 x4 x5 al am an BU ao ap:C}{K:Out->Prop}(a0:Ci oW 51=aO f)(kk:∀oW Q M',Bd rt (au.pu s e) M'->SH S H0 Q (M'++((l,121,[W e.1,W e.2.1,W e.2.2])::L))->K (.norm<|EA x0 x1 x2 x3 x4 x5 (pr rt) (W s) x8 (pr l) al am an BU ao ap oW Q)):
 iC Pg X (sub Ow [1,1,1,1,1,1,0,1,0,0,1,1,0,0,1,1,1,0,0,1,1,0,0,1,1]) (EA x0 x1 x2 x3 x4 x5 (pr rt) (W s) x8 (pr l) al am an BU ao ap oW H) K:=by
 obtain⟨nv,sv,pv,ov,ev,evs,y,M,B,go,ge,az,rfl,ar,aE,Un,aw,aq,hR⟩:=hB;have ac:u evs=au.ns:=by rw[<-hR.len,aM,hl]
 rcases aq with⟨_,h0,_⟩|⟨g,n,w,rfl,hn,rfl⟩
 .rw[h0]at ac;simp at ac;omega
 obtain rfl:n=au.ns:=N;obtain⟨p,gb,m,rfl,ad,ab⟩:=hR.at s N
 have hE:(au.eg.map Bf)[s]?.getD []=Bf (au.rg s):=by
  unfold At.rg;rw[bL,av (show s<u au.eg by omega)];rfl
 rw[hE]at ad;have a1:(evs++w)[s]?=Z evs[s]:=by rw[bZ N];exact av N
 have G:SH S H0 H ((l,121,[W e.1,W e.2.1,W e.2.2])::(rt,27,[nv,sv,pv,ov,J (Z ⟨g,0,T⟩) au.ns<|gK 1,W au.ty])::(g,119,evs++w)::(gb++((y++(M++(B++go)))++(p++(m++L))))):=G.perm (by
  have p0:=jB ((rt,27,[nv,sv,pv,ov,J (Z ⟨g,0,T⟩) au.ns<|gK 1,W au.ty])::(y++(M++(B++(go++([(g,119,evs++w)]++(p++(gb++m)))))))) [(l,121,[W e.1,W e.2.1,W e.2.2])] L;have p1:=jB (y++(M++(B++go))) [(g,119,evs++w)]<|p++(gb++(m++L));have p2:=jB ((y++(M++(B++go)))++p) gb<|m++L;simp only[cK,bQ,bX]at p0 p1 p2|-;exact p0.trans<|((p1.trans<|p2.cons _).cons _).cons _)
 refine tl ?_;rw[a0];refine ig (λ_=>?_) (λhb=>by cases hb);refine fF ?_;refine G.R8 hs a1<|fF ?_;refine G.R4 O O O N λH2 rx G uR=>?_;have U:=G;have G:=(G.to (cs':=[W e.1,W e.2.1,W e.2.2]) O).perm (L':=(rx,121,[W e.1,W e.2.1,W e.2.2])::(gb++([(l,121,[W e.1,W e.2.1,W e.2.2]),(rt,27,[nv,sv,pv,ov,J (Z ⟨g,0,T⟩) au.ns<|gK 1,W au.ty]),(g,119,evs++w)]++((y++(M++(B++go)))++(p++(m++L))))))<|(jB [_,_,_] gb _).cons _;refine ad.KB G N O O (by rw[Lm];omega) λv' H3 iX P G _ _ xz=>?_;have G:=G.perm<|jB iX [_,_,_] _;simp only[bQ,bX]at G;have V:=G;obtain⟨va,vl,vc,rfl⟩:=P.sl;refine G.Rj hs (by rw[aU];omega) (kk:=λH4 G=>?_);have n1:l≠rt:=G.nq 0 1 O O N;have n2:l≠g:=G.nq 0 2 O O N;have n3:rt≠g:=G.nq 1 2 O O N;refine splitK (λK hK=>?_) ?_
 .have r1:∀{o n:Nat}{a b:R},o+n<=3->oV ⟨2,0,0,0,hM H H2,H3⟩ ⟨4,l,o,n,a,b⟩=f:=λh=>sF (U.get 1 O) ((V.get 0 O).iB O) h (Iz ⟨_,_,_,rfl⟩)
  have r2:∀{a b:R},oV ⟨2,0,0,0,hM H H2,H3⟩ ⟨4,rt,4,1,a,b⟩=f:=λ{a b}=>sF (U.get 2 O) ((V.get 1 O).iB O) (by show 4+1<=6;omega) (by
   intro v Y;have Y:v∈[J (Z ⟨g,0,T⟩) au.ns (gK 1)]:=Y;rw[aS]at Y;subst Y;exact qR _ _ _ λx h=>by cases h;rfl)
  have r3:∀{a b:R},oV ⟨2,0,0,0,hM H H2,H3⟩ ⟨4,g,s,1,a,b⟩=f:=λ{a b}=>sF (U.get 3 O) ((V.get 2 O).iB O) (by rw[aU];omega) (by
   intro v Y
   have:v=evs[s]:=by
    have I:((evs++w).drop s).take 1=[evs[s]]:=by
     rw[eH (by rw[aU];omega),jS,kR,jy N]
    rw[I,aS]at Y;exact Y
   subst this;exact Cx hR _<|bH _)
  simp only[uR,eZ,gN];rcases xz with e|e<;>rw[e]<;>apply QO (A:=hM H H2) (h2:=H3) (a:=l) (b:=rt) (c:=g) n1 n2 n3 (by rfl) fQ fQ hK<;>repeat' apply iZ
  all_goals first|exact trivial|(intro h;cases h;done)|exactλ_=>⟨rfl,rfl⟩|exactλ_=>r1 N|exactλ_=>r2|exactλ_=>r3
 refine kk _ _ ((rt,27,[nv,sv,pv,ov,J (Z ⟨g,0,T⟩) au.ns<|gK 1,W au.ty])::(y++(M++(B++(go++([(g,119,evs.set s (J va vl vc)++w)]++(p++(iX++m)))))))) ⟨nv,sv,pv,ov,_,evs.set s<|J va vl vc,y,M,B,go,_,p++(iX++m),O,ar,aE,Un,aw,.inr ⟨g,au.ns,w,O,by rw[bU];omega,rfl⟩,?_⟩ ?_
 .have:=ab (J va vl vc) (Bf<|au.rg s++[e]) iX (by rw[Re];exact P);have e2:(au.pu s e).eg.map Bf=(au.eg.map Bf).set s (Bf<|au.rg s++[e]):=gW;rw[e2];exact this
 .rw[nV _ _ N]at G;refine G.perm<|uL ?_;have p0:=jB ((rt,27,[nv,sv,pv,ov,J (Z ⟨g,0,T⟩) au.ns<|gK 1,W au.ty])::(y++(M++(B++(go++([(g,119,evs.set s (J va vl vc)++w)]++(p++(iX++m)))))))) [(l,121,[W e.1,W e.2.1,W e.2.2])] L;have p1:=jB (y++(M++(B++go))) [(g,119,evs.set s (J va vl vc)++w)]<|p++(iX++(m++L));have p2:=jB ((y++(M++(B++go)))++p) iX<|m++L;simp only[cK,bQ,bX]at p0 p1 p2|-;exact p0.trans<|((p1.trans<|p2.cons _).cons _).cons _
def At.cl(au:At)(s:Nat):At:={au with eg:=au.eg.set s []}
def ad5(hB:Bd rt au hx)(G:SH S H0 H<|hx++L)(hs:s<au.ns)(hl:u au.eg=au.ns){K:C->C->C->R->Prop}(kk:∀v p aa Q M',Bd rt (au.cl s) M'->SH S H0 Q (M'++L)->K v p aa Q):
 ME (Go.Ae.yh T (bG<|Z ⟨rt,4,T⟩) H) λv H1=>PU (BS 1 v<|W s) λp=>ME (Go.Ae.GU 1 p (J T 0 0) H1) λaa H2=>K v p aa H2:=by
 obtain⟨P,X,V,U,ev,evs,l,o,m,go,ge,az,rfl,ab,ad,Un,ac,Y,hR⟩:=hB;have B:u evs=au.ns:=by rw[<-hR.len,aM,hl]
 rcases Y with⟨_,h0,_⟩|⟨e,n,x,rfl,hn,rfl⟩
 .rw[h0]at B;simp at B;omega
 obtain rfl:n=au.ns:=N;obtain⟨g,y,w,rfl,al,I⟩:=hR.at s N
 have G:SH S H0 H ((rt,27,[P,X,V,U,J (Z ⟨e,0,T⟩) au.ns<|gK 1,W au.ty])::(e,119,evs++x)::(y++((l++(o++(m++go)))++(g++(w++L))))):=G.perm (by
  have M:=jB (l++(o++(m++go))) [(e,119,evs++x)]<|g++(y++(w++L));have p2:=jB ((l++(o++(m++go)))++g) y<|w++L;simp only[cK,bQ,bX]at M p2|-;exact(M.trans<|p2.cons _).cons _)
 apply G.qE;refine G.Yi hs (by rw[aU];omega) (kk:=λp H4 G=>?_);have G:SH S H0 H4 ((rt,27,[P,X,V,U,J (Z ⟨e,0,T⟩) au.ns<|gK 1,W au.ty])::(e,119,(evs++x).set s<|J T 0 0)::(y++((l++(o++(m++go)))++(g++(w++L))))):=G;refine kk _ p undef H4 ((rt,27,[P,X,V,U,J (Z ⟨e,0,T⟩) au.ns<|gK 1,W au.ty])::(l++(o++(m++(go++([(e,119,evs.set s (J T 0 0)++x)]++(g++([]++w)))))))) ⟨P,X,V,U,_,evs.set s<|J T 0 0,l,o,m,go,_,g++([]++w),O,ab,ad,Un,ac,.inr ⟨e,au.ns,x,O,by rw[bU];omega,rfl⟩,?_⟩ ?_
 .have:=I (J T 0 0) (Bf []) [] (GB.nil _ _);have e2:(au.cl s).eg.map Bf=(au.eg.map Bf).set s (Bf []):=gW;rw[e2];exact this
 .rw[nV _ _ N]at G;have G:=fV (A:=y)<|G.perm<|jB [_,_] y _;refine G.perm<|uL ?_;have M:=jB (l++(o++(m++go))) [(e,119,evs.set s (J T 0 0)++x)]<|g++(w++L);simp only[cK,bQ,bX]at M|-;exact M.cons _
end
section
variable{cs:Nat->Prop}{S:D Nat}
namespace At
variable{i j:Nat}
variable{k:Nat}
structure R9(A au:At)(i:Nat):Prop where
 nm:au.nm=A.nm
 st:au.st=A.st
 sp:au.sp=A.sp
 ow:au.ow=A.ow
 ty:au.ty=A.ty
 AX:u au.eg=A.ns
 e:∀s,s<i->au.rg s=A.Nu s
open Classical in
def IA(A:At)(i j:Nat):D Ed:=if A.met i then((A.rg i).take j).filter (λe=>decide<|A.leads e)else[]
def ajO(i:Nat):A.IA i 0=[]:=by unfold IA;rw[kR,List.filter_nil];split<;>rfl
def ad6(i:Nat):A.IA i (u<|A.rg i)=A.Nu i:=by unfold IA Nu;rw[jL]
def ad7(i j:Nat):u (A.IA i j)<=u (A.rg i):=by
 classical
 unfold IA;split
 .exact aR (m_ _ _) (by rw[dS];omega)
 .exact bD _
def agJ(g:j<u (A.rg i))(e:A.met i)(hl:A.leads (A.rg i)[j]):A.IA i (j+1)=A.IA i j++[(A.rg i)[j]]:=by
 unfold IA;rw[jj e,jj e,dU,av g,uG];congr 1;show List.filter _ [_]=_;rw[pX,jj<|om hl];rfl
def Uq(g:j<u (A.rg i))(h:¬(A.met i/\A.leads (A.rg i)[j])):A.IA i (j+1)=A.IA i j:=by
 unfold IA
 by_cases hm:A.met i
 .rw[jj hm,jj hm,dU,av g,uG]
  have:List.filter (λe=>@decide (A.leads e)<|Classical.propDecidable _) (Z (A.rg i)[j]).toList=[]:=by
   show List.filter _ [_]=_;rw[pX,jx<|by simpa usingλl=>h ⟨hm,l⟩];rfl
  rw[this,bF]
 .rw[jx hm,jx hm]
def R9.ns(h:R9 A au k):au.ns=A.ns:=eY u h.ow
def R9.init(ho:A.Ok):R9 A A 0:=⟨O,O,O,O,O,ho.AX,λs h=>absurd h<|iN s⟩
def amy(hl:u au.eg=au.ns)(hi:i<au.ns)(t:Nat):(au.cl i).rg t=if t=i then[]else au.rg t:=by
 show(au.eg.set i [])[t]?.getD []=_;rw[dX]
 by_cases h:i=t
 .subst h;rw[jj O,jj N,jj O];rfl
 .rw[jx h,jx λe=>h e.symm];rfl
theorem R9.cl(h:R9 A au i)(hi:i<A.ns):R9 A (au.cl i) i/\(au.cl i).rg i=A.IA i 0:=by
 have g:u au.eg=au.ns:=h.AX.trans h.ns.symm;refine⟨⟨h.nm,h.st,h.sp,h.ow,h.ty,(bU ..).trans h.AX,λs hs=>?_⟩,?_⟩
 .rw[amy g (by rw[h.ns];exact hi),jx N];exact h.e s hs
 .rw[amy g (by rw[h.ns];exact hi),jj O,ajO]
theorem R9.pu(h:R9 A au i)(hi:i<A.ns)(e:Ed):R9 A (au.pu i e) i/\(au.pu i e).rg i=au.rg i++[e]:=by
 have g:u au.eg=au.ns:=h.AX.trans h.ns.symm;refine⟨⟨h.nm,h.st,h.sp,h.ow,h.ty,(bU ..).trans h.AX,λs hs=>?_⟩,?_⟩
 .rw[ajJ g (by rw[h.ns];exact hi),jx N];exact h.e s hs
 .rw[ajJ g (by rw[h.ns];exact hi),jj O]
def R9.succ(h:R9 A au i)(g:au.rg i=A.Nu i):R9 A au (i+1):=
 ⟨h.nm,h.st,h.sp,h.ow,h.ty,h.AX,λs hs=>by
   rcases dH s i with I|I
   .exact h.e s I
   .obtain rfl:s=i:=N;exact g⟩
theorem R9.done(h:R9 A au A.ns):au=A.trim:=by
 have⟨I,B,h3,h4,h5,h6,h7⟩:=h
 have:au.eg=(d_ A.ns).map A.Nu:=by
  refine ja (by rw[aM,l6];exact h6) λs hs e=>?_;rw[iD,lQ,<-h7 s N];unfold rg;rw[av hs];rfl
 cases au;simp only at I B h3 h4 h5 this;subst I B h3 h4 h5 this;rfl
end At
theorem PZ(hw:Wf H)(h:vF cs H A q)(ho:A.Ok):bM Pg X 52 [q.v A] H (Qe (λv Q=>∃q':AV,v=q'.v A.trim/\vF (H.bV<=·) Q A.trim q') H):=by
 have G:=gM hw;have ar:=ho.big;refine lF [0,1,2,3,4,5,6,7,8,10,26,27,28,37,38,39] ?_;refine G.box O λH1 E G=>?_;rw[lM]at G;refine G.jM λH2 rz G=>G.uE 1 O (ax 6) ?_;refine G.cm (vG G.wf (h.ex G.ext) ho) ?_;rintro v H3 rfl M G;refine bN ?_;refine ig (λV=>by cases V) λ_=>?_;refine G.uE 1 O (ax 6) ?_;refine G.cm (GG G.wf (h.ex G.ext) ho f) ?_;rintro v H4 ⟨mk,hm,a2⟩ M G;obtain⟨ma,mc,rfl,_⟩:=id hm;refine G.ns O O O λH5 rm G a4=>?_;have G:SH [] H H5 [(rm,34,[J ma A.ns mc]),(rz,27,[J T 0 0,J T 0 0,J T 0 0,J T 0 0,J T 0 0,vi 0]),(E,27,q.cells A)]:=G;refine G.uE 2 O (ax 6) ?_;refine G.ld 2 (o:=1) O O ?_;have y:=WO (A:=A) (q:=q) (rm:=rm) (E:=E) ((G.get 0 O).cell O) (G.lo _<|aT (i:=0) O).2 ((G.get 2 O).cell (o:=1) O) (G.lo _<|aT (i:=2) O).2 (h.ex G.ext) (hm.ex a4) ho a2;have al:u A.st=A.nr:=ho.YN;have Jz:=ho.few;rw[show J q.sa A.nr q.sc=J q.sa (u A.st) q.sc by rw[al]];refine dn (PV (fa:=q.sa) (fc:=q.sc) (fl:=A.st) (w:=A.leads) G.wf (h.ex G.ext) ho (by rw[al];exact(h.ex G.ext).s) (λs hs=>?_) N y) ?_
 .obtain⟨r,hr,rfl⟩:=iM hs;have:=(ho.s r N).1;unfold At.S at this
  rwa [av hr]at this
 rintro v H6 ⟨⟨JA,an,aw⟩,ao⟩;have G:=G.call ao
 have P:∀s,on JA s<->A.met s:=λs=>by
  rw[aw]
  have:(·∈A.st)=A.isS:=by
   funext s;apply propext;constructor
   .intro hs;obtain⟨r,hr,rfl⟩:=iM hs;refine⟨r,N,?_⟩;unfold At.S;rw[av hr];rfl
   .rintro⟨r,hr,rfl⟩;unfold At.S;rw[av (show r<u A.st by omega)];exact bH _
  rw[this];rfl
 obtain⟨na,nc,rfl,_⟩:=id an;refine G.uE 2 O (ax 6) ?_;refine dn (PY G.wf (h.ex G.ext) ho) ?_;rintro v H7 ⟨F,M',rfl,x,Jv⟩;have xJ:=G;refine Jv.ns (v:=dN ⟨F⟩) x.1 O x.2.1 λH8 rt G z8=>?_;have g:=x.2.2 rt;have G:SH [] H6 H8 (((rt,27,F)::M')++[]):=G.cast (bF _).symm;generalize(rt,27,F)::M'=hx at g G;have a3:∀{Q}(_:Ext H6 Q),Bk Q E 27 (q.cells A):=λ{Q} M=>(xJ.bk (E,27,q.cells A) gB).ex (xJ.lo (E,27,q.cells A) gB).2 M;refine iV ((a3 G.ext).cell (o:=4) O) ?_;refine bN ?_;refine lp7 7 8 10 28 37 38 39 (h1:=λm x7 x8 jW ap BU a5 I Q=>∃i au hx,ap=W i/\i+m=A.ns/\At.R9 A au i/\Bd rt au hx/\SH [] H6 Q (hx++[])) ?_ A.ns ⟨0,A,hx,rfl,N,At.R9.init ho,g,G⟩;clear G g Jv z8;clear hx;rintro m x7 x8 jW ap BU a5 I oW H9 ⟨i,au,hx,rfl,a9,l,g,G⟩;refine mG (λhc=>?_) λhc=>?_
 .obtain rfl:i=A.ns:=N;obtain rfl:=l.done;have ok:=At.Ll ho;refine tl ?_;rw[bF]at G;have T4:=SH.frame (hx:=[]) xJ G;have⟨q0,hr0,_⟩:=g.atM T4 ok;refine ME.uE hr0 ?_;have G:=T4.perm (L':=(rz,27,[J T 0 0,J T 0 0,J T 0 0,J T 0 0,J T 0 0,vi 0])::(rm,34,[J ma A.ns mc])::(E,27,q.cells A)::hx)<|(aG (l₁:=hx) (l₂:=[(rm,34,[J ma A.ns mc]),(rz,27,[J T 0 0,J T 0 0,J T 0 0,J T 0 0,J T 0 0,vi 0]),(E,27,q.cells A)])).trans<|iF _ _ _;refine G.st 0 O O (ax 6) O λCw G=>?_;have G:SH [] H Cw ((rz,27,q0.cells A.trim)::(rm,34,[J ma A.ns mc])::(E,27,q.cells A)::hx):=G;have ad:=G.perm (L':=hx++[(rz,27,q0.cells A.trim),(rm,34,[J ma A.ns mc]),(E,27,q.cells A)])<|aG (l₁:=[_,_,_]);have⟨q1,hr1,hat⟩:=g.atM ad ok
  have eq:q1.cells A.trim=q0.cells A.trim:=by
   obtain⟨F,hm,h6⟩:∃F,((rt,27,F):eF)∈hx/\u F=6:=by
    obtain⟨nv,sv,pv,ov,ev,evs,gn,gs,gp,go,ge,az,rfl,_⟩:=g;exact⟨_,aK ..,O⟩
   have a0:=(T4.bk _<|dM _ hm).read (o:=0) (n:=6) (by show 0+6<=u F;omega);have a1:=(ad.bk _<|dM _ hm).read (o:=0) (n:=6) (by show 0+6<=u F;omega);have b0:=a0.symm.trans hr0;have b1:=a1.symm.trans hr1;exact eO<|b1.symm.trans b0
  refine rr ?_;refine G.uE 0 O (ax 6) ?_;exact⟨⟨q1,by rw[<-eq];rfl,hat⟩,G.ext⟩
 have Y:i<A.ns:=N;have ac:=xJ.ext;refine h.ldE (ac.trans G.ext) Y λp ea ec hf=>?_;refine bN ?_;refine ad5 g G (by rw[l.ns];exact Y) (l.AX.trans l.ns.symm) λv p aa Cw M1 B G=>?_;have⟨hT1,hj1⟩:=l.cl Y;have aE:=ho.len i;refine lp2 10 39 (h1:=λm jW I Q=>∃j au hx,I=W j/\j+m=u (A.rg i)/\At.R9 A au i/\au.rg i=A.IA i j/\Bd rt au hx/\SH [] H6 Q (hx++[])) ?_ (u<|A.rg i) ⟨0,_,M1,rfl,N,hT1,hj1,B,G⟩;clear G g B l hT1 hj1;rintro m2 jW I a8 Rt ⟨j,au,hx,rfl,ba,l,e,g,G⟩;refine mG (λhc=>?_) λhc=>?_
 .obtain rfl:j=u (A.rg i):=N;refine tl ?_;refine eD ?_;refine⟨A.ns-(i+1),N,_,_,_,_,_,_,_,_,_,O,i+1,au,hx,pq,N,l.succ<|by rw[e,At.ad6],g,G⟩
 have hj:j<u (A.rg i):=N;refine KX (hf.ex<|ac.trans G.ext) hj λp=>G.ns O O O λab re G Ru=>?_;have G:SH [] H6 ab (hx++[(re,121,[W (A.rg i)[j].1,W (A.rg i)[j].2.1,W (A.rg i)[j].2.2])]):=G.perm<|jB [_] hx [];have aq:u (au.rg i)<=1000000:=by rw[e];have:=At.ad7 (A:=A) i j;omega
 refine(an.ex G.ext).at Y λp t ht=>?_;refine sD (λV=>?_) λV=>?_
 .have U:=(P i).1 (ht.1 V);refine ME.uE ((G.bk (re,121,[W (A.rg i)[j].1,W (A.rg i)[j].2.1,W (A.rg i)[j].2.2]) gB).read (o:=0) (n:=3)<|ax 3)<|dn (y ab i (A.rg i)[j] (ao.trans G.ext) G.wf<|bH hj) ?_;rintro v a6 ⟨⟨b,rfl,am⟩,ND⟩;have G:=G.call ND;cases b with
  |true=>
   have⟨hT1,hr1⟩:=l.pu Y (A.rg i)[j];refine ad4 (L:=[]) g G (by rw[l.ns];exact Y) (l.AX.trans l.ns.symm) aq O λoW a7 M1 B G=>?_;refine bN ?_;refine tl ?_;refine eD ?_;refine⟨u (A.rg i)-(j+1),N,_,_,_,_,O,j+1,_,M1,pq,N,hT1,by rw[hr1,e,At.agJ hj U<|am.1 O],B,(fV (A:=[_])<|G.perm<|jB _ [(re,121,_)] [])⟩
  |false=>
   refine tl ?_;refine tl ?_;refine eD ?_;refine⟨u (A.rg i)-(j+1),N,_,_,_,_,O,j+1,au,hx,pq,N,l,by rw[e,At.Uq hj λh=>by cases am.2 h.2],g,(fV (A:=[_])<|G.perm<|jB _ [(re,121,_)] [])⟩
 .have U:¬A.met i:=λh=>by
   have:=ht.2<|(P i).2 h;rw[V]at this;cases this
  subst V;refine tl ?_;refine tl ?_;refine eD ?_;refine⟨u (A.rg i)-(j+1),N,_,_,_,_,O,j+1,au,hx,pq,N,l,by rw[e,At.Uq hj λh=>U h.1],g,(fV (A:=[_])<|G.perm<|jB _ [(re,121,_)] [])⟩
end
section
open Go.Ae Go.Ae.hx
def aes{P:aX}(e:0<b)(h:a<=9223372036854775807):mW P .rem t ox oy (W a) (W b)=Z (W<|a %b):=nY O (by
 show lD (Op.intDiv .rem bC a b)=_;unfold Op.intDiv;rw[jx N];show Z (a_ bC<|(a:Int).tmod b)=_;have I:(a:Int).tmod b=((a %b:Nat):Int):=by rw[Int.tmod_eq_emod_of_nonneg N];rfl
 have B:a %b<=a:=Nat.mod_le _ _;rw[I])
def NR{P:aX}(b:Nat)(e:z=(b:Int))(g:0<b)(h:a<=9223372036854775807):mW P .quo t ox oy (W a) (a_ bC z)=Z (W<|a/b):=by subst e;exact MM N N N
def addN{P:aX}(a:Nat)(e:z=(a:Int))(h:a+b<=9223372036854775807):mW P .add t ox oy (a_ bC z) (W b)=Z (W<|a+b):=by subst e;exact gm N N
def sw{P:aX}(b:Nat)(e:z=(b:Int))(g:0<b)(h:a<=9223372036854775807):mW P .rem t ox oy (W a) (a_ bC z)=Z (W<|a %b):=by subst e;exact aes g h
def mulN{P:aX}(a:Nat)(e:z=(a:Int))(h:a*b<=9223372036854775807):mW P .mul t ox oy (a_ bC z) (W b)=Z (W<|a*b):=by
 subst e;have g:(a:Int)*(b:Int)=((a*b:Nat):Int):=by push_cast;rfl
 rw[acp (by rw[g];omega) (by rw[g];omega),g]
def k_{P:aX}(b:Nat)(e:z=(b:Int))(h:a+b<=9223372036854775807):mW P .add t ox oy (W a) (a_ bC z)=Z (W<|a+b):=by subst e;exact gm N N
end
end Go.Proofs.Lu
