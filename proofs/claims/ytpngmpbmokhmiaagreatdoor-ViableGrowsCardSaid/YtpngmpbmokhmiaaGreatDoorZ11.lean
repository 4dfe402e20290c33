/-
  Part 11 of the proof. No condition.
-/
import Derived.Test.YtpngmpbmokhmiaaGreatDoorZ10
set_option linter.unusedVariables false
set_option linter.unusedSimpArgs false
set_option maxRecDepth 100000
set_option maxHeartbeats 4000000
set_option linter.defProp false
open Option renaming some->D,none->Q
open Bool renaming true->f,false->aC
open Go renaming Value->Z,TypeId->aH,Program->aU,Operand->bT
open Go.Value renaming int->bX,slice->I
open Nat renaming beq->aA,ble->aD
open List renaming range->f_,length->gB
open List.Perm renaming swap->gq,cons->dS
open And renaming intro->ik
noncomputable section
namespace Go.Proofs.Lu
open Go.Ae Go.Ae.cs Go.Proofs.Lv
variable{K:Nat->Prop}{A H':At}{L cs:C dL}{H T H0:R}{t ty:aH}{z:Int}{a b i n nc nn r rc u rt s tn vc:Nat}{ni:C (Nat×Z)}{q:AV}{ox oy:bT}{mk:C Bool}{d:WD}{na ra va:aB Addr}{M evs iK rcs vcs:C Z}{v x0 x1 x8:Z}
section
variable{SH:Nat->Prop}{S:C Nat}
def _root_.Go.Ae.Bk.ex(h:Bk H r ty M)(y:r<H.next)(E:Ext H T):Bk T r ty M:=h.jb<|E.obj r y nofun
abbrev ack(tn:Nat)(H:R)(v:Z)(T:R):Prop:=∃(x:Z)(e:Int),v=.tuple ⟨[x,vi e]⟩/\(bK x).length=6/\all' fC (bK x)=f/\(e=0->acj tn H x T)
def amk(hw:Wf H){rz rv:Nat}{rn:Nat}{H1:R}(hG:Gr b H ra rn rcs na nn iK)(hC:BZ (b<=·) H rn rcs nn iK/\1<=rn/\Gb rcs 0=aC)(hV:Vo SH H va tn vcs)(G:F [] H H1 [(rz,27,[I Q 0 0,I Q 0 0,I Q 0 0,I Q 0 0,I Q 0 0,vi 0]),(rv,180,[I va tn vc]),(u,171,[I ra rn rc,I na nn nc])]){x6 x7 x9 iJ x34 Eh LW:Z}:
 gK Pg X (sub abE [1,1]) (Yf x0 x1 (pr u) (pr rv) (pr rz) (vi 0) x6 x7 x8 x9 iJ x34 Eh LW ni H1) (jL Pg [.cell 4 27,.tmp 5]<|Q1 (ack tn H) H):=by
 have g2:=hG.2.1;have g5:=hG.2.2.2.2.1;have⟨hC1,hC2,hC3⟩:=hC;refine tm ?_;refine G.cm (Up G.wf (hG.ex G.ext) (λi hi=>(hC1.1 i hi).ex G.ext) ⟨hV.1.ex G.ext,hV.2⟩) ?_;rintro v H2 ⟨rl,lcs,rfl,hl1,hl2,hl3,hl4,hl5⟩ hx2 G;have⟨kd,zs,hNd⟩:=Wp.of (SH:=(b<=·)) (H:=H) hC1.1;apply G.iI;refine G.cm (Uq G.wf (hG.ex G.ext) (hNd.ex G.ext) hl3 hl2 hl4 hl5) ?_;rintro v H3 ⟨rs,rr,ws,bs,rfl,⟨hs1,hs2⟩,⟨hr1,hr2⟩,hs3,hr3,hwl,hbl,hsz⟩ hx3 G;have hfs:je (λ_=>True) 3 H3 (D ⟨rs,0,Q⟩) nn 1 (fF ws):=hs3.Sj hs2 (by rw[dz,aK];exact hwl) trivial;have hfr:je (λ_=>True) 4 H3 (D ⟨rr,0,Q⟩) nn 1 (bools bs):=hr3.Sj hr2 (by rw[dz,aK];exact hbl) trivial;have hl3:=hl3.ex hl2 hx3;refine eU ?_;refine NG 5 9 11 36 (ai:=λm x5 x9 iJ LW T=>∃i,LW=B i/\i+m=rn/\x5=vi 0/\x9=B (min (Ff rcs ws i) 4001)/\Ext H3 T/\F [] H T [(rz,27,[I Q 0 0,I Q 0 0,I Q 0 0,I Q 0 0,I Q 0 0,vi 0]),(rv,180,[I va tn vc]),(u,171,[I ra rn rc,I na nn nc])]) ?_ rn ⟨0,rfl,N,rfl,rfl,Ext.refl _,G⟩;clear G;rintro m x5 x9 iJ LW ni H4 ⟨i,rfl,him,rfl,rfl,hx4,G⟩;refine kX (λhc=>?_) λhc=>?_
 .obtain rfl:i=rn:=N;refine q_ (λh4=>?_) λh4=>?_
  .refine PU.b6 O<|G.jH λHn G=>Lu.rr ?_;apply G.iI;exact⟨⟨_,_,O,O,O,λh=>absurd h mO⟩,G.ext⟩
  have ht:Ff rcs ws i<=4000:=N;refine eU ?_;have E:=hx3.trans hx4;refine aO.mono (UB G.wf (hG.ex G.ext) (hNd.ex G.ext) hC1.2 hC3 hC2 ⟨hl3.ex (aR hl2 hx3.next) hx4,aR hl2 E.next,hl4⟩ hl5 ⟨hs3.ex hs2 hx4,aR hs2 hx4.next,hwl⟩ hsz ht) ?_;rintro v H5 ⟨⟨A,q,rfl,hA,hok,hty⟩,hx5⟩;have hge:=G.ext.next
  have hlo:=G.lo;have G:=G.call hx5;have hO:=G.base;refine hO.st 0 O O (ax 6) O λH6 hO6=>?_
  have hA:=hA.stay hO6.ext (λr y=>by
   obtain⟨e,he,rfl⟩:=bQ.1 y;exact eO (hlo e he).2)
  have G:F [] H H6 [(rz,27,q.cells A),(rv,180,[I va tn vc]),(u,171,[I ra i rc,I na nn nc])]:=G.over hO6;refine Lu.rr ?_;exact G.iI<|⟨⟨_,_,O,O,O,λ_=>⟨A,q,rfl,hA.wk λr y=>N,hok,hty⟩⟩,G.ext⟩
 have hi:i<rn:=N;have⟨r1,o1,yJ,u1,f1,w1,c1,a1,e1,hl1,zP,tq,hsz1,hel⟩:=hG.ru hi rc;have hroot:=hC1.2 i hi;have htt:Ff rcs ws (i+1)=Ff rcs ws i+(if Gb rcs i=f then 0 else 2+h1 ws (rootOf rcs i).toNat):=rfl;rw[JI hel]at htt;obtain⟨k,hk⟩:∃k:Nat,rootOf rcs i=k:=⟨(rootOf rcs i).toNat,N⟩;have hkn:k<nn:=N;rw[e1];refine bG ?_;refine G.Aj zP hl1<|G.nI O O O λH5 ru G hx5=>?_;have G:F [] H H5 [(ru,234,wO yJ u1 f1 w1 c1 (rootOf rcs i) a1),(rz,27,[I Q 0 0,I Q 0 0,I Q 0 0,I Q 0 0,I Q 0 0,vi 0]),(rv,180,[I va tn vc]),(u,171,[I ra rn rc,I na nn nc])]:=G;have aeS:=hx4.trans hx5;rw[hk]at G htt;refine OP (λhb=>?_) λhb=>?_
 .rw[if_pos hb]at htt;refine dQ ?_;exact⟨rn-(i+1),N,_,_,_,_,_,_,O,i+1,og,N,O,by rw[htt];rfl,aeS,F.drop (A:=[_]) G⟩
 rw[if_neg (by rw[hb];simp)]at htt;refine G.pz<|(hfr.ex aeS).ix (k:=k) (v:=.bool<|bs[k]?.getD aC) hkn (by rw[bF,av (show k<bs.length by omega)];rfl) λp=>?_;refine qx (λhb2=>?_) λhb2=>?_
 .refine PU.b6 O<|G.jH λHn G=>Lu.rr ?_;apply G.iI;exact⟨⟨_,_,O,O,O,λh=>absurd h mO⟩,G.ext⟩
 have hWk:h1 ws k<=4001:=ako<|hsz k hkn;have hW2:h1 ws ((k:Int)).toNat=h1 ws k:=rfl;refine dQ ?_;refine G.pz<|(hfs.ex aeS).ix (k:=k) (v:=B<|h1 ws k) hkn (by rw[bF,av (show k<ws.length by omega)];show _=D (B<|ws[k]?.getD 0);rw[av (show k<ws.length by omega)];rfl) λp=>?_;refine dQ ?_;rw[min2];refine bG ?_;refine dQ ?_;exact⟨rn-(i+1),N,_,_,_,_,_,_,O,i+1,og,N,O,by rw[show min (((min (Ff rcs ws i) 4001:Nat):Int)+2+(h1 ws k:Int)) 4001=((min (Ff rcs ws<|i+1) 4001:Nat):Int) by omega],aeS,F.drop (A:=[_]) G⟩
end
section
variable{SH:Nat->Prop}{S:C Nat}
def Pe(hw:Wf H){rn:Nat}(hG:Gr b H ra rn rcs na nn iK)(hcap:na=Q\/nc=fJ 5)(hV:Vo SH H va tn vcs):
 aO Pg X 94 [gV ra rn rc na nn nc,vV va tn vc] H (Q1 (ack tn H) H):=by
 have G:=F.refl hw;refine jS [0,1,2,3,4,5,6,7,8,9,11,34,35,36] ?_;refine G.box O λH1 u G=>?_;refine G.box O λH2 rv G=>?_;refine G.iX λH3 rz G=>?_;refine eU ?_;have hG3:=hG.ex G.ext;refine aO.mono (Lj (nS H3) (show Gr b (hN H3) ra rn rcs na nn iK from hG3)) ?_;rintro v H4 ⟨⟨z,a,c,rfl,hcl⟩,hx4⟩;have aml:=G.ext;have G:=G.nH hx4;rw[EX];refine wR (λhc=>?_) λhc=>?_
 .refine splitK (λK hK=>?_) ?_
  .exact iD (by simp only[d_,fP hx4];rfl) hK
  refine PU.b6 O<|G.jH λHn G=>rr ?_;apply G.iI;exact⟨⟨_,_,O,O,O,λh=>absurd h mO⟩,G.ext⟩
 have hC:=hcl hc;have hC:BZ (b<=·) H rn rcs nn iK/\1<=rn/\Gb rcs 0=aC:=⟨BZ.back hG aml hC.1.1,hC.1.2.1,hC.2⟩;refine eU ?_;refine aO.mono (RF (nS _) (show Gr b (hN<|hM H3 H4) ra rn rcs na nn iK from(hG.ex G.ext:Gr b (hM H3 H4) ra rn rcs na nn iK)) hcap) ?_;rintro v H5 ⟨⟨ya,yn,yc,ycs,rfl,hY⟩,hx5⟩;have G:=G.nH hx5;refine eU ?_;refine aO.mono (Uo (nS _) (SH:=((hN<|hM H3 H4).next<=·)) (F':=SH) (a:=ya) (n:=yn) (c:=yc) (M:=ycs) (a':=va) (n':=tn) (c':=vc) (cs':=vcs) ?_ ?_) ?_
 .exact hY
 .exact⟨(show je SH 240 (hN<|hM (hM H3 H4) H5) va tn 4 vcs from(hV.1.ex G.ext:je SH 240 (hM (hM H3 H4) H5) va tn 4 vcs)),hV.2⟩
 rintro v H6 ⟨⟨bb,rfl⟩,hx6⟩;have G:=G.nH hx6;refine bG ?_;refine splitK (λK hK=>?_) ?_
 .exact iD (by simp only[d_,fP hx4,fP hx5,fP hx6];rfl) hK
 refine gF (λhb=>?_) λhb=>?_
 .refine PU.b6 O<|G.jH λHn G=>rr ?_;apply G.iI;exact⟨⟨_,_,O,O,O,λh=>absurd h mO⟩,G.ext⟩
 exact amk hw hG hC hV G
end
section
variable{SH:Nat->Prop}{S:C Nat}
def UC(hw:Wf H):aO Pg X 35 [q.v A] H (Q1 (λv _=>v=B A.ns) H):=by
 have G:=F.refl hw;refine jS [0,1,2] ?_;refine G.box O λH1 u G=>?_;refine eU ?_;refine rr ?_;exact⟨O,G.ext⟩
abbrev akw(H:R)(v:Z)(T:R):Prop:=∃(A:At)(q:AV),v=q.v A/\sQ (H.next<=·) T A q/\A.Ok/\A.ns<=1000/\A.ty<=5000
theorem YM(hw:Wf H)(hT:BV H)(s:aV):aO Pg X 68 [.string s] H (Q1 (λv T=>∃(x:Z)(ok:Int),v=.tuple ⟨[x,vi ok]⟩/\(bK x).length=6/\all' fC (bK x)=f/\(ok≠0->akw H x T)) H):=by
 have G:=F.refl hw;refine jS [0,2,3,4,5,6,7] ?_;refine G.iX λH1 rz G=>?_;refine rV (λhc=>?_) λhc=>?_
 .refine PU.b6 O<|G.jH λHn G=>rr ?_;exact G.iI<|⟨⟨_,_,O,O,O,λh=>absurd O h⟩,G.ext⟩
 refine G.cm (MF G.wf (hT.ex G.ext) s) ?_;rintro v H2 ⟨ra,rn,rc,rcs,na,nn,nc,iK,cd,e,rfl,hG,hcap⟩ hx2 G;refine G.kL ?_;have hS0:=G;have G:=F.refl hS0.wf;refine G.iX λH3 u G=>G.iX λH4 re G=>?_;refine G.kL ?_;refine G.jH λHn G=>?_;refine G.jH λHn G=>?_;refine eU ?_;have amn:=G.ext;have G:F [] H _ [(re,173,[vi cd,vi e]),(u,171,[I ra rn rc,I na nn nc]),(rz,27,[I Q 0 0,I Q 0 0,I Q 0 0,I Q 0 0,I Q 0 0,vi 0])]:=F.frame (cs:=[]) hS0 G;refine dN (λhc=>?_) λhc=>?_
 .refine PU.b6 O<|G.jH λHn G=>rr ?_;exact G.iI<|⟨⟨_,_,O,O,O,λh=>absurd O h⟩,G.ext⟩
 have hG3:Gr H1.next Hn ra rn rcs na nn iK:=hG.ex amn
 refine eU ?_;refine aO.mono (RF (nS _) (show Gr H1.next (hN Hn) ra rn rcs na nn iK from hG3) hcap) ?_;rintro v H5 ⟨⟨ya,yn,yc,ycs,rfl,hY⟩,hx5⟩;have G:=G.nH hx5;have hlo:=G.lo;have hge:=G.ext.next
 refine aO.mono (Pe (nS _) (SH:=((hN Hn).next<=·)) (show Gr H1.next (hN<|hM Hn H5) ra rn rcs na nn iK from(hG3.ex hx5.draw:Gr H1.next (hM Hn H5) ra rn rcs na nn iK)) hcap hY) ?_;rintro v H6 ⟨⟨x,e,rfl,LY,T_,hA⟩,hx6⟩;have G:=G.nH hx6;refine bG ?_;have hS0:=G;have G:=F.refl hS0.wf;refine G.Yz λH7 rm G f7=>?_
 have hnr:rm≠u:=by
  have W:=G.wQ<|aN ..
  have J:=(hS0.lo _<|aS (i:=1) O).2;intro h;subst h;exact eP W J
 refine G.mh (hl:=LY) (hk:=T_) λH8 G=>?_;refine splitK (λK hK=>?_) ?_
 .simp only[d_,fP hx5,fP hx6,f7,fK];rw[fU,LY];apply lQ (a:=rm) (b:=u) hnr xN jr jr hK
 have hxB:=G.ext;have G:=F.frame (cs:=[]) hS0 G;simp only[bI,bN]at G;refine dN (λhc=>?_) λhc=>?_
 .refine PU.b6 O<|G.jH λHn G=>rr ?_;exact G.iI<|⟨⟨_,_,O,O,O,λh=>absurd O h⟩,G.ext⟩
 obtain⟨A,q,rfl,hA,hok,hty⟩:=hA hc;have G:F [] H _ [(rm,27,q.cells A),(re,173,[vi cd,vi _]),(u,171,[I ra rn rc,I na nn nc]),(rz,27,[I Q 0 0,I Q 0 0,I Q 0 0,I Q 0 0,I Q 0 0,vi 0])]:=G;apply G.iI;refine G.cm (UC G.wf) ?_;rintro v H9 rfl NN G;refine rV (λhc=>?_) λhc=>?_
 .refine PU.b6 O<|G.jH λHn G=>rr ?_;exact G.iI<|⟨⟨_,_,O,O,O,λh=>absurd O h⟩,G.ext⟩
 have hA:sQ ((hM Hn H5).next<=·) (hM (hM Hn H5) H6) A q:=⟨hA.n,hA.s,hA.p,hA.o,hA.e⟩;have hA:=(hA.ex hxB).ex NN;have G:=G.perm (L':=[(rz,27,[I Q 0 0,I Q 0 0,I Q 0 0,I Q 0 0,I Q 0 0,vi 0])]++[(rm,27,q.cells A),(re,173,[vi cd,vi _]),(u,171,[I ra rn rc,I na nn nc])])<|aG (l₁:=[_,_,_]);refine G.rZ 1 O (ax 6) ?_;have hO:=F.own G;refine hO.st 0 O O (ax 6) O λDq hO=>?_
 have hA:=hA.stay hO.ext (λr y=>by
  obtain rfl:r=rz:=aP.1 y;exact eO (hlo _<|aS (i:=2) O).2)
 have G:F [] H Dq [(rz,27,q.cells A),(rm,27,q.cells A),(re,173,[vi cd,vi _]),(u,171,[I ra rn rc,I na nn nc])]:=F.frame G hO;refine rr ?_;exact G.rZ 0 O (ax 6)<|⟨⟨_,_,O,O,O,λ_=>⟨A,q,rfl,hA.wk λr y=>a_ hge y,hok,N,by have:=hY.2.1;omega⟩⟩,G.ext⟩
end
section
section laid
variable{S:C Nat}{es c:Nat}{a:aB Addr}{xs:C Z}{K:Z->R->Prop}
def _root_.Go.Ae.F.apG(G:F S H0 H L)(he:0<es)(E:Fl H a n es xs)(hn:n<=16777216)(k:∀v' H1 gQ,GB ty es v' xs gQ->F S H0 H1 (gQ++L)->Ext H H1->K v' H1):ME (zY ty es (I Q 0 0) (I a n c) H) K:=by
 rw[C5 (.inl O) (yj E he) hn];split
 .next h0=>
  subst h0;obtain rfl:xs=[]:=dR.1 (by have:=E.1;omega);exact k _ H [] (GB.nil _ _) G<|Ext.refl _
 .next h0=>exact k _ _ [(H.next,ty,xs)] (.inr ⟨H.next,n,[],O,E.1,by simp⟩) (G.grow ty xs)<|Ext.new _ _
def _root_.Go.Ae.F.amo(G:F S H0 H L)(he:0<es)(E:Fl H a n es xs)(hn:n<=16777216)(k:∀v' H1 gQ,GB ty es v' xs gQ->F S H0 (hM H H1) (gQ++L)->Ext (hN H) H1->K v' H1):ME (zY ty es (I Q 0 0) (I a n c)<|hN H) K:=by
 have hx':Fl (hN H) a n es xs:=E;rw[C5 (.inl O) (yj hx' he) hn];split
 .next h0=>
  subst h0;obtain rfl:xs=[]:=dR.1 (by have:=E.1;omega);refine k _ (hN H) [] (GB.nil _ _) ?_<|Ext.refl _;rw[gN G.wf];exact G
 .next h0=>exact k _ _ [(H.next,ty,xs)] (.inr ⟨H.next,n,[],O,E.1,by simp⟩) (G.yG ty xs)<|Ext.new _ _
end laid
variable{SH:Nat->Prop}{S:C Nat}
def Own(A:At)(M:C Z)(cs:C dL):Prop:=M.length=6/\all' fC M=f/\∀r,Bd r A<|(r,27,M)::cs
def Own.of{nv sv pv ov ev:Z}{gn gs gp go ge az:C dL}(W:GB 9 1 nv (A.nm.map .string) gn)(J:GB 3 1 sv (fF A.st) gs)(h3:GB 3 1 pv (fF A.sp) gp)(h4:GB 3 1 ov (fF A.ow) go)(h5:GB 119 1 ev evs ge)(h6:IB 121 3 (A.eg.map zQ) evs az):Own A [nv,sv,pv,ov,ev,B A.ty] (gn++(gs++(gp++(go++(ge++az))))):=by
 refine⟨O,?_,λr=>⟨nv,sv,pv,ov,ev,evs,gn,gs,gp,go,ge,az,rfl,W,J,h3,h4,h5,h6⟩⟩;have e1:=W.sl;have e2:=J.sl;have e3:=h3.sl;have e4:=h4.sl;have e5:=h5.sl;obtain⟨_,_,_,rfl⟩:=e1;obtain⟨_,_,_,rfl⟩:=e2;obtain⟨_,_,_,rfl⟩:=e3;obtain⟨_,_,_,rfl⟩:=e4;obtain⟨_,_,_,rfl⟩:=e5;rfl
def aeT(hl:A.eg.length=A.ns)(hi:i<A.ns):(A.eg.take<|i+1).map zQ=(A.eg.take i).map zQ++[zQ (A.hx i)]:=by
 have h:i<A.eg.length:=N;unfold At.hx;rw[eH,av h,dA];rfl
def agE(a b c d e ay:C dL):(a++(b++(c++(d++(e++ay))))).Perm (ay++(e++(d++(c++(a++b))))):=by
 have W:=aG (l₁:=a++(b++(c++(d++e)))) (l₂:=ay);have J:=aG (l₁:=a++(b++(c++d))) (l₂:=e);have h3:=aG (l₁:=a++(b++c)) (l₂:=d);have h4:=aG (l₁:=a++b) (l₂:=c);simp only[bU]at W J h3 h4;exact W.trans<|gD ay<|J.trans<|gD e<|h3.trans<|gD d h4
def NU(hw:Wf H)(h:sQ SH H A q)(ho:A.Ok):aO Pg X 54 [q.v A] H λv T=>∃M M',v=.agg ⟨M⟩/\Own A M M'/\F [] H T M':=by
 have G:=F.refl hw;have hbig:=ho.big;have Lm:=ho.few;refine jS [0,1,2,3,5,34,35,36] ?_;refine G.box O λH1 u G=>?_;have G:F [] H H1 [(u,27,[I q.na A.nr q.nc,I q.sa A.nr q.sc,I q.pa A.nr q.pc,I q.oa A.ns q.oc,I q.ea A.ns q.ec,B A.ty])]:=G;refine G.iX λH2 rz G=>?_;refine eU ?_;refine G.iX λH3 rt G=>?_;refine G.kL ?_;refine G.jH λHn G=>?_;refine eU ?_;refine G.apG N (h.ex G.ext).n.1 N λnv H4 gn hgn G _=>?_;have G:=G.perm<|iG gn [_,_,_] [];simp only[bq,bI,bN]at G;have W:=hgn.sl;obtain⟨na,nn,nc,rfl⟩:=W;refine G.jH λHn G=>?_;refine eU ?_;refine G.apG N (h.ex G.ext).s.1 N λsv H5 gs hgs G _=>?_;have G:=G.perm<|iG gs [_,_,_] gn;simp only[bq,bI,bN]at G;have W:=hgs.sl;obtain⟨sa,sn,sc,rfl⟩:=W;refine G.jH λHn G=>?_;refine eU ?_;refine G.apG N (h.ex G.ext).p.1 N λpv H6 gp RQ G _=>?_;have G:=G.perm<|iG gp [_,_,_]<|gs++gn;simp only[bq,bI,bN]at G;have W:=RQ.sl;obtain⟨pa,pn,pc,rfl⟩:=W;refine G.jH λHn G=>?_;refine eU ?_;refine G.apG N (h.ex G.ext).o.1 N λov H7 go hgo G _=>?_;have G:=G.perm<|iG go [_,_,_]<|gp++(gs++gn);simp only[bq,bI,bN]at G;have W:=hgo.sl;obtain⟨oa,on,oc,rfl⟩:=W;refine G.jH λHn G=>?_;refine eU ?_;refine lp2 5 36 (ai:=λm x5 LW T=>∃i ev evs ge az,LW=B i/\i+m=A.ns/\GB 119 1 ev evs ge/\IB 121 3 ((A.eg.take i).map zQ) evs az/\F [] H T ((rt,27,[I na nn nc,I sa sn sc,I pa pn pc,I oa on oc,ev,B A.ty])::(rz,27,[I Q 0 0,I Q 0 0,I Q 0 0,I Q 0 0,I Q 0 0,vi 0])::(u,27,[I q.na A.nr q.nc,I q.sa A.nr q.sc,I q.pa A.nr q.pc,I q.oa A.ns q.oc,I q.ea A.ns q.ec,B A.ty])::(ge++(az++(go++(gp++(gs++gn))))))) ?_ A.ns ⟨0,_,[],[],[],rfl,N,GB.nil _ _,rfl,G⟩;clear G;rintro m x5 LW ni H8 ⟨i,ev,evs,ge,az,rfl,him,hge,hR,G⟩;have hE:evs.length=min i A.ns:=by rw[<-hR.len,aK,dF,ho.Ac]
 refine kX (λhc=>?_) λhc=>?_
 .obtain rfl:i=A.ns:=N;refine tl ?_;rw[cO (by rw[ho.Ac];omega)]at hR;have hown:=Own.of hgn hgs RQ hgo hge hR;have W:=hge.sl;obtain⟨ea,en,ec,rfl⟩:=W;refine G.iI<|G.jH λHn G=>rr ?_;refine eU ?_;exact⟨_,_,O,hown,(F.drop (A:=[_,_,_]) G).perm<|agE ge az go gp gs gn⟩
 have hi:i<A.ns:=N;refine h.ldE G.ext hi λp a c hf=>?_;refine eU ?_;refine G.amo N (hf.ex G.ext).1 (by have:=ho.len i;omega) λv2 H9 gr hgr G NN=>?_;have W:=hgr.sl;obtain⟨ra,rn,rc,rfl⟩:=W;refine G.PL O O O N λDq rx G tq=>?_
 have G:=G.perm (L':=(rx,119,bK<|I ra rn rc)::(ge++([(rt,27,[I na nn nc,I sa sn sc,I pa pn pc,I oa on oc,ev,B A.ty]),(rz,27,[I Q 0 0,I Q 0 0,I Q 0 0,I Q 0 0,I Q 0 0,vi 0]),(u,27,[I q.na A.nr q.nc,I q.sa A.nr q.sc,I q.pa A.nr q.pc,I q.oa A.ns q.oc,I q.ea A.ns q.ec,B A.ty])]++(gr++(az++(go++(gp++(gs++gn)))))))) (by
  refine dS _ ?_;have p1:=iG (gr++[(rt,27,[I na nn nc,I sa sn sc,I pa pn pc,I oa on oc,ev,B A.ty]),(rz,27,[I Q 0 0,I Q 0 0,I Q 0 0,I Q 0 0,I Q 0 0,vi 0]),(u,27,[I q.na A.nr q.nc,I q.sa A.nr q.sc,I q.pa A.nr q.pc,I q.oa A.ns q.oc,I q.ea A.ns q.ec,B A.ty])]) ge<|az++(go++(gp++(gs++gn)));have p2:=iG gr [(rt,27,[I na nn nc,I sa sn sc,I pa pn pc,I oa on oc,ev,B A.ty]),(rz,27,[I Q 0 0,I Q 0 0,I Q 0 0,I Q 0 0,I Q 0 0,vi 0]),(u,27,[I q.na A.nr q.nc,I q.sa A.nr q.sc,I q.pa A.nr q.pc,I q.oa A.ns q.oc,I q.ea A.ns q.ec,B A.ty])]<|az++(go++(gp++(gs++gn)));simp only[bU]at p1;exact p1.trans<|gD ge p2)
 refine hge.FM G N O O N λv' Sn ge' hge' G _ _ vT=>?_;have W:=hge'.sl;obtain⟨ea,en,ec,rfl⟩:=W;have G:=G.perm<|iG ge' [_,_,_] _;simp only[bq,bI,bN]at G;refine G.mh λH12 G=>?_;refine splitK (λK hK=>?_) ?_
 .simp only[tq,d_,fP NN,fK];rcases vT with e|e<;>rw[e]<;>apply EL (a:=rt) xN jr jr hK
 refine dQ ?_;refine⟨A.ns-(i+1),N,_,_,_,_,O,i+1,_,_,ge',az++gr,og,N,hge',?_,G.perm ?_⟩
 .rw[aeT ho.Ac hi];exact hR.snoc hgr
 .refine(gD [_,_,_]<|gD ge' ?_);rw[bU];exact iG gr az _
end
section
variable{SH:Nat->Prop}{S:C Nat}
def _root_.Go.Proofs.Lv.Bs.n'(h:Bs b H n v mk):Bs b (hN H) n v mk:=h
def _root_.Go.Ae.Fg{c:Cl}{l:C Cl}(h:c.k≠2/\c.k≠3):noTwo (c::l)=noTwo l:=by
 unfold noTwo;rw[all_eq,all_eq,w9];have J:aA c.k 2=aC:=by rw[<-b_];intro e;exact h.1<|aW e
 have h3:aA c.k 3=aC:=by rw[<-b_];intro e;exact h.2<|aW e
 rw[J,h3];rfl
def _root_.Go.Ae.zI(n:Nat)(p:Z)(H:R)(l:C Cl):noTwo (clL n p H (hN H)::l)=noTwo l:=by
 refine Fg ?_
 have:clL n p H (hN H)=(aL (qC p) λa=>D<|Cl.mk 4 a.block a.off n hh0 hh0).getD (cl 1):=by
  show bV (aD H.next H.next) _ _=_;rw[aI (ax _)];rfl
 rw[this];cases qC p with
 |none=>exact⟨by show(1:Nat)≠2;decide,by show(1:Nat)≠3;decide⟩
 |some a=>exact⟨by show(4:Nat)≠2;decide,by show(4:Nat)≠3;decide⟩
def _root_.Go.Ae.B_(l:C Cl):noTwo (cl 0::l)=noTwo l:=Fg ⟨by decide,by decide⟩
def _root_.Go.Ae.aeU(l:C Cl):noTwo (cl 1::l)=noTwo l:=Fg ⟨by decide,by decide⟩
def _root_.Go.Ae.xM:noTwo []=f:=rfl
def UD{rm:Nat}(hrm:H.cell rm 0=D v)(hrl:rm<H.next)(hrg:H.cell u 1=D (I q.sa A.nr q.sc))(hgl:u<H.next)(hA:sQ SH H A q)(hl:Bs b H A.ns v mk)(ho:A.Ok)(hmk:∀s,on mk s<->A.Mk f s):
 Wnt A A.leads H (.func (.func 78) ⟨[]⟩ ⟨[pr rm,pr u]⟩):=by
 intro T s e E hw he;have hl:=hl.ex E;have hA:=hA.ex E;have hs:=ho.lt he;have⟨he1,_,he3⟩:=ho.e s hs e he;have hrm:T.cell rm 0=D v:=(kr (E.obj rm hrl kg) 0).trans hrm;have hrg:T.cell u 1=D (I q.sa A.nr q.sc):=(kr (E.obj u hgl kg) 1).trans hrg;have hrl:=aR hrl E.next
 have hgl:=aR hgl E.next
 show aO Pg X 78 [_,pr rm,pr u] T _;have G:=F.refl hw;refine jS [0,1,2,3,4] ?_;refine G.box O λH1 rb G=>?_;have G:F [] T H1 [(rb,121,[B e.1,B e.2.1,B e.2.2])]:=G;have hl1:=(hl.ex G.ext).n';have hA1:=(hA.ex G.ext).n';obtain⟨ea,ec,rfl,_⟩:=id hl;refine G.GU hrm hrl ?_;refine eU ?_;refine hl1.at he1 λp t ht=>?_
 try simp only[gN G.wf]
 refine gF (λhb=>?_) λhb=>?_
 .refine Mq (λhc=>?_) λhc=>?_
  .refine splitK (λK hK=>?_) ?_
   .exact iD (by simp only[zI,B_,xM]) hK
   refine rr ?_;exact⟨⟨f,O,λ_=>⟨(hmk _).1<|ht.1 hb,λh=>absurd N hc⟩,λ_=>rfl⟩,G.ext⟩
  have hca:=ho.call he N;refine G.GU hrm hrl ?_;refine G.kL ?_;refine G.GU hrg hgl ?_;refine eU ?_;refine hA1.ldS ho hca λp=>?_
  try simp only[gN G.wf]
  refine hl1.at (ho.s _ hca).1 λp t2 ht2=>?_
  try simp only[gN G.wf]
  refine splitK (λK hK=>?_) ?_
  .exact iD (by simp only[zI,B_,xM]) hK
  refine rr ?_;exact⟨⟨t2,O,λh=>⟨(hmk _).1<|ht.1 hb,λ_=>(hmk _).1<|ht2.1 h⟩,λh=>ht2.2<|(hmk _).2<|h.2 N⟩,G.ext⟩
 .refine splitK (λK hK=>?_) ?_
  .exact iD (by simp only[zI,B_,xM]) hK
  refine rr ?_;refine⟨⟨aC,O,λh=>(by cases h),λh=>?_⟩,G.ext⟩;rw[hb]at ht;exact absurd (ht.2<|(hmk _).2 h.1) kg
end
section
variable{SH:Nat->Prop}{S:C Nat}
theorem acm{re:Nat}{e:Ed}(hB:Bd rt H' cs)(G:F S H0 H<|cs++((re,121,[B e.1,B e.2.1,B e.2.2])::L))(hs:s<H'.ns)(hl:H'.eg.length=H'.ns)(ht:(H'.hx s).length<=1000000){x2 x3 x4 x5 Yc x27 x28 Aq x38 x39:Z}{K:Out->Prop}(hlk:Bc ni 51=.bool f)(kk:∀ni T M',Bd rt (H'.pu s e) M'->F S H0 T (M'++((re,121,[B e.1,B e.2.1,B e.2.2])::L))->K (.norm<|Dg x0 x1 x2 x3 x4 x5 (pr rt) (B s) x8 (pr re) Yc x27 x28 Aq x38 x39 ni T)):
 gK Pg X (sub Mt [1,1,1,1,1,1,0,1,0,0,1,1,0,0,1,1,1,0,0,1,1,0,0,1,1]) (Dg x0 x1 x2 x3 x4 x5 (pr rt) (B s) x8 (pr re) Yc x27 x28 Aq x38 x39 ni H) K:=by
 obtain⟨nv,sv,pv,ov,ev,evs,gn,gs,gp,go,ge,az,rfl,hgn,hgs,RQ,hgo,hge,hR⟩:=hB;have hev:evs.length=H'.ns:=by rw[<-hR.len,aK,hl]
 rcases hge with⟨_,h0,_⟩|⟨rE,n,eB,rfl,hn,rfl⟩
 .rw[h0]at hev;simp at hev;omega
 obtain rfl:n=H'.ns:=N;obtain⟨A',gb,vn,rfl,hgb,hput⟩:=hR.at s N
 have hE:(H'.eg.map zQ)[s]?.getD []=zQ (H'.hx s):=by
  unfold At.hx;rw[bF,av (show s<H'.eg.length by omega)];rfl
 rw[hE]at hgb;have hv0:(evs++eB)[s]?=D evs[s]:=by rw[bM N];exact av N
 have G:F S H0 H ((re,121,[B e.1,B e.2.1,B e.2.2])::(rt,27,[nv,sv,pv,ov,I (D ⟨rE,0,Q⟩) H'.ns<|fJ 1,B H'.ty])::(rE,119,evs++eB)::(gb++((gn++(gs++(gp++go)))++(A'++(vn++L))))):=G.perm (by
  have p0:=iG ((rt,27,[nv,sv,pv,ov,I (D ⟨rE,0,Q⟩) H'.ns<|fJ 1,B H'.ty])::(gn++(gs++(gp++(go++([(rE,119,evs++eB)]++(A'++(gb++vn)))))))) [(re,121,[B e.1,B e.2.1,B e.2.2])] L;have p1:=iG (gn++(gs++(gp++go))) [(rE,119,evs++eB)]<|A'++(gb++(vn++L));have p2:=iG ((gn++(gs++(gp++go)))++A') gb<|vn++L;simp only[bU,bI,bN]at p0 p1 p2|-;exact p0.trans<|((p1.trans<|p2.cons _).cons _).cons _)
 refine tl ?_;rw[hlk];refine gF (λ_=>?_) (λhb=>by cases hb);refine eU ?_;refine G.Uw hs hv0<|eU ?_;refine G.PL O O O N λH2 rx G tq=>?_;have hS0:=G;have G:=(G.to (cs':=[B e.1,B e.2.1,B e.2.2]) O).perm (L':=(rx,121,[B e.1,B e.2.1,B e.2.2])::(gb++([(re,121,[B e.1,B e.2.1,B e.2.2]),(rt,27,[nv,sv,pv,ov,I (D ⟨rE,0,Q⟩) H'.ns<|fJ 1,B H'.ty]),(rE,119,evs++eB)]++((gn++(gs++(gp++go)))++(A'++(vn++L))))))<|(iG [_,_,_] gb _).cons _;refine hgb.FM G N O O (by rw[JK];omega) λv' H3 gQ hgb' G _ _ vT=>?_;have G:=G.perm<|iG gQ [_,_,_] _;simp only[bI,bN]at G;have hS1:=G;obtain⟨va,vl,vc,rfl⟩:=hgb'.sl;refine G.RO hs (by rw[aQ];omega) (kk:=λH4 G=>?_);have n1:re≠rt:=G.nq 0 1 O O N;have n2:re≠rE:=G.nq 0 2 O O N;have n3:rt≠rE:=G.nq 1 2 O O N;refine splitK (λK hK=>?_) ?_
 .have r1:∀{o n:Nat}{a b:R},o+n<=3->mY ⟨2,0,0,0,hM H H2,H3⟩ ⟨4,re,o,n,a,b⟩=f:=λh=>pP (hS0.get 1 O) ((hS1.get 0 O).jb O) h (Gf ⟨_,_,_,rfl⟩)
  have r2:∀{a b:R},mY ⟨2,0,0,0,hM H H2,H3⟩ ⟨4,rt,4,1,a,b⟩=f:=λ{a b}=>pP (hS0.get 2 O) ((hS1.get 1 O).jb O) (by show 4+1<=6;omega) (by
   intro v hv;have hv:v∈[I (D ⟨rE,0,Q⟩) H'.ns (fJ 1)]:=hv;rw[aP]at hv;subst hv;exact oF _ _ _ λx h=>by cases h;rfl)
  have r3:∀{a b:R},mY ⟨2,0,0,0,hM H H2,H3⟩ ⟨4,rE,s,1,a,b⟩=f:=λ{a b}=>pP (hS0.get 3 O) ((hS1.get 2 O).jb O) (by rw[aQ];omega) (by
   intro v hv
   have:v=evs[s]:=by
    have W:((evs++eB).drop s).take 1=[evs[s]]:=by
     rw[dY (by rw[aQ];omega),jg,kC,iL N]
    rw[W,aP]at hv;exact hv
   subst this;exact AY hR _<|bB _)
  simp only[tq,d_,fK];rcases vT with e|e<;>rw[e]<;>apply OQ (A:=hM H H2) (vn:=H3) (a:=re) (b:=rt) (c:=rE) n1 n2 n3 (by rfl) jr jr hK<;>repeat' apply ik
  all_goals first|exact trivial|(intro h;cases h;done)|exactλ_=>⟨rfl,rfl⟩|exactλ_=>r1 N|exactλ_=>r2|exactλ_=>r3
 refine kk _ _ ((rt,27,[nv,sv,pv,ov,I (D ⟨rE,0,Q⟩) H'.ns<|fJ 1,B H'.ty])::(gn++(gs++(gp++(go++([(rE,119,evs.set s (I va vl vc)++eB)]++(A'++(gQ++vn)))))))) ⟨nv,sv,pv,ov,_,evs.set s<|I va vl vc,gn,gs,gp,go,_,A'++(gQ++vn),O,hgn,hgs,RQ,hgo,.inr ⟨rE,H'.ns,eB,O,by rw[bJ];omega,rfl⟩,?_⟩ ?_
 .have:=hput (I va vl vc) (zQ<|H'.hx s++[e]) gQ (by rw[Pd];exact hgb');have e2:(H'.pu s e).eg.map zQ=(H'.eg.map zQ).set s (zQ<|H'.hx s++[e]):=fZ;rw[e2];exact this
 .rw[lW _ _ N]at G;refine G.perm<|sU ?_;have p0:=iG ((rt,27,[nv,sv,pv,ov,I (D ⟨rE,0,Q⟩) H'.ns<|fJ 1,B H'.ty])::(gn++(gs++(gp++(go++([(rE,119,evs.set s (I va vl vc)++eB)]++(A'++(gQ++vn)))))))) [(re,121,[B e.1,B e.2.1,B e.2.2])] L;have p1:=iG (gn++(gs++(gp++go))) [(rE,119,evs.set s (I va vl vc)++eB)]<|A'++(gQ++(vn++L));have p2:=iG ((gn++(gs++(gp++go)))++A') gQ<|vn++L;simp only[bU,bI,bN]at p0 p1 p2|-;exact p0.trans<|((p1.trans<|p2.cons _).cons _).cons _
def At.cl(H':At)(s:Nat):At:={H' with eg:=H'.eg.set s []}
def acn(hB:Bd rt H' cs)(G:F S H0 H<|cs++L)(hs:s<H'.ns)(hl:H'.eg.length=H'.ns){K:Z->Z->Z->R->Prop}(kk:∀v p rg T M',Bd rt (H'.cl s) M'->F S H0 T (M'++L)->K v p rg T):
 ME (Go.Ae.vH Q (.pointer<|D ⟨rt,4,Q⟩) H) λv H1=>PU (zN 1 v<|B s) λp=>ME (Go.Ae.CW 1 p (I Q 0 0) H1) λrg H2=>K v p rg H2:=by
 obtain⟨nv,sv,pv,ov,ev,evs,gn,gs,gp,go,ge,az,rfl,hgn,hgs,RQ,hgo,hge,hR⟩:=hB;have hev:evs.length=H'.ns:=by rw[<-hR.len,aK,hl]
 rcases hge with⟨_,h0,_⟩|⟨rE,n,eB,rfl,hn,rfl⟩
 .rw[h0]at hev;simp at hev;omega
 obtain rfl:n=H'.ns:=N;obtain⟨A',gb,vn,rfl,hgb,hput⟩:=hR.at s N
 have G:F S H0 H ((rt,27,[nv,sv,pv,ov,I (D ⟨rE,0,Q⟩) H'.ns<|fJ 1,B H'.ty])::(rE,119,evs++eB)::(gb++((gn++(gs++(gp++go)))++(A'++(vn++L))))):=G.perm (by
  have p1:=iG (gn++(gs++(gp++go))) [(rE,119,evs++eB)]<|A'++(gb++(vn++L));have p2:=iG ((gn++(gs++(gp++go)))++A') gb<|vn++L;simp only[bU,bI,bN]at p1 p2|-;exact(p1.trans<|p2.cons _).cons _)
 apply G.pz;refine G.Zg hs (by rw[aQ];omega) (kk:=λp H4 G=>?_);have G:F S H0 H4 ((rt,27,[nv,sv,pv,ov,I (D ⟨rE,0,Q⟩) H'.ns<|fJ 1,B H'.ty])::(rE,119,(evs++eB).set s<|I Q 0 0)::(gb++((gn++(gs++(gp++go)))++(A'++(vn++L))))):=G;refine kk _ p undef H4 ((rt,27,[nv,sv,pv,ov,I (D ⟨rE,0,Q⟩) H'.ns<|fJ 1,B H'.ty])::(gn++(gs++(gp++(go++([(rE,119,evs.set s (I Q 0 0)++eB)]++(A'++([]++vn)))))))) ⟨nv,sv,pv,ov,_,evs.set s<|I Q 0 0,gn,gs,gp,go,_,A'++([]++vn),O,hgn,hgs,RQ,hgo,.inr ⟨rE,H'.ns,eB,O,by rw[bJ];omega,rfl⟩,?_⟩ ?_
 .have:=hput (I Q 0 0) (zQ []) [] (GB.nil _ _);have e2:(H'.cl s).eg.map zQ=(H'.eg.map zQ).set s (zQ []):=fZ;rw[e2];exact this
 .rw[lW _ _ N]at G;have G:=F.drop (A:=gb)<|G.perm<|iG [_,_] gb _;refine G.perm<|sU ?_;have p1:=iG (gn++(gs++(gp++go))) [(rE,119,evs.set s (I Q 0 0)++eB)]<|A'++(vn++L);simp only[bU,bI,bN]at p1|-;exact p1.cons _
end
section
variable{SH:Nat->Prop}{S:C Nat}
namespace At
variable{i j:Nat}
variable{k:Nat}
structure PM(A H':At)(i:Nat):Prop where
 nm:H'.nm=A.nm
 st:H'.st=A.st
 sp:H'.sp=A.sp
 ow:H'.ow=A.ow
 ty:H'.ty=A.ty
 Ac:H'.eg.length=A.ns
 e:∀s,s<i->H'.hx s=A.LZ s
open Classical in
def Gg(A:At)(i j:Nat):C Ed:=if A.met i then((A.hx i).take j).filter (λe=>decide<|A.leads e)else[]
def ah1(i:Nat):A.Gg i 0=[]:=by unfold Gg;rw[kC,List.filter_nil];split<;>rfl
def aco(i:Nat):A.Gg i (A.hx i).length=A.LZ i:=by unfold Gg LZ;rw[qO]
def acp(i j:Nat):(A.Gg i j).length<=(A.hx i).length:=by
 classical
 unfold Gg;split
 .exact a_ (nK _ _) (by rw[dF];omega)
 .exact bA _
def aeV(hj:j<(A.hx i).length)(hm:A.met i)(hl:A.leads (A.hx i)[j]):A.Gg i (j+1)=A.Gg i j++[(A.hx i)[j]]:=by
 unfold Gg;rw[if_pos hm,if_pos hm,eH,av hj,sK];congr 1;show List.filter _ [_]=_;rw[oh,if_pos<|mg hl];rfl
def RV(hj:j<(A.hx i).length)(h:¬(A.met i/\A.leads (A.hx i)[j])):A.Gg i (j+1)=A.Gg i j:=by
 unfold Gg
 by_cases hm:A.met i
 .rw[if_pos hm,if_pos hm,eH,av hj,sK]
  have:List.filter (λe=>@decide (A.leads e)<|Classical.propDecidable _) (D (A.hx i)[j]).toList=[]:=by
   show List.filter _ [_]=_;rw[oh,if_neg<|by simpa usingλhl=>h ⟨hm,hl⟩];rfl
  rw[this,bq]
 .rw[if_neg hm,if_neg hm]
def PM.ns(h:PM A H' k):H'.ns=A.ns:=dW gB h.ow
def PM.init(ho:A.Ok):PM A A 0:=⟨O,O,O,O,O,ho.Ac,λs h=>absurd h<|jZ s⟩
def akx(hl:H'.eg.length=H'.ns)(hi:i<H'.ns)(t:Nat):(H'.cl i).hx t=if t=i then[]else H'.hx t:=by
 show(H'.eg.set i [])[t]?.getD []=_;rw[dG]
 by_cases h:i=t
 .subst h;rw[if_pos O,if_pos N,if_pos O];rfl
 .rw[if_neg h,if_neg λe=>h e.symm];rfl
theorem PM.cl(h:PM A H' i)(hi:i<A.ns):PM A (H'.cl i) i/\(H'.cl i).hx i=A.Gg i 0:=by
 have hl:H'.eg.length=H'.ns:=h.Ac.trans h.ns.symm;refine⟨⟨h.nm,h.st,h.sp,h.ow,h.ty,(bJ ..).trans h.Ac,λs hs=>?_⟩,?_⟩
 .rw[akx hl (by rw[h.ns];exact hi),if_neg N];exact h.e s hs
 .rw[akx hl (by rw[h.ns];exact hi),if_pos O,ah1]
theorem PM.pu(h:PM A H' i)(hi:i<A.ns)(e:Ed):PM A (H'.pu i e) i/\(H'.pu i e).hx i=H'.hx i++[e]:=by
 have hl:H'.eg.length=H'.ns:=h.Ac.trans h.ns.symm;refine⟨⟨h.nm,h.st,h.sp,h.ow,h.ty,(bJ ..).trans h.Ac,λs hs=>?_⟩,?_⟩
 .rw[ahW hl (by rw[h.ns];exact hi),if_neg N];exact h.e s hs
 .rw[ahW hl (by rw[h.ns];exact hi),if_pos O]
def PM.succ(h:PM A H' i)(he:H'.hx i=A.LZ i):PM A H' (i+1):=
 ⟨h.nm,h.st,h.sp,h.ow,h.ty,h.Ac,λs hs=>by
   rcases cr s i with W|W
   .exact h.e s W
   .obtain rfl:s=i:=N;exact he⟩
theorem PM.done(h:PM A H' A.ns):H'=A.trim:=by
 have⟨W,J,h3,h4,h5,h6,h7⟩:=h
 have:H'.eg=(f_ A.ns).map A.LZ:=by
  refine qN (by rw[aK,qg];exact h6) λs hs hs'=>?_;rw[mJ,alList_getElem_rangeQ,<-h7 s N];unfold hx;rw[av hs];rfl
 cases H';simp only at W J h3 h4 h5 this;subst W J h3 h4 h5 this;rfl
end At
theorem NV(hw:Wf H)(h:sQ SH H A q)(ho:A.Ok):aO Pg X 52 [q.v A] H (Qe (λv T=>∃q':AV,v=q'.v A.trim/\sQ (H.next<=·) T A.trim q') H):=by
 have G:=F.refl hw;have hbig:=ho.big;refine jS [0,1,2,3,4,5,6,7,8,10,26,27,28,37,38,39] ?_;refine G.box O λH1 u G=>?_;rw[jM]at G;refine G.iX λH2 rz G=>G.rZ 1 O (ax 6) ?_;refine G.cm (tY G.wf (h.ex G.ext) ho) ?_;rintro v H3 rfl E G;refine bG ?_;refine gF (λhb=>by cases hb) λ_=>?_;refine G.rZ 1 O (ax 6) ?_;refine G.cm (Fb G.wf (h.ex G.ext) ho f) ?_;rintro v H4 ⟨mk,hm,hmk⟩ E G;obtain⟨ma,mc,rfl,_⟩:=id hm;refine G.ns O O O λH5 rm G hx5=>?_;have G:F [] H H5 [(rm,34,[I ma A.ns mc]),(rz,27,[I Q 0 0,I Q 0 0,I Q 0 0,I Q 0 0,I Q 0 0,vi 0]),(u,27,q.cells A)]:=G;refine G.rZ 2 O (ax 6) ?_;refine G.ld 2 (o:=1) O O ?_;have hwant:=UD (A:=A) (q:=q) (rm:=rm) (u:=u) ((G.get 0 O).cell O) (G.lo _<|aS (i:=0) O).2 ((G.get 2 O).cell (o:=1) O) (G.lo _<|aS (i:=2) O).2 (h.ex G.ext) (hm.ex hx5) ho hmk;have hSt:A.st.length=A.nr:=ho.Ws;have Lm:=ho.few;rw[show I q.sa A.nr q.sc=.slice q.sa A.st.length q.sc by rw[hSt]];refine aO.mono (NR (fa:=q.sa) (fc:=q.sc) (fl:=A.st) (w:=A.leads) G.wf (h.ex G.ext) ho (by rw[hSt];exact(h.ex G.ext).s) (λs hs=>?_) N hwant) ?_
 .obtain⟨r,y,rfl⟩:=iM hs;have:=(ho.s r N).1;unfold At.S at this
  rwa [av y]at this
 rintro v H6 ⟨⟨Hl,hm2,hk2⟩,hx6⟩;have G:=G.call hx6
 have hmet:∀s,on Hl s<->A.met s:=λs=>by
  rw[hk2]
  have:(·∈A.st)=A.isS:=by
   funext s;apply propext;constructor
   .intro hs;obtain⟨r,y,rfl⟩:=iM hs;refine⟨r,N,?_⟩;unfold At.S;rw[av y];rfl
   .rintro⟨r,y,rfl⟩;unfold At.S;rw[av (show r<A.st.length by omega)];exact bB _
  rw[this];rfl
 obtain⟨na,nc,rfl,_⟩:=id hm2;refine G.rZ 2 O (ax 6) ?_;refine aO.mono (NU G.wf (h.ex G.ext) ho) ?_;rintro v H7 ⟨M,M',rfl,hown,He⟩;have wM:=G;refine He.ns (v:=.agg ⟨M⟩) hown.1 O hown.2.1 λH8 rt G Bg=>?_;have hB:=hown.2.2 rt;have G:F [] H6 H8 (((rt,27,M)::M')++[]):=G.cast (bq _).symm;generalize(rt,27,M)::M'=cs at hB G;have hrg:∀{T}(_:Ext H6 T),Bk T u 27 (q.cells A):=λ{T} E=>(wM.bk (u,27,q.cells A) kg).ex (wM.lo (u,27,q.cells A) kg).2 E;refine ME.ld ((hrg G.ext).cell (o:=4) O) ?_;refine bG ?_;refine lp7 7 8 10 28 37 38 39 (ai:=λm x7 x8 jo x28 Aq x38 x39 T=>∃i H' cs,x28=B i/\i+m=A.ns/\At.PM A H' i/\Bd rt H' cs/\F [] H6 T (cs++[])) ?_ A.ns ⟨0,A,cs,rfl,N,At.PM.init ho,hB,G⟩;clear G hB He Bg;clear cs;rintro m x7 x8 jo x28 Aq x38 x39 ni H9 ⟨i,H',cs,rfl,him,hT,hB,G⟩;refine kX (λhc=>?_) λhc=>?_
 .obtain rfl:i=A.ns:=N;obtain rfl:=hT.done;have ok:=At.JJ ho;refine tl ?_;rw[bq]at G;have Rp:=F.frame (cs:=[]) wM G;have⟨q0,hr0,_⟩:=hB.atM Rp ok;refine ME.rZ hr0 ?_;have G:=Rp.perm (L':=(rz,27,[I Q 0 0,I Q 0 0,I Q 0 0,I Q 0 0,I Q 0 0,vi 0])::(rm,34,[I ma A.ns mc])::(u,27,q.cells A)::cs)<|(aG (l₁:=cs) (l₂:=[(rm,34,[I ma A.ns mc]),(rz,27,[I Q 0 0,I Q 0 0,I Q 0 0,I Q 0 0,I Q 0 0,vi 0]),(u,27,q.cells A)])).trans<|gq _ _ _;refine G.st 0 O O (ax 6) O λDq G=>?_;have G:F [] H Dq ((rz,27,q0.cells A.trim)::(rm,34,[I ma A.ns mc])::(u,27,q.cells A)::cs):=G;have hS2:=G.perm (L':=cs++[(rz,27,q0.cells A.trim),(rm,34,[I ma A.ns mc]),(u,27,q.cells A)])<|aG (l₁:=[_,_,_]);have⟨q1,hr1,hat⟩:=hB.atM hS2 ok
  have eq:q1.cells A.trim=q0.cells A.trim:=by
   obtain⟨M,hm,h6⟩:∃M,((rt,27,M):dL)∈cs/\M.length=6:=by
    obtain⟨nv,sv,pv,ov,ev,evs,gn,gs,gp,go,ge,az,rfl,_⟩:=hB;exact⟨_,aN ..,O⟩
   have a0:=(Rp.bk _<|dn _ hm).read (o:=0) (n:=6) (by show 0+6<=M.length;omega);have a1:=(hS2.bk _<|dn _ hm).read (o:=0) (n:=6) (by show 0+6<=M.length;omega);have b0:=a0.symm.trans hr0;have b1:=a1.symm.trans hr1;exact dK<|b1.symm.trans b0
  refine rr ?_;refine G.rZ 0 O (ax 6) ?_;exact⟨⟨q1,by rw[<-eq];rfl,hat⟩,G.ext⟩
 have hi:i<A.ns:=N;have aky:=wM.ext;refine h.ldE (aky.trans G.ext) hi λp ea ec hf=>?_;refine bG ?_;refine acn hB G (by rw[hT.ns];exact hi) (hT.Ac.trans hT.ns.symm) λv p rg Dq M1 hB1 G=>?_;have⟨hT1,hj1⟩:=hT.cl hi;have hlen:=ho.len i;refine lp2 10 39 (ai:=λm jo x39 T=>∃j H' cs,x39=B j/\j+m=(A.hx i).length/\At.PM A H' i/\H'.hx i=A.Gg i j/\Bd rt H' cs/\F [] H6 T (cs++[])) ?_ (A.hx i).length ⟨0,_,M1,rfl,N,hT1,hj1,hB1,G⟩;clear G hB hB1 hT hT1 hj1;rintro m2 jo x39 amq Sn ⟨j,H',cs,rfl,hjm,hT,hrow,hB,G⟩;refine kX (λhc=>?_) λhc=>?_
 .obtain rfl:j=(A.hx i).length:=N;refine tl ?_;refine dQ ?_;refine⟨A.ns-(i+1),N,_,_,_,_,_,_,_,_,_,O,i+1,H',cs,og,N,hT.succ<|by rw[hrow,At.aco],hB,G⟩
 have hj:j<(A.hx i).length:=N;refine Jl (hf.ex<|aky.trans G.ext) hj λp=>G.ns O O O λH12 re G aeW=>?_;have G:F [] H6 H12 (cs++[(re,121,[B (A.hx i)[j].1,B (A.hx i)[j].2.1,B (A.hx i)[j].2.2])]):=G.perm<|iG [_] cs [];have hTl:(H'.hx i).length<=1000000:=by rw[hrow];have:=At.acp (A:=A) i j;omega
 refine(hm2.ex G.ext).at hi λp t ht=>?_;refine qx (λhb=>?_) λhb=>?_
 .have hmi:=(hmet i).1 (ht.1 hb);refine ME.rZ ((G.bk (re,121,[B (A.hx i)[j].1,B (A.hx i)[j].2.1,B (A.hx i)[j].2.2]) kg).read (o:=0) (n:=3)<|ax 3)<|aO.mono (hwant H12 i (A.hx i)[j] (hx6.trans G.ext) G.wf<|bB hj) ?_;rintro v H13 ⟨⟨b,rfl,hbl⟩,YN⟩;have G:=G.call YN;cases b with
  |true=>
   have⟨hT1,hr1⟩:=hT.pu hi (A.hx i)[j];refine acm (L:=[]) hB G (by rw[hT.ns];exact hi) (hT.Ac.trans hT.ns.symm) hTl O λni H14 M1 hB1 G=>?_;refine bG ?_;refine tl ?_;refine dQ ?_;refine⟨(A.hx i).length-(j+1),N,_,_,_,_,O,j+1,_,M1,og,N,hT1,by rw[hr1,hrow,At.aeV hj hmi<|hbl.1 O],hB1,(F.drop (A:=[_])<|G.perm<|iG _ [(re,121,_)] [])⟩
  |false=>
   refine tl ?_;refine tl ?_;refine dQ ?_;refine⟨(A.hx i).length-(j+1),N,_,_,_,_,O,j+1,H',cs,og,N,hT,by rw[hrow,At.RV hj λh=>by cases hbl.2 h.2],hB,(F.drop (A:=[_])<|G.perm<|iG _ [(re,121,_)] [])⟩
 .have hmi:¬A.met i:=λh=>by
   have:=ht.2<|(hmet i).2 h;rw[hb]at this;cases this
  subst hb;refine tl ?_;refine tl ?_;refine dQ ?_;refine⟨(A.hx i).length-(j+1),N,_,_,_,_,O,j+1,H',cs,og,N,hT,by rw[hrow,At.RV hj λh=>hmi h.1],hB,(F.drop (A:=[_])<|G.perm<|iG _ [(re,121,_)] [])⟩
end
section
open Go.Ae Go.Ae.cs
def acr{P:aU}(hb:0<b)(h:a<=9223372036854775807):lY P .rem t ox oy (B a) (B b)=D (B<|a %b):=lZ O (by
 show j3 (Op.intDiv .rem .i64 a b)=_;unfold Op.intDiv;rw[if_neg N];show D (bX .i64<|(a:Int).tmod b)=_;have W:(a:Int).tmod b=((a %b:Nat):Int):=by rw[Int.tmod_eq_emod_of_nonneg N];rfl
 have J:a %b<=a:=Nat.mod_le _ _;rw[W])
def Pq{P:aU}(b:Nat)(e:z=(b:Int))(hb:0<b)(h:a<=9223372036854775807):lY P .quo t ox oy (B a) (.int .i64 z)=D (B<|a/b):=by subst e;exact FT N N N
def addN{P:aU}(a:Nat)(e:z=(a:Int))(h:a+b<=9223372036854775807):lY P .add t ox oy (.int .i64 z) (B b)=D (B<|a+b):=by subst e;exact fD N N
def qF{P:aU}(b:Nat)(e:z=(b:Int))(hb:0<b)(h:a<=9223372036854775807):lY P .rem t ox oy (B a) (.int .i64 z)=D (B<|a %b):=by subst e;exact acr hb h
def mulN{P:aU}(a:Nat)(e:z=(a:Int))(h:a*b<=9223372036854775807):lY P .mul t ox oy (.int .i64 z) (B b)=D (B<|a*b):=by
 subst e;have h':(a:Int)*(b:Int)=((a*b:Nat):Int):=by push_cast;rfl
 rw[aaE (by rw[h'];omega) (by rw[h'];omega),h']
def jC{P:aU}(b:Nat)(e:z=(b:Int))(h:a+b<=9223372036854775807):lY P .add t ox oy (B a) (.int .i64 z)=D (B<|a+b):=by subst e;exact fD N N
end
end Go.Proofs.Lu
