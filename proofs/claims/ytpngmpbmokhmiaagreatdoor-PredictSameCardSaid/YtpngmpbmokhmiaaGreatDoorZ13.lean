/-
  Part 13 of the proof. No condition.
-/
import Derived.Test.YtpngmpbmokhmiaaGreatDoorZ12
set_option linter.unusedVariables false
set_option linter.unusedSimpArgs false
set_option maxRecDepth 100000
set_option maxHeartbeats 4000000
set_option linter.defProp false
open Option renaming some->Z,none->W
open Bool renaming true->f,false->aA
open Go renaming Value->D,TypeId->aG
open Go.Value renaming slice->T,bool->gF
open List renaming replicate->aU
open And renaming intro->iq
noncomputable section
namespace Go.Proofs.Lu
open Go.Ae Go.Ae.SH
variable{L gb:List dJ}{F' R':Nat->Prop}{t:ByteArray}{SH aa b d i k m m0 n p p0 q r3 rb rl rz:Nat}{c ch e r:Int}{rg:Nat->Bool}{ar E gl ks l iH:List D}{H C H0 H1:F}{g v w x x0 x4 x5 x6:D}{a ea na ra ta:Option Addr}{u:Rs}{be bs:List Bool}
section
def _root_.Go.Ae.i_.by{ax:Nat->Prop}{ty:aG}{es:Nat}(h:i_ ax ty H a n es E)(hF:∀r,r<H.next->ax r->F' r):i_ F' ty H a n es E:=⟨h.1,λr o e hn=>let⟨Q,I,h3⟩:=h.2 r o e hn;⟨hF r I Q,I,h3⟩⟩
def VU(ax:Nat->Prop)(H:F)(l:List D)(i:Nat):Prop:=∃(z:Int)(a:Option Addr)(ks:List Nat)(c:Nat)(t:ByteArray)(sa:Option Addr)(sn sc:Nat)(at':Int),l=[vi z,T a ks.length c,.string t,T sa sn sc,vi at']/\i_ ax 3 H a ks.length 1 (fG ks)/\(∀j∈ks,j<i)/\(z=4->ks≠[])/\ks.length<=20003
def VU.st{ax:Nat->Prop}{S:List Nat}(h:VU ax H l i)(J:oz S H C)(G:∀q∈S,¬ax q):VU ax C l i:=let⟨z,a,ks,c,t,sa,sn,sc,at',Q,I,h3⟩:=h;⟨z,a,ks,c,t,sa,sn,sc,at',Q,I.stay J λq hq=>.inl<|G q hq,h3⟩
def VU.by{ax:Nat->Prop}(h:VU ax H l i)(hF:∀r,r<H.next->ax r->F' r):VU F' H l i:=let⟨z,a,ks,c,t,sa,sn,sc,at',Q,I,h3⟩:=h;⟨z,a,ks,c,t,sa,sn,sc,at',Q,I.by hF,h3⟩
def RuY(l:List D)(m:Nat):Prop:=∃(t:ByteArray)(rg av w:Bool)(ch at':Int)(r:Nat),l=[.string t,.bool rg,.bool av,.bool w,vi ch,B r,vi at']/\r<m
def YG(n:Nat)(ax:Nat->Prop)(H:F)(g:D)(p m rl:Nat)(e:Int):Prop:=∃(ra:Option Addr)(rc:Nat)(rcs:List D)(na:Option Addr)(nc:Nat)(iH:List D)(ta:Option Addr)(tc:Nat)(at':Int),g=.agg ⟨[T ra rl rc,T na m nc,T ta n tc,B p,vi e,vi at']⟩/\
 i_ ax 194 H ra rl 7 rcs/\(e=0->∀i,i<rl->RuY (El rcs 7 i) m)/\rl<=120/\i_ ax 200 H na m 5 iH/\(∀i,i<m->VU ax H (El iH 5 i) i)/\m<=4000/\zK ax H (T ta n tc) n/\p<=20002/\(e=0->p<n)
variable{ax:Nat->Prop}
def zK.st{S:List Nat}(h:zK ax H v n)(J:oz S H C)(G:∀q∈S,¬ax q):zK ax C v n:=let⟨a,c,E,Q,I,h3,h4⟩:=h;⟨a,c,E,Q,I.stay J λq hq=>.inl<|G q hq,h3,λi hi=>(h4 i hi).st J λq hq=>.inl<|G q hq⟩
def tL.by(h:tL ax H v)(hF:∀r,r<H.next->ax r->F' r):tL F' H v:=let⟨a,n,c,zs,Q,I,h3⟩:=h;⟨a,n,c,zs,Q,I.by hF,h3⟩
def zK.by(h:zK ax H v n)(hF:∀r,r<H.next->ax r->F' r):zK F' H v n:=let⟨a,c,E,Q,I,h3,h4⟩:=h;⟨a,c,E,Q,I.by hF,h3,λi hi=>let⟨k,a,e,t',x,g1,g2,g3,g4⟩:=h4 i hi;⟨k,a,e,t',x,g1,g2,g3.by hF,g4⟩⟩
def YG.st{S:List Nat}(h:YG n ax H g p m rl e)(J:oz S H C)(G:∀q∈S,¬ax q):YG n ax C g p m rl e:=by
 obtain⟨ra,rc,rcs,na,nc,iH,ta,tc,at',Q,I,h3,h4,h5,h6,h7,h8,h9⟩:=h;exact⟨ra,rc,rcs,na,nc,iH,ta,tc,at',Q,I.stay J λq hq=>.inl<|G q hq,h3,h4,h5.stay J λq hq=>.inl<|G q hq,λi hi=>(h6 i hi).st J G,h7,h8.st J G,h9⟩
def YG.ex(h:YG n ax H g p m rl e)(J:Ext H C):YG n ax C g p m rl e:=h.st J λq h=>nomatch h
def YG.by(h:YG n ax H g p m rl e)(hF:∀r,r<H.next->ax r->F' r):YG n F' H g p m rl e:=by
 obtain⟨ra,rc,rcs,na,nc,iH,ta,tc,at',Q,I,h3,h4,h5,h6,h7,h8,h9⟩:=h;exact⟨ra,rc,rcs,na,nc,iH,ta,tc,at',Q,I.by hF,h3,h4,h5.by hF,λi hi=>(h6 i hi).by hF,h7,h8.by hF,h9⟩
def YG.bd(h:YG n ax H g p m rl e):p<=20002/\(e=0->p<n)/\n<=20001/\m<=4000/\rl<=120:=by
 obtain⟨ra,rc,rcs,na,nc,iH,ta,tc,at',Q,I,h3,h4,h5,h6,h7,⟨_,_,_,_,_,h8,_⟩,h9⟩:=h;exact⟨h9.1,h9.2,h8,h7,h4⟩
def YG.to(h:YG n ax H g p m rl e)(hq:q<=20002/\(e=0->q<n))(eq:g=.agg ⟨l⟩):YG n ax H (.agg ⟨l.set 3<|B q⟩) q m rl e:=by
 obtain⟨ra,rc,rcs,na,nc,iH,ta,tc,at',Q,I,h3,h4,h5,h6,h7,h8,h9⟩:=h;rw[eq]at Q;cases Q;exact⟨ra,rc,rcs,na,nc,iH,ta,tc,at',O,I,h3,h4,h5,h6,h7,h8,hq⟩
abbrev Nw(ax:Nat->Prop)(b:Nat):Nat->Prop:=λr=>ax r\/b<=r
def Aq(hw:Wf H)(hg:YG n ax H g p m rl e)(hp:p<n):aJ Pg X 71 [g] H (Q1 (λv _=>∃k:Int,v=vi k/\0<=k/\k<=15/\(p+1=n->k=0)) H):=by
 obtain⟨ra,rc,rcs,na,nc,iH,ta,tc,at',rfl,I,h3,h4,h5,h6,h7,⟨a,c,E,e8,h8,h8',hr8⟩,h9⟩:=hg;cases e8;have G:=M.refl hw;refine ce [0,1,2] ?_;refine tl ?_;refine G.box O λH1 rb G=>?_;refine d_ ?_;obtain⟨r,o,e1,R,hcl,_⟩:=h8.1.idx (c:=tc) N hp;obtain⟨k,_,e,t,x,hk,_,_,k1,k2,k3⟩:=hr8 p hp;refine PU.of e1 ?_;refine aY ?_
 have h0:E[p*5+0]?=Z (vi k):=by
  have:=dV (λl=>l[0]?) hk;simp only[mG]at this;simpa using this
 refine G.Ay (hcl 0 _ N h0) R<|rr ?_;exact⟨⟨k,O,k1,k2,k3⟩,G.ext⟩
abbrev Ot(ax:Nat->Prop)(b:Nat)(L:List dJ):Nat->Prop:=λr=>Nw ax b r/\r∉L.map (·.1)
theorem YG.own(hg:YG n ax H0 g p m rl e)(G:M [] H0 H L):YG n (Ot ax H0.next L) H g p m rl e:=
 (hg.by (F':=Ot ax H0.next L) λr Q I=>⟨.inl I,λhm=>by
  obtain⟨e,he,rfl⟩:=bQ.1 hm;exact eF (G.wB he) Q⟩).ex G.ext
theorem VU.own(hg:VU ax H0 l i)(G:M [] H0 H L):VU (Ot ax H0.next L) H l i:=
 (hg.by (F':=Ot ax H0.next L) λr Q I=>⟨.inl I,λhm=>by
  obtain⟨e,he,rfl⟩:=bQ.1 hm;exact eF (G.wB he) Q⟩).st G.ext λq h=>nomatch h
theorem YG.turn{H2:F}{L2:List dJ}(hg:YG n (Ot ax b L) H g p m rl e)(hO:M (L.map (·.1)) H H2 L2):YG n (Ot ax b L2) H2 g p m rl e:=
 ((hg.by (F':=λr=>Ot ax b L r/\r∉L2.map (·.1)) λr Q I=>⟨I,λhm=>by
   obtain⟨e,he,rfl⟩:=bQ.1 hm;rcases(hO.lo e he).1 with h|h
   .exact I.2 h
   .omega⟩).st hO.ext λq hq h=>h.1.2 hq).by λr _ h=>⟨h.1.1,h.2⟩
theorem ahr(hw:Wf H)(hg:YG n ax H g p m rl 0)(y:c≠0):aJ Pg X 105 [g,vi c] H (Q1 (λv C=>∃e:Int,e≠0/\YG n ax C v p m rl e) H):=by
 have hb:=hg.bd;obtain⟨ra,rc,rcs,na,nc,iH,ta,tc,at',rfl,I,h3,h4,h5,h6,h7,⟨a,cc,E,e,h8,h8',hr8⟩,h9⟩:=id hg;cases e;have G:=M.refl hw;refine ce [0,1,2,4] ?_;refine tl ?_;refine G.box O λH1 rb G=>?_;refine G.iZ λH2 rz G=>?_;refine d_ ?_;refine aC (λ_=>?_) λc=>absurd trivial c;obtain⟨r,o,e1,R,hcl,o0,e0,_⟩:=(h8.ex G.ext).1.idx (c:=tc) N<|hb.2.1 O;obtain⟨k,at2,e,t,x,hk,_,_,k1,k2,k3⟩:=hr8 p<|hb.2.1 O;have hr0:r<H.next:=h8.2 r o0 e0 (by have:=hb.2.1 O;omega)|>.2.1
 have hn:rb≠r:=λe=>eF (G.wB<|aR (i:=1) O)<|e▸hr0
 have hk1:E[p*5+1]?=Z (vi at2):=by
  have:=dV (λl=>l[1]?) hk;simp only[mG]at this;simpa using this
 refine d_ ?_;refine PU.of e1<|aY ?_;refine ME.ld (H:=hN H2) (hcl 1 _ N hk1) ?_;refine G.kK ?_;refine G.lW λHn G=>?_;refine G.lW λHn G=>?_;refine splitK (λK hK=>?_) ?_
 .simp only[eG,fT];apply lX (a:=rb) (b:=r) hn (by intros;rfl) (by kernel_rfl) (by kernel_rfl) hK
 have hT:zK ax H (T ta n tc) n:=⟨_,_,E,O,h8,h8',hr8⟩
 have fin:∀{H5:F}{e:Int},e≠0->Ext H H5->YG n ax H5 (.agg ⟨[T ra rl rc,T na m nc,T ta n tc,B p,vi e,vi at2]⟩) p m rl e:=λ{H5 e} he J=>
  ⟨ra,rc,rcs,na,nc,iH,ta,tc,at2,rfl,I.ex J,λh=>absurd h he,h4,h5.ex J,λi hi=>(h6 i hi).st J (λq h=>nomatch h),h7,hT.st J (λq h=>nomatch h),h9.1,λh=>absurd h he⟩
 have last:∀{H5:F}{e:Int},e≠0->M [] H H5 [(rz,32,[T W 0 0,T W 0 0,T W 0 0,vi 0,vi 0,vi 0]),(rb,32,[T ra rl rc,T na m nc,T ta n tc,B p,vi e,vi at2])]->∀{u:D->Rs},ME (uP (Z 6) (pr rb) H5) λv C=>ME (Cq 6 (pr rz) v C) λ_ C=>jR Pg [.cell 4 32] (Q1 (λv C=>∃e:Int,e≠0/\YG n ax C v p m rl e) H) (.ret<|wo (.agg ⟨[T ra rl rc,T na m nc,T ta n tc,B p,vi 0,vi at']⟩) (vi c) (pr rb) (pr rz) (u v) C):=by
  intro H5 e he G u;refine G.iK<|G.jE λHn G=>?_;refine rr ?_;refine G.rF 0 O (az 6) ?_;exact⟨⟨e,he,fin he G.ext⟩,G.ext⟩
 refine aC (λ_=>?_) λ_=>last y G;refine G.iK<|aJ.mono (Aq G.wf (fin y G.ext)<|hb.2.1 O) ?_;rintro v H5 ⟨⟨k,rfl,_⟩,J⟩;have G:=G.call J;refine aY ?_;refine aC (λ_=>?_) λ_=>last y G;exact G.jE λHn G=>last (by decide) G
end
section
variable{ax:Nat->Prop}
def YT(n:Nat)(hr ax:Nat->Prop)(m rl:Nat)(v:D)(C:F):Prop:=∃(g':D)(k p' m':Nat)(e:Int),v=.tuple ⟨[g',B k]⟩/\YG n ax C g' p' m' rl e/\m<=m'/\(e=0->k<m'/\hr p')
abbrev YR(n:Nat)(hr ax:Nat->Prop)(H:F)(m rl:Nat):D->F->Prop:=Q1 (YT n hr (Nw ax H.next) m rl) H
def YG.call{hr:Nat->Prop}{Kp:D->F->Prop}(hg:YG n (Ot ax b L) H g p m rl e)(G:M [] H0 H L)(hb:b<=H.next)(y:∀F',(∀r,r<H.next->Ot ax b L r->F' r)->YG n F' H g p m rl e->aJ Pg X aa (g::ar) H (YR n hr F' H m rl))(kk:∀g' H2 k p' m' e',YG n (Ot ax b L) H2 g' p' m' rl e'->m<=m'->(e'=0->k<m'/\hr p')->M [] H0 H2 L->Ext H H2->Kp (.tuple ⟨[g',B k]⟩) H2):aJ Pg X aa (g::ar) H Kp:=by
 refine aJ.mono (y (λr=>Ot ax b L r/\r<H.next) (λr Q I=>⟨I,Q⟩)<|hg.by λr Q I=>⟨I,Q⟩) ?_;rintro v H2 ⟨⟨g',k,p',m',e',rfl,hg',Q,I⟩,J⟩;refine kk g' H2 k p' m' e' (hg'.by λr _ h=>?_) Q I (G.call J) J;rcases h with h|h
 .exact h.1
 .refine⟨.inr<|aX hb h,λhm=>?_⟩;obtain⟨e,he,rfl⟩:=bQ.1 hm;exact eF h (G.lo e he).2
def YG.ajZ{hr:Nat->Prop}{Kp:D->F->Prop}(hg:YG n (Ot ax b L) H g p m rl e)(G:M [] H0 H L)(hb:b<=H.next)(y:∀F',(∀r,r<H.next->Ot ax b L r->F' r)->YG n F' (hN H) g p m rl e->aJ Pg X aa (g::ar) (hN H) (YR n hr F' (hN H) m rl))(kk:∀g' H2 k p' m' e',YG n (Ot ax b L) (hM H H2) g' p' m' rl e'->m<=m'->(e'=0->k<m'/\hr p')->M [] H0 (hM H H2) L->Dq H H2=cl 1->Kp (.tuple ⟨[g',B k]⟩) H2):aJ Pg X aa (g::ar) (hN H) Kp:=
 YG.call (H:=hN H) (H0:=hN H0) (show YG n (Ot ax b L) (hN H) g p m rl e from hg) G.xG hb y λg' H2 k p' m' e' Q I h3 _ J=>kk g' H2 k p' m' e' Q I h3 (G.mV J)<|fK J
def YT.up{hr:Nat->Prop}(h:YT n hr ax m rl v H)(Q:∀q,hr q->R' q)(I:m0<=m)(hF:∀r,r<H.next->ax r->F' r):YT n R' F' m0 rl v H:=let⟨g',k,p',m',e,h3,h4,h5,h6⟩:=h;⟨g',k,p',m',e,h3,h4.by hF,N,λhe=>⟨(h6 he).1,Q _ (h6 he).2⟩⟩
def YG.ret{hr:Nat->Prop}{Kp:D->D->D->D->F->Prop}(hg:YG n (Ot ax H0.next L) H g p m rl e)(G:M [] H0 H L)(hi:L[i]?=Z (rz,32,E))(hl:E.length=6)(Q:∀q,hr q->R' q)(I:m0<=m)(y:∀F',(∀r,r<H.next->Ot ax H0.next L r->F' r)->YG n F' H g p m rl e->aJ Pg X aa (g::ar) H (YR n hr F' H m rl))(kk:∀v g' c rg H3,YR n R' ax H0 m0 rl (.tuple ⟨[g',c]⟩) H3->(∀{h1:D->F->Prop},h1 g' H3->ME (uP (Z 6) (.pointer<|Z ⟨rz,0,W⟩) H3) h1)->Kp v g' c rg H3):aJ Pg X aa (g::ar) H λv H1=>PU (uA v 0) λa=>PU (uA v 1) λc=>ME (Cq 6 (.pointer<|Z ⟨rz,0,W⟩) a H1) λrg H2=>Kp v a c rg H2:=by
 refine hg.call G G.ext.next y λg' H2 k p' m' e' hg h3 h4 G _=>?_
 obtain⟨ra,rc,rcs,na,nc,iH,ta,tc,at',rfl,_⟩:=id hg;refine aY ?_;have hO:=G.base;refine hO.st i hi O N O λH3 hO=>?_;rw[mZ _ _ (by exact hl)]at hO;have hg:=hg.st hO.ext λq hq h=>h.2 hq;refine kk _ _ _ _ _ ⟨⟨_,k,p',m',e',O,hg.by λr _ h=>h.1,N,λhe=>⟨(h4 he).1,Q _ (h4 he).2⟩⟩,(G.over hO).ext⟩ λ{h1} hQ=>?_;exact hO.rF i (o:=0) (n:=6) (E:=bI<|.agg ⟨[T ra rl rc,T na m' nc,T ta n tc,B p',vi e',vi at']⟩) (by rw[dB,if_pos O,if_pos (bA.1 hi).1]) (az 6) hQ
def YG.abY{Kp:D->D->F->Prop}(hg:YG n (Ot ax H0.next L) H g p m rl 0)(G:M [] H0 H L)(hi:L[i]?=Z (rz,32,E))(hl:E.length=6)(I:m0<=m)(y:c≠0)(kk:∀g' rg H3,(∀{hr},YR n hr ax H0 m0 rl (.tuple ⟨[g',vi 0]⟩) H3)->(∀{h1:D->F->Prop},h1 g' H3->ME (uP (Z 6) (.pointer<|Z ⟨rz,0,W⟩) H3) h1)->Kp g' rg H3):aJ Pg X 105 [g,vi c] H λv H1=>ME (Cq 6 (.pointer<|Z ⟨rz,0,W⟩) v H1) λrg H2=>Kp v rg H2:=by
 refine aJ.mono (ahr G.wf hg y) ?_;rintro v H2 ⟨⟨e',he',hg⟩,J⟩;have G:=G.call J;obtain⟨ra,rc,rcs,na,nc,iH,ta,tc,at',rfl,_⟩:=id hg;have hO:=G.base;refine hO.st i hi O N O λH3 hO=>?_;rw[mZ _ _ (by exact hl)]at hO;have hg:=hg.st hO.ext λq hq h=>h.2 hq;refine kk _ _ _ ⟨⟨_,0,p,m,e',O,hg.by λr _ h=>h.1,I,λhe=>absurd he he'⟩,(G.over hO).ext⟩ λ{h1} hQ=>?_;exact hO.rF i (o:=0) (n:=6) (E:=bI<|.agg ⟨[T ra rl rc,T na m nc,T ta n tc,B p,vi e',vi at']⟩) (by rw[dB,if_pos O,if_pos (bA.1 hi).1]) (az 6) hQ
theorem abZ(hw:Wf H)(hg:YG n ax H g p m rl 0)(hl:VU ax H l m):aJ Pg X 138 [g,.agg ⟨l⟩] H (YR n (·=p) ax H m rl):=by
 have hbd:=hg.bd;obtain⟨ra,rc,rcs,na,nc,iH,ta,tc,m_,rfl,I,h3,h4,h5,h6,h7,h8,h9⟩:=id hg;obtain⟨z,ka,ks,kc,t,sa,sn,sc,at',rfl,k2,k3⟩:=id hl;have G:=M.refl hw;refine ce [0,1,2,3,4,5] ?_;refine tl ?_;refine G.box O λH1 rb G=>?_;refine G.box O λH2 rx G=>?_;refine G.iZ λH3 rz G=>?_;refine d_ ?_;refine aC (λc=>?_) λ_=>?_
 .refine G.iK<|YG.abY (i:=0) (hg.own G) G O O (az _) (by decide) λg' rg H4 hY R=>?_;refine rr ?_;exact R hY
 refine G.ahn λH4 a G hc1=>?_;refine d_ ?_;refine G.aho (n:=m) (xs:=iH) (xH (show Fl (hN<|hM H3 H4) na m 5 iH from((h5.ex G.ext).1:Fl (hM H3 H4) na m 5 iH)) N) h5.1.1 N λv2 H5 g2 hg2 G hc2=>?_;have G:=G.perm<|aF (l₂:=[_,_,_]);simp only[bE,bK]at G;refine d_ ?_;refine G.Qa O O O N λH6 ry G hc3=>?_;have G:=G.perm (L':=(ry,200,[vi z,T ka ks.length kc,.string t,T sa sn sc,vi at'])::(g2++[(rz,32,[T W 0 0,T W 0 0,T W 0 0,vi 0,vi 0,vi 0]),(rx,200,[vi z,T ka ks.length kc,.string t,T sa sn sc,vi at']),(rb,32,[T ra rl rc,T na m nc,T ta n tc,B p,vi 0,vi m_])]))<|(aF (l₁:=[_,_,_]) (l₂:=g2)).cons _;refine hg2.abV G N O O (by rw[h5.1.1];omega) λv3 H7 g3 hg3 G hc4=>?_;have G:=G.perm<|aF (l₂:=[_,_,_]);simp only[bE,bK]at G;obtain⟨va,vl,vc,rfl⟩:=hg3.sl
 have hvl:vl=m+1:=by
  obtain⟨_,_,_,e,h,_⟩:=hg3.Jc (ax:=TT) (G.perm<|aF (l₁:=[_,_,_])) λ_ _=>trivial;cases e;rw[aQ,h5.1.1]at h;simp at h;omega
 subst hvl;have n1:=G.nq 1 2 O O N;have n2:=G.nq 0 2 O O N;refine G.lW λHn G=>?_;refine splitK (λK hK=>?_) ?_
 .simp only[hc1,hc2,hc3,eG,fT];rcases hc4 with e|e<;>rw[e]<;>apply lX (a:=rx) (b:=rb) n1 (by intros;rfl) (by kernel_rfl) (by kernel_rfl) hK
 refine d_ ?_;rw[nW N N];refine aY ?_;rw[show((m+1:Nat):Int)-1=((m:Nat):Int) by omega];refine G.lW λHn G=>?_;refine splitK (λK hK=>?_) ?_
 .simp only[eG,fT];apply lX (a:=rz) (b:=rb) n2 (by intros;rfl) (by kernel_rfl) (by kernel_rfl) hK
 have G:=G.to (cs':=[T ra rl rc,T va (m+1) vc,T ta n tc,B p,vi 0,vi m_]) O;have J:=G.ext;obtain⟨_,_,_,e,_,hf⟩:=hg3.Jc (ax:=Nw ax H.next) (G.perm<|aF (l₁:=[_,_,_])) λe he=>.inr<|G.wB<|cO [_,_,_] he;cases e;have hE:=Bv (es:=5) (n:=m) h5.1.1 (xs:=[vi z,T ka ks.length kc,.string t,T sa sn sc,vi at']) O;have nw:∀{C:F} r,r<C.next->ax r->Nw ax H.next r:=λr _ h=>.inl h
 refine rr ?_;refine G.rF 0 O (az 6)<|⟨⟨_,m,p,m+1,0,O,⟨ra,rc,rcs,va,vc,_,ta,tc,m_,O,(I.ex J).by nw,λhe i hi=>?_,h4,hf,λi hi=>?_,N,(h8.st J λq h=>nomatch h).by nw,h9⟩,N,λ_=>⟨N,rfl⟩⟩,J⟩
 .obtain⟨t,rg,av,w,ch,at',r,f1,f2⟩:=h3 he i hi;exact⟨t,rg,av,w,ch,at',r,f1,N⟩
 rcases bZ i m with h|h
 .rw[show El (iH++_) 5 i=_ from hE.1 i h];exact((h6 i h).st J λq h=>nomatch h).by nw
 .obtain rfl:i=m:=by omega
  rw[show El (iH++_) 5 i=_ from hE.2];exact(hl.st J λq h=>nomatch h).by nw
def Yd(hw:Wf H)(hg:YG n ax H g p m rl 0)(hl:VU ax H l m)(hp:p+1<n):aJ Pg X 166 [g,.agg ⟨l⟩] H (YR n (·=p+1) ax H m rl):=by
 obtain⟨z,ka,ks,kc,t,sa,sn,sc,at',rfl,_⟩:=id hl;obtain⟨ra,rc,rcs,na,nc,iH,ta,tc,m_,rfl,_⟩:=id hg;have G:=M.refl hw;refine ce [0,1,2,3,4,5,6] ?_;refine tl ?_;refine G.box O λH1 rb G=>?_;refine G.box O λH2 rx G=>?_;refine G.iZ λH3 rz G=>?_;refine d_ ?_;refine(hg.own G).call G G.ext.next (λF' hF hg'=>abZ G.wf hg'<|(hl.own G).by hF) λg' H4 k p' m' e' hg hm hk G _=>?_
 obtain⟨ra,rc,rcs,na,nc,iH,ta,tc,m_,rfl,_⟩:=id hg;have hbd:=hg.bd;have hS1:=G;have G:=G.base;refine G.kK ?_;refine G.jE λHn G=>?_;refine d_ ?_;refine aC (λc=>?_) λc=>?_
 .obtain⟨hk1,rfl⟩:=hk c;refine G.oF ?_;refine PU.of (jB 1 O N)<|G.jE λHn G=>tl ?_;refine G.iK ?_;refine G.jE λHn G=>?_;have hg:=(hg.turn G).to (q:=p'+1) ⟨N,λ_=>hp⟩ O;have G:=hS1.over G;refine rr ?_;exact G.rF 0 O (az 6)<|⟨⟨_,k,p'+1,m',e',O,hg.by λr _ h=>h.1,hm,λ_=>⟨hk1,rfl⟩⟩,G.ext⟩
 .refine tl ?_;refine G.iK ?_;refine G.jE λHn G=>?_;have hg:=hg.turn G;have G:=hS1.over G;refine rr ?_;exact G.rF 0 O (az 6)<|⟨⟨_,k,p',m',e',O,hg.by λr _ h=>h.1,hm,λh=>absurd h c⟩,G.ext⟩
end
section
variable{ax:Nat->Prop}
def Yop(aa:FuncId)(n d s:Nat):Prop:=∀{ax:Nat->Prop}{H:F}{g:D}{p m rl:Nat},Wf H->YG n ax H g p m rl 0->aJ Pg X aa [g,B d] H (YR n (p+s<=·) ax H m rl)
def FP{sn sc:Nat}{at':Int}(h:c≠4):VU ax H [vi c,T W 0 0,.string t,T a sn sc,vi at'] m:=⟨c,W,[],0,t,a,sn,sc,at',O,i_.nil _ _ _ _ _,(λj h=>nomatch h),λe=>absurd e h,bg _⟩
abbrev La(rt rz rb:Nat)(tl gl:List D)(gb:List dJ):List dJ:=(rt,186,tl)::(rz,32,[T W 0 0,T W 0 0,T W 0 0,vi 0,vi 0,vi 0])::(rb,32,gl)::gb
abbrev lg(ra:Option Addr)(rl rc:Nat)(na:Option Addr)(m nc:Nat)(ta:Option Addr)(n tc p:Nat)(e at':Int):List D:=[T ra rl rc,T na m nc,T ta n tc,B p,vi e,vi at']
theorem yno{rt:Nat}{rc nc tc en ec:Nat}{xs:List Nat}{kz at' m_:Int}{ve sv jh iL uZ:D}(hg:YG n (Ot ax H.next<|La rt rz rb [vi kz,vi at',ve,.string t,sv] (lg ra rl rc na SH nc ta n tc (p+1) 0 m_) []) H1 (.agg ⟨lg ra rl rc na SH nc ta n tc (p+1) 0 m_⟩) (p+1) SH rl 0)(G:M [] H H1<|La rt rz rb [vi kz,vi at',ve,.string t,sv] (lg ra rl rc na SH nc ta n tc (p+1) 0 m_) [])(hp1:p+1<n)(hp2:p+2<n)(hf:i_ (λ_=>True) 3 H1 ea en 1<|fG xs)(hen:en<=3000000)(hxl:xs.length=en)(hxs:∀x∈xs,x<=134217728):
 gJ Pg X (.loop<|sub gI [1,1,0,1,0,1,1,1,1,1,1,1,1,1,0,1,1,1,1,0,1,0,0]) (kP x0 (B d) (pr rb) (pr rz) (vi 0) (pr rt) (T ea en ec) (T W 0 0) (vi 0) jh iL uZ u H1) (rO 1<|sW Pg X (sub gI [1,1,0,1,0,1,1,1,1,1,1,1,1,1,0,1,1,1,1,1])<|rO 0<|sW Pg X (sub gI [1,1,1])<|jR Pg [.cell 4 32,.tmp 5]<|YR n (p+1<=·) ax H SH rl):=by
 refine lp2 8 9 (h2:=λm x8 x9 C=>∃i bs gb,x9=B i/\GB 4 1 x8 (bools bs) gb/\bs.length=i/\i+m=en/\M [] H C (La rt rz rb [vi kz,vi at',ve,.string t,sv] (lg ra rl rc na SH nc ta n tc (p+1) 0 m_) gb)/\YG n (Ot ax H.next<|La rt rz rb [vi kz,vi at',ve,.string t,sv] (lg ra rl rc na SH nc ta n tc (p+1) 0 m_) gb) C (.agg ⟨lg ra rl rc na SH nc ta n tc (p+1) 0 m_⟩) (p+1) SH rl 0/\i_ (λ_=>True) 3 C ea en 1 (fG xs)) ?_ en ⟨0,[],[],rfl,GB.nil _ _,rfl,aW en,G,hg,hf⟩;clear hg G hf;rintro m x8 x9 u H2 ⟨i,bs,gb,rfl,hgb,hbl,him,G,hg,hf⟩;have hbd:=hg.bd;refine tp ?_;refine aC (λy=>?_) λy=>?_;rotate_left
 .refine tl ?_;obtain⟨ga,gn,gc,rfl,hgl,hgf⟩:=hgb.Jc (ax:=λ_=>True) (G.perm<|aF (l₁:=[_,_,_])) λ_ _=>trivial;obtain rfl:gn=bs.length:=by rw[aM]at hgl;omega
  have G:M [] H H2 (La rt rz rb [vi kz,vi at',ve,.string t,sv] (lg ra rl rc na SH nc ta n tc (p+1) 0 m_) []):=G.sub<|dZ [_,_,_] gb;have hg:=hg.by (F':=Ot ax H.next<|La rt rz rb [vi kz,vi at',ve,.string t,sv] (lg ra rl rc na SH nc ta n tc (p+1) 0 m_) []) λr _ h=>⟨h.1,λhm=>h.2 (by simp only[iA,bM,jy,dW,iD]at hm|-;rcases hm with h|h|h<;>simp[h])⟩
  have n1:=G.nq 0 2 O O N;have n2:=G.nq 0 1 O O N;have n3:=G.nq 1 2 O O N;refine d_ ?_;refine aJ.mono (ahq (nG H2) (show i_ (λ_=>True) 3 (hN H2) ea en 1 (fG xs)from hf) hen hxl hxs (show i_ (λ_=>True) 4 (hN H2) ga bs.length 1 (bools bs)from hgf)) ?_;rintro v H3 ⟨⟨ca,cn,cc,rfl⟩,hx3⟩;have hg:=hg.ex (C:=hM H2 H3) hx3.draw;have G:=G.mV hx3;refine d_ ?_;refine hg.ajZ G G.ext.next (λF' hF hg'=>Yd (nG _) hg' (FP<|by decide) hp2) λg' H5 k p' m' e' hg hm hk G Yz=>?_
  obtain⟨_,_,_,_,_,_,_,_,_,rfl,_⟩:=id hg;have hS1:=G;have G:=G.base;refine G.kK ?_;refine G.lW λHn G=>(show∀K:Prop,K->_/\K fromλKz hK=>?_) _ ?_
  .simp only[eG,fT,fK hx3,Yz];apply xS (a:=rt) (b:=rz) (c:=rb) n2 n1 n3 (by intros;rfl) (by kernel_rfl) (by kernel_rfl) hK
  have hg:=hg.turn G;have G:=hS1.over G;refine rr ?_;exact G.rF 1 O (az 6)<|⟨⟨_,k,p',m',e',O,hg.by λr _ h=>h.1,hm,λh=>⟨(hk h).1,by have:=(hk h).2;omega⟩⟩,G.ext⟩
 obtain⟨_,_,_,_,_,_,_,_,_,e,_,_,_,_,_,_,⟨_,_,cs5,e5,hf5,_,ab0⟩,_⟩:=id hg;cases e;cases e5;obtain⟨r,o,ei,R,hcl,o0,e6,ho⟩:=hf5.1.idx (c:=tc) N hp1;obtain⟨_,Ry,e5',t5,x5,hk5,_,VV,_⟩:=ab0 (p+1) hp1
 have hc4:cs5[(p+1)*5+4]?=Z x5:=by
  have:=dV (λl=>l[4]?) hk5;simp only[mG]at this;simpa using this
 obtain⟨r2,o2,e2,hr2,vk,o3,e7,ho2⟩:=hf.1.idx (c:=ec) N (show i<en by omega);have hxi:(fG xs)[i]?=Z (B xs[i]):=kU _<|au N;have hS0:=G;have G:=G.base;refine d_ ?_;refine PU.of ei<|aY ?_;refine ME.ld (H:=hN H2) (hcl 4 _ N hc4) ?_;simp only[gZ G.wf];refine PU.of e2<|ME.ld (H:=hN H2) (vk 0 _ N (by rw[dz,dD];exact hxi)) ?_;simp only[gZ G.wf];refine aJ.mono (alI (ax:=Ot ax H.next<|La rt rz rb [vi kz,vi at',ve,.string t,sv] (lg ra rl rc na SH nc ta n tc (p+1) 0 m_) gb) (H:=hN H2) VV) ?_;rintro v H3 ⟨⟨bh,rfl⟩,rfl⟩;simp only[gZ G.wf,PP];refine G.Qa O O O N λH4 ry G hc1=>?_;have hSA:=G;refine hgb.Gj (G.perm<|(aF (l₁:=[_,_,_])).cons _) N O O (by rw[aM];omega) λv' H5 gT hgb' G hx5 PD hc2=>?_;have G:=G.perm<|aF (l₂:=[_,_,_]);simp only[bE,bK]at G;have hty:=hS0.IG (ty:=3) (by simp[hgb.all])
 have hno:r∉((La rt rz rb [vi kz,vi at',ve,.string t,sv] (lg ra rl rc na SH nc ta n tc (p+1) 0 m_) gb:List dJ).map (·.1)):=by
  have:=hf5.2 r o0 e6 N;exact this.1.2
 have alJ:r2∉((La rt rz rb [vi kz,vi at',ve,.string t,sv] (lg ra rl rc na SH nc ta n tc (p+1) 0 m_) gb:List dJ).map (·.1)):=λh=>hty r2 h (hf.2 r2 o3 e7 N).2.2
 have rd:∀{r o v},r<H2.next->r∉((La rt rz rb [vi kz,vi at',ve,.string t,sv] (lg ra rl rc na SH nc ta n tc (p+1) 0 m_) gb:List dJ).map (·.1))->H2.cell r o=Z v->nI v v=f->∀w:Cl,w=⟨2,0,0,0,hM H2 H4,H5⟩->mY w ⟨4,r,o,1,hh0,hh0⟩=f:=λ{r o v} R hn y hs w hw=>by
  subst hw;have e1:=hSA.ext.obj r R hn;have e2:=PD r (aP R hSA.ext.next) λh=>hn (by simp only[iA,bM];exact .inr<|.inr<|.inr h);exact Af ((vw e1 o 1).trans<|aar y) ((vw (e2.trans e1) o 1).trans<|aar y) (yF λhc hy=>by rw[aO]at hy;subst hy;exact hs)
 have r1:=rd hr2 alJ (vk 0 _ N (by rw[dz,dD];exact hxi))<|vC _ _;obtain⟨xa,xn,xc,zs,ex5,_,_,_,hsp⟩:=id VV;have r2':=rd R hno (hcl 4 _ N hc4) (by rw[ex5];exact oQ _ _ _ hsp)
 have rb':∀{o v},(o=2/\v=T ta n tc\/o=3/\v=B (p+1))->∀w:Cl,w=⟨2,0,0,0,hM H2 H4,H5⟩->mY w ⟨4,rb,o,1,hh0,hh0⟩=f:=λ{o v} ho w hw=>by
  subst hw;have b2:Bk H5 rb 32 _:=(G.get 2 O).jf O;refine p8 (hSA.get 3 O) b2 (by show o+1<=6;omega) λhc hy=>?_;rcases ho with⟨rfl,rfl⟩|⟨rfl,rfl⟩
  .have hy:hc∈[T ta n tc]:=hy;rw[aO]at hy;subst hy;exact oQ _ _ _ λz hz=>by rw[e6]at hz;cases hz;rfl
  .have hy:hc∈[B (p+1)]:=hy;rw[aO]at hy;subst hy;exact vC _ _
 refine(show∀K:Prop,K->_/\K fromλKz hK=>?_) _ ?_
 .simp only[hc1,eG,fK<|Ext.refl<|hN _];rcases hc2 with e|e<;>rw[e]<;>apply Ej (ai:=λw=>w=⟨2,0,0,0,hM H2 H4,H5⟩) (by kernel_rfl) (by kernel_rfl) hK<;>repeat' apply iq
  all_goals first|exact trivial|(intro h;cases h;done)|exactλ_=>rfl|exactλ_=>r1|exactλ_=>r2'|exactλ_=>rb' (.inl ⟨rfl,rfl⟩)|exactλ_=>rb'<|.inr ⟨rfl,rfl⟩
 have hf:=hf.stay G.ext λq hq=>.inr<|hty q hq;have hg:=hg.turn G;have G:=hS0.over G;exact PU.of (jB 1 O N)<|⟨m-1,N,_,_,_,_,O,i+1,bs++[!bh],gT,O,by rw[show bools (bs++[!bh])=bools bs++[.bool !bh]from dG];exact hgb',by simp;omega,N,G,hg,hf⟩
end
section
variable{ax:Nat->Prop}
theorem aj0(hd:d<=40)(ih:d<40->Yop 106 n (d+1) 0):Yop 165 n d 1:=by
 intro ax H g p m rl hw hg;have hbd:=hg.bd;have hpn:=hbd.2.1 O;obtain⟨ra,rc,rcs,na,nc,iH,ta,tc,m_,rfl,_⟩:=id hg;have G:=M.refl hw;refine ce [0,1,2,4,5,6,7,8,9,10,11,19]<|gJ.wC λK hK=>?_;refine tl ?_;refine G.box O λH1 rb G=>?_;refine G.iZ λH2 rz G=>?_;refine d_ ?_;obtain⟨_,_,_,_,_,_,_,_,_,e,_,_,_,_,_,_,⟨_,_,E,e2,hf,hn,hrow⟩,_⟩:=hg.ex G.ext;cases e;cases e2;obtain⟨k,at',e',t,x,hk,_,hset,k1,k2,k3⟩:=hrow p hpn;obtain⟨sa,sn,sc,zs,rfl,_⟩:=id hset;refine hf.Xw N hpn hk λq=>G.nZ O O O λH3 rt G hx3=>?_;have G:M [] H H3 (La rt rz rb [vi k,vi at',vi e',.string t,T sa sn sc] (lg ra rl rc na m nc ta n tc p 0 m_) []):=G;have hb:=G.ext.next
 have hgo:=hg.own G;refine d_ ?_
 have hp1:k≠0->p+1<n:=λh=>by
  have:p+1≠n:=λe=>h<|k3 e;omega
 have go:∀{b:Bool}{u},Aw u 20=.bool b->(b=f->k=1\/k=2)->gJ Pg X (sub gI [1,1,0,1,0,1]) (kP (.agg ⟨lg ra rl rc na m nc ta n tc p 0 m_⟩) (B d) (pr rb) (pr rz) (vi 0) (pr rt) top top top top top (vi k) u H3) (rO 0<|sW Pg X (sub gI [1,1,1]) K):=by
  intro b u hlk hb;refine tl ?_;rw[hlk,hK];cases b;rotate_left
  .refine d_ ?_;refine YG.ret hgo G (i:=1) O O (hr:=(·=p+1)) (R':=(p+1<=·)) (λq h=>by omega) (az _) (λF' hF hg'=>Yd G.wf hg' (FP<|by decide)<|hp1 (by have:=hb O;omega)) λv g' c rg H4 hY R=>?_;refine rr ?_;exact R hY
  refine aY ?_;refine aC (λc=>?_) λ_=>?_
  .refine d_ ?_;refine YG.ret hgo G (i:=1) O O (hr:=(·=p+1)) (R':=(p+1<=·)) (λq h=>by omega) (az _) (λF' hF hg'=>Yd G.wf hg' (FP<|by decide)<|hp1 N) λv g' c rg H4 hY R=>rr ?_;exact R hY
  refine aC (λc=>?_) λ_=>?_
  .refine d_ ?_;refine YG.ret hgo G (i:=1) O O (hr:=(·=p+1)) (R':=(p+1<=·)) (λq h=>by omega) (az _) (λF' hF hg'=>Yd G.wf hg' (FP<|by decide)<|hp1 N) λv g' c rg H4 hY R=>rr ?_;exact R hY
  refine aC (λc=>?_) λ_=>?_
  .refine d_ ?_;refine(M.refl G.wf).bS O O O N λH4 ry uR=>?_;have hgo:=hgo.ex uR.ext;have G:=G.call uR.ext;refine d_ ?_;refine YG.ret hgo G (i:=1) O O (hr:=(·=p+1)) (R':=(p+1<=·)) (λq h=>by omega) (az _) (λF' hF hg'=>Yd G.wf hg' (FP<|by decide)<|hp1 N) λv g' c rg H4 hY R=>rr ?_;exact R hY
  refine aC (λc=>?_) λ_=>?_
  .have hp:=hp1 N;have hS1:=G;have G:=G.base;refine G.oF ?_;refine PU.of (jB 1 O N)<|G.jE λHn G=>?_;refine G.iK ?_;have hgo:=(hgo.turn G).to (q:=p+1) ⟨N,λ_=>hp⟩ O;have G:=hS1.over G;refine aJ.mono (Aq G.wf hgo hp) ?_;rintro v H5 ⟨⟨k5,rfl,_,_,k6⟩,J⟩;have hgo:=hgo.ex J;have G:=G.call J;refine aY ?_;refine bT (λc=>?_) λc=>?_
   .refine G.iK<|YG.abY (i:=1) hgo G O O (az _) (by decide) λg' rg H4 hY R=>?_;refine rr ?_;exact R hY
   refine d_ ?_;obtain⟨_,_,_,_,_,_,_,_,_,e,_,_,_,_,_,_,⟨_,_,cs5,e5,hf5,_,ab0⟩,_⟩:=id hgo;cases e;cases e5;obtain⟨r,o,ei,R,hcl,_⟩:=hf5.1.idx (c:=tc) N hp;obtain⟨_,Ry,e5',t5,x5,hk5,_,VV,_⟩:=ab0 (p+1) hp
   have hc4:cs5[(p+1)*5+4]?=Z x5:=by
    have:=dV (λl=>l[4]?) hk5;simp only[mG]at this;simpa using this
   refine PU.of ei<|aY ?_;refine ME.ld (hcl 4 _ N hc4)<|aJ.mono (ahp G.wf VV) ?_;rintro v H6 ⟨hlist,J⟩;have hgo:=hgo.ex J;have G:=G.call J;obtain⟨ea,en,ec,xs,rfl,hfl,hen,hxl,hxs⟩:=hlist.fl
   exact yno hgo G hp (by
    have:p+1+1≠n:=λe=>by rw[k6 e]at c;exact absurd c (by decide)
    omega) hfl hen hxl hxs
  have bad:∀{c:Int}{x9 jh iL:D}{u:D->D->Rs},c≠0->ME (uP (Z 6) (pr rb) H3) λv C=>aJ Pg X 105 [v,vi c] C λv_1 C=>ME (Cq 6 (pr rz) v_1 C) λ_ C=>jR Pg [.cell 4 32,.tmp 5] (YR n (p+1<=·) ax H m rl) (.ret<|kP (.agg ⟨lg ra rl rc na m nc ta n tc p 0 m_⟩) (B d) (pr rb) (pr rz) (vi 0) (pr rt) top top x9 jh iL (vi k) (u v_1 v) C):=by
   intro c x9 jh iL u y;refine G.iK<|YG.abY (i:=1) hgo G O O (az _) y λg' rg H4 hY R=>?_;refine rr ?_;exact R hY
  refine aC (λc=>?_) λ_=>?_;rotate_left
  .refine tl ?_;exact bad (by decide)
  refine aC (λ_=>bad<|by decide) λhd4=>?_;have hp:=hp1 N;have hS1:=G;have G:=G.base;refine G.oF ?_;refine PU.of (jB 1 O N)<|G.jE λHn G=>?_;refine G.iK ?_;refine PU.of (jB 1 O N) ?_;have hgo:=(hgo.turn G).to (q:=p+1) ⟨N,λ_=>hp⟩ O;have G:=hS1.over G;refine hgo.call G G.ext.next (λF' hF hg'=>ih N G.wf hg') λg' H4 k4 p4 m4 e4 hgo hm4 hk4 G hx4=>?_
  obtain⟨ra4,rc4,_,na4,nc4,_,ta4,tc4,at4,rfl,_⟩:=id hgo;have hb4:=hgo.bd;refine aY ?_;have hS1:=G;have G:=G.base;refine G.adZ λH5 r10 G hx5=>?_
  have fin:∀{b:Bool}{H6:F}{u:Rs},Aw u 140=.bool b->(b=f->e4=0)->(b=aA->e4=0->p4+1<n)->M [] H H6 ((r10,32,lg ra4 rl rc4 na4 m4 nc4 ta4 n tc4 p4 e4 at4)::La rt rz rb [vi k,vi at',vi e',.string t,T sa sn sc] (lg ra rl rc na m nc ta n tc (p+1) 0 m_) [])->YG n (Ot ax H.next<|(r10,32,lg ra4 rl rc4 na4 m4 nc4 ta4 n tc4 p4 e4 at4)::La rt rz rb [vi k,vi at',vi e',.string t,T sa sn sc] (lg ra rl rc na m nc ta n tc (p+1) 0 m_) []) H6 (.agg ⟨lg ra4 rl rc4 na4 m4 nc4 ta4 n tc4 p4 e4 at4⟩) p4 m4 rl e4->gJ Pg X (sub gI [1,1,0,1,0,1,1,1,1,1,1,1,1,1,1,1,0,1,1,1,0,1]) (kP (.agg ⟨lg ra rl rc na m nc ta n tc p 0 m_⟩) (B d) (pr rb) (pr rz) (vi 0) (pr rt) top top top (pr r10) (B k4) (vi k) u H6) (sW Pg X (sub gI [1,1,0,1,0,1,1,1,1,1,1,1,1,1,1,1,0,1,1,1,1])<|rO 0<|sW Pg X (sub gI [1,1,1])<|jR Pg [.cell 4 32,.tmp 5]<|YR n (p+1<=·) ax H m rl):=by
   intro b H6 u hlk hb1 hb2 G hgo;refine tl ?_;rw[hlk];cases b;rotate_left
   .obtain rfl:=hb1 O;refine d_ ?_;refine YG.abY (i:=2) hgo G O O hm4 (by decide) λg' rg H4 hY R=>?_;refine rr ?_;exact R hY
   refine aY ?_;refine tl ?_;have hS1:=G;have G:=G.base;refine d_ ?_;refine aC (λc4=>?_) λc4=>?_
   .have hp4:=hb2 O c4;refine G.oF ?_;refine PU.of (jB 1 O N)<|G.jE λHn G=>?_;refine tm ?_;refine G.jE λHn G=>?_;have hgo:=(hgo.turn G).to (q:=p4+1) ⟨N,λ_=>hp4⟩ O;have G:=hS1.over G;refine rr ?_;exact G.rF 2 O (az 6)<|⟨⟨_,k4,p4+1,m4,e4,O,hgo.by λr _ h=>h.1,hm4,λh=>⟨(hk4 h).1,by have:=(hk4 h).2;omega⟩⟩,G.ext⟩
   .refine tm ?_;refine G.jE λHn G=>?_;have hgo:=hgo.turn G;have G:=hS1.over G;refine rr ?_;exact G.rF 2 O (az 6)<|⟨⟨_,k4,p4,m4,e4,O,hgo.by λr _ h=>h.1,hm4,λh=>absurd h c4⟩,G.ext⟩
  refine G.kK ?_;refine G.jE λHn G=>?_;refine d_ ?_;have hgo:=hgo.turn G;have G:=hS1.over G;refine aC (λc4=>?_) λc4=>fin O (λh=>nomatch h) (λ_ h=>absurd h c4) G hgo;subst c4;have hp4:=hb4.2.1 O;refine d_ ?_;refine aJ.mono (Aq G.wf hgo hp4) ?_;rintro v H6 ⟨⟨k6,rfl,_,_,k7⟩,J⟩;have hgo:=hgo.ex J;have G:=G.call J;refine aY ?_
  exact fin O (λ_=>rfl) (λh _=>by
   have h:k6=9:=by simpa using h
   have:p4+1≠n:=λe=>by have:=k7 e;omega
   omega) G hgo
 exact aC (λc=>go (by rw[bG c];rfl) λ_=>.inl c) λc=>go (by rfl) λh=>.inr<|fE h
end
section
variable{ax:Nat->Prop}
abbrev Lz(rz rb:Nat)(gl:List D)(gb:List dJ):List dJ:=(rz,32,[T W 0 0,T W 0 0,T W 0 0,vi 0,vi 0,vi 0])::(rb,32,gl)::gb
def afX(hg:GB 3 1 v ks gb)(G:M [] H H1<|Lz rz rb gl gb):∃a m c,v=T a m c/\ks.length=m/\i_ (Ot ax H.next<|Lz rz rb gl []) 3 H1 a m 1 ks:=by
 have hp:=G.perm<|aF (l₁:=[_,_])
 obtain⟨a,m,c,e,hn,hf⟩:=hg.Jc (ax:=Ot ax H.next<|Lz rz rb gl []) hp λe he=>⟨.inr<|hp.wB<|cZ _ he,λhm=>by
  rcases hg with⟨_,_,rfl⟩|⟨r,n,dY,_,_,rfl⟩
  .cases he
  .rw[aO]at he;subst he;simp only[iA,jy,bM,dW,iD]at hm;rcases hm with h|h
   .exact absurd h (G.nq 0 2 O O<|by decide).symm
   .exact absurd h (G.nq 1 2 O O<|by decide).symm⟩
 exact⟨a,m,c,e,N,hf⟩
def YG.less(hg:YG n (Ot ax H.next<|Lz rz rb gl gb) H1 g p m rl e):YG n (Ot ax H.next<|Lz rz rb gl []) H1 g p m rl e:=
 hg.by λr _ h=>⟨h.1,λhm=>h.2 (by simp only[iA,bM,jy,dW,iD]at hm|-;rcases hm with h|h<;>simp[h])⟩
theorem alK(ih:Yop 165 n d 1):Yop 137 n d 0:=by
 intro ax H g p m rl hw hg;have hbd:=hg.bd;have hpn:=hbd.2.1 O;obtain⟨ra0,rc0,_,na0,nc0,_,ta0,tc0,m_,rfl,_⟩:=id hg;have G:=M.refl hw;refine ce [0,1,2,4,5,6,7,8,9] ?_;refine tl ?_;refine G.box O λH1 rb G=>?_;refine G.iZ λH2 rz G=>?_;refine Oa 6 7 8 9 (h2:=λz x6 x7 x8 x9 C=>∃q aa e ks gb gl,GB 3 1 x6 (fG ks) gb/\ks.length<=20002/\m<=aa/\(e=0->n<=q+z/\p<=q/\ks.length<=q-p/\∀k∈ks,k<aa)/\M [] H C (Lz rz rb gl gb)/\YG n (Ot ax H.next<|Lz rz rb gl gb) C (.agg ⟨gl⟩) q aa rl e) ?_ (n-p) ⟨p,m,0,[],[],_,GB.nil _ _,bg _,az _,λ_=>⟨N,az _,bg _,λk h=>nomatch h⟩,G,hg.own G⟩;clear hg G;rintro z x6 x7 x8 x9 u H3 ⟨q,aa,e,ks,gb,gl,hgb,hkl,hmN,he,G,hg⟩;have hqb:=hg.bd;obtain⟨ra,rc,rcs,na,nc,iH,ta,tc,Oo,e1,_⟩:=id hg;cases e1;refine gJ.wC λK hK=>?_
 have out:∀{H4:F}{x7 x8 x9:D}{u:Rs},M [] H H4 (Lz rz rb (lg ra rl rc na aa nc ta n tc q e Oo) gb)->YG n (Ot ax H.next<|Lz rz rb (lg ra rl rc na aa nc ta n tc q e Oo) gb) H4 (.agg ⟨lg ra rl rc na aa nc ta n tc q e Oo⟩) q aa rl e->gJ Pg X (sub jU [1,1,1]) (jK (.agg ⟨lg ra0 rl rc0 na0 m nc0 ta0 n tc0 p 0 m_⟩) (B d) (pr rb) (pr rz) (vi 0) x6 x7 x8 x9 u H4) (jR Pg [.cell 4 32,.tmp 5]<|YR n (p+0<=·) ax H m rl):=by
  intro H4 x7 x8 x9 u G hg;obtain⟨a,j,c,rfl,hj,hf⟩:=afX hgb G;rw[aM]at hj;subst hj;have hg:=hg.less;have G:M [] H H4 (Lz rz rb _ []):=G.sub<|dZ [_,_] gb;refine tm ?_;refine bT (λc=>?_) λc=>?_
  .have hS1:=G;have G:=G.base;refine G.iK<|G.jE λHn G=>?_;have hg:=hg.turn G;have G:=hS1.over G;refine rr ?_;exact G.rF 0 O (az 6)<|⟨⟨_,0,q,aa,e,O,hg.by λr _ h=>h.1,hmN,λh=>absurd h c⟩,G.ext⟩
  subst c;refine d_ ?_;refine YG.ret hg G (i:=0) O O (hr:=(·=q)) (R':=(p+0<=·)) (λq' h=>by have:=(he O).2.1;omega) hmN (λF' hF hg'=>abZ G.wf hg' ⟨1,a,ks,_,_,W,0,0,0,rfl,hf.by hF,(he O).2.2.2,λh=>absurd h<|by decide,N⟩) λv g' c rg H5 hY R=>?_;refine rr ?_;exact R hY
 refine tm ?_;refine aC (λc=>?_) λc=>?_;rotate_left
 .rw[hK];exact out G hg
 subst c;have hqn:=hqb.2.1 O;refine G.iK<|aJ.mono (Aq G.wf hg hqn) ?_;rintro v H4 ⟨⟨k,rfl,k0,k1,k2⟩,J⟩;have hg:=hg.ex J;have G:=G.call J;refine aY ?_
 have body:k≠0->∀{x8 x9:D}{u:Rs},gJ Pg X (sub jU [1,1,0,0,0,1,0,1,1]) (jK (.agg ⟨lg ra0 rl rc0 na0 m nc0 ta0 n tc0 p 0 m_⟩) (B d) (pr rb) (pr rz) (vi 0) x6 (vi k) x8 x9 u H4) (rO 1 K):=by
  intro hk x8 x9 u;refine tm ?_;refine hg.call G G.ext.next (λF' hF hg'=>ih G.wf hg') λg' H5 k5 q5 N5 e5 hg hN5 hk5 G _=>?_
  have ahs:=hg.bd;obtain⟨ra,rc,rcs,na,nc,iH,ta,tc,Ry,rfl,_⟩:=id hg;refine aY ?_;have hS1:=G;have G:=G.base;refine G.adZ λH6 r8 G hx5=>G.jE λHn G=>?_;refine G.iK ?_;refine G.jE λHn G=>?_;refine d_ ?_;have hg:=hg.turn G;have G:=hS1.over G;have G:M [] H Hn (Lz rz rb (lg ra rl rc na N5 nc ta n tc q5 e5 Ry) gb):=M.drop (A:=[_]) G;have hg:YG n (Ot ax H.next<|Lz rz rb (lg ra rl rc na N5 nc ta n tc q5 e5 Ry) gb) Hn _ q5 N5 rl e5:=hg.by λr _ h=>⟨h.1,λhm=>h.2<|bH _ hm⟩
  have app:∀{H6:F}{gl:List D}{q1 N1 c:Nat}{e1:Int}{x8:D}{u:Rs},N5<=N1->(e1=0->q<q1/\c<N1)->M [] H H6 (Lz rz rb gl gb)->YG n (Ot ax H.next<|Lz rz rb gl gb) H6 (.agg ⟨gl⟩) q1 N1 rl e1->gJ Pg X (sub jU [1,1,0,0,0,1,0,1,1,1,1,1]) (jK (.agg ⟨lg ra0 rl rc0 na0 m nc0 ta0 n tc0 p 0 m_⟩) (B d) (pr rb) (pr rz) (vi 0) x6 (vi k) x8 (B c) u H6) (rO 1 K):=by
   intro H6 gl q1 N1 c e1 x8 u hN1 Q G hg;obtain⟨f1,f2,f3,f4⟩:=he O;have hb:=hg.bd;have hS1:=G;have G:=G.base;refine tl<|hgb.push (G.perm<|aF (l₁:=[_,_])) N O O O O O N (by rw[aM];omega) λw v' H7 gT hgb' G=>?_;have G:=G.perm<|aF (l₂:=[_,_]);refine aY ?_;rw[hK];refine⟨z-1,N,_,_,_,_,_,_,O,q1,N1,e1,ks++[c],gT,_,by rw[show fG (ks++[c])=fG ks++[B c]from dG];exact hgb',?_,N,λh=>?_,hS1.over G,hg.turn G⟩
   .rw[aQ];show ks.length+1<=_;omega
   obtain⟨g1,g2⟩:=Q h;refine⟨N,N,by rw[aQ];show ks.length+1<=_;omega,λj hj=>?_⟩;rcases bX.1 hj with h|h
   .have:=f4 j h;omega
   .rw[aO.1 h];exact g2
  have no:∀{H6:F}{x8:D}{u:Rs},Aw u 52=.bool aA->M [] H H6 (Lz rz rb (lg ra rl rc na N5 nc ta n tc q5 e5 Ry) gb)->YG n (Ot ax H.next<|Lz rz rb (lg ra rl rc na N5 nc ta n tc q5 e5 Ry) gb) H6 (.agg ⟨lg ra rl rc na N5 nc ta n tc q5 e5 Ry⟩) q5 N5 rl e5->gJ Pg X (sub jU [1,1,0,0,0,1,0,1,1,1,1,0,1]) (jK (.agg ⟨lg ra0 rl rc0 na0 m nc0 ta0 n tc0 p 0 m_⟩) (B d) (pr rb) (pr rz) (vi 0) x6 (vi k) x8 (B k5) u H6) (sW Pg X (sub jU [1,1,0,0,0,1,0,1,1,1,1,1])<|rO 1 K):=by
   intro H6 x8 u hlk G hg;refine tl ?_;rw[hlk];refine aY ?_;exact app (az _) (λh=>⟨(hk5 h).2,(hk5 h).1⟩) G hg
  refine aC (λc5=>?_) λ_=>no O G hg;subst c5;have hq5:=ahs.2.1 O;refine G.iK<|aJ.mono (Aq G.wf hg hq5) ?_;rintro v H7 ⟨⟨k6,rfl,_,_,k7⟩,J⟩;have hg:=hg.ex J;have G:=G.call J;refine aY ?_;refine aC (λc1=>?_) λ_=>no O G hg;refine G.iK<|aJ.mono (Aq G.wf hg hq5) ?_;rintro v H8 ⟨⟨k8,rfl,_⟩,J⟩;have hg:=hg.ex J;have G:=G.call J;refine aY ?_
  by_cases c2:k8<=12
  rotate_left
  .exact no (by rw[dn c2];rfl) G hg
  rw[bG c2]
  have hq1:q5+1<n:=by
   have:q5+1≠n:=λe=>by have:=k7 e;omega
   omega
  refine tm ?_;refine aJ.mono (Aq (nG H8) (show YG n _ (hN H8) _ q5 N5 rl 0 from hg) hq5) ?_;rintro v H9 ⟨⟨k9,rfl,k10,k11,_⟩,LW⟩;have hg:=hg.ex (C:=hM H8 H9) LW.draw;have G:=G.mV LW;rw[nW N N];refine aY ?_;have hS1:=G;have G:=G.base;refine G.Qa O O O N λDm ry G hc1=>?_;have hg:=hg.turn G;have hg:YG n (Ot ax H.next<|Lz rz rb (lg ra rl rc na N5 nc ta n tc q5 0 Ry) gb) _ _ q5 N5 rl 0:=hg.by λr _ h=>⟨h.1,λhm=>h.2<|bH _ hm⟩
  have hS1:=hS1.over G
  have hry:Ot ax H.next (Lz rz rb (lg ra rl rc na N5 nc ta n tc q5 0 Ry) gb) ry:=⟨.inr<|hS1.wB<|aL ..,λhm=>by
   obtain⟨e,he,e2⟩:=bQ.1 hm;exact M.apart (A:=[(ry,3,bI<|B k5)]) hS1 (aO.2 O) he e2.symm⟩
  have hk:=(hS1.get 0 O).Rw (n:=1) (es:=1) (hS1.lo _<|aL ..).2 O hry;have G:=M.drop (A:=[_]) hS1;refine hg.ajZ G G.ext.next (λF' hF hg'=>Yd (nG _) hg' ⟨k9-8,Z ⟨ry,0,W⟩,[k5],1,⟨#[]⟩,W,0,0,0,rfl,(show i_ _ 3 (hN<|hM (hM H8 H9) Dm) _ 1 1 (fG [k5])from hk).by hF,λj hj=>by rw[aO.1 hj];exact(hk5 O).1,(λ_ h=>nomatch h),(show 1<=20003 by decide)⟩ hq1) λg' OW k12 q12 N12 e12 hg alL SA G Yz=>?_
  obtain⟨_,_,_,_,_,_,_,_,_,rfl,_⟩:=id hg;have hS1:=G;have G:=G.base;refine G.kK ?_;refine G.lW λHn G=>(show∀K:Prop,K->_/\K fromλKz hK=>?_) _ ?_
  .simp only[eG,fT,fK LW,hc1,Yz];apply Eh (a:=rb) (by intros;rfl) (by kernel_rfl) (by kernel_rfl) hK
  exact app alL (λh=>⟨by have:=(SA h).2;have:=(hk5 O).2;omega,(SA h).1⟩) (hS1.over G)<|hg.turn G
 have exit:∀{x8 x9 u},K (.exit 0<|jK (.agg ⟨lg ra0 rl rc0 na0 m nc0 ta0 n tc0 p 0 m_⟩) (B d) (pr rb) (pr rz) (vi 0) x6 (vi k) x8 x9 u H4):=by
  intro x8 x9 u;rw[hK];exact out G hg
 refine aC (λc1=>exit) λc1=>?_;refine aC (λc2=>?_) λc2=>body N;refine bT (λc3=>?_) λc3=>body N;refine bT (λc4=>?_) λc4=>body N;exact bT (λc5=>exit) λc5=>body N
end
section
variable{ax:Nat->Prop}
theorem ab1(ih:Yop 137 n d 0):Yop 106 n d 0:=by
 intro ax H g p m rl hw hg;have hbd:=hg.bd;have hpn:=hbd.2.1 O;obtain⟨ra0,rc0,_,na0,nc0,_,ta0,tc0,m_,rfl,_⟩:=id hg;have G:=M.refl hw;refine ce [0,1,2,4,5,6,7,8] ?_;refine tl ?_;refine G.box O λH1 rb G=>?_;refine G.iZ λH2 rz G=>?_
 have out:∀{H4:F}{q aa:Nat}{e:Int}{ks:List Nat}{gb:List dJ}{gl:List D}{x6 x7 x8:D}{u:Rs},GB 3 1 x6 (fG ks) gb->0<ks.length/\ks.length<=20003->m<=aa->(e=0->p<=q/\∀k∈ks,k<aa)->M [] H H4 (Lz rz rb gl gb)->YG n (Ot ax H.next<|Lz rz rb gl gb) H4 (.agg ⟨gl⟩) q aa rl e->gJ Pg X (sub l8 [1,1,1]) (pF (.agg ⟨lg ra0 rl rc0 na0 m nc0 ta0 n tc0 p 0 m_⟩) (B d) (pr rb) (pr rz) (vi 0) x6 x7 x8 u H4) (jR Pg [.cell 4 32,.tmp 5]<|YR n (p+0<=·) ax H m rl):=by
  intro H4 q aa e ks gb gl x6 x7 x8 u hgb hk0 hmN he G hg;obtain⟨a,j,c,rfl,hj,hf⟩:=afX hgb G;rw[aM]at hj;subst hj;have hg:=hg.less;have G:M [] H H4 (Lz rz rb _ []):=G.sub<|dZ [_,_] gb;obtain⟨ra,rc,_,na,nc,_,ta,tc,Oo,e1,_⟩:=id hg;cases e1
  have one:∀{b:Bool}{u:Rs},Aw u 42=.bool b->(b=aA->e=0)->gJ Pg X (sub l8 [1,1,1,0,1]) (pF (.agg ⟨lg ra0 rl rc0 na0 m nc0 ta0 n tc0 p 0 m_⟩) (B d) (pr rb) (pr rz) (vi 0) (T a ks.length c) x7 x8 u H4) (sW Pg X (sub l8 [1,1,1,1])<|jR Pg [.cell 4 32,.tmp 5]<|YR n (p+0<=·) ax H m rl):=by
   intro b u hlk hb;refine tl ?_;rw[hlk];cases b
   .have hb:=hb O;subst hb;refine aY ?_;refine tm ?_;refine YG.ret hg G (i:=0) O O (hr:=(·=q)) (R':=(p+0<=·)) (λq' h=>by have:=(he O).1;omega) hmN (λF' hF hg'=>abZ G.wf hg' ⟨0,a,ks,c,_,W,0,0,0,rfl,hf.by hF,(he O).2,λh=>absurd h<|by decide,hk0.2⟩) λv g' c rg H5 hY R=>?_;refine rr ?_;exact R hY
   obtain⟨r,o,e1,R,hcl,o0,e6,ho⟩:=hf.1.idx (c:=c) N hk0.1;have hk:=hk0.1;have hF:=hf.2 r o0 e6 hk0.1;have n1:rz≠r:=λe=>hF.1.2<|e▸aL ..
   have n2:r≠rb:=λe=>hF.1.2<|e▸bH _ (aL ..);have n3:=G.nq 0 1 O O N;have hS1:=G;have G:=G.base;refine d_ ?_;refine PU.of e1<|ME.ld (H:=hN H4) (hcl 0 _ N<|kU _<|au hk0.1) ?_;refine G.kK ?_;refine G.lW λHn G=>?_;refine(show∀K:Prop,K->_/\K fromλKz hK=>?_) _ ?_
   .simp only[eG,fT];apply xS (a:=rz) (b:=r) (c:=rb) n1 n3 n2 (by intros;rfl) (by kernel_rfl) (by kernel_rfl) hK
   have hg:=hg.turn G;have G:=hS1.over G;refine rr ?_;refine G.rF 0 O (az 6) ?_;exact⟨⟨_,ks[0],q,aa,e,O,hg.by λr _ h=>h.1,hmN,λh=>⟨(he h).2 _<|bB _,(he h).1⟩⟩,G.ext⟩
  refine tm ?_;exact bT (λ_=>one O λh=>nomatch h) λh=>one O λ_=>h
 refine Ig 6 7 8 (h2:=λz x6 x7 x8 C=>∃q aa ks gb gl,GB 3 1 x6 (fG ks) gb/\m<=aa/\n<=q+z/\p<=q/\ks.length<=q-p/\(∀k∈ks,k<aa)/\M [] H C (Lz rz rb gl gb)/\YG n (Ot ax H.next<|Lz rz rb gl gb) C (.agg ⟨gl⟩) q aa rl 0) ?_ (n-p) ⟨p,m,[],[],_,GB.nil _ _,az _,N,az _,bg _,(λk h=>nomatch h),G,hg.own G⟩;clear hg G;rintro z x6 x7 x8 u H3 ⟨q,aa,ks,gb,gl,hgb,hmN,hqz,hpq,hkl,hks,G,hg⟩;have hqb:=hg.bd;have hqn:=hqb.2.1 O;obtain⟨ra,rc,rcs,na,nc,iH,ta,tc,Oo,e1,_⟩:=id hg;cases e1;refine tm ?_;refine aC (λ_=>?_) λc=>absurd trivial c;refine G.iK ?_;refine hg.call G G.ext.next (λF' hF hg'=>ih G.wf hg') λg' H5 k5 q5 N5 e5 hg hN5 hk5 G _=>?_
 have ahs:=hg.bd;obtain⟨ra,rc,rcs,na,nc,iH,ta,tc,Ry,rfl,_⟩:=id hg;refine aY ?_;have hS1:=G;have G:=G.base;refine G.adZ λH6 r8 G hx5=>G.jE λHn G=>?_;refine G.iK ?_;refine G.jE λHn G=>?_;have hg:=hg.turn G;have G:=hS1.over G;have G:M [] H Hn (Lz rz rb (lg ra rl rc na N5 nc ta n tc q5 e5 Ry) gb):=M.drop (A:=[_]) G;have hg:YG n (Ot ax H.next<|Lz rz rb (lg ra rl rc na N5 nc ta n tc q5 e5 Ry) gb) Hn _ q5 N5 rl e5:=hg.by λr _ h=>⟨h.1,λhm=>h.2<|bH _ hm⟩
 have hS1:=G;have G:=G.base;refine hgb.push (G.perm<|aF (l₁:=[_,_])) N O O O O O N (by rw[aM];omega) λw v' H7 gT hgb' G=>?_;have G:=G.perm<|aF (l₂:=[_,_]);have hgb':GB 3 1 v' (fG<|ks++[k5]) gT:=by rw[show fG (ks++[k5])=fG ks++[B k5]from dG];exact hgb'
 have hg:=hg.turn G;have G:M [] H H7 (Lz rz rb (lg ra rl rc na N5 nc ta n tc q5 e5 Ry) gT):=hS1.over G;have hkl':(ks++[k5]).length=ks.length+1:=by rw[aQ];rfl
 have XK:e5=0->∀k∈ks++[k5],k<N5:=λh j hj=>by
  rcases bX.1 hj with Q|Q
  .have:=hks j Q;omega
  .rw[aO.1 Q];exact(hk5 h).1
 refine d_ ?_;refine bT (λc=>out hgb' N N (λh=>absurd h c) G hg) λc5=>?_;subst c5;have hq5:=(hk5 O).2;have hn5:=ahs.2.1 O;refine G.iK<|aJ.mono (Aq G.wf hg hn5) ?_;rintro v H8 ⟨⟨k,rfl,_,_,k7⟩,J⟩;have hg:=hg.ex J;have G:=G.call J;refine aY ?_;refine bT (λ_=>out hgb' N N (λ_=>⟨N,XK O⟩) G hg) λc6=>?_
 have hp1:q5+1<n:=by
  have:q5+1≠n:=λe=>by have:=k7 e;omega
  omega
 refine tl ?_;have hS1:=G;have G:=G.base;refine d_ ?_;refine PU.of (jB 1 O N) ?_;refine G.jE λHn G=>?_;have hg:=(hg.turn G).to (q:=q5+1) ⟨N,λ_=>hp1⟩ O;have G:=hS1.over G;exact⟨z-1,N,_,_,_,_,_,O,q5+1,N5,ks++[k5],gT,_,hgb',N,N,N,N,XK O,G,hg⟩
def alM:∀z d,41<=d+z->d<=41->(d<=40->Yop 106 n d 0):=by
 intro z
 induction z with
 |zero=>intro d Q I h3;omega
 |succ z ih=>exactλd Q I h3=>ab1<|alK<|aj0 h3 λh4=>ih (d+1) N N N
end
section
variable{ax:Nat->Prop}{rg av w:Bool}{at':Int}
abbrev Lr(rz r3 rb:Nat)(l gl:List D):List dJ:=[(rz,32,[T W 0 0,T W 0 0,T W 0 0,vi 0,vi 0,vi 0]),(r3,194,l),(rb,32,gl)]
abbrev lr(t:ByteArray)(rg av w:Bool)(ch:Int)(k:Nat)(at':Int):List D:=[.string t,.bool rg,.bool av,.bool w,vi ch,B k,vi at']
def RT(n:Nat)(ax:Nat->Prop)(p:Nat)(v:D)(C:F):Prop:=∃(ra:Option Addr)(rl rc:Nat)(na:Option Addr)(m nc:Nat)(ta:Option Addr)(tc p':Nat)(e at':Int),v=.agg ⟨lg ra rl rc na m nc ta n tc p' e at'⟩/\(e=0->p<p'/\YG n ax C v p' m rl e)
abbrev RK(n:Nat)(ax:Nat->Prop)(H:F)(p:Nat):=jR Pg [.cell 2 32]<|Q1 (RT n (Nw ax H.next) p) H
theorem aj1(G:M [] H H1<|Lr rz r3 rb (lr t rg av w ch k at') gl)(hg:YG n (Ot ax H.next<|Lr rz r3 rb (lr t rg av w ch k at') gl) H1 (.agg ⟨gl⟩) p m rl e)(hp:e=0->p0<=p/\p+1<n/\k<m)(hl:rl<120):gJ Pg X (sub fq [1,1,1,1,1,1,1,1,1,1,1,1,1,1]) (fD x0 (pr rb) (pr rz) (pr r3) x4 x5 x6 u H1) (RK n ax H p0):=by
 have hbd:=hg.bd;obtain⟨ra,rc,rcs,na,nc,iH,ta,tc,m_,e1,I,h3,h4,h5,h6,h7,h8,h9⟩:=id hg;cases e1;refine tl ?_;have hS1:=G;have G:=G.base;refine d_ ?_;refine PU.of (jB 1 O N)<|G.jE λHn G=>?_;have hg:=hg.turn G;have G:=hS1.over G;obtain⟨ra,rc,rcs,na,nc,iH,ta,tc,m_,e1,I,h3,h4,h5,h6,h7,h8,h9⟩:=id hg;cases e1;have hS1:=G;have G:=G.base;refine G.ahn λH4 a G hc1=>?_;refine d_ ?_;refine G.aho (n:=rl) (xs:=rcs) (xH (show Fl (hN<|hM Hn H4) ra rl 7 rcs from((I.stay G.ext λq hq=>.inl λh=>h.2 hq).1:Fl (hN<|hM Hn H4) ra rl 7 rcs)) N) I.1.1 N λv2 H5 g2 hg2 G hc2=>?_;have G:=G.perm<|aF (l₂:=[_,_,_]);simp only[bE,bK]at G;refine d_ ?_;refine G.Qa O O O N λH6 ry G hc3=>?_;have G:=G.perm (L':=(ry,194,lr t rg av w ch k at')::(g2++Lr rz r3 rb (lr t rg av w ch k at') (lg ra rl rc na m nc ta n tc (p+1) e m_)))<|(aF (l₁:=[_,_,_]) (l₂:=g2)).cons _;refine hg2.abV G N O O (by rw[I.1.1];omega) λv3 H7 g3 hg3 G hc4=>?_;have G:=G.perm<|aF (l₂:=[_,_,_]);simp only[bE,bK]at G;obtain⟨va,vl,vc,rfl⟩:=hg3.sl
 have hvl:vl=rl+1:=by
  obtain⟨_,_,_,e,h,_⟩:=hg3.Jc (ax:=TT) (G.perm<|aF (l₁:=[_,_,_])) λ_ _=>trivial;cases e;rw[aQ,I.1.1]at h;simp at h;omega
 subst hvl;have n1:=G.nq 1 2 O O N;refine G.lW λHn G=>?_;refine splitK (λK hK=>?_) ?_
 .simp only[hc1,hc2,hc3,eG,fT];rcases hc4 with e|e<;>rw[e]<;>apply lX (a:=r3) (b:=rb) n1 (by intros;rfl) (by kernel_rfl) (by kernel_rfl) hK
 refine G.iK<|G.jE λHn G=>?_;have J:=G.ext;have QG:=hS1.over G;obtain⟨_,_,_,e1,_,hf⟩:=hg3.Jc (ax:=Nw ax H.next) (QG.perm<|aF (l₁:=[_,_,_])) λe he=>.inr<|QG.wB<|cO [_,_,_] he;cases e1;have hE:=Bv (es:=7) (n:=rl) I.1.1 (xs:=lr t rg av w ch k at') O;have nw:∀{C:F} r,r<C.next->Ot ax H.next (Lr rz r3 rb (lr t rg av w ch k at')<|lg ra rl rc na m nc ta n tc (p+1) e m_) r->Nw ax H.next r:=λr _ h=>h.1
 have no:∀q∈(Lr rz r3 rb (lr t rg av w ch k at')<|lg ra rl rc na m nc ta n tc (p+1) e m_).map (·.1),¬Ot ax H.next (Lr rz r3 rb (lr t rg av w ch k at')<|lg ra rl rc na m nc ta n tc (p+1) e m_) q:=λq hq h=>h.2 hq
 refine rr ?_;refine QG.rF 0 O (az 6)<|⟨⟨va,rl+1,vc,na,m,nc,ta,tc,p+1,e,m_,O,λhe=>?_⟩,QG.ext⟩;obtain⟨p1,p2,p3⟩:=hp he;refine⟨N,va,vc,_,na,nc,iH,ta,tc,m_,O,hf,λ_ i hi=>?_,N,(h5.stay J λq hq=>.inl<|no q hq).by nw,λi hi=>((h6 i hi).st J no).by nw,h7,(h8.st J no).by nw,N,λ_=>p2⟩;rcases bZ i rl with h|h
 .rw[show El (rcs++_) 7 i=_ from hE.1 i h];exact h3 he i h
 .obtain rfl:i=rl:=by omega
  rw[show El (rcs++_) 7 i=_ from hE.2];exact⟨t,rg,av,w,ch,at',k,O,p3⟩
def RT.bad{Kp:D->D->F->Prop}(hg:YG n (Ot ax H0.next L) H g p m rl 0)(G:M [] H0 H L)(hi:L[i]?=Z (rz,32,E))(hl:E.length=6)(y:c≠0)(kk:∀g' rg H3,(∀{p0},Q1 (RT n (Nw ax H0.next) p0) H0 g' H3)->(∀{h1:D->F->Prop},h1 g' H3->ME (uP (Z 6) (.pointer<|Z ⟨rz,0,W⟩) H3) h1)->Kp g' rg H3):aJ Pg X 105 [g,vi c] H λv H1=>ME (Cq 6 (.pointer<|Z ⟨rz,0,W⟩) v H1) λrg H2=>Kp v rg H2:=by
 refine YG.abY hg G hi hl (az m) y λg' rg H3 hY R=>kk g' rg H3 ?_ R;obtain⟨⟨g2,k,p',m',e,Q,I,h3,h4⟩,J⟩:=hY (hr:=λ_=>False);cases Q;obtain⟨ra,rc,rcs,na,nc,iH,ta,tc,m_,e1,_⟩:=id I;exact⟨⟨ra,rl,rc,na,m',nc,ta,tc,p',e,m_,e1,λh=>(h4 h).2.elim⟩,J⟩
def aj2(G:M [] H H1<|Lr rz r3 rb (lr t rg av w ch k at') gl)(hg:YG n (Ot ax H.next<|Lr rz r3 rb (lr t rg av w ch k at') gl) H1 (.agg ⟨gl⟩) p m rl e)(hp:e=0->p0<=p/\k<m)(hl:rl<120):gJ Pg X (sub fq [1,1,1,1,1,1,1,1,1,1,1,1,1]) (fD x0 (pr rb) (pr rz) (pr r3) x4 x5 x6 u H1) (RK n ax H p0):=by
 have hbd:=hg.bd;obtain⟨ra,rc,rcs,na,nc,iH,ta,tc,m_,e1,_⟩:=id hg;cases e1;refine tm ?_;refine aC (λc=>?_) λc=>aj1 G hg (λh=>absurd h c) hl;subst c;refine d_ ?_;refine aJ.mono (Aq G.wf hg<|hbd.2.1 O) ?_;rintro v H4 ⟨⟨k4,rfl,_,_,k5⟩,J⟩;have hg:=hg.ex J;have G:=G.call J;refine aY ?_;refine bT (λ_=>?_) λc=>?_
 .refine G.iK<|RT.bad hg G (i:=0) O O (by decide) λg' rg H5 hY R=>?_;refine rr ?_;exact R hY
 .exact aj1 G hg (λh=>⟨(hp h).1,by
   have:p+1≠n:=λe=>by have:=k5 e;omega
   have:=hbd.2.1 O;omega,(hp h).2⟩) hl
theorem aj3{b:Bool}(G:M [] H H1<|Lr rz r3 rb (lr t rg av w ch k at') gl)(hg:YG n (Ot ax H.next<|Lr rz r3 rb (lr t rg av w ch k at') gl) H1 (.agg ⟨gl⟩) p m rl e)(hp:e=0->p0<=p/\k<m)(hb:b=f->e=0/\p+1<n)(hl:rl<120)(hk:Aw u 123=.bool b):
 gJ Pg X (sub fq [1,1,1,1,1,1,1,1,1,1,1,1,0,1]) (fD x0 (pr rb) (pr rz) (pr r3) x4 x5 x6 u H1) (sW Pg X (sub fq [1,1,1,1,1,1,1,1,1,1,1,1,1])<|RK n ax H p0):=by
 have hbd:=hg.bd;obtain⟨ra,rc,rcs,na,nc,iH,ta,tc,m_,e1,_⟩:=id hg;cases e1;refine gJ.wC λK hK=>tl ?_;rw[hk];cases b
 .refine aY ?_;rw[hK];refine aY ?_;exact aj2 G hg hp hl
 obtain⟨rfl,hp1⟩:=hb O;have hS1:=G;have G:=G.base;refine d_ ?_;refine PU.of (jB 1 O N)<|G.jE λHn G=>?_;refine d_ ?_;have hg:=(hg.turn G).to (q:=p+1) ⟨N,λ_=>hp1⟩ O;have G:=hS1.over G;obtain⟨_,_,_,_,_,_,_,_,_,e1,_,_,_,_,_,_,⟨_,_,E,e2,hf,hn,hrow⟩,_⟩:=id hg;cases e1;cases e2;obtain⟨k5,Ry,e5,t',x,hk5,_,hset,_,_,k6⟩:=hrow (p+1) hp1;obtain⟨sa,sn,sc,zs,rfl,_⟩:=id hset;refine hf.Xw N hp1 hk5 λq=>?_;have hS1:=G;have G:=G.base;refine G.nZ O O O λH3 rt G hx3=>?_;refine d_ ?_;have hSs:M [] H H3 ((rt,186,[vi k5,vi Ry,vi e5,.string t',T sa sn sc])::Lr rz r3 rb (lr t rg av w ch k at') (lg ra rl rc na m nc ta n tc (p+1) 0 m_)):=hS1.over G;have hgs:=hg.turn G
 have go:∀{u:Rs},(k5=1\/k5=2)->gJ Pg X (sub fq [1,1,1,1,1,1,1,1,1,1,1,1,0,1,0,1,1,1]) (fD x0 (pr rb) (pr rz) (pr r3) x4 (pr rt) x6 u H3) K:=by
  intro u h5
  have hp2:p+2<n:=by
   have:p+1+1≠n:=λe=>by have:=k6 e;omega
   omega
  refine tm ?_;refine dL (λ_=>?_) λ_=>?_
  .have n1:=G.nq 2 3 O O N;refine d_ ?_;refine G.lW λHn G=>?_;refine G.lW λHn G=>?_;refine splitK (λK hK=>?_) ?_
   .simp only[eG,fT];apply lX (a:=r3) (b:=rb) n1 (by intros;rfl) (by kernel_rfl) (by kernel_rfl) hK
   have G:=hS1.over G;refine G.iK<|G.jE λHn G=>?_;rw[hK];refine rr ?_;exact G.rF 1 O (az 6)<|⟨⟨_,_,_,_,_,_,_,_,_,18,_,O,λh=>absurd h<|by decide⟩,G.ext⟩
  have on:∀{H4:F}{x6:D}{u:Rs}{w:Bool}{ch:Int},M ((Lr rz r3 rb (lr t rg av w ch k at')<|lg ra rl rc na m nc ta n tc (p+1) 0 m_).map (·.1)) Hn H4 ((rt,186,[vi k5,vi Ry,vi e5,.string t',T sa sn sc])::Lr rz r3 rb (lr t rg av w ch k at') (lg ra rl rc na m nc ta n tc (p+1) 0 m_))->gJ Pg X (sub fq [1,1,1,1,1,1,1,1,1,1,1,1,0,1,0,1,1,1,1,1]) (fD x0 (pr rb) (pr rz) (pr r3) x4 (pr rt) x6 u H4) K:=by
   intro H4 x6 u w ch G;refine tm ?_;refine PU.of (jB 1 O N)<|G.jE λHn G=>?_;have hg:=(hg.turn G).to (q:=p+2) ⟨N,λ_=>hp2⟩ O;have G:M [] H Hn (Lr rz r3 rb (lr t rg av w ch k at')<|lg ra rl rc na m nc ta n tc (p+1+1) 0 m_):=M.drop (A:=[_])<|hS1.over G;rw[hK];exact aj2 G (hg.by λr _ h=>⟨h.1,λhm=>h.2<|bH _ hm⟩) (λh=>⟨by have:=(hp h).1;omega,(hp h).2⟩) hl
  refine d_ ?_;refine aC (λc1=>?_) λc1=>?_
  .exact G.jE λHn G=>on (w:=w) (ch:=2) G
  refine aC (λc2=>?_) λc2=>?_
  .exact G.jE λHn G=>on (w:=w) (ch:=1) G
  refine aC (λc3=>?_) λc3=>?_
  .exact G.jE λHn G=>on (w:=f) (ch:=ch) G
  have G:=hSs;refine G.iK<|RT.bad hgs G (i:=1) O O (by decide) λg' rg H5 hY R=>?_;rw[hK];refine rr ?_;exact R hY
 refine bT (λc1=>?_) λc1=>go<|.inl c1;refine d_ ?_;refine bT (λc2=>?_) λc2=>go<|.inr c2;have G:=hSs;refine G.iK<|RT.bad hgs G (i:=1) O O (by decide) λg' rg H5 hY R=>?_;rw[hK];refine rr ?_;exact R hY
end
section
variable{ax:Nat->Prop}{rg av w:Bool}{at':Int}
theorem alN(G:M [] H H1<|Lr rz r3 rb (lr t rg av w ch 0 at') gl)(hg:YG n (Ot ax H.next<|Lr rz r3 rb (lr t rg av w ch 0 at') gl) H1 (.agg ⟨gl⟩) p m rl 0)(hp:p0<=p/\p+1<n)(hl:rl<120):
 gJ Pg X (sub fq [1,1,1,1,1,1,1,1]) (fD x0 (pr rb) (pr rz) (pr r3) x4 x5 x6 u H1) (RK n ax H p0):=by
 have hbd:=hg.bd;obtain⟨ra,rc,rcs,na,nc,iH,ta,tc,m_,e1,_⟩:=id hg;cases e1;refine tl ?_;have hS1:=G;have G:=G.base;refine d_ ?_;refine PU.of (jB 1 O N)<|G.jE λHn G=>?_;refine G.iK ?_;have hg:=(hg.turn G).to (q:=p+1) ⟨N,λ_=>hp.2⟩ O;have G:=hS1.over G;refine aJ.mono (Aq G.wf hg hp.2) ?_;rintro v H4 ⟨⟨k4,rfl,_,_,k5⟩,J⟩;have hg:=hg.ex J;have G:=G.call J;refine aY ?_;refine bT (λc=>?_) λc=>?_
 .refine G.iK<|RT.bad hg G (i:=0) O O (by decide) λg' rg H5 hY R=>?_;refine rr ?_;exact R hY
 have hp2:p+2<n:=by
  have:p+1+1≠n:=λe=>by have:=k5 e;omega
  omega
 have hS1:=G;have G:=G.base;refine G.oF ?_;refine PU.of (jB 1 O N)<|G.jE λHn G=>?_;refine G.iK ?_;have hg:=(hg.turn G).to (q:=p+2) ⟨N,λ_=>hp2⟩ O;have G:=hS1.over G;refine hg.call G G.ext.next (λF' hF hg'=>alM 41 0 N N N G.wf hg') λg' H5 k6 q6 N6 e6 hg hN6 Tm G _=>?_
 have hqb:=hg.bd;obtain⟨ra,rc,rcs,na,nc,iH,ta,tc,at6,rfl,_⟩:=id hg;refine aY ?_;have hS1:=G;have G:=G.base;refine G.jE λHn G=>?_;refine G.jE λHn G=>?_;refine d_ ?_;have hg:=hg.turn G;have G:M [] H Hn (Lr rz r3 rb (lr t rg av w ch k6 at')<|lg ra rl rc na N6 nc ta n tc q6 e6 at6):=hS1.over G;refine aC (λc6=>?_) λc6=>aj3 (b:=aA) G hg (λh=>absurd h c6) (λh=>nomatch h) hl O;subst c6;refine d_ ?_;refine aJ.mono (Aq G.wf hg<|hqb.2.1 O) ?_;rintro v H6 ⟨⟨k7,rfl,_,_,k8⟩,J⟩;have hg:=hg.ex J;have G:=G.call J;refine aY ?_
 exact aj3 G hg (λ_=>⟨by have:=(Tm O).2;omega,(Tm rfl).1⟩) (λh=>⟨rfl,by
  have h:=fE h;have:q6+1≠n:=λe=>by have:=k8 e;omega
  have:=hqb.2.1 O;omega⟩) hl rfl
theorem aj4(G:M [] H H1<|Lr rz r3 rb (lr ⟨#[]⟩ aA av aA 0 0 0) gl)(hg:YG n (Ot ax H.next<|Lr rz r3 rb (lr ⟨#[]⟩ aA av aA 0 0 0) gl) H1 (.agg ⟨gl⟩) p m rl 0)(hp:p0<=p):
 gJ Pg X (sub fq [1,1,1]) (fD x0 (pr rb) (pr rz) (pr r3) x4 x5 x6 u H1) (RK n ax H p0):=by
 have hbd:=hg.bd;have hpn:=hbd.2.1 O;obtain⟨ra,rc,_,na,nc,_,ta,tc,m_,e1,_,_,_,_,_,_,⟨_,_,E,e2,hfl,hn,hrow⟩,_⟩:=id hg;cases e1;cases e2;obtain⟨k,QH,e',t',x,hk,_,hset,_,_,k2⟩:=hrow p hpn;obtain⟨sa,sn,sc,zs,rfl,_⟩:=id hset;refine tm ?_;refine hfl.Xw N hpn hk λq=>?_;have hS1:=G;have G:=G.base;refine G.nZ O O O λH3 rt G hx3=>?_;refine d_ ?_
 have bad:∀{H5:F}{c:Int}{l:List D}{x5 x6:D}{u:D->D->Rs},c≠0->M [] H H5 ((rt,186,[vi k,vi QH,vi e',.string t',T sa sn sc])::Lr rz r3 rb l (lg ra rl rc na m nc ta n tc p 0 m_))->YG n (Ot ax H.next<|(rt,186,[vi k,vi QH,vi e',.string t',T sa sn sc])::Lr rz r3 rb l (lg ra rl rc na m nc ta n tc p 0 m_)) H5 (.agg ⟨lg ra rl rc na m nc ta n tc p 0 m_⟩) p m rl 0->ME (uP (Z 6) (pr rb) H5) λv C=>aJ Pg X 105 [v,vi c] C λv_1 C=>ME (Cq 6 (pr rz) v_1 C) λ_ C=>RK n ax H p0 (.ret<|fD x0 (pr rb) (pr rz) (pr r3) (pr rt) x5 x6 (u v_1 v) C):=by
  intro H5 c l x5 x6 u y G hg;refine G.iK<|RT.bad hg G (i:=1) O O y λg' rg H5 hY R=>?_;refine rr ?_;exact R hY
 have hSs:=hS1.over G;have hgs:=hg.turn G
 have go:∀{u:Rs},(k=1\/k=2)->gJ Pg X (sub fq [1,1,1,1,1]) (fD x0 (pr rb) (pr rz) (pr r3) (pr rt) x5 x6 u H3) (RK n ax H p0):=by
  intro u hk1
  have hp1:p+1<n:=by
   have:p+1≠n:=λe=>by have:=k2 e;omega
   omega
  refine tm ?_;refine aC (λ_=>bad (by decide) hSs hgs) λhl=>?_;have n1:=G.nq 0 2 O O N;refine d_ ?_;refine G.lW λHn G=>?_;refine G.lW λHn G=>?_;refine G.lW λHn G=>?_;refine splitK (λK hK=>?_) ?_
  .simp only[eG,fT];apply lX (a:=rt) (b:=r3) n1 (by intros;rfl) (by kernel_rfl) (by kernel_rfl) hK
  refine d_ ?_;have hSt:=hS1.over G;have hgt:=hg.turn G;have hg:=hgt;have G:M [] H _ (Lr rz r3 rb (lr t' (decide<|k=1) av aA 0 0 QH)<|lg ra rl rc na m nc ta n tc p 0 m_):=M.drop (A:=[_]) hSt;have hg:YG n (Ot ax H.next<|Lr rz r3 rb (lr t' (decide<|k=1) av aA 0 0 QH)<|lg ra rl rc na m nc ta n tc p 0 m_) _ _ p m rl 0:=hg.by λr _ h=>⟨h.1,λhm=>h.2<|bH _ hm⟩
  have go:=λ{u:Rs}=>alN (x0:=x0) (x4:=pr rt) (x5:=x5) (x6:=x6) (u:=u) G hg ⟨hp,hp1⟩ N;cases av
  .exact go
  .refine d_ ?_;exact bT (λ_=>bad (by decide) hSt hgt) λ_=>go
 refine bT (λc1=>?_) λc1=>go<|.inl c1;refine d_ ?_;refine bT (λc2=>?_) λc2=>go<|.inr c2;exact bad (by decide) hSs hgs
theorem aj5(hw:Wf H)(hg:YG n ax H g p m rl 0):aJ Pg X 72 [g] H (Q1 (RT n (Nw ax H.next) p) H):=by
 have hbd:=hg.bd;have hpn:=hbd.2.1 O;obtain⟨ra,rc,_,na,nc,_,ta,tc,m_,rfl,_,_,_,_,_,_,⟨_,_,E,e2,hfl,hn,hrow⟩,_⟩:=id hg;cases e2;have G:=M.refl hw;refine ce [0,1,2,3,4,5,153] ?_;refine tl ?_;refine G.box O λH1 rb G=>?_;refine G.iZ λH2 rz G=>?_;refine d_ ?_;refine G.nZ O O O λH3 r3 G hx3=>?_;have G:M [] H H3 (Lr rz r3 rb (lr ⟨#[]⟩ aA aA aA 0 0 0)<|lg ra rl rc na m nc ta n tc p 0 m_):=G.perm<|.swap _ _ _
 have fr:∀{H4:F}{u:Rs}{b:Bool},Aw u 50=.bool b->(b=f->p+1<n)->M [] H H4 (Lr rz r3 rb (lr ⟨#[]⟩ aA aA aA 0 0 0)<|lg ra rl rc na m nc ta n tc p 0 m_)->gJ Pg X (sub fq [1,1,0,1]) (fD (.agg ⟨lg ra rl rc na m nc ta n tc p 0 m_⟩) (pr rb) (pr rz) (pr r3) top top top u H4) (sW Pg X (sub fq [1,1,1])<|RK n ax H p):=by
  intro H4 u b hk hb G;have hg:=hg.own G;refine tl ?_;rw[hk];cases b
  .refine G.kK ?_;exact aj4 G hg<|az _
  .have hS1:=G;have G:=G.base;have hp:=hb O;refine G.kK ?_;refine G.jE λHn G=>?_;refine G.oF ?_;exact PU.of (jB 1 O N)<|G.jE λHn G=>aj4 (hS1.over G) ((hg.turn G).to (q:=p+1) ⟨N,λ_=>hp⟩ O)<|iG _
 obtain⟨r,o,e1,R,hcl,_⟩:=hfl.1.idx (c:=tc) N hpn;obtain⟨k,QH,e',t',x,hk,_,hset,_,_,k2⟩:=hrow p hpn
 have h3:E[p*5+3]?=Z (.string t'):=by
  have:=dV (λl=>l[3]?) hk;simp only[mG]at this;simpa using this
 refine d_ ?_;refine PU.of e1<|aY ?_;refine G.Ay (hcl 3 _ N h3) R ?_;refine G.kK ?_;refine aC (λc1=>?_) λc1=>fr O (λh=>nomatch h) G;refine G.iK<|aJ.mono (Aq G.wf (hg.own G) hpn) ?_;rintro v H4 ⟨⟨k4,rfl,_,_,k5⟩,J⟩;have G:=G.call J;refine aY ?_;refine aC (λc2=>?_) λc2=>fr O (λh=>nomatch h) G
 have hp:p+1<n:=by
  have:p+1≠n:=λe=>by have:=k5 e;omega
  omega
 refine G.oF ?_;refine PU.of (jB 1 O N)<|d_ ?_;refine aC (λ_=>?_) λc=>absurd (show((p+1:Nat):Int)<(n:Int) by omega) c;obtain⟨r5,o5,e5,hr5,Ye,_⟩:=hfl.1.idx (c:=tc) N hp;obtain⟨k6,_,_,_,_,hk5,_⟩:=hrow (p+1) hp
 have h0:E[(p+1)*5+0]?=Z (vi k6):=by
  have:=dV (λl=>l[0]?) hk5;simp only[mG]at this;simpa using this
 refine d_ ?_;refine PU.of (jB 1 O N)<|PU.of e5<|aY ?_;refine G.Ay (Ye 0 _ N h0) hr5 ?_;refine G.kK ?_;refine aC (λc3=>fr O (λ_=>hp) G) λc3=>?_;refine d_ ?_;refine PU.of (jB 1 O N)<|PU.of e5<|aY ?_;refine G.Ay (Ye 0 _ N h0) hr5 ?_;refine G.kK ?_;exact fr O (λ_=>hp) G
end
section
variable{ax:Nat->Prop}
def zK.ow(h:zK ax H v n)(hF:∀r,r<H.next->(yw H r 186\/yw H r 275)->ax r->F' r):zK F' H v n:=
 let⟨a,c,E,Q,I,h3,h4⟩:=h
 ⟨a,c,E,Q,⟨I.1,λr o e hn=>let⟨g1,g2,g3⟩:=I.2 r o e hn;⟨hF r g2 (.inl g3) g1,g2,g3⟩⟩,h3,λi hi=>let⟨k,a,e,t',x,g1,g2,⟨b,m,c,zs,f1,f2,f3⟩,g4⟩:=h4 i hi;⟨k,a,e,t',x,g1,g2,⟨b,m,c,zs,f1,⟨f2.1,λr o e hn=>let⟨g1,g2,g3⟩:=f2.2 r o e hn;⟨hF r g2 (.inr g3) g1,g2,g3⟩⟩,f3⟩,g4⟩⟩
abbrev L2(rb rz:Nat)(gl:List D):List dJ:=[(rb,32,gl),(rz,32,[T W 0 0,T W 0 0,T W 0 0,vi 0,vi 0,vi 0])]
def Red(v:D)(C:F):Prop:=∃(ra:Option Addr)(rl rc:Nat)(na:Option Addr)(m nc:Nat)(ta:Option Addr)(n tc p:Nat)(e at':Int),v=.agg ⟨lg ra rl rc na m nc ta n tc p e at'⟩/\(e=0->YG n TT C v p m rl 0)
def aj6(hw:Wf H)(s:ByteArray):aJ Pg X 43 [.string s] H (Q1 Red H):=by
 have G:=M.refl hw;refine ce [0,2,3,4,5,6,7] ?_;refine tl ?_;refine G.iZ λH1 rz G=>?_;refine aJ.mono (alH G.wf s) ?_;rintro v H2 ⟨⟨x,e,w,rfl,hT⟩,J⟩;have G:=G.call J;refine aY ?_;refine bT (λc=>?_) λc=>?_
 .refine PU.b6 O<|G.kK ?_;refine G.jE λHn G=>?_;refine rr ?_;exact G.rF 0 O (az 6)<|⟨⟨W,0,0,W,0,0,W,0,0,0,e,w,O,λh=>absurd h c⟩,G.ext⟩
 subst c;obtain⟨n,hT⟩:=hT O;obtain⟨ta,tc,E,rfl,hT2⟩:=id hT;refine d_ ?_;refine G.nZ O O O λH3 rb G hx3=>?_;have G:M [] H H3 (L2 rb rz<|lg W 0 0 W 0 0 ta (n+1) tc 0 0 0):=G;have hT:zK (Ot TT H.next<|L2 rb rz<|lg W 0 0 W 0 0 ta (n+1) tc 0 0 0) H3 (T ta (n+1) tc) (n+1):=(hT.st hx3 λq h=>nomatch h).ow λr _ h _=>⟨.inl trivial,λhm=>h.elim (G.IG O r hm)<|G.IG O r hm⟩;have hg:YG (n+1) (Ot TT H.next<|L2 rb rz<|lg W 0 0 W 0 0 ta (n+1) tc 0 0 0) H3 (.agg ⟨lg W 0 0 W 0 0 ta (n+1) tc 0 0 0⟩) 0 0 0 0:=⟨W,0,[],W,0,[],ta,tc,0,O,i_.nil _ _ _ _ _,(λ_ i h=>absurd h<|jP i),N,i_.nil _ _ _ _ _,(λi h=>absurd h<|jP i),N,hT,N,λ_=>by omega⟩;refine YE 7 (h2:=λz x7 C=>∃(ra:Option Addr)(rl rc:Nat)(na:Option Addr)(m nc:Nat)(ta:Option Addr)(tc p:Nat)(e at':Int)(b:Bool),x7=.bool b/\M [] H C (L2 rb rz<|lg ra rl rc na m nc ta (n+1) tc p e at')/\(e=0->n+1<=p+z/\YG (n+1) (Ot TT H.next<|L2 rb rz<|lg ra rl rc na m nc ta (n+1) tc p e at') C (.agg ⟨lg ra rl rc na m nc ta (n+1) tc p e at'⟩) p m rl 0)) ?_ (n+1) ⟨W,0,0,W,0,0,ta,tc,0,0,0,f,rfl,G,λ_=>⟨N,hg⟩⟩;clear G hg hT hT2;rintro z x7 u H4 ⟨ra,rl,rc,na,m,nc,ta',tc',p,e,at',b,rfl,G,he⟩;refine gJ.wC λK hK=>?_
 have more:e=0->∀{H5:F}{x7:D}{u:Rs},M [] H H5 (L2 rb rz<|lg ra rl rc na m nc ta' (n+1) tc' p e at')->Ext H4 H5->gJ Pg X (sub BR [1,1,1,1,0,1,0,0,1]) (vS (.string s) (pr rz) (T ta (n+1) tc) (vi 0) (vi w) (pr rb) x7 u H5) K:=by
  intro e0 H5 x7 u G hx5;subst e0;obtain⟨hz,hg⟩:=he O;have hg:=hg.ex hx5;have hp:=hg.bd.2.1 O;refine tl ?_;refine G.iK<|aJ.mono (aj5 G.wf<|hg.by (F':=λr=>Ot TT H.next (L2 rb rz<|lg ra rl rc na m nc ta' (n+1) tc' p 0 at') r/\r<H5.next) λr Q I=>⟨I,Q⟩) ?_;rintro v H6 ⟨⟨ra6,rl6,rc6,na6,m6,nc6,ta6,tc6,p6,e6,at6,rfl,hg6⟩,J⟩;have hw:=G;have G:=G.call J;have hS1:=G;have G:=G.base;refine G.jE λHn G=>?_;rw[hK];refine⟨z-1,N,_,_,_,O,ra6,rl6,rc6,na6,m6,nc6,ta6,tc6,p6,e6,at6,aA,O,hS1.over G,λh=>?_⟩;obtain⟨g1,g2⟩:=hg6 h;subst h;refine⟨N,YG.turn (L:=L2 rb rz<|lg ra rl rc na m nc ta' (n+1) tc' p 0 at') (g2.by λr _ h=>?_) G⟩;rcases h with h|h
  .exact h.1
  .refine⟨.inl trivial,λhm=>?_⟩;obtain⟨e,he,rfl⟩:=bQ.1 hm;exact eF h (hw.lo e he).2
 have out:∀{H5:F}{x7:D}{u:Rs},M [] H H5 (L2 rb rz<|lg ra rl rc na m nc ta' (n+1) tc' p e at')->Ext H4 H5->K (.exit 0<|vS (.string s) (pr rz) (T ta (n+1) tc) (vi 0) (vi w) (pr rb) x7 u H5):=by
  intro H5 x7 u G hx5;rw[hK];refine tm ?_;refine bT (λc=>?_) λc=>?_
  .refine d_ ?_;refine G.jE λHn G=>?_;refine rr ?_;exact G.rF 1 O (az 6)<|⟨⟨W,0,0,W,0,0,W,0,0,0,e,at',O,λh=>absurd h c⟩,G.ext⟩
  subst c;have hg:=(he O).2.ex hx5;have hS1:=G;have G:=G.base;refine G.iK<|G.jE λHn G=>?_;have hg:=hg.turn G;have G:=hS1.over G;refine rr ?_;exact G.rF 1 O (az 6)<|⟨⟨_,_,_,_,_,_,_,_,_,_,_,_,O,λ_=>hg.by λ_ _ _=>trivial⟩,G.ext⟩
 refine tm ?_;refine aC (λc=>?_) λ_=>out G<|Ext.refl _;cases b;rotate_left
 .exact more c G<|Ext.refl _
 have hg:=he c;subst c;refine d_ ?_;refine aJ.mono (Aq G.wf hg.2<|hg.2.bd.2.1 O) ?_;rintro v H5 ⟨⟨k,rfl,_⟩,J⟩;have G:=G.call J;refine aY ?_;exact bT (λ_=>more O G J) λ_=>out G J
end
section
variable{ax:Nat->Prop}{rcs:List D}
def low(rg:Nat->Bool):Nat->Nat
 |0=>0
 |n+1=>low rg n+if rg n=f then 0 else 1
def TZ:∀n,low rg n<=n
 |0=>az _
 |n+1=>by have:=TZ n;unfold low;split<;>omega
def T3(h:rg i=aA):∀{n},i<n->low rg i<low rg n
 |n+1,hn=>by
  rcases bZ i n with h'|h'
  .have:=T3 h h';show _<low rg n+_;omega
  .obtain rfl:i=n:=by omega
   show _<low rg i+(if rg i=f then 0 else 1);rw[h];exact dI _
def RuE(E:List D)(rg:Nat->Bool)(m i:Nat):Prop:=∃(t:ByteArray)(r:Nat),E[i*7+0]?=Z (.string t)/\E[i*7+1]?=Z (.bool<|rg i)/\E[i*7+5]?=Z (B r)/\r<m/\∃av w ch at',El E 7 i=[.string t,.bool<|rg i,.bool av,.bool w,vi ch,B r,vi at']
def GR(rg:Nat->Bool)(ax:Nat->Prop)(H:F)(g:D)(m rl:Nat):Prop:=∃(ra:Option Addr)(rc:Nat)(rcs:List D)(na:Option Addr)(nc:Nat)(iH:List D)(ta:Option Addr)(n tc p:Nat)(at':Int),g=.agg ⟨lg ra rl rc na m nc ta n tc p 0 at'⟩/\
 i_ ax 194 H ra rl 7 rcs/\(∀i,i<rl->RuE rcs rg m i)/\rl<=120/\i_ ax 200 H na m 5 iH/\(∀i,i<m->VU ax H (El iH 5 i) i)/\m<=4000
def GR.ex(h:GR rg ax H g m rl)(J:Ext H C):GR rg ax C g m rl:=by
 obtain⟨ra,rc,rcs,na,nc,iH,ta,n,tc,p,at',Q,I,h3,h4,h5,h6,h7⟩:=h;exact⟨ra,rc,rcs,na,nc,iH,ta,n,tc,p,at',Q,I.ex J,h3,h4,h5.ex J,λi hi=>(h6 i hi).st J (λq h=>nomatch h),h7⟩
def YG.gr(h:YG n ax H g p m rl 0):∃rg,GR rg ax H g m rl:=by
 obtain⟨ra,rc,rcs,na,nc,iH,ta,tc,at',Q,I,h3,h4,h5,h6,h7,_⟩:=h;refine⟨λi=>match rcs[i*7+1]? with|some (.bool b)=>b|_=>aA,ra,rc,rcs,na,nc,iH,ta,n,tc,p,at',Q,I,λi hi=>?_,h4,h5,h6,h7⟩;obtain⟨t,rg,av,w,ch,at',r,hk,R⟩:=h3 O i hi
 have g:∀j,j<7->rcs[i*7+j]?=([.string t,.bool rg,.bool av,.bool w,vi ch,B r,vi at']:List D)[j]?:=λj hj=>by
  have:=dV (λl=>l[j]?) hk;simp only[mG]at this;simpa [hj]using this
 have g1:rcs[i*7+1]?=Z (.bool rg):=g 1 N;have e:(match rcs[i*7+1]? with|some (.bool b)=>b|_=>aA)=rg:=by rw[g1]
 exact⟨t,r,g 0 N,by show _=Z (gF (match rcs[i*7+1]? with|some (.bool b)=>b|_=>aA));rw[e];exact g1,g 5 N,R,av,w,ch,at',by show _=[_,gF (match rcs[i*7+1]? with|some (.bool b)=>b|_=>aA),_,_,_,_,_];rw[e];exact hk⟩
def T4(hw:Wf H)(hg:GR rg ax H g m rl)(hi:i<=rl):aJ Pg X 108 [g,B i] H (Q1 (λv _=>v=B (low rg i)) H):=by
 obtain⟨ra,rc,rcs,na,nc,iH,ta,n,tc,p,m_,rfl,I,h3,h4,_⟩:=hg;have G:=M.refl hw;refine ce [0,1,2,4,5,6]<|tl<|G.box O λH1 rb G=>?_;refine lp2 5 6 (h2:=λz x5 x6 C=>∃j,x5=B (low rg j)/\x6=B j/\j+z=i/\M [] H C [(rb,32,lg ra rl rc na m nc ta n tc p 0 m_)]) ?_ i ⟨0,rfl,rfl,N,G⟩;clear G;rintro z x5 x6 u H2 ⟨j,rfl,rfl,hj,G⟩;refine tm ?_;refine aC (λc=>?_) λc=>?_
 .have hjl:j<rl:=by omega
  obtain⟨_,_,_,g1,_⟩:=h3 j hjl;obtain⟨r,o,e1,R,hcl,_⟩:=I.1.idx (c:=rc) N hjl;have:=TZ (rg:=rg) j;refine G.oF<|PU.of e1<|aY ?_;refine G.Ay (hcl 1 _ N g1) R ?_;refine G.kK ?_;have hl:low rg (j+1)=low rg j+(if rg j=f then 0 else 1):=rfl;refine dL (λc=>?_) λc=>?_
  .rw[if_neg (by simpa using c)]at hl;exact PU.of (jB 1 O N)<|PU.of (jB 1 O N)<|⟨z-1,N,_,_,_,_,O,j+1,by rw[hl],rfl,N,G⟩
  .rw[if_pos (by simpa using c)]at hl;exact PU.of (jB 1 O N)<|⟨z-1,N,_,_,_,_,O,j+1,by rw[hl];rfl,rfl,N,G⟩
 .obtain rfl:j=i:=by omega
  refine tl<|rr ?_;exact⟨O,G.ext⟩
def aj7(hw:Wf H)(hg:GR rg ax H g m rl):aJ Pg X 139 [g,.string t] H (Q1 (λv _=>(∃j,v=B j/\j<rl)\/v=vi (-1)) H):=by
 obtain⟨ra,rc,rcs,na,nc,iH,ta,n,tc,p,m_,rfl,I,h3,h4,_⟩:=hg;have G:=M.refl hw;refine ce [0,1,2,4,5] ?_;refine tl ?_;refine G.box O λH1 rb G=>?_;refine YE 5 (h2:=λz x5 C=>∃j,x5=B j/\j+z=rl/\M [] H C [(rb,32,lg ra rl rc na m nc ta n tc p 0 m_)]) ?_ rl ⟨0,rfl,N,G⟩;clear G;rintro z x5 u H2 ⟨j,rfl,hj,G⟩;refine tm ?_;refine aC (λc=>?_) λc=>?_
 .have hjl:j<rl:=by omega
  obtain⟨_,_,g1,_⟩:=h3 j hjl;obtain⟨r,o,e1,R,hcl,_⟩:=I.1.idx (c:=rc) N hjl;refine G.oF ?_;refine PU.of e1 ?_;refine aY ?_;refine G.Ay (hcl 0 _ N g1) R ?_;refine G.kK ?_;refine aC (λe=>?_) λe=>?_
  .refine rr ?_;exact⟨.inl ⟨j,O,hjl⟩,G.ext⟩
  .exact PU.of (jB 1 O N)<|⟨z-1,N,_,_,_,O,j+1,O,N,G⟩
 .refine tl<|rr ?_;exact⟨.inr O,G.ext⟩
end
section
variable{ax:Nat->Prop}
def KW(ax:Nat->Prop)(H:F)(w:D)(SH:Nat):Prop:=∃(ea:Option Addr)(ec:Nat)(sa:Option Addr)(sc:Nat)(be bs:List Bool),w=.agg ⟨[T ea SH ec,T sa SH sc]⟩/\i_ ax 4 H ea SH 1 (bools be)/\i_ ax 4 H sa SH 1 (bools bs)
def KW.ex(h:KW ax H w SH)(J:Ext H C):KW ax C w SH:=let⟨ea,ec,sa,sc,be,bs,Q,I,h3⟩:=h;⟨ea,ec,sa,sc,be,bs,Q,I.ex J,h3.ex J⟩
def Q_{c:Nat}(h:i_ ax 4 H a SH 1<|bools bs)(hi:i<SH):∃r o,Ac 1 (T a SH c) (B i)=Z (.pointer<|Z ⟨r,o,W⟩)/\∃b:Bool,H.cell r o=Z (.bool b):=by
 obtain⟨r,o,e1,R,hcl,_⟩:=h.1.idx (c:=c) N hi;have hl:i<bs.length:=by have:=h.1.1;rw[aM]at this;omega
 exact⟨r,o,e1,bs[i],hcl 0 _ N (by rw[dz,dD];exact kU _<|au hl)⟩
abbrev two(v:D):Prop:=∃x hc:Bool,v=.tuple ⟨[.bool x,.bool hc]⟩
def T6(rg:Nat->Bool)(m rl k:Nat):Prop:=∀{ax F':Nat->Prop}{H:F}{g w:D},Wf H->GR rg ax H g m rl->KW F' H w (low rg rl)->aJ Pg X 109 [g,w,B k] H (Q1 (λv _=>two v) H)
def aj8(hk:k<m)(ih:∀z,z<k->T6 rg m rl z):T6 rg m rl k:=by
 intro ax F' H g w hw hg hKW;obtain⟨ra,rc,rcs,na,nc,iH,ta,n,tc,p,m_,rfl,I,h3,h4,h5,h6,h7⟩:=id hg;obtain⟨ea,ec,sa,sc,be,bs,rfl,hE,hB⟩:=id hKW;have G:=M.refl hw;refine ce [0,1,2,3,4,6,7,8,9,10,11,12,13,14,15,16,17,18,25] ?_;refine tl ?_;refine G.box O λH1 rb G=>?_;refine G.box O λH2 rw G=>?_;obtain⟨kd,a,ks,c,t,ua,un,uc,at',hkx,hkf,hkl,hk4,hkn⟩:=h6 k hk;refine d_ ?_;refine(h5.ex G.ext).Xw N hk hkx λq=>G.nZ O O O λH3 r8 G hx3=>?_;obtain⟨LL,hLL⟩:∃LL:List dJ,LL=[(r8,200,[vi kd,T a ks.length c,.string t,T ua un uc,vi at']),(rw,36,[T ea (low rg rl) ec,T sa (low rg rl) sc]),(rb,32,lg ra rl rc na m nc ta n tc p 0 m_)]:=⟨_,O⟩
 have hcall:∀{H4:F}{i:Nat}{Kp:D->F->Prop},M [] H H4 LL->(hi:i<ks.length)->(∀H5 x hc,M [] H (hM H4 H5) LL->Ext (hN H4) H5->Kp (.tuple ⟨[.bool x,.bool hc]⟩) H5)->aJ Pg X 109 [.agg ⟨lg ra rl rc na m nc ta n tc p 0 m_⟩,.agg ⟨[T ea (low rg rl) ec,T sa (low rg rl) sc]⟩,B ks[i]] (hN H4) Kp:=by
  intro H4 i Kp G hi kk;refine aJ.mono (ih _ (hkl _<|bB hi) (ax:=ax) (F':=F') (nG H4) (show GR rg ax (hN H4) _ m rl from(hg.ex G.ext:GR rg ax H4 _ m rl)) (show KW F' (hN H4) _ _ from(hKW.ex G.ext:KW F' H4 _ _))) ?_;rintro v H5 ⟨⟨x,hc,rfl⟩,J⟩;exact kk H5 x hc (G.mV J) J
 have ld:∀{H4:F}{i:Nat},M [] H H4 LL->(hi:i<ks.length)->∃r o,Ac 1 (T a ks.length c) (B i)=Z (.pointer<|Z ⟨r,o,W⟩)/\H4.cell r o=Z (B ks[i]):=by
  intro H4 i G hi;obtain⟨r,o,e1,R,hcl,_⟩:=(hkf.ex G.ext).1.idx (c:=c) N hi;exact⟨r,o,e1,hcl 0 _ N (by rw[dz,dD];exact kU _<|au hi)⟩
 have Ng:M [] H H3 LL:=by rw[hLL];exact G
 refine d_ ?_;refine aC (λc0=>?_) λc0=>?_
 .refine Vx 9 10 11 12 13 (h2:=λz x9 jh iL kQ jF C=>∃(x hc:Bool)(j:Nat),x9=.bool x/\jh=.bool hc/\iL=B j/\j+z=ks.length/\M [] H C LL) ?_ ks.length ⟨_,_,0,rfl,rfl,rfl,N,Ng⟩;clear G Ng;rintro z x9 jh iL kQ jF u H4 ⟨x,hc,j,rfl,rfl,rfl,hj,Ng⟩;have G:=Ng;rw[hLL]at G;refine tm ?_;refine aC (λc1=>?_) λc1=>?_
  .have hjl:j<ks.length:=by omega
   obtain⟨r,o,e1,R⟩:=ld Ng hjl;refine d_ ?_;refine PU.of e1<|ME.ld (H:=hN H4) R ?_;refine G.kK ?_;refine hcall Ng hjl λH5 x' y' Ng J=>iB (by simp only[eG,fK J];rfl) ?_;cases x<;>cases hc
   all_goals
    try simp only[PP,Nat.reduceBEq]
    exact PU.of (jB 1 O N)<|⟨z-1,N,_,_,_,_,_,_,_,O,_,_,j+1,O,O,O,N,Ng⟩
  .refine tl<|rr ?_;exact⟨⟨_,_,O⟩,G.ext⟩
 refine aC (λc2=>?_) λc2=>?_
 .refine Vx 9 10 14 15 16 (h2:=λz x9 jh iL kQ jF C=>∃(x hc:Bool)(j:Nat),x9=.bool x/\jh=.bool hc/\iL=B j/\j+z=ks.length/\M [] H C LL) ?_ ks.length ⟨_,_,0,rfl,rfl,rfl,N,Ng⟩;clear G Ng;rintro z x9 jh iL kQ jF u H4 ⟨x,hc,j,rfl,rfl,rfl,hj,Ng⟩;have G:=Ng;rw[hLL]at G;refine tm ?_;refine aC (λc1=>?_) λc1=>?_
  .have hjl:j<ks.length:=by omega
   obtain⟨r,o,e1,R⟩:=ld Ng hjl;refine d_ ?_;refine PU.of e1<|ME.ld (H:=hN H4) R ?_;refine G.kK ?_;refine hcall Ng hjl λH5 x' y' Ng J=>iB (by simp only[eG,fK J];rfl) ?_;cases x<;>cases hc
   all_goals
    try simp only[PP,Nat.reduceBEq]
    exact PU.of (jB 1 O N)<|⟨z-1,N,_,_,_,_,_,_,_,O,_,_,j+1,O,O,O,N,Ng⟩
  .refine tl<|rr ?_;exact⟨⟨_,_,O⟩,G.ext⟩
 have go:∀{u:Rs}{b:Bool},Aw u 82=.bool b->gJ Pg X (sub o_ [1,1,1,0,1,0,1,1,1,1,1]) (vT (.agg ⟨lg ra rl rc na m nc ta n tc p 0 m_⟩) (.agg ⟨[T ea (low rg rl) ec,T sa (low rg rl) sc]⟩) (B k) (pr rb) (pr rw) (.bool aA) (.bool aA) (pr r8) (.bool aA) (.bool f) top top top top top top top top (vi kd) u H3) (rO 0<|sW Pg X (sub o_ [1,1,1,1])<|jR Pg [.tmp 6,.tmp 7]<|Q1 (λv _=>two v) H):=by
  intro u b hb;refine tl ?_;rw[hb];cases b;rotate_left
  .refine G.kK ?_;refine rr ?_;exact⟨⟨_,_,O⟩,G.ext⟩
  refine G.kK ?_;refine aC (λc4=>?_) λc4=>?_
  .have hzl:0<ks.length:=List.length_pos_iff.2 (hk4 c4);obtain⟨r,o,e1,R⟩:=ld Ng hzl;refine d_ ?_;refine PU.of e1<|ME.ld (H:=hN H3) R ?_;refine G.kK ?_;refine hcall Ng hzl λH5 x' y' Ng J=>?_;refine aY ?_;refine iB (by simp only[eG,fK J];rfl) ?_;refine rr ?_;exact⟨⟨_,_,O⟩,Ng.ext⟩
  refine aC (λc5=>?_) λc5=>?_;rotate_left
  .refine tl<|rr ?_;exact⟨⟨_,_,O⟩,G.ext⟩
  refine d_ ?_;refine aJ.mono (aj7 G.wf<|hg.ex G.ext) ?_;rintro v H4 ⟨hv,J⟩;have G:=G.call J
  have no:∀{u:Rs}{zF:D},Aw u 112=.bool aA->gJ Pg X (sub o_ [1,1,1,0,1,0,1,1,1,1,1,1,1,1,1,0,1,1]) (vT (.agg ⟨lg ra rl rc na m nc ta n tc p 0 m_⟩) (.agg ⟨[T ea (low rg rl) ec,T sa (low rg rl) sc]⟩) (B k) (pr rb) (pr rw) (.bool aA) (.bool aA) (pr r8) (.bool aA) (.bool f) top top top top top top zF top (vi kd) u H4) (rO 0<|sW Pg X (sub o_ [1,1,1,1])<|jR Pg [.tmp 6,.tmp 7]<|Q1 (λv _=>two v) H):=by
   intro u zF hk;refine tl ?_;rw[hk];refine aY ?_;refine tl<|rr ?_;exact⟨⟨_,_,O⟩,G.ext⟩
  rcases hv with⟨j,rfl,hj⟩|rfl;rotate_left
  .refine G.kK ?_;exact no O
  refine G.kK ?_;refine aC (λ_=>?_) λc=>absurd (show(0:Int)<=(j:Int) by omega) c;obtain⟨_,_,_,g1,_⟩:=h3 j hj;obtain⟨r,o,e1,R,hcl,_⟩:=I.1.idx (c:=rc) N hj;refine G.oF<|PU.of e1<|aY ?_;refine G.Ay (hcl 1 _ N g1) R ?_;refine G.kK ?_;cases hup:rg j;rotate_left
  .exact no O
  have hlt:=T3 hup hj;refine tm ?_;refine(show∀{a b:Prop},a->BI (Z !aA) a b fromλh=>h)<|G.iK<|aJ.mono (T4 G.wf (hg.ex G.ext) (i:=j) N) ?_;rintro v H5 ⟨rfl,J⟩;have G:=G.call J;obtain⟨r1,o1,e1,x1,hr1⟩:=Q_ (c:=ec) (hE.ex G.ext) hlt;obtain⟨r2,o2,e2,x2,hr2⟩:=Q_ (c:=sc) (hB.ex G.ext) hlt;refine d_ ?_;refine PU.of e1<|ME.ld (H:=hN H5) hr1 ?_;refine d_ ?_;refine PU.of e2<|ME.ld (H:=hN H5) hr2 ?_;refine d_ ?_;refine rr ?_;exact⟨⟨_,_,O⟩,G.ext⟩
 refine aC (λc3=>go O) λc3=>?_;exact go O
def aht:∀aa k,k<aa->k<m->T6 rg m rl k:=by
 intro aa
 induction aa with
 |zero=>intro k h;omega
 |succ aa ih=>exactλk _ h=>aj8 h λz hz=>ih z N N
end
section
variable{ax:Nat->Prop}
abbrev wA(bs:List Bool)(l:Nat):Bool:=bs[l]?.getD aA
def cf:List Bool->Nat
 |[]=>0
 |b::l=>cf l+(if b=f then 0 else 1)
def ab2:∀(l:List Bool)(i:Nat)(x:Bool),cf (l.set i<|(l[i]?.getD aA)||x)+(if i<l.length/\l[i]?.getD aA=aA/\x=f then 1 else 0)=cf l
 |[],i,x=>by simp[cf]
 |b::l,0,x=>by cases b<;>cases x<;>simp[cf]
 |b::l,i+1,x=>by
  have:=ab2 l i x;simp only[jo,dX,cr,cf,Nat.add_lt_add_iff_right];omega
def ahu(m:Nat):cf (aU m aA)=m:=by
 induction m with
 |zero=>rfl
 |succ m ih=>show cf (aU m aA)+1=_;rw[ih]
abbrev Lk(rb rz Ra Rb rw m:Nat)(be bs:List Bool)(gl:List D):List dJ:=[(rw,36,[T (Z ⟨Ra,0,W⟩) m m,T (Z ⟨Rb,0,W⟩) m m]),(Rb,4,bools bs),(Ra,4,bools be),(rz,36,[T W 0 0,T W 0 0]),(rb,32,gl)]
def Yf(l:List Bool)(i:Nat)(x:Bool):(bools l).set i (.bool x)=bools (l.set i x):=by
 unfold bools;rw[fV]
def KT{l:List Bool}:l.set i (wA l i)=l:=by
 refine gX λj=>?_;rw[dB];split
 .next h=>
  subst h;split
  .next h=>show Z (l[i]?.getD aA)=_;rw[au h];rfl
  .next h=>rw[fC N]
 .rfl
def OI{l:List Bool}(h:i<l.length):(bools l)[i]?=Z (.bool<|wA l i):=by
 show(l.map gF)[i]?=Z (gF<|l[i]?.getD aA);rw[bD,au h];rfl
def ab3{l:List Bool}{e:Bool}(h:i<l.length):cf (l.set i<|wA l i||e)<=cf l/\(e=f/\wA l i=aA->cf (l.set i<|wA l i||e)<cf l)/\(¬(e=f/\wA l i=aA)->l.set i (wA l i||e)=l):=by
 have c:cf (l.set i<|wA l i||e)+(if i<l.length/\wA l i=aA/\e=f then 1 else 0)=cf l:=ab2 l i e;refine⟨N,λQ=>?_,λQ=>?_⟩
 .rw[if_pos ⟨h,Q.2,Q.1⟩]at c;omega
 .rw[show(wA l i||e)=wA l i by cases e<;>cases h:wA l i<;>simp_all,KT]
theorem aj9{Ra Rb rw' l:Nat}{x3:D}(G:M [] H H1<|Lk rb rz Ra Rb rw' m be bs gl)(hl:l<m)(hbl:be.length=m)(hsl:bs.length=m)(cs S b c:Bool)(hk:Aw u 68=.bool c)(y:c=f<->(cs=f/\wA be l=aA)\/(S=f/\wA bs l=aA))(Kc:Out->Prop)(kk:∀{H2:F}{u:Rs},M [] H H2 (Lk rb rz Ra Rb rw' m (be.set l<|wA be l||cs) (bs.set l<|wA bs l||S) gl)->Kc (.norm<|qO x0 (pr rb) (pr rz) x3 (pr rw') (.bool<|b||c) x6 (B l) (.bool cs) (.bool S) u H2)):gJ Pg X (sub vR [1,1,1,0,1,0,0,1,0,1,1,0,0,1,0,0,1,1,1,1]) (qO x0 (pr rb) (pr rz) x3 (pr rw') (.bool b) x6 (B l) (.bool cs) (.bool S) u H1) Kc:=by
 refine tl ?_;rw[hk];cases c
 .refine aY ?_;have Q:(wA be l||cs)=wA be l:=by cases cs<;>cases h:wA be l<;>simp_all
  have I:(wA bs l||S)=wA bs l:=by cases S<;>cases h:wA bs l<;>simp_all
  rw[Q,I,KT,KT,mP]at kk;exact kk G
 .refine d_ ?_;have c1:=OI (show l<be.length by omega);have c2:=OI (show l<bs.length by omega);refine PU.of (Fv hl) ?_;simp only[aW];refine ME.ld (H:=hN H1) ((G.get 2 O).cell c1) ?_;have n1:=G.nq 0 1 O O N;have n2:=G.nq 0 2 O O N;have n3:=G.nq 1 2 O O N;rw[Bool.or_true]at kk;have e1:∀{l':List Bool}{z:Bool},l'.length=m->splice (bools l') l (bI<|.bool z)=bools (l'.set l z):=λh=>(EC (by simp only[aM];omega)).trans<|Yf ..
  have set2:∀{H2:F}{x hc:Bool},M [] H H2 [(rw',36,[T (Z ⟨Ra,0,W⟩) m m,T (Z ⟨Rb,0,W⟩) m m]),(Rb,4,splice (bools bs) l<|bI<|.bool hc),(Ra,4,splice (bools be) l<|bI<|.bool x),(rz,36,[T W 0 0,T W 0 0]),(rb,32,gl)]->M [] H H2 (Lk rb rz Ra Rb rw' m (be.set l x) (bs.set l hc) gl):=by
   intro H2 x hc G;rw[e1 hbl,e1 hsl]at G;exact G
  cases Q:wA be l<;>rw[Q]at kk
  .refine d_ ?_;refine PU.of (Fv hl) ?_;simp only[aW];refine ME.ld (H:=hN H1) ((G.get 1 O).cell c2) ?_;cases I:wA bs l<;>rw[I]at kk
   all_goals
    refine d_ ?_;refine PU.of (Fv hl) ?_;simp only[aW];refine G.lW (λH3 G=>?_) O (by simp only[aM];show l+1<=_;omega) rfl;refine PU.of (Fv hl) ?_;simp only[aW];refine G.lW (λH4 G=>?_) O (by simp only[aM];show l+1<=_;omega) rfl;refine(show∀K:Prop,K->_/\K fromλKz hK=>?_) _ ?_
    .simp only[eG,fT];apply xS (a:=rw') (b:=Rb) (c:=Ra) n1 n2 n3 (by intros;rfl) (by kernel_rfl) (by kernel_rfl) hK
    exact kk<|set2 G
  .refine d_ ?_;refine PU.of (Fv hl) ?_;simp only[aW];refine ME.ld (H:=hN H1) ((G.get 1 O).cell c2) ?_;cases I:wA bs l<;>rw[I]at kk
   all_goals
    refine d_ ?_;refine PU.of (Fv hl) ?_;simp only[aW];refine G.lW (λH3 G=>?_) O (by simp only[aM];show l+1<=_;omega) rfl;refine PU.of (Fv hl) ?_;simp only[aW];refine G.lW (λH4 G=>?_) O (by simp only[aM];show l+1<=_;omega) rfl;refine(show∀K:Prop,K->_/\K fromλKz hK=>?_) _ ?_
    .simp only[eG,fT];apply xS (a:=rw') (b:=Rb) (c:=Ra) n1 n2 n3 (by intros;rfl) (by kernel_rfl) (by kernel_rfl) hK
    exact kk<|set2 G
theorem ahv(hw:Wf H)(hg:GR rg ax H g m rl):aJ Pg X 74 [g] H (Q1 (λv C=>∃b,KW (λ_=>True) C v b) H):=by
 obtain⟨ra,rc,rcs,na,nc,iH,ta,n,tc,p,m_,rfl,I,h3,h4,h5,h6,h7⟩:=id hg;have G:=M.refl hw;refine ce [0,1,2,3,4,5,6,7,8,9] ?_;refine tl ?_;refine G.box O λH1 rb G=>?_;refine G.iZ λH2 rz G=>?_;refine d_ ?_;refine aJ.mono (T4 G.wf (hg.ex G.ext)<|az _) ?_;rintro v H3 ⟨rfl,J⟩;have G:=G.call J;have hml:=TZ (rg:=rg) rl;refine G.mkD N λH4 Ra G hc1=>G.mkD N λH5 Rb G hc2=>?_;refine d_ ?_;refine G.XW λH6 rw' G hc3=>G.lW λHn G=>(show∀K:Prop,K->_/\K fromλKz hK=>?_) _ ?_
 .simp only[hc1,hc2,hc3,fT];apply Eh (a:=rw') (by intros;rfl) (by kernel_rfl) (by kernel_rfl) hK
 rw[show oL [.bool aA] (low rg rl)=bools (aU (low rg rl) aA) by rw[mK];simp]at G;have G:M [] H _ (Lk rb rz Ra Rb rw' (low rg rl) (aU (low rg rl) aA) (aU (low rg rl) aA)<|lg ra rl rc na m nc ta n tc p 0 m_):=G;refine Vx 5 6 7 8 9 (h2:=λz x5 x6 x7 x8 x9 C=>∃b be bs,x5=.bool b/\be.length=low rg rl/\bs.length=low rg rl/\cf be+cf bs+(if b=f then 1 else 0)<=z/\M [] H C (Lk rb rz Ra Rb rw' (low rg rl) be bs<|lg ra rl rc na m nc ta n tc p 0 m_)) ?_ (2*low rg rl+1) ⟨f,_,_,rfl,ji,ji,by rw[ahu];simp;omega,G⟩;clear G;rintro z x5 x6 x7 x8 x9 u H7 ⟨b,be,bs,rfl,hbl,hsl,hm,G⟩
 have hkw:∀{be bs:List Bool}{C:F}{x hc z:dJ},be.length=low rg rl->bs.length=low rg rl->M [] H C [x,(Rb,4,bools bs),(Ra,4,bools be),hc,z]->KW (λ_=>True) C (.agg ⟨[T (Z ⟨Ra,0,W⟩) (low rg rl) (low rg rl),T (Z ⟨Rb,0,W⟩) (low rg rl)<|low rg rl]⟩) (low rg rl):=λ{be bs C x hc z} hbl hsl G=>
  ⟨_,_,_,_,be,bs,rfl,(G.get 2 rfl).Rw (n:=low rg rl) (es:=1) (G.lo _<|aR (i:=2) O).2 (by simp[hbl]) trivial,(G.get 1 O).Rw (n:=low rg rl) (es:=1) (G.lo _<|aR (i:=1) O).2 (by simp[hsl]) trivial⟩
 refine tm ?_;cases b
 .refine aY ?_;refine tl ?_;refine G.iK ?_;refine G.jE λHn G=>?_;refine rr ?_;refine G.rF 3 O (az 2) ?_;exact⟨⟨_,hkw hbl hsl G⟩,G.ext⟩
 .refine aY ?_;have hm':cf be+cf bs<z:=by simp at hm;omega
  refine Vx 5 6 7 8 9 (h2:=λk x5 x6 x7 x8 x9 C=>∃i b YK bs',x5=.bool b/\x6=B i/\i+k=rl/\YK.length=low rg rl/\bs'.length=low rg rl/\cf YK+cf bs'+(if b=f then 1 else 0)<=cf be+cf bs/\M [] H C (Lk rb rz Ra Rb rw' (low rg rl) YK bs'<|lg ra rl rc na m nc ta n tc p 0 m_)) ?_ rl ⟨0,aA,be,bs,rfl,rfl,N,hbl,hsl,az _,G⟩;clear G;rintro k x5 x6 x7 x8 x9 u H8 ⟨i,b,YK,bs',rfl,rfl,hik,ab4,T7,hf,G⟩;refine tm ?_;refine aC (λc=>?_) λc=>?_
  .have hil:i<rl:=by omega
   obtain⟨_,rt,_,g1,g5,hrt,_⟩:=h3 i hil;obtain⟨r,o,e1,R,hcl,_⟩:=I.1.idx (c:=rc) N hil;refine G.oF<|PU.of e1<|aY ?_;refine G.Ay (hcl 1 _ N g1) R ?_;refine G.kK ?_;cases hup:rg i;rotate_left
   .refine aY ?_;exact PU.of (jB 1 O N)<|⟨k-1,N,_,_,_,_,_,_,_,O,i+1,b,YK,bs',O,O,N,ab4,T7,hf,G⟩
   refine d_ ?_;refine aJ.mono (T4 G.wf (hg.ex G.ext) (i:=i) N) ?_;rintro v H9 ⟨rfl,J⟩;have G:=G.call J;obtain⟨r',o',e1',hr',aeh,_⟩:=(I.ex G.ext).1.idx (c:=rc) N hil;refine d_ ?_;refine PU.of e1'<|aY ?_;refine ME.ld (H:=hN H9) (aeh 5 _ N g5) ?_;refine G.kK ?_;refine aJ.mono (aht m _ hrt hrt (ax:=ax) (F':=λ_=>True) (nG H9) (show GR rg ax (hN H9) _ m rl from(hg.ex G.ext:GR rg ax H9 _ m rl)) (show KW _ (hN H9) _ _ from(hkw ab4 T7 G:KW _ H9 _ _))) ?_;rintro v Dm ⟨⟨cs,vn,rfl⟩,BD⟩;have G:=G.mV BD;refine aY ?_;refine iB (by simp only[eG,fK BD];rfl) ?_;generalize hKc:rO 3 _=Kc;have hli:=T3 hup hil
   have fin:∀{c:Bool}{u:Rs}{H2:F},Aw u 68=.bool c->(c=f<->(cs=f/\wA YK (low rg i)=aA)\/(vn=f/\wA bs' (low rg i)=aA))->M [] H H2 (Lk rb rz Ra Rb rw' (low rg rl) YK bs'<|lg ra rl rc na m nc ta n tc p 0 m_)->gJ Pg X (sub vR [1,1,1,0,1,0,0,1,0,1,1,0,0,1,0,0,1,1,1,1]) (qO (.agg ⟨lg ra rl rc na m nc ta n tc p 0 m_⟩) (pr rb) (pr rz) (B<|low rg rl) (pr rw') (.bool b) (B i) (B<|low rg i) (.bool cs) (.bool vn) u H2) Kc:=by
    intro c u H2 hk y G;refine aj9 G hli ab4 T7 cs vn b c hk y Kc λ{H3 u} G=>?_;subst hKc;refine tm ?_;refine PU.of (jB 1 O N)<|⟨k-1,N,_,_,_,_,_,_,_,O,i+1,b||c,_,_,O,O,N,(bF ..).trans ab4,(bF ..).trans T7,?_,G⟩;obtain⟨d1,d3,_⟩:=ab3 (e:=cs) (show low rg i<YK.length by omega);obtain⟨d2,d4,_⟩:=ab3 (e:=vn) (show low rg i<bs'.length by omega);cases c
    .rw[mP];omega
    .rw[Bool.or_true,if_pos O];have:(if b=f then 1 else 0)<=1:=by split<;>omega
     rcases y.1 rfl with h|h
     .have:=d3 h;omega
     .have:=d4 h;omega
   have w1:=OI (show low rg i<YK.length by omega);have w2:=OI (show low rg i<bs'.length by omega);cases cs
   .cases vn
    .refine aY ?_;exact fin O (by simp) G
    refine d_ ?_;refine PU.of (Fv hli) ?_;simp only[aW];refine ME.ld ((G.get 1 O).cell w2) ?_;refine aY ?_;exact fin O (by simp) G
   refine d_ ?_;refine PU.of (Fv hli) ?_;simp only[aW];refine ME.ld ((G.get 2 O).cell w1) ?_;cases Q:wA YK (low rg i)
   .refine G.kK ?_;exact fin O (by simp[Q]) G
   refine aY ?_;refine(show∀{a b:Prop},b->BI (Z !f) a b fromλh=>h) ?_;cases vn
   .refine G.kK ?_;exact fin O (by simp[Q]) G
   refine d_ ?_;refine PU.of (Fv hli) ?_;simp only[aW];refine ME.ld ((G.get 1 O).cell w2) ?_;refine aY ?_;exact fin O (by simp[Q]) G
  .exact⟨cf YK+cf bs'+(if b=f then 1 else 0),N,_,_,_,_,_,_,_,O,b,YK,bs',O,ab4,T7,az _,G⟩
end
section
variable{ax:Nat->Prop}
def ahw(hw:Wf H)(hg:GR rg ax H g m rl)(hi:i<rl):aJ Pg X 107 [g,B i] H (Q1 (λv _=>∃k:Nat,v=B k/\k<=4000) H):=by
 obtain⟨ra,rc,rcs,na,nc,iH,ta,n,tc,p,m_,rfl,I,h3,h4,h5,h6,h7⟩:=hg;have G:=M.refl hw;refine ce [0,1,2,4] ?_;refine tl ?_;refine G.box O λH1 rb G=>?_;refine G.kK ?_;refine aC (λc=>?_) λc=>?_
 .refine rr ?_;exact⟨⟨0,O,bg _⟩,G.ext⟩
 obtain⟨j,rfl⟩:∃j,i=j+1:=⟨i-1,N⟩;obtain⟨_,r,_,_,g5,hr5,_⟩:=h3 j N;obtain⟨r',o,e1,R,hcl,_⟩:=I.1.idx (c:=rc) N (show j<rl by omega);refine G.oF ?_;rw[nW N N];refine aY ?_;rw[show((j+1:Nat):Int)-1=(j:Nat) by omega];refine PU.of e1<|aY ?_;refine G.Ay (hcl 5 _ N g5) R<|PU.of (jB 1 O N)<|rr ?_;exact⟨⟨r+1,O,N⟩,G.ext⟩
def OY(x:D)(aa:Nat)(gb:List dJ):Prop:=∃E,GB 202 4 x E gb/\E.length=aa*4/\∀j,j<aa->∃t,E[j*4+0]?=Z (.string t)
def OY.push(h:OY x aa gb){b:Bool}(hN:aa<=1000000)(G:M [] H0 H<|gb++L){Kp:D->D->F->Prop}(kk:∀q v' H3 gT,OY v' (aa+1) gT->M [] H0 H3 (gT++L)->Kp q v' H3):ME (bS 202 [.string ⟨#[]⟩,vi 0,vi 0,.bool aA] 4 1 [(0,.agg ⟨[.string t,vi r,vi c,.bool b]⟩)] H) λq H1=>ME (zB 202 4 x q H1) (Kp q):=by
 obtain⟨E,hg,hl,R⟩:=h;refine hg.push G N O O O O O N N λq v' H3 gT hg' G=>kk q v' H3 gT ⟨_,hg',by rw[aQ];show _+4=_;omega,λj hj=>?_⟩ G;rcases bZ j aa with h|h
 .obtain⟨t,ht⟩:=R j h;exact⟨t,by rw[bJ N];exact ht⟩
 .obtain rfl:j=aa:=by omega
  exact⟨t,by rw[dS N,show j*4+0-E.length=0 by omega];rfl⟩
def ahx(hw:Wf H)(hg:GR rg ax H g m rl):aJ Pg X 73 [g] H (Q1 (λv _=>∃a n c,v=T a n c) H):=by
 obtain⟨ra,rc,rcs,na,nc,iH,ta,n,tc,p,m_,rfl,I,h3,h4,h5,h6,h7⟩:=id hg;have G:=M.refl hw;refine ce [0,1,2,3,4,5,6,7,8,9]<|tl<|G.box O λH1 rb G=>?_;refine Vx 3 4 5 6 7 (h2:=λz x3 x4 x5 x6 x7 C=>∃i aa gb,x4=B i/\i+z=rl/\OY x3 aa gb/\aa<=4001*i/\M [] H C (gb++[(rb,32,lg ra rl rc na m nc ta n tc p 0 m_)])) ?_ rl ⟨0,0,[],rfl,N,⟨[],GB.nil _ _,rfl,λj h=>absurd h<|jP _⟩,bg _,G⟩;clear G;rintro z x3 x4 x5 x6 x7 u H2 ⟨i,aa,gb,rfl,hiz,hO,hNi,G⟩;refine tm ?_;refine aC (λc=>?_) λc=>?_;rotate_left
 .refine tl ?_;refine Ig 3 8 9 (h2:=λz x3 x8 x9 C=>∃i aa gb,x8=B i/\i+z=rl/\OY x3 aa gb/\aa<=500000+i/\M [] H C (gb++[(rb,32,lg ra rl rc na m nc ta n tc p 0 m_)])) ?_ rl ⟨0,aa,gb,rfl,N,hO,N,G⟩;clear G hO hNi;rintro z3 x3 x8 x9 u H3 ⟨i2,aa,gb,rfl,hiz,hO,hNi,G⟩;refine tm ?_;refine aC (λc=>?_) λc=>?_;rotate_left
  .refine tl ?_;obtain⟨E,hg,_⟩:=hO;obtain⟨a,n,c,rfl⟩:=hg.sl;refine rr ?_;exact⟨⟨_,_,_,O⟩,G.ext⟩
  have hil:i2<rl:=by omega
  obtain⟨tt,rt,_,_,_,_,av,w,ch,at',hk⟩:=h3 i2 hil;refine G.oF<|(I.ex G.ext).Xw N hil hk λq=>G.nZ O O O λH4 r9 G hx4=>?_
  have fin:∀{b:Bool}{H5:F}{u:Rs},Aw u 94=.bool b->M [] H H5 ((r9,194,[.string tt,.bool<|rg i2,.bool av,.bool w,vi ch,B rt,vi at'])::(gb++[(rb,32,lg ra rl rc na m nc ta n tc p 0 m_)]))->∀{hr:Out->Prop},(∀{x3:D}{N':Nat}{gT:List dJ}{H6:F}{u:Rs},OY x3 N' gT->N'<=aa+1->M [] H H6 (gT++[(rb,32,lg ra rl rc na m nc ta n tc p 0 m_)])->hr (.norm<|xJ (.agg ⟨lg ra rl rc na m nc ta n tc p 0 m_⟩) (pr rb) (T W 0 0) x3 (B i) x5 x6 x7 (B i2) (pr r9) u H6))->gJ Pg X (sub Dt [1,1,1,0,1,0,0,1,0,0,1,1]) (xJ (.agg ⟨lg ra rl rc na m nc ta n tc p 0 m_⟩) (pr rb) (T W 0 0) x3 (B i) x5 x6 x7 (B i2) (pr r9) u H5) hr:=by
   intro b H5 u hlk G hr kk;refine tl ?_;rw[hlk];cases b
   .refine aY ?_;exact kk hO N<|M.drop (A:=[_]) G
   refine d_ ?_;exact hO.push N (G.perm (L':=gb++((r9,194,_)::[(rb,32,lg ra rl rc na m nc ta n tc p 0 m_)])) iX.symm) λq v' H6 gT hO G=>kk hO (az _)<|M.drop (A:=[_])<|G.perm iX
  refine d_ ?_;refine dL (λ_=>?_) λ_=>?_
  .refine d_ ?_;refine fin O G λhO hn G=>?_;refine aY ?_;refine tl ?_;refine PU.of (jB 1 O N) ?_;exact⟨z3-1,N,_,_,_,_,_,O,i2+1,_,_,O,N,hO,N,G⟩
  .refine fin O G λhO hn G=>?_;refine aY ?_;refine tl ?_;refine PU.of (jB 1 O N) ?_;exact⟨z3-1,N,_,_,_,_,_,O,i2+1,_,_,O,N,hO,N,G⟩
 have hil:i<rl:=by omega
 obtain⟨_,rt,_,g1,g5,hrt,_⟩:=h3 i hil;obtain⟨r,o,e1,R,hcl,_⟩:=I.1.idx (c:=rc) N hil;refine G.oF<|PU.of e1<|aY ?_;refine G.Ay (hcl 1 _ N g1) R<|dL (λ_=>?_) λ_=>?_
 .exact PU.of (jB 1 O N)<|⟨z-1,N,_,_,_,_,_,_,_,O,i+1,aa,gb,O,N,hO,N,G⟩
 refine G.iK ?_;refine aJ.mono (ahw G.wf (hg.ex G.ext) hil) ?_;rintro v H3 ⟨⟨k,rfl,hk⟩,J⟩;have G:=G.call J;refine Oa 3 5 6 7 (h2:=λz x3 x5 x6 x7 C=>∃k aa gb,x5=B k/\k+z=4001/\OY x3 aa gb/\aa<=4001*i+k/\M [] H C (gb++[(rb,32,lg ra rl rc na m nc ta n tc p 0 m_)])) ?_ (4001-k) ⟨k,aa,gb,rfl,N,hO,N,G⟩;clear G hO hNi hk;rintro z2 x3 x5 x6 x7 u H4 ⟨k,aa,gb,rfl,hkz,hO,hNi,G⟩;refine tm ?_;refine PU.of e1<|aY ?_;refine G.Ay (hcl 5 _ N g5) R ?_;refine G.kK ?_;refine aC (λc=>?_) λc=>?_;rotate_left
 .refine tl ?_;refine PU.of (jB 1 O N) ?_;exact⟨z-1,N,_,_,_,_,_,_,_,O,i+1,aa,gb,O,N,hO,N,G⟩
 have hkm:k<m:=by omega
 obtain⟨kd,a,ks,kc,t,sa,sn,sc,at',hkx,_⟩:=h6 k hkm;obtain⟨r5,o5,e5,hr5,Ye,_⟩:=h5.1.idx (c:=nc) N hkm
 have h50:iH[k*5+0]?=Z (vi kd):=by
  have:=dV (λl=>l[0]?) hkx;simp only[mG]at this;simpa using this
 have h52:iH[k*5+2]?=Z (.string t):=by
  have:=dV (λl=>l[2]?) hkx;simp only[mG]at this;simpa using this
 refine G.oF<|PU.of e5<|aY ?_;refine G.Ay (Ye 0 _ N h50) hr5 ?_;refine aY ?_;refine lp2 6 7 (h2:=λz x6 x7 C=>∃b j,x6=.bool b/\x7=B j/\j+z=aa/\C=H4) ?_ aa ⟨_,0,rfl,rfl,N,rfl⟩;rintro z4 x6 x7 u H5 ⟨b,j,rfl,rfl,hjz,rfl⟩;obtain⟨E,hg3,hl3,hr3⟩:=id hO;obtain⟨ga,gn,gc,rfl,hgn,hgf⟩:=hg3.Jc (ax:=TT) G λ_ _=>trivial;obtain rfl:gn=aa:=by omega
 refine tp ?_;refine aC (λc4=>?_) λc4=>?_
 .cases b;rotate_left
  .refine aY ?_;exact iB O<|PU.of (jB 1 O N)<|⟨z4-1,N,_,_,_,_,O,_,j+1,O,O,N,O⟩
  have hjN:j<gn:=by omega
  obtain⟨r6,o6,e6,hr6,alP,_⟩:=hgf.1.idx (c:=gc) N hjN;obtain⟨t6,ht6⟩:=hr3 j hjN;refine aY ?_;refine PU.of e6<|aY ?_;refine ME.ld (alP 0 _ N ht6) ?_;simp only[gZ G.wf];refine d_ ?_;refine PU.of e5<|aY ?_;refine ME.ld (H:=hN H5) ((lQ (G.ext.obj r5 hr5 λh=>nomatch h) _).trans<|Ye 2 _ N h52) ?_;simp only[gZ G.wf,PP];refine iB (by simp only[eG];rfl) ?_;exact PU.of (jB 1 O N)<|⟨z4-1,N,_,_,_,_,O,_,j+1,O,O,N,O⟩
 refine tl ?_;cases b;rotate_left
 .refine aY ?_;refine tl ?_;refine PU.of (jB 1 O N) ?_;exact⟨z2-1,N,_,_,_,_,_,_,O,k+1,gn,gb,O,N,hO,N,G⟩
 refine aY ?_;refine(show∀{a b:Prop},a->BI (Z !aA) a b fromλh=>h)<|G.oF<|PU.of e5<|aY ?_;refine ME.ld ((lQ (G.ext.obj r5 hr5 λh=>nomatch h) _).trans<|Ye 2 _ N h52)<|PU.b4 O<|hO.push N G λq v' H6 gT hO G=>?_;refine aY ?_;refine tl ?_;refine PU.of (jB 1 O N) ?_;exact⟨z2-1,N,_,_,_,_,_,_,O,k+1,gn+1,gT,O,N,hO,N,G⟩
end
section
variable{ax:Nat->Prop}
abbrev LgV(v:D):Prop:=pK v=f/\∃l,v=.agg ⟨l⟩/\bI v=l/\l.length=9/\all' fB l=f
theorem yOf(hw:Wf H)(hg:GR rg ax H g m rl):aJ Pg X 44 [g] H (Q1 (λv _=>LgV v) H):=by
 obtain⟨ra,rc,rcs,na,nc,iH,ta,n,tc,p,m_,rfl,I,h3,h4,h5,h6,h7⟩:=id hg;have G:=M.refl hw;refine ce [0,1,2] ?_;refine tl ?_;refine G.box O λH1 rb G=>?_;refine G.iZ λH2 rz G=>?_;refine d_ ?_;refine aJ.mono (ahx (nG H2) (show GR rg ax (hN H2) _ m rl from(hg.ex G.ext:GR rg ax H2 _ m rl))) ?_;rintro v H3 ⟨⟨ya,yn,yc,rfl⟩,hx3⟩;have G:=G.mV hx3;refine d_ ?_;refine aJ.mono (ahv (nG<|hM H2 H3) (show GR rg ax (hN<|hM H2 H3) _ m rl from(hg.ex G.ext:GR rg ax (hM H2 H3) _ m rl))) ?_;rintro v H4 ⟨⟨SH,ea,ec,sa,sc,be,bs,rfl,_⟩,hx4⟩;have G:=G.mV hx4;refine d_ ?_;refine G.lW λHn G=>?_;have n1:=G.nq 0 1 O O N;refine(show∀K:Prop,K->_/\K fromλKz hK=>?_) _ ?_
 .simp only[eG,fT,fK hx3,fK hx4];apply lX (a:=rz) (b:=rb) n1 (by intros;rfl) (by kernel_rfl) (by kernel_rfl) hK
 refine rr ?_;exact G.rF 0 O (az 9)<|⟨⟨O,_,O,O,O,O⟩,G.ext⟩
end
end Go.Proofs.Lu
