/-
  Part 13 of the proof. No condition.
-/
import Derived.Test.YtpngmpbmokhmiaaGreatDoorZ12
set_option linter.unusedVariables false
set_option linter.unusedSimpArgs false
set_option maxRecDepth 100000
set_option maxHeartbeats 4000000
set_option linter.defProp false
open Option renaming some->D,none->Q
open Bool renaming true->f,false->aC
open Go renaming Value->Z,TypeId->aH
open Go.Value renaming slice->I,bool->gI
open List renaming replicate->aX
open And renaming intro->ik
noncomputable section
namespace Go.Proofs.Lu
open Go.Ae Go.Ae.cs
variable{F' R':Nat->Prop}{L gb:C dL}{cs aa b d i k m m0 n p p0 q r3 rb rl rz:Nat}{c ch e r:Int}{rg:Nat->Bool}{H T H0 H1:R}{g v w x x0 x4 x5 x6:Z}{ar M gl l:C Z}{t:aV}{a:aB Addr}{u:Rs}{be bs:C Bool}
section
def _root_.Go.Ae.je.by{SH:Nat->Prop}{ty:aH}{es:Nat}(h:je SH ty H a n es M)(hF:∀r,r<H.next->SH r->F' r):je F' ty H a n es M:=⟨h.1,λr o e hn=>let⟨W,J,h3⟩:=h.2 r o e hn;⟨hF r J W,J,h3⟩⟩
def WC(SH:Nat->Prop)(H:R)(l:C Z)(i:Nat):Prop:=∃(z:Int)(a:aB Addr)(ks:C Nat)(c:Nat)(t:aV)(sa:aB Addr)(sn sc:Nat)(at':Int),l=[vi z,I a ks.length c,.string t,I sa sn sc,vi at']/\je SH 3 H a ks.length 1 (fF ks)/\(∀j∈ks,j<i)/\(z=4->ks≠[])/\ks.length<=20003
def WC.st{SH:Nat->Prop}{S:C Nat}(h:WC SH H l i)(E:oN S H T)(G:∀q∈S,¬SH q):WC SH T l i:=let⟨z,a,ks,c,t,sa,sn,sc,at',W,J,h3⟩:=h;⟨z,a,ks,c,t,sa,sn,sc,at',W,J.stay E λq hq=>.inl<|G q hq,h3⟩
def WC.by{SH:Nat->Prop}(h:WC SH H l i)(hF:∀r,r<H.next->SH r->F' r):WC F' H l i:=let⟨z,a,ks,c,t,sa,sn,sc,at',W,J,h3⟩:=h;⟨z,a,ks,c,t,sa,sn,sc,at',W,J.by hF,h3⟩
def RuY(l:C Z)(m:Nat):Prop:=∃(t:aV)(rg ay w:Bool)(ch at':Int)(r:Nat),l=[.string t,.bool rg,.bool ay,.bool w,vi ch,B r,vi at']/\r<m
def YG(n:Nat)(SH:Nat->Prop)(H:R)(g:Z)(p m rl:Nat)(e:Int):Prop:=∃(ra:aB Addr)(rc:Nat)(rcs:C Z)(na:aB Addr)(nc:Nat)(iK:C Z)(ta:aB Addr)(tc:Nat)(at':Int),g=.agg ⟨[I ra rl rc,I na m nc,I ta n tc,B p,vi e,vi at']⟩/\
 je SH 194 H ra rl 7 rcs/\(e=0->∀i,i<rl->RuY (El rcs 7 i) m)/\rl<=120/\je SH 200 H na m 5 iK/\(∀i,i<m->WC SH H (El iK 5 i) i)/\m<=4000/\Ad SH H (I ta n tc) n/\p<=20002/\(e=0->p<n)
variable{SH:Nat->Prop}
def Ad.st{S:C Nat}(h:Ad SH H v n)(E:oN S H T)(G:∀q∈S,¬SH q):Ad SH T v n:=let⟨a,c,M,W,J,h3,h4⟩:=h;⟨a,c,M,W,J.stay E λq hq=>.inl<|G q hq,h3,λi hi=>(h4 i hi).st E λq hq=>.inl<|G q hq⟩
def uw.by(h:uw SH H v)(hF:∀r,r<H.next->SH r->F' r):uw F' H v:=let⟨a,n,c,zs,W,J,h3⟩:=h;⟨a,n,c,zs,W,J.by hF,h3⟩
def Ad.by(h:Ad SH H v n)(hF:∀r,r<H.next->SH r->F' r):Ad F' H v n:=let⟨a,c,M,W,J,h3,h4⟩:=h;⟨a,c,M,W,J.by hF,h3,λi hi=>let⟨k,a,e,t',x,g1,g2,g3,g4⟩:=h4 i hi;⟨k,a,e,t',x,g1,g2,g3.by hF,g4⟩⟩
def YG.st{S:C Nat}(h:YG n SH H g p m rl e)(E:oN S H T)(G:∀q∈S,¬SH q):YG n SH T g p m rl e:=by
 have⟨ra,rc,rcs,na,nc,iK,ta,tc,at',W,J,h3,h4,h5,h6,h7,h8,h9⟩:=h;exact⟨ra,rc,rcs,na,nc,iK,ta,tc,at',W,J.stay E λq hq=>.inl<|G q hq,h3,h4,h5.stay E λq hq=>.inl<|G q hq,λi hi=>(h6 i hi).st E G,h7,h8.st E G,h9⟩
def YG.ex(h:YG n SH H g p m rl e)(E:Ext H T):YG n SH T g p m rl e:=h.st E nofun
def YG.by(h:YG n SH H g p m rl e)(hF:∀r,r<H.next->SH r->F' r):YG n F' H g p m rl e:=by
 have⟨ra,rc,rcs,na,nc,iK,ta,tc,at',W,J,h3,h4,h5,h6,h7,h8,h9⟩:=h;exact⟨ra,rc,rcs,na,nc,iK,ta,tc,at',W,J.by hF,h3,h4,h5.by hF,λi hi=>(h6 i hi).by hF,h7,h8.by hF,h9⟩
def YG.bd(h:YG n SH H g p m rl e):p<=20002/\(e=0->p<n)/\n<=20001/\m<=4000/\rl<=120:=by
 have⟨ra,rc,rcs,na,nc,iK,ta,tc,at',W,J,h3,h4,h5,h6,h7,⟨_,_,_,_,_,h8,_⟩,h9⟩:=h;exact⟨h9.1,h9.2,h8,h7,h4⟩
def YG.to(h:YG n SH H g p m rl e)(hq:q<=20002/\(e=0->q<n))(eq:g=.agg ⟨l⟩):YG n SH H (.agg ⟨l.set 3<|B q⟩) q m rl e:=by
 have⟨ra,rc,rcs,na,nc,iK,ta,tc,at',W,J,h3,h4,h5,h6,h7,h8,h9⟩:=h;rw[eq]at W;cases W;exact⟨ra,rc,rcs,na,nc,iK,ta,tc,at',O,J,h3,h4,h5,h6,h7,h8,hq⟩
abbrev Nw(SH:Nat->Prop)(b:Nat):Nat->Prop:=λr=>SH r\/b<=r
def AZ(hw:Wf H)(hg:YG n SH H g p m rl e)(hp:p<n):aO Pg X 71 [g] H (Q1 (λv _=>∃k:Int,v=vi k/\0<=k/\k<=15/\(p+1=n->k=0)) H):=by
 obtain⟨ra,rc,rcs,na,nc,iK,ta,tc,at',rfl,J,h3,h4,h5,h6,h7,⟨a,c,M,e8,h8,h8',hr8⟩,h9⟩:=hg;cases e8;have G:=F.refl hw;refine jS [0,1,2] ?_;refine G.box O λH1 rb G=>?_;refine eU ?_;have⟨r,o,e1,y,hcl,_⟩:=h8.1.idx (c:=tc) N hp;have⟨k,_,e,t,x,hk,_,_,k1,k2,k3⟩:=hr8 p hp;refine PU.of e1 ?_;refine bG ?_
 have h0:M[p*5+0]?=D (vi k):=by
  have:=dW (λl=>l[0]?) hk;simp only[mR]at this;simpa using this
 refine G.Be (hcl 0 _ N h0) y<|rr ?_;exact⟨⟨k,O,k1,k2,k3⟩,G.ext⟩
abbrev Ot(SH:Nat->Prop)(b:Nat)(L:C dL):Nat->Prop:=λr=>Nw SH b r/\r∉L.map (·.1)
theorem YG.own(hg:YG n SH H0 g p m rl e)(G:F [] H0 H L):YG n (Ot SH H0.next L) H g p m rl e:=
 (hg.by (F':=Ot SH H0.next L) λr W J=>⟨.inl J,λhm=>by
  obtain⟨e,he,rfl⟩:=bQ.1 hm;exact eP (G.wQ he) W⟩).ex G.ext
theorem WC.own(hg:WC SH H0 l i)(G:F [] H0 H L):WC (Ot SH H0.next L) H l i:=
 (hg.by (F':=Ot SH H0.next L) λr W J=>⟨.inl J,λhm=>by
  obtain⟨e,he,rfl⟩:=bQ.1 hm;exact eP (G.wQ he) W⟩).st G.ext nofun
theorem YG.turn{H2:R}{L2:C dL}(hg:YG n (Ot SH b L) H g p m rl e)(hO:F (L.map (·.1)) H H2 L2):YG n (Ot SH b L2) H2 g p m rl e:=
 ((hg.by (F':=λr=>Ot SH b L r/\r∉L2.map (·.1)) λr W J=>⟨J,λhm=>by
   obtain⟨e,he,rfl⟩:=bQ.1 hm;rcases(hO.lo e he).1 with h|h
   .exact J.2 h
   .omega⟩).st hO.ext λq hq h=>h.1.2 hq).by λr _ h=>⟨h.1.1,h.2⟩
theorem ah7(hw:Wf H)(hg:YG n SH H g p m rl 0)(hc:c≠0):aO Pg X 105 [g,vi c] H (Q1 (λv T=>∃e:Int,e≠0/\YG n SH T v p m rl e) H):=by
 have hb:=hg.bd;obtain⟨ra,rc,rcs,na,nc,iK,ta,tc,at',rfl,J,h3,h4,h5,h6,h7,⟨a,cc,M,e,h8,h8',hr8⟩,h9⟩:=id hg;cases e;have G:=F.refl hw;refine jS [0,1,2,4] ?_;refine G.box O λH1 rb G=>?_;refine G.iX λH2 rz G=>?_;refine eU ?_;refine aT (λ_=>?_) λc=>absurd trivial c;have⟨r,o,e1,y,hcl,o0,e0,_⟩:=(h8.ex G.ext).1.idx (c:=tc) N<|hb.2.1 O;have⟨k,at2,e,t,x,hk,_,_,k1,k2,k3⟩:=hr8 p<|hb.2.1 O;have hr0:r<H.next:=h8.2 r o0 e0 (by have:=hb.2.1 O;omega)|>.2.1
 have hn:rb≠r:=λe=>eP (G.wQ<|aS (i:=1) O)<|e▸hr0
 have hk1:M[p*5+1]?=D (vi at2):=by
  have:=dW (λl=>l[1]?) hk;simp only[mR]at this;simpa using this
 refine eU ?_;refine PU.of e1<|bG ?_;refine ME.ld (H:=hN H2) (hcl 1 _ N hk1) ?_;refine G.kL ?_;refine G.mh λHn G=>?_;refine G.mh λHn G=>?_;refine splitK (λK hK=>?_) ?_
 .simp only[d_,fK];apply lQ (a:=rb) (b:=r) hn xN jr jr hK
 have hT:Ad SH H (I ta n tc) n:=⟨_,_,M,O,h8,h8',hr8⟩
 have fin:∀{H5:R}{e:Int},e≠0->Ext H H5->YG n SH H5 (.agg ⟨[I ra rl rc,I na m nc,I ta n tc,B p,vi e,vi at2]⟩) p m rl e:=λ{H5 e} he E=>
  ⟨ra,rc,rcs,na,nc,iK,ta,tc,at2,rfl,J.ex E,λh=>absurd h he,h4,h5.ex E,λi hi=>(h6 i hi).st E<|nofun,h7,hT.st E<|nofun,h9.1,λh=>absurd h he⟩
 have last:∀{H5:R}{e:Int},e≠0->F [] H H5 [(rz,32,[I Q 0 0,I Q 0 0,I Q 0 0,vi 0,vi 0,vi 0]),(rb,32,[I ra rl rc,I na m nc,I ta n tc,B p,vi e,vi at2])]->∀{u:Z->Rs},ME (vH (D 6) (pr rb) H5) λv T=>ME (CW 6 (pr rz) v T) λ_ T=>jL Pg [.cell 4 32] (Q1 (λv T=>∃e:Int,e≠0/\YG n SH T v p m rl e) H) (.ret<|wT (.agg ⟨[I ra rl rc,I na m nc,I ta n tc,B p,vi 0,vi at']⟩) (vi c) (pr rb) (pr rz) (u v) T):=by
  intro H5 e he G u;refine G.iI<|G.jH λHn G=>?_;refine rr ?_;refine G.rZ 0 O (ax 6) ?_;exact⟨⟨e,he,fin he G.ext⟩,G.ext⟩
 refine aT (λ_=>?_) λ_=>last hc G;refine G.iI<|aO.mono (AZ G.wf (fin hc G.ext)<|hb.2.1 O) ?_;rintro v H5 ⟨⟨k,rfl,_⟩,E⟩;have G:=G.call E;refine bG ?_;refine aT (λ_=>?_) λ_=>last hc G;exact G.jH λHn G=>last mO G
end
section
variable{SH:Nat->Prop}
def YT(n:Nat)(az SH:Nat->Prop)(m rl:Nat)(v:Z)(T:R):Prop:=∃(g':Z)(k p' m':Nat)(e:Int),v=.tuple ⟨[g',B k]⟩/\YG n SH T g' p' m' rl e/\m<=m'/\(e=0->k<m'/\az p')
abbrev YR(n:Nat)(az SH:Nat->Prop)(H:R)(m rl:Nat):Z->R->Prop:=Q1 (YT n az (Nw SH H.next) m rl) H
def YG.call{az:Nat->Prop}{Kp:Z->R->Prop}(hg:YG n (Ot SH b L) H g p m rl e)(G:F [] H0 H L)(hb:b<=H.next)(hc:∀F',(∀r,r<H.next->Ot SH b L r->F' r)->YG n F' H g p m rl e->aO Pg X aa (g::ar) H (YR n az F' H m rl))(kk:∀g' H2 k p' m' e',YG n (Ot SH b L) H2 g' p' m' rl e'->m<=m'->(e'=0->k<m'/\az p')->F [] H0 H2 L->Ext H H2->Kp (.tuple ⟨[g',B k]⟩) H2):aO Pg X aa (g::ar) H Kp:=by
 refine aO.mono (hc (λr=>Ot SH b L r/\r<H.next) (λr W J=>⟨J,W⟩)<|hg.by λr W J=>⟨J,W⟩) ?_;rintro v H2 ⟨⟨g',k,p',m',e',rfl,hg',W,J⟩,E⟩;refine kk g' H2 k p' m' e' (hg'.by λr _ h=>?_) W J (G.call E) E;rcases h with h|h
 .exact h.1
 .refine⟨.inr<|a_ hb h,λhm=>?_⟩;obtain⟨e,he,rfl⟩:=bQ.1 hm;exact eP h (G.lo e he).2
def YG.akG{az:Nat->Prop}{Kp:Z->R->Prop}(hg:YG n (Ot SH b L) H g p m rl e)(G:F [] H0 H L)(hb:b<=H.next)(hc:∀F',(∀r,r<H.next->Ot SH b L r->F' r)->YG n F' (hN H) g p m rl e->aO Pg X aa (g::ar) (hN H) (YR n az F' (hN H) m rl))(kk:∀g' H2 k p' m' e',YG n (Ot SH b L) (hM H H2) g' p' m' rl e'->m<=m'->(e'=0->k<m'/\az p')->F [] H0 (hM H H2) L->DY H H2=cl 1->Kp (.tuple ⟨[g',B k]⟩) H2):aO Pg X aa (g::ar) (hN H) Kp:=
 YG.call (H:=hN H) (H0:=hN H0) (show YG n (Ot SH b L) (hN H) g p m rl e from hg) G.yh hb hc λg' H2 k p' m' e' W J h3 _ E=>kk g' H2 k p' m' e' W J h3 (G.nH E)<|fP E
def YT.up{az:Nat->Prop}(h:YT n az SH m rl v H)(W:∀q,az q->R' q)(J:m0<=m)(hF:∀r,r<H.next->SH r->F' r):YT n R' F' m0 rl v H:=let⟨g',k,p',m',e,h3,h4,h5,h6⟩:=h;⟨g',k,p',m',e,h3,h4.by hF,N,λhe=>⟨(h6 he).1,W _ (h6 he).2⟩⟩
def YG.ret{az:Nat->Prop}{Kp:Z->Z->Z->Z->R->Prop}(hg:YG n (Ot SH H0.next L) H g p m rl e)(G:F [] H0 H L)(hi:L[i]?=D (rz,32,M))(hl:M.length=6)(W:∀q,az q->R' q)(J:m0<=m)(hc:∀F',(∀r,r<H.next->Ot SH H0.next L r->F' r)->YG n F' H g p m rl e->aO Pg X aa (g::ar) H (YR n az F' H m rl))(kk:∀v g' c rg H3,YR n R' SH H0 m0 rl (.tuple ⟨[g',c]⟩) H3->(∀{au:Z->R->Prop},au g' H3->ME (vH (D 6) (.pointer<|D ⟨rz,0,Q⟩) H3) au)->Kp v g' c rg H3):aO Pg X aa (g::ar) H λv H1=>PU (uU v 0) λa=>PU (uU v 1) λc=>ME (CW 6 (.pointer<|D ⟨rz,0,Q⟩) a H1) λrg H2=>Kp v a c rg H2:=by
 refine hg.call G G.ext.next hc λg' H2 k p' m' e' hg h3 h4 G _=>?_
 obtain⟨ra,rc,rcs,na,nc,iK,ta,tc,at',rfl,_⟩:=id hg;refine bG ?_;have hO:=G.base;refine hO.st i hi O N O λH3 hO=>?_;rw[nL _ _ (by exact hl)]at hO;have hg:=hg.st hO.ext λq hq h=>h.2 hq;refine kk _ _ _ _ _ ⟨⟨_,k,p',m',e',O,hg.by λr _ h=>h.1,N,λhe=>⟨(h4 he).1,W _ (h4 he).2⟩⟩,(G.over hO).ext⟩ λ{au} hQ=>?_;exact hO.rZ i (o:=0) (n:=6) (M:=bK<|.agg ⟨[I ra rl rc,I na m' nc,I ta n tc,B p',vi e',vi at']⟩) (by rw[dG,if_pos O,if_pos (bE.1 hi).1]) (ax 6) hQ
def YG.acE{Kp:Z->Z->R->Prop}(hg:YG n (Ot SH H0.next L) H g p m rl 0)(G:F [] H0 H L)(hi:L[i]?=D (rz,32,M))(hl:M.length=6)(J:m0<=m)(hc:c≠0)(kk:∀g' rg H3,(∀{az},YR n az SH H0 m0 rl (.tuple ⟨[g',vi 0]⟩) H3)->(∀{au:Z->R->Prop},au g' H3->ME (vH (D 6) (.pointer<|D ⟨rz,0,Q⟩) H3) au)->Kp g' rg H3):aO Pg X 105 [g,vi c] H λv H1=>ME (CW 6 (.pointer<|D ⟨rz,0,Q⟩) v H1) λrg H2=>Kp v rg H2:=by
 refine G.cm (ah7 G.wf hg hc) ?_;rintro v H2 ⟨e',he',hg⟩ E G;obtain⟨ra,rc,rcs,na,nc,iK,ta,tc,at',rfl,_⟩:=id hg;have hO:=G.base;refine hO.st i hi O N O λH3 hO=>?_;rw[nL _ _ (by exact hl)]at hO;have hg:=hg.st hO.ext λq hq h=>h.2 hq;refine kk _ _ _ ⟨⟨_,0,p,m,e',O,hg.by λr _ h=>h.1,J,λhe=>absurd he he'⟩,(G.over hO).ext⟩ λ{au} hQ=>?_;exact hO.rZ i (o:=0) (n:=6) (M:=bK<|.agg ⟨[I ra rl rc,I na m nc,I ta n tc,B p,vi e',vi at']⟩) (by rw[dG,if_pos O,if_pos (bE.1 hi).1]) (ax 6) hQ
theorem acF(hw:Wf H)(hg:YG n SH H g p m rl 0)(hl:WC SH H l m):aO Pg X 138 [g,.agg ⟨l⟩] H (YR n (·=p) SH H m rl):=by
 have hbd:=hg.bd;obtain⟨ra,rc,rcs,na,nc,iK,ta,tc,nM,rfl,J,h3,h4,h5,h6,h7,h8,h9⟩:=id hg;obtain⟨z,ka,ks,kc,t,sa,sn,sc,at',rfl,k2,k3⟩:=id hl;have G:=F.refl hw;refine jS [0,1,2,3,4,5] ?_;refine G.box O λH1 rb G=>?_;refine G.box O λH2 rx G=>?_;refine G.iX λH3 rz G=>?_;refine wS (λc=>?_) λ_=>?_
 .refine G.iI<|YG.acE (i:=0) (hg.own G) G O O (ax _) mO λg' rg H4 hY y=>?_;refine rr ?_;exact y hY
 refine G.ah3 λH4 a G hc1=>?_;refine eU ?_;refine G.ah4 (n:=m) (xs:=iK) (yj (show Fl (hN<|hM H3 H4) na m 5 iK from((h5.ex G.ext).1:Fl (hM H3 H4) na m 5 iK)) N) h5.1.1 N λv2 H5 g2 hg2 G hc2=>?_;have G:=G.perm<|aG (l₂:=[_,_,_]);simp only[bI,bN]at G;refine eU ?_;refine G.PL O O O N λH6 ry G hc3=>?_;have G:=G.perm (L':=(ry,200,[vi z,I ka ks.length kc,.string t,I sa sn sc,vi at'])::(g2++[(rz,32,[I Q 0 0,I Q 0 0,I Q 0 0,vi 0,vi 0,vi 0]),(rx,200,[vi z,I ka ks.length kc,.string t,I sa sn sc,vi at']),(rb,32,[I ra rl rc,I na m nc,I ta n tc,B p,vi 0,vi nM])]))<|(aG (l₁:=[_,_,_]) (l₂:=g2)).cons _;refine hg2.acB G N O O (by rw[h5.1.1];omega) λv3 H7 g3 hg3 G hc4=>?_;have G:=G.perm<|aG (l₂:=[_,_,_]);simp only[bI,bN]at G;obtain⟨va,vl,vc,rfl⟩:=hg3.sl
 have hvl:vl=m+1:=by
  have⟨_,_,_,e,h,_⟩:=hg3.IA (SH:=TT) (G.perm<|aG (l₁:=[_,_,_])) λ_ _=>trivial;cases e;rw[aQ,h5.1.1]at h;simp at h;omega
 subst hvl;have n1:=G.nq 1 2 O O N;have n2:=G.nq 0 2 O O N;refine G.mh λHn G=>?_;refine splitK (λK hK=>?_) ?_
 .simp only[hc1,hc2,hc3,d_,fK];rcases hc4 with e|e<;>rw[e]<;>apply lQ (a:=rx) (b:=rb) n1 xN jr jr hK
 refine eU ?_;rw[pg N N];refine bG ?_;rw[show((m+1:Nat):Int)-1=((m:Nat):Int) by omega];refine G.mh λHn G=>?_;refine splitK (λK hK=>?_) ?_
 .simp only[d_,fK];apply lQ (a:=rz) (b:=rb) n2 xN jr jr hK
 have G:=G.to (cs':=[I ra rl rc,I va (m+1) vc,I ta n tc,B p,vi 0,vi nM]) O;have E:=G.ext;have⟨_,_,_,e,_,hf⟩:=hg3.IA (SH:=Nw SH H.next) (G.perm<|aG (l₁:=[_,_,_])) λe he=>.inr<|G.wQ<|cZ [_,_,_] he;cases e;have hE:=BX (es:=5) (n:=m) h5.1.1 (xs:=[vi z,I ka ks.length kc,.string t,I sa sn sc,vi at']) O;have nw:∀{T:R} r,r<T.next->SH r->Nw SH H.next r:=λr _ h=>.inl h
 refine rr ?_;refine G.rZ 0 O (ax 6)<|⟨⟨_,m,p,m+1,0,O,⟨ra,rc,rcs,va,vc,_,ta,tc,nM,O,(J.ex E).by nw,λhe i hi=>?_,h4,hf,λi hi=>?_,N,(h8.st E nofun).by nw,h9⟩,N,λ_=>⟨N,rfl⟩⟩,E⟩
 .have⟨t,rg,ay,w,ch,at',r,f1,f2⟩:=h3 he i hi;exact⟨t,rg,ay,w,ch,at',r,f1,N⟩
 rcases cr i m with h|h
 .rw[show El (iK++_) 5 i=_ from hE.1 i h];exact((h6 i h).st E nofun).by nw
 .obtain rfl:i=m:=N;rw[show El (iK++_) 5 i=_ from hE.2];exact(hl.st E nofun).by nw
def YQ(hw:Wf H)(hg:YG n SH H g p m rl 0)(hl:WC SH H l m)(hp:p+1<n):aO Pg X 166 [g,.agg ⟨l⟩] H (YR n (·=p+1) SH H m rl):=by
 obtain⟨z,ka,ks,kc,t,sa,sn,sc,at',rfl,_⟩:=id hl;obtain⟨ra,rc,rcs,na,nc,iK,ta,tc,nM,rfl,_⟩:=id hg;have G:=F.refl hw;refine jS [0,1,2,3,4,5,6] ?_;refine G.box O λH1 rb G=>?_;refine G.box O λH2 rx G=>?_;refine G.iX λH3 rz G=>?_;refine eU ?_;refine(hg.own G).call G G.ext.next (λF' hF hg'=>acF G.wf hg'<|(hl.own G).by hF) λg' H4 k p' m' e' hg hm hk G _=>?_
 obtain⟨ra,rc,rcs,na,nc,iK,ta,tc,nM,rfl,_⟩:=id hg;have hbd:=hg.bd;have hS1:=G;have G:=G.base;refine G.kL ?_;refine G.jH λHn G=>?_;refine wS (λc=>?_) λc=>?_
 .obtain⟨hk1,rfl⟩:=hk c;apply G.pz;refine PU.of (jC 1 O N)<|G.jH λHn G=>tl ?_;apply G.iI;refine G.jH λHn G=>?_;have hg:=(hg.turn G).to (q:=p'+1) ⟨N,λ_=>hp⟩ O;have G:=hS1.over G;refine rr ?_;exact G.rZ 0 O (ax 6)<|⟨⟨_,k,p'+1,m',e',O,hg.by λr _ h=>h.1,hm,λ_=>⟨hk1,rfl⟩⟩,G.ext⟩
 .refine tl ?_;apply G.iI;refine G.jH λHn G=>?_;have hg:=hg.turn G;have G:=hS1.over G;refine rr ?_;exact G.rZ 0 O (ax 6)<|⟨⟨_,k,p',m',e',O,hg.by λr _ h=>h.1,hm,λh=>absurd h c⟩,G.ext⟩
end
section
variable{SH:Nat->Prop}
def Yop(aa:FuncId)(n d s:Nat):Prop:=∀{SH:Nat->Prop}{H:R}{g:Z}{p m rl:Nat},Wf H->YG n SH H g p m rl 0->aO Pg X aa [g,B d] H (YR n (p+s<=·) SH H m rl)
def Gh{sn sc:Nat}{at':Int}(h:c≠4):WC SH H [vi c,I Q 0 0,.string t,I a sn sc,vi at'] m:=⟨c,Q,[],0,t,a,sn,sc,at',O,je.nil _ _ _ _ _,(nofun),λe=>absurd e h,bA _⟩
abbrev La(rt rz rb:Nat)(tl gl:C Z)(gb:C dL):C dL:=(rt,186,tl)::(rz,32,[I Q 0 0,I Q 0 0,I Q 0 0,vi 0,vi 0,vi 0])::(rb,32,gl)::gb
abbrev lg(ra:aB Addr)(rl rc:Nat)(na:aB Addr)(m nc:Nat)(ta:aB Addr)(n tc p:Nat)(e at':Int):C Z:=[I ra rl rc,I na m nc,I ta n tc,B p,vi e,vi at']
theorem yno{rt:Nat}{ra na ta ea:aB Addr}{rc nc tc en ec:Nat}{xs:C Nat}{kz at' nM:Int}{ve sv jo iJ uC:Z}(hg:YG n (Ot SH H.next<|La rt rz rb [vi kz,vi at',ve,.string t,sv] (lg ra rl rc na cs nc ta n tc (p+1) 0 nM) []) H1 (.agg ⟨lg ra rl rc na cs nc ta n tc (p+1) 0 nM⟩) (p+1) cs rl 0)(G:F [] H H1<|La rt rz rb [vi kz,vi at',ve,.string t,sv] (lg ra rl rc na cs nc ta n tc (p+1) 0 nM) [])(hp1:p+1<n)(hp2:p+2<n)(hf:je (λ_=>True) 3 H1 ea en 1<|fF xs)(hen:en<=3000000)(hxl:xs.length=en)(hxs:∀x∈xs,x<=134217728):
 gK Pg X (.loop<|sub gT [1,1,0,1,0,1,1,1,1,1,1,1,1,1,0,1,1,1,1,0,1,0,0]) (kV x0 (B d) (pr rb) (pr rz) (vi 0) (pr rt) (I ea en ec) (I Q 0 0) (vi 0) jo iJ uC u H1) (sw 1<|t_ Pg X (sub gT [1,1,0,1,0,1,1,1,1,1,1,1,1,1,0,1,1,1,1,1])<|sw 0<|t_ Pg X (sub gT [1,1,1])<|jL Pg [.cell 4 32,.tmp 5]<|YR n (p+1<=·) SH H cs rl):=by
 refine lp2 8 9 (ai:=λm x8 x9 T=>∃i bs gb,x9=B i/\GB 4 1 x8 (bools bs) gb/\bs.length=i/\i+m=en/\F [] H T (La rt rz rb [vi kz,vi at',ve,.string t,sv] (lg ra rl rc na cs nc ta n tc (p+1) 0 nM) gb)/\YG n (Ot SH H.next<|La rt rz rb [vi kz,vi at',ve,.string t,sv] (lg ra rl rc na cs nc ta n tc (p+1) 0 nM) gb) T (.agg ⟨lg ra rl rc na cs nc ta n tc (p+1) 0 nM⟩) (p+1) cs rl 0/\je (λ_=>True) 3 T ea en 1 (fF xs)) ?_ en ⟨0,[],[],rfl,GB.nil _ _,rfl,aY en,G,hg,hf⟩;clear hg G hf;rintro m x8 x9 u H2 ⟨i,bs,gb,rfl,hgb,hbl,him,G,hg,hf⟩;have hbd:=hg.bd;refine kX (λhc=>?_) λhc=>?_
 .refine tl ?_;obtain⟨ga,gn,gc,rfl,hgl,hgf⟩:=hgb.IA (SH:=λ_=>True) (G.perm<|aG (l₁:=[_,_,_])) λ_ _=>trivial;obtain rfl:gn=bs.length:=by rw[aK]at hgl;omega
  have G:F [] H H2 (La rt rz rb [vi kz,vi at',ve,.string t,sv] (lg ra rl rc na cs nc ta n tc (p+1) 0 nM) []):=G.sub<|eD [_,_,_] gb;have hg:=hg.by (F':=Ot SH H.next<|La rt rz rb [vi kz,vi at',ve,.string t,sv] (lg ra rl rc na cs nc ta n tc (p+1) 0 nM) []) λr _ h=>⟨h.1,λhm=>h.2 (by simp only[iC,bP,jF,dX,iF]at hm|-;rcases hm with h|h|h<;>simp[h])⟩
  have n1:=G.nq 0 2 O O N;have n2:=G.nq 0 1 O O N;have n3:=G.nq 1 2 O O N;refine eU ?_;refine aO.mono (ah6 (nS H2) (show je (λ_=>True) 3 (hN H2) ea en 1 (fF xs)from hf) hen hxl hxs (show je (λ_=>True) 4 (hN H2) ga bs.length 1 (bools bs)from hgf)) ?_;rintro v H3 ⟨⟨ca,cn,cc,rfl⟩,hx3⟩;have hg:=hg.ex (T:=hM H2 H3) hx3.draw;have G:=G.nH hx3;refine eU ?_;refine hg.akG G G.ext.next (λF' hF hg'=>YQ (nS _) hg' (Gh mO) hp2) λg' H5 k p' m' e' hg hm hk G Vw=>?_
  obtain⟨_,_,_,_,_,_,_,_,_,rfl,_⟩:=id hg;have hS1:=G;have G:=G.base;refine G.kL ?_;refine G.mh λHn G=>(show∀K:Prop,K->_/\K fromλKz hK=>?_) _ ?_
  .simp only[d_,fK,fP hx3,Vw];apply xG (a:=rt) (b:=rz) (c:=rb) n2 n1 n3 xN jr jr hK
  have hg:=hg.turn G;have G:=hS1.over G;refine rr ?_;exact G.rZ 1 O (ax 6)<|⟨⟨_,k,p',m',e',O,hg.by λr _ h=>h.1,hm,λh=>⟨(hk h).1,by have:=(hk h).2;omega⟩⟩,G.ext⟩
 have⟨_,_,_,_,_,_,_,_,_,e,_,_,_,_,_,_,⟨_,_,cs5,e5,hf5,_,acG⟩,_⟩:=id hg;cases e;cases e5;have⟨r,o,ei,y,hcl,o0,e6,ho⟩:=hf5.1.idx (c:=tc) N hp1;have⟨_,Sq,e5',t5,x5,hk5,_,WG,_⟩:=acG (p+1) hp1
 have hc4:cs5[(p+1)*5+4]?=D x5:=by
  have:=dW (λl=>l[4]?) hk5;simp only[mR]at this;simpa using this
 have⟨r2,o2,e2,hr2,vT,o3,e7,ho2⟩:=hf.1.idx (c:=ec) N (show i<en by omega);have hxi:(fF xs)[i]?=D (B xs[i]):=jR _<|av N;have hS0:=G;have G:=G.base;refine eU ?_;refine PU.of ei<|bG ?_;refine ME.ld (H:=hN H2) (hcl 4 _ N hc4) ?_;simp only[gN G.wf];refine PU.of e2<|ME.ld (H:=hN H2) (vT 0 _ N (by rw[dz,dH];exact hxi)) ?_;simp only[gN G.wf];refine aO.mono (ams (SH:=Ot SH H.next<|La rt rz rb [vi kz,vi at',ve,.string t,sv] (lg ra rl rc na cs nc ta n tc (p+1) 0 nM) gb) (H:=hN H2) WG) ?_;rintro v H3 ⟨⟨bh,rfl⟩,rfl⟩;simp only[gN G.wf,PP];refine G.PL O O O N λH4 ry G hc1=>?_;have hSA:=G;refine hgb.FM (G.perm<|(aG (l₁:=[_,_,_])).cons _) N O O (by rw[aK];omega) λv' H5 gQ hgb' G hx5 Nj hc2=>?_;have G:=G.perm<|aG (l₂:=[_,_,_]);simp only[bI,bN]at G;have hty:=hS0.GX (ty:=3) (by simp[hgb.all])
 have hno:r∉((La rt rz rb [vi kz,vi at',ve,.string t,sv] (lg ra rl rc na cs nc ta n tc (p+1) 0 nM) gb:C dL).map (·.1)):=by
  have:=hf5.2 r o0 e6 N;exact this.1.2
 have amt:r2∉((La rt rz rb [vi kz,vi at',ve,.string t,sv] (lg ra rl rc na cs nc ta n tc (p+1) 0 nM) gb:C dL).map (·.1)):=λh=>hty r2 h (hf.2 r2 o3 e7 N).2.2
 have rd:∀{r o v},r<H2.next->r∉((La rt rz rb [vi kz,vi at',ve,.string t,sv] (lg ra rl rc na cs nc ta n tc (p+1) 0 nM) gb:C dL).map (·.1))->H2.cell r o=D v->nG v v=f->∀w:Cl,w=⟨2,0,0,0,hM H2 H4,H5⟩->mY w ⟨4,r,o,1,hh0,hh0⟩=f:=λ{r o v} y hn hc hs w hw=>by
  subst hw;have e1:=hSA.ext.obj r y hn;have e2:=Nj r (aR y hSA.ext.next) λh=>hn (by simp only[iC,bP];exact .inr<|.inr<|.inr h);exact ze ((rJ e1 o 1).trans<|QO hc) ((rJ (e2.trans e1) o 1).trans<|QO hc) (xH λhr hy=>by rw[aP]at hy;subst hy;exact hs)
 have r1:=rd hr2 amt (vT 0 _ N (by rw[dz,dH];exact hxi))<|sH _ _;have⟨xa,xn,xc,zs,ex5,_,_,_,hsp⟩:=id WG;have r2':=rd y hno (hcl 4 _ N hc4) (by rw[ex5];exact oF _ _ _ hsp)
 have rb':∀{o v},(o=2/\v=I ta n tc\/o=3/\v=B (p+1))->∀w:Cl,w=⟨2,0,0,0,hM H2 H4,H5⟩->mY w ⟨4,rb,o,1,hh0,hh0⟩=f:=λ{o v} ho w hw=>by
  subst hw;have b2:Bk H5 rb 32 _:=(G.get 2 O).jb O;refine pP (hSA.get 3 O) b2 (by show o+1<=6;omega) λhr hy=>?_;rcases ho with⟨rfl,rfl⟩|⟨rfl,rfl⟩
  .have hy:hr∈[I ta n tc]:=hy;rw[aP]at hy;subst hy;exact oF _ _ _ λz hz=>by rw[e6]at hz;cases hz;rfl
  .have hy:hr∈[B (p+1)]:=hy;rw[aP]at hy;subst hy;exact sH _ _
 refine(show∀K:Prop,K->_/\K fromλKz hK=>?_) _ ?_
 .simp only[hc1,d_,fP<|Ext.refl<|hN _];rcases hc2 with e|e<;>rw[e]<;>apply C_ (H':=λw=>w=⟨2,0,0,0,hM H2 H4,H5⟩) jr jr hK<;>repeat' apply ik
  all_goals first|exact trivial|(intro h;cases h;done)|exactλ_=>rfl|exactλ_=>r1|exactλ_=>r2'|exactλ_=>rb' (.inl ⟨rfl,rfl⟩)|exactλ_=>rb'<|.inr ⟨rfl,rfl⟩
 have hf:=hf.stay G.ext λq hq=>.inr<|hty q hq;have hg:=hg.turn G;have G:=hS0.over G;exact PU.of (jC 1 O N)<|⟨m-1,N,_,_,_,_,O,i+1,bs++[!bh],gQ,O,by rw[show bools (bs++[!bh])=bools bs++[.bool !bh]from dA];exact hgb',by simp;omega,N,G,hg,hf⟩
end
section
variable{SH:Nat->Prop}
theorem akH(hd:d<=40)(ih:d<40->Yop 106 n (d+1) 0):Yop 165 n d 1:=by
 intro SH H g p m rl hw hg;have hbd:=hg.bd;have hpn:=hbd.2.1 O;obtain⟨ra,rc,rcs,na,nc,iK,ta,tc,nM,rfl,_⟩:=id hg;have G:=F.refl hw;refine ce [0,1,2,4,5,6,7,8,9,10,11,19]<|gK.vg λK hK=>?_;refine tl ?_;refine G.box O λH1 rb G=>?_;refine G.iX λH2 rz G=>?_;refine eU ?_;have⟨_,_,_,_,_,_,_,_,_,e,_,_,_,_,_,_,⟨_,_,M,e2,hf,hn,hrow⟩,_⟩:=hg.ex G.ext;cases e;cases e2;have⟨k,at',e',t,x,hk,_,hset,k1,k2,k3⟩:=hrow p hpn;obtain⟨sa,sn,sc,zs,rfl,_⟩:=id hset;refine hf.TM N hpn hk λq=>G.nI O O O λH3 rt G hx3=>?_;have G:F [] H H3 (La rt rz rb [vi k,vi at',vi e',.string t,I sa sn sc] (lg ra rl rc na m nc ta n tc p 0 nM) []):=G;have hb:=G.ext.next
 have hgo:=hg.own G;refine eU ?_
 have hp1:k≠0->p+1<n:=λh=>by
  have:p+1≠n:=λe=>h<|k3 e;omega
 have go:∀{b:Bool}{u},Bc u 20=.bool b->(b=f->k=1\/k=2)->gK Pg X (sub gT [1,1,0,1,0,1]) (kV (.agg ⟨lg ra rl rc na m nc ta n tc p 0 nM⟩) (B d) (pr rb) (pr rz) (vi 0) (pr rt) top top top top top (vi k) u H3) (sw 0<|t_ Pg X (sub gT [1,1,1]) K):=by
  intro b u hlk hb;refine tl ?_;rw[hlk,hK];cases b;rotate_left
  .refine eU ?_;refine YG.ret hgo G (i:=1) O O (az:=(·=p+1)) (R':=(p+1<=·)) (λq h=>N) (ax _) (λF' hF hg'=>YQ G.wf hg' (Gh mO)<|hp1 (by have:=hb O;omega)) λv g' c rg H4 hY y=>?_;refine rr ?_;exact y hY
  refine rV (λc=>?_) λ_=>?_
  .refine eU ?_;refine YG.ret hgo G (i:=1) O O (az:=(·=p+1)) (R':=(p+1<=·)) (λq h=>N) (ax _) (λF' hF hg'=>YQ G.wf hg' (Gh mO)<|hp1 N) λv g' c rg H4 hY y=>rr ?_;exact y hY
  refine aT (λc=>?_) λ_=>?_
  .refine eU ?_;refine YG.ret hgo G (i:=1) O O (az:=(·=p+1)) (R':=(p+1<=·)) (λq h=>N) (ax _) (λF' hF hg'=>YQ G.wf hg' (Gh mO)<|hp1 N) λv g' c rg H4 hY y=>rr ?_;exact y hY
  refine aT (λc=>?_) λ_=>?_
  .refine eU ?_;refine(F.refl G.wf).bS O O O N λH4 ry vJ=>?_;have hgo:=hgo.ex vJ.ext;have G:=G.call vJ.ext;refine eU ?_;refine YG.ret hgo G (i:=1) O O (az:=(·=p+1)) (R':=(p+1<=·)) (λq h=>N) (ax _) (λF' hF hg'=>YQ G.wf hg' (Gh mO)<|hp1 N) λv g' c rg H4 hY y=>rr ?_;exact y hY
  refine aT (λc=>?_) λ_=>?_
  .have hp:=hp1 N;have hS1:=G;have G:=G.base;apply G.pz;refine PU.of (jC 1 O N)<|G.jH λHn G=>?_;apply G.iI;have hgo:=(hgo.turn G).to (q:=p+1) ⟨N,λ_=>hp⟩ O;have G:=hS1.over G;refine aO.mono (AZ G.wf hgo hp) ?_;rintro v H5 ⟨⟨k5,rfl,_,_,k6⟩,E⟩;have hgo:=hgo.ex E;have G:=G.call E;refine wR (λc=>?_) λc=>?_
   .refine G.iI<|YG.acE (i:=1) hgo G O O (ax _) mO λg' rg H4 hY y=>?_;refine rr ?_;exact y hY
   refine eU ?_;have⟨_,_,_,_,_,_,_,_,_,e,_,_,_,_,_,_,⟨_,_,cs5,e5,hf5,_,acG⟩,_⟩:=id hgo;cases e;cases e5;have⟨r,o,ei,y,hcl,_⟩:=hf5.1.idx (c:=tc) N hp;have⟨_,Sq,e5',t5,x5,hk5,_,WG,_⟩:=acG (p+1) hp
   have hc4:cs5[(p+1)*5+4]?=D x5:=by
    have:=dW (λl=>l[4]?) hk5;simp only[mR]at this;simpa using this
   refine PU.of ei<|bG ?_;refine ME.ld (hcl 4 _ N hc4)<|aO.mono (ah5 G.wf WG) ?_;rintro v H6 ⟨hlist,E⟩;have hgo:=hgo.ex E;have G:=G.call E;obtain⟨ea,en,ec,xs,rfl,hfl,hen,hxl,hxs⟩:=hlist.fl
   exact yno hgo G hp (by
    have:p+1+1≠n:=λe=>by rw[k6 e]at c;exact absurd c mO
    omega) hfl hen hxl hxs
  have bad:∀{c:Int}{x9 jo iJ:Z}{u:Z->Z->Rs},c≠0->ME (vH (D 6) (pr rb) H3) λv T=>aO Pg X 105 [v,vi c] T λv_1 T=>ME (CW 6 (pr rz) v_1 T) λ_ T=>jL Pg [.cell 4 32,.tmp 5] (YR n (p+1<=·) SH H m rl) (.ret<|kV (.agg ⟨lg ra rl rc na m nc ta n tc p 0 nM⟩) (B d) (pr rb) (pr rz) (vi 0) (pr rt) top top x9 jo iJ (vi k) (u v_1 v) T):=by
   intro c x9 jo iJ u hc;refine G.iI<|YG.acE (i:=1) hgo G O O (ax _) hc λg' rg H4 hY y=>?_;refine rr ?_;exact y hY
  refine mF (λ_=>?_) λc=>?_
  .refine tl ?_;exact bad mO
  refine aT (λ_=>bad mO) λhd4=>?_;have hp:=hp1 N;have hS1:=G;have G:=G.base;apply G.pz;refine PU.of (jC 1 O N)<|G.jH λHn G=>?_;apply G.iI;refine PU.of (jC 1 O N) ?_;have hgo:=(hgo.turn G).to (q:=p+1) ⟨N,λ_=>hp⟩ O;have G:=hS1.over G;refine hgo.call G G.ext.next (λF' hF hg'=>ih N G.wf hg') λg' H4 k4 p4 m4 e4 hgo hm4 hk4 G hx4=>?_
  obtain⟨ra4,rc4,_,na4,nc4,_,ta4,tc4,at4,rfl,_⟩:=id hgo;have hb4:=hgo.bd;refine bG ?_;have hS1:=G;have G:=G.base;refine G.aeE λH5 r10 G hx5=>?_
  have fin:∀{b:Bool}{H6:R}{u:Rs},Bc u 140=.bool b->(b=f->e4=0)->(b=aC->e4=0->p4+1<n)->F [] H H6 ((r10,32,lg ra4 rl rc4 na4 m4 nc4 ta4 n tc4 p4 e4 at4)::La rt rz rb [vi k,vi at',vi e',.string t,I sa sn sc] (lg ra rl rc na m nc ta n tc (p+1) 0 nM) [])->YG n (Ot SH H.next<|(r10,32,lg ra4 rl rc4 na4 m4 nc4 ta4 n tc4 p4 e4 at4)::La rt rz rb [vi k,vi at',vi e',.string t,I sa sn sc] (lg ra rl rc na m nc ta n tc (p+1) 0 nM) []) H6 (.agg ⟨lg ra4 rl rc4 na4 m4 nc4 ta4 n tc4 p4 e4 at4⟩) p4 m4 rl e4->gK Pg X (sub gT [1,1,0,1,0,1,1,1,1,1,1,1,1,1,1,1,0,1,1,1,0,1]) (kV (.agg ⟨lg ra rl rc na m nc ta n tc p 0 nM⟩) (B d) (pr rb) (pr rz) (vi 0) (pr rt) top top top (pr r10) (B k4) (vi k) u H6) (t_ Pg X (sub gT [1,1,0,1,0,1,1,1,1,1,1,1,1,1,1,1,0,1,1,1,1])<|sw 0<|t_ Pg X (sub gT [1,1,1])<|jL Pg [.cell 4 32,.tmp 5]<|YR n (p+1<=·) SH H m rl):=by
   intro b H6 u hlk hb1 hb2 G hgo;refine tl ?_;rw[hlk];cases b;rotate_left
   .obtain rfl:=hb1 O;refine eU ?_;refine YG.acE (i:=2) hgo G O O hm4 mO λg' rg H4 hY y=>?_;refine rr ?_;exact y hY
   refine bG ?_;refine tl ?_;have hS1:=G;have G:=G.base;refine wS (λc4=>?_) λc4=>?_
   .have hp4:=hb2 O c4;apply G.pz;refine PU.of (jC 1 O N)<|G.jH λHn G=>?_;refine tm ?_;refine G.jH λHn G=>?_;have hgo:=(hgo.turn G).to (q:=p4+1) ⟨N,λ_=>hp4⟩ O;have G:=hS1.over G;refine rr ?_;exact G.rZ 2 O (ax 6)<|⟨⟨_,k4,p4+1,m4,e4,O,hgo.by λr _ h=>h.1,hm4,λh=>⟨(hk4 h).1,by have:=(hk4 h).2;omega⟩⟩,G.ext⟩
   .refine tm ?_;refine G.jH λHn G=>?_;have hgo:=hgo.turn G;have G:=hS1.over G;refine rr ?_;exact G.rZ 2 O (ax 6)<|⟨⟨_,k4,p4,m4,e4,O,hgo.by λr _ h=>h.1,hm4,λh=>absurd h c4⟩,G.ext⟩
  refine G.kL ?_;refine G.jH λHn G=>?_;refine eU ?_;have hgo:=hgo.turn G;have G:=hS1.over G;refine aT (λc4=>?_) λc4=>fin O (nofun) (λ_ h=>absurd h c4) G hgo;subst c4;have hp4:=hb4.2.1 O;refine eU ?_;refine aO.mono (AZ G.wf hgo hp4) ?_;rintro v H6 ⟨⟨k6,rfl,_,_,k7⟩,E⟩;have hgo:=hgo.ex E;have G:=G.call E;refine bG ?_
  exact fin O (λ_=>rfl) (λh _=>by
   have h:k6=9:=mg h;have:p4+1≠n:=λe=>by have:=k7 e;omega
   omega) G hgo
 exact aT (λc=>go (by rw[bL c];rfl) λ_=>.inl c) λc=>go (by rfl) λh=>.inr<|fM h
end
section
variable{SH:Nat->Prop}
abbrev Lz(rz rb:Nat)(gl:C Z)(gb:C dL):C dL:=(rz,32,[I Q 0 0,I Q 0 0,I Q 0 0,vi 0,vi 0,vi 0])::(rb,32,gl)::gb
def agH{ks:C Z}(hg:GB 3 1 v ks gb)(G:F [] H H1<|Lz rz rb gl gb):∃a m c,v=I a m c/\ks.length=m/\je (Ot SH H.next<|Lz rz rb gl []) 3 H1 a m 1 ks:=by
 have hp:=G.perm<|aG (l₁:=[_,_])
 have⟨a,m,c,e,hn,hf⟩:=hg.IA (SH:=Ot SH H.next<|Lz rz rb gl []) hp λe he=>⟨.inr<|hp.wQ<|dn _ he,λhm=>by
  rcases hg with⟨_,_,rfl⟩|⟨r,n,eB,_,_,rfl⟩
  .cases he
  .rw[aP]at he;subst he;simp only[iC,jF,bP,dX,iF]at hm;rcases hm with h|h
   .exact absurd h (G.nq 0 2 O O mO).symm
   .exact absurd h (G.nq 1 2 O O mO).symm⟩
 exact⟨a,m,c,e,N,hf⟩
def YG.less(hg:YG n (Ot SH H.next<|Lz rz rb gl gb) H1 g p m rl e):YG n (Ot SH H.next<|Lz rz rb gl []) H1 g p m rl e:=
 hg.by λr _ h=>⟨h.1,λhm=>h.2 (by simp only[iC,bP,jF,dX,iF]at hm|-;rcases hm with h|h<;>simp[h])⟩
theorem amu(ih:Yop 165 n d 1):Yop 137 n d 0:=by
 intro SH H g p m rl hw hg;have hbd:=hg.bd;have hpn:=hbd.2.1 O;obtain⟨ra0,rc0,_,na0,nc0,_,ta0,tc0,nM,rfl,_⟩:=id hg;have G:=F.refl hw;refine jS [0,1,2,4,5,6,7,8,9] ?_;refine G.box O λH1 rb G=>?_;refine G.iX λH2 rz G=>?_;refine NG 6 7 8 9 (ai:=λz x6 x7 x8 x9 T=>∃q aa e ks gb gl,GB 3 1 x6 (fF ks) gb/\ks.length<=20002/\m<=aa/\(e=0->n<=q+z/\p<=q/\ks.length<=q-p/\∀k∈ks,k<aa)/\F [] H T (Lz rz rb gl gb)/\YG n (Ot SH H.next<|Lz rz rb gl gb) T (.agg ⟨gl⟩) q aa rl e) ?_ (n-p) ⟨p,m,0,[],[],_,GB.nil _ _,bA _,ax _,λ_=>⟨N,ax _,bA _,nofun⟩,G,hg.own G⟩;clear hg G;rintro z x6 x7 x8 x9 u H3 ⟨q,aa,e,ks,gb,gl,hgb,hkl,hmN,he,G,hg⟩;have hqb:=hg.bd;have⟨ra,rc,rcs,na,nc,iK,ta,tc,O7,e1,_⟩:=id hg;cases e1;refine gK.vg λK hK=>?_
 have out:∀{H4:R}{x7 x8 x9:Z}{u:Rs},F [] H H4 (Lz rz rb (lg ra rl rc na aa nc ta n tc q e O7) gb)->YG n (Ot SH H.next<|Lz rz rb (lg ra rl rc na aa nc ta n tc q e O7) gb) H4 (.agg ⟨lg ra rl rc na aa nc ta n tc q e O7⟩) q aa rl e->gK Pg X (sub j_ [1,1,1]) (jV (.agg ⟨lg ra0 rl rc0 na0 m nc0 ta0 n tc0 p 0 nM⟩) (B d) (pr rb) (pr rz) (vi 0) x6 x7 x8 x9 u H4) (jL Pg [.cell 4 32,.tmp 5]<|YR n (p+0<=·) SH H m rl):=by
  intro H4 x7 x8 x9 u G hg;obtain⟨a,j,c,rfl,hj,hf⟩:=agH hgb G;rw[aK]at hj;subst hj;have hg:=hg.less;have G:F [] H H4 (Lz rz rb _ []):=G.sub<|eD [_,_] gb;refine aj5 (λc=>?_) λc=>?_
  .have hS1:=G;have G:=G.base;refine G.iI<|G.jH λHn G=>?_;have hg:=hg.turn G;have G:=hS1.over G;refine rr ?_;exact G.rZ 0 O (ax 6)<|⟨⟨_,0,q,aa,e,O,hg.by λr _ h=>h.1,hmN,λh=>absurd h c⟩,G.ext⟩
  subst c;refine eU ?_;refine YG.ret hg G (i:=0) O O (az:=(·=q)) (R':=(p+0<=·)) (λq' h=>by have:=(he O).2.1;omega) hmN (λF' hF hg'=>acF G.wf hg' ⟨1,a,ks,_,_,Q,0,0,0,rfl,hf.by hF,(he O).2.2.2,λh=>absurd h mO,N⟩) λv g' c rg H5 hY y=>?_;refine rr ?_;exact y hY
 refine abG (λc=>?_) λc=>?_
 .rw[hK];exact out G hg
 subst c;have hqn:=hqb.2.1 O;refine G.iI<|aO.mono (AZ G.wf hg hqn) ?_;rintro v H4 ⟨⟨k,rfl,k0,k1,k2⟩,E⟩;have hg:=hg.ex E;have G:=G.call E;refine bG ?_
 have body:k≠0->∀{x8 x9:Z}{u:Rs},gK Pg X (sub j_ [1,1,0,0,0,1,0,1,1]) (jV (.agg ⟨lg ra0 rl rc0 na0 m nc0 ta0 n tc0 p 0 nM⟩) (B d) (pr rb) (pr rz) (vi 0) x6 (vi k) x8 x9 u H4) (sw 1 K):=by
  intro hk x8 x9 u;refine tm ?_;refine hg.call G G.ext.next (λF' hF hg'=>ih G.wf hg') λg' H5 k5 q5 N5 e5 hg hN5 hk5 G _=>?_
  have ah8:=hg.bd;obtain⟨ra,rc,rcs,na,nc,iK,ta,tc,Sq,rfl,_⟩:=id hg;refine bG ?_;have hS1:=G;have G:=G.base;refine G.aeE λH6 r8 G hx5=>G.jH λHn G=>?_;apply G.iI;refine G.jH λHn G=>?_;refine eU ?_;have hg:=hg.turn G;have G:=hS1.over G;have G:F [] H Hn (Lz rz rb (lg ra rl rc na N5 nc ta n tc q5 e5 Sq) gb):=F.drop (A:=[_]) G;have hg:YG n (Ot SH H.next<|Lz rz rb (lg ra rl rc na N5 nc ta n tc q5 e5 Sq) gb) Hn _ q5 N5 rl e5:=hg.by λr _ h=>⟨h.1,λhm=>h.2<|bH _ hm⟩
  have app:∀{H6:R}{gl:C Z}{q1 N1 c:Nat}{e1:Int}{x8:Z}{u:Rs},N5<=N1->(e1=0->q<q1/\c<N1)->F [] H H6 (Lz rz rb gl gb)->YG n (Ot SH H.next<|Lz rz rb gl gb) H6 (.agg ⟨gl⟩) q1 N1 rl e1->gK Pg X (sub j_ [1,1,0,0,0,1,0,1,1,1,1,1]) (jV (.agg ⟨lg ra0 rl rc0 na0 m nc0 ta0 n tc0 p 0 nM⟩) (B d) (pr rb) (pr rz) (vi 0) x6 (vi k) x8 (B c) u H6) (sw 1 K):=by
   intro H6 gl q1 N1 c e1 x8 u hN1 W G hg;have⟨f1,f2,f3,f4⟩:=he O;have hb:=hg.bd;have hS1:=G;have G:=G.base;refine tl<|hgb.push (G.perm<|aG (l₁:=[_,_])) N O O O O O N (by rw[aK];omega) λw v' H7 gQ hgb' G=>?_;have G:=G.perm<|aG (l₂:=[_,_]);refine bG ?_;rw[hK];refine⟨z-1,N,_,_,_,_,_,_,O,q1,N1,e1,ks++[c],gQ,_,by rw[show fF (ks++[c])=fF ks++[B c]from dA];exact hgb',?_,N,λh=>?_,hS1.over G,hg.turn G⟩
   .rw[aQ];show ks.length+1<=_;omega
   have⟨g1,g2⟩:=W h;refine⟨N,N,by rw[aQ];show ks.length+1<=_;omega,λj hj=>?_⟩;rcases bZ.1 hj with h|h
   .have:=f4 j h;omega
   .rw[aP.1 h];exact g2
  have no:∀{H6:R}{x8:Z}{u:Rs},Bc u 52=.bool aC->F [] H H6 (Lz rz rb (lg ra rl rc na N5 nc ta n tc q5 e5 Sq) gb)->YG n (Ot SH H.next<|Lz rz rb (lg ra rl rc na N5 nc ta n tc q5 e5 Sq) gb) H6 (.agg ⟨lg ra rl rc na N5 nc ta n tc q5 e5 Sq⟩) q5 N5 rl e5->gK Pg X (sub j_ [1,1,0,0,0,1,0,1,1,1,1,0,1]) (jV (.agg ⟨lg ra0 rl rc0 na0 m nc0 ta0 n tc0 p 0 nM⟩) (B d) (pr rb) (pr rz) (vi 0) x6 (vi k) x8 (B k5) u H6) (t_ Pg X (sub j_ [1,1,0,0,0,1,0,1,1,1,1,1])<|sw 1 K):=by
   intro H6 x8 u hlk G hg;refine tl ?_;rw[hlk];refine bG ?_;exact app (ax _) (λh=>⟨(hk5 h).2,(hk5 h).1⟩) G hg
  refine aT (λc5=>?_) λ_=>no O G hg;subst c5;have hq5:=ah8.2.1 O;refine G.iI<|aO.mono (AZ G.wf hg hq5) ?_;rintro v H7 ⟨⟨k6,rfl,_,_,k7⟩,E⟩;have hg:=hg.ex E;have G:=G.call E;refine bG ?_;refine aT (λc1=>?_) λ_=>no O G hg;refine G.iI<|aO.mono (AZ G.wf hg hq5) ?_;rintro v H8 ⟨⟨k8,rfl,_⟩,E⟩;have hg:=hg.ex E;have G:=G.call E;refine bG ?_
  by_cases c2:k8<=12
  rotate_left
  .exact no (by rw[dB c2];rfl) G hg
  rw[bL c2]
  have hq1:q5+1<n:=by
   have:q5+1≠n:=λe=>by have:=k7 e;omega
   omega
  refine tm ?_;refine aO.mono (AZ (nS H8) (show YG n _ (hN H8) _ q5 N5 rl 0 from hg) hq5) ?_;rintro v H9 ⟨⟨k9,rfl,k10,k11,_⟩,NN⟩;have hg:=hg.ex (T:=hM H8 H9) NN.draw;have G:=G.nH NN;rw[pg N N];refine bG ?_;have hS1:=G;have G:=G.base;refine G.PL O O O N λDq ry G hc1=>?_;have hg:=hg.turn G;have hg:YG n (Ot SH H.next<|Lz rz rb (lg ra rl rc na N5 nc ta n tc q5 0 Sq) gb) _ _ q5 N5 rl 0:=hg.by λr _ h=>⟨h.1,λhm=>h.2<|bH _ hm⟩
  have hS1:=hS1.over G
  have hry:Ot SH H.next (Lz rz rb (lg ra rl rc na N5 nc ta n tc q5 0 Sq) gb) ry:=⟨.inr<|hS1.wQ<|aN ..,λhm=>by
   have⟨e,he,e2⟩:=bQ.1 hm;exact F.apart (A:=[(ry,3,bK<|B k5)]) hS1 (aP.2 O) he e2.symm⟩
  have hk:=(hS1.get 0 O).Sj (n:=1) (es:=1) (hS1.lo _<|aN ..).2 O hry;have G:=F.drop (A:=[_]) hS1;refine hg.akG G G.ext.next (λF' hF hg'=>YQ (nS _) hg' ⟨k9-8,D ⟨ry,0,Q⟩,[k5],1,⟨#[]⟩,Q,0,0,0,rfl,(show je _ 3 (hN<|hM (hM H8 H9) Dq) _ 1 1 (fF [k5])from hk).by hF,λj hj=>by rw[aP.1 hj];exact(hk5 O).1,(nofun),(show 1<=20003 by decide)⟩ hq1) λg' Sn k12 q12 N12 e12 hg amv TB G Vw=>?_
  obtain⟨_,_,_,_,_,_,_,_,_,rfl,_⟩:=id hg;have hS1:=G;have G:=G.base;refine G.kL ?_;refine G.mh λHn G=>(show∀K:Prop,K->_/\K fromλKz hK=>?_) _ ?_
  .simp only[d_,fK,fP NN,hc1,Vw];apply EL (a:=rb) xN jr jr hK
  exact app amv (λh=>⟨by have:=(TB h).2;have:=(hk5 O).2;omega,(TB h).1⟩) (hS1.over G)<|hg.turn G
 have exit:∀{x8 x9 u},K (.exit 0<|jV (.agg ⟨lg ra0 rl rc0 na0 m nc0 ta0 n tc0 p 0 nM⟩) (B d) (pr rb) (pr rz) (vi 0) x6 (vi k) x8 x9 u H4):=by
  intro x8 x9 u;rw[hK];exact out G hg
 refine aT (λc1=>exit) λc1=>?_;refine aT (λc2=>?_) λc2=>body N;refine dN (λc3=>?_) λc3=>body N;refine dN (λc4=>?_) λc4=>body N;exact dN (λc5=>exit) λc5=>body N
end
section
variable{SH:Nat->Prop}
theorem acH(ih:Yop 137 n d 0):Yop 106 n d 0:=by
 intro SH H g p m rl hw hg;have hbd:=hg.bd;have hpn:=hbd.2.1 O;obtain⟨ra0,rc0,_,na0,nc0,_,ta0,tc0,nM,rfl,_⟩:=id hg;have G:=F.refl hw;refine jS [0,1,2,4,5,6,7,8] ?_;refine G.box O λH1 rb G=>?_;refine G.iX λH2 rz G=>?_
 have out:∀{H4:R}{q aa:Nat}{e:Int}{ks:C Nat}{gb:C dL}{gl:C Z}{x6 x7 x8:Z}{u:Rs},GB 3 1 x6 (fF ks) gb->0<ks.length/\ks.length<=20003->m<=aa->(e=0->p<=q/\∀k∈ks,k<aa)->F [] H H4 (Lz rz rb gl gb)->YG n (Ot SH H.next<|Lz rz rb gl gb) H4 (.agg ⟨gl⟩) q aa rl e->gK Pg X (sub mG [1,1,1]) (pV (.agg ⟨lg ra0 rl rc0 na0 m nc0 ta0 n tc0 p 0 nM⟩) (B d) (pr rb) (pr rz) (vi 0) x6 x7 x8 u H4) (jL Pg [.cell 4 32,.tmp 5]<|YR n (p+0<=·) SH H m rl):=by
  intro H4 q aa e ks gb gl x6 x7 x8 u hgb hk0 hmN he G hg;obtain⟨a,j,c,rfl,hj,hf⟩:=agH hgb G;rw[aK]at hj;subst hj;have hg:=hg.less;have G:F [] H H4 (Lz rz rb _ []):=G.sub<|eD [_,_] gb;have⟨ra,rc,_,na,nc,_,ta,tc,O7,e1,_⟩:=id hg;cases e1
  have one:∀{b:Bool}{u:Rs},Bc u 42=.bool b->(b=aC->e=0)->gK Pg X (sub mG [1,1,1,0,1]) (pV (.agg ⟨lg ra0 rl rc0 na0 m nc0 ta0 n tc0 p 0 nM⟩) (B d) (pr rb) (pr rz) (vi 0) (I a ks.length c) x7 x8 u H4) (t_ Pg X (sub mG [1,1,1,1])<|jL Pg [.cell 4 32,.tmp 5]<|YR n (p+0<=·) SH H m rl):=by
   intro b u hlk hb;refine tl ?_;rw[hlk];cases b
   .have hb:=hb O;subst hb;refine bG ?_;refine tm ?_;refine YG.ret hg G (i:=0) O O (az:=(·=q)) (R':=(p+0<=·)) (λq' h=>by have:=(he O).1;omega) hmN (λF' hF hg'=>acF G.wf hg' ⟨0,a,ks,c,_,Q,0,0,0,rfl,hf.by hF,(he O).2,λh=>absurd h mO,hk0.2⟩) λv g' c rg H5 hY y=>?_;refine rr ?_;exact y hY
   have⟨r,o,e1,y,hcl,o0,e6,ho⟩:=hf.1.idx (c:=c) N hk0.1;have hk:=hk0.1;have hF:=hf.2 r o0 e6 hk0.1;have n1:rz≠r:=λe=>hF.1.2<|e▸aN ..
   have n2:r≠rb:=λe=>hF.1.2<|e▸bH _ (aN ..);have n3:=G.nq 0 1 O O N;have hS1:=G;have G:=G.base;refine eU ?_;refine PU.of e1<|ME.ld (H:=hN H4) (hcl 0 _ N<|jR _<|av hk0.1) ?_;refine G.kL ?_;refine G.mh λHn G=>?_;refine(show∀K:Prop,K->_/\K fromλKz hK=>?_) _ ?_
   .simp only[d_,fK];apply xG (a:=rz) (b:=r) (c:=rb) n1 n3 n2 xN jr jr hK
   have hg:=hg.turn G;have G:=hS1.over G;refine rr ?_;refine G.rZ 0 O (ax 6) ?_;exact⟨⟨_,ks[0],q,aa,e,O,hg.by λr _ h=>h.1,hmN,λh=>⟨(he h).2 _<|bB _,(he h).1⟩⟩,G.ext⟩
  refine tm ?_;exact dN (λ_=>one O nofun) λh=>one O λ_=>h
 refine FY 6 7 8 (ai:=λz x6 x7 x8 T=>∃q aa ks gb gl,GB 3 1 x6 (fF ks) gb/\m<=aa/\n<=q+z/\p<=q/\ks.length<=q-p/\(∀k∈ks,k<aa)/\F [] H T (Lz rz rb gl gb)/\YG n (Ot SH H.next<|Lz rz rb gl gb) T (.agg ⟨gl⟩) q aa rl 0) ?_ (n-p) ⟨p,m,[],[],_,GB.nil _ _,ax _,N,ax _,bA _,(nofun),G,hg.own G⟩;clear hg G;rintro z x6 x7 x8 u H3 ⟨q,aa,ks,gb,gl,hgb,hmN,hqz,hpq,hkl,hks,G,hg⟩;have hqb:=hg.bd;have hqn:=hqb.2.1 O;have⟨ra,rc,rcs,na,nc,iK,ta,tc,O7,e1,_⟩:=id hg;cases e1;refine tm ?_;refine aT (λ_=>?_) λc=>absurd trivial c;apply G.iI;refine hg.call G G.ext.next (λF' hF hg'=>ih G.wf hg') λg' H5 k5 q5 N5 e5 hg hN5 hk5 G _=>?_
 have ah8:=hg.bd;obtain⟨ra,rc,rcs,na,nc,iK,ta,tc,Sq,rfl,_⟩:=id hg;refine bG ?_;have hS1:=G;have G:=G.base;refine G.aeE λH6 r8 G hx5=>G.jH λHn G=>?_;apply G.iI;refine G.jH λHn G=>?_;have hg:=hg.turn G;have G:=hS1.over G;have G:F [] H Hn (Lz rz rb (lg ra rl rc na N5 nc ta n tc q5 e5 Sq) gb):=F.drop (A:=[_]) G;have hg:YG n (Ot SH H.next<|Lz rz rb (lg ra rl rc na N5 nc ta n tc q5 e5 Sq) gb) Hn _ q5 N5 rl e5:=hg.by λr _ h=>⟨h.1,λhm=>h.2<|bH _ hm⟩
 have hS1:=G;have G:=G.base;refine hgb.push (G.perm<|aG (l₁:=[_,_])) N O O O O O N (by rw[aK];omega) λw v' H7 gQ hgb' G=>?_;have G:=G.perm<|aG (l₂:=[_,_]);have hgb':GB 3 1 v' (fF<|ks++[k5]) gQ:=by rw[show fF (ks++[k5])=fF ks++[B k5]from dA];exact hgb'
 have hg:=hg.turn G;have G:F [] H H7 (Lz rz rb (lg ra rl rc na N5 nc ta n tc q5 e5 Sq) gQ):=hS1.over G;have hkl':(ks++[k5]).length=ks.length+1:=by rw[aQ];rfl
 have Yn:e5=0->∀k∈ks++[k5],k<N5:=λh j hj=>by
  rcases bZ.1 hj with W|W
  .have:=hks j W;omega
  .rw[aP.1 W];exact(hk5 h).1
 refine eU ?_;refine dN (λc=>out hgb' N N (λh=>absurd h c) G hg) λc5=>?_;subst c5;have hq5:=(hk5 O).2;have hn5:=ah8.2.1 O;refine G.iI<|aO.mono (AZ G.wf hg hn5) ?_;rintro v H8 ⟨⟨k,rfl,_,_,k7⟩,E⟩;have hg:=hg.ex E;have G:=G.call E;refine bG ?_;refine dN (λ_=>out hgb' N N (λ_=>⟨N,Yn O⟩) G hg) λc6=>?_
 have hp1:q5+1<n:=by
  have:q5+1≠n:=λe=>by have:=k7 e;omega
  omega
 refine tl ?_;have hS1:=G;have G:=G.base;refine eU ?_;refine PU.of (jC 1 O N) ?_;refine G.jH λHn G=>?_;have hg:=(hg.turn G).to (q:=q5+1) ⟨N,λ_=>hp1⟩ O;have G:=hS1.over G;exact⟨z-1,N,_,_,_,_,_,O,q5+1,N5,ks++[k5],gQ,_,hgb',N,N,N,N,Yn O,G,hg⟩
def amw:∀z d,41<=d+z->d<=41->(d<=40->Yop 106 n d 0):=by
 intro z
 induction z with
 |zero=>intro d W J h3;omega
 |succ z ih=>exactλd W J h3=>acH<|amu<|akH h3 λh4=>ih (d+1) N N N
end
section
variable{SH:Nat->Prop}{rg ay w:Bool}{at':Int}
abbrev Lr(rz r3 rb:Nat)(l gl:C Z):C dL:=[(rz,32,[I Q 0 0,I Q 0 0,I Q 0 0,vi 0,vi 0,vi 0]),(r3,194,l),(rb,32,gl)]
abbrev lr(t:aV)(rg ay w:Bool)(ch:Int)(k:Nat)(at':Int):C Z:=[.string t,.bool rg,.bool ay,.bool w,vi ch,B k,vi at']
def RT(n:Nat)(SH:Nat->Prop)(p:Nat)(v:Z)(T:R):Prop:=∃(ra:aB Addr)(rl rc:Nat)(na:aB Addr)(m nc:Nat)(ta:aB Addr)(tc p':Nat)(e at':Int),v=.agg ⟨lg ra rl rc na m nc ta n tc p' e at'⟩/\(e=0->p<p'/\YG n SH T v p' m rl e)
abbrev RK(n:Nat)(SH:Nat->Prop)(H:R)(p:Nat):=jL Pg [.cell 2 32]<|Q1 (RT n (Nw SH H.next) p) H
theorem akI(G:F [] H H1<|Lr rz r3 rb (lr t rg ay w ch k at') gl)(hg:YG n (Ot SH H.next<|Lr rz r3 rb (lr t rg ay w ch k at') gl) H1 (.agg ⟨gl⟩) p m rl e)(hp:e=0->p0<=p/\p+1<n/\k<m)(hl:rl<120):gK Pg X (sub fA [1,1,1,1,1,1,1,1,1,1,1,1,1,1]) (fG x0 (pr rb) (pr rz) (pr r3) x4 x5 x6 u H1) (RK n SH H p0):=by
 have hbd:=hg.bd;have⟨ra,rc,rcs,na,nc,iK,ta,tc,nM,e1,J,h3,h4,h5,h6,h7,h8,h9⟩:=id hg;cases e1;refine tl ?_;have hS1:=G;have G:=G.base;refine eU ?_;refine PU.of (jC 1 O N)<|G.jH λHn G=>?_;have hg:=hg.turn G;have G:=hS1.over G;have⟨ra,rc,rcs,na,nc,iK,ta,tc,nM,e1,J,h3,h4,h5,h6,h7,h8,h9⟩:=id hg;cases e1;have hS1:=G;have G:=G.base;refine G.ah3 λH4 a G hc1=>?_;refine eU ?_;refine G.ah4 (n:=rl) (xs:=rcs) (yj (show Fl (hN<|hM Hn H4) ra rl 7 rcs from((J.stay G.ext λq hq=>.inl λh=>h.2 hq).1:Fl (hN<|hM Hn H4) ra rl 7 rcs)) N) J.1.1 N λv2 H5 g2 hg2 G hc2=>?_;have G:=G.perm<|aG (l₂:=[_,_,_]);simp only[bI,bN]at G;refine eU ?_;refine G.PL O O O N λH6 ry G hc3=>?_;have G:=G.perm (L':=(ry,194,lr t rg ay w ch k at')::(g2++Lr rz r3 rb (lr t rg ay w ch k at') (lg ra rl rc na m nc ta n tc (p+1) e nM)))<|(aG (l₁:=[_,_,_]) (l₂:=g2)).cons _;refine hg2.acB G N O O (by rw[J.1.1];omega) λv3 H7 g3 hg3 G hc4=>?_;have G:=G.perm<|aG (l₂:=[_,_,_]);simp only[bI,bN]at G;obtain⟨va,vl,vc,rfl⟩:=hg3.sl
 have hvl:vl=rl+1:=by
  have⟨_,_,_,e,h,_⟩:=hg3.IA (SH:=TT) (G.perm<|aG (l₁:=[_,_,_])) λ_ _=>trivial;cases e;rw[aQ,J.1.1]at h;simp at h;omega
 subst hvl;have n1:=G.nq 1 2 O O N;refine G.mh λHn G=>?_;refine splitK (λK hK=>?_) ?_
 .simp only[hc1,hc2,hc3,d_,fK];rcases hc4 with e|e<;>rw[e]<;>apply lQ (a:=r3) (b:=rb) n1 xN jr jr hK
 refine G.iI<|G.jH λHn G=>?_;have E:=G.ext;have Rp:=hS1.over G;have⟨_,_,_,e1,_,hf⟩:=hg3.IA (SH:=Nw SH H.next) (Rp.perm<|aG (l₁:=[_,_,_])) λe he=>.inr<|Rp.wQ<|cZ [_,_,_] he;cases e1;have hE:=BX (es:=7) (n:=rl) J.1.1 (xs:=lr t rg ay w ch k at') O;have nw:∀{T:R} r,r<T.next->Ot SH H.next (Lr rz r3 rb (lr t rg ay w ch k at')<|lg ra rl rc na m nc ta n tc (p+1) e nM) r->Nw SH H.next r:=λr _ h=>h.1
 have no:∀q∈(Lr rz r3 rb (lr t rg ay w ch k at')<|lg ra rl rc na m nc ta n tc (p+1) e nM).map (·.1),¬Ot SH H.next (Lr rz r3 rb (lr t rg ay w ch k at')<|lg ra rl rc na m nc ta n tc (p+1) e nM) q:=λq hq h=>h.2 hq
 refine rr ?_;refine Rp.rZ 0 O (ax 6)<|⟨⟨va,rl+1,vc,na,m,nc,ta,tc,p+1,e,nM,O,λhe=>?_⟩,Rp.ext⟩;have⟨p1,p2,p3⟩:=hp he;refine⟨N,va,vc,_,na,nc,iK,ta,tc,nM,O,hf,λ_ i hi=>?_,N,(h5.stay E λq hq=>.inl<|no q hq).by nw,λi hi=>((h6 i hi).st E no).by nw,h7,(h8.st E no).by nw,N,λ_=>p2⟩;rcases cr i rl with h|h
 .rw[show El (rcs++_) 7 i=_ from hE.1 i h];exact h3 he i h
 .obtain rfl:i=rl:=N;rw[show El (rcs++_) 7 i=_ from hE.2];exact⟨t,rg,ay,w,ch,at',k,O,p3⟩
def RT.bad{Kp:Z->Z->R->Prop}(hg:YG n (Ot SH H0.next L) H g p m rl 0)(G:F [] H0 H L)(hi:L[i]?=D (rz,32,M))(hl:M.length=6)(hc:c≠0)(kk:∀g' rg H3,(∀{p0},Q1 (RT n (Nw SH H0.next) p0) H0 g' H3)->(∀{au:Z->R->Prop},au g' H3->ME (vH (D 6) (.pointer<|D ⟨rz,0,Q⟩) H3) au)->Kp g' rg H3):aO Pg X 105 [g,vi c] H λv H1=>ME (CW 6 (.pointer<|D ⟨rz,0,Q⟩) v H1) λrg H2=>Kp v rg H2:=by
 refine YG.acE hg G hi hl (ax m) hc λg' rg H3 hY y=>kk g' rg H3 ?_ y;obtain⟨⟨g2,k,p',m',e,W,J,h3,h4⟩,E⟩:=hY (az:=λ_=>False);cases W;obtain⟨ra,rc,rcs,na,nc,iK,ta,tc,nM,e1,_⟩:=id J;exact⟨⟨ra,rl,rc,na,m',nc,ta,tc,p',e,nM,e1,λh=>(h4 h).2.elim⟩,E⟩
def akJ(G:F [] H H1<|Lr rz r3 rb (lr t rg ay w ch k at') gl)(hg:YG n (Ot SH H.next<|Lr rz r3 rb (lr t rg ay w ch k at') gl) H1 (.agg ⟨gl⟩) p m rl e)(hp:e=0->p0<=p/\k<m)(hl:rl<120):gK Pg X (sub fA [1,1,1,1,1,1,1,1,1,1,1,1,1]) (fG x0 (pr rb) (pr rz) (pr r3) x4 x5 x6 u H1) (RK n SH H p0):=by
 have hbd:=hg.bd;have⟨ra,rc,rcs,na,nc,iK,ta,tc,nM,e1,_⟩:=id hg;cases e1;refine tm ?_;refine aT (λc=>?_) λc=>akI G hg (λh=>absurd h c) hl;subst c;refine eU ?_;refine aO.mono (AZ G.wf hg<|hbd.2.1 O) ?_;rintro v H4 ⟨⟨k4,rfl,_,_,k5⟩,E⟩;have hg:=hg.ex E;have G:=G.call E;refine wR (λ_=>?_) λc=>?_
 .refine G.iI<|RT.bad hg G (i:=0) O O mO λg' rg H5 hY y=>?_;refine rr ?_;exact y hY
 .exact akI G hg (λh=>⟨(hp h).1,by
   have:p+1≠n:=λe=>by have:=k5 e;omega
   have:=hbd.2.1 O;omega,(hp h).2⟩) hl
theorem akK{b:Bool}(G:F [] H H1<|Lr rz r3 rb (lr t rg ay w ch k at') gl)(hg:YG n (Ot SH H.next<|Lr rz r3 rb (lr t rg ay w ch k at') gl) H1 (.agg ⟨gl⟩) p m rl e)(hp:e=0->p0<=p/\k<m)(hb:b=f->e=0/\p+1<n)(hl:rl<120)(hk:Bc u 123=.bool b):
 gK Pg X (sub fA [1,1,1,1,1,1,1,1,1,1,1,1,0,1]) (fG x0 (pr rb) (pr rz) (pr r3) x4 x5 x6 u H1) (t_ Pg X (sub fA [1,1,1,1,1,1,1,1,1,1,1,1,1])<|RK n SH H p0):=by
 have hbd:=hg.bd;have⟨ra,rc,rcs,na,nc,iK,ta,tc,nM,e1,_⟩:=id hg;cases e1;refine gK.vg λK hK=>tl ?_;rw[hk];cases b
 .refine bG ?_;rw[hK];refine bG ?_;exact akJ G hg hp hl
 obtain⟨rfl,hp1⟩:=hb O;have hS1:=G;have G:=G.base;refine eU ?_;refine PU.of (jC 1 O N)<|G.jH λHn G=>?_;refine eU ?_;have hg:=(hg.turn G).to (q:=p+1) ⟨N,λ_=>hp1⟩ O;have G:=hS1.over G;have⟨_,_,_,_,_,_,_,_,_,e1,_,_,_,_,_,_,⟨_,_,M,e2,hf,hn,hrow⟩,_⟩:=id hg;cases e1;cases e2;have⟨k5,Sq,e5,t',x,hk5,_,hset,_,_,k6⟩:=hrow (p+1) hp1;obtain⟨sa,sn,sc,zs,rfl,_⟩:=id hset;refine hf.TM N hp1 hk5 λq=>?_;have hS1:=G;have G:=G.base;refine G.nI O O O λH3 rt G hx3=>?_;refine eU ?_;have hSs:F [] H H3 ((rt,186,[vi k5,vi Sq,vi e5,.string t',I sa sn sc])::Lr rz r3 rb (lr t rg ay w ch k at') (lg ra rl rc na m nc ta n tc (p+1) 0 nM)):=hS1.over G;have hgs:=hg.turn G
 have go:∀{u:Rs},(k5=1\/k5=2)->gK Pg X (sub fA [1,1,1,1,1,1,1,1,1,1,1,1,0,1,0,1,1,1]) (fG x0 (pr rb) (pr rz) (pr r3) x4 (pr rt) x6 u H3) K:=by
  intro u h5
  have hp2:p+2<n:=by
   have:p+1+1≠n:=λe=>by have:=k6 e;omega
   omega
  refine aj6 (λ_=>?_) λ_=>?_
  .have n1:=G.nq 2 3 O O N;refine eU ?_;refine G.mh λHn G=>?_;refine G.mh λHn G=>?_;refine splitK (λK hK=>?_) ?_
   .simp only[d_,fK];apply lQ (a:=r3) (b:=rb) n1 xN jr jr hK
   have G:=hS1.over G;refine G.iI<|G.jH λHn G=>?_;rw[hK];refine rr ?_;exact G.rZ 1 O (ax 6)<|⟨⟨_,_,_,_,_,_,_,_,_,18,_,O,λh=>absurd h mO⟩,G.ext⟩
  have on:∀{H4:R}{x6:Z}{u:Rs}{w:Bool}{ch:Int},F ((Lr rz r3 rb (lr t rg ay w ch k at')<|lg ra rl rc na m nc ta n tc (p+1) 0 nM).map (·.1)) Hn H4 ((rt,186,[vi k5,vi Sq,vi e5,.string t',I sa sn sc])::Lr rz r3 rb (lr t rg ay w ch k at') (lg ra rl rc na m nc ta n tc (p+1) 0 nM))->gK Pg X (sub fA [1,1,1,1,1,1,1,1,1,1,1,1,0,1,0,1,1,1,1,1]) (fG x0 (pr rb) (pr rz) (pr r3) x4 (pr rt) x6 u H4) K:=by
   intro H4 x6 u w ch G;refine tm ?_;refine PU.of (jC 1 O N)<|G.jH λHn G=>?_;have hg:=(hg.turn G).to (q:=p+2) ⟨N,λ_=>hp2⟩ O;have G:F [] H Hn (Lr rz r3 rb (lr t rg ay w ch k at')<|lg ra rl rc na m nc ta n tc (p+1+1) 0 nM):=F.drop (A:=[_])<|hS1.over G;rw[hK];exact akJ G (hg.by λr _ h=>⟨h.1,λhm=>h.2<|bH _ hm⟩) (λh=>⟨by have:=(hp h).1;omega,(hp h).2⟩) hl
  refine wS (λc1=>?_) λc1=>?_
  .exact G.jH λHn G=>on (w:=w) (ch:=2) G
  refine aT (λc2=>?_) λc2=>?_
  .exact G.jH λHn G=>on (w:=w) (ch:=1) G
  refine aT (λc3=>?_) λc3=>?_
  .exact G.jH λHn G=>on (w:=f) (ch:=ch) G
  have G:=hSs;refine G.iI<|RT.bad hgs G (i:=1) O O mO λg' rg H5 hY y=>?_;rw[hK];refine rr ?_;exact y hY
 refine dN (λc1=>?_) λc1=>go<|.inl c1;refine eU ?_;refine dN (λc2=>?_) λc2=>go<|.inr c2;have G:=hSs;refine G.iI<|RT.bad hgs G (i:=1) O O mO λg' rg H5 hY y=>?_;rw[hK];refine rr ?_;exact y hY
end
section
variable{SH:Nat->Prop}{rg ay w:Bool}{at':Int}
theorem amx(G:F [] H H1<|Lr rz r3 rb (lr t rg ay w ch 0 at') gl)(hg:YG n (Ot SH H.next<|Lr rz r3 rb (lr t rg ay w ch 0 at') gl) H1 (.agg ⟨gl⟩) p m rl 0)(hp:p0<=p/\p+1<n)(hl:rl<120):
 gK Pg X (sub fA [1,1,1,1,1,1,1,1]) (fG x0 (pr rb) (pr rz) (pr r3) x4 x5 x6 u H1) (RK n SH H p0):=by
 have hbd:=hg.bd;have⟨ra,rc,rcs,na,nc,iK,ta,tc,nM,e1,_⟩:=id hg;cases e1;refine tl ?_;have hS1:=G;have G:=G.base;refine eU ?_;refine PU.of (jC 1 O N)<|G.jH λHn G=>?_;apply G.iI;have hg:=(hg.turn G).to (q:=p+1) ⟨N,λ_=>hp.2⟩ O;have G:=hS1.over G;refine aO.mono (AZ G.wf hg hp.2) ?_;rintro v H4 ⟨⟨k4,rfl,_,_,k5⟩,E⟩;have hg:=hg.ex E;have G:=G.call E;refine wR (λc=>?_) λc=>?_
 .refine G.iI<|RT.bad hg G (i:=0) O O mO λg' rg H5 hY y=>?_;refine rr ?_;exact y hY
 have hp2:p+2<n:=by
  have:p+1+1≠n:=λe=>by have:=k5 e;omega
  omega
 have hS1:=G;have G:=G.base;apply G.pz;refine PU.of (jC 1 O N)<|G.jH λHn G=>?_;apply G.iI;have hg:=(hg.turn G).to (q:=p+2) ⟨N,λ_=>hp2⟩ O;have G:=hS1.over G;refine hg.call G G.ext.next (λF' hF hg'=>amw 41 0 N N N G.wf hg') λg' H5 k6 q6 N6 e6 hg hN6 T_ G _=>?_
 have hqb:=hg.bd;obtain⟨ra,rc,rcs,na,nc,iK,ta,tc,at6,rfl,_⟩:=id hg;refine bG ?_;have hS1:=G;have G:=G.base;refine G.jH λHn G=>?_;refine G.jH λHn G=>?_;refine eU ?_;have hg:=hg.turn G;have G:F [] H Hn (Lr rz r3 rb (lr t rg ay w ch k6 at')<|lg ra rl rc na N6 nc ta n tc q6 e6 at6):=hS1.over G;refine aT (λc6=>?_) λc6=>akK (b:=aC) G hg (λh=>absurd h c6) (nofun) hl O;subst c6;refine eU ?_;refine aO.mono (AZ G.wf hg<|hqb.2.1 O) ?_;rintro v H6 ⟨⟨k7,rfl,_,_,k8⟩,E⟩;have hg:=hg.ex E;have G:=G.call E;refine bG ?_
 exact akK G hg (λ_=>⟨by have:=(T_ O).2;omega,(T_ rfl).1⟩) (λh=>⟨rfl,by
  have h:=fM h;have:q6+1≠n:=λe=>by have:=k8 e;omega
  have:=hqb.2.1 O;omega⟩) hl rfl
theorem akL(G:F [] H H1<|Lr rz r3 rb (lr ⟨#[]⟩ aC ay aC 0 0 0) gl)(hg:YG n (Ot SH H.next<|Lr rz r3 rb (lr ⟨#[]⟩ aC ay aC 0 0 0) gl) H1 (.agg ⟨gl⟩) p m rl 0)(hp:p0<=p):
 gK Pg X (sub fA [1,1,1]) (fG x0 (pr rb) (pr rz) (pr r3) x4 x5 x6 u H1) (RK n SH H p0):=by
 have hbd:=hg.bd;have hpn:=hbd.2.1 O;have⟨ra,rc,_,na,nc,_,ta,tc,nM,e1,_,_,_,_,_,_,⟨_,_,M,e2,hfl,hn,hrow⟩,_⟩:=id hg;cases e1;cases e2;have⟨k,Rq,e',t',x,hk,_,hset,_,_,k2⟩:=hrow p hpn;obtain⟨sa,sn,sc,zs,rfl,_⟩:=id hset;refine tm ?_;refine hfl.TM N hpn hk λq=>?_;have hS1:=G;have G:=G.base;refine G.nI O O O λH3 rt G hx3=>?_;refine eU ?_
 have bad:∀{H5:R}{c:Int}{l:C Z}{x5 x6:Z}{u:Z->Z->Rs},c≠0->F [] H H5 ((rt,186,[vi k,vi Rq,vi e',.string t',I sa sn sc])::Lr rz r3 rb l (lg ra rl rc na m nc ta n tc p 0 nM))->YG n (Ot SH H.next<|(rt,186,[vi k,vi Rq,vi e',.string t',I sa sn sc])::Lr rz r3 rb l (lg ra rl rc na m nc ta n tc p 0 nM)) H5 (.agg ⟨lg ra rl rc na m nc ta n tc p 0 nM⟩) p m rl 0->ME (vH (D 6) (pr rb) H5) λv T=>aO Pg X 105 [v,vi c] T λv_1 T=>ME (CW 6 (pr rz) v_1 T) λ_ T=>RK n SH H p0 (.ret<|fG x0 (pr rb) (pr rz) (pr r3) (pr rt) x5 x6 (u v_1 v) T):=by
  intro H5 c l x5 x6 u hc G hg;refine G.iI<|RT.bad hg G (i:=1) O O hc λg' rg H5 hY y=>?_;refine rr ?_;exact y hY
 have hSs:=hS1.over G;have hgs:=hg.turn G
 have go:∀{u:Rs},(k=1\/k=2)->gK Pg X (sub fA [1,1,1,1,1]) (fG x0 (pr rb) (pr rz) (pr r3) (pr rt) x5 x6 u H3) (RK n SH H p0):=by
  intro u hk1
  have hp1:p+1<n:=by
   have:p+1≠n:=λe=>by have:=k2 e;omega
   omega
  refine tm ?_;refine aT (λ_=>bad mO hSs hgs) λhl=>?_;have n1:=G.nq 0 2 O O N;refine eU ?_;refine G.mh λHn G=>?_;refine G.mh λHn G=>?_;refine G.mh λHn G=>?_;refine splitK (λK hK=>?_) ?_
  .simp only[d_,fK];apply lQ (a:=rt) (b:=r3) n1 xN jr jr hK
  refine eU ?_;have hSt:=hS1.over G;have hgt:=hg.turn G;have hg:=hgt;have G:F [] H _ (Lr rz r3 rb (lr t' (decide<|k=1) ay aC 0 0 Rq)<|lg ra rl rc na m nc ta n tc p 0 nM):=F.drop (A:=[_]) hSt;have hg:YG n (Ot SH H.next<|Lr rz r3 rb (lr t' (decide<|k=1) ay aC 0 0 Rq)<|lg ra rl rc na m nc ta n tc p 0 nM) _ _ p m rl 0:=hg.by λr _ h=>⟨h.1,λhm=>h.2<|bH _ hm⟩
  have go:=λ{u:Rs}=>amx (x0:=x0) (x4:=pr rt) (x5:=x5) (x6:=x6) (u:=u) G hg ⟨hp,hp1⟩ N;cases ay
  .exact go
  .refine eU ?_;exact dN (λ_=>bad mO hSt hgt) λ_=>go
 refine dN (λc1=>?_) λc1=>go<|.inl c1;refine eU ?_;refine dN (λc2=>?_) λc2=>go<|.inr c2;exact bad mO hSs hgs
theorem akM(hw:Wf H)(hg:YG n SH H g p m rl 0):aO Pg X 72 [g] H (Q1 (RT n (Nw SH H.next) p) H):=by
 have hbd:=hg.bd;have hpn:=hbd.2.1 O;obtain⟨ra,rc,_,na,nc,_,ta,tc,nM,rfl,_,_,_,_,_,_,⟨_,_,M,e2,hfl,hn,hrow⟩,_⟩:=id hg;cases e2;have G:=F.refl hw;refine jS [0,1,2,3,4,5,153] ?_;refine G.box O λH1 rb G=>?_;refine G.iX λH2 rz G=>?_;refine eU ?_;refine G.nI O O O λH3 r3 G hx3=>?_;have G:F [] H H3 (Lr rz r3 rb (lr ⟨#[]⟩ aC aC aC 0 0 0)<|lg ra rl rc na m nc ta n tc p 0 nM):=G.perm<|.swap _ _ _
 have fr:∀{H4:R}{u:Rs}{b:Bool},Bc u 50=.bool b->(b=f->p+1<n)->F [] H H4 (Lr rz r3 rb (lr ⟨#[]⟩ aC aC aC 0 0 0)<|lg ra rl rc na m nc ta n tc p 0 nM)->gK Pg X (sub fA [1,1,0,1]) (fG (.agg ⟨lg ra rl rc na m nc ta n tc p 0 nM⟩) (pr rb) (pr rz) (pr r3) top top top u H4) (t_ Pg X (sub fA [1,1,1])<|RK n SH H p):=by
  intro H4 u b hk hb G;have hg:=hg.own G;refine tl ?_;rw[hk];cases b
  .refine G.kL ?_;exact akL G hg<|ax _
  .have hS1:=G;have G:=G.base;have hp:=hb O;refine G.kL ?_;refine G.jH λHn G=>?_;apply G.pz;exact PU.of (jC 1 O N)<|G.jH λHn G=>akL (hS1.over G) ((hg.turn G).to (q:=p+1) ⟨N,λ_=>hp⟩ O)<|iU _
 have⟨r,o,e1,y,hcl,_⟩:=hfl.1.idx (c:=tc) N hpn;have⟨k,Rq,e',t',x,hk,_,hset,_,_,k2⟩:=hrow p hpn
 have h3:M[p*5+3]?=D (.string t'):=by
  have:=dW (λl=>l[3]?) hk;simp only[mR]at this;simpa using this
 refine eU ?_;refine PU.of e1<|bG ?_;refine G.Be (hcl 3 _ N h3) y ?_;refine G.kL ?_;refine aT (λc1=>?_) λc1=>fr O (nofun) G;refine G.iI<|aO.mono (AZ G.wf (hg.own G) hpn) ?_;rintro v H4 ⟨⟨k4,rfl,_,_,k5⟩,E⟩;have G:=G.call E;refine bG ?_;refine aT (λc2=>?_) λc2=>fr O (nofun) G
 have hp:p+1<n:=by
  have:p+1≠n:=λe=>by have:=k5 e;omega
  omega
 apply G.pz;refine PU.of (jC 1 O N)<|eU ?_;refine aT (λ_=>?_) λc=>absurd (show((p+1:Nat):Int)<(n:Int) by omega) c;have⟨r5,o5,e5,hr5,YS,_⟩:=hfl.1.idx (c:=tc) N hp;have⟨k6,_,_,_,_,hk5,_⟩:=hrow (p+1) hp
 have h0:M[(p+1)*5+0]?=D (vi k6):=by
  have:=dW (λl=>l[0]?) hk5;simp only[mR]at this;simpa using this
 refine eU ?_;refine PU.of (jC 1 O N)<|PU.of e5<|bG ?_;refine G.Be (YS 0 _ N h0) hr5 ?_;refine G.kL ?_;refine aT (λc3=>fr O (λ_=>hp) G) λc3=>?_;refine eU ?_;refine PU.of (jC 1 O N)<|PU.of e5<|bG ?_;refine G.Be (YS 0 _ N h0) hr5 ?_;refine G.kL ?_;exact fr O (λ_=>hp) G
end
section
variable{SH:Nat->Prop}
def Ad.ow(h:Ad SH H v n)(hF:∀r,r<H.next->(yS H r 186\/yS H r 275)->SH r->F' r):Ad F' H v n:=
 let⟨a,c,M,W,J,h3,h4⟩:=h
 ⟨a,c,M,W,⟨J.1,λr o e hn=>let⟨g1,g2,g3⟩:=J.2 r o e hn;⟨hF r g2 (.inl g3) g1,g2,g3⟩⟩,h3,λi hi=>let⟨k,a,e,t',x,g1,g2,⟨b,m,c,zs,f1,f2,f3⟩,g4⟩:=h4 i hi;⟨k,a,e,t',x,g1,g2,⟨b,m,c,zs,f1,⟨f2.1,λr o e hn=>let⟨g1,g2,g3⟩:=f2.2 r o e hn;⟨hF r g2 (.inr g3) g1,g2,g3⟩⟩,f3⟩,g4⟩⟩
abbrev L2(rb rz:Nat)(gl:C Z):C dL:=[(rb,32,gl),(rz,32,[I Q 0 0,I Q 0 0,I Q 0 0,vi 0,vi 0,vi 0])]
def Red(v:Z)(T:R):Prop:=∃(ra:aB Addr)(rl rc:Nat)(na:aB Addr)(m nc:Nat)(ta:aB Addr)(n tc p:Nat)(e at':Int),v=.agg ⟨lg ra rl rc na m nc ta n tc p e at'⟩/\(e=0->YG n TT T v p m rl 0)
def akN(hw:Wf H)(s:aV):aO Pg X 43 [.string s] H (Q1 Red H):=by
 have G:=F.refl hw;refine jS [0,2,3,4,5,6,7] ?_;refine G.iX λH1 rz G=>?_;refine G.cm (amr G.wf s) ?_;rintro v H2 ⟨x,e,w,rfl,hT⟩ E G;refine wR (λc=>?_) λc=>?_
 .refine PU.b6 O<|G.kL ?_;refine G.jH λHn G=>?_;refine rr ?_;exact G.rZ 0 O (ax 6)<|⟨⟨Q,0,0,Q,0,0,Q,0,0,0,e,w,O,λh=>absurd h c⟩,G.ext⟩
 subst c;have⟨n,hT⟩:=hT O;obtain⟨ta,tc,M,rfl,hT2⟩:=id hT;refine eU ?_;refine G.nI O O O λH3 rb G hx3=>?_;have G:F [] H H3 (L2 rb rz<|lg Q 0 0 Q 0 0 ta (n+1) tc 0 0 0):=G;have hT:Ad (Ot TT H.next<|L2 rb rz<|lg Q 0 0 Q 0 0 ta (n+1) tc 0 0 0) H3 (I ta (n+1) tc) (n+1):=(hT.st hx3 nofun).ow λr _ h _=>⟨.inl trivial,λhm=>h.elim (G.GX O r hm)<|G.GX O r hm⟩;have hg:YG (n+1) (Ot TT H.next<|L2 rb rz<|lg Q 0 0 Q 0 0 ta (n+1) tc 0 0 0) H3 (.agg ⟨lg Q 0 0 Q 0 0 ta (n+1) tc 0 0 0⟩) 0 0 0 0:=⟨Q,0,[],Q,0,[],ta,tc,0,O,je.nil _ _ _ _ _,(λ_ i h=>absurd h<|jZ i),N,je.nil _ _ _ _ _,(λi h=>absurd h<|jZ i),N,hT,N,λ_=>N⟩;refine Yb 7 (ai:=λz x7 T=>∃(ra:aB Addr)(rl rc:Nat)(na:aB Addr)(m nc:Nat)(ta:aB Addr)(tc p:Nat)(e at':Int)(b:Bool),x7=.bool b/\F [] H T (L2 rb rz<|lg ra rl rc na m nc ta (n+1) tc p e at')/\(e=0->n+1<=p+z/\YG (n+1) (Ot TT H.next<|L2 rb rz<|lg ra rl rc na m nc ta (n+1) tc p e at') T (.agg ⟨lg ra rl rc na m nc ta (n+1) tc p e at'⟩) p m rl 0)) ?_ (n+1) ⟨Q,0,0,Q,0,0,ta,tc,0,0,0,f,rfl,G,λ_=>⟨N,hg⟩⟩;clear G hg hT hT2;rintro z x7 u H4 ⟨ra,rl,rc,na,m,nc,ta',tc',p,e,at',b,rfl,G,he⟩;refine gK.vg λK hK=>?_
 have more:e=0->∀{H5:R}{x7:Z}{u:Rs},F [] H H5 (L2 rb rz<|lg ra rl rc na m nc ta' (n+1) tc' p e at')->Ext H4 H5->gK Pg X (sub Co [1,1,1,1,0,1,0,0,1]) (wG (.string s) (pr rz) (I ta (n+1) tc) (vi 0) (vi w) (pr rb) x7 u H5) K:=by
  intro e0 H5 x7 u G hx5;subst e0;have⟨hz,hg⟩:=he O;have hg:=hg.ex hx5;have hp:=hg.bd.2.1 O;refine tl ?_;refine G.iI<|aO.mono (akM G.wf<|hg.by (F':=λr=>Ot TT H.next (L2 rb rz<|lg ra rl rc na m nc ta' (n+1) tc' p 0 at') r/\r<H5.next) λr W J=>⟨J,W⟩) ?_;rintro v H6 ⟨⟨ra6,rl6,rc6,na6,m6,nc6,ta6,tc6,p6,e6,at6,rfl,hg6⟩,E⟩;have hw:=G;have G:=G.call E;have hS1:=G;have G:=G.base;refine G.jH λHn G=>?_;rw[hK];refine⟨z-1,N,_,_,_,O,ra6,rl6,rc6,na6,m6,nc6,ta6,tc6,p6,e6,at6,aC,O,hS1.over G,λh=>?_⟩;have⟨g1,g2⟩:=hg6 h;subst h;refine⟨N,YG.turn (L:=L2 rb rz<|lg ra rl rc na m nc ta' (n+1) tc' p 0 at') (g2.by λr _ h=>?_) G⟩;rcases h with h|h
  .exact h.1
  .refine⟨.inl trivial,λhm=>?_⟩;obtain⟨e,he,rfl⟩:=bQ.1 hm;exact eP h (hw.lo e he).2
 have out:∀{H5:R}{x7:Z}{u:Rs},F [] H H5 (L2 rb rz<|lg ra rl rc na m nc ta' (n+1) tc' p e at')->Ext H4 H5->K (.exit 0<|wG (.string s) (pr rz) (I ta (n+1) tc) (vi 0) (vi w) (pr rb) x7 u H5):=by
  intro H5 x7 u G hx5;rw[hK];refine aj5 (λc=>?_) λc=>?_
  .refine eU ?_;refine G.jH λHn G=>?_;refine rr ?_;exact G.rZ 1 O (ax 6)<|⟨⟨Q,0,0,Q,0,0,Q,0,0,0,e,at',O,λh=>absurd h c⟩,G.ext⟩
  subst c;have hg:=(he O).2.ex hx5;have hS1:=G;have G:=G.base;refine G.iI<|G.jH λHn G=>?_;have hg:=hg.turn G;have G:=hS1.over G;refine rr ?_;exact G.rZ 1 O (ax 6)<|⟨⟨_,_,_,_,_,_,_,_,_,_,_,_,O,λ_=>hg.by λ_ _ _=>trivial⟩,G.ext⟩
 refine tm ?_;refine aT (λc=>?_) λ_=>out G<|Ext.refl _;cases b;rotate_left
 .exact more c G<|Ext.refl _
 have hg:=he c;subst c;refine eU ?_;refine G.cm (AZ G.wf hg.2<|hg.2.bd.2.1 O) ?_;rintro v H5 ⟨k,rfl,_⟩ E G;refine bG ?_;exact dN (λ_=>more O G E) λ_=>out G E
end
section
variable{SH:Nat->Prop}{rcs iK:C Z}
def low(rg:Nat->Bool):Nat->Nat
 |0=>0
 |n+1=>low rg n+if rg n=f then 0 else 1
def UF:∀n,low rg n<=n
 |0=>ax _
 |n+1=>by have:=UF n;unfold low;split<;>omega
def UG(h:rg i=aC):∀{n},i<n->low rg i<low rg n
 |n+1,hn=>by
  rcases cr i n with h'|h'
  .have:=UG h h';show _<low rg n+_;omega
  .obtain rfl:i=n:=N;show _<low rg i+(if rg i=f then 0 else 1);rw[h];exact dM _
def RuE(M:C Z)(rg:Nat->Bool)(m i:Nat):Prop:=∃(t:aV)(r:Nat),M[i*7+0]?=D (.string t)/\M[i*7+1]?=D (.bool<|rg i)/\M[i*7+5]?=D (B r)/\r<m/\∃ay w ch at',El M 7 i=[.string t,.bool<|rg i,.bool ay,.bool w,vi ch,B r,vi at']
def GR(rg:Nat->Bool)(SH:Nat->Prop)(H:R)(g:Z)(m rl:Nat):Prop:=∃(ra:aB Addr)(rc:Nat)(rcs:C Z)(na:aB Addr)(nc:Nat)(iK:C Z)(ta:aB Addr)(n tc p:Nat)(at':Int),g=.agg ⟨lg ra rl rc na m nc ta n tc p 0 at'⟩/\
 je SH 194 H ra rl 7 rcs/\(∀i,i<rl->RuE rcs rg m i)/\rl<=120/\je SH 200 H na m 5 iK/\(∀i,i<m->WC SH H (El iK 5 i) i)/\m<=4000
def GR.ex(h:GR rg SH H g m rl)(E:Ext H T):GR rg SH T g m rl:=by
 have⟨ra,rc,rcs,na,nc,iK,ta,n,tc,p,at',W,J,h3,h4,h5,h6,h7⟩:=h;exact⟨ra,rc,rcs,na,nc,iK,ta,n,tc,p,at',W,J.ex E,h3,h4,h5.ex E,λi hi=>(h6 i hi).st E<|nofun,h7⟩
def YG.gr(h:YG n SH H g p m rl 0):∃rg,GR rg SH H g m rl:=by
 have⟨ra,rc,rcs,na,nc,iK,ta,tc,at',W,J,h3,h4,h5,h6,h7,_⟩:=h;refine⟨λi=>match rcs[i*7+1]? with|some (.bool b)=>b|_=>aC,ra,rc,rcs,na,nc,iK,ta,n,tc,p,at',W,J,λi hi=>?_,h4,h5,h6,h7⟩;have⟨t,rg,ay,w,ch,at',r,hk,y⟩:=h3 O i hi
 have g:∀j,j<7->rcs[i*7+j]?=([.string t,.bool rg,.bool ay,.bool w,vi ch,B r,vi at']:C Z)[j]?:=λj hj=>by
  have:=dW (λl=>l[j]?) hk;simp only[mR]at this;simpa [hj]using this
 have g1:rcs[i*7+1]?=D (.bool rg):=g 1 N;have e:(match rcs[i*7+1]? with|some (.bool b)=>b|_=>aC)=rg:=by rw[g1]
 exact⟨t,r,g 0 N,by show _=D (gI (match rcs[i*7+1]? with|some (.bool b)=>b|_=>aC));rw[e];exact g1,g 5 N,y,ay,w,ch,at',by show _=[_,gI (match rcs[i*7+1]? with|some (.bool b)=>b|_=>aC),_,_,_,_,_];rw[e];exact hk⟩
def UH(hw:Wf H)(hg:GR rg SH H g m rl)(hi:i<=rl):aO Pg X 108 [g,B i] H (Q1 (λv _=>v=B (low rg i)) H):=by
 obtain⟨ra,rc,rcs,na,nc,iK,ta,n,tc,p,nM,rfl,J,h3,h4,_⟩:=hg;have G:=F.refl hw;refine jS [0,1,2,4,5,6]<|G.box O λH1 rb G=>?_;refine lp2 5 6 (ai:=λz x5 x6 T=>∃j,x5=B (low rg j)/\x6=B j/\j+z=i/\F [] H T [(rb,32,lg ra rl rc na m nc ta n tc p 0 nM)]) ?_ i ⟨0,rfl,rfl,N,G⟩;clear G;rintro z x5 x6 u H2 ⟨j,rfl,rfl,hj,G⟩;refine Yi (λc=>?_) λc=>?_
 .have hjl:j<rl:=N;have⟨_,_,_,g1,_⟩:=h3 j hjl;have⟨r,o,e1,y,hcl,_⟩:=J.1.idx (c:=rc) N hjl;have:=UF (rg:=rg) j;refine G.pz<|PU.of e1<|bG ?_;refine G.Be (hcl 1 _ N g1) y ?_;refine G.kL ?_;have hl:low rg (j+1)=low rg j+(if rg j=f then 0 else 1):=rfl;refine gF (λc=>?_) λc=>?_
  .rw[if_neg (mg c)]at hl;exact PU.of (jC 1 O N)<|PU.of (jC 1 O N)<|⟨z-1,N,_,_,_,_,O,j+1,by rw[hl],rfl,N,G⟩
  .rw[if_pos (mg c)]at hl;exact PU.of (jC 1 O N)<|⟨z-1,N,_,_,_,_,O,j+1,by rw[hl];rfl,rfl,N,G⟩
 .obtain rfl:j=i:=N;refine tl<|rr ?_;exact⟨O,G.ext⟩
def akO(hw:Wf H)(hg:GR rg SH H g m rl):aO Pg X 139 [g,.string t] H (Q1 (λv _=>(∃j,v=B j/\j<rl)\/v=vi (-1)) H):=by
 obtain⟨ra,rc,rcs,na,nc,iK,ta,n,tc,p,nM,rfl,J,h3,h4,_⟩:=hg;have G:=F.refl hw;refine jS [0,1,2,4,5] ?_;refine G.box O λH1 rb G=>?_;refine Yb 5 (ai:=λz x5 T=>∃j,x5=B j/\j+z=rl/\F [] H T [(rb,32,lg ra rl rc na m nc ta n tc p 0 nM)]) ?_ rl ⟨0,rfl,N,G⟩;clear G;rintro z x5 u H2 ⟨j,rfl,hj,G⟩;refine Yi (λc=>?_) λc=>?_
 .have hjl:j<rl:=N;have⟨_,_,g1,_⟩:=h3 j hjl;have⟨r,o,e1,y,hcl,_⟩:=J.1.idx (c:=rc) N hjl;apply G.pz;refine PU.of e1 ?_;refine bG ?_;refine G.Be (hcl 0 _ N g1) y ?_;refine G.kL ?_;refine aT (λe=>?_) λe=>?_
  .refine rr ?_;exact⟨.inl ⟨j,O,hjl⟩,G.ext⟩
  .exact PU.of (jC 1 O N)<|⟨z-1,N,_,_,_,O,j+1,O,N,G⟩
 .refine tl<|rr ?_;exact⟨.inr O,G.ext⟩
end
section
variable{SH:Nat->Prop}
def KW(SH:Nat->Prop)(H:R)(w:Z)(cs:Nat):Prop:=∃(ea:aB Addr)(ec:Nat)(sa:aB Addr)(sc:Nat)(be bs:C Bool),w=.agg ⟨[I ea cs ec,I sa cs sc]⟩/\je SH 4 H ea cs 1 (bools be)/\je SH 4 H sa cs 1 (bools bs)
def KW.ex(h:KW SH H w cs)(E:Ext H T):KW SH T w cs:=let⟨ea,ec,sa,sc,be,bs,W,J,h3⟩:=h;⟨ea,ec,sa,sc,be,bs,W,J.ex E,h3.ex E⟩
def RX{c:Nat}(h:je SH 4 H a cs 1<|bools bs)(hi:i<cs):∃r o,zN 1 (I a cs c) (B i)=D (.pointer<|D ⟨r,o,Q⟩)/\∃b:Bool,H.cell r o=D (.bool b):=by
 have⟨r,o,e1,y,hcl,_⟩:=h.1.idx (c:=c) N hi;have hl:i<bs.length:=by have:=h.1.1;rw[aK]at this;omega
 exact⟨r,o,e1,bs[i],hcl 0 _ N (by rw[dz,dH];exact jR _<|av hl)⟩
abbrev two(v:Z):Prop:=∃x hr:Bool,v=.tuple ⟨[.bool x,.bool hr]⟩
def UI(rg:Nat->Bool)(m rl k:Nat):Prop:=∀{SH F':Nat->Prop}{H:R}{g w:Z},Wf H->GR rg SH H g m rl->KW F' H w (low rg rl)->aO Pg X 109 [g,w,B k] H (Q1 (λv _=>two v) H)
def akP(hk:k<m)(ih:∀z,z<k->UI rg m rl z):UI rg m rl k:=by
 intro SH F' H g w hw hg hKW;obtain⟨ra,rc,rcs,na,nc,iK,ta,n,tc,p,nM,rfl,J,h3,h4,h5,h6,h7⟩:=id hg;obtain⟨ea,ec,sa,sc,be,bs,rfl,hE,hB⟩:=id hKW;have G:=F.refl hw;refine jS [0,1,2,3,4,6,7,8,9,10,11,12,13,14,15,16,17,18,25] ?_;refine G.box O λH1 rb G=>?_;refine G.box O λH2 rw G=>?_;have⟨kd,a,ks,c,t,ua,un,uc,at',hkx,hkf,hkl,hk4,hkn⟩:=h6 k hk;refine eU ?_;refine(h5.ex G.ext).TM N hk hkx λq=>G.nI O O O λH3 r8 G hx3=>?_;obtain⟨LL,hLL⟩:∃LL:C dL,LL=[(r8,200,[vi kd,I a ks.length c,.string t,I ua un uc,vi at']),(rw,36,[I ea (low rg rl) ec,I sa (low rg rl) sc]),(rb,32,lg ra rl rc na m nc ta n tc p 0 nM)]:=⟨_,O⟩
 have hcall:∀{H4:R}{i:Nat}{Kp:Z->R->Prop},F [] H H4 LL->(hi:i<ks.length)->(∀H5 x hr,F [] H (hM H4 H5) LL->Ext (hN H4) H5->Kp (.tuple ⟨[.bool x,.bool hr]⟩) H5)->aO Pg X 109 [.agg ⟨lg ra rl rc na m nc ta n tc p 0 nM⟩,.agg ⟨[I ea (low rg rl) ec,I sa (low rg rl) sc]⟩,B ks[i]] (hN H4) Kp:=by
  intro H4 i Kp G hi kk;refine aO.mono (ih _ (hkl _<|bB hi) (SH:=SH) (F':=F') (nS H4) (show GR rg SH (hN H4) _ m rl from(hg.ex G.ext:GR rg SH H4 _ m rl)) (show KW F' (hN H4) _ _ from(hKW.ex G.ext:KW F' H4 _ _))) ?_;rintro v H5 ⟨⟨x,hr,rfl⟩,E⟩;exact kk H5 x hr (G.nH E) E
 have ld:∀{H4:R}{i:Nat},F [] H H4 LL->(hi:i<ks.length)->∃r o,zN 1 (I a ks.length c) (B i)=D (.pointer<|D ⟨r,o,Q⟩)/\H4.cell r o=D (B ks[i]):=by
  intro H4 i G hi;have⟨r,o,e1,y,hcl,_⟩:=(hkf.ex G.ext).1.idx (c:=c) N hi;exact⟨r,o,e1,hcl 0 _ N (by rw[dz,dH];exact jR _<|av hi)⟩
 have NY:F [] H H3 LL:=by rw[hLL];exact G
 refine wS (λc0=>?_) λc0=>?_
 .refine V' 9 10 11 12 13 (ai:=λz x9 jo iJ kW jI T=>∃(x hr:Bool)(j:Nat),x9=.bool x/\jo=.bool hr/\iJ=B j/\j+z=ks.length/\F [] H T LL) ?_ ks.length ⟨_,_,0,rfl,rfl,rfl,N,NY⟩;clear G NY;rintro z x9 jo iJ kW jI u H4 ⟨x,hr,j,rfl,rfl,rfl,hj,NY⟩;have G:=NY;rw[hLL]at G;refine Yi (λc1=>?_) λc1=>?_
  .have hjl:j<ks.length:=N;have⟨r,o,e1,y⟩:=ld NY hjl;refine eU ?_;refine PU.of e1<|ME.ld (H:=hN H4) y ?_;refine G.kL ?_;refine hcall NY hjl λH5 x' y' NY E=>iD (by simp only[d_,fP E];rfl) ?_;cases x<;>cases hr
   all_goals
    try simp only[PP,Nat.reduceBEq]
    exact PU.of (jC 1 O N)<|⟨z-1,N,_,_,_,_,_,_,_,O,_,_,j+1,O,O,O,N,NY⟩
  .refine tl<|rr ?_;exact⟨⟨_,_,O⟩,G.ext⟩
 refine aT (λc2=>?_) λc2=>?_
 .refine V' 9 10 14 15 16 (ai:=λz x9 jo iJ kW jI T=>∃(x hr:Bool)(j:Nat),x9=.bool x/\jo=.bool hr/\iJ=B j/\j+z=ks.length/\F [] H T LL) ?_ ks.length ⟨_,_,0,rfl,rfl,rfl,N,NY⟩;clear G NY;rintro z x9 jo iJ kW jI u H4 ⟨x,hr,j,rfl,rfl,rfl,hj,NY⟩;have G:=NY;rw[hLL]at G;refine Yi (λc1=>?_) λc1=>?_
  .have hjl:j<ks.length:=N;have⟨r,o,e1,y⟩:=ld NY hjl;refine eU ?_;refine PU.of e1<|ME.ld (H:=hN H4) y ?_;refine G.kL ?_;refine hcall NY hjl λH5 x' y' NY E=>iD (by simp only[d_,fP E];rfl) ?_;cases x<;>cases hr
   all_goals
    try simp only[PP,Nat.reduceBEq]
    exact PU.of (jC 1 O N)<|⟨z-1,N,_,_,_,_,_,_,_,O,_,_,j+1,O,O,O,N,NY⟩
  .refine tl<|rr ?_;exact⟨⟨_,_,O⟩,G.ext⟩
 have go:∀{u:Rs}{b:Bool},Bc u 82=.bool b->gK Pg X (sub pQ [1,1,1,0,1,0,1,1,1,1,1]) (wH (.agg ⟨lg ra rl rc na m nc ta n tc p 0 nM⟩) (.agg ⟨[I ea (low rg rl) ec,I sa (low rg rl) sc]⟩) (B k) (pr rb) (pr rw) (.bool aC) (.bool aC) (pr r8) (.bool aC) (.bool f) top top top top top top top top (vi kd) u H3) (sw 0<|t_ Pg X (sub pQ [1,1,1,1])<|jL Pg [.tmp 6,.tmp 7]<|Q1 (λv _=>two v) H):=by
  intro u b hb;refine tl ?_;rw[hb];cases b;rotate_left
  .refine G.kL ?_;refine rr ?_;exact⟨⟨_,_,O⟩,G.ext⟩
  refine G.kL ?_;refine aT (λc4=>?_) λc4=>?_
  .have hzl:0<ks.length:=List.length_pos_iff.2 (hk4 c4);have⟨r,o,e1,y⟩:=ld NY hzl;refine eU ?_;refine PU.of e1<|ME.ld (H:=hN H3) y ?_;refine G.kL ?_;refine hcall NY hzl λH5 x' y' NY E=>?_;refine bG ?_;refine iD (by simp only[d_,fP E];rfl) ?_;refine rr ?_;exact⟨⟨_,_,O⟩,NY.ext⟩
  refine mF (λc5=>?_) λc5=>?_
  .refine tl<|rr ?_;exact⟨⟨_,_,O⟩,G.ext⟩
  refine eU ?_;refine G.cm (akO G.wf<|hg.ex G.ext) ?_;rintro v H4 hv E G
  have no:∀{u:Rs}{yo:Z},Bc u 112=.bool aC->gK Pg X (sub pQ [1,1,1,0,1,0,1,1,1,1,1,1,1,1,1,0,1,1]) (wH (.agg ⟨lg ra rl rc na m nc ta n tc p 0 nM⟩) (.agg ⟨[I ea (low rg rl) ec,I sa (low rg rl) sc]⟩) (B k) (pr rb) (pr rw) (.bool aC) (.bool aC) (pr r8) (.bool aC) (.bool f) top top top top top top yo top (vi kd) u H4) (sw 0<|t_ Pg X (sub pQ [1,1,1,1])<|jL Pg [.tmp 6,.tmp 7]<|Q1 (λv _=>two v) H):=by
   intro u yo hk;refine tl ?_;rw[hk];refine bG ?_;refine tl<|rr ?_;exact⟨⟨_,_,O⟩,G.ext⟩
  rcases hv with⟨j,rfl,hj⟩|rfl;rotate_left
  .refine G.kL ?_;exact no O
  refine G.kL ?_;refine aT (λ_=>?_) λc=>absurd (show(0:Int)<=(j:Int) by omega) c;have⟨_,_,_,g1,_⟩:=h3 j hj;have⟨r,o,e1,y,hcl,_⟩:=J.1.idx (c:=rc) N hj;refine G.pz<|PU.of e1<|bG ?_;refine G.Be (hcl 1 _ N g1) y ?_;refine G.kL ?_;cases hup:rg j;rotate_left
  .exact no O
  have hlt:=UG hup hj;refine tm ?_;refine(show∀{a b:Prop},a->xD (D !aC) a b fromλh=>h)<|G.iI<|aO.mono (UH G.wf (hg.ex G.ext) (i:=j) N) ?_;rintro v H5 ⟨rfl,E⟩;have G:=G.call E;have⟨r1,o1,e1,x1,hr1⟩:=RX (c:=ec) (hE.ex G.ext) hlt;have⟨r2,o2,e2,x2,hr2⟩:=RX (c:=sc) (hB.ex G.ext) hlt;refine eU ?_;refine PU.of e1<|ME.ld (H:=hN H5) hr1 ?_;refine eU ?_;refine PU.of e2<|ME.ld (H:=hN H5) hr2 ?_;refine eU ?_;refine rr ?_;exact⟨⟨_,_,O⟩,G.ext⟩
 refine aT (λc3=>go O) λc3=>?_;exact go O
def ah9:∀aa k,k<aa->k<m->UI rg m rl k:=by
 intro aa
 induction aa with
 |zero=>intro k h;omega
 |succ aa ih=>exactλk _ h=>akP h λz hz=>ih z N N
end
section
variable{SH:Nat->Prop}
abbrev wA(bs:C Bool)(l:Nat):Bool:=bs[l]?.getD aC
def cf:C Bool->Nat
 |[]=>0
 |b::l=>cf l+(if b=f then 0 else 1)
def acI:∀(l:C Bool)(i:Nat)(x:Bool),cf (l.set i<|(l[i]?.getD aC)||x)+(if i<l.length/\l[i]?.getD aC=aC/\x=f then 1 else 0)=cf l
 |[],i,x=>by simp[cf]
 |b::l,0,x=>by cases b<;>cases x<;>simp[cf]
 |b::l,i+1,x=>by
  have:=acI l i x;simp only[jy,dZ,cK,cf,Nat.add_lt_add_iff_right];omega
def aia(m:Nat):cf (aX m aC)=m:=by
 induction m with
 |zero=>rfl
 |succ m ih=>show cf (aX m aC)+1=_;rw[ih]
abbrev Lk(rb rz R4 R5 rw m:Nat)(be bs:C Bool)(gl:C Z):C dL:=[(rw,36,[I (D ⟨R4,0,Q⟩) m m,I (D ⟨R5,0,Q⟩) m m]),(R5,4,bools bs),(R4,4,bools be),(rz,36,[I Q 0 0,I Q 0 0]),(rb,32,gl)]
def YU(l:C Bool)(i:Nat)(x:Bool):(bools l).set i (.bool x)=bools (l.set i x):=by
 unfold bools;rw[fZ]
def LB{l:C Bool}:l.set i (wA l i)=l:=by
 refine h_ λj=>?_;rw[dG];split
 .next h=>
  subst h;split
  .next h=>show D (l[i]?.getD aC)=_;rw[av h];rfl
  .next h=>rw[fE N]
 .rfl
def Ps{l:C Bool}(h:i<l.length):(bools l)[i]?=D (.bool<|wA l i):=by
 show(l.map gI)[i]?=D (gI<|l[i]?.getD aC);rw[bF,av h];rfl
def acJ{l:C Bool}{e:Bool}(h:i<l.length):cf (l.set i<|wA l i||e)<=cf l/\(e=f/\wA l i=aC->cf (l.set i<|wA l i||e)<cf l)/\(¬(e=f/\wA l i=aC)->l.set i (wA l i||e)=l):=by
 have c:cf (l.set i<|wA l i||e)+(if i<l.length/\wA l i=aC/\e=f then 1 else 0)=cf l:=acI l i e;refine⟨N,λW=>?_,λW=>?_⟩
 .rw[if_pos ⟨h,W.2,W.1⟩]at c;omega
 .rw[show(wA l i||e)=wA l i by cases e<;>cases h:wA l i<;>simp_all,LB]
theorem akQ{R4 R5 rw' l:Nat}{x3:Z}(G:F [] H H1<|Lk rb rz R4 R5 rw' m be bs gl)(hl:l<m)(hbl:be.length=m)(hsl:bs.length=m)(hx S b c:Bool)(hk:Bc u 68=.bool c)(hc:c=f<->(hx=f/\wA be l=aC)\/(S=f/\wA bs l=aC))(Kc:Out->Prop)(kk:∀{H2:R}{u:Rs},F [] H H2 (Lk rb rz R4 R5 rw' m (be.set l<|wA be l||hx) (bs.set l<|wA bs l||S) gl)->Kc (.norm<|q9 x0 (pr rb) (pr rz) x3 (pr rw') (.bool<|b||c) x6 (B l) (.bool hx) (.bool S) u H2)):gK Pg X (sub wF [1,1,1,0,1,0,0,1,0,1,1,0,0,1,0,0,1,1,1,1]) (q9 x0 (pr rb) (pr rz) x3 (pr rw') (.bool b) x6 (B l) (.bool hx) (.bool S) u H1) Kc:=by
 refine tl ?_;rw[hk];cases c
 .refine bG ?_;have W:(wA be l||hx)=wA be l:=by cases hx<;>cases h:wA be l<;>simp_all
  have J:(wA bs l||S)=wA bs l:=by cases S<;>cases h:wA bs l<;>simp_all
  rw[W,J,LB,LB,ny]at kk;exact kk G
 .refine eU ?_;have c1:=Ps (show l<be.length by omega);have c2:=Ps (show l<bs.length by omega);refine PU.of (FV hl) ?_;simp only[aY];refine ME.ld (H:=hN H1) ((G.get 2 O).cell c1) ?_;have n1:=G.nq 0 1 O O N;have n2:=G.nq 0 2 O O N;have n3:=G.nq 1 2 O O N;rw[Bool.or_true]at kk;have e1:∀{l':C Bool}{z:Bool},l'.length=m->splice (bools l') l (bK<|.bool z)=bools (l'.set l z):=λh=>(E7 (by simp only[aK];omega)).trans<|YU ..
  have set2:∀{H2:R}{x hr:Bool},F [] H H2 [(rw',36,[I (D ⟨R4,0,Q⟩) m m,I (D ⟨R5,0,Q⟩) m m]),(R5,4,splice (bools bs) l<|bK<|.bool hr),(R4,4,splice (bools be) l<|bK<|.bool x),(rz,36,[I Q 0 0,I Q 0 0]),(rb,32,gl)]->F [] H H2 (Lk rb rz R4 R5 rw' m (be.set l x) (bs.set l hr) gl):=by
   intro H2 x hr G;rw[e1 hbl,e1 hsl]at G;exact G
  cases W:wA be l<;>rw[W]at kk
  .refine eU ?_;refine PU.of (FV hl) ?_;simp only[aY];refine ME.ld (H:=hN H1) ((G.get 1 O).cell c2) ?_;cases J:wA bs l<;>rw[J]at kk
   all_goals
    refine eU ?_;refine PU.of (FV hl) ?_;simp only[aY];refine G.mh (λH3 G=>?_) O (by simp only[aK];show l+1<=_;omega) rfl;refine PU.of (FV hl) ?_;simp only[aY];refine G.mh (λH4 G=>?_) O (by simp only[aK];show l+1<=_;omega) rfl;refine(show∀K:Prop,K->_/\K fromλKz hK=>?_) _ ?_
    .simp only[d_,fK];apply xG (a:=rw') (b:=R5) (c:=R4) n1 n2 n3 xN jr jr hK
    exact kk<|set2 G
  .refine eU ?_;refine PU.of (FV hl) ?_;simp only[aY];refine ME.ld (H:=hN H1) ((G.get 1 O).cell c2) ?_;cases J:wA bs l<;>rw[J]at kk
   all_goals
    refine eU ?_;refine PU.of (FV hl) ?_;simp only[aY];refine G.mh (λH3 G=>?_) O (by simp only[aK];show l+1<=_;omega) rfl;refine PU.of (FV hl) ?_;simp only[aY];refine G.mh (λH4 G=>?_) O (by simp only[aK];show l+1<=_;omega) rfl;refine(show∀K:Prop,K->_/\K fromλKz hK=>?_) _ ?_
    .simp only[d_,fK];apply xG (a:=rw') (b:=R5) (c:=R4) n1 n2 n3 xN jr jr hK
    exact kk<|set2 G
theorem aib(hw:Wf H)(hg:GR rg SH H g m rl):aO Pg X 74 [g] H (Q1 (λv T=>∃b,KW (λ_=>True) T v b) H):=by
 obtain⟨ra,rc,rcs,na,nc,iK,ta,n,tc,p,nM,rfl,J,h3,h4,h5,h6,h7⟩:=id hg;have G:=F.refl hw;refine jS [0,1,2,3,4,5,6,7,8,9] ?_;refine G.box O λH1 rb G=>?_;refine G.iX λH2 rz G=>?_;refine eU ?_;refine G.cm (UH G.wf (hg.ex G.ext)<|ax _) ?_;rintro v H3 rfl E G;have hml:=UF (rg:=rg) rl;refine G.mkD N λH4 R4 G hc1=>G.mkD N λH5 R5 G hc2=>?_;refine eU ?_;refine G.Yz λH6 rw' G hc3=>G.mh λHn G=>(show∀K:Prop,K->_/\K fromλKz hK=>?_) _ ?_
 .simp only[hc1,hc2,hc3,fK];apply EL (a:=rw') xN jr jr hK
 rw[show o7 [.bool aC] (low rg rl)=bools (aX (low rg rl) aC) by rw[mZ];simp]at G;have G:F [] H _ (Lk rb rz R4 R5 rw' (low rg rl) (aX (low rg rl) aC) (aX (low rg rl) aC)<|lg ra rl rc na m nc ta n tc p 0 nM):=G;refine V' 5 6 7 8 9 (ai:=λz x5 x6 x7 x8 x9 T=>∃b be bs,x5=.bool b/\be.length=low rg rl/\bs.length=low rg rl/\cf be+cf bs+(if b=f then 1 else 0)<=z/\F [] H T (Lk rb rz R4 R5 rw' (low rg rl) be bs<|lg ra rl rc na m nc ta n tc p 0 nM)) ?_ (2*low rg rl+1) ⟨f,_,_,rfl,jl,jl,by rw[aia];simp;omega,G⟩;clear G;rintro z x5 x6 x7 x8 x9 u H7 ⟨b,be,bs,rfl,hbl,hsl,hm,G⟩
 have hkw:∀{be bs:C Bool}{T:R}{x hr z:dL},be.length=low rg rl->bs.length=low rg rl->F [] H T [x,(R5,4,bools bs),(R4,4,bools be),hr,z]->KW (λ_=>True) T (.agg ⟨[I (D ⟨R4,0,Q⟩) (low rg rl) (low rg rl),I (D ⟨R5,0,Q⟩) (low rg rl)<|low rg rl]⟩) (low rg rl):=λ{be bs T x hr z} hbl hsl G=>
  ⟨_,_,_,_,be,bs,rfl,(G.get 2 rfl).Sj (n:=low rg rl) (es:=1) (G.lo _<|aS (i:=2) O).2 (by simp[hbl]) trivial,(G.get 1 O).Sj (n:=low rg rl) (es:=1) (G.lo _<|aS (i:=1) O).2 (by simp[hsl]) trivial⟩
 refine tm ?_;cases b
 .refine bG ?_;refine tl ?_;apply G.iI;refine G.jH λHn G=>?_;refine rr ?_;refine G.rZ 3 O (ax 2) ?_;exact⟨⟨_,hkw hbl hsl G⟩,G.ext⟩
 .refine bG ?_;have hm':cf be+cf bs<z:=by simp at hm;omega
  refine V' 5 6 7 8 9 (ai:=λk x5 x6 x7 x8 x9 T=>∃i b Zl bs',x5=.bool b/\x6=B i/\i+k=rl/\Zl.length=low rg rl/\bs'.length=low rg rl/\cf Zl+cf bs'+(if b=f then 1 else 0)<=cf be+cf bs/\F [] H T (Lk rb rz R4 R5 rw' (low rg rl) Zl bs'<|lg ra rl rc na m nc ta n tc p 0 nM)) ?_ rl ⟨0,aC,be,bs,rfl,rfl,N,hbl,hsl,ax _,G⟩;clear G;rintro k x5 x6 x7 x8 x9 u H8 ⟨i,b,Zl,bs',rfl,rfl,hik,acK,UJ,hf,G⟩;refine Yi (λc=>?_) λc=>?_
  .have hil:i<rl:=N;have⟨_,rt,_,g1,g5,hrt,_⟩:=h3 i hil;have⟨r,o,e1,y,hcl,_⟩:=J.1.idx (c:=rc) N hil;refine G.pz<|PU.of e1<|bG ?_;refine G.Be (hcl 1 _ N g1) y ?_;refine G.kL ?_;cases hup:rg i;rotate_left
   .refine bG ?_;exact PU.of (jC 1 O N)<|⟨k-1,N,_,_,_,_,_,_,_,O,i+1,b,Zl,bs',O,O,N,acK,UJ,hf,G⟩
   refine eU ?_;refine G.cm (UH G.wf (hg.ex G.ext) (i:=i) N) ?_;rintro v H9 rfl E G;have⟨r',o',e1',hr',aeX,_⟩:=(J.ex G.ext).1.idx (c:=rc) N hil;refine eU ?_;refine PU.of e1'<|bG ?_;refine ME.ld (H:=hN H9) (aeX 5 _ N g5) ?_;refine G.kL ?_;refine aO.mono (ah9 m _ hrt hrt (SH:=SH) (F':=λ_=>True) (nS H9) (show GR rg SH (hN H9) _ m rl from(hg.ex G.ext:GR rg SH H9 _ m rl)) (show KW _ (hN H9) _ _ from(hkw acK UJ G:KW _ H9 _ _))) ?_;rintro v Dq ⟨⟨hx,vn,rfl⟩,Ap⟩;have G:=G.nH Ap;refine bG ?_;refine iD (by simp only[d_,fP Ap];rfl) ?_;generalize hKc:sw 3 _=Kc;have hli:=UG hup hil
   have fin:∀{c:Bool}{u:Rs}{H2:R},Bc u 68=.bool c->(c=f<->(hx=f/\wA Zl (low rg i)=aC)\/(vn=f/\wA bs' (low rg i)=aC))->F [] H H2 (Lk rb rz R4 R5 rw' (low rg rl) Zl bs'<|lg ra rl rc na m nc ta n tc p 0 nM)->gK Pg X (sub wF [1,1,1,0,1,0,0,1,0,1,1,0,0,1,0,0,1,1,1,1]) (q9 (.agg ⟨lg ra rl rc na m nc ta n tc p 0 nM⟩) (pr rb) (pr rz) (B<|low rg rl) (pr rw') (.bool b) (B i) (B<|low rg i) (.bool hx) (.bool vn) u H2) Kc:=by
    intro c u H2 hk hc G;refine akQ G hli acK UJ hx vn b c hk hc Kc λ{H3 u} G=>?_;subst hKc;refine tm ?_;refine PU.of (jC 1 O N)<|⟨k-1,N,_,_,_,_,_,_,_,O,i+1,b||c,_,_,O,O,N,(bJ ..).trans acK,(bJ ..).trans UJ,?_,G⟩;have⟨d1,d3,_⟩:=acJ (e:=hx) (show low rg i<Zl.length by omega);have⟨d2,d4,_⟩:=acJ (e:=vn) (show low rg i<bs'.length by omega);cases c
    .rw[ny];omega
    .rw[Bool.or_true,if_pos O];have:(if b=f then 1 else 0)<=1:=by split<;>omega
     rcases hc.1 rfl with h|h
     .have:=d3 h;omega
     .have:=d4 h;omega
   have w1:=Ps (show low rg i<Zl.length by omega);have w2:=Ps (show low rg i<bs'.length by omega);cases hx
   .cases vn
    .refine bG ?_;exact fin O kg G
    refine eU ?_;refine PU.of (FV hli) ?_;simp only[aY];refine ME.ld ((G.get 1 O).cell w2) ?_;refine bG ?_;exact fin O kg G
   refine eU ?_;refine PU.of (FV hli) ?_;simp only[aY];refine ME.ld ((G.get 2 O).cell w1) ?_;cases W:wA Zl (low rg i)
   .refine G.kL ?_;exact fin O (by simp[W]) G
   refine bG ?_;refine(show∀{a b:Prop},b->xD (D !f) a b fromλh=>h) ?_;cases vn
   .refine G.kL ?_;exact fin O (by simp[W]) G
   refine eU ?_;refine PU.of (FV hli) ?_;simp only[aY];refine ME.ld ((G.get 1 O).cell w2) ?_;refine bG ?_;exact fin O (by simp[W]) G
  .exact⟨cf Zl+cf bs'+(if b=f then 1 else 0),N,_,_,_,_,_,_,_,O,b,Zl,bs',O,acK,UJ,ax _,G⟩
end
section
variable{SH:Nat->Prop}
def aid(hw:Wf H)(hg:GR rg SH H g m rl)(hi:i<rl):aO Pg X 107 [g,B i] H (Q1 (λv _=>∃k:Nat,v=B k/\k<=4000) H):=by
 obtain⟨ra,rc,rcs,na,nc,iK,ta,n,tc,p,nM,rfl,J,h3,h4,h5,h6,h7⟩:=hg;have G:=F.refl hw;refine jS [0,1,2,4] ?_;refine G.box O λH1 rb G=>?_;refine G.kL ?_;refine aT (λc=>?_) λc=>?_
 .refine rr ?_;exact⟨⟨0,O,bA _⟩,G.ext⟩
 obtain⟨j,rfl⟩:∃j,i=j+1:=⟨i-1,N⟩;have⟨_,r,_,_,g5,hr5,_⟩:=h3 j N;have⟨r',o,e1,y,hcl,_⟩:=J.1.idx (c:=rc) N (show j<rl by omega);apply G.pz;rw[pg N N];refine bG ?_;rw[show((j+1:Nat):Int)-1=(j:Nat) by omega];refine PU.of e1<|bG ?_;refine G.Be (hcl 5 _ N g5) y<|PU.of (jC 1 O N)<|rr ?_;exact⟨⟨r+1,O,N⟩,G.ext⟩
def OY(x:Z)(aa:Nat)(gb:C dL):Prop:=∃M,GB 202 4 x M gb/\M.length=aa*4/\∀j,j<aa->∃t,M[j*4+0]?=D (.string t)
def OY.push(h:OY x aa gb){b:Bool}(hN:aa<=1000000)(G:F [] H0 H<|gb++L){Kp:Z->Z->R->Prop}(kk:∀q v' H3 gQ,OY v' (aa+1) gQ->F [] H0 H3 (gQ++L)->Kp q v' H3):ME (bS 202 [.string ⟨#[]⟩,vi 0,vi 0,.bool aC] 4 1 [(0,.agg ⟨[.string t,vi r,vi c,.bool b]⟩)] H) λq H1=>ME (zY 202 4 x q H1) (Kp q):=by
 have⟨M,hg,hl,y⟩:=h;refine hg.push G N O O O O O N N λq v' H3 gQ hg' G=>kk q v' H3 gQ ⟨_,hg',by rw[aQ];show _+4=_;omega,λj hj=>?_⟩ G;rcases cr j aa with h|h
 .have⟨t,ht⟩:=y j h;exact⟨t,by rw[bM N];exact ht⟩
 .obtain rfl:j=aa:=N;exact⟨t,by rw[dV N,show j*4+0-M.length=0 by omega];rfl⟩
def aie(hw:Wf H)(hg:GR rg SH H g m rl):aO Pg X 73 [g] H (Q1 (λv _=>∃a n c,v=I a n c) H):=by
 obtain⟨ra,rc,rcs,na,nc,iK,ta,n,tc,p,nM,rfl,J,h3,h4,h5,h6,h7⟩:=id hg;have G:=F.refl hw;refine jS [0,1,2,3,4,5,6,7,8,9]<|G.box O λH1 rb G=>?_;refine V' 3 4 5 6 7 (ai:=λz x3 x4 x5 x6 x7 T=>∃i aa gb,x4=B i/\i+z=rl/\OY x3 aa gb/\aa<=4001*i/\F [] H T (gb++[(rb,32,lg ra rl rc na m nc ta n tc p 0 nM)])) ?_ rl ⟨0,0,[],rfl,N,⟨[],GB.nil _ _,rfl,λj h=>absurd h<|jZ _⟩,bA _,G⟩;clear G;rintro z x3 x4 x5 x6 x7 u H2 ⟨i,aa,gb,rfl,hiz,hO,hNi,G⟩;refine abG (λc=>?_) λc=>?_
 .refine tl ?_;refine FY 3 8 9 (ai:=λz x3 x8 x9 T=>∃i aa gb,x8=B i/\i+z=rl/\OY x3 aa gb/\aa<=500000+i/\F [] H T (gb++[(rb,32,lg ra rl rc na m nc ta n tc p 0 nM)])) ?_ rl ⟨0,aa,gb,rfl,N,hO,N,G⟩;clear G hO hNi;rintro z3 x3 x8 x9 u H3 ⟨i2,aa,gb,rfl,hiz,hO,hNi,G⟩;refine abG (λc=>?_) λc=>?_
  .refine tl ?_;have⟨M,hg,_⟩:=hO;obtain⟨a,n,c,rfl⟩:=hg.sl;refine rr ?_;exact⟨⟨_,_,_,O⟩,G.ext⟩
  have hil:i2<rl:=N;have⟨tt,rt,_,_,_,_,ay,w,ch,at',hk⟩:=h3 i2 hil;refine G.pz<|(J.ex G.ext).TM N hil hk λq=>G.nI O O O λH4 r9 G hx4=>?_
  have fin:∀{b:Bool}{H5:R}{u:Rs},Bc u 94=.bool b->F [] H H5 ((r9,194,[.string tt,.bool<|rg i2,.bool ay,.bool w,vi ch,B rt,vi at'])::(gb++[(rb,32,lg ra rl rc na m nc ta n tc p 0 nM)]))->∀{az:Out->Prop},(∀{x3:Z}{N':Nat}{gQ:C dL}{H6:R}{u:Rs},OY x3 N' gQ->N'<=aa+1->F [] H H6 (gQ++[(rb,32,lg ra rl rc na m nc ta n tc p 0 nM)])->az (.norm<|yt (.agg ⟨lg ra rl rc na m nc ta n tc p 0 nM⟩) (pr rb) (I Q 0 0) x3 (B i) x5 x6 x7 (B i2) (pr r9) u H6))->gK Pg X (sub D3 [1,1,1,0,1,0,0,1,0,0,1,1]) (yt (.agg ⟨lg ra rl rc na m nc ta n tc p 0 nM⟩) (pr rb) (I Q 0 0) x3 (B i) x5 x6 x7 (B i2) (pr r9) u H5) az:=by
   intro b H5 u hlk G az kk;refine tl ?_;rw[hlk];cases b
   .refine bG ?_;exact kk hO N<|F.drop (A:=[_]) G
   refine eU ?_;exact hO.push N (G.perm (L':=gb++((r9,194,_)::[(rb,32,lg ra rl rc na m nc ta n tc p 0 nM)])) i_.symm) λq v' H6 gQ hO G=>kk hO (ax _)<|F.drop (A:=[_])<|G.perm i_
  refine OP (λ_=>?_) λ_=>?_
  .refine eU ?_;refine fin O G λhO hn G=>?_;refine bG ?_;refine tl ?_;refine PU.of (jC 1 O N) ?_;exact⟨z3-1,N,_,_,_,_,_,O,i2+1,_,_,O,N,hO,N,G⟩
  .refine fin O G λhO hn G=>?_;refine bG ?_;refine tl ?_;refine PU.of (jC 1 O N) ?_;exact⟨z3-1,N,_,_,_,_,_,O,i2+1,_,_,O,N,hO,N,G⟩
 have hil:i<rl:=N;have⟨_,rt,_,g1,g5,hrt,_⟩:=h3 i hil;have⟨r,o,e1,y,hcl,_⟩:=J.1.idx (c:=rc) N hil;refine G.pz<|PU.of e1<|bG ?_;refine G.Be (hcl 1 _ N g1) y<|gF (λ_=>?_) λ_=>?_
 .exact PU.of (jC 1 O N)<|⟨z-1,N,_,_,_,_,_,_,_,O,i+1,aa,gb,O,N,hO,N,G⟩
 apply G.iI;refine G.cm (aid G.wf (hg.ex G.ext) hil) ?_;rintro v H3 ⟨k,rfl,hk⟩ E G;refine NG 3 5 6 7 (ai:=λz x3 x5 x6 x7 T=>∃k aa gb,x5=B k/\k+z=4001/\OY x3 aa gb/\aa<=4001*i+k/\F [] H T (gb++[(rb,32,lg ra rl rc na m nc ta n tc p 0 nM)])) ?_ (4001-k) ⟨k,aa,gb,rfl,N,hO,N,G⟩;clear G hO hNi hk;rintro z2 x3 x5 x6 x7 u H4 ⟨k,aa,gb,rfl,hkz,hO,hNi,G⟩;refine tm ?_;refine PU.of e1<|bG ?_;refine G.Be (hcl 5 _ N g5) y ?_;refine G.kL ?_;refine mF (λc=>?_) λc=>?_
 .refine tl ?_;refine PU.of (jC 1 O N) ?_;exact⟨z-1,N,_,_,_,_,_,_,_,O,i+1,aa,gb,O,N,hO,N,G⟩
 have hkm:k<m:=N;have⟨kd,a,ks,kc,t,sa,sn,sc,at',hkx,_⟩:=h6 k hkm;have⟨r5,o5,e5,hr5,YS,_⟩:=h5.1.idx (c:=nc) N hkm
 have h50:iK[k*5+0]?=D (vi kd):=by
  have:=dW (λl=>l[0]?) hkx;simp only[mR]at this;simpa using this
 have h52:iK[k*5+2]?=D (.string t):=by
  have:=dW (λl=>l[2]?) hkx;simp only[mR]at this;simpa using this
 refine G.pz<|PU.of e5<|bG ?_;refine G.Be (YS 0 _ N h50) hr5 ?_;refine bG ?_;refine lp2 6 7 (ai:=λz x6 x7 T=>∃b j,x6=.bool b/\x7=B j/\j+z=aa/\T=H4) ?_ aa ⟨_,0,rfl,rfl,N,rfl⟩;rintro z4 x6 x7 u H5 ⟨b,j,rfl,rfl,hjz,rfl⟩;have⟨M,hg3,hl3,hr3⟩:=id hO;obtain⟨ga,gn,gc,rfl,hgn,hgf⟩:=hg3.IA (SH:=TT) G λ_ _=>trivial;obtain rfl:gn=aa:=N;refine q_ (λc4=>?_) λc4=>?_
 .cases b;rotate_left
  .refine bG ?_;exact iD O<|PU.of (jC 1 O N)<|⟨z4-1,N,_,_,_,_,O,_,j+1,O,O,N,O⟩
  have hjN:j<gn:=N;have⟨r6,o6,e6,hr6,amz,_⟩:=hgf.1.idx (c:=gc) N hjN;have⟨t6,ht6⟩:=hr3 j hjN;refine bG ?_;refine PU.of e6<|bG ?_;refine ME.ld (amz 0 _ N ht6) ?_;simp only[gN G.wf];refine eU ?_;refine PU.of e5<|bG ?_;refine ME.ld (H:=hN H5) ((kr (G.ext.obj r5 hr5 nofun) _).trans<|YS 2 _ N h52) ?_;simp only[gN G.wf,PP];refine iD (by simp only[d_];rfl) ?_;exact PU.of (jC 1 O N)<|⟨z4-1,N,_,_,_,_,O,_,j+1,O,O,N,O⟩
 refine tl ?_;cases b;rotate_left
 .refine bG ?_;refine tl ?_;refine PU.of (jC 1 O N) ?_;exact⟨z2-1,N,_,_,_,_,_,_,O,k+1,gn,gb,O,N,hO,N,G⟩
 refine bG ?_;refine(show∀{a b:Prop},a->xD (D !aC) a b fromλh=>h)<|G.pz<|PU.of e5<|bG ?_;refine ME.ld ((kr (G.ext.obj r5 hr5 nofun) _).trans<|YS 2 _ N h52)<|PU.b4 O<|hO.push N G λq v' H6 gQ hO G=>?_;refine bG ?_;refine tl ?_;refine PU.of (jC 1 O N) ?_;exact⟨z2-1,N,_,_,_,_,_,_,O,k+1,gn+1,gQ,O,N,hO,N,G⟩
end
section
variable{SH:Nat->Prop}
abbrev LgV(v:Z):Prop:=pZ v=f/\∃l,v=.agg ⟨l⟩/\bK v=l/\l.length=9/\all' fC l=f
theorem yOf(hw:Wf H)(hg:GR rg SH H g m rl):aO Pg X 44 [g] H (Q1 (λv _=>LgV v) H):=by
 obtain⟨ra,rc,rcs,na,nc,iK,ta,n,tc,p,nM,rfl,J,h3,h4,h5,h6,h7⟩:=id hg;have G:=F.refl hw;refine jS [0,1,2] ?_;refine G.box O λH1 rb G=>?_;refine G.iX λH2 rz G=>?_;refine eU ?_;refine aO.mono (aie (nS H2) (show GR rg SH (hN H2) _ m rl from(hg.ex G.ext:GR rg SH H2 _ m rl))) ?_;rintro v H3 ⟨⟨ya,yn,yc,rfl⟩,hx3⟩;have G:=G.nH hx3;refine eU ?_;refine aO.mono (aib (nS<|hM H2 H3) (show GR rg SH (hN<|hM H2 H3) _ m rl from(hg.ex G.ext:GR rg SH (hM H2 H3) _ m rl))) ?_;rintro v H4 ⟨⟨cs,ea,ec,sa,sc,be,bs,rfl,_⟩,hx4⟩;have G:=G.nH hx4;refine eU ?_;refine G.mh λHn G=>?_;have n1:=G.nq 0 1 O O N;refine(show∀K:Prop,K->_/\K fromλKz hK=>?_) _ ?_
 .simp only[d_,fK,fP hx3,fP hx4];apply lQ (a:=rz) (b:=rb) n1 xN jr jr hK
 refine rr ?_;exact G.rZ 0 O (ax 9)<|⟨⟨O,_,O,O,O,O⟩,G.ext⟩
end
end Go.Proofs.Lu
