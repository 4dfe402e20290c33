/-
  Part 12 of the proof. No condition.
-/
import Derived.Test.YtpngmpbmokhmiaaGreatDoorZ11
set_option linter.unusedVariables false
set_option linter.unusedSimpArgs false
set_option maxRecDepth 100000
set_option maxHeartbeats 4000000
set_option linter.defProp false
open Option renaming some->Z,none->T
open Bool renaming true->f,false->aA
open Go renaming Value->C,TypeId->aI,Program->aX
open Go.Value renaming int->a_,slice->J,bool->aO,pointer->bG,tuple->fJ,agg->dN,map->gz
open Nat renaming beq->aB,ble->aD,add->bq,mul->bP,sub->dP
open List renaming length->u,replicate->aY,range->d_
open List.Pairwise renaming nil->qy
open List.Perm renaming swap->iF
open BitVec renaming ofInt->kU
open And renaming intro->iZ
open Go.IntKind renaming i64->bC,wrap->oJ,u64->fO
noncomputable section
namespace Go.Proofs.Lv
open Go.Proofs.Lu Go.Proofs.Lu.Wk
open Go.Ae Go.Ae.hx
variable{sb:D Bool}{F':Nat->Prop}{es most rs rw':Nat}{t:Int}{au:D Nat}{L hx:D eF}{A:At}{q:AV}{F z:D C}{H Q H0:R}{v:C}{e ty:aI}
section
variable{S:D Nat}{cs:Nat->Prop}{ev sv:C}
def aoP(ho:A.Ok)(hw:Wf H)(hk:GN cs H rw' A q ev sv sb):bM Pg X 65 [pr rw'] H (Q1 (λv Q=>∃g:AV,v=g.v A/\vF (H.bV<=·) Q A g) H):=by
 refine lF [0,2] ?_;have G:=gM hw;refine G.jM λU E G=>?_;have d:∀{Q},Ext H Q->GN cs Q rw' A q ev sv sb:=λM=>hk.stay M nofun;refine dn (RD (d G.ext) ho) ?_;rintro _ U ⟨rfl,rfl⟩;refine bN ?_;refine ME.uE ((d G.ext).b.read (o:=0) (n:=6) (by rw[aU];exact pY 6 2)) ?_;refine dn (yU G.wf (d G.ext).a ho) ?_;rintro _ H2 ⟨⟨g,rfl,B⟩,M⟩;have w:=G.ext.bV;have Y:=(G.lo _<|aK ..).2;have G:=G.call M;have W:=G.base;refine W.j_ (λH3 T=>?_) (by rw[lM];rfl) (by exact aF O) (by rw[lM];rfl)
 have B:=B.stay T.ext λr I=>by
  simp only[i_,kI,aS]at I;omega
 have N:=G.over T;refine Lu.rr ?_;refine N.jl ?_ (by rw[lM];exact aF O);rw[lM];exact⟨⟨g,O,B.wk λr I=>aR w I⟩,N.ext⟩
theorem aoQ(hw:Wf H):bM Pg X 75 [] H λv Q=>∃au rs,v=pr rs/\P7 au Q rs []/\(∀r∈au,H.bV<=r/\r<Q.bV)/\Ext H Q:=by
 refine lF [0] ?_;have G:=gM hw;refine dA (v:=dN ⟨[vi (-1),vi 0]⟩) O ?_;refine G.bS O O O jg λH1 rp G=>G.bS O O O jg λH2 ru G=>?_;have g2:=G.ext.bV;refine G.mkMap (e:=pE) NN λH3 mn b ab Y G=>?_;have g3:=G.ext.bV;refine G.mkMap (e:=pE) NP λH4 ml g w W G=>?_;refine dA (v:=dN ⟨[J (Z ⟨rp,0,T⟩) 1 1,J (Z ⟨ru,0,T⟩) 1 1,gz<|Z mn,gz<|Z ml]⟩) O ?_;have I:=G;have G:=G.base;refine G.box O λU rs G=>?_;have o:=(b.ex w nofun).ex G.ext<|I.zP<|b.ex w nofun;have d:=g.ex G.ext<|I.zP g;have G:=I.over G;have B:SH [] H U [(rs,128,[J (Z ⟨rp,0,T⟩) 1 1,J (Z ⟨ru,0,T⟩) 1 1,gz<|Z mn,gz<|Z ml]),(rp,161,[vi (-1),vi 0]),(ru,22,[J T 0 0])]:=G.perm<|(iF _ _ _).cons _;have⟨_,l1,_⟩:=id b;have⟨_,l2,_⟩:=id o;have⟨_,l3,_⟩:=id d;refine Lu.rr ?_;refine⟨[mn,ml,rs,rp,ru],rs,O,⟨mn,ml,_,_,[J T 0 0],[(rp,161,_)],[(ru,22,_)],[],B.base.weaken λr hr=>bJ _<|bJ _ hr,.inr ⟨rp,1,rfl,rfl,rfl⟩,.inr ⟨ru,1,rfl,rfl,rfl⟩,⟨[],[],rfl,GB.nil _ _,rfl⟩,?_,?_,N,gB,gB⟩,λr hr=>?_,G.ext⟩
 .simpa [K4]using o
 .simpa [mY]using d
 .simp only[bW,fq,je]at hr;rcases hr with rfl|rfl|hr
  .exact⟨N,l2⟩
  .exact⟨N,l3⟩
  .have hr:r∈[(rs,128,[J (Z ⟨rp,0,T⟩) 1 1,J (Z ⟨ru,0,T⟩) 1 1,gz<|Z mn,gz<|Z ml]),(rp,161,[vi (-1),vi 0]),((ru,22,[J T 0 0]):eF)].map (·.1):=om hr;obtain⟨e,M,rfl⟩:=bT.1 hr;exact⟨B.yu M,(B.lo e M).2⟩
end
section
variable{S:D Nat}{cs:Nat->Prop}{ev sv:C}
theorem _root_.Go.Ae.SH.nsD{m:Nat}{K:C->R->C->R->Prop}(G:SH S H0 H L)(hl:u (cr v)=m)(g:u z=m)(hk:all' gI (cr v)=f)(kk:∀H1 r H2,SH S H0 (hM (hM H H1) H2) ((r,ty,cr v)::L)->N9 H H1=cl 5->H.bV<=r->Ext H (hM (hM H H1) H2)->K (bG<|Z ⟨r,0,T⟩) H1 undef H2):ME (Go.Ae.jM ty z<|hN H) λp H1=>ME (Go.Ae.GU m p v<|hN<|hM H H1) λaa H2=>K p H1 aa H2:=by
 refine(gM G.wf).nD λH1 r b d=>b.oq (λH2 b=>?_) hl N hk;rw[oF _ _ N]at b;exact kk H1 r H2 (SH.frame (hx:=[]) (L:=L) G b) d (b.yu<|aK ..) b.ext
def _root_.Go.Ae.SH.bSE{K:C->R->Prop}(G:SH S H0 H L)(o:u z=es)(hv:rP v=f)(hc:u (cr v)=es)(g:es<=16777216)(k:∀H1 r,SH S H0 (hM H H1) ((r,e,cr v)::L)->N9 H H1=cl 5->H.bV<=r->Ext H (hM H H1)->K (J (Z ⟨r,0,T⟩) 1 1) H1):ME (bS e z es 1 [(0,v)]<|hN H) K:=
 (gM G.wf).R4 o hv hc g λH1 r b d=>k H1 r (SH.frame (hx:=[]) (L:=L) G b) d (b.yu<|aK ..) b.ext
def _root_.Go.Ae.SH.past(G:SH S H0 H L)(M:pN au H Q)(h:∀r∈au,r∈S\/H0.bV<=r)(hd:∀e∈L,e.1∉au):SH S H0 Q L:=
 ⟨G.ext.later M h,λe b=>(G.bk e b).iB<|M.obj _ (G.lo e b).2<|hd e b,λe b=>⟨(G.lo e b).1,aP (G.lo e b).2 M.bV⟩,G.ne,M.wf G.wf⟩
def Sm(S:D Nat)(H0 H:R)(rp rw' most:Nat)(A:At)(z:ai):Prop:=∃au rs b d ha hc sa sc,
 SH S H0 H [(rp,92,[pr rw',pr rs,J b (u z.fr) d,W<|u z.s0+1,J sa (u z.sp) sc,aO z.ok,J ha 0 hc,W<|u z.sp,W z.long,W z.st,W most,aO aA])]/\
 P7 au H rs z.sk/\(∀r∈au,(r∈S\/H0.bV<=r)/\r<H.bV)/\rp∉au/\jC (λ_=>True) 86 H sa (u z.sp) 2 (BR z.sp)/\jC (λ_=>True) 86 H b (u z.fr) 2 (BR z.fr)
def P7.m{H1:R}{s:Sk}(d:Wf H)(M:pN S (hN H) H1)(h:P7 au H1 rs s):P7 au (hM H H1) rs s:=
 let⟨mn,ml,pv,uv,us,gP,gU,az,h,gp,gu,gR,m,l,r⟩:=h
 ⟨mn,ml,pv,uv,us,gP,gU,az,⟨pN.refl _ _,λe b=>(h.bk e b).iB O,h.lo,h.ne,M.draw.wf d⟩,gp,gu,gR,m,l,r⟩
def aj3(ho:A.Ok)(hw:Wf H)(hk:GN cs H rw' A q ev sv sb)(hF:∀r,cs r->r<H.bV)(hL:Lim A 0 most):
 bM Pg X 45 [pr rw',W most] H λv Q=>∃rp,v=fJ ⟨[pr rp,vi 0]⟩/\Sm [] H Q rp rw' most A (ai.new A):=by
 have ba:0<A.ns:=by have:=(ho.s 0 ho.pos).1;omega
 refine lF [0,1,4,5,6,7,8,9] ?_;refine dn (aoP ho hw hk) ?_;rintro _ H1 ⟨⟨q',rfl,I⟩,M⟩;have G:=(gM hw).call M;refine G.ns (by rw[lM];rfl) rfl (by rw[lM];rfl) λH2 ra G a7=>?_;have G:SH [] H H2 [(ra,27,q'.cells A)]:=G;have B:=I.ex a7;refine fF ?_;refine G.cm (vR G.wf q' A) ?_;rintro _ H3 rfl a8 G;have h3:=B.ex a8;have aE:=G.ext.bV;refine bN ?_;refine aV (λh=>N) λ_=>?_;refine dn (aoQ<|oC H3) ?_;rintro _ H4 ⟨au,rs,rfl,ab,hT,ad⟩;have ab:=ab.m G.wf ad;have h4:=(h3.ex ad.draw);have G:=G.oD ad;refine fF ?_;show PU (BS 1 (J q'.sa A.nr q'.sc)<|W 0) _;refine h4.ajI ho ho.pos λr o=>?_;refine fF ?_;have a9:∀r∈au,(hN<|hM H3 H4).bV<=r->False:=λr d h=>absurd (hT r d).2<|fu h;refine G.bSE O O O jg λH5 rf G c5 aq an=>dA (v:=dN ⟨[pr rw',pr rs,J (Z ⟨rf,0,T⟩) 1 1,vi 1,J T 0 0,aO aA,J T 0 0,vi 0,vi 0,vi 0,W most,aO aA]⟩) O<|G.ajT O λH6 rp G c6 aw ar=>iY (by simp only[eZ,fP ad,c5,c6];rfl) ?_;have G:SH [] H (hM (hM (hM H3 H4) H5) H6) [(rp,92,[pr rw',pr rs,J (Z ⟨rf,0,T⟩) 1 1,vi 1,J T 0 0,aO aA,J T 0 0,vi 0,vi 0,vi 0,W most,aO aA]),(rf,86,[W (A.S 0),vi 0]),(ra,27,q'.cells A)]:=G;have ab:=ab.stay (an.trans aw) nofun;have ap:=(an.trans aw).bV;have ao:=an.bV;generalize hM (hM (hM H3 H4) H5) H6=U at G ab ap|-;refine fF ?_;have a5:H.bV<=H3.bV:=aE;have a2:=G.wf;have a0:H.bV<=U.bV/\rp<U.bV:=⟨G.ext.bV,(G.lo _<|aK ..).2⟩;have a6:GN cs (hN U) rw' A q ev sv sb:=(hk.stay G.ext nofun).stay (Ext.hN U) nofun;have a1:(hM H3 H4).bV<=U.bV:=ap;have a4:∀r∈au,r<(hN U).bV:=λr d=>aP (hT r d).2 a1;have am:∀r∈au,H.bV<=r:=λr d=>aR a5 (hT r d).1;have Y:=jC.one (cs:=(·=rf)) (es:=2) G (n:=1) (show((rf,86,[W (A.S 0),vi 0]):eF)∈_ by simp) O O;show bM Pg X 57 [pr rw',pr rs,J (Z ⟨rf,0,T⟩) ([(A.S 0,0)]:D Sp).length 1,W 0,J T 0 0,W most] (hN U) _;refine dn (WY (hd:=λ_=>aA) (λQ _ r _=>aiv _) ho a6 (λr d=>⟨aP (hF r d) G.ext.bV,λh=>absurd (am r h)<|fI<|hF r d⟩) (ab.stay (Ext.hN U) nofun) a4 (Y.ex<|Ext.hN U) (λr d e=>by subst e;exact absurd aq<|fI (hT _ d).2) (λp hp=>by rw[aS]at hp;subst hp;exact⟨(ho.s 0 ho.pos).1,ax _⟩) ⟨ji,(λe h=>by cases h),λe h=>by cases h⟩ hL gB (by rw[ze];exact bD _)) ?_;rintro _ H8 ⟨sa,sc,ha,hc,T',rfl,w,a3,z8,NT,_⟩;rw[ze,AU]at*;refine bN ?_
 have G:SH [] H (hM U H8) [(rp,92,[pr rw',pr rs,J (Z ⟨rf,0,T⟩) 1 1,vi 1,J T 0 0,aO aA,J T 0 0,vi 0,vi 0,vi 0,W most,aO aA])]:=(fV (A:=[_,_])<|G.perm<|aG (l₁:=[_])).past z8.draw (λr d=>.inr<|am r d) λe he=>by
  rw[aS.1 he];exactλhm=>absurd (hT _ hm).2<|fu<|aR ao ar
 have w:=w.m a2 z8;have NT:jC (λ_=>True) 86 (hM U H8) sa _ 2 _:=NT.wk λ_ _=>trivial;have Y:=Y.stay z8.draw λr d=>.inl λe=>by subst e;exact absurd aq<|fI (hT _ d).2
 refine G.nsD O O O λH9 rc Cw G c9 bb uD=>?_;have G:SH [] H (hM (hM (hM U H8) H9) Cw) [(rc,68,[J sa (close A 0 [] [(A.S 0,0)]).sp.length sc,aO (close A 0 [] [(A.S 0,0)]).ok,J ha 0 hc,W (close A 0 [] [(A.S 0,0)]).sp.length]),(rp,92,[pr rw',pr rs,J (Z ⟨rf,0,T⟩) 1 1,vi 1,J T 0 0,aO aA,J T 0 0,vi 0,vi 0,vi 0,W most,aO aA])]:=G;have n1:rc≠rp:=G.neT;refine splitK (λK hK=>?_) ?_
 .simp only[eZ,gN,c9];rcases xu U H8 with e|e<;>rw[e]<;>apply nE (a:=rc) (b:=rp) n1 yX fQ fQ hK
 have w:=w.stay uD nofun;have NT:=NT.ex uD;have Y:=Y.ex uD
 have ac:∀r∈T',r<(hM (hM (hM U H8) H9) Cw).bV/\r∉[rc,rp]/\H.bV<=r:=λr d=>by
  have h7:(hN U).bV=U.bV:=rfl;have h8:=uD.bV;have g8:(hM U H8).bV=H8.bV:=rfl;have⟨g1,g2⟩:=a3 r d;have bc:=a0;refine⟨N,λh=>?_,g2.elim (am r) λg=>N⟩;simp only[bW,fq,je]at h;rcases h with rfl|rfl
  .omega
  .rcases g2 with g2|g2
   .exact absurd (hT _ g2).2<|fu<|aR ao ar
   .omega
 generalize hM (hM (hM U H8) H9) Cw=Rt at G w NT Y ac|-;refine bN ?_;refine eU (λh=>absurd trivial h) λ_=>?_;have al:=G;have G:=G.base;refine fF ?_;refine G.oq λHn G=>?_;refine G.oq λHn G=>?_;refine splitK (λK hK=>?_) ?_
 .simp only[eZ,gN];apply nE (a:=rc) (b:=rp) n1 yX fQ fQ hK
 refine Lu.rr ?_;have d:∀r∈[rc,rp],r∉T':=λr d h=>(ac r h).2.1 d;refine⟨rp,O,T',rs,Z ⟨rf,0,T⟩,1,ha,hc,sa,sc,?_,w.stay G.ext d,λr d=>⟨.inr (ac r d).2.2,aP (ac r d).1 G.ext.bV⟩,d rp gB,NT.stay G.ext λr d=>.inr ?_,(Y.stay G.ext λr d=>.inr ?_).wk λ_ _=>trivial⟩
 .have h:=fV (A:=[_]) (al.over G);rw[show(ai.new A).st=(close A 0 [] [(A.S 0,0)]).sp.length from bB _];exact h
 all_goals
  simp only[i_,kI,bW,fq,je]at d;rcases d with rfl|rfl
  .exactλht=>absurd (ht.one (al.get 0 O).Gb) jg
  .exactλht=>absurd (ht.one (al.get 1 O).Gb) jg
end
section
variable{S:D Nat}{cs:Nat->Prop}{ev sv:C}{rp:Nat}{z:ai}
def Sm.ex(h:Sm S H0 H rp rw' most A z)(M:Ext H Q):Sm S H0 Q rp rw' most A z:=
 let⟨au,rs,fa,fc,II,htc,sa,sc,G,I,B,h3,h4,h5⟩:=h
 ⟨au,rs,fa,fc,II,htc,sa,sc,G.call M,I.stay M λr h=>(by cases h),λr b=>⟨(B r b).1,aP (B r b).2 M.bV⟩,h3,h4.ex M,h5.ex M⟩
def Sm.ext(h:Sm S H0 H rp rw' most A z):pN S H0 H:=let⟨_,_,_,_,_,_,_,_,G,_⟩:=h;G.ext
def Sm.wf(h:Sm S H0 H rp rw' most A z):Wf H:=let⟨_,_,_,_,_,_,_,_,G,_⟩:=h;G.wf
def P7.cell{s:Sk}(h:P7 au H rs s):∃a c,H.cell rs 0=Z (J a (u s+1) c):=by
 have⟨mn,ml,pv,uv,us,gP,gU,az,hq,gp,_⟩:=h;obtain⟨g,d,o,rfl,b⟩:=gp.OL;simp only[cO,uu,aM]at b;obtain rfl:d=u s+1:=N;exact⟨_,_,(hq.get 0 O).cell O⟩
def Sm.own(h:Sm S H0 H rp rw' most A z):∃S',(∀r∈S',(r∈S\/H0.bV<=r)/\r<H.bV)/\∀X Q,pN X H Q->(∀r∈X,r∉S'/\¬zW H r 86)->Sm S' Q Q rp rw' most A z:=by
 have⟨au,rs,fa,fc,II,htc,sa,sc,G,I,B,h3,h4,h5⟩:=h;have d:=G.lo _<|aK ..
 refine⟨rp::au,λr hr=>?_,λX Q M hX=>⟨au,rs,fa,fc,II,htc,sa,sc,⟨pN.refl _ _,λe b=>?_,λe b=>?_,G.ne,M.wf G.wf⟩,I.stay M λr hr g=>(hX r hr).1<|bJ _ g,λr hr=>⟨.inl<|bJ _ hr,aP (B r hr).2 M.bV⟩,h3,h4.stay M λr hr=>.inr (hX r hr).2,h5.stay M λr hr=>.inr (hX r hr).2⟩⟩
 .rcases bW.1 hr with rfl|hr
  .exact d
  .exact B r hr
 .rw[aS.1 b];exact(G.get 0 O).iB<|M.obj _ d.2 λhr=>(hX _ hr).1<|aK ..
 .rw[aS.1 b];exact⟨.inl<|aK ..,aP d.2 M.bV⟩
def NU{F:D C}(b:H.cell rp 0=Z (pr rw')):bM Pg X 48 [pr rp] H (Q0 (λv=>v=aO aA) H):=by
 refine lF [0,2] ?_;refine dA (v:=aO aA) fQ ?_;refine bN ?_;refine iV b<|dA (v:=aO aA) fQ<|Lu.rr ?_;exact⟨O,O⟩
def aeC(h:Sm S H0 H rp rw' most A z):bM Pg X 16 [pr rp] H (Q0 (λv=>v=aO z.ok) H):=by
 have⟨au,rs,fa,fc,II,htc,sa,sc,G,I,B,h3,h4,h5⟩:=h;refine lF [0,2] ?_;refine dA (v:=aO f) fQ ?_;refine bN ?_;refine G.qE<|Lu.rr ?_;exact⟨O,O⟩
def aeD(h:Sm S H0 H rp rw' most A z):bM Pg X 18 [pr rp] H (Q0 (λv=>v=W z.long) H):=by
 have⟨au,rs,fa,fc,II,htc,sa,sc,G,I,B,h3,h4,h5⟩:=h;refine lF [0,2] ?_;refine dA (v:=aO aA) fQ ?_;refine bN ?_;refine G.qE<|Lu.rr ?_;exact⟨O,O⟩
theorem UD(ho:A.Ok)(ht:A.ty<=65536)(hk:GN cs H0 rw' A q ev sv sb)(W:∀r,cs r->r∉S)(h:Sm S H0 H rp rw' most A z)(w:ai.vn A z)(Y:bnd A z.long<=8000000):
 bM Pg X 14 [pr rp] H (Q1 (λv Q=>K5 (H.bV<=·) Q v<|OO<|NS A z.sp) H):=by
 have⟨au,rs,fa,fc,II,htc,sa,sc,G,I,B,h3,h4,h5⟩:=h;have g:=hk.stay G.ext λr h hf=>W r hf h;refine lF [0,2] ?_;refine dn (NU (F:=[])<|(G.get 0 O).cell (o:=0) O) ?_;rintro _ d ⟨rfl,rfl⟩;refine fF ?_;refine dn (Y8 ho ht (oC d) (g.stay (Ext.hN d) nofun) (h4.ex<|Ext.hN d) (λp hp=>(w.b p hp).1)<|aR w.le Y) ?_;rintro v H2 ⟨⟨r,N,T,g3,U,g5⟩,M⟩;refine iY (by simp only[eZ,fP M];rfl) ?_;refine Lu.rr ?_;exact⟨⟨r,N,T,g3,U.iB O,g5⟩,M.draw⟩
theorem aj5(ho:A.Ok)(ht:A.ty<=65536)(hk:GN cs H0 rw' A q ev sv sb)(hF:∀r,cs r->r<H0.bV/\r∉S)(h:Sm S H0 H rp rw' most A z)(hz:ai.vn A z)(hL:Lim A (z.long+1)<|most-z.st)(be:z.st<=most)(hm:most<=1000000000000000)(bc:z.long<=100000)(t:Int):
 bM Pg X 22 [pr rp,vi t] H λv Q=>v=fJ ⟨[aO (decide<|off A z.sp t),vi 0]⟩/\Sm S H0 Q rp rw' most A (z.feed A t):=by
 have aw:bnd A z.long<=8000000:=aR (GM<|jr _) hL.b;have h0:=h;have⟨au,rs,fa,fc,II,htc,sa,sc,G,I,B,h3,h4,h5⟩:=h;refine lF [0,1,4,5,6,7,8,9] ?_;refine dn (NU (F:=[])<|(G.get 0 O).cell (o:=0) O) ?_;rintro _ H1 ⟨rfl,rfl⟩;refine fF ?_;refine dn (UD ho ht hk (λr h=>(hF r h).2) h0 hz aw) ?_;rintro v H2 ⟨a7,Y⟩;have h0:=h0.ex Y;have G:=G.call Y;have h4:=h4.ex Y;have I:=I.stay Y nofun;refine dn (aaM a7 t) ?_;rintro _ H3 ⟨rfl,rfl⟩;rw[aeB ho ht (λp hp=>(hz.b p hp).1)];refine yl (λhc=>?_) λhc=>?_
 .refine Lu.rr ?_;rw[dQ hc,show z.feed A t=z from jx hc];exact⟨O,h0⟩
 rw[bY hc,show z.feed A t=z.on A t from jj hc];apply G.qE;have⟨pa,pc,hcell⟩:=I.cell;refine dn (JD hcell) ?_;rintro _ H3 ⟨rfl,rfl⟩;have a0:∀{Q},pN S H0 Q->GN cs Q rw' A q ev sv sb:=λM=>hk.stay M λr h hf=>(hF r hf).2 h;have a1:=hz.sk.le;have aE:A.ns*(u z.sk+1)<=8000000:=aR (g_ _<|wh a1) aw;have a2:=aR hz.le aw;refine fF ?_;refine dn (amX ho (oC H3) (a0<|G.ext.trans'<|Ext.hN H3) (h4.ex<|Ext.hN H3) (λp hp=>hz.b p hp) aE a2) ?_;rintro _ H4 ⟨⟨na,nc,rfl,T⟩,ac⟩;refine iY (by simp only[eZ,fP ac];rfl) ?_;have G:=G.oD ac;have I:=I.stay ac.draw nofun;have h4:=h4.ex ac.draw;have T:jC (H3.bV<=·) 86 (hM H3 H4) na _ 2 _:=T;have ab:=ac.draw.bV;generalize hM H3 H4=U at G I h4 T ab|-;refine fF ?_;refine dA (v:=W<|z.long+1) ((gm N N).trans<|by rw[show((z.long:Int)+1)=((z.long+1:Nat):Int) by omega]) ?_;refine fF ?_;refine dA (v:=W<|most-z.st) ((qP N N).trans<|by rw[show((most:Int)-z.st)=((most-z.st:Nat):Int) by omega]) ?_;have a8:=a0<|G.ext.trans'<|Ext.hN U;have aq:∀r∈au,r∈S\/H0.bV<=r:=λr d=>(B r d).1;have ar:∀r∈au,r<H3.bV:=λr d=>aP (B r d).2 Y.bV;have a6:∀r∈au,r<U.bV:=λr d=>aP (ar r d) ab
 have a9:u (zO A z.sp t)<=8000000:=by
  rw[aez];exact aR (RJ.fold ho _ (λp hp=>hz.b p hp) ⟨ji,nofun⟩).le aE
 have a3:=G.ext.bV;have bb:=(G.lo _<|aK ..).2;have a4:=G.wf;refine dn (WY (hd:=λ_=>aA) (λQ _ r _=>aiv _) (l:=zO A z.sp t) ho a8 (λr d=>⟨aP (hF r d).1 a3,λh=>(aq r h).elim (hF r d).2<|fI (hF r d).1⟩) (I.stay (Ext.hN U) nofun) a6 (T.ex<|Ext.hN U) (λr d=>fI<|ar r d) (hz.nx ho t) (hz.sk.up<|jr _) hL a9 (by rw[ze];exact bD _)) ?_;rintro _ H8 ⟨ad,ao,am,an,T',rfl,w,a5,z8,NT,_⟩;rw[ze];rw[AU]at w NT|-;refine bN ?_;have G:=G.past z8.draw aq λe he=>by rw[aS.1 he];exact h3
 have w:=w.m a4 z8;have NT:jC (λ_=>True) 86 (hM U H8) ad _ 2 _:=NT.wk λ_ _=>trivial;have T:=T.stay z8.draw λr d=>.inl<|fI<|ar r d;have ba:z.on A t=ai.of (close A (z.long+1) z.sk<|zO A z.sp t) (z.long+1) z.st z.sk (zO A z.sp t):=rfl;have bf:=aR (YY ho (hz.sk.up<|jr _)<|hz.nx ho t).le hL.b;generalize close A (z.long+1) z.sk (zO A z.sp t)=y at*;refine G.nsD O O O λH9 rc Cw G c9 bd uD=>?_;have G:SH S H0 (hM (hM (hM U H8) H9) Cw) [(rc,68,[J ad (u y.sp) ao,aO y.ok,J am 0 an,W<|u y.sp]),(rp,92,[pr rw',pr rs,J fa (u z.fr) fc,W<|u z.s0+1,J sa (u z.sp) sc,aO z.ok,J II 0 htc,W<|u z.sp,W z.long,W z.st,W most,aO aA])]:=G;have n1:rc≠rp:=G.neT;refine splitK (λK hK=>?_) ?_
 .simp only[eZ,gN,c9];rcases xu U H8 with e|e<;>rw[e]<;>apply nE (a:=rc) (b:=rp) n1 yX fQ fQ hK
 have w:=w.stay uD nofun;have NT:=NT.ex uD;have T:=T.ex uD
 have al:∀r∈T',r<(hM (hM (hM U H8) H9) Cw).bV/\r∉[rc,rp]/\(r∈S\/H0.bV<=r):=λr d=>by
  have h7:(hN U).bV=U.bV:=rfl;have h8:=uD.bV;have g8:(hM U H8).bV=H8.bV:=rfl;have⟨g1,g2⟩:=a5 r d;refine⟨N,λh=>?_,g2.elim (aq r) λg=>.inr N⟩;simp only[bW,fq,je]at h;rcases h with rfl|rfl
  .omega
  .rcases g2 with g2|g2
   .exact h3 g2
   .omega
 generalize hM (hM (hM U H8) H9) Cw=Rt at G w NT T al|-;refine bN ?_;refine eU (λh=>absurd trivial h) λ_=>?_;have ap:=G;have G:=G.base;refine fF ?_;refine G.oq λHn G=>?_;refine G.oq λHn G=>?_;refine G.oq λHn G=>?_;refine splitK (λK hK=>?_) ?_
 .simp only[eZ,gN];apply nE (a:=rc) (b:=rp) n1 yX fQ fQ hK
 have G:=G.cast (L':=[(rc,68,[J ad (u y.sp) ao,aO y.ok,J am 0 an,W<|u y.sp]),(rp,92,[pr rw',pr rs,J na (u<|zO A z.sp t) nc,W<|u z.sk+1,J ad (u y.sp) ao,aO y.ok,J am 0 an,W<|u y.sp,W z.long,W z.st,W most,aO aA])]) O;apply G.qE;refine dA (v:=W<|z.long+1) ((gm N N).trans<|by rw[show((z.long:Int)+1)=((z.long+1:Nat):Int) by omega]) ?_;refine G.j_ λHn G=>?_;refine fF ?_;refine dA (v:=W<|z.st+u y.sp) ((gm N N).trans<|by rw[show((z.st:Int)+u y.sp)=((z.st+u y.sp:Nat):Int) by omega]) ?_;refine G.oq λHn G=>?_;refine splitK (λK hK=>?_) ?_
 .simp only[eZ,gN];apply nE (a:=rc) (b:=rp) n1 yX fQ fQ hK
 have d:∀r∈[rc,rp],r∉T':=λr d h=>(al r h).2.1 d;refine Lu.rr ?_;rw[ba];refine⟨O,T',rs,na,nc,am,an,ad,ao,fV (A:=[_])<|ap.over G,w.stay G.ext d,λr d=>⟨(al r d).2.2,aP (al r d).1 G.ext.bV⟩,d rp gB,NT.stay G.ext λr d=>.inr ?_,(T.stay G.ext λr d=>.inr ?_).wk λ_ _=>trivial⟩
 all_goals
  simp only[i_,kI,bW,fq,je]at d;rcases d with rfl|rfl
  .exactλht=>absurd (ht.one (ap.get 0 O).Gb) jg
  .exactλht=>absurd (ht.one (ap.get 1 O).Gb) jg
end
end Go.Proofs.Lv
namespace Go.Ae
variable{a:aC Addr}{K:C->R->Prop}{c es n:Nat}{L gb:D eF}{t ty:aI}{F:D C}{H H0:R}
section
variable{P:aX}{κ:Type}[DecidableEq κ]{e:κ->C}{S:D Nat}
def SH.aeE{q:aI×aI}(G:SH S H0 H L)(I:vk P t=Z q)(kk:∀H1 r,BX e (hM H H1) r (λ_=>T)->Ext H (hM H H1)->N9 H H1=cl 5->H.bV<=r->SH S H0 (hM H H1) L->K (gz<|Z r) H1):ME (vw P t (Z<|W n)<|Go.Ae.hN H) K:=by
 have M:Ext H (hM H<|(Go.Ae.hN H).new<|.map []):=(Ext.new (Go.Ae.hN H) _).draw;refine ME.of (v:=gz<|Z H.bV) (H:=(Go.Ae.hN H).new<|.map []) ?_<|kk _ _ ⟨[],dI _,by show((Go.Ae.hN H).new<|.map []).obj H.bV=_;exact(xV ..).trans<|jj O,λ_=>rfl⟩ M (xW<|Ext.new _ _) (ax _)<|G.call M;show aN (vk P t) _=_;rw[I];rfl
end
def aeF{r m:Nat}(h:m<=n)(d:n<=16777216):Tc es (J (Z ⟨r,0,T⟩) n n) T (Z<|W m) T=Z (J (Z ⟨r,0,T⟩) m n):=by
 show b_ (gZ n) (gd (aD 0 m&&aD m n&&aD n n&&f)<|Z<|J (Z ⟨r,sS n 0 0 es,T⟩) (dP m 0)<|dP n 0) _=_
 have b:sS n 0 0 es=0:=by
  unfold sS;cases aB n 0
  .show bq 0 (bP 0 es)=0;rw[show bP 0 es=0 from jq es]
  .rfl
 rw[show gZ n=f from aH N,oU,aH<|bD _,aH h,aH<|ax _,b];rfl
def GJ.cut{m:Nat}(b:GJ ty es (J a n c) F gb)(h:m<=n)(d:n<=16777216):∃c',Tc es (J a n c) T (Z<|W m) T=Z (J a m c'):=by
 rcases b with(⟨e,_,_⟩|⟨r,k,g,e,_⟩)|⟨r,k,e,_⟩<;>cases e
 .obtain rfl:m=0:=N;exact⟨_,Ye⟩
 .exact⟨_,De h⟩
 .exact⟨_,aeF h d⟩
def Fl.cut{m:Nat}(h:Fl H a n es F)(d:m<=n):Fl H a m es (F.take<|m*es):=by
 have o:=fH es d;have g:=h.1;refine⟨by rw[dS];omega,λi x b=>h.2 i x ?_⟩;rw[iq]at b;split at b
 .exact b
 .cases b
def SH.aj6{S:D Nat}{xs:D C}(G:SH S H0 H L)(b:0<es)(M:Fl H a n es xs)(g:0<n)(d:n<=16777216)(k:∀H1 r,SH S H0 (hM H H1) ((r,ty,xs)::L)->Ext H (hM H H1)->(CG H H1=cl 1)->H.bV<=r->K (J (Z ⟨r,0,T⟩) n<|gK es) H1):ME (Ch ty es (J T 0 0) (J a n c)<|Go.Ae.hN H) K:=by
 rw[Co (.inl O) (tT (M.ex<|Go.Proofs.Lv.Ext.hN H) b) d,jx N];exact k _ _ (G.zq ty xs) (Ext.new _ _).draw (fP<|Ext.new _ _)<|ax _
end Go.Ae
namespace Go.Proofs.Lu.Wk
variable{x:Nat}
section
variable{s:Sk}{A:At}{a i j k m n:Nat}
def yV(s:Sk)(k:Nat):D Nat:=if k=0 then[]else(mY s k).2.2
def zI(s:Sk)(i j k:Nat):D Nat:=if k<i then yV s k else if k=i then(yV s k).take j else[]
def aaO(h:u (yV s i)<=j):zI s i j=zI s (i+1) 0:=funext λk=>by
 unfold zI
 by_cases I:k<i
 .rw[jj I,jj N]
 rw[jx I]
 by_cases B:k=i
 .subst B;rw[jj O,jj N,dV h]
 .rw[jx B,jx N];split<;>rfl
def agT(h:j<u (yV s i)):x∈zI s i (j+1) k<->x∈zI s i j k\/(k=i/\x=(yV s i)[j]):=by
 unfold zI
 by_cases I:k<i
 .rw[jj I,jj I];exact⟨.inl,λh=>h.elim id λg=>absurd g.1 N⟩
 rw[jx I,jx I]
 by_cases B:k=i
 .subst B;rw[jj O,jj O,dU,av h,cB];simp only[Option.toList,aS,true_and]
 .rw[jx B,jx B];simp[B]
def aj7{l:Sk}{e:Nat×Nat×D Nat}(h:((l++[e]).map λe=>(e.1,e.2.1)).Nodup):K4 l e.1 e.2.1=T:=by
 unfold K4;rw[uy];intro x M;rw[dK,l7]at h;have:=h.2.2 (x.1,x.2.1) (bT.2 ⟨x,M,O⟩) (e.1,e.2.1) gB;simp only[ne_eq,yC,not_and]at this;cases hb:(x.1==e.1&&x.2.1==e.2.1)with
 |false=>simp
 |true=>simp only[bE,ni]at hb;exact absurd hb.2<|this hb.1
def aeG(h:(s.map λe=>(e.1,e.2.1)).Nodup)(hi:i<u s)(r a:Nat):K4 (s.take<|i+1) r a=if(r,a)=(s[i].1,s[i].2.1)then Z i else K4 (s.take i) r a:=by
 rw[dU,av hi]
 have hs:((s.take i++[s[i]]).map λe=>(e.1,e.2.1)).Nodup:=by
  refine List.Nodup.sublist (List.Sublist.map _ ?_) h;have:s.take i++[s[i]]=s.take (i+1):=by rw[dU,av hi];rfl
  rw[this];exact List.take_sublist _ _
 have:=UA (l:=s[i].2.2) (r':=r) (a':=a)<|aj7 hs;rw[dS,jF N]at this;exact this
end
end Go.Proofs.Lu.Wk
namespace Go.Proofs.Lv
open Go.Proofs.Lu Go.Proofs.Lu.Wk
open Go.Ae Go.Ae.hx
variable{v:C}
section
variable{H0 H:R}{L hx:D eF}{S au:D Nat}{rs ru rp mn ml rc:Nat}{s:Sk}{A:At}{a m i j:Nat}
def Sv(H:R)(rs:Nat)(s:Sk):Prop:=∃b d g w o x y,rs<H.bV/\Bk H rs 128 [J b (u s+1) d,J g (u s+1) w,x,y]/\Fl H b (u s+1) 2 (vi (-1)::W 0::BR (s.map λe=>(e.1,e.2.1)))/\
 (∀m,m<=u s+1->∃c',Tc 2 (J b (u s+1) d) T (Z<|W m) T=Z (J b m c'))/\Fl H g (u s+1) 1 o/\
 ∀k,k<=u s->∃a c,o[k]?=Z (J a (u<|yV s k) c)/\Fl H a (u<|yV s k) 1 (gq<|yV s k)
def P7.sv(h:P7 au H rs s)(hb:u s<=8000000):Sv H rs s:=by
 have⟨mn,ml,pv,uv,us,gP,gU,az,h,gp,gu,gR,m,l,ne,g,d⟩:=h;have I:=fV (A:=[_]) h;have B:=fV I;have O:=fV B;obtain⟨pa,n,pc,rfl,W,b⟩:=gp.fl I;obtain⟨ua,k,uc,rfl,U,T⟩:=gu.fl B;have o:n=u s+1:=by simp only[cO,uu,aM]at W;omega
 have w:k=u s+1:=by have:=gR.len;simp only[cO,aM]at this;omega
 subst o w;refine⟨pa,pc,ua,uc,us,_,_,(h.lo _<|aK ..).2,h.bk _<|aK ..,b,λm g=>gp.cut g N,T,λk U=>?_⟩;have Y:u us=u s+1:=N;obtain⟨a,n,c,e,d,b⟩:=gR.all (L:=[]) (by rw[bF];exact O) k N
 have M:((([]::s.map λe=>gq e.2.2)[k]?).getD []:D C)=gq (yV s k):=by
  unfold yV mY;cases k with
  |zero=>rfl
  |succ k=>
   rw[iA,bL,jx<|p8 k,jo,av (show k<u s by omega)];rfl
 rw[M]at d b;rw[aM]at d;obtain rfl:n=u (yV s k):=N;exact⟨a,c,by rw[av N,e],b.1⟩
def _root_.Go.Ae.Fl.ix1{n c k:Nat}{F:D C}{a:aC Addr}{K:C->C->R->Prop}(h:Fl H a n 1 F)(hk:k<n)(hv:F[k]?=Z v)(kk:∀p,K p v H):
 PU (BS 1 (J a n c)<|W k) λp=>ME (yh T p H) (K p):=by
 have⟨r,o,I,B,h3,_⟩:=h.idx (c:=c) (dI 0) hk;exact dA I<|iV (by simpa using h3 0 v (dI 0) (om hv))<|kk _
def UE:∀(l:D Sp)(m:Nat),(BR l).take (m*2)=BR (l.take m)
 |[],m=>by simp[BR]
 |p::l,0=>rfl
 |p::l,m+1=>by rw[iH];show W p.1::W p.2::(BR l).take (m*2)=_;rw[UE l m];rfl
def Ct(H0 H:R)(rc rp ru mn ml m:Nat)(s:Sk)(q i j:Nat):Prop:=∃b az,SH [] H0 H ((rc,128,[J (Z ⟨rp,0,T⟩) (m+1) (gK 2),J (Z ⟨ru,0,T⟩) (m+1)<|m+1,gz<|Z mn,gz<|Z ml])::(rp,161,vi (-1)::W 0::BR ((s.take m).map λe=>(e.1,e.2.1)))::(ru,22,b)::az)/\
 Jm 3 1 ((d_<|m+1).map λk=>gq<|zI s i j k) b az/\BX pE H mn (λp=>(K4 (s.take q) p.1 p.2).map λk=>W<|k+1)/\BX pE H ml (λp=>if p.1<=m/\p.2∈zI s i j p.1 then Z u0 else T)/\mn≠ml/\H0.bV<=mn/\H0.bV<=ml
def Ct.done(h:Ct H0 H rc rp ru mn ml m s m (m+1) 0)(w:m<=u s):∃T',P7 T' H rc (s.take m)/\(∀r∈T',H0.bV<=r/\r<H.bV)/\Ext H0 H:=by
 have⟨us,az,G,gR,mN,mL,ne,ln,ll⟩:=h;have d:u (s.take m)=m:=by rw[dS];omega
 have g:(d_<|m+1).map (λk=>gq<|zI s (m+1) 0 k)=[]::(s.take m).map λe=>gq e.2.2:=by
  apply ja
  .simp;omega
  .intro k I B;simp only[aM,l6]at I;rw[iD,lQ];unfold zI yV mY;rw[jj I];cases k with
   |zero=>rfl
   |succ k=>
    rw[jx (p8 k),List.getElem_cons_succ,iD,nT,jo,av N];rfl
 have o:∀p:Sp,(p.1<=m/\p.2∈zI s (m+1) 0 p.1)<->(0<p.1/\p.2∈(mY (s.take m) p.1).2.2):=by
  intro p;unfold zI yV mY;rcases gX p.1 with h0|h0
  .simp[h0]
  .by_cases hk:p.1<=m
   .rw[jj N,jx N,iq,jj N];simp[h0,hk]
   .have:(s.take m)[p.1-1]?=T:=dB (by rw[d];omega);rw[this];simp[hk]
 have⟨_,l1,_⟩:=id mN;have⟨_,l2,_⟩:=id mL;refine⟨mn::ml::((rc,128,[J (Z ⟨rp,0,T⟩) (m+1) (gK 2),J (Z ⟨ru,0,T⟩) (m+1)<|m+1,gz<|Z mn,gz<|Z ml])::(rp,161,vi (-1)::W 0::BR ((s.take m).map λe=>(e.1,e.2.1)))::(ru,22,us)::az:D eF).map (·.1),⟨mn,ml,_,_,us,[(rp,161,_)],[(ru,22,us)],az,G.base.weaken λr hr=>bJ _<|bJ _ hr,.inl<|.inr ⟨rp,m+1,[],rfl,?_,gB⟩,.inr ⟨ru,m+1,rfl,?_,rfl⟩,by rw[<-g];exact gR,?_,?_,ne,gB,gB⟩,λr hr=>?_,G.ext⟩
 .simp only[cO,uu,aM,d];omega
 .have:=gR.len;simp at this;omega
 .exact mN
 .have:(λp:Sp=>if 0<p.1/\p.2∈(mY (s.take m) p.1).2.2 then Z u0 else T)=λp=>if p.1<=m/\p.2∈zI s (m+1) 0 p.1 then Z u0 else T:=funext λp=>by simp only[o p]
  rw[this];exact mL
 .rcases bW.1 hr with rfl|hr
  .exact⟨ln,l1⟩
  rcases bW.1 hr with rfl|hr
  .exact⟨ll,l2⟩
  obtain⟨e,b,rfl⟩:=bT.1 hr;exact⟨G.yu b,(G.lo e b).2⟩
theorem aiz{K:Out->Prop}{x8 TG TH w:C}{E:Rs}(sv:Sv H0 rs s)(h:Ct H0 H rc rp ru mn ml m s i i 0)(hi:i<=m)(hm:m<=u s)(hc:∀aa∈yV s i,aa<=m)(hb:u s<=1000000)(Jz:u (yV s i)<=8000000)(k:∀x8 TG TH w E Q,Ct H0 Q rc rp ru mn ml m s i (i+1) 0->iC Pg X (sub (BG Pg 58) [1,1,1,1,0,1,0,0,1,1,1]) (cs Pg 58 (Fr.c 0 (pr rs)<|Fr.c 1 (W<|m+1)<|Fr.c 4 (bG T)<|Fr.c 5 (pr rc)<|Fr.c 6 (W i)<|Fr.c 8 x8<|Fr.c 35 (W<|m+1)<|Fr.c 36 (W i)<|Fr.c 59 TG<|Fr.c 60 TH<|Fr.c 61 w<|Fr.n) E Q) K):
 iC Pg X (sub (BG Pg 58) [1,1,1,1,0,1,0,0,1,1,0,0,1,1]) (cs Pg 58 (Fr.c 0 (pr rs)<|Fr.c 1 (W<|m+1)<|Fr.c 4 (bG T)<|Fr.c 5 (pr rc)<|Fr.c 6 (W i)<|Fr.c 8 x8<|Fr.c 35 (W<|m+1)<|Fr.c 36 (W i)<|Fr.c 59 TG<|Fr.c 60 TH<|Fr.c 61 w<|Fr.n) E H) (uk 1<|uQ Pg X (sub (BG Pg 58) [1,1,1,1,0,1,0,0,1,1,1]) K):=by
 have G:=h;have⟨us,az,G,gR,mN,mL,ne,ln,ll⟩:=G;have ab:=G.ext;have⟨pa,pc,ua,uc,ws,xx,yy,s1,s2,s3,s4,s5,s6⟩:=sv;have⟨ra,rcc,e1,f1⟩:=s6 i N;refine tp ?_;refine iV ((s2.iB<|ab.obj _ s1 nofun).cell (o:=1) O)<|(s5.ex ab).ix1 N e1 λ_=>?_;refine bN ?_;clear us az G gR mN mL ne ln ll;refine lp2 8 61 (h1:=λk x8 w Q=>∃j:Nat,w=W j/\j+k=u (yV s i)/\Ct H0 Q rc rp ru mn ml m s i i j) ?_ (u<|yV s i) ⟨0,rfl,bB _,h⟩;rintro n x8 w E H1 ⟨j,rfl,hj,g⟩;refine mG (λac=>?_) λac=>?_
 .refine k _ _ _ _ _ _ ?_;have e:zI s i j=zI s (i+1) 0:=aaO N;unfold Ct at g|-;rw[e]at g;exact g
 have d:j<u (yV s i):=N;have⟨us,az,G,gR,mN,mL,ne,ln,ll⟩:=g;refine(f1.ex G.ext).ix1 d (AQ d) λ_=>?_;rw[getD_in (h:=d)];have hu:=hc _<|bH d;generalize hue:(yV s i)[j]=aa at hu|-;refine bN ?_;refine aV (λJM=>?_) λJM=>N;have h4:=G;have G:=G.base;have am:u us=m+1:=by have:=gR.len;simpa using this.symm
 obtain⟨A',gb,h2,rfl,U,Y⟩:=gR.at i N
 have ad:((d_<|m+1).map λk=>gq<|zI s i j k)[i]?.getD []=gq ((yV s i).take j):=by
  rw[bL,tX N];show gq (zI s i j i)=_;unfold zI;rw[jx (mI i),jj O]
 rw[ad]at U;have al:us[i]?=Z us[i]:=av N;refine fF ?_;refine G.R8 (k:=i) N al<|G.kN ?_;refine U.GL G O O O (by rw[aM,dS];omega) λq H5 v' H6 iX VQ G c5 c6 h5=>?_;obtain⟨va,vl,vc,rfl⟩:=VQ.sl;have h6:=G;refine G.Rj (k:=i) N N (kk:=λH7 G=>?_);have n2:ru≠rc:=h5.neT;refine splitK (λK hK=>?_) ?_
 .have r1:∀{a b:R},oV ⟨2,0,0,0,hM H1 H5,H6⟩ ⟨4,rc,1,1,a,b⟩=f:=h5.rd h6 λv hv=>by
   have hv:v∈[J (Z ⟨ru,0,T⟩) (m+1) (m+1)]:=hv;rw[aS]at hv;subst hv;exact qR _ _ _ λx h=>by cases h;rfl
  have r2:∀{a b:R},oV ⟨2,0,0,0,hM H1 H5,H6⟩ ⟨4,ru,i,1,a,b⟩=f:=h5.rd h6 (λv hv=>by
   rw[eH N,jS,kR,aS]at hv;subst hv;exact Cx gR _<|bH _) N
  simp only[c5,eZ,gN];rcases c6 with e|e<;>rw[e]<;>apply Ie (A:=hM H1 H5) (h2:=H6) (a:=ru) (b:=rc) n2 (by rfl) fQ fQ hK<;>repeat' apply iZ
  all_goals first|exact trivial|(intro h;cases h;done)|exactλ_=>⟨rfl,rfl⟩|exactλ_=>r1|exactλ_=>r2
 have m4:=mL.ex G.ext<|h4.zP mL;have m3:=mN.ex G.ext<|h4.zP mN;have G:=h4.over G;generalize hM (hM (hM H1 H5) H6) H7=H8 at G m3 m4|-;refine fF ?_;refine dA (v:=u0) O<|G.ajU (e:=pE) (k:=(i,aa)) (.inr ll) m4 NP aeo λH9 m9 G GY=>?_;refine eD ?_;refine⟨n-1,N,_,_,_,_,O,j+1,pq,N,us.set i<|J va vl vc,A'++(iX++h2),G,?_,m3.ex GY<|om ne,m9.plus λp=>?_,ne,ln,ll⟩
 .have:=Y (J va vl vc) _ iX VQ
  have e:((d_<|m+1).map λk=>gq<|zI s i j k).set i (gq ((yV s i).take j)++cr (W aa))=(d_<|m+1).map λk=>gq (zI s i (j+1) k):=by
   apply ja
   .simp
   .intro k I B;rw[vU,iD,iD,lQ];unfold zI
    by_cases hk:i=k
    .subst hk;rw[jj O,jx<|mI i,jj O,dU,av d,hue];exact(show gq (((yV s i).take j)++[aa])=gq ((yV s i).take j)++[W aa]from dK).symm
    .rw[jx hk]
     by_cases M:k<i
     .rw[jj M,jj M]
     .rw[jx M,jx M,jx N,jx N]
  rw[<-e];exact this
 .rw[agT d,hue];constructor
  .rintro⟨I,B|⟨B,M⟩⟩
   .exact .inl ⟨I,B⟩
   .exact .inr<|Prod.ext B M
  .rintro(⟨I,B⟩|B)
   .exact⟨I,.inl B⟩
   .subst B;exact⟨hi,.inr ⟨O,O⟩⟩
def aoV(hw:Wf H)(h:P7 au H rs s)(hm:m<=u s)(hW:Sk.vn A a s)(ad:∀e∈s.take m,∀aa∈e.2.2,aa<=m)(hb:u s<=1000000):bM Pg X 58 [pr rs,W<|m+1] H λv Q=>∃T' rc,v=pr rc/\P7 T' Q rc (s.take m)/\(∀r∈T',H.bV<=r/\r<Q.bV)/\Ext H Q:=by
 have sv:=h.sv N;have⟨ca,cc,hcell⟩:=h.cell;refine lF [0,1,4,5,6,8,35,36,59,60,61] ?_;refine dn (JD hcell) ?_;rintro _ g ⟨rfl,rfl⟩;refine bN ?_;refine aV (λhc=>N) λ_=>?_;have⟨pa,pc,ua,uc,us,xx,yy,s1,s2,s3,s4,s5,s6⟩:=id sv;refine iV (s2.cell O) ?_;refine bN ?_;rw[show min (max ((m+1:Nat):Int) 1) ((u s+1:Nat):Int)=((m+1:Nat):Int) by omega];refine iV ((s2.iB (Q:=hN g) O).cell O) ?_;have G:=gM hw;rw[iU hw];have⟨pc',e4⟩:=s4 (m+1) N;refine dA e4 ?_;have hf:=s3.cut (m:=m+1) N
 rw[show(vi (-1)::W 0::BR (s.map λe=>(e.1,e.2.1))).take ((m+1)*2)=vi (-1)::W 0::BR ((s.take m).map λe=>(e.1,e.2.1)) by
  rw[iH];show vi (-1)::W 0::(BR<|s.map λe=>(e.1,e.2.1)).take (m*2)=_;rw[UE,qA]]at hf
 refine G.aj6 jg hf (wS m) N λH2 rp G ab c2 g2=>G.amH (ax _) N λU ru G c3 B g3=>G.aeE (e:=pE) NN λH4 mn w an c4 g4 G=>G.aeE (e:=pE) NP λH5 ml al am c5 g5 G=>?_;refine fF ?_;refine G.ajT O λH6 rc xJ c6 ac g6=>iY (by simp only[eZ,c2,c3,c4,c5,c6];rfl) ?_;have n1:=(w.ex am nofun).ex ac nofun;have n2:=al.ex ac nofun;have n3:mn≠ml:=by have⟨_,I,_⟩:=w;omega
 have n4:g.bV<=mn:=aR ab.bV<|aR B.bV g4;have n5:g.bV<=ml:=aR n4<|aR (by have⟨_,I,_⟩:=w;exact Nat.le_of_lt I) g5;generalize hM (hM (hM (hM (hM g H2) U) H4) H5) H6=H7 at xJ n1 n2|-
 have d:Ct g H7 rc rp ru mn ml m s 0 0 0:=by
  refine⟨aY (m+1)<|J T 0 0,[],xJ.perm ?_,?_,?_,?_,n3,n4,n5⟩
  .rw[show qd [J T 0 0] (m+1)=aY (m+1) (J T 0 0)from nC _ _];exact((iF _ _ _).cons _)
  .have:(d_<|m+1).map (λk=>gq<|zI s 0 0 k)=aY (m+1) []:=by
    rw[List.eq_replicate_iff];refine⟨gB,λx M=>?_⟩;obtain⟨k,_,rfl⟩:=bT.1 M;unfold zI;rw[jx (iN k)];split<;>rfl
   rw[this];exact Jm.aaa _
  .simpa [K4]using n1
  .have:∀k,zI s 0 0 k=[]:=λk=>by unfold zI;rw[jx (iN k)];split<;>rfl
   simpa [this]using n2
 refine lp6 6 8 36 59 60 61 (h1:=λk x6 x8 KI TG TH J_ Q=>∃i:Nat,KI=W i/\i+k=m+1/\Ct g Q rc rp ru mn ml m s (i-1) i 0) ?_ (m+1) ⟨0,rfl,bB _,d⟩;rintro k x6 x8 KI TG TH J_ E H2 ⟨i,rfl,hi,d⟩;refine mG (λhc=>?_) λhc=>?_
 .obtain rfl:i=m+1:=N;have⟨T',d1,d2,d3⟩:=d.done hm;refine tl<|Lu.rr ?_;exact⟨T',rc,O,d1,d2,d3⟩
 refine nO (λh0=>?_) λh0=>?_
 .obtain rfl:i=0:=N;refine aiz sv d N hm (by unfold yV;simp) hb (by unfold yV;simp) λx8 TG TH J_ E U h3=>?_;refine tl ?_;refine eD ?_;exact⟨m,N,_,_,_,_,_,_,_,_,O,1,O,N,h3⟩
 .have⟨us,az,G,gR,mN,mL,ne,ln,ll⟩:=d;have ab:=G.ext;refine fF ?_;obtain⟨i,rfl⟩:∃i',i=i'+1:=⟨i-1,N⟩;have o:i<u s:=N;refine dA (uK (show i+1<m+1 by omega)) ?_;have Y:u (BR<|(s.take m).map λe=>(e.1,e.2.1))=m*2:=by rw[uu,aM,dS];omega
  refine G.Py ?_ (by simp only[cO,Y];omega);refine G.kN ?_
  have e5:((vi (-1)::W 0::BR ((s.take m).map λe=>(e.1,e.2.1))).drop<|(i+1)*2).take 2=[W s[i].1,W s[i].2.1]:=by
   rw[show(i+1)*2=i*2+1+1 by omega,tV,tV];exact EP (p:=(s[i].1,s[i].2.1)) (by rw[bL,iq,jj N,av o];rfl)
  rw[e5];have n1:rp≠rc:=G.neT;refine G.aem (e:=pE) (k:=(s[i].1,s[i].2.1)) (.inr ln) mN NN aen λU m3 G B c3=>?_;refine splitK (λK hK=>?_) ?_
  .simp only[eZ,c3];generalize(i+1)*2=kk;apply nE (a:=rp) (b:=rc) n1 yX fQ fQ hK
  have d:Ct g (hM H2 U) rc rp ru mn ml m s (i+1) (i+1) 0:=by
   refine⟨us,az,G,gR,?_,mL.ex B<|om ne.symm,ne,ln,ll⟩
   have:(λp:Sp=>(K4 (s.take<|i+1) p.1 p.2).map λk=>W<|k+1)=λj=>if j=(s[i].1,s[i].2.1)then Z (W<|i+1)else(K4 (s.take i) j.1 j.2).map λk=>W (k+1):=funext λj=>by
    rw[aeG hW.nd o];split<;>rfl
   rw[this];exact m3
  have Jz:=hW.few<|i+1;refine aiz sv d N hm (λaa hu=>?_) hb (by unfold yV;rw[jx (p8 i)];omega) λx8 TG TH J_ E U h3=>?_
  .refine ad s[i] (kL.2 ⟨i,by rw[dS];omega,by rw[nT]⟩) aa ?_;unfold yV at hu;rw[jx (p8 i),GQ o]at hu;exact hu
  refine tl ?_;refine eD ?_;exact⟨m-(i+1),N,_,_,_,_,_,_,_,_,O,i+2,by rw[show(((i+1:Nat):Int)+1)=((i+2:Nat):Int) by omega],N,h3⟩
end
end Go.Proofs.Lv
namespace Go.Proofs.Lu
namespace Wk
variable{a k n st:Nat}
variable{A:At}{hd hd0 em:Nat->Bool}{x y X:Rn}{s t t':Sk}{p q:Sp}{e:Ed}
def Nm(s t:Sk)(k m:Nat):Prop:=(k=0/\m=0)\/(1<=k/\k<=u s/\1<=m/\m<=u t/\(mY s k).1=(mY t m).1/\(mY s k).2.1=(mY t m).2.1)
def RL(I:1<=k)(B:k<=u s):mY s k=s[k-1]'N:=by
 unfold mY;rw[av N];rfl
def Sk.vn.one(h:Sk.vn A a t){m:Nat}(I:1<=m)(B:m<=u t)(T:1<=n)(U:n<=u t)(d:(mY t m).1=(mY t n).1)(e2:(mY t m).2.1=(mY t n).2.1):m=n:=by
 rw[RL I B,RL T U]at d e2;have W:=h.nd
 have b:∀{i j:Nat}(w:i<u t)(M:j<u t),i<j->t[i].1=t[j].1->t[i].2.1=t[j].2.1->False:=λ{i j} w M o N O=>by
  have:=lI.1 W i j (by rw[aM];exact w) (by rw[aM];exact M) o;rw[iD,iD]at this;exact this<|Prod.ext N O
 rcases kW (m-1) (n-1)with g|g|g
 .exact(b _ _ g d e2).elim
 .omega
 .exact(b _ _ g d.symm e2.symm).elim
def Nm.uniq{m:Nat}(h:Sk.vn A a t)(I:Nm s t k m)(B:Nm s t k n):m=n:=by
 rcases I with⟨rfl,rfl⟩|⟨U,W,b,d,g,o⟩
 .rcases B with⟨_,rfl⟩|⟨w,_⟩
  .rfl
  .omega
 .rcases B with⟨rfl,_⟩|⟨w,Y,M,N,O,T⟩
  .omega
  .exact h.one b d M N (g.symm.trans O)<|o.symm.trans T
def Nm.le{m:Nat}(h:Nm s t k m)(g:s.Le t'):Nm t' t k m:=by
 rcases h with h|⟨b,d,o,w,B,I⟩
 .exact .inl h
 .have⟨g1,g2,_⟩:=g.key k b d;exact .inr ⟨b,aR d g.len,o,w,g1.trans B,g2.trans I⟩
structure IJ(A:At)(y X:Rn):Prop where
 nd:∀k,1<=k->k<=u y.sk->∃m,Nm y.sk X.sk k m/\∀aa∈(mY y.sk k).2.2,∃v,Nm y.sk X.sk aa v/\v∈(mY X.sk m).2.2
 sp:∀p∈y.sp,∃m,Nm y.sk X.sk p.2 m/\(p.1,m)∈X.sp
 en:∀k∈y.en,∃st∈A.sp,(st,k)∈y.sp
 ok:y.ok=f->X.ok=f
def Rn.IK:(x.meet p).en=x.en:=by unfold Rn.meet;split<;>rfl
def Rn.Y9:(x.meet p).ok=x.ok:=by unfold Rn.meet;split<;>rfl
def Rn.UF(h:q∈(x.meet p).sp):q∈x.sp\/q=p:=by
 unfold Rn.meet at h;split at h
 .exact .inl h
 .rcases cB.1 h with h|h
  .exact .inl h
  .exact .inr<|aS.1 h
theorem IJ.meet{m:Nat}(h:IJ A y X)(g:Nm y.sk X.sk p.2 m)(o:(p.1,m)∈X.sp):IJ A (y.meet p) X:=by
 have e:=Rn.pR (x:=y) (p:=p);refine⟨by rw[e];exact h.nd,λq b=>?_,λk d=>?_,by rw[Rn.Y9];exact h.ok⟩
 .rw[e];rcases Rn.UF b with b|rfl
  .exact h.sp q b
  .exact⟨m,g,o⟩
 .rw[Rn.IK]at d;have⟨st,I,B⟩:=h.en k d;exact⟨st,I,Rn.sW.1.mem B⟩
def IJ.meets{ay:Nat->Sp}(l:D Nat):∀y:Rn,IJ A y X->(∀aa∈l,∃m,Nm y.sk X.sk (ay aa).2 m/\((ay aa).1,m)∈X.sp)->IJ A (l.foldl (λy aa=>y.meet<|ay aa) y) X:=by
 induction l with
 |nil=>exactλy h _=>h
 |cons aa l d=>
  intro y h b;have⟨m,I,B⟩:=b aa gB;exact d _ (h.meet I B) λv hv=>by rw[Rn.pR];exact b v (by simp[hv])
def IJ.hit{k:Nat×Sp}(h:IJ A y X):IJ A (y.hit k) X:=by
 have⟨I,B,h3,h4⟩:=Rn.vH (x:=y) (h:=k);refine⟨?_,?_,?_,?_⟩
 .rw[I];exact h.nd
 .rw[I,B];exact h.sp
 .rw[B,h3];exact h.en
 .rw[h4];exact h.ok
def Rn.Cl.via(ho:A.Ok)(w:∀r,r<A.nr->(em r=f<->A.Mk aA (A.S r)))(hX:X.Cl A hd em a)(hW:X.vn A a)(h:A.Mk aA st):∀k,1<=k->k<=u X.sk->(st,k)∈X.sp->∀aa∈(mY X.sk k).2.2,((mY X.sk k).1,aa)∈X.sp:=by
 induction h with
 |stop r O=>
  intro k I B o aa W
  have hs:A.P r∈A.sp:=by
   unfold At.P;rw[av (show r<u A.sp by rw[ho.YO];exact O)];exact bH _
  exact(hX.en k<|(hX.d _ o).b hs (show k≠0 by omega)).2.2 aa W
 |edge st e he I B h3 Y ab=>
  intro k M N o aa W;have T:=(hW.b _ o).1;have⟨d1,d2,d3⟩:=(hX.d _ o).e e he;have n1:e.1≠1:=λg=>Bool.noConfusion<|I g
  have U:(e.2.2,k)∈X.sp:=by
   by_cases g:e.1=2
   .have O:e.2.1<A.nr:=by
     rcases(ho.e _ T e he).2.2 with c|c|c
     .omega
     .omega
     .exact c.2
    cases hh:hd e.2.1 with
    |true=>exact(d2 g hh).2<|(w _ O).2<|B g
    |false=>
     have⟨j,j1,j2,j3,_,j5,j6⟩:=d3 g hh;have:=Y g j j1 j2 j6 k j5
     rwa [j3]at this
   .exact d1 n1 g
  exact ab k M N U aa W
theorem IJ.back(hX:X.Cl A hd0 em a)(O:X.vn A a)(h:IJ A y X)(W:y.vn A a)(o:p∈y.sp)(hs:p.1∈A.sp):IJ A (y.back p) X:=by
 have⟨m,I,B⟩:=h.sp p o;unfold Rn.back;split
 .next w=>
  refine⟨h.nd,h.sp,h.en,λ_=>(hX.d _ B).z hs ?_⟩;rcases I with⟨_,I⟩|⟨I,_⟩
  .exact I
  .omega
 split
 .exact h
 .next w _=>
  have⟨m',g1,g2⟩:=h.nd p.2 N (W.b p o).2;obtain rfl:=Nm.uniq O.sk I g1;rcases I with⟨I,_⟩|⟨Y,a2,a3,a4,M,a6⟩
  .exact absurd I w
  have T:m∈X.en:=(hX.d _ B).b hs (show m≠0 by omega);have⟨_,_,e3⟩:=hX.en m T;refine IJ.meets (ay:=λg=>((mY y.sk p.2).1,g)) _ _ ⟨h.nd,h.sp,λk hk=>?_,h.ok⟩ λg U=>?_
  .rcases bW.1 hk with rfl|hk
   .exact⟨p.1,hs,o⟩
   .exact h.en k hk
  .have⟨v,v1,v2⟩:=g2 g U;exact⟨v,v1,by show((mY y.sk p.2).1,v)∈X.sp;rw[M];exact e3 v v2⟩
def IJ.along(ho:A.Ok)(O:∀r,r<A.nr->(em r=f<->A.Mk aA (A.S r)))(hX:X.Cl A hd0 em a)(hW:X.vn A a)(hh:∀r,hd0 r=f->hd r=f)(h:IJ A y X)(hy:y.vn A a)(hp:p∈y.sp)(he:e∈A.rg p.1):IJ A (y.iJ A hd em a p e) X:=by
 have⟨m,I,B⟩:=h.sp p hp;have al:=(hy.b p hp).1;have⟨d1,d2,d3⟩:=(hX.d _ B).e e he;unfold Rn.iJ;split
 .next hc=>
  have hr:e.2.1<A.nr:=by
   rcases(ho.e _ al e he).2.2 with c|c|c
   .omega
   .omega
   .exact c.2
  split
  .next hm=>
   refine h.hit.meet (p:=(e.2.2,p.2)) (by rw[Rn.vH.1];exact I) ?_;cases g:hd0 e.2.1 with
   |true=>exact(d2 hc.1 g).2 hm
   |false=>
    have⟨j,j1,j2,j3,_,j5,j6⟩:=d3 hc.1 g;have:=hX.via ho O hW ((O _ hr).1 hm) j j1 j2 j6 m j5
    rwa [j3]at this
  .exact h.hit
 next hc=>
 unfold Rn.along;split
 .exact h
 next n1=>
 split
 .next Y=>
  have g0:hd0 e.2.1=aA:=by
   cases g:hd0 e.2.1 with
   |true=>exact absurd ⟨Y,hh _ g⟩ hc
   |false=>rfl
  have⟨j,j1,j2,j3,j4,j5,j6⟩:=d3 Y g0;have w:=aef y.sk e.2.2 a p.2;generalize put y.sk e.2.2 a p.2=H' at w|-;have U:Nm H'.1 X.sk H'.2.1 j:=.inr ⟨w.lo,w.hi,j1,j2,w.kr.trans j3.symm,w.ka.trans j4.symm⟩
  have s1:IJ A {y with sk:=H'.1} X:=by
   refine⟨λk W M=>?_,λq ad=>?_,h.en,h.ok⟩
   .have M:k<=u H'.1:=M;show∃m,Nm H'.1 X.sk k m/\∀N∈(mY H'.1 k).2.2,∃v,Nm H'.1 X.sk N v/\v∈(mY X.sk m).2.2
    by_cases hkq:k=H'.2.1
    .subst hkq;refine⟨j,U,λN hu=>?_⟩;rcases w.o _ W M N hu with⟨b1,b2⟩|⟨_,rfl,_⟩
     .have⟨m0,c1,c2⟩:=h.nd _ W b1;have⟨v,v1,v2⟩:=c2 N b2;obtain rfl:=Nm.uniq hW.sk (c1.le w.le) U;exact⟨v,v1.le w.le,v2⟩
     .exact⟨m,I.le w.le,j5⟩
    .have ac:k<=u y.sk:=pZ λg=>hkq (w.n k g M);have⟨m0,c1,c2⟩:=h.nd _ W ac;refine⟨m0,c1.le w.le,λN hu=>?_⟩;rcases w.o _ W M N hu with⟨b1,b2⟩|⟨b,_⟩
     .have⟨v,v1,v2⟩:=c2 N b2;exact⟨v,v1.le w.le,v2⟩
     .exact absurd b hkq
   .have⟨m0,c1,c2⟩:=h.sp q ad;exact⟨m0,c1.le w.le,c2⟩
  have s2:=s1.meet (p:=(A.S e.2.1,H'.2.1)) U j6;have e2:(({y with sk:=H'.1}:Rn).meet (A.S e.2.1,H'.2.1)).sk=H'.1:=Rn.pR;have e3:(({y with sk:=H'.1}:Rn).meet (A.S e.2.1,H'.2.1)).en=y.en:=Rn.IK;unfold Rn.hop;split
  .next T=>
   rw[e3]at T;refine s2.meet (p:=(e.2.2,p.2)) (m:=m) (by rw[e2];exact I.le w.le) ?_;have⟨st,t1,t2⟩:=h.en _ T.1;have⟨j',c1,c2⟩:=h.sp _ t2;obtain rfl:=Nm.uniq hW.sk (c1.le w.le) U;have ab:=(hX.d _ c2).b t1 (show j'≠0 by omega);have:=(hX.en _ ab).2.2 m j5
   rwa [j3]at this
  .exact s2
 .next Y=>exact h.meet (p:=(e.2.2,p.2)) I<|d1 n1 Y
def IJ.EO(ho:A.Ok)(w:∀r,r<A.nr->(em r=f<->A.Mk aA (A.S r)))(hX:X.Cl A hd0 em a)(O:X.vn A a)(U:∀r,hd0 r=f->hd r=f)(l:D Ed):∀y:Rn,(∀e∈l,e∈A.rg p.1)->IJ A y X->y.vn A a->p∈y.sp->IJ A (l.foldl (Rn.iJ A hd em a p) y) X:=by
 induction l with
 |nil=>exactλy _ h _ _=>h
 |cons e l W=>
  intro y B h M I;have T:=M.b p I;have g:=M.iJ (hd:=hd) (em:=em) ho T<|B e gB;refine W _ (λd hd=>B d<|by simp[hd]) (h.along ho w hX O U M I<|B e gB) g.1 ?_
  have N:∀{z:Rn},p∈z.sp->p∈(z.iJ A hd em a p e).sp:=λ{z} o=>by
   unfold Rn.iJ;split
   .split
    .exact Rn.sW.1.mem<|Rn.NK.1.mem o
    .exact Rn.NK.1.mem o
   unfold Rn.along;split
   .exact o
   split
   .have:p∈(({z with sk:=(put z.sk e.2.2 a p.2).1}:Rn).meet (A.S e.2.1,(put z.sk e.2.2 a p.2).2.1)).sp:=Rn.sW.1.mem o;unfold Rn.hop;split
    .exact Rn.sW.1.mem this
    .exact this
   .exact Rn.sW.1.mem o
  exact N I
def IJ.one(ho:A.Ok)(d:∀r,r<A.nr->(em r=f<->A.Mk aA (A.S r)))(hX:X.Cl A hd0 em a)(g:X.vn A a)(w:∀r,hd0 r=f->hd r=f)(h:IJ A y X)(o:y.vn A a)(b:p∈y.sp):IJ A (y.tF A hd em a p) X:=by
 unfold Rn.tF;split
 .next hs=>
  refine IJ.EO ho d hX g w _ _ (λ_ h=>h) (h.back hX g o b hs) (o.back b) ?_;unfold Rn.back;split
  .exact b
  split
  .exact b
  .exact(Rn.Ux (ay:=λB=>((mY y.sk p.2).1,B)) (mY y.sk p.2).2.2 {y with en:=p.2::y.en}).1.mem b
 .exact IJ.EO ho d hX g w _ _ (λ_ h=>h) h o b
def Y_(ho:A.Ok)(b:∀r,r<A.nr->(em r=f<->A.Mk aA (A.S r)))(hX:X.Cl A hd0 em a)(d:X.vn A a)(g:∀r,hd0 r=f->hd r=f):∀n i y,IJ A y X->y.vn A a->IJ A (DV A hd em a n i y) X
 |0,_,y,h,_=>h
 |n+1,i,y,h,hy=>by
  show IJ A (match y.sp[i]? with|none=>y|some p=>DV A hd em a n (i+1)<|y.tF A hd em a p) X;cases hp:y.sp[i]? with
  |none=>exact h
  |some p=>
   have o:=aT hp;exact Y_ ho b hX d g n (i+1) _ (h.one ho b hX d g hy o)<|hy.tF ho o
def Xa(ho:A.Ok)(M:∀r,r<A.nr->(em r=f<->A.Mk aA (A.S r)))(Y:∀r,hd0 r=f->hd r=f){l:D Sp}(hs:Sk.vn A a s)(hl:∀p∈l,p.1<A.ns/\p.2<=u s):IJ A (lG A hd em a s l) (lG A hd0 em a s l):=by
 have⟨hX,hle⟩:=aaK (hd:=hd0) (em:=em) ho hs hl;have T:=ID (hd:=hd0) (em:=em) ho hs hl;have w0:Rn.vn A a ⟨s,[],[],aA,[]⟩:=⟨hs,ji,nofun⟩;generalize lG A hd0 em a s l=X at hX hle T
 have N:∀(l:D Sp)(x:Rn),x.Le (l.foldl Rn.meet x)/\(l.foldl Rn.meet x).sk=x.sk/\(l.foldl Rn.meet x).en=x.en/\(l.foldl Rn.meet x).ok=x.ok/\∀p∈(l.foldl Rn.meet x).sp,p∈x.sp\/p∈l:=by
  intro l
  induction l with
  |nil=>exactλx=>⟨.refl _,rfl,rfl,rfl,λp h=>.inl h⟩
  |cons p l ih=>
   intro x;have⟨g1,g2,g3,g4,g5⟩:=ih<|x.meet p;refine⟨Rn.sW.1.trans g1,g2.trans Rn.pR,g3.trans Rn.IK,g4.trans Rn.Y9,λq hq=>?_⟩;rcases g5 q hq with h|h
   .rcases Rn.UF h with h|rfl
    .exact .inl h
    .exact .inr<|aK ..
   .exact .inr<|bJ _ h
 have⟨g1,g2,g3,g4,g5⟩:=N l ⟨s,[],[],aA,[]⟩;have g:s.Le X.sk:=by have:=hle.sk;rwa [g2]at this
 have d:∀{k},k<=u s->Nm s X.sk k k:=λ{k} o=>by
  rcases gX k with rfl|h0
  .exact .inl ⟨O,O⟩
  .have⟨a1,a2,_⟩:=g.key k h0 o;exact .inr ⟨h0,o,h0,aR o g.len,a1.symm,a2.symm⟩
 refine Y_ ho M hX T Y _ _ _ ⟨λk I B=>?_,λp U=>?_,λk o=>?_,λh=>?_⟩<|Dt l _ w0 hl
 .rw[g2]at B|-;refine⟨k,d B,λw W=>⟨w,d ?_,(g.key k I B).2.2 w W⟩⟩;have N:mY s k∈s:=by rw[RL I B];exact bH _
  exact(hs.b _ N).2 w W
 .rw[g2];rcases g5 p U with h|h
  .cases h
  .exact⟨p.2,d (hl p h).2,hle.mem U⟩
 .rw[g3]at o;cases o
 .rw[g4]at h;cases h
end Wk
namespace Wk
variable{A:At}{hd em:Nat->Bool}{a:Nat}{x:Rn}{s t:Sk}{p:Sp}{e:Ed}
def aeH(hs:∀e∈s,e.2.1<a)(h:t.take (u s)=s)(hl:u s<=u t)(r aa:Nat):(put t r a aa).1.take (u s)=s/\u s<=(put t r a aa).1.length:=by
 unfold put;split
 .next i d=>
  have⟨I,B,h3,h4⟩:=IC d;split
  .exact⟨h,hl⟩
  .refine⟨?_,by rw[bU];exact hl⟩
   by_cases hc:i<u s
   .have b:mY t (i+1)=s[i]:=by
     have:t[i]?=s[i]?:=by
      have:=eY (λl=>l[i]?) h;simpa [iq,hc]using this
     unfold mY;rw[jo,this,av hc];rfl
    rw[b]at h3;have:=hs _<|bH hc;omega
   .rw[List.take_set_of_le N];exact h
 .refine⟨?_,by simp;omega⟩;rw[lS hl];exact h
def Xb(hs:∀e∈s,e.2.1<a)(h:x.sk.take (u s)=s/\u s<=u x.sk):(x.iJ A hd em a p e).sk.take (u s)=s/\u s<=(x.iJ A hd em a p e).sk.length:=by
 unfold Rn.iJ;split
 .split
  .rw[Rn.pR,Rn.vH.1];exact h
  .rw[Rn.vH.1];exact h
 unfold Rn.along;split
 .exact h
 split
 .have g:=aeH hs h.1 h.2 e.2.2 p.2;have b:∀q,(({x with sk:=(put x.sk e.2.2 a p.2).1}:Rn).meet q).sk=(put x.sk e.2.2 a p.2).1:=λq=>Rn.pR;unfold Rn.hop;split
  .rw[Rn.pR,b];exact g
  .rw[b];exact g
 .rw[Rn.pR];exact h
def UG(hs:∀e∈s,e.2.1<a):∀n i x,x.sk.take (u s)=s/\u s<=u x.sk->(DV A hd em a n i x).sk.take (u s)=s/\u s<=(DV A hd em a n i x).sk.length
 |0,_,_,h=>h
 |n+1,i,x,h=>by
  show(match x.sp[i]? with|none=>x|some p=>DV A hd em a n (i+1)<|x.tF A hd em a p).sk.take (u s)=s/\u s<=(match x.sp[i]? with|none=>x|some p=>DV A hd em a n (i+1)<|x.tF A hd em a p).sk.length;cases x.sp[i]? with
  |none=>exact h
  |some p=>
   refine UG hs n (i+1) _ ?_
   have key:∀(l:D Ed)(y:Rn),y.sk.take (u s)=s/\u s<=u y.sk->(l.foldl (Rn.iJ A hd em a p) y).sk.take (u s)=s/\u s<=(l.foldl (Rn.iJ A hd em a p) y).sk.length:=by
    intro l
    induction l with
    |nil=>exactλ_ h=>h
    |cons e l b=>exactλy h=>b _<|Xb hs h
   unfold Rn.tF;refine key _ _ ?_;split
   .rw[Rn.Ls];exact h
   .exact h
def UH(hs:∀e∈s,e.2.1<a)(l:D Sp):(lG A hd em a s l).sk.take (u s)=s/\u s<=(lG A hd em a s l).sk.length:=by
 refine UG hs _ _ _ ?_
 have:∀(l:D Sp)(x:Rn),(l.foldl Rn.meet x).sk=x.sk:=by
  intro l
  induction l with
  |nil=>exactλ_=>rfl
  |cons p l b=>exactλx=>(b _).trans Rn.pR
 rw[this];exact⟨jL,ax _⟩
end Wk
end Go.Proofs.Lu
namespace Go.Proofs.Lv
open Go.Proofs.Lu Go.Proofs.Lu.Wk
open Go.Ae Go.Ae.hx
variable{c c' hc i j k n r rs:Nat}{a ha:aC Addr}{K:C->R->Prop}{L hx:D eF}{F:D C}{ty:aI}{H Q H0:R}{x:C}
section
variable{S au:D Nat}{cs F':Nat->Prop}{A:At}{q:AV}{ev sv hv:C}{sb:D Bool}{rp rw' most:Nat}{z:ai}{hd:Nat->Bool}
def ai.vn.cut(b:ai.vn A z):z.sk.take (u z.s0)=z.s0/\u z.s0<=u z.sk:=by
 have:=UH (A:=A) (hd:=λ_=>aA) (em:=A.Em) (l:=z.fr) b.lt;rw[AU,<-b.c.1]at this;exact this
def P7.bkE{s:Sk}(h:P7 au H rs s):rs<H.bV/\∃g o xs,Bk H rs 128 (J g (u s+1) o::xs):=by
 have⟨mn,ml,pv,uv,us,gP,gU,az,h,gp,_⟩:=h;obtain⟨sa,w,sc,rfl,b⟩:=gp.OL
 have d:w=u s+1:=by
  simp only[cO,uu,aM]at b;omega
 subst d;exact⟨(h.lo _<|aK ..).2,_,_,_,h.get 0 O⟩
theorem am1(ho:A.Ok)(hk:GN cs H rw' A q ev sv sb)(hF:∀r,cs r->r<H.bV)(h:Sm S H0 H rp rw' most A z)(hz:ai.vn A z)(hh:∀Q,Ext H Q->∀r,r<A.nr->bM Pg X 50 [hv,W r] Q (Q0 (λv=>v=aO (hd r)) Q))(hL:Lim A z.long 9223372036854775807)(a5:u z.fr<=8000000)(hB:(lG A hd A.Em z.long z.s0 z.fr).ht.length<=5592404):bM Pg X 25 [pr rp,hv] H λv Q=>∃sa sc ha hc rc,v=fJ ⟨[dN ⟨[J sa (lG A hd A.Em z.long z.s0 z.fr).sp.length sc,aO (lG A hd A.Em z.long z.s0 z.fr).ok,J ha (lG A hd A.Em z.long z.s0 z.fr).ht.length hc,W (lG A hd A.Em z.long z.s0 z.fr).sp.length]⟩,pr rc,vi 0]⟩/\
  Ext H Q/\jC (λ_=>True) 86 Q sa (lG A hd A.Em z.long z.s0 z.fr).sp.length 2 (BR (lG A hd A.Em z.long z.s0 z.fr).sp)/\jC (λ_=>True) 88 Q ha (lG A hd A.Em z.long z.s0 z.fr).ht.length 3 (hts (lG A hd A.Em z.long z.s0 z.fr).ht)/\rc<Q.bV/\∃pa pc xs,Bk Q rc 128 (J pa ((lG A hd A.Em z.long z.s0 z.fr).sk.length+1) pc::xs):=by
 have hw:=h.wf;have⟨au,rs,fa,fc,II,htc,sa,sc,hSm,I,B,h3,h4,h5⟩:=h;have hb:=hSm.get 0 O;have a0:=(hSm.lo _<|aK ..).2;have a8:=hz.sk.le;have bb:=hL.s;have⟨ec,hcl⟩:=ai.vn.cut hz;refine lF [0,1,4,5,6,7,8,9] ?_;have G:=gM hw;refine G.jM λH1 ra G=>?_;have ad:=hb.iB<|G.ext.obj _ a0 nofun;refine dn (NU (F:=[])<|ad.cell (o:=0) O) ?_;rintro _ H2 ⟨rfl,rfl⟩;refine G.kN ?_;refine iV (ad.cell (o:=11) O) ?_;refine G.kN ?_;refine iV ((ad.iB (Q:=hN H2) O).cell (o:=1) O) ?_;refine G.kN ?_;refine iV ((ad.iB (Q:=hN H2) O).cell (o:=3) O) ?_;refine G.kN ?_;have al:=G.ext.bV;refine dn (aoV (oC H2) ((I.stay G.ext nofun).stay (Ext.hN H2) nofun) hcl hz.sk (λe he aa hu=>(hz.s0.b e<|ec▸he).2 aa hu) N) ?_;rintro _ H3 ⟨T',rc,rfl,ac,a4,ap⟩;rw[ec]at ac;refine iY (by simp only[eZ,fP ap];rfl) ?_;have ac:=ac.m G.wf ap;have a7:=(G.lo _<|aK ..).2;have ab:∀r∈T',H2.bV<=r/\r<(hM H2 H3).bV:=a4;have G:=G.oD ap;generalize hM H2 H3=H4 at ac G ab|-;have ao:=(hb.iB<|G.ext.obj _ a0 nofun).iB (Q:=hN H4) O;refine iV (ao.cell (o:=0) O) ?_;refine G.kN ?_;refine iV (ao.cell (o:=2) O) ?_;refine G.kN ?_;refine iV (ao.cell (o:=8) O) ?_;refine G.kN ?_;have a6:=G.ext.bV;have aq:Ext H (hN H4):=G.ext.trans'<|Ext.hN H4;have a3:jC (·<H.bV) 86 H fa (u z.fr) 2 (BR z.fr):=⟨h5.1,λr o e hn=>let g:=h5.2 r o e hn;⟨g.2.1,g.2⟩⟩;have a9:=G.wf;refine dn (WY (hd:=hd) (au:=T') (λQ M r U=>hh Q (aq.later M λr U=>.inr<|aR al (ab r U).1) r U) ho (hk.stay aq nofun) (λr U=>⟨aP (hF r U) a6,λh=>fI (hF r U)<|aR al (ab r h).1⟩) (ac.stay (Ext.hN H4) nofun) (λr U=>(ab r U).2) (a3.ex aq) (λr U h=>fI h<|aR al (ab r U).1) hz.fr hz.s0 hL a5 hB) ?_;rintro _ H8 ⟨ar,a1,an,aE,T8,rfl,aw,ba,z8,NT,Y⟩;refine bN ?_
 have G:=G.past z8.draw (λr U=>.inr<|aR al (ab r U).1) λe he=>by
  rw[aS.1 he];exactλh=>fI a7 (ab _ h).1
 have NT:jC (λ_=>True) 86 (hM H4 H8) ar _ 2 _:=NT.wk λ_ _=>trivial;have Y:jC (λ_=>True) 88 (hM H4 H8) an _ 3 _:=Y.wk λ_ _=>trivial;have⟨d,pa,pc,xs,w⟩:=aw.bkE;have d:rc<(hM H4 H8).bV:=d;have w:Bk (hM H4 H8) rc 128 _:=w.iB O;clear aw hB;generalize lG A hd A.Em z.long z.s0 z.fr=y at*;refine G.nsD O O O λH9 rb Cw G c9 bc uD=>?_;have n1:rp≠rb:=λe=>by have:(hM H4 H8).bV=H8.bV:=rfl;have:=z8.bV;have:(hN H4).bV=H4.bV:=rfl;omega
 refine splitK (λK hK=>?_) ?_
 .simp only[eZ,gN,c9];rcases xu H4 H8 with e|e<;>rw[e]<;>apply nE (a:=rb) (b:=rp) n1.symm yX fQ fQ hK
 have NT:=NT.ex uD;have Y:=Y.ex uD;have w:=w.iB<|uD.obj _ d nofun;have d:=aP d uD.bV;generalize hM (hM (hM H4 H8) H9) Cw=Rt at G NT Y w d|-;refine eU (λh=>absurd trivial h) λ_=>?_;have G:SH [] H Rt [(rb,68,[J ar (u y.sp) a1,aO y.ok,J an (u y.ht) aE,W<|u y.sp]),(ra,68,[J T 0 0,aO aA,J T 0 0,vi 0])]:=G;have am:=G;have G:=G.base;refine G.jl<|G.j_ λHn G=>?_
 have ht:∀r∈[(rb,68,[J ar (u y.sp) a1,aO y.ok,J an (u y.ht) aE,W<|u y.sp]),((ra,68,[J T 0 0,aO aA,J T 0 0,vi 0]):eF)].map (·.1),zW Rt r 68:=λr U=>by
  simp only[i_,kI,bW,fq,je]at U;rcases U with rfl|rfl
  .exact(am.get 0 O).Gb
  .exact(am.get 1 O).Gb
 have NT:=NT.stay G.ext λr U=>.inr λh=>absurd (h.one<|ht r U) jg;have Y:=Y.stay G.ext λr U=>.inr λh=>absurd (h.one<|ht r U) jg;have w:=w.iB<|G.ext.obj _ d λh=>absurd (w.Gb.one<|ht _ h) jg;have d:=aP d G.ext.bV;have a2:=am.over G;refine Lu.rr ?_;refine G.jl ?_ (by exact aF O);exact⟨_,_,_,_,_,O,a2.ext,NT,Y,d,_,_,_,w⟩
end
section
open Go.Proofs.Lu
open Go.Ae Go.Ae.hx
variable{S:D Nat}{cs:Nat->Prop}{v v':C}{vn V:D Nat}
def aoW(H:R)(v:C)(vn:D Nat):Prop:=∃a c,v=J a (u vn) c/\Fl H a (u vn) 1 (vn.map zA)/\u vn<=1024/\∀w∈vn,w<2^64
def pJ(H:R)(v:C)(vn:D Nat):Prop:=∃a c,v=J a (u vn) c/\Fl H a (u vn) 1 (vn.map zA)/\u vn<=1024/\(∀w∈vn,w<2^64)/\
 ∀m,m<=u vn->∃c',Tc 1 (J a (u vn) c) T (Z<|W m) T=Z (J a m c')
def pJ.ex(h:pJ H v vn)(M:Ext H Q):pJ Q v vn:=let⟨a,c,I,B,h3⟩:=h;⟨a,c,I,B.ex M,h3⟩
def pJ.lt(h:pJ H v vn):∀w∈vn,w<2^64:=let⟨_,_,_,_,_,h,_⟩:=h;h
def pJ.nil:pJ H (J T 0 0) []:=⟨T,0,O,Fl.nil _ _ _,bD _,nofun,λm h=>⟨0,by obtain rfl:m=0:=Nat.le_zero.1 h;rfl⟩⟩
def K5.s(h:K5 cs H v vn):pJ H v vn:=
 let⟨r,I,B,h3,h4,h5,h6⟩:=h
 ⟨Z ⟨r,0,T⟩,u vn,I,h4.fl h3 gB,h5,h6,λm b=>⟨_,LB b N⟩⟩
def pJ.cut(h:pJ H (J a n c) vn)(hk:k<=u vn):aoW H (J a (u<|vn.take k) c') (vn.take k):=by
 have⟨a0,c0,e,hf,hl,hw,_⟩:=h;cases e;have b:u (vn.take k)=k:=by rw[dS];omega
 refine⟨a,c',O,?_,N,λw h=>hw w<|fG h⟩;have:=hf.cut hk;rw[dY,<-qA]at this;rw[b];exact this
def am3(hv:pJ H v vn)(z:Int):bM Pg X 50 [v,vi z] H (Q0 (λv=>v=aO (decide (0<=z/\z<65536)&&hasB vn z.toNat)) H):=by
 obtain⟨a,c,rfl,b,g,d,_⟩:=hv;refine lF [0,1,4] ?_;refine dn (ER z) ?_;rintro _ _ ⟨rfl,rfl⟩;refine MQ (λh=>?_) λh=>?_
 .refine rr ?_;exact⟨by simp only[dQ h];rfl,rfl⟩
 obtain⟨t,rfl⟩:∃t:Nat,z=t:=⟨z.toNat,N⟩;refine dA (NR 64 O jg N) ?_;refine tJ (λB=>?_) λB=>?_
 .refine dA (NR 64 O jg N)<|b.ix1 (show t/64<u vn by omega) (jV _<|av N) λ_=>?_;refine dA (sw 64 O jg N) ?_;refine dA (P6<|jG _) ?_;refine bN ?_;refine rr ?_;refine⟨?_,O⟩;rw[aiu (d _<|bH _) (o8 _ jg),bY h,nS];unfold hasB;rw[kV,aW,av (show t/64<u vn by omega)];rfl
 .refine rr ?_;refine⟨?_,O⟩;unfold hasB;rw[kV,aW,dB N];simp
def Ks(hv:pJ H v vn):bM Pg X 49 [v] H (Q0 (λw=>∃a c c',v=J a (u vn) c/\w=J a (u<|vn.take<|FE vn<|u vn) c') H):=by
 obtain⟨a,c,rfl,Y,hl,hw,hs⟩:=hv;refine GV [0,2,3] ?_;rw[show min (u vn:Int) 1024=(u vn:Int) by omega];refine VX 3 (h1:=λm I Q=>I=W m/\Q=H/\FE vn m=FE vn (u vn)/\m<=u vn) ?_ (u vn) ⟨rfl,rfl,rfl,ax _⟩;rintro m I E o ⟨rfl,rfl,g,hm⟩
 have b:∀k,k<=u vn->k=FE vn (u vn)->∀{E},iC Pg X (sub KH [1,1,1]) (Jp (J a (u vn) c) (J T 0 0) (W k) E o) (jO Pg [.tmp 2]<|Q0 (λw=>∃B M c',J a (u vn) c=J B (u vn) M/\w=J B (u<|vn.take<|FE vn<|u vn) c') o):=λk hk e E=>by
  refine tl ?_;have⟨c',e'⟩:=hs k hk;refine dA e' ?_;have d:u (vn.take k)=k:=by rw[dS];omega
  refine rr ?_;exact⟨⟨a,c,c',O,by rw[<-e,d]⟩,rfl⟩
 refine mG (λhc=>?_) λhc=>?_
 .obtain rfl:m=0:=N;exact b 0 (bD _) g
 obtain⟨k,rfl⟩:∃k,m=k+1:=⟨m-1,N⟩;refine rA ?_;rw[show(((k+1:Nat):Int)-1)=(k:Int) by omega];have ev:vn[k]?=Z (vn.getD k 0):=by rw[aW,av N];rfl
 refine Y.ix1 (show k<u vn by omega) (jV _ ev) λ_=>?_;refine tJ (λU=>?_) λU=>?_
 .refine rA ?_;rw[show(((k+1:Nat):Int)-1)=(k:Int) by omega];exact⟨k,N,_,_,_,O,O,O,by rw[<-g];exact(jj N).symm,N⟩
 .exact b (k+1) hm (by rw[<-g];exact(jx N).symm)
def okU:∀l:D Nat,all' gI (l.map zA)=f
 |[]=>rfl
 |_::l=>okU l
def _root_.Go.Ae.SH.cpR{xs:D C}(G:SH S H0 H<|(r,ty,F)::L)(M:Fl H a n 1 xs)(hk:k<=n)(hc:u F=k)(b:all' gI (xs.take k)=f)(kk:∀H1,SH S H0 H1 ((r,ty,xs.take k)::L)->pN [r] H H1->K (W k) H1):ME (cpA 1 (J (Z ⟨r,0,T⟩) k c') (J a n c) H) K:=by
 have d:=M.1;have w:u (xs.take k)=k:=by rw[dS];omega
 have⟨H1,I,B,h3⟩:=G.zV (vs:=xs.take k) (o:=0) 0 O N b;rw[oF _ _ N]at B
 have em:b_ (aD n k) n k=k:=by
  by_cases h:n<=k
  .rw[aH h];show n=k;omega
  .rw[show aD n k=aA from by rw[<-dw];exactλg=>h<|aF g];rfl
 have e:cpA 1 (J (Z ⟨r,0,T⟩) k c') (J a n c) H=Z (W k,H1):=by
  unfold cpA;rw[tT M jg];show(aN (H.write r 0<|tk (bP (b_ (aD n k) n k) 1) xs) λQ=>Z (a_ bC<|.ofNat<|b_ (aD n k) n k,Q))=_;rw[em,FF,show bP k 1=k from dY k,I];rfl
 rw[e];exact kk H1 B h3
def aiA(I:Wf H)(hv:pJ H v vn):bM Pg X 61 [v] H (Q1 (λv Q=>K5 (H.bV<=·) Q v<|vn.take<|FE vn<|u vn) H):=by
 have d:=hv;obtain⟨a,c,rfl,o,hl,g,hs⟩:=hv;have B:=Du vn<|u vn;have b:u (vn.take<|FE vn<|u vn)=FE vn (u vn):=by rw[dS];omega
 refine lF [0,2,3] ?_;have G:=gM I;refine dn (Ks d) ?_;rintro _ T ⟨⟨Y,c0,c',e,rfl⟩,rfl⟩;rw[b];refine bN ?_;refine G.mkS (ax _) N λU r G=>?_;have G:=G;rw[show qd [a_ fO 0] (FE vn<|u vn)=aY (FE vn<|u vn) (a_ fO 0)from nC _ _]at G;refine G.cpR (o.ex G.ext) B gB (by rw[<-qA];exact okU _) λW G M=>?_;refine Lu.rr ?_;rw[<-qA]at G;exact⟨⟨r,by rw[b],G.yu<|aK ..,(G.lo _<|aK ..).2,G.get 0 O,N,λw h=>g w<|fG h⟩,G.ext⟩
def UI(vn:D Nat):∀m i,FE vn m<=i->i<m->vn.getD i 0=0
 |0,i,_,h=>absurd h<|iN i
 |m+1,i,I,B=>by
  unfold FE at I;split at I
  .next b=>
   by_cases e:i=m
   .rw[e];exact b
   .exact UI vn m i I N
  .omega
def EU(vn:D Nat)(t:Nat):hasB (vn.take<|FE vn<|u vn) t=hasB vn t:=by
 unfold hasB;rw[aW,iq];split
 .rw[<-aW]
 .next h=>
  by_cases hl:t/64<u vn
  .rw[UI vn (u vn) (t/64) N hl];rfl
  .rw[aW,dB N]
def Xc(a b:Nat):Nat:=(BitVec.ofNat 64 a&&&~~~BitVec.ofNat 64 b).toNat
def Za(a b:Nat):Xc a b<2^64:=BitVec.isLt _
def aj8(a b:Nat):QK fO (a:Int) (b:Int)=((Xc a b:Nat):Int):=by
 unfold QK;show oJ fO (((kU 64 (a:Int)&&&~~~kU 64 (b:Int)).toNat:Nat):Int)=_;rw[BitVec.ofInt_natCast,BitVec.ofInt_natCast];exact wrap64<|Za a b
def aeI{a b:Nat}(d:j<64):(Xc a b).testBit j=(a.testBit j&&!b.testBit j):=by
 unfold Xc;rw[BitVec.testBit_toNat,BitVec.getLsbD_and,BitVec.getLsbD_not,BitVec.getLsbD_ofNat,BitVec.getLsbD_ofNat];simp[d]
def lw(vn V:D Nat)(j:Nat):D Nat:=(d_<|u vn).map λi=>if i<j then Xc (vn.getD i 0) (V.getD i 0)else vn.getD i 0
def NV(vn V:D Nat)(j:Nat):u (lw vn V j)=u vn:=by simp[lw]
def aoX(vn V:D Nat):lw vn V 0=vn:=by
 apply ja
 .simp[lw]
 .intro i I B;simp[lw,B]
def aiB(h:i<u vn):(lw vn V j)[i]?=Z (if i<j then Xc (vn.getD i 0) (V.getD i 0)else vn.getD i 0):=by simp[lw,h]
def aeJ:(lw vn V j).set j (Xc (vn.getD j 0)<|V.getD j 0)=lw vn V (j+1):=by
 apply ja
 .simp[lw]
 .intro i I B;rw[vU];simp only[lw,iD,lQ]
  by_cases e:j=i
  .subst e;rw[jj O,jj<|dI j]
  .rw[jx e]
   by_cases h:i<j
   .rw[jj h,jj N]
   .rw[jx h,jx N]
def am4(h:∀w∈vn,w<2^64):∀w∈lw vn V j,w<2^64:=λw d=>by
 obtain⟨i,b,rfl⟩:=bT.1 d;rw[jR]at b;split
 .exact Za _ _
 .rw[aW,av b];exact h _<|bH b
def agU(vn V:D Nat)(t:Nat):hasB (lw vn V<|u V) t=(hasB vn t&&!hasB V t):=by
 unfold hasB;have b:t %64<64:=o8 _ jg
 by_cases h:t/64<u vn
 .rw[aW (l:=lw vn V<|u V),aiB h];show Nat.testBit (if _ then _ else _) _=_;split
  .rw[aeI b]
  .next hv=>rw[aW (l:=V),dB N];simp
 .rw[aW (l:=lw vn V<|u V),dB (by rw[NV];omega),aW (l:=vn),dB N];simp
theorem Zb(hw:Wf H)(hv:pJ H v vn)(o:pJ H v' V):bM Pg X 27 [v,v'] H (Q1 (λv Q=>∃U,K5 (H.bV<=·) Q v U/\∀t,hasB U t=(hasB vn t&&!hasB V t)) H):=by
 refine lF [0,1,4,5,6,7,11,12,13] ?_;refine dn (aiA hw hv) ?_;rintro _ H1 ⟨⟨r,rfl,ab,hr,hb,hl,ac⟩,M⟩;have eW:=EU vn;generalize vn.take (FE vn<|u vn)=W1 at*;refine dn (Ks<|o.ex M) ?_;rintro _ H2 ⟨⟨a,c0,c,rfl,rfl⟩,rfl⟩;have⟨_,_,e,hf,hl2,hlt2⟩:=o.cut (c':=c)<|Du V<|u V;cases e;have eV:=EU V;generalize V.take (FE V<|u V)=b at*;refine bN ?_;have G:SH [] H H2 [(r,105,(lw W1 b 0).map zA)]:=⟨M,λe Y=>by rw[aS.1 Y,aoX];exact hb,λe Y=>by rw[aS.1 Y];exact⟨.inr ab,hr⟩,jE _ _,M.wf hw⟩;have am:=M;refine Gg 6 7 13 (h1:=λm x6 x7 jY Q=>∃j:Nat,jY=W j/\j+m=u b/\SH [] H Q [(r,105,(lw W1 b j).map zA)]) ?_ (u b) ⟨0,rfl,bB _,G⟩;rintro m x6 x7 jY E H3 ⟨j,rfl,hj,G⟩;refine mG (λhc=>?_) λhc=>?_
 .obtain rfl:j=u b:=N;have ad:=G.lo _<|aK ..
  have w:pJ H3 (J (Z ⟨r,0,T⟩) (u W1)<|u W1) (lw W1 b<|u b):=by
   have:=(K5.s (cs:=λ_=>True) (vn:=lw W1 b<|u b) ⟨r,O,trivial,ad.2,G.get 0 O,by rw[NV];exact hl,am4 ac⟩);rw[NV]at this;exact this
  refine tl ?_;refine dn (aiA G.wf w) ?_;rintro _ H4 ⟨⟨q,rfl,I,B,h3,h4,h5⟩,al⟩;refine Lu.rr ?_;exact⟨⟨_,⟨q,O,aR G.ext.bV I,B,h3,h4,h5⟩,λt=>by rw[EU,agU,eW,eV]⟩,G.ext.trans' al⟩
 have g:j<u b:=N;have ev:b[j]?=Z (b.getD j 0):=by rw[aW,av g];rfl
 refine(hf.ex G.ext).ix1 g (jV _ ev) λ_=>aV (λB=>?_) λB=>?_;rotate_left
 .refine eD ?_
  have e:lw W1 b (j+1)=lw W1 b j:=by
   rw[<-aeJ,List.set_eq_of_length_le (by rw[NV];omega)]
  exact⟨u b-(j+1),N,_,_,_,_,_,O,j+1,pq,N,by rw[e];exact G⟩
 have d:j<u W1:=N;refine G.ix (k:=j) d (jV _<|(aiB d).trans<|by rw[jx (mI j)]) λ_=>?_;refine dA (Db.trans<|by rw[aj8])<|G.Yi (k:=j) d (by rw[aM,NV];exact d) (kk:=λ_ H4 G=>?_);refine eD ?_;refine⟨u b-(j+1),N,_,_,_,_,_,O,j+1,pq,N,?_⟩;rw[<-aeJ,gW];exact G
def UJ(b:∀w∈vn,w<2^64)(h:∀t,hasB vn t=aA):∀m,m<=u vn->FE vn m=0
 |0,_=>rfl
 |m+1,hm=>by
  have d:vn.getD m 0=0:=by
   refine Nat.eq_of_testBit_eq λj=>?_;rw[Nat.zero_testBit]
   by_cases hj:j<64
   .have:=h (m*64+j);unfold hasB at this;rw[show(m*64+j)/64=m by omega,show(m*64+j) %64=j by omega]at this;exact this
   .have:vn.getD m 0<2^64:=by
     rw[aW,av (show m<u vn by omega)];exact b _<|bH _
    exact rO<|aP this<|lW jg N
  unfold FE;rw[jj d];exact UJ b h m N
def JE(hv:pJ H v vn)(h:∀t,hasB vn t=aA):bM Pg X 28 [v] H (Q0 (λv=>v=vi 0) H):=by
 have o:∀w∈vn,w<2^64:=let⟨_,_,_,_,_,h,_⟩:=hv;h;refine lF [0,2,3,5,7,8,9]<|dn (Ks hv) ?_;rintro _ g ⟨⟨a,c,c',rfl,rfl⟩,rfl⟩;rw[UJ o h _ (ax _)];refine bN ?_;refine Gg 3 5 9 (h1:=λm b x5 d Q=>b=vi 0/\d=vi 0/\Q=g) ?_ 0 ⟨rfl,rfl,rfl⟩;rintro m b x5 d E B ⟨rfl,rfl,rfl⟩;refine tp ?_;refine tl<|Lu.rr ?_;exact⟨O,O⟩
def ow(n:Nat)(vn V:D Nat)(j:Nat):D Nat:=(d_ n).map λi=>if i<j then vn.getD i 0|||V.getD i 0 else vn.getD i 0
def RN(n:Nat)(vn V:D Nat)(j:Nat):u (ow n vn V j)=n:=by simp[ow]
def aoY(h:u vn<=n):ow n vn V 0=vn++aY (n-u vn) 0:=by
 apply ja
 .simp[ow];omega
 .intro i I B;rw[List.getElem_append];split
  .next h=>simp[ow,h]
  .next h=>simp[ow,dB (show u vn<=i by omega)]
def aiC(h:i<n):(ow n vn V j)[i]?=Z (if i<j then vn.getD i 0|||V.getD i 0 else vn.getD i 0):=by simp[ow,h]
def aj9:(ow n vn V j).set j (vn.getD j 0|||V.getD j 0)=ow n vn V (j+1):=by
 apply ja
 .simp[ow]
 .intro i I B;rw[vU];simp only[ow,iD,lQ]
  by_cases e:j=i
  .subst e;rw[jj O,jj<|dI j]
  .rw[jx e]
   by_cases h:i<j
   .rw[jj h,jj N]
   .rw[jx h,jx N]
def getD_lt(h:∀w∈vn,w<2^64)(i:Nat):vn.getD i 0<2^64:=by
 rw[aW];cases e:vn[i]? with
 |none=>exact w_ 64
 |some w=>exact h w<|aT e
def am5(h:∀w∈vn,w<2^64)(b:∀w∈V,w<2^64):∀w∈ow n vn V j,w<2^64:=λw d=>by
 obtain⟨i,g,rfl⟩:=bT.1 d;split
 .exact uY (getD_lt h i)<|getD_lt b i
 .exact getD_lt h i
def agV(vn V:D Nat)(d:u vn<=n)(b:u V<=n)(t:Nat):hasB (ow n vn V<|u V) t=(hasB vn t||hasB V t):=by
 unfold hasB
 by_cases h:t/64<n
 .rw[aW (l:=ow n vn V<|u V),aiC h];show Nat.testBit (if _ then _ else _) _=_;split
  .rw[xN]
  .next hv=>rw[aW (l:=V),dB N];simp
 .rw[aW (l:=ow n vn V<|u V),dB (by rw[RN];omega),aW (l:=vn),dB N,aW (l:=V),dB N];simp
def _root_.Go.Ae.SH.cpP{xs:D C}(G:SH S H0 H<|(r,ty,F)::L)(M:Fl H a n 1 xs)(hk:n<=k)(hc:u F=k)(b:all' gI xs=f)(kk:∀H1,SH S H0 H1 ((r,ty,xs++F.drop n)::L)->K (W n) H1):ME (cpA 1 (J (Z ⟨r,0,T⟩) k c') (J a n c) H) K:=by
 have d:u xs=n:=by have:=M.1;omega
 have⟨H1,I,B,h3⟩:=G.zV (vs:=xs) (o:=0) 0 O N b;have es:splice F 0 xs=xs++F.drop n:=by unfold splice;rw[bB,d];rfl
 rw[es]at B
 have e:cpA 1 (J (Z ⟨r,0,T⟩) k c') (J a n c) H=Z (W n,H1):=by
  unfold cpA;rw[tT M jg];show(aN (H.write r 0<|tk (bP (b_ (aD n k) n k) 1) xs) λQ=>Z (a_ bC<|.ofNat<|b_ (aD n k) n k,Q))=_;rw[aH hk,oU,FF,show bP n 1=n from dY n,dV N,I];rfl
 rw[e];exact kk H1 B
def orS(hw:Wf H)(hv:pJ H v vn)(w:pJ H v' V):bM Pg X 40 [v,v'] H (Q1 (λv Q=>∃U,K5 (H.bV<=·) Q v U/\∀t,hasB U t=(hasB vn t||hasB V t)) H):=by
 refine lF [0,1,4,5,6,7,8,9,23,24,25] ?_;refine dn (Ks hv) ?_;rintro _ H1 ⟨⟨a,c0,c,rfl,rfl⟩,rfl⟩;have⟨_,_,e,hf,hl,hlt⟩:=hv.cut (c':=c)<|Du vn<|u vn;cases e;have eW:=EU vn;generalize vn.take (FE vn<|u vn)=d at*;refine dn (Ks w) ?_;rintro _ T ⟨⟨a2,c2,Y,rfl,rfl⟩,rfl⟩;have⟨_,_,e,hf2,hl2,hlt2⟩:=w.cut (c':=Y)<|Du V<|u V;cases e;have eV:=EU V;generalize V.take (FE V<|u V)=b at*;have G:=gM hw;refine bN ?_;rw[show max (u d:Int) (u b)=((max (u d) (u b):Nat):Int) by omega];have I:=nM (u d)<|u b;have B:=kE (u d)<|u b;have h3:max (u d) (u b)<=1024:=Nat.max_le.2 ⟨hl,hl2⟩;generalize max (u d) (u b)=n at*;refine G.mkS (ax _) N λH3 r G=>?_;have G:=G;rw[show qd [a_ fO 0] n=aY n (a_ fO 0)from nC _ _]at G;refine G.cpP (hf.ex G.ext) I gB (okU _) λH4 G=>?_
 have e0:d.map zA++(aY n<|a_ fO 0).drop (u d)=(ow n d b 0).map zA:=by
  rw[aoY I,dK,ko,List.drop_replicate];rfl
 rw[e0]at G;refine Gg 8 9 25 (h1:=λm x8 x9 M Q=>∃j:Nat,M=W j/\j+m=u b/\SH [] T Q [(r,105,(ow n d b j).map zA)]) ?_ (u b) ⟨0,rfl,bB _,G⟩;rintro m x8 x9 M E H5 ⟨j,rfl,hj,G⟩;refine mG (λhc=>?_) λhc=>?_
 .obtain rfl:j=u b:=N;refine tl ?_;refine Lu.rr ?_;exact⟨⟨_,⟨r,by rw[RN],G.yu<|aK ..,(G.lo _<|aK ..).2,G.get 0 O,by rw[RN];exact h3,am5 hlt hlt2⟩,λt=>by rw[agV _ _ I B,eW,eV]⟩,G.ext⟩
 have o:j<u b:=N;have g:j<n:=N;have ev:b[j]?=Z (b.getD j 0):=by rw[aW,av o];rfl
 refine(hf2.ex G.ext).ix1 o (jV _ ev) λ_=>G.ix (k:=j) g (jV _<|(aiC g).trans<|by rw[jx (mI j)]) λ_=>?_;refine dA (MC.trans<|by rw[amP (getD_lt hlt j) (getD_lt hlt2 j)]) ?_;refine G.Yi (k:=j) g (by rw[aM,RN];exact g) (kk:=λ_ H6 G=>?_);refine eD ?_;refine⟨u b-(j+1),N,_,_,_,_,_,O,j+1,pq,N,?_⟩;rw[<-aj9,gW];exact G
def _root_.Go.Ae.Fl.at2(h:Fl H a n 1 F)(hk:k<n)(hv:F[k]?=Z x):∃q o,q<H.bV/\(∀c,BS 1 (J a n c) (W k)=Z (bG<|Z ⟨q,o,T⟩))/\∀Q,Ext H Q->Q.cell q o=Z x:=by
 obtain⟨q,o,I,B,g,d,rfl,rfl⟩:=h.idx (c:=0) (dI 0) hk;refine⟨q,d+k*1,B,λc=>uK hk,λQ M=>?_⟩;obtain⟨O,w,_,_,g3,N,b,rfl⟩:=(h.ex M).idx (c:=0) (dI 0) hk;cases b;simpa using g3 0 x (dI 0) (om hv)
end
section
variable{S:D Nat}
def hE(h:Nat×Sp):C:=dN ⟨[W h.1,W h.2.1,W h.2.2]⟩
def am6(a b:Nat×Sp):mU Pg 88 (hE a) (hE b)=Z (decide<|a=b):=Eq.trans fQ<|aiw a b
def Xd:vk Pg 132=Z (88,133):=fQ
def K6(l:D<|Nat×Sp):D (Nat×Sp):=l.foldl (λb h=>if h∈b then b else b++[h]) []
def aeK(l:D<|Nat×Sp)(h:Nat×Sp):K6 (l++[h])=if h∈K6 l then K6 l else K6 l++[h]:=by unfold K6;rw[iR];rfl
def LF(l:D<|Nat×Sp)(h:Nat×Sp):h∈K6 l<->h∈l:=by
 have d:∀(l b:D<|Nat×Sp),h∈l.foldl (λb h=>if h∈b then b else b++[h]) b<->h∈b\/h∈l:=by
  intro l
  induction l with
  |nil=>intro b;simp
  |cons x l o=>
   intro b;rw[lz,o]
   by_cases M:x∈b
   .rw[jj M];exact⟨λg=>g.elim .inl λg=>.inr<|bJ _ g,λg=>g.elim .inl λg=>(bW.1 g).elim (λe=>.inl<|e▸M) .inr⟩
   .rw[jx M];simp[or_assoc]
 rw[K6,d];simp
def RO(l:D<|Nat×Sp):u (K6 l)<=u l:=by
 have d:∀(l b:D<|Nat×Sp),u (l.foldl (λb h=>if h∈b then b else b++[h]) b)<=u b+u l:=by
  intro l
  induction l with
  |nil=>intro b;simp
  |cons x l g=>
   intro b;rw[lz];refine aR (g _) ?_;split<;>simp<;>omega
 have:=d l [];simpa [K6]using this
def Ho(S:D Nat)(H0 H:R)(r9 mt:Nat)(o cv:C)(ok:Bool)(L:D eF)(ak:D<|Nat×Sp)(jh:C):Prop:=∃b d g,
 SH S H0 H ((r9,82,[o,aO ok,J T 0 0,b,cv])::(d++(g++L)))/\GB 88 3 b (hts ak) d/\GB 3 1 jh (gq<|ak.map (·.1)) g/\BX hE H mt (λp=>if p∈ak then Z u0 else T)/\(mt∈S\/H0.bV<=mt)
def aka{K:Out->Prop}{rp rw r4 r8 r9 mt:Nat}{x1 x5 cv x8 M:C}{ok:Bool}{l:D (Nat×Sp)}{jY mO:C}{E:Rs}(hf:jC (λ_=>True) 88 H0 ha (u l) 3<|hts l)(hl:u l<=5592404)(ac:∀q∈S,¬zW H0 q 88)(h:Ho S H0 H r9 mt M cv ok L []<|J T 0 0)(k:∀jh jY mO E Q,Ho S H0 Q r9 mt M cv ok L (K6 l) jh->iC Pg X (sub (BG Pg 34) [1,1,1,1,1,1,1,1,1,1]) (cs Pg 34 (Fr.c 0 (pr rp)<|Fr.c 1 x1<|Fr.c 3 (pr rw)<|Fr.c 4 (pr r4)<|Fr.c 5 x5<|Fr.c 6 (pr r8)<|Fr.c 7 cv<|Fr.c 8 x8<|Fr.c 9 (pr r9)<|Fr.c 10 (gz<|Z mt)<|Fr.c 11 jh<|Fr.c 13 jY<|Fr.c 15 mO<|Fr.c 62 (J ha (u l) hc)<|Fr.c 63 (W<|u l)<|Fr.c 64 (W<|u l)<|Fr.n) E Q) K):
 iC Pg X (sub (BG Pg 34) [1,1,1,1,1,1,1,1,1,0,1,0,0]).loop (cs Pg 34 (Fr.c 0 (pr rp)<|Fr.c 1 x1<|Fr.c 3 (pr rw)<|Fr.c 4 (pr r4)<|Fr.c 5 x5<|Fr.c 6 (pr r8)<|Fr.c 7 cv<|Fr.c 8 x8<|Fr.c 9 (pr r9)<|Fr.c 10 (gz<|Z mt)<|Fr.c 11 (J T 0 0)<|Fr.c 13 jY<|Fr.c 15 mO<|Fr.c 62 (J ha (u l) hc)<|Fr.c 63 (W<|u l)<|Fr.c 64 (vi 0)<|Fr.n) E H) (uk 0<|uQ Pg X (sub (BG Pg 34) [1,1,1,1,1,1,1,1,1,1]) K):=by
 refine Ov 11 13 15 64 (h1:=λm jh jY mO R7 Q=>∃i:Nat,R7=W i/\i+m=u l/\Ho S H0 Q r9 mt M cv ok L (K6<|l.take i) jh) ?_ (u l) ⟨0,rfl,bB _,h⟩;rintro m jh jY mO R7 E H1 ⟨i,rfl,hi,w,U,gR,G,g,B,b,I⟩;refine mG (λhc=>?_) λhc=>?_
 .obtain rfl:i=u l:=N;rw[jL]at g B b;exact k _ _ _ _ _ ⟨w,U,gR,G,g,B,b,I⟩
 have o:i<u l:=N;have h0:=G;have al:=G.ext;have G:=G.base
 have eh:El (hts l) 3 i=[W l[i].1,W l[i].2.1,W l[i].2.2]:=by
  have:=RF (l:=l) (i:=i) (j:=[])<|av o;rw[bF]at this;exact this
 refine(hf.stay al λq hq=>.inr<|ac q hq).VS jg o eh λ_=>?_;have d:K6 (l.take<|i+1)=if l[i]∈K6 (l.take i)then K6 (l.take i)else K6 (l.take i)++[l[i]]:=by rw[dU,av o];exact aeK _ _
 have ad:=RO<|l.take i;rw[dS]at ad;generalize l[i]=h at*;generalize K6 (l.take i)=ak at*;refine G.ns O O O λH2 rb G ap=>?_;have G:SH _ H1 H2 ((rb,88,[W h.1,W h.2.1,W h.2.2])::(r9,82,[M,aO ok,J T 0 0,w,cv])::(U++(gR++L))):=G;refine fF ?_;have b:=b.ex G.ext<|h0.zP b;refine BX.has (e:=hE) (k:=h) b Xd Fj am6<|G.kN ?_;refine G.ns O O O λH3 rz G am=>?_;have G:=fV (A:=[_]) G;have b:=b.ex am nofun;refine aV (λhp=>?_) λhp=>?_
 .rw[jj hp]at d;refine eD ?_;exact⟨u l-(i+1),N,_,_,_,_,_,_,O,i+1,pq,N,w,U,gR,fV (A:=[_])<|h0.over G,by rw[d];exact g,by rw[d];exact B,by rw[d];exact b,I⟩
 rw[jx hp]at d;apply G.jl;have h3:=h0.over G;have G:=h3;refine dA (v:=u0) O<|G.ajU (e:=hE) (k:=h) I b Xd am6 λH4 b G aq=>?_;have b:BX hE H4 mt (λp=>if p∈ak++[h]then Z u0 else T):=b.plus λj=>gB;have h4:=G;have G:=G.base;refine fF ?_;refine g.NG G O O O (by rw[BD];omega) λq an H5 Y g G=>?_;obtain⟨qa,qn,qc,rfl⟩:=g.sl;refine G.j_ λHn G=>?_;apply G.qE;refine B.NG G O O O (by rw[aM,aM];omega) λq ao H6 ab B G=>?_;have b:=b.ex G.ext<|h4.zP b;refine eD ?_;refine⟨u l-(i+1),N,_,_,_,_,_,_,O,i+1,pq,N,_,Y,ab,fV (A:=[_])<|h4.over G,?_,?_,by rw[d];exact b,I⟩
 .rw[d,UB];exact g
 .rw[d,dK];exact(show gq (ak.map (·.1)++[h.1])=gq (ak.map (·.1))++[W h.1]from dK)▸B
end
end Go.Proofs.Lv
namespace Go.Proofs.Lu
namespace Wk
variable{l:D Sp}{A:At}{a r:Nat}
variable{hd hd0 em:Nat->Bool}{x y X:Rn}{s t:Sk}{p q:Sp}{e:Ed}
def Zc{α:Type}[DecidableEq α](ay:α->Nat):∀(l L:D α),l.Nodup->(∀x∈l,x∈L)->(l.map ay).sum<=(L.map ay).sum
 |[],_,_,_=>bD _
 |b::l,L,hn,hs=>by
  have g:=hs b<|aK ..
  have o:=((List.perm_cons_erase g).map ay).sum_nat;have B:=jD.1 hn;have:=Zc ay l (L.erase b) B.2 λy d=>(List.mem_erase_of_ne λe=>B.1 (by rw[<-e];exact d)).2<|hs y<|bJ _ d;simp only[i_,qB]at o|-;omega
def akb(h:u A.eg=A.ns):((d_ A.ns).map λs=>u<|A.rg s)=A.eg.map u:=by
 refine ja (by simp[h]) λi I B=>?_;simp only[aM]at B;simp[At.rg,av B]
def aaP(g:u A.eg=A.ns){m:Nat}(d:l.Nodup)(b:∀p∈l,p.1<A.ns/\p.2<=m):(l.map λp=>u<|A.rg p.1).sum<=(m+1)*A.tot:=by
 refine aR (Zc _ l ((d_<|m+1).flatMap λk=>(d_ A.ns).map λs=>(s,k)) d λp o=>?_) ?_
 .obtain⟨I,B⟩:=b p o;exact sV.2 ⟨p.2,by rw[jR];omega,bT.2 ⟨p.1,by rw[jR];exact I,O⟩⟩
 .clear b d;refine rQ ?_;generalize m+1=k
  induction k with
  |zero=>simp
  |succ k w=>
   rw[wZ,List.flatMap_append,dK,tY,w,jN];congr 1;simp only[lY,List.flatMap_nil,bF,uz];unfold At.tot;rw[<-akb g];rfl
def Xe:(x.iJ A hd em a p e).ht.length<=u x.ht+1:=by
 unfold Rn.iJ
 have:∀h,(x.hit h).ht.length<=u x.ht+1:=λh=>by
  unfold Rn.hit;split
  .omega
  .simp
 split
 .split
  .rw[Rn.BB];exact this _
  .exact this _
 .rw[Rn.IE];omega
def Kt:∀(l:D Ed)(y:Rn),(l.foldl (Rn.iJ A hd em a p) y).ht.length<=u y.ht+u l
 |[],y=>ax _
 |e::l,y=>by
  have I:=Kt l<|y.iJ A hd em a p e;have B:=Xe (A:=A) (hd:=hd) (em:=em) (a:=a) (x:=y) (p:=p) (e:=e);simp only[lz,cO];omega
def agW(ho:A.Ok):∀n i x,Rn.vn A a x->x.En->u x.ht<=((x.sp.take i).map λp:Sp=>u<|A.rg p.1).sum->(DV A hd em a n i x).ht.length<=((DV A hd em a n i x).sp.map λp:Sp=>u<|A.rg p.1).sum:=by
 have tk:∀(l:D Sp)(i:Nat),((l.take i).map λp:Sp=>u<|A.rg p.1).sum<=(l.map λp:Sp=>u<|A.rg p.1).sum:=λl i=>by
  have:=eY List.sum<|eY (List.map λp:Sp=>u<|A.rg p.1)<|jb i l;rw[dK,tY]at this;omega
 intro n
 induction n with
 |zero=>exactλi x _ _ h=>aR h<|tk _ _
 |succ n B=>
  intro i x g d h;show(match x.sp[i]? with|none=>x|some p=>DV A hd em a n (i+1)<|x.tF A hd em a p).ht.length<=((match x.sp[i]? with|none=>x|some p=>DV A hd em a n (i+1)<|x.tF A hd em a p).sp.map λp:Sp=>u<|A.rg p.1).sum;cases hp:x.sp[i]? with
  |none=>exact aR h<|tk _ _
  |some p=>
   have o:=aT hp;have w:=(g.b p o).2;have⟨g1,g2,_⟩:=Rn.Ry (A:=A) (hd:=hd) (em:=em) (a:=a) (p:=p) d w;refine B (i+1) _ (g.tF ho o) g1 ?_;have⟨r,hr⟩:=g2.sp;have M:i<u x.sp:=(bK.1 hp).1;rw[<-hr,lS N,dU,hp]
   have I:(x.tF A hd em a p).ht.length<=u x.ht+u (A.rg p.1):=by
    unfold Rn.tF;refine aR (Kt _ _) ?_;split
    .rw[Rn.Lt];exact ax _
    .exact ax _
   simp only[Option.toList,dK,i_,kI,tY,qB,zB];omega
def Xf(ho:A.Ok)(hs:Sk.vn A a s)(hl:∀p∈l,p.1<A.ns/\p.2<=u s):(lG A hd em a s l).ht.length<=(A.ns*(a+1)+1)*A.tot:=by
 have I:=Dt l ⟨s,[],[],aA,[]⟩ ⟨hs,ji,nofun⟩ hl;have o:(l.foldl Rn.meet ⟨s,[],[],aA,[]⟩).ht=[]:=IG _ _
 have B:∀(l:D Sp)(x:Rn),(l.foldl Rn.meet x).en=x.en:=by
  intro l
  induction l with
  |nil=>exactλ_=>rfl
  |cons p l w=>exactλx=>(w _).trans Rn.IK
 have h:=agW (hd:=hd) (em:=em) ho (bnd A a+1) 0 _ I (λk g=>by rw[B]at g;cases g) (by rw[o];exact bD _);have d:=ID (hd:=hd) (em:=em) ho hs hl;refine aR h<|aR (aaP ho.AX d.nd d.b)<|fH _ ?_;have:=d.sk.le;show(lG A hd em a s l).sk.length+1<=_;omega
def ofT(A:At)(hd:Nat->Bool)(z:ai)(t:Int):Prop:=¬(z.long=0/\hd 0=f)/\off A (lG A hd A.Em z.long z.s0 z.fr).sp t
def ofR(A:At)(hd:Nat->Bool)(z:ai)(r:Nat):Prop:=if z.long=0/\hd 0=f then r=0 else r∈(lG A hd A.Em z.long z.s0 z.fr).ht.map (·.1)
def am7:∀r,r<A.nr->(A.Em r=f<->A.Mk aA (A.S r)):=λr _=>At.aee
variable{z:ai}
def aeL(ho:A.Ok)(d:ai.vn A z)(b:∀r,hd0 r=f->hd r=f){t:Int}(h:ofT A hd z t):ofT A hd0 z t:=by
 have⟨I,p,hp,e,he,B⟩:=h;have⟨m,_,hm⟩:=(Xa (hd0:=hd0) ho am7 b d.s0 d.fr).sp p hp;exact⟨λh=>I ⟨h.1,b 0 h.2⟩,_,hm,e,he,B⟩
def JF(ho:A.Ok)(hs:Sk.vn A a s)(hl:∀p∈l,p.1<A.ns/\p.2<=u s):(lG A hd em a s l).Ho A hd:=by
 have o:∀(l:D Sp)(x:Rn),(l.foldl Rn.meet x).en=x.en:=by
  intro l
  induction l with
  |nil=>exactλ_=>rfl
  |cons p l g=>exactλx=>(g _).trans Rn.IK
 refine aej _ _ _ (Dt l ⟨s,[],[],aA,[]⟩ ⟨hs,ji,nofun⟩ hl) ho (λk b=>by rw[o]at b;cases b) λh d=>?_;rw[IG]at d;cases d
def UK(ho:A.Ok)(b:ai.vn A z)(h:ofR A hd z r):hd r=f:=by
 unfold ofR at h;split at h
 .next c=>rw[h];exact c.2
 .obtain⟨k,d,rfl⟩:=bT.1 h;exact(JF ho b.s0 b.fr k d).1
end Wk
end Go.Proofs.Lu
namespace Go.Proofs.Lv
open Go.Proofs.Lu Go.Proofs.Lu.Wk
open Go.Ae Go.Ae.hx
variable{au:D Nat}{sb:D Bool}{F' F0:Nat->Prop}{ha sa:aC Addr}{ne ok:Bool}{hc most r r4 r8 r9 rc rw rw' sc t:Nat}{L L' hx:D eF}{A:At}{q:AV}{z:ai}{E:Rs}{H Q H0:R}{wv x1 jW jh jY mO x5 x62 x63 R7 x8:C}
section
variable{S:D Nat}{ev sv:C}{rp:Nat}
def _root_.Go.Ae.SH.wide(h:SH S H H L)(d:∀r∈S,r∈au):SH au H H L:=⟨pN.refl _ _,h.bk,λe b=>⟨(h.lo e b).1.imp_left<|d _,(h.lo e b).2⟩,h.ne,h.wf⟩
def _root_.Go.Ae.SH.am8(G:SH S H0 H L)(h:SH au H Q L')(b:∀r∈au,r∈S\/H0.bV<=r):SH S H0 Q L':=
 ⟨G.ext.later h.ext b,h.bk,λe d=>⟨(h.lo e d).1.elim (b _) λg=>.inr<|aR G.ext.bV g,(h.lo e d).2⟩,h.ne,h.wf⟩
theorem _root_.Go.Ae.BX.am9{κ:Type}[DecidableEq κ]{e:κ->C}{ay:κ->aC C}{t:aI}(h:BX e H r ay):¬zW H r t:=λ⟨_,I,_⟩=>by
 have⟨m,_,B,_⟩:=h;rw[I]at B;cases B
def OfV(H:R)(v:C)(ok:Bool)(au az:D Nat)(ak:D<|Nat×Sp)(cv:C):Prop:=∃d b ha hc,v=fJ ⟨[dN ⟨[d,aO ok,b,J ha (u ak) hc,cv]⟩,vi 0]⟩/\pJ H d au/\pJ H b az/\jC (λ_=>True) 88 H ha (u ak) 3 (hts ak)/\∃p,cv=bG p
def _root_.Go.Ae.SH.geS(G:SH S H0 H L)(b:r∈L.map (·.1)):r∈S\/H0.bV<=r:=
 let⟨_,he,h⟩:=bT.1 b;h▸(G.lo _ he).1
def ana{y:Rn}{lv:C}{V:D Nat}(a0:∀Q,pN S H0 Q->pJ Q lv V){b1 b2 b3 b4 b5 b6 b7 b8 b9 ap:C}(ho:A.Ok)(ht:A.ty<=65536)(hk:GN F0 H rw' A q ev sv sb)(hp:rp<H0.bV/\Bk H0 rp 92 [pr rw',b1,b2,b3,b4,b5,b6,b7,b8,b9,ap,aO aA])(am:rp∉S)(G:SH S H0 H [(r9,82,[J T 0 0,aO ok,J T 0 0,J T 0 0,bG T]),(r8,68,[J sa (u y.sp) sc,aO y.ok,J ha (u y.ht) hc,W<|u y.sp]),(r4,82,[J T 0 0,aO aA,J T 0 0,J T 0 0,bG T]),(rw,80,[wv,lv,aO ne])])(I:jC (λ_=>True) 86 H sa (u y.sp) 2<|BR y.sp)(B:jC (λ_=>True) 88 H ha (u y.ht) 3<|hts y.ht)(hb:∀p∈y.sp,p.1<A.ns)(hl:u y.sp<=8000000)(aE:u y.ht<=5592404)(hr:∀h∈y.ht,h.1<65536){H':C->R->Prop}(kq:∀v Q,pN S H0 Q/\(∃au az,OfV Q v ok au az (K6 y.ht) (pr rc)/\(∀t,hasB au t=(decide (t∈NS A y.sp)&&!hasB V t))/\∀t,hasB az t=decide (t∈y.ht.map (·.1)))->H' v Q):
 iC Pg X (sub (BG Pg 34) [1,1,1,1,1]) (cs Pg 34 (Fr.c 0 (pr rp)<|Fr.c 1 x1<|Fr.c 3 (pr rw)<|Fr.c 4 (pr r4)<|Fr.c 5 x5<|Fr.c 6 (pr r8)<|Fr.c 7 (pr rc)<|Fr.c 8 x8<|Fr.c 9 (pr r9)<|Fr.c 10 jW<|Fr.c 11 jh<|Fr.c 13 jY<|Fr.c 15 mO<|Fr.c 62 x62<|Fr.c 63 x63<|Fr.c 64 R7<|Fr.n) E H)
  (jO Pg [.cell 4 82,.tmp 5] H'):=by
 have ar:=hp.2.iB<|G.ext.obj _ hp.1 am;refine tp ?_;refine iV ((ar.iB (Q:=hN H) O).cell (o:=0) O) ?_;refine fF ?_;refine dn (Y8 ho ht (oC H) (hk.stay (Ext.hN H) nofun) (I.ex<|Ext.hN H) hb hl) ?_;rintro tv H2 ⟨Y,ac⟩;have Y:pJ (hM H H2) tv (OO<|NS A y.sp):=K5.s (cs:=λ_=>True) (let⟨r,g1,g2,g3,g4,g5⟩:=Y;⟨r,g1,trivial,g3,g4.iB rfl,g5⟩);have c2:CG H H2=cl 1:=fP ac;have G:=G.oD ac;have B:=B.ex ac.draw;generalize hM H H2=H3 at Y G B|-;refine fF ?_;refine dn (Zb (oC H3) (Y.ex<|Ext.hN H3)<|(a0 _ G.ext).ex<|Ext.hN H3) ?_;rintro _ H4 ⟨⟨U,⟨ru,rfl,_,u1,u2,u3,u4⟩,hU⟩,ad⟩;have c4:CG H3 H4=cl 1:=fP ad;have G:=G.oD ad;have B:=B.ex ad.draw;have u2:Bk (hM H3 H4) ru 105 (U.map zA):=u2.iB O;have u1:ru<(hM H3 H4).bV:=u1;generalize hM H3 H4=H5 at G B u1 u2|-;have h5:=G;have G:=G.base;have m1:r9≠rw:=G.neT;have m2:r9≠r8:=G.neT;have m3:rw≠r8:=G.neT;have al:∀r∈[r9,r8,r4,rw],r≠rp:=λr hr e=>(h5.geS (r:=r) hr).elim (λh=>am<|e▸h) λh=>fu h<|e▸hp.1;have m4:r9≠rp:=al _ gB;have m5:rw≠rp:=al _ gB;have m6:r8≠rp:=al _ gB;refine G.oq λH6 G=>?_;refine splitK (λK hK=>?_) ?_
 .simp only[eZ,gN,c2,c4];apply VP (a:=r9) (b:=rw) (c:=r8) (d:=rp) m1 m2 m4 m3 m5 m6 yX fQ fQ hK
 refine G.j_ λHn G=>?_;have h7:=h5.over G;have B:=B.stay G.ext λq w=>.inr<|h5.Az (ty:=88) O q w;have t1:jC (λ_=>True) 105 H5 (Z ⟨ru,0,T⟩) (u U) 1 (U.map zA):=⟨u2.fl u1 gB,λr o e _=>by cases e;exact⟨trivial,u1,u2.Gb⟩⟩;have t1:=t1.stay G.ext λq w=>.inr<|h5.Az (ty:=105) O q w;have G:=h7;refine G.mkMap (e:=hE) Xd λH8 mt ab z8 aw G=>?_;have B:=B.ex z8;have t1:=t1.ex z8;have h8:=G;refine fF ?_;have a8:=G.zP ab;have hB:SH (mt::[r9,r8,r4,rw]) H8 H8 _:=G.base.wide λr hr=>bJ _ hr;refine aka (S:=mt::[r9,r8,r4,rw]) (H0:=H8) B aE (λr hr h=>?_) ⟨J T 0 0,[],[],hB,GB.nil _ _,GB.nil _ _,om ab,.inl<|aK ..⟩ λjh jY mO E H9 a2=>?_
 .rcases bW.1 hr with rfl|hr
  .exact ab.am9 h
  .exact G.Az (ty:=88) O _ hr h
 have⟨hsv,gH,gR,G,g1,g2,mT,_⟩:=a2;refine tl ?_;have a7:=RO y.ht;have h9:=G;obtain⟨a5,a4,a6,rfl,ao,an⟩:=g2.KE (cs:=λ_=>True) (G.perm<|mH (_::gH) gR _) λ_ _=>trivial;rw[aM,aM]at ao;obtain rfl:a4=u ((K6 y.ht).map (·.1)):=by rw[aM];omega
 obtain⟨a3,n3,c3,rfl,a1,g⟩:=g1.KE (cs:=λ_=>True) (G.perm<|mH [_] gH _) λ_ _=>trivial;obtain rfl:n3=u (K6 y.ht):=by rw[BD]at a1;omega
 have aq:=h8.am8 h9 λr hr=>(bW.1 hr).elim (λe=>.inr<|e▸aR h7.ext.bV aw) λh=>h8.geS h;refine dn (ES G.wf an (λaa hu=>?_) (by rw[aM];omega)) ?_
 .obtain⟨h,hh,rfl⟩:=bT.1 hu;exact hr h<|(LF _ _).1 hh
 rintro _ Cw ⟨⟨rb,rfl,_,b1,b2,b3,b4⟩,uD⟩;have g:=g.ex uD;have t1:=(t1.stay h9.ext λq w=>.inr λh=>(bW.1 w).elim (λe=>(e▸ab).am9 h) λh'=>h8.Az (ty:=105) O q h' h).ex uD;have t2:jC (λ_=>True) 105 Cw (Z ⟨rb,0,T⟩) (u<|OO<|(K6 y.ht).map (·.1)) 1 ((OO<|(K6 y.ht).map (·.1)).map zA):=⟨b2.fl b1 gB,λr o e _=>by cases e;exact⟨trivial,b1,b2.Gb⟩⟩;have G:=aq.call uD;have G:=fV (A:=gR)<|(fV (A:=gH)<|G.perm<|mH [_] gH _).perm<|mH [_] gR _;have G:SH S H0 Cw [(r9,82,_),(r8,68,_),(r4,82,_),(rw,80,_)]:=G;have M:=G;have G:=G.base;refine G.kN ?_;refine G.j_ λHn G=>?_;apply G.jl;refine G.j_ λHn G=>?_;have g:=g.stay G.ext λq w=>.inr<|M.Az (ty:=88) O q w;have t1:=t1.stay G.ext λq w=>.inr<|M.Az (ty:=105) O q w;have t2:=t2.stay G.ext λq w=>.inr<|M.Az (ty:=105) O q w;have G:=M.over G;refine Lu.rr ?_;refine G.jl<|kq _ _ ⟨G.ext,U,OO<|(K6 y.ht).map (·.1),⟨_,_,_,_,O,⟨_,_,O,t1.1,u3,u4,λm hm=>⟨_,LB hm N⟩⟩,⟨_,_,rfl,t2.1,b3,b4,λm hm=>⟨_,LB hm N⟩⟩,?_⟩,λt=>?_,λt=>?_⟩
 .exact⟨g,_,O⟩
 .rw[hU,Fp]
 .rw[Fp];exact wm.2 (by simp only[bT,LF])
end
section
variable{S:D Nat}{ev sv lv:C}{rp:Nat}{vn V:D Nat}
theorem aeM(h:u vn<=1024)(ht:65536<=t):hasB vn t=aA:=by
 unfold hasB;rw[aW,dB N];exact Nat.zero_testBit _
theorem aiD(hv:pJ H wv vn)(t:Nat):bM Pg X 50 [wv,W t] H (Q0 (λv=>v=aO (hasB vn t)) H):=by
 have b:u vn<=1024:=let⟨_,_,_,_,h,_⟩:=hv;h;refine(am3 hv t).mono ?_;rintro _ _ ⟨rfl,rfl⟩;refine⟨?_,O⟩;rw[kV]
 by_cases h:t<65536
 .rw[bY (show(0:Int)<=t/\(t:Int)<65536 by omega),nS]
 .rw[aeM b N,pK]
abbrev yH(A:At)(vn:D Nat)(z:ai):Rn:=lG A (hasB vn) A.Em z.long z.s0 z.fr
def OfC(H:R)(cv:C)(n:Nat):Prop:=∃rc b d xs,cv=pr rc/\rc<H.bV/\Bk H rc 128 (J b n d::xs)
def Ofd(A:At)(vn V:D Nat)(z:ai)(ok:Bool)(H:R)(v:C)(Q:R):Prop:=Ext H Q/\∃au az b d,OfV Q v ok au az b d/\(∀t:Nat,hasB au t=f<->ofT A (hasB vn) z t/\hasB V t=aA)/\(∀r,hasB az r=f<->ofR A (hasB vn) z r)/\
 ((z.long=0/\hasB vn 0=f/\b=[]/\az=OO [0])\/(¬(z.long=0/\hasB vn 0=f)/\b=K6 (yH A vn z).ht/\OfC Q d ((yH A vn z).sk.length+1)))
theorem akc{d:R}(ho:A.Ok)(ht:A.ty<=65536)(hk:GN F0 H rw' A q ev sv sb)(hs:Sm S H0 d rp rw' most A z)(hz:ai.vn A z)(hv:pJ d wv vn)(am:pJ d lv V)(hL:Lim A z.long 9223372036854775807)(hB:(yH A vn z).ht.length<=5592404)(G:SH [] d H [(r9,82,[J T 0 0,aO ok,J T 0 0,J T 0 0,bG T]),(r8,68,[J sa (yH A vn z).sp.length sc,aO (yH A vn z).ok,J ha (yH A vn z).ht.length hc,W (yH A vn z).sp.length]),(r4,82,[J T 0 0,aO aA,J T 0 0,J T 0 0,bG T]),(rw,80,[wv,lv,aO ne])])(I:jC (λ_=>True) 86 H sa (yH A vn z).sp.length 2<|BR (yH A vn z).sp)(B:jC (λ_=>True) 88 H ha (yH A vn z).ht.length 3<|hts (yH A vn z).ht)(ad:OfC H (pr rc)<|(yH A vn z).sk.length+1):
 iC Pg X (sub (BG Pg 34) [1,1,1,1]) (cs Pg 34 (Fr.c 0 (pr rp)<|Fr.c 1 x1<|Fr.c 3 (pr rw)<|Fr.c 4 (pr r4)<|Fr.c 5 x5<|Fr.c 6 (pr r8)<|Fr.c 7 (pr rc)<|Fr.c 8 x8<|Fr.c 9 (pr r9)<|Fr.c 10 jW<|Fr.c 11 jh<|Fr.c 13 jY<|Fr.c 15 mO<|Fr.c 62 x62<|Fr.c 63 x63<|Fr.c 64 R7<|Fr.n) E H)
  (jO Pg [.cell 4 82,.tmp 5]<|Ofd A vn V z ok d):=by
 refine tl<|dn (aeD<|hs.ex G.ext) ?_;rintro _ H ⟨rfl,rfl⟩;refine bN ?_;have⟨_,_,_,_,_,_,_,_,hSm,_⟩:=id hs;have ac:=(hSm.lo _<|aK ..).2;have ab:=(hSm.get 0 O).iB<|G.ext.obj _ ac nofun;have an:rp∉[r9,r8,r4,rw]:=λh=>G.Az (ty:=92) O rp h ab.Gb;have U:∀{Q},pN [r9,r8,r4,rw] H Q->Ext d Q:=λ{Q} M=>(G.over (L':=[]) ⟨M,nofun,nofun,qy,M.wf G.wf⟩).ext
 have Y:∀{b:Bool}{E:Rs},Ci E 43=aO b->(b=f<->(z.long=0/\hasB vn 0=f))->iC Pg X (sub (BG Pg 34) [1,1,1,1,0,1]) (cs Pg 34 (Fr.c 0 (pr rp)<|Fr.c 1 x1<|Fr.c 3 (pr rw)<|Fr.c 4 (pr r4)<|Fr.c 5 x5<|Fr.c 6 (pr r8)<|Fr.c 7 (pr rc)<|Fr.c 8 x8<|Fr.c 9 (pr r9)<|Fr.c 10 jW<|Fr.c 11 jh<|Fr.c 13 jY<|Fr.c 15 mO<|Fr.c 62 x62<|Fr.c 63 x63<|Fr.c 64 R7<|Fr.n) E H) (uQ Pg X (sub (BG Pg 34) [1,1,1,1,1])<|jO Pg [.cell 4 82,.tmp 5]<|Ofd A vn V z ok d):=by
  intro b E al g;refine tl ?_;rw[al];cases b;rotate_left
  .have g:=g.1 O;refine G.kN ?_;refine G.bS (v:=vi 0) O O O jg λH1 r G=>dn (ES (cs:=λ_=>True) (ts:=[0]) G.wf (jC.one (es:=1) G (n:=1) (aK ..) O trivial) gB gB) ?_;rintro _ H2 ⟨⟨rb,rfl,_,b1,b2,b3,b4⟩,ao⟩;have t2:jC (λ_=>True) 105 H2 (Z ⟨rb,0,T⟩) (u<|OO [0]) 1 ((OO [0]).map zA):=⟨b2.fl b1 gB,λr o e _=>by cases e;exact⟨trivial,b1,b2.Gb⟩⟩;have G:=fV (A:=[_])<|G.call ao;have B:=G;have G:=G.base;refine G.j_ λHn G=>?_;refine G.jl ?_;refine G.j_ λHn G=>?_;have t2:=t2.stay G.ext λq hq=>.inr<|B.Az (ty:=105) O q hq;have G:=B.over G;refine Lu.rr ?_;refine G.jl<|⟨G.ext,[],OO [0],[],_,⟨_,_,_,_,O,pJ.nil,⟨_,_,O,t2.1,b3,b4,λm hm=>⟨_,LB hm N⟩⟩,jC.nil _ _ _ _ _,_,rfl⟩,λt=>?_,λt=>?_,.inl ⟨g.1,g.2,rfl,rfl⟩⟩
   .exact⟨λh=>by simp[hasB]at h,λh=>absurd g h.1.1⟩
   .rw[Fp];unfold ofR;rw[jj g];simp
  .refine bN ?_;have hW:=ID (hd:=hasB vn) (em:=A.Em) ho hz.s0 hz.fr;have w:¬(z.long=0/\hasB vn 0=f):=λh=>nomatch g.2 h;have⟨rc',pa,pc,xs,e,hrc,hbc⟩:=ad;cases e;refine ana (S:=[r9,r8,r4,rw]) (H0:=H) (λQ M=>am.ex<|U M) ho ht hk ⟨aP ac G.ext.bV,ab⟩ an G.base I B (λp hp=>(hW.b p hp).1) (aR hW.le hL.b) hB (λh hh=>?_) λv Q h=>?_
   .have⟨_,g2,e,he,e1,e2⟩:=JF (hd:=hasB vn) (em:=A.Em) ho hz.s0 hz.fr h hh;rcases(ho.e _ (hW.b _ g2).1 e he).2.2 with h|h|h
    .omega
    .omega
    .have:=ho.few;omega
   .have⟨M,au,az,g1,g2,g3⟩:=h;refine⟨U M,au,az,_,_,g1,λt=>?_,λr=>?_,.inr ⟨w,rfl,rc,pa,pc,xs,rfl,aP hrc M.bV,hbc.iB<|M.obj _ hrc λh=>G.Az (ty:=128) O _ h hbc.Gb⟩⟩
    .rw[g2 t,bE,kX,ET λp hp=>(hW.b p hp).1,nQ];exact⟨λh=>⟨⟨w,h.1⟩,h.2⟩,λh=>⟨h.1.2,h.2⟩⟩
    .rw[g3 r,kX];unfold ofR;rw[jx w]
 refine aV (λc=>?_) λc=>Y O ⟨nofun,λh=>absurd h.1 N⟩;refine G.qE<|dn (aiD (hv.ex G.ext) 0) ?_;rintro _ H ⟨rfl,rfl⟩;exact Y O ⟨λh=>⟨N,h⟩,λh=>h.2⟩
def cof(ho:A.Ok)(ht:A.ty<=65536)(hk:GN F0 H rw' A q ev sv sb)(hF:∀r,F0 r->r<H.bV)(h:Sm S H0 H rp rw' most A z)(hz:ai.vn A z)(hv:pJ H wv vn)(ad:pJ H lv V)(hL:Lim A z.long 9223372036854775807)(ac:u z.fr<=8000000)(hB:(yH A vn z).ht.length<=5592404):
 bM Pg X 34 [pr rp,dN ⟨[wv,lv,aO ne]⟩] H (Ofd A vn V z (z.ok&&!ne) H):=by
 have hw:=h.wf;have G:=gM hw;refine lF [0,1,3,4,5,6,7,8,9,10,11,13,15,62,63,64] ?_;refine G.box O λH1 rw G=>?_;refine G.jM λH2 r4 G=>?_;refine fF ?_;have w:=G.ext;refine dn (am1 (hd:=hasB vn) ho (hk.stay w nofun) (λr hr=>aP (hF r hr) w.bV) (h.ex w) hz (λQ M r _=>aiD (hv.ex<|w.trans M) r) hL ac hB) ?_;rintro _ H3 ⟨sa,sc,ha,hc,rc,rfl,al,I,B,U,pa,pc,xs,ab⟩;have G:=G.call al;refine bN ?_;refine G.og O O O λH4 r8 G g=>eU (λh=>absurd trivial h) λ_=>?_;have h4:=h.ex G.ext;refine dn (aeC h4) ?_;rintro _ H4 ⟨rfl,rfl⟩;refine bN ?_
 have N:∀{b:Bool}{E:Rs}{r9:Nat}{Y:R},b=(z.ok&&!ne)->Ext H4 Y->SH [] H Y [(r9,82,[J T 0 0,aO b,J T 0 0,J T 0 0,bG T]),(r8,68,[J sa (yH A vn z).sp.length sc,aO (yH A vn z).ok,J ha (yH A vn z).ht.length hc,W (yH A vn z).sp.length]),(r4,82,[J T 0 0,aO aA,J T 0 0,J T 0 0,bG T]),(rw,80,[wv,lv,aO ne])]->
  iC Pg X (sub (BG Pg 34) [1,1,1,1]) (cs Pg 34 (Fr.c 0 (pr rp)<|Fr.c 1 (dN ⟨[wv,lv,aO ne]⟩)<|Fr.c 3 (pr rw)<|Fr.c 4 (pr r4)<|Fr.c 5 (vi 0)<|Fr.c 6 (pr r8)<|Fr.c 7 (pr rc)<|Fr.c 8 (vi 0)<|Fr.c 9 (pr r9)<|Fr.c 10 top<|Fr.c 11 top<|Fr.c 13 top<|Fr.c 15 top<|Fr.c 62 top<|Fr.c 63 top<|Fr.c 64 top<|Fr.n) E Y) (jO Pg [.cell 4 82,.tmp 5]<|Ofd A vn V z (z.ok&&!ne) H):=λ{b E r9 Y} e d G=>by
  subst e;exact akc ho ht (hk.stay G.ext nofun) h hz hv ad hL hB G ((I.ex g).ex d) ((B.ex g).ex d) ⟨rc,pa,pc,xs,O,aP (aP U g.bV) d.bV,(ab.iB<|g.obj _ U nofun).iB<|d.obj _ (aP U g.bV) nofun⟩
 generalize z.ok=o at N|-;cases o
 .refine fF ?_;exact G.og O O O λY r9 G d=>N (b:=aA) O d G
 .refine fF ?_;exact G.og O O O λY r9 G d=>N gB d G
end
end Go.Proofs.Lv
namespace Go.Proofs.Lu
namespace Wk
variable{A:At}{z:ai}
def ai.aeN(l:D Int)(z:ai):(z.all A l).long<=z.long+u l:=by
 induction l generalizing z with
 |nil=>exact ax _
 |cons t l b=>
  have I:(z.feed A t).long<=z.long+1:=by
   unfold ai.feed;split
   .exact ax _
   .omega
  have B:=b<|z.feed A t;show((z.feed A t).all A l).long<=_;rw[cO];omega
def agX(ho:A.Ok){l:D Sp}{t:Int}{ae:Nat}(h:∀p∈l,p.1<A.ns/\p.2<=ae):u (zO A l t)<=A.ns*(ae+1):=by
 have g:∀(m o:D Sp),o.Nodup->(m.foldl (λo p=>if p∈o then o else o++[p]) o).Nodup:=by
  intro m
  induction m with
  |nil=>exactλo h=>h
  |cons p m M=>
   intro o h;refine M _ ?_;show(if p∈o then o else o++[p]).Nodup;split
   .exact h
   .next d=>exact l7.2 ⟨h,gB,λa ha b w e=>d (by rw[aS]at w;subst w;subst e;exact ha)⟩
 refine IB (g _ _ ji) λq I=>?_;obtain⟨p,d,e,B,_,_,rfl⟩:=YZ I;exact⟨(ho.e _ (h p d).1 e B).1,pz (h p d).2⟩
structure ai.V(A:At)(z:ai):Prop where
 w:ai.vn A z
 ay:u z.fr<=bnd A z.long
def ai.V.feed(ho:A.Ok)(h:ai.V A z)(t:Int):ai.V A (z.feed A t):=by
 refine⟨h.w.feed ho t,?_⟩;unfold ai.feed;split
 .refine aR (agX (ae:=u z.sk) ho h.w.b) ?_;have:=h.w.sk.le;refine aR ?_<|GM<|jr z.long;exact g_ _ N
 .exact h.ay
def ai.V.new(ho:A.Ok):ai.V A (ai.new A):=by
 refine⟨ai.amK ho,?_⟩;have h:=(ho.s 0 ho.pos).1;exact jk (show 1<=A.ns by omega)<|wh<|bD _
def ai.V.all(ho:A.Ok):∀(l:D Int)(z:ai),ai.V A z->ai.V A (z.all A l)
 |[],_,h=>h
 |t::l,z,h=>ai.V.all ho l _<|h.feed ho t
end Wk
end Go.Proofs.Lu
