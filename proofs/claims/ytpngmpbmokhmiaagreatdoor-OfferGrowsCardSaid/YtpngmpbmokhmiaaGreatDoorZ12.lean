/-
  Part 12 of the proof. No condition.
-/
import Derived.Test.YtpngmpbmokhmiaaGreatDoorZ11
set_option linter.unusedVariables false
set_option linter.unusedSimpArgs false
set_option maxRecDepth 100000
set_option maxHeartbeats 4000000
set_option linter.defProp false
open Option renaming some->Z,none->T
open Bool renaming true->F,false->aA
open Go renaming Value->D,TypeId->aH,Program->aX
open Go.Value renaming int->bq,slice->u,bool->aR,pointer->bG,tuple->fO,agg->dP,map->fK
open Nat renaming beq->aB,ble->aD,add->a_,mul->bO,sub->dQ
open List renaming length->J,replicate->aY,range->dZ
open List.Pairwise renaming nil->qy
open List.Perm renaming swap->gX
open BitVec renaming ofInt->kW
open And renaming intro->iZ
open Go.IntKind renaming i64->bC,wrap->oG,u64->fB
noncomputable section
namespace Go.Proofs.Lv
open Go.Proofs.Lu Go.Proofs.Lu.Wk
open Go.Ae Go.Ae.hx
variable{sb:C Bool}{F':Nat->Prop}{es most rs rw':Nat}{t:Int}{au:C Nat}{L hx:C eB}{A:At}{q:AV}{f z:C D}{H Q H0:R}{v:D}{e ty:aH}
section
variable{S:C Nat}{ay:Nat->Prop}{ev sv:D}
def aoO(ho:A.Ok)(hw:Wf H)(hk:GU ay H rw' A q ev sv sb):bQ Pg X 65 [pr rw'] H (Q1 (λv Q=>∃g:AV,v=g.v A/\vI (H.bU<=·) Q A g) H):=by
 refine lq [0,2] ?_;have G:=h_ hw;refine G.jP λT E G=>?_;have d:∀{Q},Ext H Q->GU ay Q rw' A q ev sv sb:=λM=>hk.stay M nofun;refine dD (RJ (d G.ext) ho) ?_;rintro _ T ⟨rfl,rfl⟩;refine bM ?_;refine ME.uL ((d G.ext).b.read (o:=0) (n:=6) (by rw[aS];exact pZ 6 2)) ?_;refine dD (zf G.wf (d G.ext).a ho) ?_;rintro _ H2 ⟨⟨g,rfl,W⟩,M⟩;have w:=G.ext.bU;have Y:=(G.lo _<|aL ..).2;have G:=G.call M;have U:=G.base;refine U.kE (λH3 N=>?_) (by rw[lN];rfl) (by exact aF O) (by rw[lN];rfl)
 have W:=W.stay N.ext λr B=>by
  simp only[i_,kM,aT]at B;omega
 have I:=G.over N;refine Lu.rr ?_;refine I.jC ?_ (by rw[lN];exact aF O);rw[lN];exact⟨⟨g,O,W.wk λr B=>aQ w B⟩,I.ext⟩
theorem aoP(hw:Wf H):bQ Pg X 75 [] H λv Q=>∃au rs,v=pr rs/\Qb au Q rs []/\(∀r∈au,H.bU<=r/\r<Q.bU)/\Ext H Q:=by
 refine lq [0] ?_;have G:=h_ hw;refine dA (v:=dP ⟨[vi (-1),vi 0]⟩) O ?_;refine G.bS O O O jq λH1 rp G=>G.bS O O O jq λH2 ru G=>?_;have g2:=G.ext.bU;refine G.mkMap (e:=pE) NM λH3 mn d ac ab G=>?_;have g3:=G.ext.bU;refine G.mkMap (e:=pE) NN λH4 ml o B Y G=>?_;refine dA (v:=dP ⟨[u (Z ⟨rp,0,T⟩) 1 1,u (Z ⟨ru,0,T⟩) 1 1,fK<|Z mn,fK<|Z ml]⟩) O ?_;have M:=G;have G:=G.base;refine G.box O λW rs G=>?_;have w:=(d.ex B nofun).ex G.ext<|M.z8<|d.ex B nofun;have g:=o.ex G.ext<|M.z8 o;have G:=M.over G;have I:SH [] H W [(rs,128,[u (Z ⟨rp,0,T⟩) 1 1,u (Z ⟨ru,0,T⟩) 1 1,fK<|Z mn,fK<|Z ml]),(rp,161,[vi (-1),vi 0]),(ru,22,[u T 0 0])]:=G.perm<|(gX _ _ _).cons _;have⟨_,l1,_⟩:=id d;have⟨_,l2,_⟩:=id w;have⟨_,l3,_⟩:=id g;refine Lu.rr ?_;refine⟨[mn,ml,rs,rp,ru],rs,O,⟨mn,ml,_,_,[u T 0 0],[(rp,161,_)],[(ru,22,_)],[],I.base.weaken λr hr=>bL _<|bL _ hr,.inr ⟨rp,1,rfl,rfl,rfl⟩,.inr ⟨ru,1,rfl,rfl,rfl⟩,⟨[],[],rfl,GB.nil _ _,rfl⟩,?_,?_,N,gD,gD⟩,λr hr=>?_,G.ext⟩
 .simpa [KZ]using w
 .simpa [mY]using g
 .simp only[bW,fF,jo]at hr;rcases hr with rfl|rfl|hr
  .exact⟨N,l2⟩
  .exact⟨N,l3⟩
  .have hr:r∈[(rs,128,[u (Z ⟨rp,0,T⟩) 1 1,u (Z ⟨ru,0,T⟩) 1 1,fK<|Z mn,fK<|Z ml]),(rp,161,[vi (-1),vi 0]),((ru,22,[u T 0 0]):eB)].map (·.1):=nZ hr;obtain⟨e,U,rfl⟩:=bP.1 hr;exact⟨I.yV U,(I.lo e U).2⟩
end
section
variable{S:C Nat}{ay:Nat->Prop}{ev sv:D}
theorem _root_.Go.Ae.SH.nsD{m:Nat}{K:D->R->D->R->Prop}(G:SH S H0 H L)(hl:J (bY v)=m)(o:J z=m)(hk:all' fZ (bY v)=F)(kk:∀H1 r H2,SH S H0 (hM (hM H H1) H2) ((r,ty,bY v)::L)->N_ H H1=cl 5->H.bU<=r->Ext H (hM (hM H H1) H2)->K (bG<|Z ⟨r,0,T⟩) H1 undef H2):ME (Go.Ae.jP ty z<|hN H) λp H1=>ME (Go.Ae.Es m p v<|hN<|hM H H1) λai H2=>K p H1 ai H2:=by
 refine(h_ G.wf).nD λH1 r d g=>d.n_ (λH2 d=>?_) hl N hk;rw[oz _ _ N]at d;exact kk H1 r H2 (SH.frame (hx:=[]) (L:=L) G d) g (d.yV<|aL ..) d.ext
def _root_.Go.Ae.SH.bSE{K:D->R->Prop}(G:SH S H0 H L)(w:J z=es)(hv:rJ v=F)(hc:J (bY v)=es)(o:es<=16777216)(k:∀H1 r,SH S H0 (hM H H1) ((r,e,bY v)::L)->N_ H H1=cl 5->H.bU<=r->Ext H (hM H H1)->K (u (Z ⟨r,0,T⟩) 1 1) H1):ME (bS e z es 1 [(0,v)]<|hN H) K:=
 (h_ G.wf).Tq w hv hc o λH1 r d g=>k H1 r (SH.frame (hx:=[]) (L:=L) G d) g (d.yV<|aL ..) d.ext
def _root_.Go.Ae.SH.past(G:SH S H0 H L)(M:pI au H Q)(h:∀r∈au,r∈S\/H0.bU<=r)(hd:∀e∈L,e.1∉au):SH S H0 Q L:=
 ⟨G.ext.later M h,λe d=>(G.bk e d).iE<|M.obj _ (G.lo e d).2<|hd e d,λe d=>⟨(G.lo e d).1,aO (G.lo e d).2 M.bU⟩,G.ne,M.wf G.wf⟩
def Sm(S:C Nat)(H0 H:R)(rp rw' most:Nat)(A:At)(z:ah):Prop:=∃au rs d g ha hc sa sc,
 SH S H0 H [(rp,92,[pr rw',pr rs,u d (J z.fr) g,B<|J z.s0+1,u sa (J z.sp) sc,aR z.ok,u ha 0 hc,B<|J z.sp,B z.long,B z.st,B most,aR aA])]/\
 Qb au H rs z.sk/\(∀r∈au,(r∈S\/H0.bU<=r)/\r<H.bU)/\rp∉au/\jJ (λ_=>True) 86 H sa (J z.sp) 2 (B6 z.sp)/\jJ (λ_=>True) 86 H d (J z.fr) 2 (B6 z.fr)
def Qb.m{H1:R}{s:Sk}(g:Wf H)(M:pI S (hN H) H1)(h:Qb au H1 rs s):Qb au (hM H H1) rs s:=
 let⟨mn,ml,pv,uv,us,gP,gU,az,h,gp,gu,gR,m,l,r⟩:=h
 ⟨mn,ml,pv,uv,us,gP,gU,az,⟨pI.refl _ _,λe d=>(h.bk e d).iE O,h.lo,h.ne,M.draw.wf g⟩,gp,gu,gR,m,l,r⟩
def aj3(ho:A.Ok)(hw:Wf H)(hk:GU ay H rw' A q ev sv sb)(hF:∀r,ay r->r<H.bU)(hL:Lim A 0 most):
 bQ Pg X 45 [pr rw',B most] H λv Q=>∃rp,v=fO ⟨[pr rp,vi 0]⟩/\Sm [] H Q rp rw' most A (ah.new A):=by
 have ba:0<A.ns:=by have:=(ho.s 0 ho.pos).1;omega
 refine lq [0,1,4,5,6,7,8,9] ?_;refine dD (aoO ho hw hk) ?_;rintro _ H1 ⟨⟨q',rfl,I⟩,M⟩;have G:=(h_ hw).call M;refine G.ns (by rw[lN];rfl) rfl (by rw[lN];rfl) λH2 ra G a7=>?_;have G:SH [] H H2 [(ra,27,q'.cells A)]:=G;have W:=I.ex a7;refine fJ ?_;refine G.cm (vU G.wf q' A) ?_;rintro _ H3 rfl a8 G;have h3:=W.ex a8;have aE:=G.ext.bU;refine bM ?_;refine aW (λh=>N) λ_=>?_;refine dD (aoP<|oU H3) ?_;rintro _ H4 ⟨au,rs,rfl,ab,hT,ad⟩;have ab:=ab.m G.wf ad;have h4:=(h3.ex ad.draw);have G:=G.oI ad;refine fJ ?_;show PU (B_ 1 (u q'.sa A.nr q'.sc)<|B 0) _;refine h4.ajI ho ho.pos λr o=>?_;refine fJ ?_;have a9:∀r∈au,(hN<|hM H3 H4).bU<=r->False:=λr d h=>absurd (hT r d).2<|fI h;refine G.bSE O O O jq λH5 rf G c5 ap am=>dA (v:=dP ⟨[pr rw',pr rs,u (Z ⟨rf,0,T⟩) 1 1,vi 1,u T 0 0,aR aA,u T 0 0,vi 0,vi 0,vi 0,B most,aR aA]⟩) O<|G.ajT O λH6 rp G c6 ar aq=>ji (by simp only[fu,gJ ad,c5,c6];rfl) ?_;have G:SH [] H (hM (hM (hM H3 H4) H5) H6) [(rp,92,[pr rw',pr rs,u (Z ⟨rf,0,T⟩) 1 1,vi 1,u T 0 0,aR aA,u T 0 0,vi 0,vi 0,vi 0,B most,aR aA]),(rf,86,[B (A.S 0),vi 0]),(ra,27,q'.cells A)]:=G;have ab:=ab.stay (am.trans ar) nofun;have ao:=(am.trans ar).bU;have an:=am.bU;generalize hM (hM (hM H3 H4) H5) H6=U at G ab ao|-;refine fJ ?_;have a5:H.bU<=H3.bU:=aE;have a2:=G.wf;have a0:H.bU<=U.bU/\rp<U.bU:=⟨G.ext.bU,(G.lo _<|aL ..).2⟩;have a6:GU ay (hN U) rw' A q ev sv sb:=(hk.stay G.ext nofun).stay (Ext.hN U) nofun;have a1:(hM H3 H4).bU<=U.bU:=ao;have a4:∀r∈au,r<(hN U).bU:=λr d=>aO (hT r d).2 a1;have al:∀r∈au,H.bU<=r:=λr d=>aQ a5 (hT r d).1;have Y:=jJ.one (ay:=(·=rf)) (es:=2) G (n:=1) (show((rf,86,[B (A.S 0),vi 0]):eB)∈_ by simp) O O;show bQ Pg X 57 [pr rw',pr rs,u (Z ⟨rf,0,T⟩) ([(A.S 0,0)]:C Sp).length 1,B 0,u T 0 0,B most] (hN U) _;refine dD (WT (hd:=λ_=>aA) (λQ _ r _=>aiv _) ho a6 (λr d=>⟨aO (hF r d) G.ext.bU,λh=>absurd (al r h)<|fH<|hF r d⟩) (ab.stay (Ext.hN U) nofun) a4 (Y.ex<|Ext.hN U) (λr d e=>by subst e;exact absurd ap<|fH (hT _ d).2) (λp hp=>by rw[aT]at hp;subst hp;exact⟨(ho.s 0 ho.pos).1,ax _⟩) ⟨jg,(λe h=>by cases h),λe h=>by cases h⟩ hL gD (by rw[zo];exact bD _)) ?_;rintro _ H8 ⟨sa,sc,ha,hc,T',rfl,w,a3,BK,NT,_⟩;rw[zo,GQ]at*;refine bM ?_
 have G:SH [] H (hM U H8) [(rp,92,[pr rw',pr rs,u (Z ⟨rf,0,T⟩) 1 1,vi 1,u T 0 0,aR aA,u T 0 0,vi 0,vi 0,vi 0,B most,aR aA])]:=(fU (A:=[_,_])<|G.perm<|aI (l₁:=[_])).past BK.draw (λr d=>.inr<|al r d) λe he=>by
  rw[aT.1 he];exactλhm=>absurd (hT _ hm).2<|fI<|aQ an aq
 have w:=w.m a2 BK;have NT:jJ (λ_=>True) 86 (hM U H8) sa _ 2 _:=NT.wk λ_ _=>trivial;have Y:=Y.stay BK.draw λr d=>.inl λe=>by subst e;exact absurd ap<|fH (hT _ d).2
 refine G.nsD O O O λH9 rc CF G c9 bb uR=>?_;have G:SH [] H (hM (hM (hM U H8) H9) CF) [(rc,68,[u sa (close A 0 [] [(A.S 0,0)]).sp.length sc,aR (close A 0 [] [(A.S 0,0)]).ok,u ha 0 hc,B (close A 0 [] [(A.S 0,0)]).sp.length]),(rp,92,[pr rw',pr rs,u (Z ⟨rf,0,T⟩) 1 1,vi 1,u T 0 0,aR aA,u T 0 0,vi 0,vi 0,vi 0,B most,aR aA])]:=G;have n1:rc≠rp:=G.neT;refine splitK (λK hK=>?_) ?_
 .simp only[fu,gT,c9];rcases xB U H8 with e|e<;>rw[e]<;>apply mO (a:=rc) (b:=rp) n1 yB fT fT hK
 have w:=w.stay uR nofun;have NT:=NT.ex uR;have Y:=Y.ex uR
 have ac:∀r∈T',r<(hM (hM (hM U H8) H9) CF).bU/\r∉[rc,rp]/\H.bU<=r:=λr d=>by
  have h7:(hN U).bU=U.bU:=rfl;have h8:=uR.bU;have g8:(hM U H8).bU=H8.bU:=rfl;have⟨g1,g2⟩:=a3 r d;have bc:=a0;refine⟨N,λh=>?_,g2.elim (al r) λg=>N⟩;simp only[bW,fF,jo]at h;rcases h with rfl|rfl
  .omega
  .rcases g2 with g2|g2
   .exact absurd (hT _ g2).2<|fI<|aQ an aq
   .omega
 generalize hM (hM (hM U H8) H9) CF=Ry at G w NT Y ac|-;refine bM ?_;refine fP (λh=>absurd trivial h) λ_=>?_;have ag:=G;have G:=G.base;refine fJ ?_;refine G.n_ λHn G=>?_;refine G.n_ λHn G=>?_;refine splitK (λK hK=>?_) ?_
 .simp only[fu,gT];apply mO (a:=rc) (b:=rp) n1 yB fT fT hK
 refine Lu.rr ?_;have d:∀r∈[rc,rp],r∉T':=λr d h=>(ac r h).2.1 d;refine⟨rp,O,T',rs,Z ⟨rf,0,T⟩,1,ha,hc,sa,sc,?_,w.stay G.ext d,λr d=>⟨.inr (ac r d).2.2,aO (ac r d).1 G.ext.bU⟩,d rp gD,NT.stay G.ext λr d=>.inr ?_,(Y.stay G.ext λr d=>.inr ?_).wk λ_ _=>trivial⟩
 .have h:=fU (A:=[_]) (ag.over G);rw[show(ah.new A).st=(close A 0 [] [(A.S 0,0)]).sp.length from bB _];exact h
 all_goals
  simp only[i_,kM,bW,fF,jo]at d;rcases d with rfl|rfl
  .exactλht=>absurd (ht.one (ag.get 0 O).Gb) jq
  .exactλht=>absurd (ht.one (ag.get 1 O).Gb) jq
end
section
variable{S:C Nat}{ay:Nat->Prop}{ev sv:D}{rp:Nat}{z:ah}
def Sm.ex(h:Sm S H0 H rp rw' most A z)(M:Ext H Q):Sm S H0 Q rp rw' most A z:=
 let⟨au,rs,fa,fc,IL,htc,sa,sc,G,I,W,h3,h4,h5⟩:=h
 ⟨au,rs,fa,fc,IL,htc,sa,sc,G.call M,I.stay M λr h=>(by cases h),λr d=>⟨(W r d).1,aO (W r d).2 M.bU⟩,h3,h4.ex M,h5.ex M⟩
def Sm.ext(h:Sm S H0 H rp rw' most A z):pI S H0 H:=let⟨_,_,_,_,_,_,_,_,G,_⟩:=h;G.ext
def Sm.wf(h:Sm S H0 H rp rw' most A z):Wf H:=let⟨_,_,_,_,_,_,_,_,G,_⟩:=h;G.wf
def Qb.cell{s:Sk}(h:Qb au H rs s):∃a c,H.cell rs 0=Z (u a (J s+1) c):=by
 have⟨mn,ml,pv,uv,us,gP,gU,az,hq,gp,_⟩:=h;obtain⟨o,g,r,rfl,d⟩:=gp.OP;simp only[cO,uE,aK]at d;obtain rfl:g=J s+1:=N;exact⟨_,_,(hq.get 0 O).cell O⟩
def Sm.own(h:Sm S H0 H rp rw' most A z):∃S',(∀r∈S',(r∈S\/H0.bU<=r)/\r<H.bU)/\∀X Q,pI X H Q->(∀r∈X,r∉S'/\¬Ah H r 86)->Sm S' Q Q rp rw' most A z:=by
 have⟨au,rs,fa,fc,IL,htc,sa,sc,G,I,W,h3,h4,h5⟩:=h;have g:=G.lo _<|aL ..
 refine⟨rp::au,λr hr=>?_,λX Q M hX=>⟨au,rs,fa,fc,IL,htc,sa,sc,⟨pI.refl _ _,λe d=>?_,λe d=>?_,G.ne,M.wf G.wf⟩,I.stay M λr hr o=>(hX r hr).1<|bL _ o,λr hr=>⟨.inl<|bL _ hr,aO (W r hr).2 M.bU⟩,h3,h4.stay M λr hr=>.inr (hX r hr).2,h5.stay M λr hr=>.inr (hX r hr).2⟩⟩
 .rcases bW.1 hr with rfl|hr
  .exact g
  .exact W r hr
 .rw[aT.1 d];exact(G.get 0 O).iE<|M.obj _ g.2 λhr=>(hX _ hr).1<|aL ..
 .rw[aT.1 d];exact⟨.inl<|aL ..,aO g.2 M.bU⟩
def NU{f:C D}(d:H.cell rp 0=Z (pr rw')):bQ Pg X 48 [pr rp] H (Q0 (λv=>v=aR aA) H):=by
 refine lq [0,2] ?_;refine dA (v:=aR aA) fT ?_;refine bM ?_;refine iY d<|dA (v:=aR aA) fT<|Lu.rr ?_;exact⟨O,O⟩
def aj5(h:Sm S H0 H rp rw' most A z):bQ Pg X 16 [pr rp] H (Q0 (λv=>v=aR z.ok) H):=by
 have⟨au,rs,fa,fc,IL,htc,sa,sc,G,I,W,h3,h4,h5⟩:=h;refine lq [0,2] ?_;refine dA (v:=aR F) fT ?_;refine bM ?_;refine G.qF<|Lu.rr ?_;exact⟨O,O⟩
def aj6(h:Sm S H0 H rp rw' most A z):bQ Pg X 18 [pr rp] H (Q0 (λv=>v=B z.long) H):=by
 have⟨au,rs,fa,fc,IL,htc,sa,sc,G,I,W,h3,h4,h5⟩:=h;refine lq [0,2] ?_;refine dA (v:=aR aA) fT ?_;refine bM ?_;refine G.qF<|Lu.rr ?_;exact⟨O,O⟩
theorem aey(ho:A.Ok)(ht:A.ty<=65536)(hk:GU ay H0 rw' A q ev sv sb)(U:∀r,ay r->r∉S)(h:Sm S H0 H rp rw' most A z)(w:ah.h2 A z)(Y:bnd A z.long<=8000000):
 bQ Pg X 14 [pr rp] H (Q1 (λv Q=>FE (H.bU<=·) Q v<|US<|OQ A z.sp) H):=by
 have⟨au,rs,fa,fc,IL,htc,sa,sc,G,I,W,h3,h4,h5⟩:=h;have g:=hk.stay G.ext λr h hf=>U r hf h;refine lq [0,2] ?_;refine dD (NU (f:=[])<|(G.get 0 O).cell (o:=0) O) ?_;rintro _ d ⟨rfl,rfl⟩;refine fJ ?_;refine dD (Y0 ho ht (oU d) (g.stay (Ext.hN d) nofun) (h4.ex<|Ext.hN d) (λp hp=>(w.b p hp).1)<|aQ w.le Y) ?_;rintro v H2 ⟨⟨r,B,N,g3,T,g5⟩,M⟩;refine ji (by simp only[fu,gJ M];rfl) ?_;refine Lu.rr ?_;exact⟨⟨r,B,N,g3,T.iE O,g5⟩,M.draw⟩
theorem aj7(ho:A.Ok)(ht:A.ty<=65536)(hk:GU ay H0 rw' A q ev sv sb)(hF:∀r,ay r->r<H0.bU/\r∉S)(h:Sm S H0 H rp rw' most A z)(hz:ah.h2 A z)(hL:Lim A (z.long+1)<|most-z.st)(be:z.st<=most)(hm:most<=1000000000000000)(bc:z.long<=100000)(t:Int):
 bQ Pg X 22 [pr rp,vi t] H λv Q=>v=fO ⟨[aR (decide<|off A z.sp t),vi 0]⟩/\Sm S H0 Q rp rw' most A (z.feed A t):=by
 have ar:bnd A z.long<=8000000:=aQ (GN<|jv _) hL.b;have h0:=h;have⟨au,rs,fa,fc,IL,htc,sa,sc,G,I,W,h3,h4,h5⟩:=h;refine lq [0,1,4,5,6,7,8,9] ?_;refine dD (NU (f:=[])<|(G.get 0 O).cell (o:=0) O) ?_;rintro _ H1 ⟨rfl,rfl⟩;refine fJ ?_;refine dD (aey ho ht hk (λr h=>(hF r h).2) h0 hz ar) ?_;rintro v H2 ⟨a7,Y⟩;have h0:=h0.ex Y;have G:=G.call Y;have h4:=h4.ex Y;have I:=I.stay Y nofun;refine dD (aaF a7 t) ?_;rintro _ H3 ⟨rfl,rfl⟩;rw[aex ho ht (λp hp=>(hz.b p hp).1)];refine yx (λhc=>?_) λhc=>?_
 .refine Lu.rr ?_;rw[dR hc,show z.feed A t=z from jk hc];exact⟨O,h0⟩
 rw[b_ hc,show z.feed A t=z.on A t from jj hc];apply G.qF;have⟨pa,pc,hcell⟩:=I.cell;refine dD (NP hcell) ?_;rintro _ H3 ⟨rfl,rfl⟩;have a0:∀{Q},pI S H0 Q->GU ay Q rw' A q ev sv sb:=λM=>hk.stay M λr h hf=>(hF r hf).2 h;have a1:=hz.sk.le;have aE:A.ns*(J z.sk+1)<=8000000:=aQ (gM _<|wz a1) ar;have a2:=aQ hz.le ar;refine fJ ?_;refine dD (amX ho (oU H3) (a0<|G.ext.trans'<|Ext.hN H3) (h4.ex<|Ext.hN H3) (λp hp=>hz.b p hp) aE a2) ?_;rintro _ H4 ⟨⟨na,nc,rfl,T⟩,ac⟩;refine ji (by simp only[fu,gJ ac];rfl) ?_;have G:=G.oI ac;have I:=I.stay ac.draw nofun;have h4:=h4.ex ac.draw;have T:jJ (H3.bU<=·) 86 (hM H3 H4) na _ 2 _:=T;have ab:=ac.draw.bU;generalize hM H3 H4=U at G I h4 T ab|-;refine fJ ?_;refine dA (v:=B<|z.long+1) ((gB N N).trans<|by rw[show((z.long:Int)+1)=((z.long+1:Nat):Int) by omega]) ?_;refine fJ ?_;refine dA (v:=B<|most-z.st) ((qO N N).trans<|by rw[show((most:Int)-z.st)=((most-z.st:Nat):Int) by omega]) ?_;have a8:=a0<|G.ext.trans'<|Ext.hN U;have ap:∀r∈au,r∈S\/H0.bU<=r:=λr d=>(W r d).1;have aq:∀r∈au,r<H3.bU:=λr d=>aO (W r d).2 Y.bU;have a6:∀r∈au,r<U.bU:=λr d=>aO (aq r d) ab
 have a9:J (zZ A z.sp t)<=8000000:=by
  rw[aev];exact aQ (RO.fold ho _ (λp hp=>hz.b p hp) ⟨jg,nofun⟩).le aE
 have a3:=G.ext.bU;have bb:=(G.lo _<|aL ..).2;have a4:=G.wf;refine dD (WT (hd:=λ_=>aA) (λQ _ r _=>aiv _) (l:=zZ A z.sp t) ho a8 (λr d=>⟨aO (hF r d).1 a3,λh=>(ap r h).elim (hF r d).2<|fH (hF r d).1⟩) (I.stay (Ext.hN U) nofun) a6 (T.ex<|Ext.hN U) (λr d=>fH<|aq r d) (hz.nx ho t) (hz.sk.up<|jv _) hL a9 (by rw[zo];exact bD _)) ?_;rintro _ H8 ⟨ad,an,al,am,T',rfl,w,a5,BK,NT,_⟩;rw[zo];rw[GQ]at w NT|-;refine bM ?_;have G:=G.past BK.draw ap λe he=>by rw[aT.1 he];exact h3
 have w:=w.m a4 BK;have NT:jJ (λ_=>True) 86 (hM U H8) ad _ 2 _:=NT.wk λ_ _=>trivial;have T:=T.stay BK.draw λr d=>.inl<|fH<|aq r d;have ba:z.on A t=ah.of (close A (z.long+1) z.sk<|zZ A z.sp t) (z.long+1) z.st z.sk (zZ A z.sp t):=rfl;have bf:=aQ (YP ho (hz.sk.up<|jv _)<|hz.nx ho t).le hL.b;generalize close A (z.long+1) z.sk (zZ A z.sp t)=y at*;refine G.nsD O O O λH9 rc CF G c9 bd uR=>?_;have G:SH S H0 (hM (hM (hM U H8) H9) CF) [(rc,68,[u ad (J y.sp) an,aR y.ok,u al 0 am,B<|J y.sp]),(rp,92,[pr rw',pr rs,u fa (J z.fr) fc,B<|J z.s0+1,u sa (J z.sp) sc,aR z.ok,u IL 0 htc,B<|J z.sp,B z.long,B z.st,B most,aR aA])]:=G;have n1:rc≠rp:=G.neT;refine splitK (λK hK=>?_) ?_
 .simp only[fu,gT,c9];rcases xB U H8 with e|e<;>rw[e]<;>apply mO (a:=rc) (b:=rp) n1 yB fT fT hK
 have w:=w.stay uR nofun;have NT:=NT.ex uR;have T:=T.ex uR
 have ag:∀r∈T',r<(hM (hM (hM U H8) H9) CF).bU/\r∉[rc,rp]/\(r∈S\/H0.bU<=r):=λr d=>by
  have h7:(hN U).bU=U.bU:=rfl;have h8:=uR.bU;have g8:(hM U H8).bU=H8.bU:=rfl;have⟨g1,g2⟩:=a5 r d;refine⟨N,λh=>?_,g2.elim (ap r) λg=>.inr N⟩;simp only[bW,fF,jo]at h;rcases h with rfl|rfl
  .omega
  .rcases g2 with g2|g2
   .exact h3 g2
   .omega
 generalize hM (hM (hM U H8) H9) CF=Ry at G w NT T ag|-;refine bM ?_;refine fP (λh=>absurd trivial h) λ_=>?_;have ao:=G;have G:=G.base;refine fJ ?_;refine G.n_ λHn G=>?_;refine G.n_ λHn G=>?_;refine G.n_ λHn G=>?_;refine splitK (λK hK=>?_) ?_
 .simp only[fu,gT];apply mO (a:=rc) (b:=rp) n1 yB fT fT hK
 have G:=G.cast (L':=[(rc,68,[u ad (J y.sp) an,aR y.ok,u al 0 am,B<|J y.sp]),(rp,92,[pr rw',pr rs,u na (J<|zZ A z.sp t) nc,B<|J z.sk+1,u ad (J y.sp) an,aR y.ok,u al 0 am,B<|J y.sp,B z.long,B z.st,B most,aR aA])]) O;apply G.qF;refine dA (v:=B<|z.long+1) ((gB N N).trans<|by rw[show((z.long:Int)+1)=((z.long+1:Nat):Int) by omega]) ?_;refine G.kE λHn G=>?_;refine fJ ?_;refine dA (v:=B<|z.st+J y.sp) ((gB N N).trans<|by rw[show((z.st:Int)+J y.sp)=((z.st+J y.sp:Nat):Int) by omega]) ?_;refine G.n_ λHn G=>?_;refine splitK (λK hK=>?_) ?_
 .simp only[fu,gT];apply mO (a:=rc) (b:=rp) n1 yB fT fT hK
 have d:∀r∈[rc,rp],r∉T':=λr d h=>(ag r h).2.1 d;refine Lu.rr ?_;rw[ba];refine⟨O,T',rs,na,nc,al,am,ad,an,fU (A:=[_])<|ao.over G,w.stay G.ext d,λr d=>⟨(ag r d).2.2,aO (ag r d).1 G.ext.bU⟩,d rp gD,NT.stay G.ext λr d=>.inr ?_,(T.stay G.ext λr d=>.inr ?_).wk λ_ _=>trivial⟩
 all_goals
  simp only[i_,kM,bW,fF,jo]at d;rcases d with rfl|rfl
  .exactλht=>absurd (ht.one (ao.get 0 O).Gb) jq
  .exactλht=>absurd (ht.one (ao.get 1 O).Gb) jq
end
end Go.Proofs.Lv
namespace Go.Ae
variable{a:aC Addr}{K:D->R->Prop}{c es n:Nat}{L gb:C eB}{t ty:aH}{f:C D}{H H0:R}
section
variable{P:aX}{κ:Type}[DecidableEq κ]{e:κ->D}{S:C Nat}
def SH.aez{q:aH×aH}(G:SH S H0 H L)(I:vz P t=Z q)(kk:∀H1 r,Ce e (hM H H1) r (λ_=>T)->Ext H (hM H H1)->N_ H H1=cl 5->H.bU<=r->SH S H0 (hM H H1) L->K (fK<|Z r) H1):ME (vD P t (Z<|B n)<|Go.Ae.hN H) K:=by
 have M:Ext H (hM H<|(Go.Ae.hN H).new<|.map []):=(Ext.new (Go.Ae.hN H) _).draw;refine ME.of (v:=fK<|Z H.bU) (H:=(Go.Ae.hN H).new<|.map []) ?_<|kk _ _ ⟨[],dI _,by show((Go.Ae.hN H).new<|.map []).obj H.bU=_;exact(yf ..).trans<|jj O,λ_=>rfl⟩ M (yg<|Ext.new _ _) (ax _)<|G.call M;show aN (vz P t) _=_;rw[I];rfl
end
def aeA{r m:Nat}(h:m<=n)(g:n<=16777216):R4 es (u (Z ⟨r,0,T⟩) n n) T (Z<|B m) T=Z (u (Z ⟨r,0,T⟩) m n):=by
 show cr (gW n) (gd (aD 0 m&&aD m n&&aD n n&&F)<|Z<|u (Z ⟨r,sS n 0 0 es,T⟩) (dQ m 0)<|dQ n 0) _=_
 have d:sS n 0 0 es=0:=by
  unfold sS;cases aB n 0
  .show a_ 0 (bO 0 es)=0;rw[show bO 0 es=0 from jm es]
  .rfl
 rw[show gW n=F from aG N,oh,aG<|bD _,aG h,aG<|ax _,d];rfl
def GJ.cut{m:Nat}(d:GJ ty es (u a n c) f gb)(h:m<=n)(g:n<=16777216):∃c',R4 es (u a n c) T (Z<|B m) T=Z (u a m c'):=by
 rcases d with(⟨e,_,_⟩|⟨r,k,o,e,_⟩)|⟨r,k,e,_⟩<;>cases e
 .obtain rfl:m=0:=N;exact⟨_,QW⟩
 .exact⟨_,BV h⟩
 .exact⟨_,aeA h g⟩
def Fl.cut{m:Nat}(h:Fl H a n es f)(g:m<=n):Fl H a m es (f.take<|m*es):=by
 have r:=fA es g;have o:=h.1;refine⟨by rw[dX];omega,λi x d=>h.2 i x ?_⟩;rw[iB]at d;split at d
 .exact d
 .cases d
def SH.aj8{S:C Nat}{xs:C D}(G:SH S H0 H L)(d:0<es)(M:Fl H a n es xs)(o:0<n)(g:n<=16777216)(k:∀H1 r,SH S H0 (hM H H1) ((r,ty,xs)::L)->Ext H (hM H H1)->(Df H H1=cl 1)->H.bU<=r->K (u (Z ⟨r,0,T⟩) n<|gQ es) H1):ME (Bo ty es (u T 0 0) (u a n c)<|Go.Ae.hN H) K:=by
 rw[Cv (.inl O) (uf (M.ex<|Go.Proofs.Lv.Ext.hN H) d) g,jk N];exact k _ _ (G.zC ty xs) (Ext.new _ _).draw (gJ<|Ext.new _ _)<|ax _
end Go.Ae
namespace Go.Proofs.Lu.Wk
variable{x:Nat}
section
variable{s:Sk}{A:At}{a i j k m n:Nat}
def zh(s:Sk)(k:Nat):C Nat:=if k=0 then[]else(mY s k).2.2
def zT(s:Sk)(i j k:Nat):C Nat:=if k<i then zh s k else if k=i then(zh s k).take j else[]
def aaH(h:J (zh s i)<=j):zT s i j=zT s (i+1) 0:=funext λk=>by
 unfold zT
 by_cases I:k<i
 .rw[jj I,jj N]
 rw[jk I]
 by_cases W:k=i
 .subst W;rw[jj O,jj N,dV h]
 .rw[jk W,jk N];split<;>rfl
def agU(h:j<J (zh s i)):x∈zT s i (j+1) k<->x∈zT s i j k\/(k=i/\x=(zh s i)[j]):=by
 unfold zT
 by_cases I:k<i
 .rw[jj I,jj I];exact⟨.inl,λh=>h.elim id λg=>absurd g.1 N⟩
 rw[jk I,jk I]
 by_cases W:k=i
 .subst W;rw[jj O,jj O,dY,av h,cK];simp only[Option.toList,aT,true_and]
 .rw[jk W,jk W];simp[W]
def aj9{l:Sk}{e:Nat×Nat×C Nat}(h:((l++[e]).map λe=>(e.1,e.2.1)).Nodup):KZ l e.1 e.2.1=T:=by
 unfold KZ;rw[uG];intro x M;rw[dM,l8]at h;have:=h.2.2 (x.1,x.2.1) (bP.2 ⟨x,M,O⟩) (e.1,e.2.1) gD;simp only[ne_eq,yJ,not_and]at this;cases hb:(x.1==e.1&&x.2.1==e.2.1)with
 |false=>simp
 |true=>simp only[bE,ni]at hb;exact absurd hb.2<|this hb.1
def aeB(h:(s.map λe=>(e.1,e.2.1)).Nodup)(hi:i<J s)(r a:Nat):KZ (s.take<|i+1) r a=if(r,a)=(s[i].1,s[i].2.1)then Z i else KZ (s.take i) r a:=by
 rw[dY,av hi]
 have hs:((s.take i++[s[i]]).map λe=>(e.1,e.2.1)).Nodup:=by
  refine List.Nodup.sublist (List.Sublist.map _ ?_) h;have:s.take i++[s[i]]=s.take (i+1):=by rw[dY,av hi];rfl
  rw[this];exact List.take_sublist _ _
 have:=UB (l:=s[i].2.2) (r':=r) (a':=a)<|aj9 hs;rw[dX,jI N]at this;exact this
end
end Go.Proofs.Lu.Wk
namespace Go.Proofs.Lv
open Go.Proofs.Lu Go.Proofs.Lu.Wk
open Go.Ae Go.Ae.hx
variable{Q:R}{v:D}
section
variable{H0 H:R}{L hx:C eB}{S au:C Nat}{rs ru rp mn ml rc:Nat}{s:Sk}{A:At}{a m i j:Nat}
def Sv(H:R)(rs:Nat)(s:Sk):Prop:=∃d g o w r x y,rs<H.bU/\Bk H rs 128 [u d (J s+1) g,u o (J s+1) w,x,y]/\Fl H d (J s+1) 2 (vi (-1)::B 0::B6 (s.map λe=>(e.1,e.2.1)))/\
 (∀m,m<=J s+1->∃c',R4 2 (u d (J s+1) g) T (Z<|B m) T=Z (u d m c'))/\Fl H o (J s+1) 1 r/\
 ∀k,k<=J s->∃a c,r[k]?=Z (u a (J<|zh s k) c)/\Fl H a (J<|zh s k) 1 (gq<|zh s k)
def Sv.ex(h:Sv H rs s)(M:Ext H Q):Sv Q rs s:=
 let⟨pa,pc,ua,uc,us,x,y,I,W,h3,h4,h5,h6⟩:=h
 ⟨pa,pc,ua,uc,us,x,y,aO I M.bU,W.iE<|M.obj _ I nofun,h3.ex M,h4,h5.ex M,λk d=>let⟨a,c,g1,g2⟩:=h6 k d;⟨a,c,g1,g2.ex M⟩⟩
def Qb.sv(h:Qb au H rs s)(hb:J s<=8000000):Sv H rs s:=by
 have⟨mn,ml,pv,uv,us,gP,gU,az,h,gp,gu,gR,m,l,ne,o,g⟩:=h;have I:=fU (A:=[_]) h;have W:=fU I;have M:=fU W;obtain⟨pa,n,pc,rfl,U,d⟩:=gp.fl I;obtain⟨ua,k,uc,rfl,T,O⟩:=gu.fl W;have r:n=J s+1:=by simp only[cO,uE,aK]at U;omega
 have w:k=J s+1:=by have:=gR.len;simp only[cO,aK]at this;omega
 subst r w;refine⟨pa,pc,ua,uc,us,_,_,(h.lo _<|aL ..).2,h.bk _<|aL ..,d,λm o=>gp.cut o N,O,λk T=>?_⟩;have Y:J us=J s+1:=N;obtain⟨a,n,c,e,g,d⟩:=gR.all (L:=[]) (by rw[bF];exact M) k N
 have B:((([]::s.map λe=>gq e.2.2)[k]?).getD []:C D)=gq (zh s k):=by
  unfold zh mY;cases k with
  |zero=>rfl
  |succ k=>
   rw[eP,bK,jk<|p9 k,jl,av (show k<J s by omega)];rfl
 rw[B]at g d;rw[aK]at g;obtain rfl:n=J (zh s k):=N;exact⟨a,c,by rw[av N,e],d.1⟩
def _root_.Go.Ae.Fl.ix1{n c k:Nat}{f:C D}{a:aC Addr}{K:D->D->R->Prop}(h:Fl H a n 1 f)(hk:k<n)(hv:f[k]?=Z v)(kk:∀p,K p v H):
 PU (B_ 1 (u a n c)<|B k) λp=>ME (wR T p H) (K p):=by
 have⟨r,o,I,W,h3,_⟩:=h.idx (c:=c) (dI 0) hk;exact dA I<|iY (by simpa using h3 0 v (dI 0) (nZ hv))<|kk _
def UE:∀(l:C Sp)(m:Nat),(B6 l).take (m*2)=B6 (l.take m)
 |[],m=>by simp[B6]
 |p::l,0=>rfl
 |p::l,m+1=>by rw[iC];show B p.1::B p.2::(B6 l).take (m*2)=_;rw[UE l m];rfl
def Ct(H0 H:R)(rc rp ru mn ml m:Nat)(s:Sk)(q i j:Nat):Prop:=∃d az,SH [] H0 H ((rc,128,[u (Z ⟨rp,0,T⟩) (m+1) (gQ 2),u (Z ⟨ru,0,T⟩) (m+1)<|m+1,fK<|Z mn,fK<|Z ml])::(rp,161,vi (-1)::B 0::B6 ((s.take m).map λe=>(e.1,e.2.1)))::(ru,22,d)::az)/\
 IX 3 1 ((dZ<|m+1).map λk=>gq<|zT s i j k) d az/\Ce pE H mn (λp=>(KZ (s.take q) p.1 p.2).map λk=>B<|k+1)/\Ce pE H ml (λp=>if p.1<=m/\p.2∈zT s i j p.1 then Z u0 else T)/\mn≠ml/\H0.bU<=mn/\H0.bU<=ml
def Ct.done(h:Ct H0 H rc rp ru mn ml m s m (m+1) 0)(M:m<=J s):∃T',Qb T' H rc (s.take m)/\(∀r∈T',H0.bU<=r/\r<H.bU)/\Ext H0 H:=by
 have⟨us,az,G,gR,mN,mL,ne,ln,ll⟩:=h;have g:J (s.take m)=m:=by rw[dX];omega
 have o:(dZ<|m+1).map (λk=>gq<|zT s (m+1) 0 k)=[]::(s.take m).map λe=>gq e.2.2:=by
  apply ja
  .simp;omega
  .intro k I W;simp only[aK,l7]at I;rw[ik,kF];unfold zT zh mY;rw[jj I];cases k with
   |zero=>rfl
   |succ k=>
    rw[jk (p9 k),List.getElem_cons_succ,ik,rT,jl,av N];rfl
 have w:∀p:Sp,(p.1<=m/\p.2∈zT s (m+1) 0 p.1)<->(0<p.1/\p.2∈(mY (s.take m) p.1).2.2):=by
  intro p;unfold zT zh mY;rcases gK p.1 with h0|h0
  .simp[h0]
  .by_cases hk:p.1<=m
   .rw[jj N,jk N,iB,jj N];simp[h0,hk]
   .have:(s.take m)[p.1-1]?=T:=dw (by rw[g];omega);rw[this];simp[hk]
 have⟨_,l1,_⟩:=id mN;have⟨_,l2,_⟩:=id mL;refine⟨mn::ml::((rc,128,[u (Z ⟨rp,0,T⟩) (m+1) (gQ 2),u (Z ⟨ru,0,T⟩) (m+1)<|m+1,fK<|Z mn,fK<|Z ml])::(rp,161,vi (-1)::B 0::B6 ((s.take m).map λe=>(e.1,e.2.1)))::(ru,22,us)::az:C eB).map (·.1),⟨mn,ml,_,_,us,[(rp,161,_)],[(ru,22,us)],az,G.base.weaken λr hr=>bL _<|bL _ hr,.inl<|.inr ⟨rp,m+1,[],rfl,?_,gD⟩,.inr ⟨ru,m+1,rfl,?_,rfl⟩,by rw[<-o];exact gR,?_,?_,ne,gD,gD⟩,λr hr=>?_,G.ext⟩
 .simp only[cO,uE,aK,g];omega
 .have:=gR.len;simp at this;omega
 .exact mN
 .have:(λp:Sp=>if 0<p.1/\p.2∈(mY (s.take m) p.1).2.2 then Z u0 else T)=λp=>if p.1<=m/\p.2∈zT s (m+1) 0 p.1 then Z u0 else T:=funext λp=>by simp only[w p]
  rw[this];exact mL
 .rcases bW.1 hr with rfl|hr
  .exact⟨ln,l1⟩
  rcases bW.1 hr with rfl|hr
  .exact⟨ll,l2⟩
  obtain⟨e,d,rfl⟩:=bP.1 hr;exact⟨G.yV d,(G.lo e d).2⟩
theorem aiz{K:Out->Prop}{x8 TG TH r:D}{E:Rs}(sv:Sv H0 rs s)(h:Ct H0 H rc rp ru mn ml m s i i 0)(hi:i<=m)(hm:m<=J s)(hc:∀ai∈zh s i,ai<=m)(hb:J s<=1000000)(JF:J (zh s i)<=8000000)(k:∀x8 TG TH r E Q,Ct H0 Q rc rp ru mn ml m s i (i+1) 0->iG Pg X (sub (BG Pg 58) [1,1,1,1,0,1,0,0,1,1,1]) (ay Pg 58 (Fr.c 0 (pr rs)<|Fr.c 1 (B<|m+1)<|Fr.c 4 (bG T)<|Fr.c 5 (pr rc)<|Fr.c 6 (B i)<|Fr.c 8 x8<|Fr.c 35 (B<|m+1)<|Fr.c 36 (B i)<|Fr.c 59 TG<|Fr.c 60 TH<|Fr.c 61 r<|Fr.n) E Q) K):
 iG Pg X (sub (BG Pg 58) [1,1,1,1,0,1,0,0,1,1,0,0,1,1]) (ay Pg 58 (Fr.c 0 (pr rs)<|Fr.c 1 (B<|m+1)<|Fr.c 4 (bG T)<|Fr.c 5 (pr rc)<|Fr.c 6 (B i)<|Fr.c 8 x8<|Fr.c 35 (B<|m+1)<|Fr.c 36 (B i)<|Fr.c 59 TG<|Fr.c 60 TH<|Fr.c 61 r<|Fr.n) E H) (uB 1<|uW Pg X (sub (BG Pg 58) [1,1,1,1,0,1,0,0,1,1,1]) K):=by
 have G:=h;have⟨us,az,G,gR,mN,mL,ne,ln,ll⟩:=G;have Y:=G.ext;have⟨pa,pc,ua,uc,ws,xx,yy,s1,s2,s3,s4,s5,s6⟩:=sv;have⟨ra,rcc,e1,f1⟩:=s6 i N;refine tp ?_;refine iY ((s2.iE<|Y.obj _ s1 nofun).cell (o:=1) O)<|(s5.ex Y).ix1 N e1 λ_=>?_;refine bM ?_;clear us az G gR mN mL ne ln ll;refine lp2 8 61 (h1:=λk x8 r Q=>∃j:Nat,r=B j/\j+k=J (zh s i)/\Ct H0 Q rc rp ru mn ml m s i i j) ?_ (J<|zh s i) ⟨0,rfl,bB _,h⟩;rintro n x8 r E H1 ⟨j,rfl,hj,g⟩;refine lX (λab=>?_) λab=>?_
 .refine k _ _ _ _ _ _ ?_;have e:zT s i j=zT s (i+1) 0:=aaH N;unfold Ct at g|-;rw[e]at g;exact g
 have d:j<J (zh s i):=N;have⟨us,az,G,gR,mN,mL,ne,ln,ll⟩:=g;refine(f1.ex G.ext).ix1 d (A_ d) λ_=>?_;rw[getD_in (h:=d)];have hu:=hc _<|bH d;generalize hue:(zh s i)[j]=ai at hu|-;refine bM ?_;refine aW (λJP=>?_) λJP=>N;have h4:=G;have G:=G.base;have ag:J us=m+1:=by have:=gR.len;simpa using this.symm
 obtain⟨A',gb,vn,rfl,M,U⟩:=gR.at i N
 have ac:((dZ<|m+1).map λk=>gq<|zT s i j k)[i]?.getD []=gq ((zh s i).take j):=by
  rw[bK,uh N];show gq (zT s i j i)=_;unfold zT;rw[jk (mG i),jj O]
 rw[ac]at M;have ad:us[i]?=Z us[i]:=av N;refine fJ ?_;refine G.R8 (k:=i) N ad<|G.lJ ?_;refine M.GM G O O O (by rw[aK,dX];omega) λq H5 v' H6 iN VL G c5 c6 h5=>?_;obtain⟨va,vl,vc,rfl⟩:=VL.sl;have h6:=G;refine G.OM (k:=i) N N (kk:=λH7 G=>?_);have n2:ru≠rc:=h5.neT;refine splitK (λK hK=>?_) ?_
 .have r1:∀{a b:R},oQ ⟨2,0,0,0,hM H1 H5,H6⟩ ⟨4,rc,1,1,a,b⟩=F:=h5.rd h6 λv hv=>by
   have hv:v∈[u (Z ⟨ru,0,T⟩) (m+1) (m+1)]:=hv;rw[aT]at hv;subst hv;exact qQ _ _ _ λx h=>by cases h;rfl
  have r2:∀{a b:R},oQ ⟨2,0,0,0,hM H1 H5,H6⟩ ⟨4,ru,i,1,a,b⟩=F:=h5.rd h6 (λv hv=>by
   rw[eO N,jU,kT,aT]at hv;subst hv;exact Ba gR _<|bH _) N
  simp only[c5,fu,gT];rcases c6 with e|e<;>rw[e]<;>apply Ii (A:=hM H1 H5) (vn:=H6) (a:=ru) (b:=rc) n2 (by rfl) fT fT hK<;>repeat' apply iZ
  all_goals first|exact trivial|(intro h;cases h;done)|exactλ_=>⟨rfl,rfl⟩|exactλ_=>r1|exactλ_=>r2
 have m4:=mL.ex G.ext<|h4.z8 mL;have m3:=mN.ex G.ext<|h4.z8 mN;have G:=h4.over G;generalize hM (hM (hM H1 H5) H6) H7=H8 at G m3 m4|-;refine fJ ?_;refine dA (v:=u0) O<|G.ajU (e:=pE) (k:=(i,ai)) (.inr ll) m4 NN aek λH9 m9 G Kt=>?_;refine eG ?_;refine⟨n-1,N,_,_,_,_,O,j+1,pJ,N,us.set i<|u va vl vc,A'++(iN++vn),G,?_,m3.ex Kt<|nZ ne,m9.plus λp=>?_,ne,ln,ll⟩
 .have:=U (u va vl vc) _ iN VL
  have e:((dZ<|m+1).map λk=>gq<|zT s i j k).set i (gq ((zh s i).take j)++bY (B ai))=(dZ<|m+1).map λk=>gq (zT s i (j+1) k):=by
   apply ja
   .simp
   .intro k I W;rw[sW,ik,ik,kF];unfold zT
    by_cases hk:i=k
    .subst hk;rw[jj O,jk<|mG i,jj O,dY,av d,hue];exact(show gq (((zh s i).take j)++[ai])=gq ((zh s i).take j)++[B ai]from dM).symm
    .rw[jk hk]
     by_cases w:k<i
     .rw[jj w,jj w]
     .rw[jk w,jk w,jk N,jk N]
  rw[<-e];exact this
 .rw[agU d,hue];constructor
  .rintro⟨I,W|⟨W,w⟩⟩
   .exact .inl ⟨I,W⟩
   .exact .inr<|Prod.ext W w
  .rintro(⟨I,W⟩|W)
   .exact⟨I,.inl W⟩
   .subst W;exact⟨hi,.inr ⟨O,O⟩⟩
def aoU(hw:Wf H)(h:Qb au H rs s)(hm:m<=J s)(hW:Sk.h2 A a s)(ad:∀e∈s.take m,∀ai∈e.2.2,ai<=m)(hb:J s<=1000000):bQ Pg X 58 [pr rs,B<|m+1] H λv Q=>∃T' rc,v=pr rc/\Qb T' Q rc (s.take m)/\(∀r∈T',H.bU<=r/\r<Q.bU)/\Ext H Q:=by
 have sv:=h.sv N;have⟨ca,cc,hcell⟩:=h.cell;refine lq [0,1,4,5,6,8,35,36,59,60,61] ?_;refine dD (NP hcell) ?_;rintro _ g ⟨rfl,rfl⟩;refine bM ?_;refine aW (λhc=>N) λ_=>?_;have⟨pa,pc,ua,uc,us,xx,yy,s1,s2,s3,s4,s5,s6⟩:=id sv;refine iY (s2.cell O) ?_;refine bM ?_;rw[show min (max ((m+1:Nat):Int) 1) ((J s+1:Nat):Int)=((m+1:Nat):Int) by omega];refine iY ((s2.iE (Q:=hN g) O).cell O) ?_;have G:=h_ hw;rw[iT hw];have⟨pc',e4⟩:=s4 (m+1) N;refine dA e4 ?_;have hf:=s3.cut (m:=m+1) N
 rw[show(vi (-1)::B 0::B6 (s.map λe=>(e.1,e.2.1))).take ((m+1)*2)=vi (-1)::B 0::B6 ((s.take m).map λe=>(e.1,e.2.1)) by
  rw[iC];show vi (-1)::B 0::(B6<|s.map λe=>(e.1,e.2.1)).take (m*2)=_;rw[UE,qB]]at hf
 refine G.aj8 jq hf (wY m) N λH2 rp G ab c2 g2=>G.amH (ax _) N λW ru G c3 U g3=>G.aez (e:=pE) NM λH4 mn w am c4 g4 G=>G.aez (e:=pE) NN λH5 ml ag al c5 g5 G=>?_;refine fJ ?_;refine G.ajT O λH6 rc xP c6 ac g6=>ji (by simp only[fu,c2,c3,c4,c5,c6];rfl) ?_;have n1:=(w.ex al nofun).ex ac nofun;have n2:=ag.ex ac nofun;have n3:mn≠ml:=by have⟨_,I,_⟩:=w;omega
 have n4:g.bU<=mn:=aQ ab.bU<|aQ U.bU g4;have n5:g.bU<=ml:=aQ n4<|aQ (by have⟨_,I,_⟩:=w;exact Nat.le_of_lt I) g5;generalize hM (hM (hM (hM (hM g H2) W) H4) H5) H6=H7 at xP n1 n2|-
 have d:Ct g H7 rc rp ru mn ml m s 0 0 0:=by
  refine⟨aY (m+1)<|u T 0 0,[],xP.perm ?_,?_,?_,?_,n3,n4,n5⟩
  .rw[show pV [u T 0 0] (m+1)=aY (m+1) (u T 0 0)from mK _ _];exact((gX _ _ _).cons _)
  .have:(dZ<|m+1).map (λk=>gq<|zT s 0 0 k)=aY (m+1) []:=by
    rw[wJ];refine⟨gD,λx M=>?_⟩;obtain⟨k,_,rfl⟩:=bP.1 M;unfold zT;rw[jk (iP k)];split<;>rfl
   rw[this];exact IX.Z5 _
  .simpa [KZ]using n1
  .have:∀k,zT s 0 0 k=[]:=λk=>by unfold zT;rw[jk (iP k)];split<;>rfl
   simpa [this]using n2
 refine lp6 6 8 36 59 60 61 (h1:=λk x6 x8 KI TG TH Ke Q=>∃i:Nat,KI=B i/\i+k=m+1/\Ct g Q rc rp ru mn ml m s (i-1) i 0) ?_ (m+1) ⟨0,rfl,bB _,d⟩;rintro k x6 x8 KI TG TH Ke E H2 ⟨i,rfl,hi,d⟩;refine lX (λhc=>?_) λhc=>?_
 .obtain rfl:i=m+1:=N;have⟨T',d1,d2,d3⟩:=d.done hm;refine tl<|Lu.rr ?_;exact⟨T',rc,O,d1,d2,d3⟩
 refine nN (λh0=>?_) λh0=>?_
 .obtain rfl:i=0:=N;refine aiz sv d N hm (by unfold zh;simp) hb (by unfold zh;simp) λx8 TG TH Ke E W h3=>?_;refine tl ?_;refine eG ?_;exact⟨m,N,_,_,_,_,_,_,_,_,O,1,O,N,h3⟩
 .have⟨us,az,G,gR,mN,mL,ne,ln,ll⟩:=d;have ab:=G.ext;refine fJ ?_;obtain⟨i,rfl⟩:∃i',i=i'+1:=⟨i-1,N⟩;have o:i<J s:=N;refine dA (uQ (show i+1<m+1 by omega)) ?_;have Y:J (B6<|(s.take m).map λe=>(e.1,e.2.1))=m*2:=by rw[uE,aK,dX];omega
  refine G.PD ?_ (by simp only[cO,Y];omega);refine G.lJ ?_
  have e5:((vi (-1)::B 0::B6 ((s.take m).map λe=>(e.1,e.2.1))).drop<|(i+1)*2).take 2=[B s[i].1,B s[i].2.1]:=by
   rw[show(i+1)*2=i*2+1+1 by omega,ug,ug];exact EX (p:=(s[i].1,s[i].2.1)) (by rw[bK,iB,jj N,av o];rfl)
  rw[e5];have n1:rp≠rc:=G.neT;refine G.aei (e:=pE) (k:=(s[i].1,s[i].2.1)) (.inr ln) mN NM aej λW m3 G U c3=>?_;refine splitK (λK hK=>?_) ?_
  .simp only[fu,c3];generalize(i+1)*2=kk;apply mO (a:=rp) (b:=rc) n1 yB fT fT hK
  have d:Ct g (hM H2 W) rc rp ru mn ml m s (i+1) (i+1) 0:=by
   refine⟨us,az,G,gR,?_,mL.ex U<|nZ ne.symm,ne,ln,ll⟩
   have:(λp:Sp=>(KZ (s.take<|i+1) p.1 p.2).map λk=>B<|k+1)=λj=>if j=(s[i].1,s[i].2.1)then Z (B<|i+1)else(KZ (s.take i) j.1 j.2).map λk=>B (k+1):=funext λj=>by
    rw[aeB hW.nd o];split<;>rfl
   rw[this];exact m3
  have JF:=hW.few<|i+1;refine aiz sv d N hm (λai hu=>?_) hb (by unfold zh;rw[jk (p9 i)];omega) λx8 TG TH Ke E W h3=>?_
  .refine ad s[i] (kQ.2 ⟨i,by rw[dX];omega,by rw[rT]⟩) ai ?_;unfold zh at hu;rw[jk (p9 i),GV o]at hu;exact hu
  refine tl ?_;refine eG ?_;exact⟨m-(i+1),N,_,_,_,_,_,_,_,_,O,i+2,by rw[show(((i+1:Nat):Int)+1)=((i+2:Nat):Int) by omega],N,h3⟩
end
end Go.Proofs.Lv
namespace Go.Proofs.Lu
namespace Wk
variable{a k n st:Nat}
variable{A:At}{hd hd0 em:Nat->Bool}{x y X:Rn}{s t t':Sk}{p q:Sp}{e:Ed}
def Nm(s t:Sk)(k m:Nat):Prop:=(k=0/\m=0)\/(1<=k/\k<=J s/\1<=m/\m<=J t/\(mY s k).1=(mY t m).1/\(mY s k).2.1=(mY t m).2.1)
def RP(I:1<=k)(W:k<=J s):mY s k=s[k-1]'N:=by
 unfold mY;rw[av N];rfl
def Sk.h2.one(h:Sk.h2 A a t){m:Nat}(I:1<=m)(W:m<=J t)(O:1<=n)(T:n<=J t)(o:(mY t m).1=(mY t n).1)(e2:(mY t m).2.1=(mY t n).2.1):m=n:=by
 rw[RP I W,RP O T]at o e2;have U:=h.nd
 have d:∀{i j:Nat}(w:i<J t)(B:j<J t),i<j->t[i].1=t[j].1->t[i].2.1=t[j].2.1->False:=λ{i j} w B r M N=>by
  have:=jQ.1 U i j (by rw[aK];exact w) (by rw[aK];exact B) r;rw[ik,ik]at this;exact this<|Prod.ext M N
 rcases kY (m-1) (n-1)with g|g|g
 .exact(d _ _ g o e2).elim
 .omega
 .exact(d _ _ g o.symm e2.symm).elim
def Nm.uniq{m:Nat}(h:Sk.h2 A a t)(I:Nm s t k m)(W:Nm s t k n):m=n:=by
 rcases I with⟨rfl,rfl⟩|⟨T,U,d,g,o,r⟩
 .rcases W with⟨_,rfl⟩|⟨w,_⟩
  .rfl
  .omega
 .rcases W with⟨rfl,_⟩|⟨w,Y,B,M,N,O⟩
  .omega
  .exact h.one d g B M (o.symm.trans N)<|r.symm.trans O
def Nm.le{m:Nat}(h:Nm s t k m)(g:s.Le t'):Nm t' t k m:=by
 rcases h with h|⟨d,o,r,w,B,I⟩
 .exact .inl h
 .have⟨g1,g2,_⟩:=g.key k d o;exact .inr ⟨d,aQ o g.len,r,w,g1.trans B,g2.trans I⟩
structure IP(A:At)(y X:Rn):Prop where
 nd:∀k,1<=k->k<=J y.sk->∃m,Nm y.sk X.sk k m/\∀ai∈(mY y.sk k).2.2,∃v,Nm y.sk X.sk ai v/\v∈(mY X.sk m).2.2
 sp:∀p∈y.sp,∃m,Nm y.sk X.sk p.2 m/\(p.1,m)∈X.sp
 en:∀k∈y.en,∃st∈A.sp,(st,k)∈y.sp
 ok:y.ok=F->X.ok=F
def Rn.IQ:(x.meet p).en=x.en:=by unfold Rn.meet;split<;>rfl
def Rn.Y2:(x.meet p).ok=x.ok:=by unfold Rn.meet;split<;>rfl
def Rn.UF(h:q∈(x.meet p).sp):q∈x.sp\/q=p:=by
 unfold Rn.meet at h;split at h
 .exact .inl h
 .rcases cK.1 h with h|h
  .exact .inl h
  .exact .inr<|aT.1 h
theorem IP.meet{m:Nat}(h:IP A y X)(o:Nm y.sk X.sk p.2 m)(r:(p.1,m)∈X.sp):IP A (y.meet p) X:=by
 have e:=Rn.pU (x:=y) (p:=p);refine⟨by rw[e];exact h.nd,λq d=>?_,λk g=>?_,by rw[Rn.Y2];exact h.ok⟩
 .rw[e];rcases Rn.UF d with d|rfl
  .exact h.sp q d
  .exact⟨m,o,r⟩
 .rw[Rn.IQ]at g;have⟨st,I,W⟩:=h.en k g;exact⟨st,I,Rn.tq.1.mem W⟩
def IP.meets{cs:Nat->Sp}(l:C Nat):∀y:Rn,IP A y X->(∀ai∈l,∃m,Nm y.sk X.sk (cs ai).2 m/\((cs ai).1,m)∈X.sp)->IP A (l.foldl (λy ai=>y.meet<|cs ai) y) X:=by
 induction l with
 |nil=>exactλy h _=>h
 |cons ai l g=>
  intro y h d;have⟨m,I,W⟩:=d ai gD;exact g _ (h.meet I W) λv hv=>by rw[Rn.pU];exact d v (by simp[hv])
def IP.hit{k:Nat×Sp}(h:IP A y X):IP A (y.hit k) X:=by
 have⟨I,W,h3,h4⟩:=Rn.vK (x:=y) (h:=k);refine⟨?_,?_,?_,?_⟩
 .rw[I];exact h.nd
 .rw[I,W];exact h.sp
 .rw[W,h3];exact h.en
 .rw[h4];exact h.ok
def Rn.Cl.via(ho:A.Ok)(w:∀r,r<A.nr->(em r=F<->A.Mk aA (A.S r)))(hX:X.Cl A hd em a)(hW:X.h2 A a)(h:A.Mk aA st):∀k,1<=k->k<=J X.sk->(st,k)∈X.sp->∀ai∈(mY X.sk k).2.2,((mY X.sk k).1,ai)∈X.sp:=by
 induction h with
 |stop r N=>
  intro k I W o ai U
  have hs:A.P r∈A.sp:=by
   unfold At.P;rw[av (show r<J A.sp by rw[ho.YH];exact N)];exact bH _
  exact(hX.en k<|(hX.d _ o).b hs (show k≠0 by omega)).2.2 ai U
 |edge st e he I W h3 Y ab=>
  intro k B M o ai U;have O:=(hW.b _ o).1;have⟨d1,d2,d3⟩:=(hX.d _ o).e e he;have n1:e.1≠1:=λg=>Bool.noConfusion<|I g
  have T:(e.2.2,k)∈X.sp:=by
   by_cases g:e.1=2
   .have N:e.2.1<A.nr:=by
     rcases(ho.e _ O e he).2.2 with c|c|c
     .omega
     .omega
     .exact c.2
    cases hh:hd e.2.1 with
    |true=>exact(d2 g hh).2<|(w _ N).2<|W g
    |false=>
     have⟨j,j1,j2,j3,_,j5,j6⟩:=d3 g hh;have:=Y g j j1 j2 j6 k j5
     rwa [j3]at this
   .exact d1 n1 g
  exact ab k B M T ai U
theorem IP.back(hX:X.Cl A hd0 em a)(B:X.h2 A a)(h:IP A y X)(T:y.h2 A a)(o:p∈y.sp)(hs:p.1∈A.sp):IP A (y.back p) X:=by
 have⟨m,I,W⟩:=h.sp p o;unfold Rn.back;split
 .next r=>
  refine⟨h.nd,h.sp,h.en,λ_=>(hX.d _ W).z hs ?_⟩;rcases I with⟨_,I⟩|⟨I,_⟩
  .exact I
  .omega
 split
 .exact h
 .next r _=>
  have⟨m',g1,g2⟩:=h.nd p.2 N (T.b p o).2;obtain rfl:=Nm.uniq B.sk I g1;rcases I with⟨I,_⟩|⟨U,Y,a3,a4,w,a6⟩
  .exact absurd I r
  have M:m∈X.en:=(hX.d _ W).b hs (show m≠0 by omega);have⟨_,_,e3⟩:=hX.en m M;refine IP.meets (cs:=λg=>((mY y.sk p.2).1,g)) _ _ ⟨h.nd,h.sp,λk hk=>?_,h.ok⟩ λg O=>?_
  .rcases bW.1 hk with rfl|hk
   .exact⟨p.1,hs,o⟩
   .exact h.en k hk
  .have⟨v,v1,v2⟩:=g2 g O;exact⟨v,v1,by show((mY y.sk p.2).1,v)∈X.sp;rw[w];exact e3 v v2⟩
def IP.along(ho:A.Ok)(N:∀r,r<A.nr->(em r=F<->A.Mk aA (A.S r)))(hX:X.Cl A hd0 em a)(hW:X.h2 A a)(hh:∀r,hd0 r=F->hd r=F)(h:IP A y X)(hy:y.h2 A a)(hp:p∈y.sp)(he:e∈A.rg p.1):IP A (y.iK A hd em a p e) X:=by
 have⟨m,I,W⟩:=h.sp p hp;have ag:=(hy.b p hp).1;have⟨d1,d2,d3⟩:=(hX.d _ W).e e he;unfold Rn.iK;split
 .next hc=>
  have hr:e.2.1<A.nr:=by
   rcases(ho.e _ ag e he).2.2 with c|c|c
   .omega
   .omega
   .exact c.2
  split
  .next hm=>
   refine h.hit.meet (p:=(e.2.2,p.2)) (by rw[Rn.vK.1];exact I) ?_;cases g:hd0 e.2.1 with
   |true=>exact(d2 hc.1 g).2 hm
   |false=>
    have⟨j,j1,j2,j3,_,j5,j6⟩:=d3 hc.1 g;have:=hX.via ho N hW ((N _ hr).1 hm) j j1 j2 j6 m j5
    rwa [j3]at this
  .exact h.hit
 next hc=>
 unfold Rn.along;split
 .exact h
 next n1=>
 split
 .next Y=>
  have g0:hd0 e.2.1=aA:=by
   cases g:hd0 e.2.1 with
   |true=>exact absurd ⟨Y,hh _ g⟩ hc
   |false=>rfl
  have⟨j,j1,j2,j3,j4,j5,j6⟩:=d3 Y g0;have w:=aea y.sk e.2.2 a p.2;generalize put y.sk e.2.2 a p.2=H' at w|-;have T:Nm H'.1 X.sk H'.2.1 j:=.inr ⟨w.lo,w.hi,j1,j2,w.kr.trans j3.symm,w.ka.trans j4.symm⟩
  have s1:IP A {y with sk:=H'.1} X:=by
   refine⟨λk U B=>?_,λq ad=>?_,h.en,h.ok⟩
   .have B:k<=J H'.1:=B;show∃m,Nm H'.1 X.sk k m/\∀M∈(mY H'.1 k).2.2,∃v,Nm H'.1 X.sk M v/\v∈(mY X.sk m).2.2
    by_cases hkq:k=H'.2.1
    .subst hkq;refine⟨j,T,λM hu=>?_⟩;rcases w.o _ U B M hu with⟨b1,b2⟩|⟨_,rfl,_⟩
     .have⟨m0,c1,c2⟩:=h.nd _ U b1;have⟨v,v1,v2⟩:=c2 M b2;obtain rfl:=Nm.uniq hW.sk (c1.le w.le) T;exact⟨v,v1.le w.le,v2⟩
     .exact⟨m,I.le w.le,j5⟩
    .have ac:k<=J y.sk:=p8 λg=>hkq (w.n k g B);have⟨m0,c1,c2⟩:=h.nd _ U ac;refine⟨m0,c1.le w.le,λM hu=>?_⟩;rcases w.o _ U B M hu with⟨b1,b2⟩|⟨b,_⟩
     .have⟨v,v1,v2⟩:=c2 M b2;exact⟨v,v1.le w.le,v2⟩
     .exact absurd b hkq
   .have⟨m0,c1,c2⟩:=h.sp q ad;exact⟨m0,c1.le w.le,c2⟩
  have s2:=s1.meet (p:=(A.S e.2.1,H'.2.1)) T j6;have e2:(({y with sk:=H'.1}:Rn).meet (A.S e.2.1,H'.2.1)).sk=H'.1:=Rn.pU;have e3:(({y with sk:=H'.1}:Rn).meet (A.S e.2.1,H'.2.1)).en=y.en:=Rn.IQ;unfold Rn.hop;split
  .next O=>
   rw[e3]at O;refine s2.meet (p:=(e.2.2,p.2)) (m:=m) (by rw[e2];exact I.le w.le) ?_;have⟨st,t1,t2⟩:=h.en _ O.1;have⟨j',c1,c2⟩:=h.sp _ t2;obtain rfl:=Nm.uniq hW.sk (c1.le w.le) T;have ab:=(hX.d _ c2).b t1 (show j'≠0 by omega);have:=(hX.en _ ab).2.2 m j5
   rwa [j3]at this
  .exact s2
 .next Y=>exact h.meet (p:=(e.2.2,p.2)) I<|d1 n1 Y
def IP.EW(ho:A.Ok)(w:∀r,r<A.nr->(em r=F<->A.Mk aA (A.S r)))(hX:X.Cl A hd0 em a)(O:X.h2 A a)(U:∀r,hd0 r=F->hd r=F)(l:C Ed):∀y:Rn,(∀e∈l,e∈A.rg p.1)->IP A y X->y.h2 A a->p∈y.sp->IP A (l.foldl (Rn.iK A hd em a p) y) X:=by
 induction l with
 |nil=>exactλy _ h _ _=>h
 |cons e l W=>
  intro y B h M I;have T:=M.b p I;have g:=M.iK (hd:=hd) (em:=em) ho T<|B e gD;refine W _ (λd hd=>B d<|by simp[hd]) (h.along ho w hX O U M I<|B e gD) g.1 ?_
  have N:∀{z:Rn},p∈z.sp->p∈(z.iK A hd em a p e).sp:=λ{z} o=>by
   unfold Rn.iK;split
   .split
    .exact Rn.tq.1.mem<|Rn.NJ.1.mem o
    .exact Rn.NJ.1.mem o
   unfold Rn.along;split
   .exact o
   split
   .have:p∈(({z with sk:=(put z.sk e.2.2 a p.2).1}:Rn).meet (A.S e.2.1,(put z.sk e.2.2 a p.2).2.1)).sp:=Rn.tq.1.mem o;unfold Rn.hop;split
    .exact Rn.tq.1.mem this
    .exact this
   .exact Rn.tq.1.mem o
  exact N I
def IP.one(ho:A.Ok)(g:∀r,r<A.nr->(em r=F<->A.Mk aA (A.S r)))(hX:X.Cl A hd0 em a)(o:X.h2 A a)(B:∀r,hd0 r=F->hd r=F)(h:IP A y X)(w:y.h2 A a)(d:p∈y.sp):IP A (y.tL A hd em a p) X:=by
 unfold Rn.tL;split
 .next hs=>
  refine IP.EW ho g hX o B _ _ (λ_ h=>h) (h.back hX o w d hs) (w.back d) ?_;unfold Rn.back;split
  .exact d
  split
  .exact d
  .exact(Rn.Uy (cs:=λI=>((mY y.sk p.2).1,I)) (mY y.sk p.2).2.2 {y with en:=p.2::y.en}).1.mem d
 .exact IP.EW ho g hX o B _ _ (λ_ h=>h) h w d
def Y3(ho:A.Ok)(d:∀r,r<A.nr->(em r=F<->A.Mk aA (A.S r)))(hX:X.Cl A hd0 em a)(g:X.h2 A a)(o:∀r,hd0 r=F->hd r=F):∀n i y,IP A y X->y.h2 A a->IP A (D4 A hd em a n i y) X
 |0,_,y,h,_=>h
 |n+1,i,y,h,hy=>by
  show IP A (match y.sp[i]? with|none=>y|some p=>D4 A hd em a n (i+1)<|y.tL A hd em a p) X;cases hp:y.sp[i]? with
  |none=>exact h
  |some p=>
   have w:=aV hp;exact Y3 ho d hX g o n (i+1) _ (h.one ho d hX g o hy w)<|hy.tL ho w
def NV(ho:A.Ok)(B:∀r,r<A.nr->(em r=F<->A.Mk aA (A.S r)))(Y:∀r,hd0 r=F->hd r=F){l:C Sp}(hs:Sk.h2 A a s)(hl:∀p∈l,p.1<A.ns/\p.2<=J s):IP A (lM A hd em a s l) (lM A hd0 em a s l):=by
 have⟨hX,hle⟩:=P_ (hd:=hd0) (em:=em) ho hs hl;have N:=NG (hd:=hd0) (em:=em) ho hs hl;have w0:Rn.h2 A a ⟨s,[],[],aA,[]⟩:=⟨hs,jg,nofun⟩;generalize lM A hd0 em a s l=X at hX hle N
 have M:∀(l:C Sp)(x:Rn),x.Le (l.foldl Rn.meet x)/\(l.foldl Rn.meet x).sk=x.sk/\(l.foldl Rn.meet x).en=x.en/\(l.foldl Rn.meet x).ok=x.ok/\∀p∈(l.foldl Rn.meet x).sp,p∈x.sp\/p∈l:=by
  intro l
  induction l with
  |nil=>exactλx=>⟨.refl _,rfl,rfl,rfl,λp h=>.inl h⟩
  |cons p l ih=>
   intro x;have⟨g1,g2,g3,g4,g5⟩:=ih<|x.meet p;refine⟨Rn.tq.1.trans g1,g2.trans Rn.pU,g3.trans Rn.IQ,g4.trans Rn.Y2,λq hq=>?_⟩;rcases g5 q hq with h|h
   .rcases Rn.UF h with h|rfl
    .exact .inl h
    .exact .inr<|aL ..
   .exact .inr<|bL _ h
 have⟨g1,g2,g3,g4,g5⟩:=M l ⟨s,[],[],aA,[]⟩;have g:s.Le X.sk:=by have:=hle.sk;rwa [g2]at this
 have d:∀{k},k<=J s->Nm s X.sk k k:=λ{k} o=>by
  rcases gK k with rfl|h0
  .exact .inl ⟨O,O⟩
  .have⟨a1,a2,_⟩:=g.key k h0 o;exact .inr ⟨h0,o,h0,aQ o g.len,a1.symm,a2.symm⟩
 refine Y3 ho B hX N Y _ _ _ ⟨λk I W=>?_,λp T=>?_,λk o=>?_,λh=>?_⟩<|Dy l _ w0 hl
 .rw[g2]at W|-;refine⟨k,d W,λw U=>⟨w,d ?_,(g.key k I W).2.2 w U⟩⟩;have M:mY s k∈s:=by rw[RP I W];exact bH _
  exact(hs.b _ M).2 w U
 .rw[g2];rcases g5 p T with h|h
  .cases h
  .exact⟨p.2,d (hl p h).2,hle.mem T⟩
 .rw[g3]at o;cases o
 .rw[g4]at h;cases h
end Wk
namespace Wk
variable{A:At}{hd em:Nat->Bool}{a:Nat}{x:Rn}{s t:Sk}{p:Sp}{e:Ed}
def aeC(hs:∀e∈s,e.2.1<a)(h:t.take (J s)=s)(hl:J s<=J t)(r ai:Nat):(put t r a ai).1.take (J s)=s/\J s<=(put t r a ai).1.length:=by
 unfold put;split
 .next i g=>
  have⟨I,W,h3,h4⟩:=II g;split
  .exact⟨h,hl⟩
  .refine⟨?_,by rw[bR];exact hl⟩
   by_cases hc:i<J s
   .have d:mY t (i+1)=s[i]:=by
     have:t[i]?=s[i]?:=by
      have:=fq (λl=>l[i]?) h;simpa [iB,hc]using this
     unfold mY;rw[jl,this,av hc];rfl
    rw[d]at h3;have:=hs _<|bH hc;omega
   .rw[List.take_set_of_le N];exact h
 .refine⟨?_,by simp;omega⟩;rw[lS hl];exact h
def WX(hs:∀e∈s,e.2.1<a)(h:x.sk.take (J s)=s/\J s<=J x.sk):(x.iK A hd em a p e).sk.take (J s)=s/\J s<=(x.iK A hd em a p e).sk.length:=by
 unfold Rn.iK;split
 .split
  .rw[Rn.pU,Rn.vK.1];exact h
  .rw[Rn.vK.1];exact h
 unfold Rn.along;split
 .exact h
 split
 .have g:=aeC hs h.1 h.2 e.2.2 p.2;have d:∀q,(({x with sk:=(put x.sk e.2.2 a p.2).1}:Rn).meet q).sk=(put x.sk e.2.2 a p.2).1:=λq=>Rn.pU;unfold Rn.hop;split
  .rw[Rn.pU,d];exact g
  .rw[d];exact g
 .rw[Rn.pU];exact h
def UG(hs:∀e∈s,e.2.1<a):∀n i x,x.sk.take (J s)=s/\J s<=J x.sk->(D4 A hd em a n i x).sk.take (J s)=s/\J s<=(D4 A hd em a n i x).sk.length
 |0,_,_,h=>h
 |n+1,i,x,h=>by
  show(match x.sp[i]? with|none=>x|some p=>D4 A hd em a n (i+1)<|x.tL A hd em a p).sk.take (J s)=s/\J s<=(match x.sp[i]? with|none=>x|some p=>D4 A hd em a n (i+1)<|x.tL A hd em a p).sk.length;cases x.sp[i]? with
  |none=>exact h
  |some p=>
   refine UG hs n (i+1) _ ?_
   have key:∀(l:C Ed)(y:Rn),y.sk.take (J s)=s/\J s<=J y.sk->(l.foldl (Rn.iK A hd em a p) y).sk.take (J s)=s/\J s<=(l.foldl (Rn.iK A hd em a p) y).sk.length:=by
    intro l
    induction l with
    |nil=>exactλ_ h=>h
    |cons e l d=>exactλy h=>d _<|WX hs h
   unfold Rn.tL;refine key _ _ ?_;split
   .rw[Rn.Lm];exact h
   .exact h
def UH(hs:∀e∈s,e.2.1<a)(l:C Sp):(lM A hd em a s l).sk.take (J s)=s/\J s<=(lM A hd em a s l).sk.length:=by
 refine UG hs _ _ _ ?_
 have:∀(l:C Sp)(x:Rn),(l.foldl Rn.meet x).sk=x.sk:=by
  intro l
  induction l with
  |nil=>exactλ_=>rfl
  |cons p l d=>exactλx=>(d _).trans Rn.pU
 rw[this];exact⟨kI,ax _⟩
end Wk
end Go.Proofs.Lu
namespace Go.Proofs.Lv
open Go.Proofs.Lu Go.Proofs.Lu.Wk
open Go.Ae Go.Ae.hx
variable{b c c' hc i j k n rs:Nat}{a ha:aC Addr}{K:D->R->Prop}{L hx:C eB}{f:C D}{ty:aH}{H Q H0:R}{x:D}
section
variable{S au:C Nat}{ay F':Nat->Prop}{A:At}{q:AV}{ev sv hv:D}{sb:C Bool}{rp rw' most:Nat}{z:ah}{hd:Nat->Bool}
def ah.h2.cut(d:ah.h2 A z):z.sk.take (J z.s0)=z.s0/\J z.s0<=J z.sk:=by
 have:=UH (A:=A) (hd:=λ_=>aA) (em:=A.Em) (l:=z.fr) d.lt;rw[GQ,<-d.c.1]at this;exact this
def Qb.bkE{s:Sk}(h:Qb au H rs s):rs<H.bU/\∃o r xs,Bk H rs 128 (u o (J s+1) r::xs):=by
 have⟨mn,ml,pv,uv,us,gP,gU,az,h,gp,_⟩:=h;obtain⟨sa,w,sc,rfl,d⟩:=gp.OP
 have g:w=J s+1:=by
  simp only[cO,uE,aK]at d;omega
 subst g;exact⟨(h.lo _<|aL ..).2,_,_,_,h.get 0 O⟩
theorem am1(ho:A.Ok)(hk:GU ay H rw' A q ev sv sb)(hF:∀r,ay r->r<H.bU)(h:Sm S H0 H rp rw' most A z)(hz:ah.h2 A z)(hh:∀Q,Ext H Q->∀r,r<A.nr->bQ Pg X 50 [hv,B r] Q (Q0 (λv=>v=aR (hd r)) Q))(hL:Lim A z.long 9223372036854775807)(a5:J z.fr<=8000000)(hB:(lM A hd A.Em z.long z.s0 z.fr).ht.length<=5592404):bQ Pg X 25 [pr rp,hv] H λv Q=>∃sa sc ha hc rc,v=fO ⟨[dP ⟨[u sa (lM A hd A.Em z.long z.s0 z.fr).sp.length sc,aR (lM A hd A.Em z.long z.s0 z.fr).ok,u ha (lM A hd A.Em z.long z.s0 z.fr).ht.length hc,B (lM A hd A.Em z.long z.s0 z.fr).sp.length]⟩,pr rc,vi 0]⟩/\
  Ext H Q/\jJ (λ_=>True) 86 Q sa (lM A hd A.Em z.long z.s0 z.fr).sp.length 2 (B6 (lM A hd A.Em z.long z.s0 z.fr).sp)/\jJ (λ_=>True) 88 Q ha (lM A hd A.Em z.long z.s0 z.fr).ht.length 3 (hts (lM A hd A.Em z.long z.s0 z.fr).ht)/\rc<Q.bU/\∃pa pc xs,Bk Q rc 128 (u pa ((lM A hd A.Em z.long z.s0 z.fr).sk.length+1) pc::xs):=by
 have hw:=h.wf;have⟨au,rs,fa,fc,IL,htc,sa,sc,hSm,I,W,h3,h4,h5⟩:=h;have hb:=hSm.get 0 O;have a0:=(hSm.lo _<|aL ..).2;have a8:=hz.sk.le;have bb:=hL.s;have⟨ec,hcl⟩:=ah.h2.cut hz;refine lq [0,1,4,5,6,7,8,9] ?_;have G:=h_ hw;refine G.jP λH1 ra G=>?_;have ad:=hb.iE<|G.ext.obj _ a0 nofun;refine dD (NU (f:=[])<|ad.cell (o:=0) O) ?_;rintro _ H2 ⟨rfl,rfl⟩;refine G.lJ ?_;refine iY (ad.cell (o:=11) O) ?_;refine G.lJ ?_;refine iY ((ad.iE (Q:=hN H2) O).cell (o:=1) O) ?_;refine G.lJ ?_;refine iY ((ad.iE (Q:=hN H2) O).cell (o:=3) O) ?_;refine G.lJ ?_;have ag:=G.ext.bU;refine dD (aoU (oU H2) ((I.stay G.ext nofun).stay (Ext.hN H2) nofun) hcl hz.sk (λe he ai hu=>(hz.s0.b e<|ec▸he).2 ai hu) N) ?_;rintro _ H3 ⟨T',rc,rfl,ac,a4,ao⟩;rw[ec]at ac;refine ji (by simp only[fu,gJ ao];rfl) ?_;have ac:=ac.m G.wf ao;have a7:=(G.lo _<|aL ..).2;have ab:∀r∈T',H2.bU<=r/\r<(hM H2 H3).bU:=a4;have G:=G.oI ao;generalize hM H2 H3=H4 at ac G ab|-;have an:=(hb.iE<|G.ext.obj _ a0 nofun).iE (Q:=hN H4) O;refine iY (an.cell (o:=0) O) ?_;refine G.lJ ?_;refine iY (an.cell (o:=2) O) ?_;refine G.lJ ?_;refine iY (an.cell (o:=8) O) ?_;refine G.lJ ?_;have a6:=G.ext.bU;have ap:Ext H (hN H4):=G.ext.trans'<|Ext.hN H4;have a3:jJ (·<H.bU) 86 H fa (J z.fr) 2 (B6 z.fr):=⟨h5.1,λr o e hn=>let g:=h5.2 r o e hn;⟨g.2.1,g.2⟩⟩;have a9:=G.wf;refine dD (WT (hd:=hd) (au:=T') (λQ M r U=>hh Q (ap.later M λr U=>.inr<|aQ ag (ab r U).1) r U) ho (hk.stay ap nofun) (λr U=>⟨aO (hF r U) a6,λh=>fH (hF r U)<|aQ ag (ab r h).1⟩) (ac.stay (Ext.hN H4) nofun) (λr U=>(ab r U).2) (a3.ex ap) (λr U h=>fH h<|aQ ag (ab r U).1) hz.fr hz.s0 hL a5 hB) ?_;rintro _ H8 ⟨aq,a1,am,aE,T8,rfl,ar,ba,BK,NT,Y⟩;refine bM ?_
 have G:=G.past BK.draw (λr U=>.inr<|aQ ag (ab r U).1) λe he=>by
  rw[aT.1 he];exactλh=>fH a7 (ab _ h).1
 have NT:jJ (λ_=>True) 86 (hM H4 H8) aq _ 2 _:=NT.wk λ_ _=>trivial;have Y:jJ (λ_=>True) 88 (hM H4 H8) am _ 3 _:=Y.wk λ_ _=>trivial;have⟨d,pa,pc,xs,w⟩:=ar.bkE;have d:rc<(hM H4 H8).bU:=d;have w:Bk (hM H4 H8) rc 128 _:=w.iE O;clear ar hB;generalize lM A hd A.Em z.long z.s0 z.fr=y at*;refine G.nsD O O O λH9 rb CF G c9 bc uR=>?_;have n1:rp≠rb:=λe=>by have:(hM H4 H8).bU=H8.bU:=rfl;have:=BK.bU;have:(hN H4).bU=H4.bU:=rfl;omega
 refine splitK (λK hK=>?_) ?_
 .simp only[fu,gT,c9];rcases xB H4 H8 with e|e<;>rw[e]<;>apply mO (a:=rb) (b:=rp) n1.symm yB fT fT hK
 have NT:=NT.ex uR;have Y:=Y.ex uR;have w:=w.iE<|uR.obj _ d nofun;have d:=aO d uR.bU;generalize hM (hM (hM H4 H8) H9) CF=Ry at G NT Y w d|-;refine fP (λh=>absurd trivial h) λ_=>?_;have G:SH [] H Ry [(rb,68,[u aq (J y.sp) a1,aR y.ok,u am (J y.ht) aE,B<|J y.sp]),(ra,68,[u T 0 0,aR aA,u T 0 0,vi 0])]:=G;have al:=G;have G:=G.base;refine G.jC<|G.kE λHn G=>?_
 have ht:∀r∈[(rb,68,[u aq (J y.sp) a1,aR y.ok,u am (J y.ht) aE,B<|J y.sp]),((ra,68,[u T 0 0,aR aA,u T 0 0,vi 0]):eB)].map (·.1),Ah Ry r 68:=λr U=>by
  simp only[i_,kM,bW,fF,jo]at U;rcases U with rfl|rfl
  .exact(al.get 0 O).Gb
  .exact(al.get 1 O).Gb
 have NT:=NT.stay G.ext λr U=>.inr λh=>absurd (h.one<|ht r U) jq;have Y:=Y.stay G.ext λr U=>.inr λh=>absurd (h.one<|ht r U) jq;have w:=w.iE<|G.ext.obj _ d λh=>absurd (w.Gb.one<|ht _ h) jq;have d:=aO d G.ext.bU;have a2:=al.over G;refine Lu.rr ?_;refine G.jC ?_ (by exact aF O);exact⟨_,_,_,_,_,O,a2.ext,NT,Y,d,_,_,_,w⟩
end
section
open Go.Proofs.Lu
open Go.Ae Go.Ae.hx
variable{S:C Nat}{ay:Nat->Prop}{v v':D}{h2 V:C Nat}
def aeD(H:R)(v:D)(h2:C Nat):Prop:=∃a c,v=u a (J h2) c/\Fl H a (J h2) 1 (h2.map zJ)/\J h2<=1024/\∀w∈h2,w<2^64
def aeD.ex(h:aeD H v h2)(M:Ext H Q):aeD Q v h2:=let⟨a,c,I,W,h3⟩:=h;⟨a,c,I,W.ex M,h3⟩
def tT(H:R)(v:D)(h2:C Nat):Prop:=∃a c,v=u a (J h2) c/\Fl H a (J h2) 1 (h2.map zJ)/\J h2<=1024/\(∀w∈h2,w<2^64)/\
 ∀m,m<=J h2->∃c',R4 1 (u a (J h2) c) T (Z<|B m) T=Z (u a m c')
def tT.r(h:tT H v h2):aeD H v h2:=let⟨a,c,I,W,h3,h4,_⟩:=h;⟨a,c,I,W,h3,h4⟩
def tT.ex(h:tT H v h2)(M:Ext H Q):tT Q v h2:=let⟨a,c,I,W,h3⟩:=h;⟨a,c,I,W.ex M,h3⟩
def tT.lt(h:tT H v h2):∀w∈h2,w<2^64:=let⟨_,_,_,_,_,h,_⟩:=h;h
def tT.nil:tT H (u T 0 0) []:=⟨T,0,O,Fl.nil _ _ _,bD _,nofun,λm h=>⟨0,by obtain rfl:m=0:=Nat.le_zero.1 h;rfl⟩⟩
def FE.s(h:FE ay H v h2):tT H v h2:=
 let⟨r,I,W,h3,h4,h5,h6⟩:=h
 ⟨Z ⟨r,0,T⟩,J h2,I,h4.fl h3 gD,h5,h6,λm d=>⟨_,LB d N⟩⟩
def tT.cut(h:tT H (u a n c) h2)(hk:k<=J h2):aeD H (u a (J<|h2.take k) c') (h2.take k):=by
 have⟨a0,c0,e,hf,hl,hw,_⟩:=h;cases e;have d:J (h2.take k)=k:=by rw[dX];omega
 refine⟨a,c',O,?_,N,λw h=>hw w<|fG h⟩;have:=hf.cut hk;rw[dN,<-qB]at this;rw[d];exact this
def am3(hv:tT H v h2)(z:Int):bQ Pg X 50 [v,vi z] H (Q0 (λv=>v=aR (decide (0<=z/\z<65536)&&hasB h2 z.toNat)) H):=by
 obtain⟨a,c,rfl,d,o,g,_⟩:=hv;refine lq [0,1,4] ?_;refine dD (EY z) ?_;rintro _ _ ⟨rfl,rfl⟩;refine MO (λh=>?_) λh=>?_
 .refine rr ?_;exact⟨by simp only[dR h];rfl,rfl⟩
 obtain⟨t,rfl⟩:∃t:Nat,z=t:=⟨z.toNat,N⟩;refine dA (NR 64 O jq N) ?_;refine tO (λW=>?_) λW=>?_
 .refine dA (NR 64 O jq N)<|d.ix1 (show t/64<J h2 by omega) (jX _<|av N) λ_=>?_;refine dA (sw 64 O jq N) ?_;refine dA (Qa<|jK _) ?_;refine bM ?_;refine rr ?_;refine⟨?_,O⟩;rw[aiu (g _<|bH _) (o9 _ jq),b_ h,oZ];unfold hasB;rw[kX,aU,av (show t/64<J h2 by omega)];rfl
 .refine rr ?_;refine⟨?_,O⟩;unfold hasB;rw[kX,aU,dw N];simp
def NW(hv:tT H v h2):bQ Pg X 49 [v] H (Q0 (λw=>∃a c c',v=u a (J h2) c/\w=u a (J<|h2.take<|LA h2<|J h2) c') H):=by
 obtain⟨a,c,rfl,Y,hl,hw,hs⟩:=hv;refine GY [0,2,3] ?_;rw[show min (J h2:Int) 1024=(J h2:Int) by omega];refine VQ 3 (h1:=λm M Q=>M=B m/\Q=H/\LA h2 m=LA h2 (J h2)/\m<=J h2) ?_ (J h2) ⟨rfl,rfl,rfl,ax _⟩;rintro m M E r ⟨rfl,rfl,o,hm⟩
 have d:∀k,k<=J h2->k=LA h2 (J h2)->∀{E},iG Pg X (sub KH [1,1,1]) (Jv (u a (J h2) c) (u T 0 0) (B k) E r) (jZ Pg [.tmp 2]<|Q0 (λw=>∃I U c',u a (J h2) c=u I (J h2) U/\w=u I (J<|h2.take<|LA h2<|J h2) c') r):=λk hk e E=>by
  refine tl ?_;have⟨c',e'⟩:=hs k hk;refine dA e' ?_;have g:J (h2.take k)=k:=by rw[dX];omega
  refine rr ?_;exact⟨⟨a,c,c',O,by rw[<-e,g]⟩,rfl⟩
 refine lX (λhc=>?_) λhc=>?_
 .obtain rfl:m=0:=N;exact d 0 (bD _) o
 obtain⟨k,rfl⟩:∃k,m=k+1:=⟨m-1,N⟩;refine q_ ?_;rw[show(((k+1:Nat):Int)-1)=(k:Int) by omega];have ev:h2[k]?=Z (h2.getD k 0):=by rw[aU,av N];rfl
 refine Y.ix1 (show k<J h2 by omega) (jX _ ev) λ_=>?_;refine tO (λW=>?_) λW=>?_
 .refine q_ ?_;rw[show(((k+1:Nat):Int)-1)=(k:Int) by omega];exact⟨k,N,_,_,_,O,O,O,by rw[<-o];exact(jj N).symm,N⟩
 .exact d (k+1) hm (by rw[<-o];exact(jk N).symm)
def okU:∀l:C Nat,all' fZ (l.map zJ)=F
 |[]=>rfl
 |_::l=>okU l
def _root_.Go.Ae.SH.cpR{r:Nat}{xs:C D}(G:SH S H0 H<|(r,ty,f)::L)(M:Fl H a n 1 xs)(hk:k<=n)(hc:J f=k)(d:all' fZ (xs.take k)=F)(kk:∀H1,SH S H0 H1 ((r,ty,xs.take k)::L)->pI [r] H H1->K (B k) H1):ME (cpA 1 (u (Z ⟨r,0,T⟩) k c') (u a n c) H) K:=by
 have w:=M.1;have U:J (xs.take k)=k:=by rw[dX];omega
 have⟨H1,I,W,h3⟩:=G.zl (vs:=xs.take k) (o:=0) 0 O N d;rw[oz _ _ N]at W
 have em:cr (aD n k) n k=k:=by
  by_cases h:n<=k
  .rw[aG h];show n=k;omega
  .rw[show aD n k=aA from by rw[<-dn];exactλg=>h<|aF g];rfl
 have e:cpA 1 (u (Z ⟨r,0,T⟩) k c') (u a n c) H=Z (B k,H1):=by
  unfold cpA;rw[uf M jq];show(aN (H.write r 0<|tk (bO (cr (aD n k) n k) 1) xs) λQ=>Z (bq bC<|.ofNat<|cr (aD n k) n k,Q))=_;rw[em,FF,show bO k 1=k from dN k,I];rfl
 rw[e];exact kk H1 W h3
def aeE(M:Wf H)(hv:tT H v h2):bQ Pg X 61 [v] H (Q1 (λv Q=>FE (H.bU<=·) Q v<|h2.take<|LA h2<|J h2) H):=by
 have g:=hv;obtain⟨a,c,rfl,B,hl,o,hs⟩:=hv;have I:=GX h2<|J h2;have d:J (h2.take<|LA h2<|J h2)=LA h2 (J h2):=by rw[dX];omega
 refine lq [0,2,3] ?_;have G:=h_ M;refine dD (NW g) ?_;rintro _ U ⟨⟨a',c0,c',e,rfl⟩,rfl⟩;rw[d];refine bM ?_;refine G.mkS (ax _) N λW r G=>?_;have G:=G;rw[show pV [bq fB 0] (LA h2<|J h2)=aY (LA h2<|J h2) (bq fB 0)from mK _ _]at G;refine G.cpR (B.ex G.ext) I gD (by rw[<-qB];exact okU _) λY G T=>?_;refine Lu.rr ?_;rw[<-qB]at G;exact⟨⟨r,by rw[d],G.yV<|aL ..,(G.lo _<|aL ..).2,G.get 0 O,N,λw h=>o w<|fG h⟩,G.ext⟩
def UI(h2:C Nat):∀m i,LA h2 m<=i->i<m->h2.getD i 0=0
 |0,i,_,h=>absurd h<|iP i
 |m+1,i,I,W=>by
  unfold LA at I;split at I
  .next d=>
   by_cases e:i=m
   .rw[e];exact d
   .exact UI h2 m i I N
  .omega
def zK(h2:C Nat)(t:Nat):hasB (h2.take<|LA h2<|J h2) t=hasB h2 t:=by
 unfold hasB;rw[aU,iB];split
 .rw[<-aU]
 .next h=>
  by_cases hl:t/64<J h2
  .rw[UI h2 (J h2) (t/64) N hl];rfl
  .rw[aU,dw N]
def WY(a b:Nat):Nat:=(BitVec.ofNat 64 a&&&~~~BitVec.ofNat 64 b).toNat
def Y4(a b:Nat):WY a b<2^64:=BitVec.isLt _
def aka(a b:Nat):QT fB (a:Int) (b:Int)=((WY a b:Nat):Int):=by
 unfold QT;show oG fB (((kW 64 (a:Int)&&&~~~kW 64 (b:Int)).toNat:Nat):Int)=_;rw[BitVec.ofInt_natCast,BitVec.ofInt_natCast];exact wrap64<|Y4 a b
def aeF{a:Nat}(d:j<64):(WY a b).testBit j=(a.testBit j&&!b.testBit j):=by
 unfold WY;rw[BitVec.testBit_toNat,BitVec.getLsbD_and,BitVec.getLsbD_not,BitVec.getLsbD_ofNat,BitVec.getLsbD_ofNat];simp[d]
def lw(h2 V:C Nat)(j:Nat):C Nat:=(dZ<|J h2).map λi=>if i<j then WY (h2.getD i 0) (V.getD i 0)else h2.getD i 0
def NY(h2 V:C Nat)(j:Nat):J (lw h2 V j)=J h2:=by simp[lw]
def aoV(h2 V:C Nat):lw h2 V 0=h2:=by
 apply ja
 .simp[lw]
 .intro i I W;simp[lw,W]
def aiA(h:i<J h2):(lw h2 V j)[i]?=Z (if i<j then WY (h2.getD i 0) (V.getD i 0)else h2.getD i 0):=by simp[lw,h]
def aeG:(lw h2 V j).set j (WY (h2.getD j 0)<|V.getD j 0)=lw h2 V (j+1):=by
 apply ja
 .simp[lw]
 .intro i I W;rw[sW];simp only[lw,ik,kF]
  by_cases e:j=i
  .subst e;rw[jj O,jj<|dI j]
  .rw[jk e]
   by_cases h:i<j
   .rw[jj h,jj N]
   .rw[jk h,jk N]
def am4(h:∀w∈h2,w<2^64):∀w∈lw h2 V j,w<2^64:=λw g=>by
 obtain⟨i,d,rfl⟩:=bP.1 g;rw[jT]at d;split
 .exact Y4 _ _
 .rw[aU,av d];exact h _<|bH d
def agV(h2 V:C Nat)(t:Nat):hasB (lw h2 V<|J V) t=(hasB h2 t&&!hasB V t):=by
 unfold hasB;have d:t %64<64:=o9 _ jq
 by_cases h:t/64<J h2
 .rw[aU (l:=lw h2 V<|J V),aiA h];show Nat.testBit (if _ then _ else _) _=_;split
  .rw[aeF d]
  .next hv=>rw[aU (l:=V),dw N];simp
 .rw[aU (l:=lw h2 V<|J V),dw (by rw[NY];omega),aU (l:=h2),dw N];simp
theorem aeH(hw:Wf H)(hv:tT H v h2)(w:tT H v' V):bQ Pg X 27 [v,v'] H (Q1 (λv Q=>∃U,FE (H.bU<=·) Q v U/\∀t,hasB U t=(hasB h2 t&&!hasB V t)) H):=by
 refine lq [0,1,4,5,6,7,11,12,13] ?_;refine dD (aeE hw hv) ?_;rintro _ H1 ⟨⟨r,rfl,ab,hr,hb,hl,ac⟩,M⟩;have eW:=zK h2;generalize h2.take (LA h2<|J h2)=W1 at*;refine dD (NW<|w.ex M) ?_;rintro _ H2 ⟨⟨a,c0,c,rfl,rfl⟩,rfl⟩;have⟨_,_,e,hf,hl2,hlt2⟩:=w.cut (c':=c)<|GX V<|J V;cases e;have eV:=zK V;generalize V.take (LA V<|J V)=d at*;refine bM ?_;have G:SH [] H H2 [(r,105,(lw W1 d 0).map zJ)]:=⟨M,λe he=>by rw[aT.1 he,aoV];exact hb,λe he=>by rw[aT.1 he];exact⟨.inr ab,hr⟩,jG _ _,M.wf hw⟩;have al:=M;refine Ik 6 7 13 (h1:=λm x6 x7 ko Q=>∃j:Nat,ko=B j/\j+m=J d/\SH [] H Q [(r,105,(lw W1 d j).map zJ)]) ?_ (J d) ⟨0,rfl,bB _,G⟩;rintro m x6 x7 ko E H3 ⟨j,rfl,hj,G⟩;refine lX (λhc=>?_) λhc=>?_
 .obtain rfl:j=J d:=N;have ad:=G.lo _<|aL ..
  have Y:tT H3 (u (Z ⟨r,0,T⟩) (J W1)<|J W1) (lw W1 d<|J d):=by
   have:=(FE.s (ay:=λ_=>True) (h2:=lw W1 d<|J d) ⟨r,O,trivial,ad.2,G.get 0 O,by rw[NY];exact hl,am4 ac⟩);rw[NY]at this;exact this
  refine tl ?_;refine dD (aeE G.wf Y) ?_;rintro _ H4 ⟨⟨q,rfl,I,W,h3,h4,h5⟩,ag⟩;refine Lu.rr ?_;exact⟨⟨_,⟨q,O,aQ G.ext.bU I,W,h3,h4,h5⟩,λt=>by rw[zK,agV,eW,eV]⟩,G.ext.trans' ag⟩
 have o:j<J d:=N;have ev:d[j]?=Z (d.getD j 0):=by rw[aU,av o];rfl
 refine(hf.ex G.ext).ix1 o (jX _ ev) λ_=>aW (λW=>?_) λW=>?_;rotate_left
 .refine eG ?_
  have e:lw W1 d (j+1)=lw W1 d j:=by
   rw[<-aeG,List.set_eq_of_length_le (by rw[NY];omega)]
  exact⟨J d-(j+1),N,_,_,_,_,_,O,j+1,pJ,N,by rw[e];exact G⟩
 have g:j<J W1:=N;refine G.ix (k:=j) g (jX _<|(aiA g).trans<|by rw[jk (mG j)]) λ_=>?_;refine dA (Dh.trans<|by rw[aka])<|G.Ya (k:=j) g (by rw[aK,NY];exact g) (kk:=λ_ H4 G=>?_);refine eG ?_;refine⟨J d-(j+1),N,_,_,_,_,_,O,j+1,pJ,N,?_⟩;rw[<-aeG,gz];exact G
def UJ(d:∀w∈h2,w<2^64)(h:∀t,hasB h2 t=aA):∀m,m<=J h2->LA h2 m=0
 |0,_=>rfl
 |m+1,hm=>by
  have g:h2.getD m 0=0:=by
   refine Nat.eq_of_testBit_eq λj=>?_;rw[Nat.zero_testBit]
   by_cases hj:j<64
   .have:=h (m*64+j);unfold hasB at this;rw[show(m*64+j)/64=m by omega,show(m*64+j) %64=j by omega]at this;exact this
   .have:h2.getD m 0<2^64:=by
     rw[aU,av (show m<J h2 by omega)];exact d _<|bH _
    exact Nat.testBit_lt_two_pow<|aO this<|pO jq N
  unfold LA;rw[jj g];exact UJ d h m N
def aeI(hv:tT H v h2)(h:∀t,hasB h2 t=aA):bQ Pg X 28 [v] H (Q0 (λv=>v=vi 0) H):=by
 have r:∀w∈h2,w<2^64:=let⟨_,_,_,_,_,h,_⟩:=hv;h;refine lq [0,2,3,5,7,8,9]<|dD (NW hv) ?_;rintro _ o ⟨⟨a,c,c',rfl,rfl⟩,rfl⟩;rw[UJ r h _ (ax _)];refine bM ?_;refine Ik 3 5 9 (h1:=λm d x5 g Q=>d=vi 0/\g=vi 0/\Q=o) ?_ 0 ⟨rfl,rfl,rfl⟩;rintro m d x5 g E B ⟨rfl,rfl,rfl⟩;refine tp ?_;refine tl<|Lu.rr ?_;exact⟨O,O⟩
def ow(n:Nat)(h2 V:C Nat)(j:Nat):C Nat:=(dZ n).map λi=>if i<j then h2.getD i 0|||V.getD i 0 else h2.getD i 0
def RQ(n:Nat)(h2 V:C Nat)(j:Nat):J (ow n h2 V j)=n:=by simp[ow]
def aoW(h:J h2<=n):ow n h2 V 0=h2++aY (n-J h2) 0:=by
 apply ja
 .simp[ow];omega
 .intro i I W;rw[List.getElem_append];split
  .next h=>simp[ow,h]
  .next h=>simp[ow,dw (show J h2<=i by omega)]
def aiB(h:i<n):(ow n h2 V j)[i]?=Z (if i<j then h2.getD i 0|||V.getD i 0 else h2.getD i 0):=by simp[ow,h]
def akb:(ow n h2 V j).set j (h2.getD j 0|||V.getD j 0)=ow n h2 V (j+1):=by
 apply ja
 .simp[ow]
 .intro i I W;rw[sW];simp only[ow,ik,kF]
  by_cases e:j=i
  .subst e;rw[jj O,jj<|dI j]
  .rw[jk e]
   by_cases h:i<j
   .rw[jj h,jj N]
   .rw[jk h,jk N]
def getD_lt(h:∀w∈h2,w<2^64)(i:Nat):h2.getD i 0<2^64:=by
 rw[aU];cases e:h2[i]? with
 |none=>exact uk 64
 |some w=>exact h w<|aV e
def am5(h:∀w∈h2,w<2^64)(d:∀w∈V,w<2^64):∀w∈ow n h2 V j,w<2^64:=λw g=>by
 obtain⟨i,o,rfl⟩:=bP.1 g;split
 .exact vk (getD_lt h i)<|getD_lt d i
 .exact getD_lt h i
def agW(h2 V:C Nat)(g:J h2<=n)(d:J V<=n)(t:Nat):hasB (ow n h2 V<|J V) t=(hasB h2 t||hasB V t):=by
 unfold hasB
 by_cases h:t/64<n
 .rw[aU (l:=ow n h2 V<|J V),aiB h];show Nat.testBit (if _ then _ else _) _=_;split
  .rw[xS]
  .next hv=>rw[aU (l:=V),dw N];simp
 .rw[aU (l:=ow n h2 V<|J V),dw (by rw[RQ];omega),aU (l:=h2),dw N,aU (l:=V),dw N];simp
def _root_.Go.Ae.SH.cpP{r:Nat}{xs:C D}(G:SH S H0 H<|(r,ty,f)::L)(M:Fl H a n 1 xs)(hk:n<=k)(hc:J f=k)(d:all' fZ xs=F)(kk:∀H1,SH S H0 H1 ((r,ty,xs++f.drop n)::L)->K (B n) H1):ME (cpA 1 (u (Z ⟨r,0,T⟩) k c') (u a n c) H) K:=by
 have g:J xs=n:=by have:=M.1;omega
 have⟨H1,I,W,h3⟩:=G.zl (vs:=xs) (o:=0) 0 O N d;have es:splice f 0 xs=xs++f.drop n:=by unfold splice;rw[bB,g];rfl
 rw[es]at W
 have e:cpA 1 (u (Z ⟨r,0,T⟩) k c') (u a n c) H=Z (B n,H1):=by
  unfold cpA;rw[uf M jq];show(aN (H.write r 0<|tk (bO (cr (aD n k) n k) 1) xs) λQ=>Z (bq bC<|.ofNat<|cr (aD n k) n k,Q))=_;rw[aG hk,oh,FF,show bO n 1=n from dN n,dV N,I];rfl
 rw[e];exact kk H1 W
def orS(hw:Wf H)(hv:tT H v h2)(M:tT H v' V):bQ Pg X 40 [v,v'] H (Q1 (λv Q=>∃U,FE (H.bU<=·) Q v U/\∀t,hasB U t=(hasB h2 t||hasB V t)) H):=by
 refine lq [0,1,4,5,6,7,8,9,23,24,25] ?_;refine dD (NW hv) ?_;rintro _ H1 ⟨⟨a,c0,c,rfl,rfl⟩,rfl⟩;have⟨_,_,e,hf,hl,hlt⟩:=hv.cut (c':=c)<|GX h2<|J h2;cases e;have eW:=zK h2;generalize h2.take (LA h2<|J h2)=g at*;refine dD (NW M) ?_;rintro _ Y ⟨⟨a2,c2,c3,rfl,rfl⟩,rfl⟩;have⟨_,_,e,hf2,hl2,hlt2⟩:=M.cut (c':=c3)<|GX V<|J V;cases e;have eV:=zK V;generalize V.take (LA V<|J V)=d at*;have G:=h_ hw;refine bM ?_;rw[show max (J g:Int) (J d)=((max (J g) (J d):Nat):Int) by omega];have I:=nL (J g)<|J d;have W:=kJ (J g)<|J d;have h3:max (J g) (J d)<=1024:=Nat.max_le.2 ⟨hl,hl2⟩;generalize max (J g) (J d)=n at*;refine G.mkS (ax _) N λH3 r G=>?_;have G:=G;rw[show pV [bq fB 0] n=aY n (bq fB 0)from mK _ _]at G;refine G.cpP (hf.ex G.ext) I gD (okU _) λH4 G=>?_
 have e0:g.map zJ++(aY n<|bq fB 0).drop (J g)=(ow n g d 0).map zJ:=by
  rw[aoW I,dM,jL,List.drop_replicate];rfl
 rw[e0]at G;refine Ik 8 9 25 (h1:=λm x8 x9 T Q=>∃j:Nat,T=B j/\j+m=J d/\SH [] Y Q [(r,105,(ow n g d j).map zJ)]) ?_ (J d) ⟨0,rfl,bB _,G⟩;rintro m x8 x9 T E H5 ⟨j,rfl,hj,G⟩;refine lX (λhc=>?_) λhc=>?_
 .obtain rfl:j=J d:=N;refine tl ?_;refine Lu.rr ?_;exact⟨⟨_,⟨r,by rw[RQ],G.yV<|aL ..,(G.lo _<|aL ..).2,G.get 0 O,by rw[RQ];exact h3,am5 hlt hlt2⟩,λt=>by rw[agW _ _ I W,eW,eV]⟩,G.ext⟩
 have w:j<J d:=N;have o:j<n:=N;have ev:d[j]?=Z (d.getD j 0):=by rw[aU,av w];rfl
 refine(hf2.ex G.ext).ix1 w (jX _ ev) λ_=>G.ix (k:=j) o (jX _<|(aiB o).trans<|by rw[jk (mG j)]) λ_=>?_;refine dA (MB.trans<|by rw[amP (getD_lt hlt j) (getD_lt hlt2 j)]) ?_;refine G.Ya (k:=j) o (by rw[aK,RQ];exact o) (kk:=λ_ H6 G=>?_);refine eG ?_;refine⟨J d-(j+1),N,_,_,_,_,_,O,j+1,pJ,N,?_⟩;rw[<-akb,gz];exact G
def _root_.Go.Ae.Fl.at2(h:Fl H a n 1 f)(hk:k<n)(hv:f[k]?=Z x):∃q o,q<H.bU/\(∀c,B_ 1 (u a n c) (B k)=Z (bG<|Z ⟨q,o,T⟩))/\∀Q,Ext H Q->Q.cell q o=Z x:=by
 obtain⟨q,o,I,W,r,g,rfl,rfl⟩:=h.idx (c:=0) (dI 0) hk;refine⟨q,g+k*1,W,λc=>uQ hk,λQ M=>?_⟩;obtain⟨O,w,_,_,g3,N,d,rfl⟩:=(h.ex M).idx (c:=0) (dI 0) hk;cases d;simpa using g3 0 x (dI 0) (nZ hv)
def am6{a:Nat}(ha:a<2^64)(d:b<2^64):ZX fB (a:Int) (b:Int)=((a&&&b:Nat):Int):=by
 unfold ZX;rw[show(fB).bits=64 from O,BitVec.toNat_and,ofInt64 ha,ofInt64 d];exact wrap64<|Nat.and_lt_two_pow _ d
def aw(n:Nat)(h2 V:C Nat)(j:Nat):C Nat:=(dZ n).map λi=>if i<j then h2.getD i 0&&&V.getD i 0 else 0
def NZ(n:Nat)(h2 V:C Nat)(j:Nat):J (aw n h2 V j)=n:=by simp[aw]
def aoX:aw n h2 V 0=aY n 0:=by
 rw[wJ];exact⟨NZ _ _ _ _,λx M=>by obtain⟨i,_,rfl⟩:=bP.1 M;exact jk<|iP i⟩
def am7(h:i<n):(aw n h2 V j)[i]?=Z (if i<j then h2.getD i 0&&&V.getD i 0 else 0):=by simp[aw,h]
def akc:(aw n h2 V j).set j (h2.getD j 0&&&V.getD j 0)=aw n h2 V (j+1):=by
 apply ja
 .simp[aw]
 .intro i I W;rw[sW];simp only[aw,ik,kF]
  by_cases e:j=i
  .subst e;rw[jj O,jj<|dI j]
  .rw[jk e]
   by_cases h:i<j
   .rw[jj h,jj N]
   .rw[jk h,jk N]
def am8(d:∀w∈V,w<2^64):∀w∈aw n h2 V j,w<2^64:=λw g=>by
 obtain⟨i,o,rfl⟩:=bP.1 g;split
 .exact Nat.and_lt_two_pow _<|getD_lt d i
 .exact uk 64
def agX(h2 V:C Nat)(t:Nat):hasB (aw (min (J h2)<|J V) h2 V<|min (J h2)<|J V) t=(hasB h2 t&&hasB V t):=by
 unfold hasB
 by_cases h:t/64<min (J h2) (J V)
 .rw[aU (l:=aw _ h2 V _),am7 h,jj h];exact Nat.testBit_and _ _ _
 .rw[aU (l:=aw _ h2 V _),dw (by rw[NZ];omega)]
  by_cases I:t/64<J h2
  .rw[aU (l:=V),dw N];simp
  .rw[aU (l:=h2),dw N];simp
theorem aoY(hw:Wf H)(hv:tT H v h2)(o:tT H v' V):bQ Pg X 41 [v,v'] H (Q1 (λv Q=>∃U,FE (H.bU<=·) Q v U/\∀t,hasB U t=(hasB h2 t&&hasB V t)) H):=by
 refine lq [0,1,4,5,6,7,8,20,21] ?_;refine dD (NW hv) ?_;rintro _ H1 ⟨⟨a,c0,c,rfl,rfl⟩,rfl⟩;have⟨_,_,e,hf,hl,hlt⟩:=hv.cut (c':=c)<|GX h2<|J h2;cases e;have eW:=zK h2;generalize h2.take (LA h2<|J h2)=d at*;refine dD (NW o) ?_;rintro _ H2 ⟨⟨a2,c2,c3,rfl,rfl⟩,rfl⟩;have⟨_,_,e,hf2,hl2,hlt2⟩:=o.cut (c':=c3)<|GX V<|J V;cases e;have eV:=zK V;generalize V.take (LA V<|J V)=V1 at*;have G:=h_ hw;have Y:=agX d V1;refine bM ?_;rw[show min (J d:Int) (J V1)=((min (J d) (J V1):Nat):Int) by omega];have I:=Nat.min_le_left (J d)<|J V1;have W:=Nat.min_le_right (J d)<|J V1;generalize min (J d) (J V1)=n at*;refine G.mkS (ax _) N λH3 r G=>?_;have G:=G;rw[show pV [bq fB 0] n=(aw n d V1 0).map zJ from(mK _ _).trans (by rw[aoX,jL];rfl)]at G;have hr:=G.yV<|aL ..
 refine bM ?_;refine lp2 8 21 (h1:=λm x8 yu Q=>∃j:Nat,yu=B j/\j+m=n/\SH [] H2 Q [(r,105,(aw n d V1 j).map zJ)]) ?_ n ⟨0,rfl,bB _,G⟩;rintro m x8 yu E w ⟨j,rfl,hj,G⟩;refine lX (λhc=>?_) λhc=>?_
 .obtain rfl:j=n:=N
  have ab:tT w (u (Z ⟨r,0,T⟩) j j) (aw j d V1 j):=by
   have:=(FE.s (ay:=λ_=>True) (h2:=aw j d V1 j) ⟨r,O,trivial,(G.lo _<|aL ..).2,G.get 0 O,by rw[NZ];omega,am8 hlt2⟩);rw[NZ]at this;exact this
  refine tl<|dD (aeE G.wf ab) ?_;rintro _ H6 ⟨⟨q,rfl,g1,g2,g3,g4,g5⟩,ac⟩;refine Lu.rr ?_;exact⟨⟨_,⟨q,O,aQ G.ext.bU g1,g2,g3,g4,g5⟩,λt=>by rw[zK,Y,eW,eV]⟩,G.ext.trans' ac⟩
 have g:j<n:=N;have ev:d[j]?=Z (d.getD j 0):=by rw[aU,av (show j<J d by omega)];rfl
 have M:V1[j]?=Z (V1.getD j 0):=by rw[aU,av (show j<J V1 by omega)];rfl
 have⟨q1,o1,l1,i1,r1⟩:=hf.at2 (show j<J d by omega)<|jX _ ev;have⟨q2,o2,l2,i2,r2⟩:=hf2.at2 (show j<J V1 by omega)<|jX _ M;refine dA (i1 _)<|iY (r1 _<|G.ext.trans'<|Ext.hN w) ?_;refine G.lJ ?_;refine dA (i2 _)<|iY (r2 _<|G.ext.trans'<|Ext.hN w) ?_;refine G.lJ ?_;rw[am6 (getD_lt hlt j) (getD_lt hlt2 j)];refine G.OM (k:=j) g (by rw[aK,NZ];exact g) (kk:=λH6 G=>?_);refine splitK (λK hK=>?_) ?_
 .simp only[fu,gT];have n1:q1≠r:=N;have n2:q2≠r:=N
  by_cases e:q1=q2
  .subst e;generalize o1=b1;generalize o2=b2;apply mO (a:=q1) (b:=r) n1 yB fT fT hK
  .apply zP (a:=q1) (b:=q2) (c:=r) e n1 n2 yB fT fT hK
 refine eG ?_;refine⟨n-(j+1),N,_,_,_,_,O,j+1,pJ,N,?_⟩;rw[<-akc,gz];exact G
end
section
variable{S:C Nat}
def hE(h:Nat×Sp):D:=dP ⟨[B h.1,B h.2.1,B h.2.2]⟩
def am9(a b:Nat×Sp):mU Pg 88 (hE a) (hE b)=Z (decide<|a=b):=Eq.trans fT<|aiw a b
def WZ:vz Pg 132=Z (88,133):=fT
def N7(l:C<|Nat×Sp):C (Nat×Sp):=l.foldl (λd h=>if h∈d then d else d++[h]) []
def aeJ(l:C<|Nat×Sp)(h:Nat×Sp):N7 (l++[h])=if h∈N7 l then N7 l else N7 l++[h]:=by unfold N7;rw[iW];rfl
def Y5(l:C<|Nat×Sp)(h:Nat×Sp):h∈N7 l<->h∈l:=by
 have o:∀(l d:C<|Nat×Sp),h∈l.foldl (λd h=>if h∈d then d else d++[h]) d<->h∈d\/h∈l:=by
  intro l
  induction l with
  |nil=>intro d;simp
  |cons x l r=>
   intro d;rw[lF,r]
   by_cases M:x∈d
   .rw[jj M];exact⟨λg=>g.elim .inl λg=>.inr<|bL _ g,λg=>g.elim .inl λg=>(bW.1 g).elim (λe=>.inl<|e▸M) .inr⟩
   .rw[jk M];simp[or_assoc]
 rw[N7,o];simp
def Y6(l:C<|Nat×Sp):J (N7 l)<=J l:=by
 have g:∀(l d:C<|Nat×Sp),J (l.foldl (λd h=>if h∈d then d else d++[h]) d)<=J d+J l:=by
  intro l
  induction l with
  |nil=>intro d;simp
  |cons x l o=>
   intro d;rw[lF];refine aQ (o _) ?_;split<;>simp<;>omega
 have:=g l [];simpa [N7]using this
def Ho(S:C Nat)(H0 H:R)(r9 mt:Nat)(w cv:D)(ok:Bool)(L:C eB)(g:C<|Nat×Sp)(je:D):Prop:=∃d o r,
 SH S H0 H ((r9,82,[w,aR ok,u T 0 0,d,cv])::(o++(r++L)))/\GB 88 3 d (hts g) o/\GB 3 1 je (gq<|g.map (·.1)) r/\Ce hE H mt (λp=>if p∈g then Z u0 else T)/\(mt∈S\/H0.bU<=mt)
def akd{K:Out->Prop}{rp rw r4 r8 r9 mt:Nat}{x1 x5 cv x8 U:D}{ok:Bool}{l:C (Nat×Sp)}{ko mM:D}{E:Rs}(hf:jJ (λ_=>True) 88 H0 ha (J l) 3<|hts l)(hl:J l<=5592404)(ac:∀q∈S,¬Ah H0 q 88)(h:Ho S H0 H r9 mt U cv ok L []<|u T 0 0)(k:∀je ko mM E Q,Ho S H0 Q r9 mt U cv ok L (N7 l) je->iG Pg X (sub (BG Pg 34) [1,1,1,1,1,1,1,1,1,1]) (ay Pg 34 (Fr.c 0 (pr rp)<|Fr.c 1 x1<|Fr.c 3 (pr rw)<|Fr.c 4 (pr r4)<|Fr.c 5 x5<|Fr.c 6 (pr r8)<|Fr.c 7 cv<|Fr.c 8 x8<|Fr.c 9 (pr r9)<|Fr.c 10 (fK<|Z mt)<|Fr.c 11 je<|Fr.c 13 ko<|Fr.c 15 mM<|Fr.c 62 (u ha (J l) hc)<|Fr.c 63 (B<|J l)<|Fr.c 64 (B<|J l)<|Fr.n) E Q) K):
 iG Pg X (sub (BG Pg 34) [1,1,1,1,1,1,1,1,1,0,1,0,0]).loop (ay Pg 34 (Fr.c 0 (pr rp)<|Fr.c 1 x1<|Fr.c 3 (pr rw)<|Fr.c 4 (pr r4)<|Fr.c 5 x5<|Fr.c 6 (pr r8)<|Fr.c 7 cv<|Fr.c 8 x8<|Fr.c 9 (pr r9)<|Fr.c 10 (fK<|Z mt)<|Fr.c 11 (u T 0 0)<|Fr.c 13 ko<|Fr.c 15 mM<|Fr.c 62 (u ha (J l) hc)<|Fr.c 63 (B<|J l)<|Fr.c 64 (vi 0)<|Fr.n) E H) (uB 0<|uW Pg X (sub (BG Pg 34) [1,1,1,1,1,1,1,1,1,1]) K):=by
 refine PO 11 13 15 64 (h1:=λm je ko mM R6 Q=>∃i:Nat,R6=B i/\i+m=J l/\Ho S H0 Q r9 mt U cv ok L (N7<|l.take i) je) ?_ (J l) ⟨0,rfl,bB _,h⟩;rintro m je ko mM R6 E H1 ⟨i,rfl,hi,w,W,gR,G,o,I,d,M⟩;refine lX (λhc=>?_) λhc=>?_
 .obtain rfl:i=J l:=N;rw[kI]at o I d;exact k _ _ _ _ _ ⟨w,W,gR,G,o,I,d,M⟩
 have r:i<J l:=N;have h0:=G;have al:=G.ext;have G:=G.base
 have eh:El (hts l) 3 i=[B l[i].1,B l[i].2.1,B l[i].2.2]:=by
  have:=WR (l:=l) (i:=i) (j:=[])<|av r;rw[bF]at this;exact this
 refine(hf.stay al λq hq=>.inr<|ac q hq).Yb jq r eh λ_=>?_;have g:N7 (l.take<|i+1)=if l[i]∈N7 (l.take i)then N7 (l.take i)else N7 (l.take i)++[l[i]]:=by rw[dY,av r];exact aeJ _ _
 have ad:=Y6<|l.take i;rw[dX]at ad;generalize l[i]=h at*;generalize N7 (l.take i)=ag at*;refine G.ns O O O λH2 rb G ap=>?_;have G:SH _ H1 H2 ((rb,88,[B h.1,B h.2.1,B h.2.2])::(r9,82,[U,aR ok,u T 0 0,w,cv])::(W++(gR++L))):=G;refine fJ ?_;have d:=d.ex G.ext<|h0.z8 d;refine Ce.has (e:=hE) (k:=h) d WZ Fs am9<|G.lJ ?_;refine G.ns O O O λH3 rz G am=>?_;have G:=fU (A:=[_]) G;have d:=d.ex am nofun;refine aW (λhp=>?_) λhp=>?_
 .rw[jj hp]at g;refine eG ?_;exact⟨J l-(i+1),N,_,_,_,_,_,_,O,i+1,pJ,N,w,W,gR,fU (A:=[_])<|h0.over G,by rw[g];exact o,by rw[g];exact I,by rw[g];exact d,M⟩
 rw[jk hp]at g;apply G.jC;have h3:=h0.over G;have G:=h3;refine dA (v:=u0) O<|G.ajU (e:=hE) (k:=h) M d WZ am9 λH4 d G aq=>?_;have d:Ce hE H4 mt (λp=>if p∈ag++[h]then Z u0 else T):=d.plus λj=>gD;have h4:=G;have G:=G.base;refine fJ ?_;refine o.ND G O O O (by rw[BN];omega) λq an H5 Y o G=>?_;obtain⟨qa,qn,qc,rfl⟩:=o.sl;refine G.kE λHn G=>?_;apply G.qF;refine I.ND G O O O (by rw[aK,aK];omega) λq ao H6 ab I G=>?_;have d:=d.ex G.ext<|h4.z8 d;refine eG ?_;refine⟨J l-(i+1),N,_,_,_,_,_,_,O,i+1,pJ,N,_,Y,ab,fU (A:=[_])<|h4.over G,?_,?_,by rw[g];exact d,M⟩
 .rw[g,UC];exact o
 .rw[g,dM];exact(show gq (ag.map (·.1)++[h.1])=gq (ag.map (·.1))++[B h.1]from dM)▸I
end
end Go.Proofs.Lv
namespace Go.Proofs.Lu
namespace Wk
variable{l:C Sp}{A:At}
variable{hd hd0 em:Nat->Bool}{a:Nat}{x y X:Rn}{s t:Sk}{p q:Sp}{e:Ed}
def Y7{α:Type}[DecidableEq α](cs:α->Nat):∀(l L:C α),l.Nodup->(∀x∈l,x∈L)->(l.map cs).sum<=(L.map cs).sum
 |[],_,_,_=>bD _
 |b::l,L,hn,hs=>by
  have g:=hs b<|aL ..
  have o:=((List.perm_cons_erase g).map cs).sum_nat;have W:=jF.1 hn;have:=Y7 cs l (L.erase b) W.2 λy d=>(List.mem_erase_of_ne λe=>W.1 (by rw[<-e];exact d)).2<|hs y<|bL _ d;simp only[i_,qC]at o|-;omega
def ake(h:J A.eg=A.ns):((dZ A.ns).map λs=>J<|A.rg s)=A.eg.map J:=by
 refine ja (by simp[h]) λi I W=>?_;simp only[aK]at W;simp[At.rg,av W]
def aaI(o:J A.eg=A.ns){m:Nat}(g:l.Nodup)(d:∀p∈l,p.1<A.ns/\p.2<=m):(l.map λp=>J<|A.rg p.1).sum<=(m+1)*A.tot:=by
 refine aQ (Y7 _ l ((dZ<|m+1).flatMap λk=>(dZ A.ns).map λs=>(s,k)) g λp r=>?_) ?_
 .have⟨I,W⟩:=d p r;exact sZ.2 ⟨p.2,by rw[jT];omega,bP.2 ⟨p.1,by rw[jT];exact I,O⟩⟩
 .clear d g;apply rM;generalize m+1=k
  induction k with
  |zero=>simp
  |succ k w=>
   rw[xq,List.flatMap_append,dM,uj,w,jR];congr 1;simp only[lZ,List.flatMap_nil,bF,uH];unfold At.tot;rw[<-ake o];rfl
def W9:(x.iK A hd em a p e).ht.length<=J x.ht+1:=by
 unfold Rn.iK
 have:∀h,(x.hit h).ht.length<=J x.ht+1:=λh=>by
  unfold Rn.hit;split
  .omega
  .simp
 split
 .split
  .rw[Rn.BL];exact this _
  .exact this _
 .rw[Rn.IJ];omega
def Kw:∀(l:C Ed)(y:Rn),(l.foldl (Rn.iK A hd em a p) y).ht.length<=J y.ht+J l
 |[],y=>ax _
 |e::l,y=>by
  have I:=Kw l<|y.iK A hd em a p e;have W:=W9 (A:=A) (hd:=hd) (em:=em) (a:=a) (x:=y) (p:=p) (e:=e);simp only[lF,cO];omega
def agY(ho:A.Ok):∀n i x,Rn.h2 A a x->x.En->J x.ht<=((x.sp.take i).map λp:Sp=>J<|A.rg p.1).sum->(D4 A hd em a n i x).ht.length<=((D4 A hd em a n i x).sp.map λp:Sp=>J<|A.rg p.1).sum:=by
 have tk:∀(l:C Sp)(i:Nat),((l.take i).map λp:Sp=>J<|A.rg p.1).sum<=(l.map λp:Sp=>J<|A.rg p.1).sum:=λl i=>by
  have:=fq List.sum<|fq (List.map λp:Sp=>J<|A.rg p.1)<|iM i l;rw[dM,uj]at this;omega
 intro n
 induction n with
 |zero=>exactλi x _ _ h=>aQ h<|tk _ _
 |succ n B=>
  intro i x g d h;show(match x.sp[i]? with|none=>x|some p=>D4 A hd em a n (i+1)<|x.tL A hd em a p).ht.length<=((match x.sp[i]? with|none=>x|some p=>D4 A hd em a n (i+1)<|x.tL A hd em a p).sp.map λp:Sp=>J<|A.rg p.1).sum;cases hp:x.sp[i]? with
  |none=>exact aQ h<|tk _ _
  |some p=>
   have o:=aV hp;have w:=(g.b p o).2;have⟨g1,g2,_⟩:=Rn.RE (A:=A) (hd:=hd) (em:=em) (a:=a) (p:=p) d w;refine B (i+1) _ (g.tL ho o) g1 ?_;have⟨r,hr⟩:=g2.sp;have M:i<J x.sp:=(bI.1 hp).1;rw[<-hr,lS N,dY,hp]
   have I:(x.tL A hd em a p).ht.length<=J x.ht+J (A.rg p.1):=by
    unfold Rn.tL;refine aQ (Kw _ _) ?_;split
    .rw[Rn.Lp];exact ax _
    .exact ax _
   simp only[Option.toList,dM,i_,kM,uj,qC,zL];omega
def W_(ho:A.Ok)(hs:Sk.h2 A a s)(hl:∀p∈l,p.1<A.ns/\p.2<=J s):(lM A hd em a s l).ht.length<=(A.ns*(a+1)+1)*A.tot:=by
 have B:=Dy l ⟨s,[],[],aA,[]⟩ ⟨hs,jg,nofun⟩ hl;have o:(l.foldl Rn.meet ⟨s,[],[],aA,[]⟩).ht=[]:=IK _ _
 have w:∀(l:C Sp)(x:Rn),(l.foldl Rn.meet x).en=x.en:=by
  intro l
  induction l with
  |nil=>exactλ_=>rfl
  |cons p l r=>exactλx=>(r _).trans Rn.IQ
 have h:=agY (hd:=hd) (em:=em) ho (bnd A a+1) 0 _ B (λk g=>by rw[w]at g;cases g) (by rw[o];exact bD _);have d:=NG (hd:=hd) (em:=em) ho hs hl;refine aQ h<|aQ (aaI ho.Be d.nd d.b)<|fA _ ?_;have:=d.sk.le;show(lM A hd em a s l).sk.length+1<=_;omega
def ofT(A:At)(hd:Nat->Bool)(z:ah)(t:Int):Prop:=¬(z.long=0/\hd 0=F)/\off A (lM A hd A.Em z.long z.s0 z.fr).sp t
def ofR(A:At)(hd:Nat->Bool)(z:ah)(r:Nat):Prop:=if z.long=0/\hd 0=F then r=0 else r∈(lM A hd A.Em z.long z.s0 z.fr).ht.map (·.1)
def aiC:∀r,r<A.nr->(A.Em r=F<->A.Mk aA (A.S r)):=λr _=>At.ad9
variable{z:ah}
def aeK(ho:A.Ok)(g:ah.h2 A z)(d:∀r,hd0 r=F->hd r=F){t:Int}(h:ofT A hd z t):ofT A hd0 z t:=by
 have⟨I,p,hp,e,he,W⟩:=h;have⟨m,_,hm⟩:=(NV (hd0:=hd0) ho aiC d g.s0 g.fr).sp p hp;exact⟨λh=>I ⟨h.1,d 0 h.2⟩,_,hm,e,he,W⟩
def Qc(ho:A.Ok)(hs:Sk.h2 A a s)(hl:∀p∈l,p.1<A.ns/\p.2<=J s):(lM A hd em a s l).Ho A hd:=by
 have r:∀(l:C Sp)(x:Rn),(l.foldl Rn.meet x).en=x.en:=by
  intro l
  induction l with
  |nil=>exactλ_=>rfl
  |cons p l o=>exactλx=>(o _).trans Rn.IQ
 refine aee _ _ _ (Dy l ⟨s,[],[],aA,[]⟩ ⟨hs,jg,nofun⟩ hl) ho (λk d=>by rw[r]at d;cases d) λh g=>?_;rw[IK]at g;cases g
def aeL(ho:A.Ok)(g:ah.h2 A z)(w:∀r,hd0 r=F->hd r=F){r:Nat}(h:ofR A hd z r)(o:hd0 r=F):ofR A hd0 z r:=by
 unfold ofR at*
 by_cases c:z.long=0/\hd0 0=F
 .rw[jj c];rwa [jj ⟨c.1,w 0 c.2⟩]at h
 rw[jk c]
 by_cases c':z.long=0/\hd 0=F
 .rw[jj c']at h;subst h;exact absurd ⟨c'.1,o⟩ c
 rw[jk c']at h;obtain⟨k,B,rfl⟩:=bP.1 h;have⟨_,a2,e,he,e1,e2⟩:=Qc ho g.s0 g.fr k B;have⟨m,_,hm⟩:=(NV (hd0:=hd0) ho aiC w g.s0 g.fr).sp _ a2;have:=(((P_ (hd:=hd0) (em:=A.Em) ho g.s0 g.fr).1.d _ hm).e e he).2.1 e1 (by rw[e2];exact o);exact bP.2 ⟨_,this.1,e2⟩
end Wk
end Go.Proofs.Lu
namespace Go.Proofs.Lv
open Go.Proofs.Lu Go.Proofs.Lu.Wk
open Go.Ae Go.Ae.hx
variable{au:C Nat}{sb:C Bool}{F' F0:Nat->Prop}{ha sa:aC Addr}{ne ok:Bool}{hc most r4 r8 r9 rc rw rw' sc t:Nat}{L L' hx:C eB}{A:At}{q:AV}{z:ah}{E:Rs}{H Q H0:R}{wv x1 j_ je ko mM x5 x62 x63 R6 x8:D}
section
variable{S:C Nat}{ev sv:D}{rp:Nat}
def _root_.Go.Ae.SH.wide(h:SH S H H L)(g:∀r∈S,r∈au):SH au H H L:=⟨pI.refl _ _,h.bk,λe d=>⟨(h.lo e d).1.imp_left<|g _,(h.lo e d).2⟩,h.ne,h.wf⟩
def _root_.Go.Ae.SH.ana(G:SH S H0 H L)(h:SH au H Q L')(d:∀r∈au,r∈S\/H0.bU<=r):SH S H0 Q L':=
 ⟨G.ext.later h.ext d,h.bk,λe o=>⟨(h.lo e o).1.elim (d _) λg=>.inr<|aQ G.ext.bU g,(h.lo e o).2⟩,h.ne,h.wf⟩
theorem _root_.Go.Ae.Ce.anb{κ:Type}[DecidableEq κ]{e:κ->D}{cs:κ->aC D}{r:Nat}{t:aH}(h:Ce e H r cs):¬Ah H r t:=λ⟨_,I,_⟩=>by
 have⟨m,_,W,_⟩:=h;rw[I]at W;cases W
def OfV(H:R)(v:D)(ok:Bool)(au az:C Nat)(d:C<|Nat×Sp)(cv:D):Prop:=∃o g ha hc,v=fO ⟨[dP ⟨[o,aR ok,g,u ha (J d) hc,cv]⟩,vi 0]⟩/\tT H o au/\tT H g az/\jJ (λ_=>True) 88 H ha (J d) 3 (hts d)/\∃p,cv=bG p
def _root_.Go.Ae.SH.geS(G:SH S H0 H L){r:Nat}(d:r∈L.map (·.1)):r∈S\/H0.bU<=r:=
 let⟨_,he,h⟩:=bP.1 d;h▸(G.lo _ he).1
def anc{y:Rn}{lv:D}{V:C Nat}(a0:∀Q,pI S H0 Q->tT Q lv V){b1 b2 b3 b4 b5 b6 b7 b8 b9 ao:D}(ho:A.Ok)(ht:A.ty<=65536)(hk:GU F0 H rw' A q ev sv sb)(hp:rp<H0.bU/\Bk H0 rp 92 [pr rw',b1,b2,b3,b4,b5,b6,b7,b8,b9,ao,aR aA])(al:rp∉S)(G:SH S H0 H [(r9,82,[u T 0 0,aR ok,u T 0 0,u T 0 0,bG T]),(r8,68,[u sa (J y.sp) sc,aR y.ok,u ha (J y.ht) hc,B<|J y.sp]),(r4,82,[u T 0 0,aR aA,u T 0 0,u T 0 0,bG T]),(rw,80,[wv,lv,aR ne])])(I:jJ (λ_=>True) 86 H sa (J y.sp) 2<|B6 y.sp)(W:jJ (λ_=>True) 88 H ha (J y.ht) 3<|hts y.ht)(hb:∀p∈y.sp,p.1<A.ns)(hl:J y.sp<=8000000)(aE:J y.ht<=5592404)(hr:∀h∈y.ht,h.1<65536){H':D->R->Prop}(kq:∀v Q,pI S H0 Q/\(∃au az,OfV Q v ok au az (N7 y.ht) (pr rc)/\(∀t,hasB au t=(decide (t∈OQ A y.sp)&&!hasB V t))/\∀t,hasB az t=decide (t∈y.ht.map (·.1)))->H' v Q):
 iG Pg X (sub (BG Pg 34) [1,1,1,1,1]) (ay Pg 34 (Fr.c 0 (pr rp)<|Fr.c 1 x1<|Fr.c 3 (pr rw)<|Fr.c 4 (pr r4)<|Fr.c 5 x5<|Fr.c 6 (pr r8)<|Fr.c 7 (pr rc)<|Fr.c 8 x8<|Fr.c 9 (pr r9)<|Fr.c 10 j_<|Fr.c 11 je<|Fr.c 13 ko<|Fr.c 15 mM<|Fr.c 62 x62<|Fr.c 63 x63<|Fr.c 64 R6<|Fr.n) E H)
  (jZ Pg [.cell 4 82,.tmp 5] H'):=by
 have aq:=hp.2.iE<|G.ext.obj _ hp.1 al;refine tp ?_;refine iY ((aq.iE (Q:=hN H) O).cell (o:=0) O) ?_;refine fJ ?_;refine dD (Y0 ho ht (oU H) (hk.stay (Ext.hN H) nofun) (I.ex<|Ext.hN H) hb hl) ?_;rintro tv H2 ⟨Y,ac⟩;have Y:tT (hM H H2) tv (US<|OQ A y.sp):=FE.s (ay:=λ_=>True) (let⟨r,g1,g2,g3,g4,g5⟩:=Y;⟨r,g1,trivial,g3,g4.iE rfl,g5⟩);have c2:Df H H2=cl 1:=gJ ac;have G:=G.oI ac;have W:=W.ex ac.draw;generalize hM H H2=H3 at Y G W|-;refine fJ ?_;refine dD (aeH (oU H3) (Y.ex<|Ext.hN H3)<|(a0 _ G.ext).ex<|Ext.hN H3) ?_;rintro _ H4 ⟨⟨U,⟨ru,rfl,_,u1,u2,u3,u4⟩,hU⟩,ad⟩;have c4:Df H3 H4=cl 1:=gJ ad;have G:=G.oI ad;have W:=W.ex ad.draw;have u2:Bk (hM H3 H4) ru 105 (U.map zJ):=u2.iE O;have u1:ru<(hM H3 H4).bU:=u1;generalize hM H3 H4=H5 at G W u1 u2|-;have h5:=G;have G:=G.base;have m1:r9≠rw:=G.neT;have m2:r9≠r8:=G.neT;have m3:rw≠r8:=G.neT;have ag:∀r∈[r9,r8,r4,rw],r≠rp:=λr hr e=>(h5.geS (r:=r) hr).elim (λh=>al<|e▸h) λh=>fI h<|e▸hp.1;have m4:r9≠rp:=ag _ gD;have m5:rw≠rp:=ag _ gD;have m6:r8≠rp:=ag _ gD;refine G.n_ λH6 G=>?_;refine splitK (λK hK=>?_) ?_
 .simp only[fu,gT,c2,c4];apply VK (a:=r9) (b:=rw) (c:=r8) (d:=rp) m1 m2 m4 m3 m5 m6 yB fT fT hK
 refine G.kE λHn G=>?_;have h7:=h5.over G;have W:=W.stay G.ext λq w=>.inr<|h5.AO (ty:=88) O q w;have t1:jJ (λ_=>True) 105 H5 (Z ⟨ru,0,T⟩) (J U) 1 (U.map zJ):=⟨u2.fl u1 gD,λr o e _=>by cases e;exact⟨trivial,u1,u2.Gb⟩⟩;have t1:=t1.stay G.ext λq w=>.inr<|h5.AO (ty:=105) O q w;have G:=h7;refine G.mkMap (e:=hE) WZ λH8 mt ab BK ar G=>?_;have W:=W.ex BK;have t1:=t1.ex BK;have h8:=G;refine fJ ?_;have a8:=G.z8 ab;have hB:SH (mt::[r9,r8,r4,rw]) H8 H8 _:=G.base.wide λr hr=>bL _ hr;refine akd (S:=mt::[r9,r8,r4,rw]) (H0:=H8) W aE (λr hr h=>?_) ⟨u T 0 0,[],[],hB,GB.nil _ _,GB.nil _ _,nZ ab,.inl<|aL ..⟩ λje ko mM E H9 a2=>?_
 .rcases bW.1 hr with rfl|hr
  .exact ab.anb h
  .exact G.AO (ty:=88) O _ hr h
 have⟨hsv,gH,gR,G,g1,g2,mT,_⟩:=a2;refine tl ?_;have a7:=Y6 y.ht;have h9:=G;obtain⟨a5,a4,a6,rfl,an,am⟩:=g2.KF (ay:=λ_=>True) (G.perm<|mF (_::gH) gR _) λ_ _=>trivial;rw[aK,aK]at an;obtain rfl:a4=J ((N7 y.ht).map (·.1)):=by rw[aK];omega
 obtain⟨a3,n3,c3,rfl,a1,g⟩:=g1.KF (ay:=λ_=>True) (G.perm<|mF [_] gH _) λ_ _=>trivial;obtain rfl:n3=J (N7 y.ht):=by rw[BN]at a1;omega
 have ap:=h8.ana h9 λr hr=>(bW.1 hr).elim (λe=>.inr<|e▸aQ h7.ext.bU ar) λh=>h8.geS h;refine dD (NS G.wf am (λai hu=>?_) (by rw[aK];omega)) ?_
 .obtain⟨h,hh,rfl⟩:=bP.1 hu;exact hr h<|(Y5 _ _).1 hh
 rintro _ CF ⟨⟨rb,rfl,_,b1,b2,b3,b4⟩,uR⟩;have g:=g.ex uR;have t1:=(t1.stay h9.ext λq w=>.inr λh=>(bW.1 w).elim (λe=>(e▸ab).anb h) λh'=>h8.AO (ty:=105) O q h' h).ex uR;have t2:jJ (λ_=>True) 105 CF (Z ⟨rb,0,T⟩) (J<|US<|(N7 y.ht).map (·.1)) 1 ((US<|(N7 y.ht).map (·.1)).map zJ):=⟨b2.fl b1 gD,λr o e _=>by cases e;exact⟨trivial,b1,b2.Gb⟩⟩;have G:=ap.call uR;have G:=fU (A:=gR)<|(fU (A:=gH)<|G.perm<|mF [_] gH _).perm<|mF [_] gR _;have G:SH S H0 CF [(r9,82,_),(r8,68,_),(r4,82,_),(rw,80,_)]:=G;have M:=G;have G:=G.base;refine G.lJ ?_;refine G.kE λHn G=>?_;apply G.jC;refine G.kE λHn G=>?_;have g:=g.stay G.ext λq w=>.inr<|M.AO (ty:=88) O q w;have t1:=t1.stay G.ext λq w=>.inr<|M.AO (ty:=105) O q w;have t2:=t2.stay G.ext λq w=>.inr<|M.AO (ty:=105) O q w;have G:=M.over G;refine Lu.rr ?_;refine G.jC<|kq _ _ ⟨G.ext,U,US<|(N7 y.ht).map (·.1),⟨_,_,_,_,O,⟨_,_,O,t1.1,u3,u4,λm hm=>⟨_,LB hm N⟩⟩,⟨_,_,rfl,t2.1,b3,b4,λm hm=>⟨_,LB hm N⟩⟩,?_⟩,λt=>?_,λt=>?_⟩
 .exact⟨g,_,O⟩
 .rw[hU,Lt]
 .rw[Lt];exact wB.2 (by simp only[bP,Y5])
end
section
variable{S:C Nat}{ev sv lv:D}{rp:Nat}{h2 V:C Nat}
theorem aeM(h:J h2<=1024)(ht:65536<=t):hasB h2 t=aA:=by
 unfold hasB;rw[aU,dw N];exact Nat.zero_testBit _
theorem aiD(hv:tT H wv h2)(t:Nat):bQ Pg X 50 [wv,B t] H (Q0 (λv=>v=aR (hasB h2 t)) H):=by
 have d:J h2<=1024:=let⟨_,_,_,_,h,_⟩:=hv;h;refine(am3 hv t).mono ?_;rintro _ _ ⟨rfl,rfl⟩;refine⟨?_,O⟩;rw[kX]
 by_cases h:t<65536
 .rw[b_ (show(0:Int)<=t/\(t:Int)<65536 by omega),oZ]
 .rw[aeM d N,pM]
abbrev yH(A:At)(h2:C Nat)(z:ah):Rn:=lM A (hasB h2) A.Em z.long z.s0 z.fr
def OfC(H:R)(cv:D)(n:Nat):Prop:=∃rc d g xs,cv=pr rc/\rc<H.bU/\Bk H rc 128 (u d n g::xs)
def Ofd(A:At)(h2 V:C Nat)(z:ah)(ok:Bool)(H:R)(v:D)(Q:R):Prop:=Ext H Q/\∃au az d g,OfV Q v ok au az d g/\(∀t:Nat,hasB au t=F<->ofT A (hasB h2) z t/\hasB V t=aA)/\(∀r,hasB az r=F<->ofR A (hasB h2) z r)/\
 ((z.long=0/\hasB h2 0=F/\d=[]/\az=US [0])\/(¬(z.long=0/\hasB h2 0=F)/\d=N7 (yH A h2 z).ht/\OfC Q g ((yH A h2 z).sk.length+1)))
theorem akf{d:R}(ho:A.Ok)(ht:A.ty<=65536)(hk:GU F0 H rw' A q ev sv sb)(hs:Sm S H0 d rp rw' most A z)(hz:ah.h2 A z)(hv:tT d wv h2)(al:tT d lv V)(hL:Lim A z.long 9223372036854775807)(hB:(yH A h2 z).ht.length<=5592404)(G:SH [] d H [(r9,82,[u T 0 0,aR ok,u T 0 0,u T 0 0,bG T]),(r8,68,[u sa (yH A h2 z).sp.length sc,aR (yH A h2 z).ok,u ha (yH A h2 z).ht.length hc,B (yH A h2 z).sp.length]),(r4,82,[u T 0 0,aR aA,u T 0 0,u T 0 0,bG T]),(rw,80,[wv,lv,aR ne])])(I:jJ (λ_=>True) 86 H sa (yH A h2 z).sp.length 2<|B6 (yH A h2 z).sp)(W:jJ (λ_=>True) 88 H ha (yH A h2 z).ht.length 3<|hts (yH A h2 z).ht)(ad:OfC H (pr rc)<|(yH A h2 z).sk.length+1):
 iG Pg X (sub (BG Pg 34) [1,1,1,1]) (ay Pg 34 (Fr.c 0 (pr rp)<|Fr.c 1 x1<|Fr.c 3 (pr rw)<|Fr.c 4 (pr r4)<|Fr.c 5 x5<|Fr.c 6 (pr r8)<|Fr.c 7 (pr rc)<|Fr.c 8 x8<|Fr.c 9 (pr r9)<|Fr.c 10 j_<|Fr.c 11 je<|Fr.c 13 ko<|Fr.c 15 mM<|Fr.c 62 x62<|Fr.c 63 x63<|Fr.c 64 R6<|Fr.n) E H)
  (jZ Pg [.cell 4 82,.tmp 5]<|Ofd A h2 V z ok d):=by
 refine tl<|dD (aj6<|hs.ex G.ext) ?_;rintro _ H ⟨rfl,rfl⟩;refine bM ?_;have⟨_,_,_,_,_,_,_,_,hSm,_⟩:=id hs;have ac:=(hSm.lo _<|aL ..).2;have ab:=(hSm.get 0 O).iE<|G.ext.obj _ ac nofun;have am:rp∉[r9,r8,r4,rw]:=λh=>G.AO (ty:=92) O rp h ab.Gb;have U:∀{Q},pI [r9,r8,r4,rw] H Q->Ext d Q:=λ{Q} M=>(G.over (L':=[]) ⟨M,nofun,nofun,qy,M.wf G.wf⟩).ext
 have Y:∀{b:Bool}{E:Rs},Co E 43=aR b->(b=F<->(z.long=0/\hasB h2 0=F))->iG Pg X (sub (BG Pg 34) [1,1,1,1,0,1]) (ay Pg 34 (Fr.c 0 (pr rp)<|Fr.c 1 x1<|Fr.c 3 (pr rw)<|Fr.c 4 (pr r4)<|Fr.c 5 x5<|Fr.c 6 (pr r8)<|Fr.c 7 (pr rc)<|Fr.c 8 x8<|Fr.c 9 (pr r9)<|Fr.c 10 j_<|Fr.c 11 je<|Fr.c 13 ko<|Fr.c 15 mM<|Fr.c 62 x62<|Fr.c 63 x63<|Fr.c 64 R6<|Fr.n) E H) (uW Pg X (sub (BG Pg 34) [1,1,1,1,1])<|jZ Pg [.cell 4 82,.tmp 5]<|Ofd A h2 V z ok d):=by
  intro b E ag g;refine tl ?_;rw[ag];cases b;rotate_left
  .have g:=g.1 O;refine G.lJ ?_;refine G.bS (v:=vi 0) O O O jq λH1 r G=>dD (NS (ay:=λ_=>True) (ts:=[0]) G.wf (jJ.one (es:=1) G (n:=1) (aL ..) O trivial) gD gD) ?_;rintro _ H2 ⟨⟨rb,rfl,_,b1,b2,b3,b4⟩,an⟩;have t2:jJ (λ_=>True) 105 H2 (Z ⟨rb,0,T⟩) (J<|US [0]) 1 ((US [0]).map zJ):=⟨b2.fl b1 gD,λr o e _=>by cases e;exact⟨trivial,b1,b2.Gb⟩⟩;have G:=fU (A:=[_])<|G.call an;have W:=G;have G:=G.base;refine G.kE λHn G=>?_;refine G.jC ?_;refine G.kE λHn G=>?_;have t2:=t2.stay G.ext λq hq=>.inr<|W.AO (ty:=105) O q hq;have G:=W.over G;refine Lu.rr ?_;refine G.jC<|⟨G.ext,[],US [0],[],_,⟨_,_,_,_,O,tT.nil,⟨_,_,O,t2.1,b3,b4,λm hm=>⟨_,LB hm N⟩⟩,jJ.nil _ _ _ _ _,_,rfl⟩,λt=>?_,λt=>?_,.inl ⟨g.1,g.2,rfl,rfl⟩⟩
   .exact⟨λh=>by simp[hasB]at h,λh=>absurd g h.1.1⟩
   .rw[Lt];unfold ofR;rw[jj g];simp
  .refine bM ?_;have hW:=NG (hd:=hasB h2) (em:=A.Em) ho hz.s0 hz.fr;have w:¬(z.long=0/\hasB h2 0=F):=λh=>nomatch g.2 h;have⟨rc',pa,pc,xs,e,hrc,hbc⟩:=ad;cases e;refine anc (S:=[r9,r8,r4,rw]) (H0:=H) (λQ M=>al.ex<|U M) ho ht hk ⟨aO ac G.ext.bU,ab⟩ am G.base I W (λp hp=>(hW.b p hp).1) (aQ hW.le hL.b) hB (λh hh=>?_) λv Q h=>?_
   .have⟨_,g2,e,he,e1,e2⟩:=Qc (hd:=hasB h2) (em:=A.Em) ho hz.s0 hz.fr h hh;rcases(ho.e _ (hW.b _ g2).1 e he).2.2 with h|h|h
    .omega
    .omega
    .have:=ho.few;omega
   .have⟨M,au,az,g1,g2,g3⟩:=h;refine⟨U M,au,az,_,_,g1,λt=>?_,λr=>?_,.inr ⟨w,rfl,rc,pa,pc,xs,rfl,aO hrc M.bU,hbc.iE<|M.obj _ hrc λh=>G.AO (ty:=128) O _ h hbc.Gb⟩⟩
    .rw[g2 t,bE,nS,IM λp hp=>(hW.b p hp).1,pq];exact⟨λh=>⟨⟨w,h.1⟩,h.2⟩,λh=>⟨h.1.2,h.2⟩⟩
    .rw[g3 r,nS];unfold ofR;rw[jk w]
 refine aW (λc=>?_) λc=>Y O ⟨nofun,λh=>absurd h.1 N⟩;refine G.qF<|dD (aiD (hv.ex G.ext) 0) ?_;rintro _ H ⟨rfl,rfl⟩;exact Y O ⟨λh=>⟨N,h⟩,λh=>h.2⟩
def cof(ho:A.Ok)(ht:A.ty<=65536)(hk:GU F0 H rw' A q ev sv sb)(hF:∀r,F0 r->r<H.bU)(h:Sm S H0 H rp rw' most A z)(hz:ah.h2 A z)(hv:tT H wv h2)(ad:tT H lv V)(hL:Lim A z.long 9223372036854775807)(ac:J z.fr<=8000000)(hB:(yH A h2 z).ht.length<=5592404):
 bQ Pg X 34 [pr rp,dP ⟨[wv,lv,aR ne]⟩] H (Ofd A h2 V z (z.ok&&!ne) H):=by
 have hw:=h.wf;have G:=h_ hw;refine lq [0,1,3,4,5,6,7,8,9,10,11,13,15,62,63,64] ?_;refine G.box O λH1 rw G=>?_;refine G.jP λH2 r4 G=>?_;refine fJ ?_;have w:=G.ext;refine dD (am1 (hd:=hasB h2) ho (hk.stay w nofun) (λr hr=>aO (hF r hr) w.bU) (h.ex w) hz (λQ M r _=>aiD (hv.ex<|w.trans M) r) hL ac hB) ?_;rintro _ H3 ⟨sa,sc,ha,hc,rc,rfl,ag,I,W,U,pa,pc,xs,ab⟩;have G:=G.call ag;refine bM ?_;refine G.oV O O O λH4 r8 G g=>fP (λh=>absurd trivial h) λ_=>?_;have h4:=h.ex G.ext;refine dD (aj5 h4) ?_;rintro _ H4 ⟨rfl,rfl⟩;refine bM ?_
 have N:∀{b:Bool}{E:Rs}{r9:Nat}{Y:R},b=(z.ok&&!ne)->Ext H4 Y->SH [] H Y [(r9,82,[u T 0 0,aR b,u T 0 0,u T 0 0,bG T]),(r8,68,[u sa (yH A h2 z).sp.length sc,aR (yH A h2 z).ok,u ha (yH A h2 z).ht.length hc,B (yH A h2 z).sp.length]),(r4,82,[u T 0 0,aR aA,u T 0 0,u T 0 0,bG T]),(rw,80,[wv,lv,aR ne])]->
  iG Pg X (sub (BG Pg 34) [1,1,1,1]) (ay Pg 34 (Fr.c 0 (pr rp)<|Fr.c 1 (dP ⟨[wv,lv,aR ne]⟩)<|Fr.c 3 (pr rw)<|Fr.c 4 (pr r4)<|Fr.c 5 (vi 0)<|Fr.c 6 (pr r8)<|Fr.c 7 (pr rc)<|Fr.c 8 (vi 0)<|Fr.c 9 (pr r9)<|Fr.c 10 top<|Fr.c 11 top<|Fr.c 13 top<|Fr.c 15 top<|Fr.c 62 top<|Fr.c 63 top<|Fr.c 64 top<|Fr.n) E Y) (jZ Pg [.cell 4 82,.tmp 5]<|Ofd A h2 V z (z.ok&&!ne) H):=λ{b E r9 Y} e d G=>by
  subst e;exact akf ho ht (hk.stay G.ext nofun) h hz hv ad hL hB G ((I.ex g).ex d) ((W.ex g).ex d) ⟨rc,pa,pc,xs,O,aO (aO U g.bU) d.bU,(ab.iE<|g.obj _ U nofun).iE<|d.obj _ (aO U g.bU) nofun⟩
 generalize z.ok=o at N|-;cases o
 .refine fJ ?_;exact G.oV O O O λY r9 G d=>N (b:=aA) O d G
 .refine fJ ?_;exact G.oV O O O λY r9 G d=>N gD d G
end
end Go.Proofs.Lv
namespace Go.Proofs.Lu
namespace Wk
variable{A:At}{z:ah}
def ah.aeN(l:C Int)(z:ah):(z.all A l).long<=z.long+J l:=by
 induction l generalizing z with
 |nil=>exact ax _
 |cons t l d=>
  have I:(z.feed A t).long<=z.long+1:=by
   unfold ah.feed;split
   .exact ax _
   .omega
  have W:=d<|z.feed A t;show((z.feed A t).all A l).long<=_;rw[cO];omega
def agZ(ho:A.Ok){l:C Sp}{t:Int}{ae:Nat}(h:∀p∈l,p.1<A.ns/\p.2<=ae):J (zZ A l t)<=A.ns*(ae+1):=by
 have g:∀(m o:C Sp),o.Nodup->(m.foldl (λo p=>if p∈o then o else o++[p]) o).Nodup:=by
  intro m
  induction m with
  |nil=>exactλo h=>h
  |cons p m I=>
   intro o h;refine I _ ?_;show(if p∈o then o else o++[p]).Nodup;split
   .exact h
   .next d=>exact l8.2 ⟨h,gD,λa ha b r e=>d (by rw[aT]at r;subst r;subst e;exact ha)⟩
 refine IG (g _ _ jg) λq B=>?_;obtain⟨p,d,e,w,_,_,rfl⟩:=YQ B;exact⟨(ho.e _ (h p d).1 e w).1,rX (h p d).2⟩
structure ah.V(A:At)(z:ah):Prop where
 w:ah.h2 A z
 cs:J z.fr<=bnd A z.long
def ah.V.feed(ho:A.Ok)(h:ah.V A z)(t:Int):ah.V A (z.feed A t):=by
 refine⟨h.w.feed ho t,?_⟩;unfold ah.feed;split
 .refine aQ (agZ (ae:=J z.sk) ho h.w.b) ?_;have:=h.w.sk.le;refine aQ ?_<|GN<|jv z.long;exact gM _ N
 .exact h.cs
def ah.V.new(ho:A.Ok):ah.V A (ah.new A):=by
 refine⟨ah.amK ho,?_⟩;have h:=(ho.s 0 ho.pos).1;exact jh (show 1<=A.ns by omega)<|wz<|bD _
def ah.V.all(ho:A.Ok):∀(l:C Int)(z:ah),ah.V A z->ah.V A (z.all A l)
 |[],_,h=>h
 |t::l,z,h=>ah.V.all ho l _<|h.feed ho t
end Wk
end Go.Proofs.Lu
