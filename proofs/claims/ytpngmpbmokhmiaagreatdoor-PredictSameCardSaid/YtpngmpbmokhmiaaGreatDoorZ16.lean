/-
  Part 16 of the proof. No condition.
-/
import Derived.Test.YtpngmpbmokhmiaaGreatDoorZ15
set_option linter.unusedVariables false
set_option linter.unusedSimpArgs false
set_option maxRecDepth 100000
set_option maxHeartbeats 4000000
set_option linter.defProp false
open Option renaming some->Z,none->W
open Bool renaming true->f,false->aA
open Go renaming Value->D,TypeId->aG
open Go.Value renaming slice->T,tuple->Jn
open List.Perm renaming swap->gm
noncomputable section
namespace Go.Proofs.Lv
open Go.Proofs.Lu Go.Proofs.Lu.Wk
open Go.Ae Go.Ae.SH
variable{sb:List Bool}{ta:Option Addr}{F':Nat->Prop}{ai ins outs:List Nat}{L SH:List dJ}{l:List Int}{es k most n rk ro rs rw' tc:Nat}{A:At}{q q':AV}{H C H0:F}{sv v:D}{t:Int}{e ty:aG}{E z:List D}{b:Bool}{s:Sk}
section
variable{S:List Nat}{ax:Nat->Prop}{ev:D}
theorem aky(ho:A.Ok)(hw:Wf H)(hk:zU ax H rw' A q ev sv sb):aJ Pg X 65 [pr rw'] H (Q1 (λv C=>∃q':AV,v=q'.v A/\rX (H.next<=·) C A q') H):=by
 refine ce [0,2] ?_;refine tl ?_;have G:=M.refl hw;refine G.iZ λH1 u G=>?_;have hk1:∀{C},Ext H C->zU ax C rw' A q ev sv sb:=λJ=>hk.stay J λr h=>nomatch h;refine aJ.mono (OM (hk1 G.ext) ho) ?_;rintro _ H1 ⟨rfl,rfl⟩;refine aY ?_;refine ME.rF ((hk1 G.ext).b.read (o:=0) (n:=6) (by rw[aQ];exact nR 6 2)) ?_;refine aJ.mono (w9 G.wf (hk1 G.ext).a ho) ?_;rintro _ H2 ⟨⟨q',rfl,I⟩,J⟩;have hge:=G.ext.next
 have hrg:=(G.lo _<|aL ..).2;have G:=G.call J;have hb:=G.base;refine hb.jE (λH3 rQ=>?_) (by rw[jV];rfl) (by exact aD O) (by rw[jV];rfl)
 have I:=I.stay rQ.ext λr R=>by
  simp only[iA,jy,aO]at R;omega
 have h3:=G.over rQ;refine Lu.rr ?_;refine h3.iK ?_ (by rw[jV];exact aD O);rw[jV];exact⟨⟨q',O,I.wk λr R=>aX hge R⟩,h3.ext⟩
theorem akz(hw:Wf H):aJ Pg X 75 [] H λv C=>∃ai rs,v=pr rs/\V6 ai C rs []/\(∀r∈ai,H.next<=r/\r<C.next)/\Ext H C:=by
 refine ce [0] ?_;refine tl ?_;have G:=M.refl hw;refine PU.of (v:=.agg ⟨[vi (-1),vi 0]⟩) O ?_;refine G.bS O O O (by decide) λH1 rp G=>G.bS O O O (by decide) λH2 ru G=>?_;have g2:=G.ext.next
 refine G.mkMap (e:=pE) Ud λH3 mn hmn hx3 hgn G=>?_;have g3:=G.ext.next
 refine G.mkMap (e:=pE) Ue λH4 ml hml hx4 hgl G=>?_;refine PU.of (v:=.agg ⟨[T (Z ⟨rp,0,W⟩) 1 1,T (Z ⟨ru,0,W⟩) 1 1,.map<|Z mn,.map<|Z ml]⟩) O ?_;have uR:=G;have G:=G.base;refine G.box O λH5 rs G=>?_;have hn5:=(hmn.ex hx4 λh=>nomatch h).ex G.ext<|uR.C6<|hmn.ex hx4 λh=>nomatch h;have hl5:=hml.ex G.ext<|uR.C6 hml;have G:=uR.over G;have hp:M [] H H5 [(rs,128,[T (Z ⟨rp,0,W⟩) 1 1,T (Z ⟨ru,0,W⟩) 1 1,.map<|Z mn,.map<|Z ml]),(rp,161,[vi (-1),vi 0]),(ru,22,[T W 0 0])]:=G.perm<|(gm _ _ _).cons _;obtain⟨_,l1,_⟩:=id hmn;obtain⟨_,l2,_⟩:=id hn5;obtain⟨_,l3,_⟩:=id hl5;refine Lu.rr ?_;refine⟨[mn,ml,rs,rp,ru],rs,O,⟨mn,ml,_,_,[T W 0 0],[(rp,161,_)],[(ru,22,_)],[],hp.base.weaken λr R=>bH _<|bH _ R,.inr ⟨rp,rfl,rfl,rfl⟩,.inr ⟨ru,rfl,rfl,rfl⟩,⟨[],[],rfl,GB.nil _ _,rfl⟩,?_,?_,N,by simp,by simp⟩,λr R=>?_,G.ext⟩
 .simpa [Rj]using hn5
 .simpa [sV]using hl5
 .simp only[bM,dW,iD]at R;rcases R with rfl|rfl|R
  .exact⟨N,l2⟩
  .exact⟨N,l3⟩
  .have R:r∈[(rs,128,[T (Z ⟨rp,0,W⟩) 1 1,T (Z ⟨ru,0,W⟩) 1 1,.map<|Z mn,.map<|Z ml]),(rp,161,[vi (-1),vi 0]),((ru,22,[T W 0 0]):dJ)].map (·.1):=by simpa using R
   obtain⟨e,he,rfl⟩:=bQ.1 R;exact⟨hp.wB he,(hp.lo e he).2⟩
end
section
variable{S:List Nat}{ax:Nat->Prop}{ev:D}
theorem _root_.Go.Ae.M.nsD{m:Nat}{K:D->F->D->F->Prop}(G:M S H0 H L)(hl:(bI v).length=m)(hz:z.length=m)(hk:all' fB (bI v)=f)(kk:∀H1 r H2,M S H0 (hM (hM H H1) H2) ((r,ty,bI v)::L)->Lt H H1=cl 5->H.next<=r->Ext H (hM (hM H H1) H2)->K (.pointer<|Z ⟨r,0,W⟩) H1 undef H2):ME (Go.Ae.iZ ty z<|hN H) λp H1=>ME (Go.Ae.Cq m p v<|hN<|hM H H1) λrg H2=>K p H1 rg H2:=by
 refine(M.refl G.wf).nD λH1 r hO c1=>hO.lW (λH2 hO=>?_) hl N hk;rw[mZ _ _ N]at hO;exact kk H1 r H2 (M.frame (SH:=[]) (L:=L) G hO) c1 (hO.wB<|aL ..) hO.ext
def _root_.Go.Ae.M.bSE{K:D->F->Prop}(G:M S H0 H L)(hz:z.length=es)(hv:pK v=f)(y:(bI v).length=es)(he:es<=16777216)(k:∀H1 r,M S H0 (hM H H1) ((r,e,bI v)::L)->Lt H H1=cl 5->H.next<=r->Ext H (hM H H1)->K (T (Z ⟨r,0,W⟩) 1 1) H1):ME (bS e z es 1 [(0,v)]<|hN H) K:=
 (M.refl G.wf).Qa hz hv y he λH1 r hO c1=>k H1 r (M.frame (SH:=[]) (L:=L) G hO) c1 (hO.wB<|aL ..) hO.ext
def _root_.Go.Ae.M.past(G:M S H0 H L)(J:oz ai H C)(h:∀r∈ai,r∈S\/H0.next<=r)(hd:∀e∈L,e.1∉ai):M S H0 C L:=
 ⟨G.ext.later J h,λe he=>(G.bk e he).jf<|J.obj _ (G.lo e he).2<|hd e he,λe he=>⟨(G.lo e he).1,aP (G.lo e he).2 J.next⟩,G.ne,J.wf G.wf⟩
def Sm(S:List Nat)(H0 H:F)(rp rw' most:Nat)(A:At)(z:ag):Prop:=∃ai rs fv ah sa sc,
 M S H0 H [(rp,92,[pr rw',pr rs,fv,B ah,T sa z.sp.length sc,.bool z.ok,T W 0 0,B z.sp.length,B z.long,B z.st,B most,.bool aA])]/\
 V6 ai H rs z.sk/\(∀r∈ai,(r∈S\/H0.next<=r)/\r<H.next)/\rp∉ai/\i_ (λ_=>True) 86 H sa z.sp.length 2 (GN z.sp)/\fB fv=f
def V6.m{H1:F}(hw:Wf H)(J:oz S (hN H) H1)(h:V6 ai H1 rs s):V6 ai (hM H H1) rs s:=
 let⟨mn,ml,pv,uv,us,gP,gU,hr,h,gp,gu,gR,m,l,r⟩:=h
 ⟨mn,ml,pv,uv,us,gP,gU,hr,⟨oz.refl _ _,λe he=>(h.bk e he).jf O,h.lo,h.ne,J.draw.wf hw⟩,gp,gu,gR,m,l,r⟩
theorem ahN(ho:A.Ok)(hw:Wf H)(hk:zU ax H rw' A q ev sv sb)(hF:∀r,ax r->r<H.next)(hL:Lim A 0 most):
 aJ Pg X 45 [pr rw',B most] H λv C=>∃rp,v=.tuple ⟨[pr rp,vi 0]⟩/\Sm [] H C rp rw' most A (ag.new A):=by
 have hns:0<A.ns:=by have:=(ho.s 0 ho.pos).1;omega
 refine ce [0,1,4,5,6,7,8,9] ?_;refine tl ?_;refine aJ.mono (aky ho hw hk) ?_;rintro _ H1 ⟨⟨q',rfl,Q⟩,J⟩;have G:=(M.refl hw).call J;refine G.ns (by rw[jV];rfl) rfl (by rw[jV];rfl) λH2 ra G hx2=>?_;have G:M [] H H2 [(ra,27,q'.cells A)]:=G;have I:=Q.ex hx2;refine d_ ?_;refine aJ.mono (qP G.wf q' A) ?_;rintro _ H3 ⟨rfl,hx3⟩;have G:=G.call hx3;have h3:=I.ex hx3;have al7:=G.ext.next
 refine aY ?_;refine aC (λh=>absurd h N) λ_=>?_;refine aJ.mono (akz<|nG H3) ?_;rintro _ H4 ⟨ai,rs,rfl,hst,hT,hx4⟩;have hst:=hst.m G.wf hx4;have h4:=(h3.ex hx4.draw);have G:=G.mV hx4;refine d_ ?_;show PU (Ac 1 (T q'.sa A.nr q'.sc)<|B 0) _;refine h4.ahe ho ho.pos λr o=>?_;refine d_ ?_;have hT4:∀r∈ai,(hN<|hM H3 H4).next<=r->False:=λr R h=>absurd (hT r R).2<|eF h
 refine G.bSE O O O (by decide) λH5 rf G c5 hrf hx5=>PU.of (v:=.agg ⟨[pr rw',pr rs,T (Z ⟨rf,0,W⟩) 1 1,vi 1,T W 0 0,.bool aA,T W 0 0,vi 0,vi 0,vi 0,B most,.bool aA]⟩) O<|G.aka O λH6 rp G c6 hx6 hrp=>iB (by simp only[eG,fK hx4,c5,c6];rfl) ?_;have G:M [] H (hM (hM (hM H3 H4) H5) H6) [(rp,92,[pr rw',pr rs,T (Z ⟨rf,0,W⟩) 1 1,vi 1,T W 0 0,.bool aA,T W 0 0,vi 0,vi 0,vi 0,B most,.bool aA]),(rf,86,[B (A.S 0),vi 0]),(ra,27,q'.cells A)]:=G;have hst:=hst.stay (hx5.trans hx6) λr h=>nomatch h;have h4n:=(hx5.trans hx6).next
 have ahO:=hx5.next
 generalize hM (hM (hM H3 H4) H5) H6=H7 at G hst h4n|-;refine d_ ?_;have hge:H.next<=H3.next:=al7
 have h7w:=G.wf;have al8:H.next<=H7.next/\rp<H7.next:=⟨G.ext.next,(G.lo _<|aL ..).2⟩
 have hk7:zU ax (hN H7) rw' A q ev sv sb:=(hk.stay G.ext λr h=>nomatch h).stay (Ext.hN H7) λr h=>nomatch h;have al9:(hM H3 H4).next<=H7.next:=h4n
 have hT7:∀r∈ai,r<(hN H7).next:=λr R=>aP (hT r R).2 al9
 have hTn:∀r∈ai,H.next<=r:=λr R=>aX hge (hT r R).1
 have hff:=i_.one (ax:=(·=rf)) (es:=2) G (n:=1) (show((rf,86,[B (A.S 0),vi 0]):dJ)∈_ by simp) O O;show aJ Pg X 57 [pr rw',pr rs,.slice (Z ⟨rf,0,W⟩) ([(A.S 0,0)]:List Sp).length 1,B 0,T W 0 0,B most] (hN H7) _;refine aJ.mono (OP ho hk7 (λr R=>⟨aP (hF r R) G.ext.next,λh=>absurd (hTn r h)<|dP<|hF r R⟩) (hst.stay (Ext.hN H7) λr h=>nomatch h) hT7 (hff.ex<|Ext.hN H7) (λr R e=>by subst e;exact absurd hrf<|dP (hT _ R).2) (λp hp=>by rw[aO]at hp;subst hp;exact⟨(ho.s 0 ho.pos).1,az _⟩) ⟨jZ,(λe h=>by cases h),λe h=>by cases h⟩ hL<|by simp) ?_;rintro _ H8 ⟨sa,sc,T',rfl,hst',hT',Bw,Ul⟩;refine aY ?_
 have G:M [] H (hM H7 H8) [(rp,92,[pr rw',pr rs,T (Z ⟨rf,0,W⟩) 1 1,vi 1,T W 0 0,.bool aA,T W 0 0,vi 0,vi 0,vi 0,B most,.bool aA])]:=(M.drop (A:=[_,_])<|G.perm<|aF (l₁:=[_])).past Bw.draw (λr R=>.inr<|hTn r R) λe he=>by
  rw[aO.1 he];exactλhm=>absurd (hT _ hm).2<|eF<|aX ahO hrp
 have hst':=hst'.m h7w Bw;have Ul:i_ (λ_=>True) 86 (hM H7 H8) sa _ 2 _:=Ul.wk λ_ _=>trivial;refine G.nsD O O O λH9 rc Dm G c9 hrc BD=>?_;have G:M [] H (hM (hM (hM H7 H8) H9) Dm) [(rc,68,[.slice sa (close A 0 [] [(A.S 0,0)]).sp.length sc,.bool (close A 0 [] [(A.S 0,0)]).ok,T W 0 0,B (close A 0 [] [(A.S 0,0)]).sp.length]),(rp,92,[pr rw',pr rs,T (Z ⟨rf,0,W⟩) 1 1,vi 1,T W 0 0,.bool aA,T W 0 0,vi 0,vi 0,vi 0,B most,.bool aA])]:=G;have n1:rc≠rp:=G.neT;refine splitK (λK hK=>?_) ?_
 .simp only[eG,fT,c9];rcases vP H7 H8 with e|e<;>rw[e]<;>apply lX (a:=rc) (b:=rp) n1 (by intros;rfl) (by kernel_rfl) (by kernel_rfl) hK
 have hst':=hst'.stay BD λr h=>nomatch h;have Ul:=Ul.ex BD
 have hT8:∀r∈T',r<(hM (hM (hM H7 H8) H9) Dm).next/\r∉[rc,rp]/\H.next<=r:=λr R=>by
  have h7:(hN H7).next=H7.next:=rfl
  have h8:=BD.next
  have g8:(hM H7 H8).next=H8.next:=rfl
  obtain⟨g1,g2⟩:=hT' r R;have hrn:=al8;refine⟨N,λh=>?_,g2.elim (hTn r) λg=>by omega⟩;simp only[bM,dW,iD]at h;rcases h with rfl|rfl
  .omega
  .rcases g2 with g2|g2
   .exact absurd (hT _ g2).2<|eF<|aX ahO hrp
   .omega
 generalize hM (hM (hM H7 H8) H9) Dm=OW at G hst' Ul hT8|-;refine aY ?_;refine bT (λh=>absurd trivial h) λ_=>?_;have h11:=G;have G:=G.base;refine d_ ?_;refine G.lW λHn G=>?_;refine G.lW λHn G=>?_;refine splitK (λK hK=>?_) ?_
 .simp only[eG,fT];apply lX (a:=rc) (b:=rp) n1 (by intros;rfl) (by kernel_rfl) (by kernel_rfl) hK
 refine Lu.rr ?_;have R:∀r∈[rc,rp],r∉T':=λr R h=>(hT8 r h).2.1 R;refine⟨rp,O,T',rs,T (Z ⟨rf,0,W⟩) 1 1,1,sa,sc,?_,hst'.stay G.ext R,λr R=>⟨.inr (hT8 r R).2.2,aP (hT8 r R).1 G.ext.next⟩,R rp<|by simp,Ul.stay G.ext λr R=>.inr ?_,rfl⟩
 .have h:=M.drop (A:=[_]) (h11.over G);rw[show(ag.new A).st=(close A 0 [] [(A.S 0,0)]).sp.length from aW _];exact h
 .simp only[iA,jy,bM,dW,iD]at R;rcases R with rfl|rfl
  .exactλht=>absurd (ht.one (h11.get 0 O).HZ) (by decide)
  .exactλht=>absurd (ht.one (h11.get 1 O).HZ) (by decide)
end
section
variable{S:List Nat}{ax:Nat->Prop}{ev:D}{rp:Nat}{z:ag}
def Sm.ex(h:Sm S H0 H rp rw' most A z)(J:Ext H C):Sm S H0 C rp rw' most A z:=
 let⟨ai,rs,fv,ah,sa,sc,G,Q,I,h3,h4,h5⟩:=h
 ⟨ai,rs,fv,ah,sa,sc,G.call J,Q.stay J λr h=>(by cases h),λr R=>⟨(I r R).1,aP (I r R).2 J.next⟩,h3,h4.ex J,h5⟩
def Sm.ext(h:Sm S H0 H rp rw' most A z):oz S H0 H:=let⟨_,_,_,_,_,_,G,_⟩:=h;G.ext
def Sm.wf(h:Sm S H0 H rp rw' most A z):Wf H:=let⟨_,_,_,_,_,_,G,_⟩:=h;G.wf
def V6.cell(h:V6 ai H rs s):∃a c,H.cell rs 0=Z (T a (s.length+1) c):=by
 obtain⟨mn,ml,pv,uv,us,gP,gU,hr,hq,gp,_⟩:=h;obtain⟨pa,pn,pc,rfl,hpn⟩:=gp.T8;simp only[cr,vY,aM]at hpn;obtain rfl:pn=s.length+1:=by omega
 exact⟨_,_,(hq.get 0 O).cell O⟩
def Sm.own(h:Sm S H0 H rp rw' most A z):∃S',(∀r∈S',(r∈S\/H0.next<=r)/\r<H.next)/\∀X C,oz X H C->(∀r∈X,r∉S'/\¬yw H r 86)->Sm S' C C rp rw' most A z:=by
 obtain⟨ai,rs,fv,ah,sa,sc,G,Q,I,h3,h4,h5⟩:=h;have hl:=G.lo _<|aL ..
 refine⟨rp::ai,λr R=>?_,λX C J hX=>⟨ai,rs,fv,ah,sa,sc,⟨oz.refl _ _,λe he=>?_,λe he=>?_,G.ne,J.wf G.wf⟩,Q.stay J λr R ht=>(hX r R).1<|bH _ ht,λr R=>⟨.inl<|bH _ R,aP (I r R).2 J.next⟩,h3,h4.stay J λr R=>.inr (hX r R).2,h5⟩⟩
 .rcases bM.1 R with rfl|R
  .exact hl
  .exact I r R
 .rw[aO.1 he];exact(G.get 0 O).jf<|J.obj _ hl.2 λR=>(hX _ R).1<|aL ..
 .rw[aO.1 he];exact⟨.inl<|aL ..,aP hl.2 J.next⟩
def Rt{E:List D}(hb:H.cell rp 0=Z (pr rw')):aJ Pg X 48 [pr rp] H (Q0 (λv=>v=.bool aA) H):=by
 refine ce [0,2] ?_;refine tl ?_;refine PU.of (v:=.bool aA) (by kernel_rfl) ?_;refine aY ?_;refine ME.ld hb<|PU.of (v:=.bool aA) (by kernel_rfl)<|Lu.rr ?_;exact⟨O,O⟩
def ahP(h:Sm S H0 H rp rw' most A z):aJ Pg X 16 [pr rp] H (Q0 (λv=>v=.bool z.ok) H):=by
 obtain⟨ai,rs,fv,ah,sa,sc,G,Q,I,h3,h4,h5⟩:=h;refine ce [0,2] ?_;refine tl ?_;refine PU.of (v:=.bool f) (by kernel_rfl) ?_;refine aY ?_;refine G.oF<|Lu.rr ?_;exact⟨O,O⟩
theorem acw(ho:A.Ok)(ht:A.ty<=65536)(hk:zU ax H0 rw' A q ev sv sb)(hF:∀r,ax r->r∉S)(h:Sm S H0 H rp rw' most A z)(hz:ag.ak A z)(hb:bnd A z.long<=8000000):
 aJ Pg X 14 [pr rp] H (Q1 (λv C=>Uh (H.next<=·) C v<|wds<|Rp A z.sp) H):=by
 obtain⟨ai,rs,fv,ah,sa,sc,G,Q,I,h3,h4,h5⟩:=h;have hk1:=hk.stay G.ext λr h hf=>hF r hf h;refine ce [0,2] ?_;refine tl ?_;refine aJ.mono (Rt (E:=[])<|(G.get 0 O).cell (o:=0) O) ?_;rintro _ H1 ⟨rfl,rfl⟩;refine d_ ?_;refine aJ.mono (aev ho ht (nG H1) (hk1.stay (Ext.hN H1) λr h=>nomatch h) (h4.ex<|Ext.hN H1) (λp hp=>(hz.b p hp).1)<|aX hz.le hb) ?_;rintro v H2 ⟨⟨r,g1,g2,g3,g4,g5⟩,J⟩;refine iB (by simp only[eG,fK J];rfl) ?_;refine Lu.rr ?_;exact⟨⟨r,g1,g2,g3,g4.jf O,g5⟩,J.draw⟩
theorem ahQ(ho:A.Ok)(ht:A.ty<=65536)(hk:zU ax H0 rw' A q ev sv sb)(hF:∀r,ax r->r<H0.next/\r∉S)(h:Sm S H0 H rp rw' most A z)(hz:ag.ak A z)(hL:Lim A (z.long+1)<|most-z.st)(hst:z.st<=most)(hm:most<=1000000000000000)(hlo:z.long<=100000)(t:Int):
 aJ Pg X 22 [pr rp,vi t] H λv C=>v=.tuple ⟨[.bool (decide<|off A z.sp t),vi 0]⟩/\Sm S H0 C rp rw' most A (z.feed A t):=by
 have hb0:bnd A z.long<=8000000:=aX (GL<|iG _) hL.b;have h0:=h;obtain⟨ai,rs,fv,ah,sa,sc,G,Q,I,h3,h4,h5⟩:=h;refine ce [0,1,4,5,6,7,8,9] ?_;refine tl ?_;refine aJ.mono (Rt (E:=[])<|(G.get 0 O).cell (o:=0) O) ?_;rintro _ H1 ⟨rfl,rfl⟩;refine d_ ?_;refine aJ.mono (acw ho ht hk (λr h=>(hF r h).2) h0 hz hb0) ?_;rintro v H2 ⟨hbv,hx2⟩;have h0:=h0.ex hx2;have G:=G.call hx2;have h4:=h4.ex hx2;have Q:=Q.stay hx2 λr h=>nomatch h;refine aJ.mono (Yo hbv t) ?_;rintro _ H3 ⟨rfl,rfl⟩;rw[acv ho ht (λp hp=>(hz.b p hp).1)];refine aY ?_;refine bT (λy=>?_) λy=>?_
 .refine Lu.rr ?_;rw[dn y,show z.feed A t=z from if_neg y];exact⟨O,h0⟩
 rw[bG y,show z.feed A t=z.on A t from if_pos y];refine G.oF ?_;obtain⟨pa,pc,hcell⟩:=Q.cell;refine aJ.mono (OL hcell) ?_;rintro _ H3 ⟨rfl,rfl⟩;have hk3:∀{C},oz S H0 C->zU ax C rw' A q ev sv sb:=λJ=>hk.stay J λr h hf=>(hF r hf).2 h;have ahR:=hz.sk.le;have hb1:A.ns*(z.sk.length+1)<=8000000:=aX (fP _<|my ahR) hb0;have ama:=aX hz.le hb0;refine d_ ?_;refine aJ.mono (af5 ho (nG H3) (hk3<|G.ext.trans'<|Ext.hN H3) (h4.ex<|Ext.hN H3) (λp hp=>hz.b p hp) hb1 ama) ?_;rintro _ H4 ⟨⟨na,nc,rfl,hnx⟩,hx4⟩;refine iB (by simp only[eG,fK hx4];rfl) ?_;have G:=G.mV hx4;have Q:=Q.stay hx4.draw λr h=>nomatch h;have h4:=h4.ex hx4.draw;have hnx:i_ (H3.next<=·) 86 (hM H3 H4) na _ 2 _:=hnx;have hx34:=hx4.draw.next
 generalize hM H3 H4=H5 at G Q h4 hnx hx34|-;refine d_ ?_;refine PU.of (v:=B<|z.long+1) ((fA N N).trans<|by rw[show((z.long:Int)+1)=((z.long+1:Nat):Int) by omega]) ?_;refine d_ ?_;refine PU.of (v:=B<|most-z.st) ((nW N N).trans<|by rw[show((most:Int)-z.st)=((most-z.st:Nat):Int) by omega]) ?_;have hk5:=hk3<|G.ext.trans'<|Ext.hN H5;have hT0:∀r∈ai,r∈S\/H0.next<=r:=λr R=>(I r R).1
 have hT3:∀r∈ai,r<H3.next:=λr R=>aP (I r R).2 hx2.next
 have hT5:∀r∈ai,r<H5.next:=λr R=>aP (hT3 r R) hx34
 have hnl:(w_ A z.sp t).length<=8000000:=by
  rw[Ui];exact aX (Nh.fold ho _ (λp hp=>hz.b p hp) ⟨jZ,λp h=>nomatch h⟩).le hb1
 have h5n:=G.ext.next
 have ahO:=(G.lo _<|aL ..).2;have h5w:=G.wf;refine aJ.mono (OP (l:=w_ A z.sp t) ho hk5 (λr R=>⟨aP (hF r R).1 h5n,λh=>(hT0 r h).elim (hF r R).2<|dP (hF r R).1⟩) (Q.stay (Ext.hN H5) λr h=>nomatch h) hT5 (hnx.ex<|Ext.hN H5) (λr R=>dP<|hT3 r R) (hz.nx ho t) (hz.sk.up<|iG _) hL hnl) ?_;rintro _ H8 ⟨sa',sc',T',rfl,hst',hT',Bw,Ul⟩;refine aY ?_;have G:=G.past Bw.draw hT0 λe he=>by rw[aO.1 he];exact h3
 have hst':=hst'.m h5w Bw;have Ul:i_ (λ_=>True) 86 (hM H5 H8) sa' _ 2 _:=Ul.wk λ_ _=>trivial;have hzo:z.on A t=ag.of (close A (z.long+1) z.sk<|w_ A z.sp t) (z.long+1) z.st:=rfl;have hyl:=aX (VZ ho (hz.sk.up<|iG _)<|hz.nx ho t).le hL.b;generalize close A (z.long+1) z.sk (w_ A z.sp t)=hc at*;refine G.nsD O O O λH9 rc Dm G c9 hrc BD=>?_;have G:M S H0 (hM (hM (hM H5 H8) H9) Dm) [(rc,68,[T sa' hc.sp.length sc',.bool hc.ok,T W 0 0,B hc.sp.length]),(rp,92,[pr rw',pr rs,fv,B ah,T sa z.sp.length sc,.bool z.ok,T W 0 0,B z.sp.length,B z.long,B z.st,B most,.bool aA])]:=G;have n1:rc≠rp:=G.neT;refine splitK (λK hK=>?_) ?_
 .simp only[eG,fT,c9];rcases vP H5 H8 with e|e<;>rw[e]<;>apply lX (a:=rc) (b:=rp) n1 (by intros;rfl) (by kernel_rfl) (by kernel_rfl) hK
 have hst':=hst'.stay BD λr h=>nomatch h;have Ul:=Ul.ex BD
 have hT8:∀r∈T',r<(hM (hM (hM H5 H8) H9) Dm).next/\r∉[rc,rp]/\(r∈S\/H0.next<=r):=λr R=>by
  have h7:(hN H5).next=H5.next:=rfl
  have h8:=BD.next
  have g8:(hM H5 H8).next=H8.next:=rfl
  obtain⟨g1,g2⟩:=hT' r R;refine⟨N,λh=>?_,g2.elim (hT0 r) λg=>.inr N⟩;simp only[bM,dW,iD]at h;rcases h with rfl|rfl
  .omega
  .rcases g2 with g2|g2
   .exact h3 g2
   .omega
 generalize hM (hM (hM H5 H8) H9) Dm=OW at G hst' Ul hT8|-;refine aY ?_;refine bT (λh=>absurd trivial h) λ_=>?_;have h11:=G;have G:=G.base;refine d_ ?_;refine G.lW λHn G=>?_;refine G.lW λHn G=>?_;refine G.lW λHn G=>?_;refine splitK (λK hK=>?_) ?_
 .simp only[eG,fT];apply lX (a:=rc) (b:=rp) n1 (by intros;rfl) (by kernel_rfl) (by kernel_rfl) hK
 have G:=G.cast (L':=[(rc,68,[T sa' hc.sp.length sc',.bool hc.ok,T W 0 0,B hc.sp.length]),(rp,92,[pr rw',pr rs,.slice na (w_ A z.sp t).length nc,B<|z.sk.length+1,T sa' hc.sp.length sc',.bool hc.ok,T W 0 0,B hc.sp.length,B z.long,B z.st,B most,.bool aA])]) O;refine G.oF ?_;refine PU.of (v:=B<|z.long+1) ((fA N N).trans<|by rw[show((z.long:Int)+1)=((z.long+1:Nat):Int) by omega]) ?_;refine G.jE λHn G=>?_;refine d_ ?_;refine PU.of (v:=B<|z.st+hc.sp.length) ((fA N N).trans<|by rw[show((z.st:Int)+hc.sp.length)=((z.st+hc.sp.length:Nat):Int) by omega]) ?_;refine G.lW λHn G=>?_;refine splitK (λK hK=>?_) ?_
 .simp only[eG,fT];apply lX (a:=rc) (b:=rp) n1 (by intros;rfl) (by kernel_rfl) (by kernel_rfl) hK
 have R:∀r∈[rc,rp],r∉T':=λr R h=>(hT8 r h).2.1 R;refine Lu.rr ?_;rw[hzo];refine⟨O,T',rs,.slice na (w_ A z.sp t).length nc,z.sk.length+1,sa',sc',M.drop (A:=[_])<|h11.over G,hst'.stay G.ext R,λr R=>⟨(hT8 r R).2.2,aP (hT8 r R).1 G.ext.next⟩,R rp<|by simp,Ul.stay G.ext λr R=>.inr ?_,rfl⟩;simp only[iA,jy,bM,dW,iD]at R;rcases R with rfl|rfl
 .exactλht=>absurd (ht.one (h11.get 0 O).HZ) (by decide)
 .exactλht=>absurd (ht.one (h11.get 1 O).HZ) (by decide)
end
section
variable{S:List Nat}{ax:Nat->Prop}{ev:D}{rp:Nat}{z:ag}
abbrev AA:D:=T W 0 0
def Kp(H0 H:F)(rk rs ro rp rw' most:Nat)(A:At)(z:ag)(ins outs:List Nat):Prop:=∃S v w g g',
 Sm S H H rp rw' most A z/\(∀r∈S,H0.next<=r/\r<H.next)/\M [] H0 H ((rk,43,[v,w])::(rs,44,[pr rp])::(ro,43,[AA,AA])::(g++g'))/\
 (∀e∈((rk,43,[v,w])::(rs,44,[pr rp])::(ro,43,[AA,AA])::(g++g'):List dJ),e.1∉S)/\GB 3 1 v (fG ins) g/\GB 3 1 w (fG outs) g'
def akA(ho:A.Ok)(ht:A.ty<=65536)(hk:zU ax H0 rw' A q ev sv sb)(hF:∀r,ax r->r<H0.next)(h:Kp H0 H rk rs ro rp rw' most A z ins outs)(hz:ag.ak A z)(hL:Lim A (z.long+1)<|most-z.st)(hst:z.st<=most)(hm:most<=1000000000000000)(hlo:z.long<=100000)(hil:ins.length<=1000)(hol:outs.length<=1000)(i:Nat):
 aJ Pg X 46 [B i,vi t,pr rs,pr rk] H λv C=>v=vi 0/\Kp H0 C rk rs ro rp rw' most A (z.feed A t) (if off A z.sp t then ins++[i]else ins) (if off A z.sp t then outs else outs++[i]):=by
 obtain⟨S,v,w,g,g',hsm,hS1,G,hd,hg,hg'⟩:=h;have hkh:zU ax H rw' A q ev sv sb:=hk.stay G.ext λr h=>nomatch h;refine ce [0,1,2,3,6,7,8] ?_;refine tl ?_;refine G.oF ?_;refine aJ.mono (ahQ ho ht hkh (λr R=>⟨aP (hF r R) G.ext.next,λh=>absurd (hS1 r h).1<|dP<|hF r R⟩) hsm hz hL hst hm hlo t) ?_;rintro _ H1 ⟨rfl,akB⟩;have hx1:=akB.ext;obtain⟨S2,hS2,hown⟩:=akB.own;have hk0:=G.ext.next
 have amb:∀e∈((rk,43,[v,w])::(rs,44,[pr rp])::(ro,43,[AA,AA])::(g++g'):List dJ),e.1∉S2:=λe he hm=>(hS2 _ hm).1.elim (hd e he)<|dP (G.lo e he).2;have G:=G.past hx1 (λr R=>.inr (hS1 r R).1) hd;have ahU:∀r∈S2,H0.next<=r/\r<H1.next:=λr R=>⟨(hS2 r R).1.elim (λh=>(hS1 r h).1)<|aX hk0,(hS2 r R).2⟩
 have hgt:∀{es:Nat}{v:D}{E:List D}{gb:List dJ},GB 3 es v E gb->∀e∈gb,e.2.1≠86:=λhg e he=>by
  rcases hg with⟨_,_,rfl⟩|⟨r,n,dY,_,_,rfl⟩
  .cases he
  .rw[aO.1 he];exact show(3:Nat)≠86 by decide
 have hty:∀r∈(((rk,43,[v,w])::(rs,44,[pr rp])::(ro,43,[AA,AA])::(g++g'):List dJ)).map (·.1),r∉S2/\¬yw H1 r 86:=λr R=>by
  obtain⟨e,he,rfl⟩:=bQ.1 R;refine⟨amb e he,λh=>?_⟩;have h:=(G.bk e he).HZ.one h;simp only[bM,bX]at he;rcases he with rfl|rfl|rfl|he|he
  .exact absurd h (show(43:Nat)≠86 by decide)
  .exact absurd h (show(44:Nat)≠86 by decide)
  .exact absurd h (show(43:Nat)≠86 by decide)
  .exact hgt hg e he h
  .exact hgt hg' e he h
 have fin:∀{H3:F}{v' w':D}{g1 g2:List dJ}{i1 o1:List Nat},M ((((rk,43,[v,w])::(rs,44,[pr rp])::(ro,43,[AA,AA])::(g++g'):List dJ)).map (·.1)) H1 H3 ((rk,43,[v',w'])::(rs,44,[pr rp])::(ro,43,[AA,AA])::(g1++g2))->GB 3 1 v' (fG i1) g1->GB 3 1 w' (fG o1) g2->Kp H0 H3 rk rs ro rp rw' most A (z.feed A t) i1 o1:=λrQ Q I=>
  ⟨S2,_,_,_,_,hown _ _ rQ.ext hty,λr R=>⟨(ahU r R).1,aP (ahU r R).2 rQ.ext.next⟩,G.over rQ,λe he hm=>(rQ.lo e he).1.elim (λh=>(hty _ h).1 hm)<|dP (ahU _ hm).2,Q,I⟩
 have hb:=G.base;refine aY ?_;refine bT (λh=>absurd trivial h) λ_=>?_;refine aC (λy=>?_) λy=>?_
 .rw[if_pos y,if_pos y];refine hb.oF<|hg.KU hb O O O (by rw[aM];omega) λq' v' H2 g2 hg2 hS2=>?_;obtain⟨va,vl,vc,rfl⟩:=hg2.sl;refine hS2.jE λH3 rQ=>Lu.rr ?_;exact⟨O,fin rQ (by rw[show fG (ins++[i])=fG ins++[B i]from dG];exact hg2) hg'⟩
 .rw[if_neg y,if_neg y];refine hb.oF<|hg'.KU hb O O O (by rw[aM];omega) λq' v' H2 g2 hg2 hS2=>?_;obtain⟨va,vl,vc,rfl⟩:=hg2.sl;refine hS2.jE λH3 rQ=>Lu.rr ?_;exact⟨O,fin rQ hg (by rw[show fG (outs++[i])=fG outs++[B i]from dG];exact hg2)⟩
end
section
variable{S:List Nat}{ax:Nat->Prop}{ev:D}{rp:Nat}{z:ag}
abbrev ints(l:List Int):List D:=l.map vi
structure Rm(A:At)(n most:Nat):Prop where
 b:bnd A n<=8000000
 s:A.ns*(n+1)<=1000000
 e:(n+1)*bnd A n<=most
 m:most<=1000000000000000
def Rm.lim(h:Rm A n most)(hz:ag.ak A z)(hl:z.long+1<=n):Lim A (z.long+1) (most-z.st)/\z.st<=most:=by
 have Q:bnd A (z.long+1)<=bnd A n:=GL hl;have I:bnd A z.long<=bnd A n:=GL N;have h3:z.st<=n*bnd A n:=aX hz.st<|gN hl I;have h4:=h.e;rw[kJ]at h4;exact⟨⟨N,aX Q h.b,aX (fP _ N) h.s⟩,N⟩
def Rm.akC(h:Rm A n most):Lim A 0 most:=by
 have Q:bnd A 0<=bnd A n:=GL<|bg _;have h4:=h.e;rw[kJ]at h4;exact⟨N,aX Q h.b,aX (fP _ N) h.s⟩
abbrev zk(A:At)(l:List Int):List Bool:=(ag.new A).kept A l
abbrev za(A:At)(l:List Int):ag:=(ag.new A).all A l
def acB:∀(l:List Bool)(k:Nat),(vo b k l).length<=l.length
 |[],_=>az _
 |c::l,k=>by
  have:=acB l<|k+1;show(if c=b then k::vo b (k+1) l else vo b (k+1) l).length<=l.length+1;split
  .exact my this
  .omega
theorem af8(ho:A.Ok)(ht:A.ty<=65536)(hw:Wf H)(hk:zU ax H rw' A q ev sv sb)(hF:∀r,ax r->r<H.next)(hf:i_ F' ty H ta l.length 1<|ints l)(hn:l.length<=1000)(hR:Rm A l.length most):
 aJ Pg X 11 [pr rw',T ta l.length tc,B most] H λv C=>∃rp ia ic oa oc S,v=.tuple ⟨[.agg ⟨[.slice ia (vo f 0<|zk A l).length ic,.slice oa (vo aA 0<|zk A l).length oc]⟩,pr rp,vi 0]⟩/\
  Sm S C C rp rw' most A (za A l)/\(∀r∈S,H.next<=r)/\i_ (H.next<=·) 3 C ia (vo f 0<|zk A l).length 1 (fG<|vo f 0<|zk A l)/\i_ (H.next<=·) 3 C oa (vo aA 0<|zk A l).length 1 (fG<|vo aA 0<|zk A l)/\Ext H C:=by
 refine ce [0,1,2,6,7,8,9,10,11,12,13,14,15,28,29,30] ?_;refine tl ?_;have G:=M.refl hw;refine G.iZ λH1 ro G=>?_;have G:M [] H H1 [(ro,43,[AA,AA])]:=G;have hx1:=G.ext;have hro:=G.lo _<|aL ..
 have hk1:zU ax H1 rw' A q ev sv sb:=hk.stay hx1 λr h=>nomatch h;have hF1:∀r,ax r->r<H1.next:=λr R=>aP (hF r R) hx1.next
 refine aJ.mono (ahN ho G.wf hk1 hF1 hR.akC) ?_;rintro _ H2 ⟨rp,rfl,hsm⟩;have G:=G.call hsm.ext;refine aY ?_;have hO:=M.refl hsm.wf;refine hO.ns O O O λH3 rs hO hx3=>?_;refine bT (λh=>absurd trivial h) λ_=>?_;refine PU.of (v:=.agg ⟨[AA,AA]⟩) O<|hO.ns O O O λH4 rk hO hx4=>?_;have hO:M [] H2 H4 [(rk,43,[AA,AA]),(rs,44,[pr rp])]:=hO;obtain⟨S,hSo,hown⟩:=hsm.own
 have hkp:Kp H H4 rk rs ro rp rw' most A (ag.new A) [] []:=by
  refine⟨S,AA,AA,[],[],hown [] H4 hO.ext (λr h=>nomatch h),λr R=>⟨aX hx1.next ((hSo r R).1.resolve_left λh=>nomatch h),aP (hSo r R).2 hO.ext.next⟩,M.frame (SH:=[]) (L:=[_]) G hO,λe he hm=>?_,GB.nil _ _,GB.nil _ _⟩;have he:e∈[(rk,43,[AA,AA]),(rs,44,[pr rp])]\/e=(ro,43,[AA,AA]):=by simpa [or_assoc]using he
  rcases he with he|rfl
  .exact absurd (hSo _ hm).2<|eF<|hO.wB he
  .exact absurd hro.2<|eF<|(hSo _ hm).1.resolve_left λh=>nomatch h
 have hzW:∀i,ag.ak A (za A<|l.take i):=λi=>ag.af7 ho _ _<|ag.af0 ho;refine lp6 7 8 13 14 15 30 (h2:=λm x7 x8 jF rA lH x30 C=>∃i:Nat,x30=B i/\i+m=l.length/\Kp H C rk rs ro rp rw' most A (za A<|l.take i) (vo f 0<|zk A<|l.take i) (vo aA 0<|zk A<|l.take i)) ?_ l.length ⟨0,rfl,aW _,hkp⟩;clear hkp hO G;rintro m x7 x8 jF rA lH x30 u H5 ⟨i,rfl,him,hkp⟩;refine tp ?_;refine aC (λy=>?_) λy=>?_;rotate_left
 .rw[cK N]at hkp;obtain⟨S,v,w,g,g',hsm,hS1,G,hd,hg,hg'⟩:=hkp;obtain⟨ia,n1,ic,rfl,hn1,hf1⟩:=hg.Jc (ax:=(H.next<=·)) (G.perm<|iE [_,_,_] g g') λe he=>G.wB (by simp[he]);obtain⟨oa,n2,oc,rfl,hn2,hf2⟩:=hg'.Jc (ax:=(H.next<=·)) (G.perm<|aF (l₁:=_::_::_::g)) λe he=>G.wB (by simp[he]);rw[aM,dz]at hn1 hn2;subst hn1 hn2;have m1:rk≠rs:=G.neT;have m2:rk≠ro:=G.nq 0 2 O O N;have m3:rs≠ro:=G.neT;have hr1:M [] H H5 [(ro,43,[AA,AA])]:=⟨G.ext,λe he=>G.bk e (by rw[aO.1 he];simp),λe he=>G.lo e (by rw[aO.1 he];simp),iQ _ _,G.wf⟩;have h5:=G;have G:=M.refl h5.wf;refine tl ?_;refine h5.Vd ?_;refine G.kK ?_;refine h5.Qg ?_;refine G.kK ?_;refine hr1.base.lW λH6 h6=>?_;refine splitK (λK hK=>?_) ?_
  .simp only[eG,fT];apply xS (a:=rk) (b:=rs) (c:=ro) m1 m2 m3 (by intros;rfl) (by kernel_rfl) (by kernel_rfl) hK
  have hr6:=hr1.over h6;have hty:=(hr1.get 0 O).HZ;refine Lu.rr ?_;refine hr6.iK ?_;obtain⟨S2,g1,g2⟩:=hsm.own
  have hnr:∀r∈[(ro,43,([AA,AA]:List D))].map (·.1),∀{ty:aG},ty≠43->¬yw H5 r ty:=λr R ty hne ht=>by
   rw[aO.1 (show r∈[ro]from R)]at ht;exact hne<|ht.one hty
  refine⟨rp,ia,ic,oa,oc,S2,O,g2 _ _ h6.ext λr R=>⟨λhm=>?_,hnr r R<|by decide⟩,λr R=>(g1 r R).1.elim (λh=>(hS1 r h).1)<|aX h5.ext.next,hf1.stay h6.ext λr R=>.inr<|hnr r R<|by decide,hf2.stay h6.ext λr R=>.inr<|hnr r R<|by decide,hr6.ext⟩;rw[aO.1 (show r∈[ro]from R)]at hm;exact(g1 ro hm).1.elim (hd (ro,43,[AA,AA])<|by simp)<|dP (hr1.lo _<|aL ..).2
 have hil:i<l.length:=by omega
 obtain⟨_,_,_,_,_,_,_,hS0,_⟩:=id hkp;refine(hf.ex hS0.ext).ix (v:=vi l[i]) hil (by rw[bD,au hil];rfl) λ_=>?_;show aJ Pg X 46 [B i,vi l[i],pr rs,pr rk] H5 _
 have hlong:(za A<|l.take i).long<=i:=by
  have:=ag.ahS (A:=A) (l.take i)<|ag.new A;rw[eH]at this;have e:(ag.new A).long=0:=rfl;unfold za;omega
 have hiz:∀b,(vo b 0<|zk A<|l.take i).length<=1000:=λb=>by
  have:=acB (b:=b) (zk A<|l.take i) 0;rw[ag.C5,eH]at this;omega
 obtain⟨hL,hst⟩:=hR.lim (hzW i) N;have e0:l.take (i+1)=l.take i++[l[i]]:=by rw[eO,au hil];rfl
 have e1:za A (l.take<|i+1)=(za A<|l.take i).feed A l[i]:=by rw[e0];exact ag.ace _ _ _
 have e2:∀b,vo b 0 (zk A<|l.take<|i+1)=if decide (off A (za A<|l.take i).sp l[i])=b then vo b 0 (zk A<|l.take i)++[i]else vo b 0 (zk A<|l.take i):=λb=>by
  unfold zk za;rw[e0,ag.GI,V',ag.C5,eH,iT N,aW];show _++(if _=b then i::[]else[])=_;split<;>simp
 refine aJ.mono (akA ho ht hk hF hkp (hzW i) hL hst hR.m N (hiz f) (hiz aA) i) ?_;rintro _ H6 ⟨rfl,hkp⟩;refine aY ?_;refine bT (λh=>absurd trivial h) λ_=>?_;refine dU ?_;refine⟨l.length-(i+1),N,_,_,_,_,_,_,_,_,O,i+1,nX,N,?_⟩;rw[e1,e2,e2]
 by_cases h:off A (za A<|l.take i).sp l[i]
 .rw[if_pos h,if_pos h]at hkp;rw[bG h];exact hkp
 .rw[if_neg h,if_neg h]at hkp;rw[dn h];exact hkp
end
section
variable{S:List Nat}{ax:Nat->Prop}{ev:D}
def aew(ho:A.Ok)(ht:A.ty<=65536)(hw:Wf H)(hk:zU ax H rw' A q ev sv sb)(hF:∀r,ax r->r<H.next)(hf:i_ F' ty H ta l.length 1<|ints l)(hn:l.length<=1000)(hR:Rm A l.length most):
 aJ Pg X 17 [pr rw',T ta l.length tc,B most] H (Q1 (λv C=>v=.tuple ⟨[.bool (decide<|vo aA 0 (zk A l)=[]),vi 0]⟩) H):=by
 refine ce [0,1,2,6,7,8,10] ?_;refine tl ?_;refine aJ.mono (af8 ho ht hw hk hF hf hn hR) ?_;rintro _ H1 ⟨rp,ia,ic,oa,oc,S,rfl,hsm,hS1,hf1,hf2,J⟩;refine aY ?_;have G:=(M.refl hw).call J;refine G.ns O O O λH2 rk G hx2=>?_;refine G.kK ?_;refine aC (λ_=>?_) λh=>absurd trivial h;refine d_ ?_;refine Lu.rr ?_;refine⟨?_,G.ext⟩;show Jn ⟨[.bool (decide<|((vo aA 0<|zk A l).length:Int)=0),vi 0]⟩=_;have e:((((vo aA 0<|zk A l).length:Int)=0)<->(vo aA 0 (zk A l)=[])):=by simp
 simp only[e]
def Yq(ho:A.Ok)(ht:A.ty<=65536)(hw:Wf H)(hk:zU ax H rw' A q ev sv sb)(hF:∀r,ax r->r<H.next)(hf:i_ F' ty H ta l.length 1<|ints l)(hn:l.length<=1000)(hR:Rm A l.length most):
 aJ Pg X 32 [pr rw',T ta l.length tc,B most] H (Q1 (λv C=>v=.tuple ⟨[.bool (decide (vo aA 0 (zk A l)=[])&&(za A l).ok),vi 0]⟩) H):=by
 refine ce [0,1,2,6,7,8,9,10] ?_;refine tl ?_;refine aJ.mono (af8 ho ht hw hk hF hf hn hR) ?_;rintro _ H1 ⟨rp,ia,ic,oa,oc,S,rfl,hsm,hS1,hf1,hf2,J⟩;refine aY ?_;have G:=(M.refl hw).call J;refine G.ns O O O λH2 rk G hx2=>?_;refine G.kK ?_;refine aC (λ_=>?_) λh=>absurd trivial h;refine d_ ?_;refine aC (λh=>?_) λh=>?_
 .refine aJ.mono (ahP<|hsm.ex hx2) ?_;rintro _ H3 ⟨rfl,rfl⟩;refine Lu.rr ?_;rw[bG (by simpa using h)];exact⟨by simp,G.ext⟩
 .refine Lu.rr ?_;rw[dn (by simpa using h)];exact⟨O,G.ext⟩
end
section
variable{S:List Nat}{ax:Nat->Prop}{ev:D}
def acC(n:Nat):O6 f [B n,.int .i64 0]=Z (B n):=by
 show O6 f [.int .i64 n,.int .i64 0]=_;rw[max2,show max (n:Int) 0=n by omega]
def ahb(A:At)(whole:Bool)(z:ag)(l:List Int):Bool:=match ahz A z l with
 |none=>aA
 |some z=>!whole||z.ok
def ahV(ho:A.Ok)(ht:A.ty<=65536)(hw:Wf H)(hk:zU ax H rw' A q ev sv sb)(hF:∀r,ax r->r<H.next)(hf:i_ F' ty H ta l.length 1<|ints l)(hn:l.length<=1000)(hR:Rm A l.length most)(whole:Bool):
 aJ Pg X 66 [pr rw',.agg ⟨[B (A.S 0),AA]⟩,T ta l.length tc,.bool whole,B most] H (Q1 (λv C=>v=.tuple ⟨[.bool (ahb A whole (ag.new A) l),vi 0]⟩) H):=by
 have hm:=hR.m;have hk1:∀{C},Ext H C->zU ax C rw' A q ev sv sb:=λJ=>hk.stay J λr h=>nomatch h;refine ce [0,1,2,3,4,6,10,11,12,13,14,16,17,20,21,22,23,25,26,29,30,31,70,71,72] ?_;refine tl ?_;have G:=M.refl hw;refine G.box O λH1 rb G=>?_;have G:M [] H H1 [(rb,76,[B (A.S 0),AA])]:=G;have hx1:=G.ext;have hrb:=G.lo _<|aL ..
 refine aJ.mono (akz G.wf) ?_;rintro _ H2 ⟨ai,rs,rfl,hst,hT,hx2⟩;have G:=G.call hx2;refine d_ ?_;refine lp8 10 11 13 14 16 17 20 31 (h2:=λm jh iL jF rA pz zF x20 x31 C=>m=0/\jF=vi 0/\rA=vi 0/\x31=vi 0/\C=H2) ?_ 0 ⟨rfl,rfl,rfl,rfl,rfl⟩;rintro m jh iL jF rA pz zF x20 x31 u Hq ⟨rfl,rfl,rfl,rfl,rfl⟩;refine tp ?_;refine aC (λh=>absurd h<|by decide) λ_=>?_;refine tl<|PU.of (v:=B most) (acC most) ?_;refine d_ ?_;have g2:=G.ext.next
 have hwq:=G.wf;refine(M.refl hwq).bS O O O (by decide) λH3 rf hO=>?_;have hrf:=hO.wB<|aL ..
 have G:=M.frame (SH:=[]) G hO;have G:M [] H H3 [(rf,86,[B (A.S 0),vi 0]),(rb,76,[B (A.S 0),AA])]:=G;have g3:=G.ext.next
 have hst:=hst.stay hO.ext λr h=>nomatch h;have hff:=i_.one (ax:=(·=rf)) (es:=2) G (n:=1) (aL ..) O O;have hTn:∀r∈ai,H.next<=r:=λr R=>aX hx1.next (hT r R).1
 have hT3:∀r∈ai,r<H3.next:=λr R=>aP (hT r R).2 hO.ext.next
 have hTb:∀r∈ai,r≠rb:=λr R e=>by subst e;exact absurd hrb.2<|eF (hT _ R).1
 show aJ Pg X 57 [pr rw',pr rs,.slice (Z ⟨rf,0,W⟩) ([(A.S 0,0)]:List Sp).length 1,B 0,T W 0 0,B most] H3 _;refine aJ.mono (OP ho (hk1 G.ext) (λr R=>⟨aP (hF r R) G.ext.next,λh=>absurd (hTn r h)<|dP<|hF r R⟩) hst hT3 hff (λr R e=>by subst e;exact absurd hrf<|dP (hT _ R).2) (λp hp=>by rw[aO]at hp;subst hp;exact⟨(ho.s 0 ho.pos).1,az _⟩) ⟨jZ,(λe h=>by cases h),λe h=>by cases h⟩ hR.akC<|by simp) ?_;rintro _ H4 ⟨sa,sc,T',rfl,hst',hT',hx4,hf4⟩;refine aY ?_;have G:M [] H H4 [(rb,76,[B (A.S 0),AA])]:=(M.drop (A:=[_]) G).past hx4 (λr R=>.inr<|hTn r R) λe he hm=>by rw[aO.1 he]at hm;exact hTb _ hm O
 have hSr:=G.lo _<|aL ..
 have hO:=M.refl G.wf;refine hO.ns O O O λH5 rc hO hx5=>bT (λh=>absurd trivial h) λ_=>?_;have G:=M.drop (A:=[_])<|(M.frame (SH:=[]) G hO).perm<|aF (l₁:=[_]);have G:M [] H H5 [(rc,68,[.slice sa (close A 0 [] [(A.S 0,0)]).sp.length sc,.bool (close A 0 [] [(A.S 0,0)]).ok,AA,B (close A 0 [] [(A.S 0,0)]).sp.length])]:=G;have hrc:=hO.wB<|aL ..
 have hz0:(ag.new A).st=(ag.new A).sp.length:=aW _;refine lp8 10 11 14 21 23 25 26 72 (h2:=λm jh iL rA v_ xM x25 XA x72 C=>∃(i:Nat)(z:ag)(ai:List Nat)(sa:Option Addr)(sc:Nat),rA=B z.long/\v_=B (most-(z.st-z.sp.length))/\x72=B i/\i+m=l.length/\ahz A z (l.drop i)=ahz A (ag.new A) l/\ag.ak A z/\z.long=i/\z.sp.length<=z.st/\M [] H C [(rc,68,[T sa z.sp.length sc,.bool z.ok,AA,B z.sp.length])]/\V6 ai C rs z.sk/\(∀r∈ai,H.next<=r/\r<C.next)/\rc∉ai/\i_ (λ_=>True) 86 C sa z.sp.length 2 (GN z.sp)) ?_ l.length ⟨0,ag.new A,T',sa,sc,rfl,by rw[hz0,ja];rfl,rfl,aW _,rfl,ag.af0 ho,rfl,rH hz0.symm,G,hst'.stay hx5 (λr h=>by cases h),λr R=>⟨(hT' r R).2.elim (hTn r)<|aX g3,aP (hT' r R).1 hx5.next⟩,λh=>absurd (hT' _ h).1<|eF hrc,(hf4.wk λ_ _=>trivial).ex hx5⟩;clear G hO;rintro m jh iL rA v_ xM x25 XA x72 rg2 H6 ⟨i,z,ai,sa,sc,rfl,rfl,rfl,him,hah,hz,hzl,hzs,G,hst,hT,akD,hsp⟩;refine tp ?_;refine aC (λy=>?_) λy=>?_;rotate_left
 .have e:ahb A whole (ag.new A) l=(!whole||z.ok):=by unfold ahb;rw[<-hah,List.drop_eq_nil_of_le N];rfl
  refine tp ?_;cases whole with
  |false=>
   refine dL (λ_=>?_) (λh=>by cases h);refine Lu.rr ?_;exact⟨by rw[e];rfl,G.ext⟩
  |true=>
   refine dL (λh=>by cases h) λ_=>?_;refine G.oF<|Lu.rr ?_;exact⟨by rw[e];rfl,G.ext⟩
 have hil:i<l.length:=by omega
 refine(hf.ex G.ext).ix (v:=vi l[i]) hil (by rw[bD,au hil];rfl) λ_=>?_;have hd:l.drop i=l[i]::l.drop (i+1):=dN hil;rw[hd]at hah;generalize l[i]=t at hah|-;have hbb:bnd A z.long<=8000000:=aX (GL N) hR.b;have ahR:=hz.sk.le;have hb1:A.ns*(z.sk.length+1)<=8000000:=aX (fP _<|my ahR) hbb;obtain⟨hL,amN⟩:=hR.lim hz N;refine G.iK ?_;refine aJ.mono (af5 ho G.wf (hk1 G.ext) hsp (λp hp=>hz.b p hp) hb1<|aX hz.le hbb) ?_;rintro _ H7 ⟨⟨na,nc,rfl,hnx⟩,hx7⟩;have G:=G.call hx7;have hst:=hst.stay hx7 λr h=>nomatch h;refine aY ?_;refine aC (λy=>?_) λy=>?_
 .have e:ahb A whole (ag.new A) l=aA:=by
   unfold ahb;rw[<-hah,show ahz A z (t::l.drop (i+1))=W from if_pos<|dK.1 N]
  refine Lu.rr ?_;exact⟨by rw[e],G.ext⟩
 have hah:ahz A (z.on A t) (l.drop<|i+1)=ahz A (ag.new A) l:=by
  rw[<-hah];exact(if_neg λh=>y (by rw[h];rfl)).symm
 refine G.oF ?_;refine PU.of (v:=B<|most-z.st) ((nW N N).trans<|by rw[show(((most-(z.st-z.sp.length):Nat):Int)-z.sp.length)=((most-z.st:Nat):Int) by omega]) ?_;refine PU.of (v:=B<|z.long+1) ((fA N N).trans<|by rw[show((z.long:Int)+1)=((z.long+1:Nat):Int) by omega]) ?_
 have hnl:(w_ A z.sp t).length<=8000000:=by
  rw[Ui];exact aX (Nh.fold ho _ (λp hp=>hz.b p hp) ⟨jZ,λp h=>nomatch h⟩).le hb1
 refine aJ.mono (OP (l:=w_ A z.sp t) ho (hk1 G.ext) (λr R=>⟨aP (hF r R) G.ext.next,λh=>absurd (hT r h).1<|dP<|hF r R⟩) hst (λr R=>aP (hT r R).2 hx7.next) hnx (λr R=>dP (hT r R).2) (hz.nx ho t) (hz.sk.up<|iG _) hL hnl) ?_;rintro _ H8 ⟨sa',sc',T',rfl,hst',hT',Bw,Ul⟩;have hzo:z.on A t=ag.of (close A (z.long+1) z.sk<|w_ A z.sp t) (z.long+1) z.st:=rfl;have hzW:=hz.on ho t;have h7n:=G.ext.next
 have amc:=(G.lo _<|aL ..).2;have G:=G.past Bw (λr R=>.inr (hT r R).1) λe he=>by rw[aO.1 he];exact akD
 have af9:rc∉T':=λh=>(hT' rc h).2.elim akD<|dP amc;generalize close A (z.long+1) z.sk (w_ A z.sp t)=hc at*;have h8:=G;have hty:=(G.get 0 O).HZ;have G:=G.base;refine G.kK ?_;refine G.jE λHn G=>bT (λh=>absurd trivial h) λ_=>?_;refine dU ?_;refine⟨l.length-(i+1),N,_,_,_,_,_,_,_,_,_,_,O,i+1,z.on A t,T',sa',sc',?_⟩;rw[hzo]at hah hzW|-;refine⟨O,by rw[show(ag.of hc (z.long+1) z.st).st-(ag.of hc (z.long+1) z.st).sp.length=z.st from kW _ _],nX,N,hah,hzW,by show z.long+1=i+1;omega,Nat.le_add_left _ _,h8.over G,hst'.stay G.ext λr R hm=>af9 (by rw[<-aO.1 (show r∈[rc]from R)];exact hm),λr R=>⟨(hT' r R).2.elim (λh=>(hT r h).1)<|aX h7n,aP (hT' r R).1 G.ext.next⟩,af9,(Ul.wk λ_ _=>trivial).stay G.ext λr R=>.inr ?_⟩;rw[aO.1 (show r∈[rc]from R)];exactλh=>absurd (h.one hty) (show(86:Nat)≠68 by decide)
end
section
variable{S:List Nat}{ax:Nat->Prop}{ev:D}
def ahW(ho:A.Ok)(hw:Wf H):aJ Pg X 64 [pr rw',q.v A,.agg ⟨[B (A.S 0),AA]⟩] H (Q1 (λv _=>v=vi 0) H):=by
 have hs0:=(ho.s 0 ho.pos).1;refine ce [0,1,2,4,5,6,8,27,28,29] ?_;refine tl ?_;have G:=M.refl hw;refine G.box O λH1 ra G=>?_;refine G.box O λH2 rx G=>?_;have G:M [] H H2 [(rx,76,[B (A.S 0),AA]),(ra,27,q.cells A)]:=G;refine PU.of (v:=.bool aA) (by kernel_rfl)<|d_ ?_;refine aJ.mono (qP G.wf q A) ?_;rintro _ H3 ⟨rfl,hx3⟩;have G:=G.call hx3;refine aY ?_;refine aC (λh=>absurd h N) λ_=>?_;refine tm ?_;refine aC (λh=>absurd h N) λ_=>?_;refine d_ ?_;refine aJ.mono (qP (nG _) q A) ?_;rintro _ H4 ⟨rfl,hx4⟩;have G:=G.mV hx4;refine aY ?_;refine iB (by simp only[eG,fK hx4];rfl) ?_;refine aC (λh=>absurd h N) λ_=>?_;refine tl ?_;generalize hM H3 H4=H5 at G|-;refine d_ ?_;refine lp2 8 29 (h2:=λm x8 x29 C=>x29=vi 0/\C=H5) ?_ 0 ⟨rfl,rfl⟩;rintro m x8 x29 u Hq ⟨rfl,rfl⟩;refine tp ?_;refine aC (λh=>absurd h<|by decide) λ_=>?_;refine tl<|Lu.rr ?_;exact⟨O,G.ext⟩
def Um(ho:A.Ok)(ht:A.ty<=65536)(hw:Wf H)(hk:zU ax H rw' A q ev sv sb)(hF:∀r,ax r->r<H.next)(hf:i_ F' ty H ta l.length 1<|ints l)(hn:l.length<=1000)(hR:Rm A l.length most)(whole:Bool):
 aJ Pg X 31 [pr rw',.agg ⟨[B (A.S 0),AA]⟩,T ta l.length tc,.bool whole,B most] H (Q1 (λv C=>v=.tuple ⟨[.bool (ahb A whole (ag.new A) l),vi 0]⟩) H):=by
 have hk1:∀{C},Ext H C->zU ax C rw' A q ev sv sb:=λJ=>hk.stay J λr h=>nomatch h;refine ce [0,1,2,3,4,6,10,11,12] ?_;refine tl ?_;have G:=M.refl hw;refine G.box O λH1 rb G=>?_;have G:M [] H H1 [(rb,76,[B (A.S 0),AA])]:=G;refine aJ.mono (aky ho (nG H1)<|hk1<|G.ext.trans<|Ext.hN H1) ?_;rintro _ H2 ⟨⟨q',rfl,I⟩,hx2⟩;have G:=G.mV hx2;refine d_ ?_;refine aJ.mono (ahW ho<|nG _) ?_;rintro _ H3 ⟨rfl,hx3⟩;have G:=G.mV hx3;refine aY ?_;refine iB (by simp only[eG,fK hx2,fK hx3];rfl) ?_;refine bT (λh=>absurd trivial h) λ_=>?_;generalize hM (hM H1 H2) H3=H4 at G|-;refine G.iK ?_;refine aJ.mono (ahV ho ht G.wf (hk1 G.ext) (λr R=>aP (hF r R) G.ext.next) (hf.ex G.ext) hn hR whole) ?_;rintro _ H5 ⟨rfl,hx5⟩;refine aY ?_;refine Lu.rr ?_;exact⟨O,G.ext.trans hx5⟩
end
section
variable{S:List Nat}{ax:Nat->Prop}{ev:D}
def En(A:At)(n:Nat):Nat:=(2*A.ns+2)*((2*A.ns+2)*(n+2)+1)*(n+2)
def akE(hs:A.ns<=300)(hn:n<=60):(2*A.ns+2)*(n+2)<=37324/\(2*A.ns+2)*((2*A.ns+2)*(n+2)+1)<=22469650/\En A n<=1393118300:=by
 have Q:(2*A.ns+2)*(n+2)<=602*62:=gN N N;have I:(2*A.ns+2)*((2*A.ns+2)*(n+2)+1)<=602*37325:=gN N N;have h3:En A n<=22469650*62:=gN N N;exact⟨N,N,N⟩
def Rm.en(hs:A.ns<=300)(hn:n<=60)(hk:k<=n):Rm A k (En A n):=by
 have Q:A.ns*(k+1)<=300*61:=gN hs N;have I:bnd A k<=300*(300*61+1):=gN hs N;exact⟨N,N,ahT hk,by have:=(akE hs hn).2.2;omega⟩
def mmN(x hc:Nat):O6 b [B x,.int .i64 hc]=Z (B (if b=f then max x hc else min x hc)):=by
 cases b with
 |false=>show O6 aA [.int .i64 x,.int .i64 hc]=_;rw[min2];show _=Z (B<|min x hc);rw[show min (x:Int) hc=((min x hc:Nat):Int) by omega]
 |true=>show O6 f [.int .i64 x,.int .i64 hc]=_;rw[max2];show _=Z (B<|max x hc);rw[show max (x:Int) hc=((max x hc:Nat):Int) by omega]
def aex{s:Nat}(hs:s<=602)(hk:k<=61)(hw:Wf H):aJ Pg X 47 [B s,B k] H (Q0 (λv=>v=B (s*(s*(k+1)+1)*(k+1))) H):=by
 have Q:s*(k+1)<=602*62:=gN N N;have I:s*(s*(k+1)+1)<=602*37325:=gN N N;have h3:s*(s*(k+1)+1)*(k+1)<=22469650*62:=gN N N;refine ce [0,1,4,5,6] ?_;refine tl ?_;refine PU.of (v:=B s) ((mmN s 0).trans<|by rw[if_pos O,uV<|bg _]) ?_;refine PU.of (v:=B s) ((mmN s 32768).trans<|by rw[if_neg (by decide),iT N]) ?_;refine PU.of (v:=B k) ((mmN k 0).trans<|by rw[if_pos O,uV<|bg _]) ?_;refine PU.of (v:=B k) ((mmN k 32768).trans<|by rw[if_neg (by decide),iT N]) ?_;refine PU.of (v:=B<|k+1) (jB 1 O N)<|PU.of (v:=B<|s*(k+1)) (mulN s O N)<|PU.of (v:=B<|s*(k+1)+1) (jB 1 O N)<|PU.of (v:=B<|s*(s*(k+1)+1)) (mulN s O N)<|PU.of (v:=B<|s*(s*(k+1)+1)*(k+1)) (mulN _ O N)<|PU.of (v:=B<|s*(s*(k+1)+1)*(k+1)) ((min2 _ _ _).trans<|by rw[Int.min_eq_left N])<|Lu.rr ?_;exact⟨O,O⟩
def aey(hw:Wf H)(hs:A.ns<=300)(hn:n<=60):aJ Pg X 12 [q.v A,B n] H (Q1 (λv _=>v=B (En A n)) H):=by
 refine ce [0,1,2,4] ?_;refine tl ?_;have G:=M.refl hw;refine G.box O λH1 ra G=>?_;have G:M [] H H1 [(ra,27,q.cells A)]:=G;refine G.iK ?_;refine aJ.mono (qP G.wf q A) ?_;rintro _ H2 ⟨rfl,J⟩;have G:=G.call J;refine PU.of (v:=B<|2*A.ns) (mulN 2 O N)<|PU.of (v:=B<|2*A.ns+2) (jB 2 O N)<|PU.of (v:=B<|n+1) (jB 1 O N)<|aJ.mono (aex N N G.wf) ?_;rintro _ H3 ⟨rfl,rfl⟩;refine Lu.rr ?_;exact⟨O,G.ext⟩
end
end Go.Proofs.Lv
