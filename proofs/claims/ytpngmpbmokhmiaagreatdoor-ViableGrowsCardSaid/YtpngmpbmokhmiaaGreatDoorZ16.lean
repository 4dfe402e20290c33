/-
  Part 16 of the proof. No condition.
-/
import Derived.Test.YtpngmpbmokhmiaaGreatDoorZ15
set_option linter.unusedVariables false
set_option linter.unusedSimpArgs false
set_option maxRecDepth 100000
set_option maxHeartbeats 4000000
set_option linter.defProp false
open Option renaming some->D,none->Q
open Bool renaming true->f,false->aC
open Go renaming Value->Z,TypeId->aH
open Go.Value renaming slice->I
open List.Perm renaming swap->gq
noncomputable section
namespace Go.Proofs.Lv
open Go.Proofs.Lu Go.Proofs.Lu.Wk
open Go.Ae Go.Ae.cs
variable{sb:C Bool}{F':Nat->Prop}{H' ins outs:C Nat}{es k most n rk ro rs rw' tc:Nat}{L cs:C dL}{A:At}{q q':AV}{ta:aB Addr}{H T H0:R}{sv v:Z}{l:C Int}{t:Int}{e ty:aH}{z:ae}{b:Bool}{s:Sk}
section
variable{S:C Nat}{SH:Nat->Prop}{ev:Z}
theorem alf(ho:A.Ok)(hw:Wf H)(hk:Bh SH H rw' A q ev sv sb):aO Pg X 65 [pr rw'] H (Q1 (λv T=>∃q':AV,v=q'.v A/\sQ (H.next<=·) T A q') H):=by
 refine jS [0,2] ?_;have G:=F.refl hw;refine G.iX λH1 u G=>?_;have hk1:∀{T},Ext H T->Bh SH T rw' A q ev sv sb:=λE=>hk.stay E nofun;refine aO.mono (LH (hk1 G.ext) ho) ?_;rintro _ H1 ⟨rfl,rfl⟩;refine bG ?_;refine ME.rZ ((hk1 G.ext).b.read (o:=0) (n:=6) (by rw[aQ];exact om 6 2)) ?_;refine aO.mono (xL G.wf (hk1 G.ext).a ho) ?_;rintro _ H2 ⟨⟨q',rfl,J⟩,E⟩;have hge:=G.ext.next
 have hrg:=(G.lo _<|aN ..).2;have G:=G.call E;have hb:=G.base;refine hb.jH (λH3 sG=>?_) (by rw[jM];rfl) (by exact aF O) (by rw[jM];rfl)
 have J:=J.stay sG.ext λr y=>by
  simp only[iC,jF,aP]at y;omega
 have h3:=G.over sG;refine Lu.rr ?_;refine h3.iI ?_ (by rw[jM];exact aF O);rw[jM];exact⟨⟨q',O,J.wk λr y=>a_ hge y⟩,h3.ext⟩
theorem alg(hw:Wf H):aO Pg X 75 [] H λv T=>∃H' rs,v=pr rs/\UX H' T rs []/\(∀r∈H',H.next<=r/\r<T.next)/\Ext H T:=by
 refine jS [0] ?_;have G:=F.refl hw;refine PU.of (v:=.agg ⟨[vi (-1),vi 0]⟩) O ?_;refine G.bS O O O mO λH1 rp G=>G.bS O O O mO λH2 ru G=>?_;have g2:=G.ext.next
 refine G.mkMap (e:=pE) UR λH3 mn hmn hx3 hgn G=>?_;have g3:=G.ext.next
 refine G.mkMap (e:=pE) US λH4 ml hml hx4 hgl G=>?_;refine PU.of (v:=.agg ⟨[I (D ⟨rp,0,Q⟩) 1 1,I (D ⟨ru,0,Q⟩) 1 1,.map<|D mn,.map<|D ml]⟩) O ?_;have vJ:=G;have G:=G.base;refine G.box O λH5 rs G=>?_;have hn5:=(hmn.ex hx4 nofun).ex G.ext<|vJ.Dv<|hmn.ex hx4 nofun;have hl5:=hml.ex G.ext<|vJ.Dv hml;have G:=vJ.over G;have hp:F [] H H5 [(rs,128,[I (D ⟨rp,0,Q⟩) 1 1,I (D ⟨ru,0,Q⟩) 1 1,.map<|D mn,.map<|D ml]),(rp,161,[vi (-1),vi 0]),(ru,22,[I Q 0 0])]:=G.perm<|(gq _ _ _).cons _;have⟨_,l1,_⟩:=id hmn;have⟨_,l2,_⟩:=id hn5;have⟨_,l3,_⟩:=id hl5;refine Lu.rr ?_;refine⟨[mn,ml,rs,rp,ru],rs,O,⟨mn,ml,_,_,[I Q 0 0],[(rp,161,_)],[(ru,22,_)],[],hp.base.weaken λr y=>bH _<|bH _ y,.inr ⟨rp,rfl,rfl,rfl⟩,.inr ⟨ru,rfl,rfl,rfl⟩,⟨[],[],rfl,GB.nil _ _,rfl⟩,?_,?_,N,by simp,by simp⟩,λr y=>?_,G.ext⟩
 .simpa [R_]using hn5
 .simpa [tZ]using hl5
 .simp only[bP,dX,iF]at y;rcases y with rfl|rfl|y
  .exact⟨N,l2⟩
  .exact⟨N,l3⟩
  .have y:r∈[(rs,128,[I (D ⟨rp,0,Q⟩) 1 1,I (D ⟨ru,0,Q⟩) 1 1,.map<|D mn,.map<|D ml]),(rp,161,[vi (-1),vi 0]),((ru,22,[I Q 0 0]):dL)].map (·.1):=mg y;obtain⟨e,he,rfl⟩:=bQ.1 y;exact⟨hp.wQ he,(hp.lo e he).2⟩
end
section
variable{S:C Nat}{SH:Nat->Prop}{ev:Z}
theorem _root_.Go.Ae.F.nsD{z:C Z}{m:Nat}{K:Z->R->Z->R->Prop}(G:F S H0 H L)(hl:(bK v).length=m)(hz:z.length=m)(hk:all' fC (bK v)=f)(kk:∀H1 r H2,F S H0 (hM (hM H H1) H2) ((r,ty,bK v)::L)->Ml H H1=cl 5->H.next<=r->Ext H (hM (hM H H1) H2)->K (.pointer<|D ⟨r,0,Q⟩) H1 undef H2):ME (Go.Ae.iX ty z<|hN H) λp H1=>ME (Go.Ae.CW m p v<|hN<|hM H H1) λrg H2=>K p H1 rg H2:=by
 refine(F.refl G.wf).nD λH1 r hO c1=>hO.mh (λH2 hO=>?_) hl N hk;rw[nL _ _ N]at hO;exact kk H1 r H2 (F.frame (cs:=[]) (L:=L) G hO) c1 (hO.wQ<|aN ..) hO.ext
def _root_.Go.Ae.F.bSE{K:Z->R->Prop}(G:F S H0 H L){z:C Z}(hz:z.length=es)(hv:pZ v=f)(hc:(bK v).length=es)(he:es<=16777216)(k:∀H1 r,F S H0 (hM H H1) ((r,e,bK v)::L)->Ml H H1=cl 5->H.next<=r->Ext H (hM H H1)->K (I (D ⟨r,0,Q⟩) 1 1) H1):ME (bS e z es 1 [(0,v)]<|hN H) K:=
 (F.refl G.wf).PL hz hv hc he λH1 r hO c1=>k H1 r (F.frame (cs:=[]) (L:=L) G hO) c1 (hO.wQ<|aN ..) hO.ext
def _root_.Go.Ae.F.past(G:F S H0 H L)(E:oN H' H T)(h:∀r∈H',r∈S\/H0.next<=r)(hd:∀e∈L,e.1∉H'):F S H0 T L:=
 ⟨G.ext.later E h,λe he=>(G.bk e he).jb<|E.obj _ (G.lo e he).2<|hd e he,λe he=>⟨(G.lo e he).1,aR (G.lo e he).2 E.next⟩,G.ne,E.wf G.wf⟩
def Sm(S:C Nat)(H0 H:R)(rp rw' most:Nat)(A:At)(z:ae):Prop:=∃H' rs fv ah sa sc,
 F S H0 H [(rp,92,[pr rw',pr rs,fv,B ah,I sa z.sp.length sc,.bool z.ok,I Q 0 0,B z.sp.length,B z.long,B z.st,B most,.bool aC])]/\
 UX H' H rs z.sk/\(∀r∈H',(r∈S\/H0.next<=r)/\r<H.next)/\rp∉H'/\je (λ_=>True) 86 H sa z.sp.length 2 (Hw z.sp)/\fC fv=f
def UX.m{H1:R}(hw:Wf H)(E:oN S (hN H) H1)(h:UX H' H1 rs s):UX H' (hM H H1) rs s:=
 let⟨mn,ml,pv,uv,us,gP,gU,az,h,gp,gu,gR,m,l,r⟩:=h
 ⟨mn,ml,pv,uv,us,gP,gU,az,⟨oN.refl _ _,λe he=>(h.bk e he).jb O,h.lo,h.ne,E.draw.wf hw⟩,gp,gu,gR,m,l,r⟩
theorem ait(ho:A.Ok)(hw:Wf H)(hk:Bh SH H rw' A q ev sv sb)(hF:∀r,SH r->r<H.next)(hL:Lim A 0 most):
 aO Pg X 45 [pr rw',B most] H λv T=>∃rp,v=.tuple ⟨[pr rp,vi 0]⟩/\Sm [] H T rp rw' most A (ae.new A):=by
 have hns:0<A.ns:=by have:=(ho.s 0 ho.pos).1;omega
 refine jS [0,1,4,5,6,7,8,9] ?_;refine aO.mono (alf ho hw hk) ?_;rintro _ H1 ⟨⟨q',rfl,W⟩,E⟩;have G:=(F.refl hw).call E;refine G.ns (by rw[jM];rfl) rfl (by rw[jM];rfl) λH2 ra G hx2=>?_;have G:F [] H H2 [(ra,27,q'.cells A)]:=G;have J:=W.ex hx2;refine eU ?_;refine G.cm (sI G.wf q' A) ?_;rintro _ H3 rfl hx3 G;have h3:=J.ex hx3;have amQ:=G.ext.next
 refine bG ?_;refine aT (λh=>N) λ_=>?_;refine aO.mono (alg<|nS H3) ?_;rintro _ H4 ⟨H',rs,rfl,hst,hT,hx4⟩;have hst:=hst.m G.wf hx4;have h4:=(h3.ex hx4.draw);have G:=G.nH hx4;refine eU ?_;show PU (zN 1 (I q'.sa A.nr q'.sc)<|B 0) _;refine h4.aeJ ho ho.pos λr o=>?_;refine eU ?_;have hT4:∀r∈H',(hN<|hM H3 H4).next<=r->False:=λr y h=>absurd (hT r y).2<|eP h
 refine G.bSE O O O mO λH5 rf G c5 hrf hx5=>PU.of (v:=.agg ⟨[pr rw',pr rs,I (D ⟨rf,0,Q⟩) 1 1,vi 1,I Q 0 0,.bool aC,I Q 0 0,vi 0,vi 0,vi 0,B most,.bool aC]⟩) O<|G.aic O λH6 rp G c6 hx6 hrp=>iD (by simp only[d_,fP hx4,c5,c6];rfl) ?_;have G:F [] H (hM (hM (hM H3 H4) H5) H6) [(rp,92,[pr rw',pr rs,I (D ⟨rf,0,Q⟩) 1 1,vi 1,I Q 0 0,.bool aC,I Q 0 0,vi 0,vi 0,vi 0,B most,.bool aC]),(rf,86,[B (A.S 0),vi 0]),(ra,27,q'.cells A)]:=G;have hst:=hst.stay (hx5.trans hx6) nofun;have h4n:=(hx5.trans hx6).next
 have aiu:=hx5.next
 generalize hM (hM (hM H3 H4) H5) H6=H7 at G hst h4n|-;refine eU ?_;have hge:H.next<=H3.next:=amQ
 have h7w:=G.wf;have amR:H.next<=H7.next/\rp<H7.next:=⟨G.ext.next,(G.lo _<|aN ..).2⟩
 have hk7:Bh SH (hN H7) rw' A q ev sv sb:=(hk.stay G.ext nofun).stay (Ext.hN H7) nofun;have amS:(hM H3 H4).next<=H7.next:=h4n
 have hT7:∀r∈H',r<(hN H7).next:=λr y=>aR (hT r y).2 amS
 have hTn:∀r∈H',H.next<=r:=λr y=>a_ hge (hT r y).1
 have hff:=je.one (SH:=(·=rf)) (es:=2) G (n:=1) (show((rf,86,[B (A.S 0),vi 0]):dL)∈_ by simp) O O;show aO Pg X 57 [pr rw',pr rs,.slice (D ⟨rf,0,Q⟩) ([(A.S 0,0)]:C Sp).length 1,B 0,I Q 0 0,B most] (hN H7) _;refine aO.mono (ac5 ho hk7 (λr y=>⟨aR (hF r y) G.ext.next,λh=>absurd (hTn r h)<|eO<|hF r y⟩) (hst.stay (Ext.hN H7) nofun) hT7 (hff.ex<|Ext.hN H7) (λr y e=>by subst e;exact absurd hrf<|eO (hT _ y).2) (λp hp=>by rw[aP]at hp;subst hp;exact⟨(ho.s 0 ho.pos).1,ax _⟩) ⟨mD,(λe h=>by cases h),λe h=>by cases h⟩ hL kg) ?_;rintro _ H8 ⟨sa,sc,T',rfl,hst',hT',Bg,Y6⟩;refine bG ?_
 have G:F [] H (hM H7 H8) [(rp,92,[pr rw',pr rs,I (D ⟨rf,0,Q⟩) 1 1,vi 1,I Q 0 0,.bool aC,I Q 0 0,vi 0,vi 0,vi 0,B most,.bool aC])]:=(F.drop (A:=[_,_])<|G.perm<|aG (l₁:=[_])).past Bg.draw (λr y=>.inr<|hTn r y) λe he=>by
  rw[aP.1 he];exactλhm=>absurd (hT _ hm).2<|eP<|a_ aiu hrp
 have hst':=hst'.m h7w Bg;have Y6:je (λ_=>True) 86 (hM H7 H8) sa _ 2 _:=Y6.wk λ_ _=>trivial;refine G.nsD O O O λH9 rc Dq G c9 hrc Ap=>?_;have G:F [] H (hM (hM (hM H7 H8) H9) Dq) [(rc,68,[.slice sa (close A 0 [] [(A.S 0,0)]).sp.length sc,.bool (close A 0 [] [(A.S 0,0)]).ok,I Q 0 0,B (close A 0 [] [(A.S 0,0)]).sp.length]),(rp,92,[pr rw',pr rs,I (D ⟨rf,0,Q⟩) 1 1,vi 1,I Q 0 0,.bool aC,I Q 0 0,vi 0,vi 0,vi 0,B most,.bool aC])]:=G;have n1:rc≠rp:=G.neT;refine splitK (λK hK=>?_) ?_
 .simp only[d_,fK,c9];rcases vQ H7 H8 with e|e<;>rw[e]<;>apply lQ (a:=rc) (b:=rp) n1 xN jr jr hK
 have hst':=hst'.stay Ap nofun;have Y6:=Y6.ex Ap
 have hT8:∀r∈T',r<(hM (hM (hM H7 H8) H9) Dq).next/\r∉[rc,rp]/\H.next<=r:=λr y=>by
  have h7:(hN H7).next=H7.next:=rfl
  have h8:=Ap.next
  have g8:(hM H7 H8).next=H8.next:=rfl
  have⟨g1,g2⟩:=hT' r y;have hrn:=amR;refine⟨N,λh=>?_,g2.elim (hTn r) λg=>N⟩;simp only[bP,dX,iF]at h;rcases h with rfl|rfl
  .omega
  .rcases g2 with g2|g2
   .exact absurd (hT _ g2).2<|eP<|a_ aiu hrp
   .omega
 generalize hM (hM (hM H7 H8) H9) Dq=Sn at G hst' Y6 hT8|-;refine bG ?_;refine dN (λh=>absurd trivial h) λ_=>?_;have h11:=G;have G:=G.base;refine eU ?_;refine G.mh λHn G=>?_;refine G.mh λHn G=>?_;refine splitK (λK hK=>?_) ?_
 .simp only[d_,fK];apply lQ (a:=rc) (b:=rp) n1 xN jr jr hK
 refine Lu.rr ?_;have y:∀r∈[rc,rp],r∉T':=λr y h=>(hT8 r h).2.1 y;refine⟨rp,O,T',rs,I (D ⟨rf,0,Q⟩) 1 1,1,sa,sc,?_,hst'.stay G.ext y,λr y=>⟨.inr (hT8 r y).2.2,aR (hT8 r y).1 G.ext.next⟩,y rp kg,Y6.stay G.ext λr y=>.inr ?_,rfl⟩
 .have h:=F.drop (A:=[_]) (h11.over G);rw[show(ae.new A).st=(close A 0 [] [(A.S 0,0)]).sp.length from aY _];exact h
 .simp only[iC,jF,bP,dX,iF]at y;rcases y with rfl|rfl
  .exactλht=>absurd (ht.one (h11.get 0 O).Jc) mO
  .exactλht=>absurd (ht.one (h11.get 1 O).Jc) mO
end
section
variable{S:C Nat}{SH:Nat->Prop}{ev:Z}{rp:Nat}
def Sm.ex(h:Sm S H0 H rp rw' most A z)(E:Ext H T):Sm S H0 T rp rw' most A z:=
 let⟨H',rs,fv,ah,sa,sc,G,W,J,h3,h4,h5⟩:=h
 ⟨H',rs,fv,ah,sa,sc,G.call E,W.stay E λr h=>(by cases h),λr y=>⟨(J r y).1,aR (J r y).2 E.next⟩,h3,h4.ex E,h5⟩
def Sm.ext(h:Sm S H0 H rp rw' most A z):oN S H0 H:=let⟨_,_,_,_,_,_,G,_⟩:=h;G.ext
def Sm.wf(h:Sm S H0 H rp rw' most A z):Wf H:=let⟨_,_,_,_,_,_,G,_⟩:=h;G.wf
def UX.cell(h:UX H' H rs s):∃a c,H.cell rs 0=D (I a (s.length+1) c):=by
 have⟨mn,ml,pv,uv,us,gP,gU,az,hq,gp,_⟩:=h;obtain⟨pa,pn,pc,rfl,hpn⟩:=gp.UK;simp only[cK,wL,aK]at hpn;obtain rfl:pn=s.length+1:=N;exact⟨_,_,(hq.get 0 O).cell O⟩
def Sm.own(h:Sm S H0 H rp rw' most A z):∃S',(∀r∈S',(r∈S\/H0.next<=r)/\r<H.next)/\∀X T,oN X H T->(∀r∈X,r∉S'/\¬yS H r 86)->Sm S' T T rp rw' most A z:=by
 have⟨H',rs,fv,ah,sa,sc,G,W,J,h3,h4,h5⟩:=h;have hl:=G.lo _<|aN ..
 refine⟨rp::H',λr y=>?_,λX T E hX=>⟨H',rs,fv,ah,sa,sc,⟨oN.refl _ _,λe he=>?_,λe he=>?_,G.ne,E.wf G.wf⟩,W.stay E λr y ht=>(hX r y).1<|bH _ ht,λr y=>⟨.inl<|bH _ y,aR (J r y).2 E.next⟩,h3,h4.stay E λr y=>.inr (hX r y).2,h5⟩⟩
 .rcases bP.1 y with rfl|y
  .exact hl
  .exact J r y
 .rw[aP.1 he];exact(G.get 0 O).jb<|E.obj _ hl.2 λy=>(hX _ y).1<|aN ..
 .rw[aP.1 he];exact⟨.inl<|aN ..,aR hl.2 E.next⟩
def Se{M:C Z}(hb:H.cell rp 0=D (pr rw')):aO Pg X 48 [pr rp] H (Q0 (λv=>v=.bool aC) H):=by
 refine jS [0,2] ?_;refine PU.of (v:=.bool aC) jr ?_;refine bG ?_;refine ME.ld hb<|PU.of (v:=.bool aC) jr<|Lu.rr ?_;exact⟨O,O⟩
def ac9(h:Sm S H0 H rp rw' most A z):aO Pg X 16 [pr rp] H (Q0 (λv=>v=.bool z.ok) H):=by
 have⟨H',rs,fv,ah,sa,sc,G,W,J,h3,h4,h5⟩:=h;refine jS [0,2] ?_;refine PU.of (v:=.bool f) jr ?_;refine bG ?_;refine G.pz<|Lu.rr ?_;exact⟨O,O⟩
def smlong(h:Sm S H0 H rp rw' most A z):aO Pg X 18 [pr rp] H (Q0 (λv=>v=B z.long) H):=by
 have⟨H',rs,fv,ah,sa,sc,G,W,J,h3,h4,h5⟩:=h;refine jS [0,2] ?_;refine PU.of (v:=.bool aC) jr ?_;refine bG ?_;apply G.pz;refine Lu.rr ?_;exact⟨O,O⟩
def LM(ho:A.Ok)(ht:A.ty<=65536)(hk:Bh SH H0 rw' A q ev sv sb)(hF:∀r,SH r->r∉S)(h:Sm S H0 H rp rw' most A z)(hz:ae.h1 A z)(hb:bnd A z.long<=8000000):
 aO Pg X 14 [pr rp] H (Q1 (λv T=>Px (H.next<=·) T v<|wds<|Sc A z.sp) H):=by
 have⟨H',rs,fv,ah,sa,sc,G,W,J,h3,h4,h5⟩:=h;have hk1:=hk.stay G.ext λr h hf=>hF r hf h;refine jS [0,2] ?_;refine aO.mono (Se (M:=[])<|(G.get 0 O).cell (o:=0) O) ?_;rintro _ H1 ⟨rfl,rfl⟩;refine eU ?_;refine aO.mono (afa ho ht (nS H1) (hk1.stay (Ext.hN H1) nofun) (h4.ex<|Ext.hN H1) (λp hp=>(hz.b p hp).1)<|a_ hz.le hb) ?_;rintro v H2 ⟨⟨r,g1,g2,g3,g4,g5⟩,E⟩;refine iD (by simp only[d_,fP E];rfl) ?_;refine Lu.rr ?_;exact⟨⟨r,g1,g2,g3,g4.jb O,g5⟩,E.draw⟩
theorem aiv(ho:A.Ok)(ht:A.ty<=65536)(hk:Bh SH H0 rw' A q ev sv sb)(hF:∀r,SH r->r<H0.next/\r∉S)(h:Sm S H0 H rp rw' most A z)(hz:ae.h1 A z)(hL:Lim A (z.long+1)<|most-z.st)(hst:z.st<=most)(hm:most<=1000000000000000)(hlo:z.long<=100000)(t:Int):
 aO Pg X 22 [pr rp,vi t] H λv T=>v=.tuple ⟨[.bool (decide<|off A z.sp t),vi 0]⟩/\Sm S H0 T rp rw' most A (z.feed A t):=by
 have hb0:bnd A z.long<=8000000:=a_ (Hu<|iU _) hL.b;have h0:=h;have⟨H',rs,fv,ah,sa,sc,G,W,J,h3,h4,h5⟩:=h;refine jS [0,1,4,5,6,7,8,9] ?_;refine aO.mono (Se (M:=[])<|(G.get 0 O).cell (o:=0) O) ?_;rintro _ H1 ⟨rfl,rfl⟩;refine eU ?_;refine aO.mono (LM ho ht hk (λr h=>(hF r h).2) h0 hz hb0) ?_;rintro v H2 ⟨hbv,hx2⟩;have h0:=h0.ex hx2;have G:=G.call hx2;have h4:=h4.ex hx2;have W:=W.stay hx2 nofun;refine aO.mono (Y4 hbv t) ?_;rintro _ H3 ⟨rfl,rfl⟩;rw[ac8 ho ht (λp hp=>(hz.b p hp).1)];refine wR (λhc=>?_) λhc=>?_
 .refine Lu.rr ?_;rw[dB hc,show z.feed A t=z from if_neg hc];exact⟨O,h0⟩
 rw[bL hc,show z.feed A t=z.on A t from if_pos hc];apply G.pz;have⟨pa,pc,hcell⟩:=W.cell;refine aO.mono (HV hcell) ?_;rintro _ H3 ⟨rfl,rfl⟩;have hk3:∀{T},oN S H0 T->Bh SH T rw' A q ev sv sb:=λE=>hk.stay E λr h hf=>(hF r hf).2 h;have amT:=hz.sk.le;have hb1:A.ns*(z.sk.length+1)<=8000000:=a_ (gG _<|mK amT) hb0;have amU:=a_ hz.le hb0;refine eU ?_;refine aO.mono (alc ho (nS H3) (hk3<|G.ext.trans'<|Ext.hN H3) (h4.ex<|Ext.hN H3) (λp hp=>hz.b p hp) hb1 amU) ?_;rintro _ H4 ⟨⟨na,nc,rfl,hnx⟩,hx4⟩;refine iD (by simp only[d_,fP hx4];rfl) ?_;have G:=G.nH hx4;have W:=W.stay hx4.draw nofun;have h4:=h4.ex hx4.draw;have hnx:je (H3.next<=·) 86 (hM H3 H4) na _ 2 _:=hnx;have hx34:=hx4.draw.next
 generalize hM H3 H4=H5 at G W h4 hnx hx34|-;refine eU ?_;refine PU.of (v:=B<|z.long+1) ((fD N N).trans<|by rw[show((z.long:Int)+1)=((z.long+1:Nat):Int) by omega]) ?_;refine eU ?_;refine PU.of (v:=B<|most-z.st) ((pg N N).trans<|by rw[show((most:Int)-z.st)=((most-z.st:Nat):Int) by omega]) ?_;have hk5:=hk3<|G.ext.trans'<|Ext.hN H5;have hT0:∀r∈H',r∈S\/H0.next<=r:=λr y=>(J r y).1
 have hT3:∀r∈H',r<H3.next:=λr y=>aR (J r y).2 hx2.next
 have hT5:∀r∈H',r<H5.next:=λr y=>aR (hT3 r y) hx34
 have hnl:(zf A z.sp t).length<=8000000:=by
  rw[ac6];exact a_ (Pz.fold ho _ (λp hp=>hz.b p hp) ⟨mD,nofun⟩).le hb1
 have h5n:=G.ext.next
 have aiu:=(G.lo _<|aN ..).2;have h5w:=G.wf;refine aO.mono (ac5 (l:=zf A z.sp t) ho hk5 (λr y=>⟨aR (hF r y).1 h5n,λh=>(hT0 r h).elim (hF r y).2<|eO (hF r y).1⟩) (W.stay (Ext.hN H5) nofun) hT5 (hnx.ex<|Ext.hN H5) (λr y=>eO<|hT3 r y) (hz.nx ho t) (hz.sk.up<|iU _) hL hnl) ?_;rintro _ H8 ⟨sa',sc',T',rfl,hst',hT',Bg,Y6⟩;refine bG ?_;have G:=G.past Bg.draw hT0 λe he=>by rw[aP.1 he];exact h3
 have hst':=hst'.m h5w Bg;have Y6:je (λ_=>True) 86 (hM H5 H8) sa' _ 2 _:=Y6.wk λ_ _=>trivial;have hzo:z.on A t=ae.of (close A (z.long+1) z.sk<|zf A z.sp t) (z.long+1) z.st:=rfl;have hyl:=a_ (WL ho (hz.sk.up<|iU _)<|hz.nx ho t).le hL.b;generalize close A (z.long+1) z.sk (zf A z.sp t)=hr at*;refine G.nsD O O O λH9 rc Dq G c9 hrc Ap=>?_;have G:F S H0 (hM (hM (hM H5 H8) H9) Dq) [(rc,68,[I sa' hr.sp.length sc',.bool hr.ok,I Q 0 0,B hr.sp.length]),(rp,92,[pr rw',pr rs,fv,B ah,I sa z.sp.length sc,.bool z.ok,I Q 0 0,B z.sp.length,B z.long,B z.st,B most,.bool aC])]:=G;have n1:rc≠rp:=G.neT;refine splitK (λK hK=>?_) ?_
 .simp only[d_,fK,c9];rcases vQ H5 H8 with e|e<;>rw[e]<;>apply lQ (a:=rc) (b:=rp) n1 xN jr jr hK
 have hst':=hst'.stay Ap nofun;have Y6:=Y6.ex Ap
 have hT8:∀r∈T',r<(hM (hM (hM H5 H8) H9) Dq).next/\r∉[rc,rp]/\(r∈S\/H0.next<=r):=λr y=>by
  have h7:(hN H5).next=H5.next:=rfl
  have h8:=Ap.next
  have g8:(hM H5 H8).next=H8.next:=rfl
  have⟨g1,g2⟩:=hT' r y;refine⟨N,λh=>?_,g2.elim (hT0 r) λg=>.inr N⟩;simp only[bP,dX,iF]at h;rcases h with rfl|rfl
  .omega
  .rcases g2 with g2|g2
   .exact h3 g2
   .omega
 generalize hM (hM (hM H5 H8) H9) Dq=Sn at G hst' Y6 hT8|-;refine bG ?_;refine dN (λh=>absurd trivial h) λ_=>?_;have h11:=G;have G:=G.base;refine eU ?_;refine G.mh λHn G=>?_;refine G.mh λHn G=>?_;refine G.mh λHn G=>?_;refine splitK (λK hK=>?_) ?_
 .simp only[d_,fK];apply lQ (a:=rc) (b:=rp) n1 xN jr jr hK
 have G:=G.cast (L':=[(rc,68,[I sa' hr.sp.length sc',.bool hr.ok,I Q 0 0,B hr.sp.length]),(rp,92,[pr rw',pr rs,.slice na (zf A z.sp t).length nc,B<|z.sk.length+1,I sa' hr.sp.length sc',.bool hr.ok,I Q 0 0,B hr.sp.length,B z.long,B z.st,B most,.bool aC])]) O;apply G.pz;refine PU.of (v:=B<|z.long+1) ((fD N N).trans<|by rw[show((z.long:Int)+1)=((z.long+1:Nat):Int) by omega]) ?_;refine G.jH λHn G=>?_;refine eU ?_;refine PU.of (v:=B<|z.st+hr.sp.length) ((fD N N).trans<|by rw[show((z.st:Int)+hr.sp.length)=((z.st+hr.sp.length:Nat):Int) by omega]) ?_;refine G.mh λHn G=>?_;refine splitK (λK hK=>?_) ?_
 .simp only[d_,fK];apply lQ (a:=rc) (b:=rp) n1 xN jr jr hK
 have y:∀r∈[rc,rp],r∉T':=λr y h=>(hT8 r h).2.1 y;refine Lu.rr ?_;rw[hzo];refine⟨O,T',rs,.slice na (zf A z.sp t).length nc,z.sk.length+1,sa',sc',F.drop (A:=[_])<|h11.over G,hst'.stay G.ext y,λr y=>⟨(hT8 r y).2.2,aR (hT8 r y).1 G.ext.next⟩,y rp kg,Y6.stay G.ext λr y=>.inr ?_,rfl⟩;simp only[iC,jF,bP,dX,iF]at y;rcases y with rfl|rfl
 .exactλht=>absurd (ht.one (h11.get 0 O).Jc) mO
 .exactλht=>absurd (ht.one (h11.get 1 O).Jc) mO
end
section
variable{S:C Nat}{SH:Nat->Prop}{ev:Z}{rp:Nat}
abbrev Bi:Z:=I Q 0 0
def Kp(H0 H:R)(rk rs ro rp rw' most:Nat)(A:At)(z:ae)(ins outs:C Nat):Prop:=∃S v w g g',
 Sm S H H rp rw' most A z/\(∀r∈S,H0.next<=r/\r<H.next)/\F [] H0 H ((rk,43,[v,w])::(rs,44,[pr rp])::(ro,43,[Bi,Bi])::(g++g'))/\
 (∀e∈((rk,43,[v,w])::(rs,44,[pr rp])::(ro,43,[Bi,Bi])::(g++g'):C dL),e.1∉S)/\GB 3 1 v (fF ins) g/\GB 3 1 w (fF outs) g'
def alh(ho:A.Ok)(ht:A.ty<=65536)(hk:Bh SH H0 rw' A q ev sv sb)(hF:∀r,SH r->r<H0.next)(h:Kp H0 H rk rs ro rp rw' most A z ins outs)(hz:ae.h1 A z)(hL:Lim A (z.long+1)<|most-z.st)(hst:z.st<=most)(hm:most<=1000000000000000)(hlo:z.long<=100000)(hil:ins.length<=1000)(hol:outs.length<=1000)(i:Nat):
 aO Pg X 46 [B i,vi t,pr rs,pr rk] H λv T=>v=vi 0/\Kp H0 T rk rs ro rp rw' most A (z.feed A t) (if off A z.sp t then ins++[i]else ins) (if off A z.sp t then outs else outs++[i]):=by
 have⟨S,v,w,g,g',hsm,hS1,G,hd,hg,hg'⟩:=h;have hkh:Bh SH H rw' A q ev sv sb:=hk.stay G.ext nofun;refine jS [0,1,2,3,6,7,8] ?_;apply G.pz;refine aO.mono (aiv ho ht hkh (λr y=>⟨aR (hF r y) G.ext.next,λh=>absurd (hS1 r h).1<|eO<|hF r y⟩) hsm hz hL hst hm hlo t) ?_;rintro _ H1 ⟨rfl,ali⟩;have hx1:=ali.ext;have⟨S2,hS2,hown⟩:=ali.own;have hk0:=G.ext.next
 have amV:∀e∈((rk,43,[v,w])::(rs,44,[pr rp])::(ro,43,[Bi,Bi])::(g++g'):C dL),e.1∉S2:=λe he hm=>(hS2 _ hm).1.elim (hd e he)<|eO (G.lo e he).2;have G:=G.past hx1 (λr y=>.inr (hS1 r y).1) hd;have aix:∀r∈S2,H0.next<=r/\r<H1.next:=λr y=>⟨(hS2 r y).1.elim (λh=>(hS1 r h).1)<|a_ hk0,(hS2 r y).2⟩
 have hgt:∀{es:Nat}{v:Z}{M:C Z}{gb:C dL},GB 3 es v M gb->∀e∈gb,e.2.1≠86:=λhg e he=>by
  rcases hg with⟨_,_,rfl⟩|⟨r,n,eB,_,_,rfl⟩
  .cases he
  .rw[aP.1 he];exact show(3:Nat)≠86 by decide
 have hty:∀r∈(((rk,43,[v,w])::(rs,44,[pr rp])::(ro,43,[Bi,Bi])::(g++g'):C dL)).map (·.1),r∉S2/\¬yS H1 r 86:=λr y=>by
  obtain⟨e,he,rfl⟩:=bQ.1 y;refine⟨amV e he,λh=>?_⟩;have h:=(G.bk e he).Jc.one h;simp only[bP,bZ]at he;rcases he with rfl|rfl|rfl|he|he
  .exact absurd h (show(43:Nat)≠86 by decide)
  .exact absurd h (show(44:Nat)≠86 by decide)
  .exact absurd h (show(43:Nat)≠86 by decide)
  .exact hgt hg e he h
  .exact hgt hg' e he h
 have fin:∀{H3:R}{v' w':Z}{g1 g2:C dL}{i1 o1:C Nat},F ((((rk,43,[v,w])::(rs,44,[pr rp])::(ro,43,[Bi,Bi])::(g++g'):C dL)).map (·.1)) H1 H3 ((rk,43,[v',w'])::(rs,44,[pr rp])::(ro,43,[Bi,Bi])::(g1++g2))->GB 3 1 v' (fF i1) g1->GB 3 1 w' (fF o1) g2->Kp H0 H3 rk rs ro rp rw' most A (z.feed A t) i1 o1:=λsG W J=>
  ⟨S2,_,_,_,_,hown _ _ sG.ext hty,λr y=>⟨(aix r y).1,aR (aix r y).2 sG.ext.next⟩,G.over sG,λe he hm=>(sG.lo e he).1.elim (λh=>(hty _ h).1 hm)<|eO (aix _ hm).2,W,J⟩
 have hb:=G.base;refine bG ?_;refine dN (λh=>absurd trivial h) λ_=>?_;refine aT (λhc=>?_) λhc=>?_
 .rw[if_pos hc,if_pos hc];refine hb.pz<|hg.I4 hb O O O (by rw[aK];omega) λq' v' H2 g2 hg2 hS2=>?_;obtain⟨va,vl,vc,rfl⟩:=hg2.sl;refine hS2.jH λH3 sG=>Lu.rr ?_;exact⟨O,fin sG (by rw[show fF (ins++[i])=fF ins++[B i]from dA];exact hg2) hg'⟩
 .rw[if_neg hc,if_neg hc];refine hb.pz<|hg'.I4 hb O O O (by rw[aK];omega) λq' v' H2 g2 hg2 hS2=>?_;obtain⟨va,vl,vc,rfl⟩:=hg2.sl;refine hS2.jH λH3 sG=>Lu.rr ?_;exact⟨O,fin sG hg (by rw[show fF (outs++[i])=fF outs++[B i]from dA];exact hg2)⟩
end
section
variable{S:C Nat}{SH:Nat->Prop}{ev:Z}{rp:Nat}
abbrev ints(l:C Int):C Z:=l.map vi
structure Rm(A:At)(n most:Nat):Prop where
 b:bnd A n<=8000000
 s:A.ns*(n+1)<=1000000
 e:(n+1)*bnd A n<=most
 m:most<=1000000000000000
def Rm.lim(h:Rm A n most)(hz:ae.h1 A z)(hl:z.long+1<=n):Lim A (z.long+1) (most-z.st)/\z.st<=most:=by
 have W:bnd A (z.long+1)<=bnd A n:=Hu hl;have J:bnd A z.long<=bnd A n:=Hu N;have h3:z.st<=n*bnd A n:=a_ hz.st<|gY hl J;have h4:=h.e;rw[kR]at h4;exact⟨⟨N,a_ W h.b,a_ (gG _ N) h.s⟩,N⟩
def Rm.amW(h:Rm A n most):Lim A 0 most:=by
 have W:bnd A 0<=bnd A n:=Hu<|bA _;have h4:=h.e;rw[kR]at h4;exact⟨N,a_ W h.b,a_ (gG _ N) h.s⟩
abbrev zk(A:At)(l:C Int):C Bool:=(ae.new A).kept A l
abbrev za(A:At)(l:C Int):ae:=(ae.new A).all A l
def PD{b:Bool}:∀(l:C Bool)(k:Nat),(rY b k l).length<=l.length
 |[],_=>ax _
 |c::l,k=>by
  have:=PD (b:=b) l<|k+1;show(if c=b then k::rY b (k+1) l else rY b (k+1) l).length<=l.length+1;split
  .exact mK this
  .omega
end
section
variable{S:C Nat}{SH:Nat->Prop}{ev:Z}
end
section
variable{S:C Nat}{SH:Nat->Prop}{ev:Z}
end
section
variable{S:C Nat}{SH:Nat->Prop}{ev:Z}
end
section
variable{S:C Nat}{SH:Nat->Prop}{ev:Z}
def En(A:At)(n:Nat):Nat:=(2*A.ns+2)*((2*A.ns+2)*(n+2)+1)*(n+2)
def alj(hs:A.ns<=300)(hn:n<=60):(2*A.ns+2)*(n+2)<=37324/\(2*A.ns+2)*((2*A.ns+2)*(n+2)+1)<=22469650/\En A n<=1393118300:=by
 have W:(2*A.ns+2)*(n+2)<=602*62:=gY N N;have J:(2*A.ns+2)*((2*A.ns+2)*(n+2)+1)<=602*37325:=gY N N;have h3:En A n<=22469650*62:=gY N N;exact⟨N,N,N⟩
def Rm.en(hs:A.ns<=300)(hn:n<=60)(hk:k<=n):Rm A k (En A n):=by
 have W:A.ns*(k+1)<=300*61:=gY hs N;have J:bnd A k<=300*(300*61+1):=gY hs N;exact⟨N,N,aiw hk,by have:=(alj hs hn).2.2;omega⟩
def mmN(x hr:Nat):Sz b [B x,.int .i64 hr]=D (B (if b=f then max x hr else min x hr)):=by
 cases b with
 |false=>show Sz aC [.int .i64 x,.int .i64 hr]=_;rw[min2];show _=D (B<|min x hr);rw[show min (x:Int) hr=((min x hr:Nat):Int) by omega]
 |true=>show Sz f [.int .i64 x,.int .i64 hr]=_;rw[max2];show _=D (B<|max x hr);rw[show max (x:Int) hr=((max x hr:Nat):Int) by omega]
def afc{s:Nat}(hs:s<=602)(hk:k<=61)(hw:Wf H):aO Pg X 47 [B s,B k] H (Q0 (λv=>v=B (s*(s*(k+1)+1)*(k+1))) H):=by
 have W:s*(k+1)<=602*62:=gY N N;have J:s*(s*(k+1)+1)<=602*37325:=gY N N;have h3:s*(s*(k+1)+1)*(k+1)<=22469650*62:=gY N N;refine jS [0,1,4,5,6] ?_;refine PU.of (v:=B s) ((mmN s 0).trans<|by rw[if_pos O,vM<|bA _]) ?_;refine PU.of (v:=B s) ((mmN s 32768).trans<|by rw[if_neg mO,iV N]) ?_;refine PU.of (v:=B k) ((mmN k 0).trans<|by rw[if_pos O,vM<|bA _]) ?_;refine PU.of (v:=B k) ((mmN k 32768).trans<|by rw[if_neg mO,iV N]) ?_;refine PU.of (v:=B<|k+1) (jC 1 O N)<|PU.of (v:=B<|s*(k+1)) (mulN s O N)<|PU.of (v:=B<|s*(k+1)+1) (jC 1 O N)<|PU.of (v:=B<|s*(s*(k+1)+1)) (mulN s O N)<|PU.of (v:=B<|s*(s*(k+1)+1)*(k+1)) (mulN _ O N)<|PU.of (v:=B<|s*(s*(k+1)+1)*(k+1)) ((min2 _ _ _).trans<|by rw[Int.min_eq_left N])<|Lu.rr ?_;exact⟨O,O⟩
def PE(hw:Wf H)(hs:A.ns<=300)(hn:n<=60):aO Pg X 12 [q.v A,B n] H (Q1 (λv _=>v=B (En A n)) H):=by
 refine jS [0,1,2,4] ?_;have G:=F.refl hw;refine G.box O λH1 ra G=>?_;have G:F [] H H1 [(ra,27,q.cells A)]:=G;apply G.iI;refine G.cm (sI G.wf q A) ?_;rintro _ H2 rfl E G;refine PU.of (v:=B<|2*A.ns) (mulN 2 O N)<|PU.of (v:=B<|2*A.ns+2) (jC 2 O N)<|PU.of (v:=B<|n+1) (jC 1 O N)<|aO.mono (afc N N G.wf) ?_;rintro _ H3 ⟨rfl,rfl⟩;refine Lu.rr ?_;exact⟨O,G.ext⟩
end
end Go.Proofs.Lv
