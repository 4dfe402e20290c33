/-
  Part 07 of the proof. No condition.
-/
import Derived.Test.YtpngmpbmokhmiaaGreatDoorZ06
set_option linter.unusedVariables false
set_option linter.unusedSimpArgs false
set_option maxRecDepth 100000
set_option maxHeartbeats 4000000
set_option linter.defProp false
open Option renaming some->Z,none->T
open Bool renaming true->f,false->aA
open Go renaming Value->C,TypeId->aI
open Go.Value renaming int->a_,slice->J,bool->aO,string->aJ,pointer->bG,tuple->fJ,agg->dN,map->gz
open Nat renaming beq->aB,ble->aD,add->bq,mul->bP,sub->dP
open List renaming length->u,replicate->aY,range->d_
open Classical renaming choose->jI
open List.Perm renaming swap->iF,cons->fA
open Go.IntKind renaming i64->bC
noncomputable section
namespace Go.Proofs.Lu
open Go.Ae Go.Ae.hx
variable{oW:D (Nat×C)}{H':Int->Prop}{a a' na ra va:aC Addr}{ws:D Nat}{b c hi i j lo n nc nn r rc E rv s tn vc x:Nat}{zs:Nat->D Nat}{F l jw rcs vcs z:D C}{kd:Nat->Int}{L hx Pf gb:D eF}{bs mk:D Bool}{e t ty:aI}{K:C->R->Prop}{m mm:D (aZ×C)}{H H0 H1:R}{p x0 x1 jh mQ jY vE mO zX wB x20 zK x4 x5 TG x6 TH J_ Ox x7 x9:C}{ok:Bool}{k nm:aZ}
section
variable{S:D Nat}{cs:Nat->Prop}
def TyP(l:D C):Prop:=∃(t:aZ)(r d:Int)(w:Bool),l=[aJ t,vi r,vi d,aO w]/\t.size<=1000000
def Vo(cs:Nat->Prop)(H:R)(a:aC Addr)(n:Nat)(F:D C):Prop:=jC cs 240 H a n 4 F/\n<=5000/\∀i,i<n->TyP (El F 4 i)
abbrev vV(a:aC Addr)(n c:Nat):C:=dN ⟨[J a n c]⟩
def Wv(d:Wf H):bM Pg X 151 [vV a n c] H (Q1 (λv _=>v=W n) H):=by
 have G:=gM d;refine lF [0,1,2] ?_;refine G.box O λH1 E G=>?_;refine fF ?_;refine rr ?_;exact⟨O,G.ext⟩
def Iw(U:Wf H)(g:Vo cs H a n F)(T:∀Q l,Ext H Q->Wf Q->TyP l->qh Pg X (Oo p) [dN ⟨l⟩] Q (Q1 (λv _=>∃b:Bool,v=aO b) Q)):
 bM Pg X 181 [J a n c,p] H (Q1 (λv _=>∃z:Int,v=vi z/\-1<=z/\z<n) H):=by
 have⟨hf,hn,ht⟩:=g;have G:=gM U;refine GV [0,1,4,5,7,8] ?_;refine Gg 4 5 8 (h1:=λm x4 x5 d Q=>∃i:Nat,d=W i/\i+m=n/\SH [] H Q []) ?_ n ⟨0,rfl,N,G⟩;clear G;rintro m x4 x5 d E H1 ⟨i,rfl,I,G⟩;refine mG (λB=>?_) λB=>?_
 .refine tl<|rr ?_;exact⟨⟨-1,O,N,N⟩,G.ext⟩
 have⟨r,o,e,hr,hrd,_⟩:=hf.1.read N (show i<n by omega) c;rw[e];refine bN ?_;refine G.BN hrd hr<|qh.mono (T H1 _ G.ext G.wf<|ht i N) ?_;rintro v V ⟨⟨b,rfl⟩,M⟩;have G:=G.call M;refine sD (λy=>?_) λy=>?_
 .refine rr ?_;exact⟨⟨i,O,N,N⟩,G.ext⟩
 .refine eD ?_;exact⟨n-(i+1),N,_,_,_,_,_,O,i+1,pq,N,G⟩
theorem Ww(hw:Wf H)(B:Vo cs H a n F)(k:Int):bM Pg X 149 [vV a n c,vi k] H (Q1 (λv _=>∃z:Int,v=vi z/\-1<=z/\z<n) H):=by
 have G:=gM hw;refine lF [0,1,2,3,4] ?_;refine G.box O λH1 E G=>?_;refine G.box O λU I G=>?_;refine ym (λW=>?_) λW=>?_
 .refine rr ?_;exact⟨⟨-1,O,N,N⟩,G.ext⟩
 apply G.qE;have d:Vo cs U a n F:=⟨B.1.ex G.ext,B.2⟩;refine dn (Iw G.wf d (p:=.func (.func 182) ⟨[]⟩ ⟨[bG (Z ⟨I,0,T⟩)]⟩) λQ l M y hl=>?_) ?_
 .obtain⟨t,r,ch,w,rfl,_⟩:=hl;show bM Pg X 182 [_,bG<|Z ⟨I,0,T⟩] Q _;have Y:=((G.call M).get 0 O).cell (o:=0) (v:=vi k) O;have g:=((G.call M).lo _<|aT (i:=0) O).2;have G:=gM y;refine lF [0,1,2,3] ?_;refine G.box O λV rt G=>?_;refine fF ?_;refine G.CJ Y g ?_;refine bN ?_;refine rr ?_;exact⟨⟨_,O⟩,G.ext⟩
 .rintro v V ⟨hz,M⟩;refine rr ?_;exact⟨hz,(G.call M).ext⟩
theorem OJ(hw:Wf H)(B:Vo cs H a n F)(s:aZ):bM Pg X 150 [vV a n c,aJ s] H (Q1 (λv _=>∃z:Int,v=vi z/\-1<=z/\z<n) H):=by
 have G:=gM hw;refine lF [0,1,2,3,4] ?_;refine G.box O λH1 E G=>?_;refine G.box O λN I G=>?_;refine fF ?_;have d:Vo cs N a n F:=⟨B.1.ex G.ext,B.2⟩;refine dn (Iw G.wf d (p:=.func (.func 183) ⟨[]⟩ ⟨[bG (Z ⟨I,0,T⟩)]⟩) λQ l M y Y=>?_) ?_
 .obtain⟨t,r,ch,w,rfl,_⟩:=Y;show bM Pg X 183 [_,bG<|Z ⟨I,0,T⟩] Q _;have W:=((G.call M).get 0 O).cell (o:=0) (v:=aJ s) O;have g:=((G.call M).lo _<|aT (i:=0) O).2;have G:=gM y;refine lF [0,1,2,3] ?_;refine G.box O λU rt G=>?_;refine ym (λV=>?_) λV=>?_
  .refine G.qE<|G.CJ W g ?_;refine bN ?_;refine rr ?_;exact⟨⟨_,O⟩,G.ext⟩
  .refine rr ?_;exact⟨⟨_,O⟩,G.ext⟩
 .rintro v U ⟨hz,M⟩;refine rr ?_;exact⟨hz,(G.call M).ext⟩
end
def ajC:tEq Pg 240=Z (.inr [3,1,1,2]):=fQ
def aml(t t':aZ)(r r' ch d:Int)(w w':Bool):∃b,mU Pg 240 (dN ⟨[aJ t,vi r,vi ch,aO w]⟩) (dN ⟨[aJ t',vi r',vi d,aO w']⟩)=Z b:=by
 have e:mU Pg 240 (dN ⟨[aJ t,vi r,vi ch,aO w]⟩) (dN ⟨[aJ t',vi r',vi d,aO w']⟩)=(b_ (tO t t') (b_ (FI r r') (b_ (FI ch d) (b_ (CE w w') (Z f)<|Z aA)<|Z aA)<|Z aA)<|Z aA):=by
  show(aN (tEq Pg 240) λq=>_)=_;rw[ajC];rfl
 rw[e];cases tO t t'<;>cases FI r r'<;>cases FI ch d<;>cases CE w w'<;>exact⟨_,O⟩
def aoi(t t':aZ)(r r' ch d:Int)(w w':Bool)(i j:Nat):∃b:Bool,mW Pg .neq 240 (.tmp i) (.tmp j) (dN ⟨[aJ t,vi r,vi ch,aO w]⟩) (dN ⟨[aJ t',vi r',vi d,aO w']⟩)=Z (aO b):=by
 have⟨b,hb⟩:=aml t t' r r' ch d w w';refine⟨!b,?_⟩;show DX .neq (aeq Pg 240 (.tmp i) (.tmp j) _ _)=_
 have:aeq Pg 240 (.tmp i) (.tmp j) (dN ⟨[aJ t,vi r,vi ch,aO w]⟩) (dN ⟨[aJ t',vi r',vi d,aO w']⟩)=Z b:=by
  rw[<-hb];rfl
 rw[this];rfl
def Wx{cs F':Nat->Prop}{n' c':Nat}{cs':D C}(hw:Wf H)(g:Vo cs H a n F)(d:Vo F' H a' n' cs'):bM Pg X 122 [vV a n c,vV a' n' c'] H (Q1 (λv _=>∃b:Bool,v=aO b) H):=by
 have G:=gM hw;have hn:=g.2.1;refine lF [0,1,2,3,4,5,6,15,16,17] ?_;refine G.box O λH1 M G=>?_;refine G.box O λH2 T G=>?_;refine Oq (λV=>?_) λV=>?_
 .refine rr ?_;exact⟨⟨_,O⟩,G.ext⟩
 have ab:n=n':=N;refine fF ?_;refine Ov 4 5 6 17 (h1:=λm x4 x5 x6 I Q=>∃i:Nat,x4=aO aA/\I=W i/\i+m=n/\SH [] H Q [(T,180,[J a' n' c']),(M,180,[J a n c])]) ?_ n ⟨0,rfl,rfl,N,G⟩;clear G;rintro m x4 x5 x6 I E H3 ⟨i,rfl,rfl,Y,G⟩;refine mG (λB=>?_) λB=>?_
 .refine tl<|rr ?_;exact⟨⟨_,O⟩,G.ext⟩
 have⟨q,o,e,hr,hrd,_⟩:=g.1.1.read N (show i<n by omega) c;have⟨q',o',e',hr',Np,_⟩:=d.1.1.read N (show i<n' by omega) c';have⟨t,k,ch,w,he,_⟩:=g.2.2 i N;have⟨t',k',ch',w',he',_⟩:=d.2.2 i N;rw[he]at hrd;rw[he']at Np;rw[e];refine bN ?_;refine G.BN hrd hr<|G.og O O O λU rt G ac=>?_;have G:SH [] H U [(rt,240,[aJ t,vi k,vi ch,aO w]),(T,180,[J a' n' c']),(M,180,[J a n c])]:=G;refine fF ?_;rw[e'];refine G.kN ?_;refine ME.uE (H:=hN _) ((xD (G.ext.obj q' hr' gB) o' 4).trans Np) ?_;have⟨b,hb⟩:=aoi t t' k k' ch ch' w w' 22 27;refine dA hb<|fF ?_;refine ig (λy=>?_) λy=>?_
 .refine rr ?_;exact⟨⟨_,O⟩,G.ext⟩
 .refine eD ?_;exact⟨n-(i+1),N,_,_,_,_,_,_,O,i+1,O,pq,N,fV (A:=[_]) G⟩
section
variable{S:D Nat}{cs:Nat->Prop}
def _root_.Go.Ae.adM{o es:Nat}(h:lo<=hi)(B:hi<=n):Tc es (J (Z ⟨r,o,T⟩) n<|gK es) (Z<|W lo) (Z<|W hi) T=Z (J (Z ⟨r,o+lo*es,T⟩) (hi-lo)<|gK es):=by
 show b_ (gZ<|gK es) _ (gd (aB (gK es)<|gK es)<|gd (aD lo hi&&aD hi n)<|Z<|J (Z ⟨r,bq o<|bP lo es,T⟩) (dP hi lo)<|gK es)=_;rw[Af,lK,dW,aH h,aH B];rfl
def Gr.sub{rn:Nat}(B:Gr b H ra rn rcs na nn jw)(M:na=T\/nc=gK 5)(h:lo<=hi)(U:hi<=nn)(I:0<nn):
 ∃r o,Tc 5 (J na nn nc) (Z<|W lo) (Z<|W hi) T=Z (J (Z ⟨r,o+lo*5,T⟩) (hi-lo)<|gK 5)/\r<H.bV/\∀i,i<hi-lo->BS 5 (J (Z ⟨r,o+lo*5,T⟩) (hi-lo)<|gK 5) (W i)=Z (bG<|Z ⟨r,o+(lo+i)*5,T⟩)/\H.read r (o+(lo+i)*5) 5=Z (El jw 5<|lo+i):=by
 obtain⟨r,o,_,V,_,y,rfl,_⟩:=B.2.2.2.1.1.idx (c:=nc) N I;have d:nc=gK 5:=M.resolve_left gB;subst d;refine⟨r,y,adM h U,V,λi g=>?_⟩;have⟨r',o',e',hr',hrd,_⟩:=B.no (i:=lo+i) N (gK 5) O;rw[uK N]at e';cases e';refine⟨?_,hrd⟩;rw[uK g,show y+lo*5+i*5=y+(lo+i)*5 by omega]
def EL(F:D C):Prop:=∃n,u F=n*4/\∀i,i<n->TyP (El F 4 i)
def EL.nil:EL []:=⟨0,O,λi h=>N⟩
def EL.app(h:EL F)(hl:TyP l):EL (F++l):=by
 have⟨n,I,B⟩:=h;have d:u l=4:=by obtain⟨t,r,g,w,rfl,_⟩:=hl;rfl
 have hE:=Dm (es:=4) (n:=n) I (xs:=l) d;refine⟨n+1,by rw[aU];omega,λi hi=>?_⟩;rcases dH i n with h|h
 .rw[hE.1 i h];exact B i h
 .obtain rfl:i=n:=N;rw[hE.2];exact hl
def ME.adN{q:aI×aI}(G:SH S H0 H L)(I:vk Pg t=Z q)(kk:∀Q r,wz Q r []->Ext H Q->H.bV<=r->SH S H0 Q L->K (gz<|Z r) Q):ME (vw Pg t T H) K:=by
 refine ME.of (v:=gz<|Z H.bV) (H:=H.new<|.map []) ?_<|kk _ _ ⟨dI _,by rw[xV,jj O];rfl⟩ (Ext.new _ _) (ax _)<|G.call<|Ext.new _ _;show aN (vk Pg t) _=_;rw[I];rfl
def AM(rcs:D C)(i:Nat):Nat:=if i=0 then 0 else(rootOf rcs (i-1)+1).toNat
def Nq.from{rn:Nat}(h:Nq cs H rn rcs nn jw)(hi:i<rn):(AM rcs i:Int)<=rootOf rcs i/\rootOf rcs i<nn/\(AM rcs (i+1):Int)=rootOf rcs i+1:=by
 have I:=h.1.2 i hi;have e:AM rcs (i+1)=(rootOf rcs i+1).toNat:=rfl;refine⟨?_,I.2,by rw[e];omega⟩;unfold AM;split
 .omega
 .next d=>
  have B:=h.2.2 (i-1) N;have g:=h.1.2 (i-1) N;rw[show i-1+1=i by omega]at B;omega
def aoj{x:C}(I:GB 240 4 x F gb)(B:EL F)(hl:u F<=10000000)(G:SH S H0 H<|Pf++gb)(g:TyP l){K:C->C->R->Prop}(kk:∀w v' Q iX,GB 240 4 v' (F++l) iX->EL (F++l)->SH S H0 Q (Pf++iX)->K w v' Q):
 ME (bS 240 [aJ ⟨#[]⟩,a_ bC 0,a_ bC 0,aO aA] 4 1 [(0,dN ⟨l⟩)] H) λw y=>ME (Ch 240 4 x w y) (K w):=by
 obtain⟨t,r,T,w,rfl,M⟩:=id g;refine G.bS O O O N λH1 U d=>?_;have d:=d.perm<|fA _<|aG (l₁:=Pf);have⟨v',H6,iX,e1,hg',xJ,_⟩:=I.app (m:=0) (cx:=1) d N O O N N;exact ME.of e1<|kk _ v' H6 iX hg' (B.app g)<|xJ.perm aG
def adO(V:Wf H){v:C}(U:v=J a n c)(I:Fl H a n 4 F)(M:n<=5000)(ht:∀i,i<n->TyP (El F 4 i)):bM Pg X 127 [v] H (Q1 (λv Q=>∃a n c F,v=J a n c/\Vo (H.bV<=·) Q a n F) H):=by
 subst U;have G:=gM V;refine lF [0,2] ?_;rw[Ep fQ];refine sD (λB=>?_) λB=>?_
 .refine rr ?_;exact⟨⟨T,0,0,[],O,jC.nil _ _ _ _ _,N,λi h=>N⟩,Ext.refl _⟩
 .refine ME.of (ajg N) ?_;have G:=G.grow 240 [];have y:=G.ext.bV;refine G.VN N (.inr ⟨_,O⟩) (I.ex G.ext) N λa' c' H1 L' g d=>rr ?_;exact⟨⟨a',n,c',F,O,g.le y,M,ht⟩,d.ext⟩
end
section
variable{S:D Nat}{cs:Nat->Prop}
def amn{rn:Nat}(hG:Gr b H ra rn rcs na nn jw){x3:C}(U:GB 240 4 x3 F gb)(y:EL F)(hl:u F<=16000)(G:SH [] H H1<|[(rv,180,[J T 0 0]),(E,171,[J ra rn rc,J na nn nc])]++gb){yS FQ V d Y aw aE g:C}:
 iC Pg X (sub yR [1,1,1,1,1,1]) (xF (gV ra rn rc na nn nc) (pr E) (pr rv) x3 x4 x5 x7 x9 jh mQ jY yS FQ zK V d Y aw aE g oW H1) (jO Pg [.cell 2 180]<|Q1 (λv Q=>∃a n c F,v=vV a n c/\Vo (H.bV<=·) Q a n F) H):=by
 have g2:=hG.2.1;simp only[bQ,bX]at G;refine tm ?_;refine Ov 3 12 13 76 (h1:=λm x3 mQ jY g Q=>∃i F gb,g=W i/\i+m=rn/\GB 240 4 x3 F gb/\EL F/\u F<=16000+4*i/\SH [] H Q ([(rv,180,[J T 0 0]),(E,171,[J ra rn rc,J na nn nc])]++gb)) ?_ rn ⟨0,F,gb,rfl,N,U,y,N,G⟩;clear U y hl G;rintro m x3 mQ jY g oW H2 ⟨i,F,gb,rfl,a0,U,y,hl,G⟩;refine mG (λhc=>?_) λhc=>?_
 .refine tl ?_;have⟨k,hk,ht⟩:=y;have al:=G.perm<|aG (l₁:=[_,_]);obtain⟨a,n,c,rfl,hn,hf⟩:=U.fl al;obtain rfl:n=k:=N;refine dn (adO G.wf O hf N ht) ?_;rintro v H3 ⟨⟨a',n',c',ab,rfl,hV⟩,M⟩;have an:=G.ext.bV;have ao:=G.lt;have ac:=G.call M;refine PU.b1 O ?_;have G:=SH.own (hx:=[(rv,180,[J T 0 0]),(E,171,[J ra rn rc,J na nn nc])]) ac;refine G.kN ?_;refine G.j_ λHn G=>rr ?_;apply G.jl;have Jb:=G.ext;exact⟨⟨a',n',c',ab,O,(hV.1.stay Jb λq hq=>.inl (by have:=ao q (by simp at hq|-;rcases hq with h|h<;>simp[h]);omega)).wk λr h=>aR an h,hV.2⟩,(SH.frame (hx:=[_,_]) ac G).ext⟩
 have hi:i<rn:=N;have⟨r1,o1,zN,u1,f1,w1,c1,a1,e1,hl1,Be,uR,hsz,_⟩:=hG.ru hi rc;rw[e1];refine bN ?_;refine G.BN Be hl1<|G.og O O O λH5 ru G a2=>?_;have G:SH [] H H5 ((ru,234,yj zN u1 f1 w1 c1 (rootOf rcs i) a1)::(rv,180,[J T 0 0])::(E,171,[J ra rn rc,J na nn nc])::gb):=G;refine fF ?_
 have zO:∀x3 F gb oW Q,GB 240 4 x3 F gb->EL F->u F<=16000+4*(i+1)->SH [] H Q ((ru,234,yj zN u1 f1 w1 c1 (rootOf rcs i) a1)::(rv,180,[J T 0 0])::(E,171,[J ra rn rc,J na nn nc])::gb)->
  iC Pg X (sub yR [1,1,1,1,1,1,0,1,0,0,1,1,1]) (xF (gV ra rn rc na nn nc) (pr E) (pr rv) x3 x4 x5 x7 x9 jh (W i) (pr ru) yS FQ zK V d Y (J ra rn rc) (W rn) (W i) oW Q)
   (IU (yA (gV ra rn rc na nn nc) (pr E) (pr rv) x4 x5 x7 x9 jh yS FQ zK V d Y (J ra rn rc) (W rn) λm x3 mQ jY g Q=>∃i F gb,g=W i/\i+m=rn/\GB 240 4 x3 F gb/\EL F/\u F<=16000+4*i/\SH [] H Q ([(rv,180,[J T 0 0]),(E,171,[J ra rn rc,J na nn nc])]++gb)) m<|uk 4<|uQ Pg X (sub yR [1,1,1,1,1,1,1])<|jO Pg [.cell 2 180]<|Q1 (λv Q=>∃a n c F,v=vV a n c/\Vo (H.bV<=·) Q a n F) H):=by
  intro x3 F gb oW Q I B h3 h4;refine tl ?_;refine eD ?_;exact⟨rn-(i+1),N,_,_,_,_,_,_,O,i+1,F,gb,pq,N,I,B,h3,fV (A:=[_]) h4⟩
 have ap:(ar:Bool)->∀oW,Ci oW 87=aO ar->iC Pg X (sub yR [1,1,1,1,1,1,0,1,0,0,1,1,0,0,1,1]) (xF (gV ra rn rc na nn nc) (pr E) (pr rv) x3 x4 x5 x7 x9 jh (W i) (pr ru) yS FQ zK V d Y (J ra rn rc) (W rn) (W i) oW H5)
  (uk 5<|uQ Pg X (sub yR [1,1,1,1,1,1,0,1,0,0,1,1,1])<|IU (yA (gV ra rn rc na nn nc) (pr E) (pr rv) x4 x5 x7 x9 jh yS FQ zK V d Y (J ra rn rc) (W rn) λm x3 mQ jY g Q=>∃i F gb,g=W i/\i+m=rn/\GB 240 4 x3 F gb/\EL F/\u F<=16000+4*i/\SH [] H Q ([(rv,180,[J T 0 0]),(E,171,[J ra rn rc,J na nn nc])]++gb)) m<|uk 4<|uQ Pg X (sub yR [1,1,1,1,1,1,1])<|jO Pg [.cell 2 180]<|Q1 (λv Q=>∃a n c F,v=vV a n c/\Vo (H.bV<=·) Q a n F) H):=by
  intro b oW hb;refine tl ?_;rw[hb];refine ig (λhb=>?_) λhb=>?_;rotate_left
  .refine bN ?_;exact zO _ _ _ _ _ U y N G
  refine fF ?_;refine dn (yU (oC H5) zN hsz) ?_;rintro v H6 ⟨rfl,ad⟩;have G:=G.oD ad;refine fF ?_;have aq:TyP [aJ zN,W i,vi c1,aO w1]:=⟨zN,i,c1,w1,O,hsz⟩;refine G.R4 O O O N λH7 rx G uR=>?_;have G:=G.to (cs':=[aJ zN,W i,vi c1,aO w1]) O;refine U.KB (G.perm<|fA _<|aG (l₁:=[_,_,_])) N O O N λv' H8 iX am G _ _ xz=>?_;have G:=G.perm<|aG (l₂:=[_,_,_]);simp only[bQ,bX]at G;refine splitK (λK hK=>?_) ?_
  .simp only[uR,eZ,fP ad];rcases xz with e|e<;>rw[e]<;>apply Gc (a:=ru) yX fQ fQ hK
  exact zO _ _ _ _ _ am (y.app aq) (by rw[aU];show u F+4<=_;omega) G
 refine ig (λhb=>?_) λhb=>?_
 .refine fF ?_;exact ap (!f1) _ O
 .exact ap aA _ O
theorem Uh(hw:Wf H){rn:Nat}(hG:Gr b H ra rn rcs na nn jw)(ab:na=T\/nc=gK 5):bM Pg X 95 [gV ra rn rc na nn nc] H (Q1 (λv Q=>∃a n c F,v=vV a n c/\Vo (H.bV<=·) Q a n F) H):=by
 have G:=gM hw;have g2:=hG.2.1;have g5:=hG.2.2.2.2.1;refine lF [0,1,2,3,4,5,7,9,11,12,13,21,22,23,33,34,35,74,75,76] ?_;refine G.box O λH1 E G=>?_;refine G.jM λHn rv G=>?_;refine fF ?_;refine G.cm (Nt G.wf<|hG.ex G.ext) ?_;rintro v H2 ⟨z,a,c,rfl,aw⟩ M G;rw[Gt];refine yl (λhc=>?_) λhc=>?_
 .refine PU.b1 O<|G.j_ λHn G=>rr ?_;exact G.jl<|⟨⟨T,0,0,[],O,jC.nil _ _ _ _ _,N,λi h=>N⟩,G.ext⟩
 have hC:=(aw hc).1;have bc:=hC.2.1;have a2:0<nn:=by have:=hC.1.2 0 N;omega
 have a9:=G.ext.bV;refine ME.adN G Dp λH3 rm g be an G=>?_;have an:H.bV<=rm:=N;refine fF ?_;refine lp9 3 5 7 9 11 23 33 34 35 (h1:=λm Y x5 x7 x9 jh zK CK a7 FP Q=>∃i mm F gb,x5=W (AM rcs i)/\zK=W i/\i+m=rn/\wz Q rm mm/\GB 240 4 Y F gb/\EL F/\u F<=4*AM rcs i/\SH [] H Q ([(rv,180,[J T 0 0]),(E,171,[J ra rn rc,J na nn nc])]++gb)) ?_ rn ⟨0,[],[],[],rfl,rfl,N,g,GB.nil _ _,EL.nil,bD _,G⟩;clear G g;rintro m Y x5 x7 x9 jh zK CK a7 FP oW H4 ⟨i,mm,F,gb,rfl,rfl,ba,g,V,hT,hl,G⟩;refine mG (λhc=>?_) λhc=>?_
 .obtain rfl:i=rn:=N;have y:=hC.from (i:=i-1) N;rw[show i-1+1=i by omega]at y;exact amn hG V hT N G
 have hi:i<rn:=N;have y:=hC.from hi;have⟨r1,o1,zN,u1,f1,w1,c1,a1,e1,hl1,Be,uR,hsz,_⟩:=hG.ru hi rc;rw[e1];refine bN ?_;refine G.BN Be hl1<|G.og O O O λH5 ru G a5=>?_;have g:=g.ex a5<|nofun;have G:SH [] H H5 ((ru,234,yj zN u1 f1 w1 c1 (rootOf rcs i) a1)::(rv,180,[J T 0 0])::(E,171,[J ra rn rc,J na nn nc])::gb):=G;refine fF ?_;refine eD ?_;rw[<-y.2.2];have ac:AM rcs i<=AM rcs (i+1):=N;have am:AM rcs (i+1)<=nn:=N;generalize hh:AM rcs (i+1)=d at ac am y|-;generalize AM rcs i=lo at ac hl y|-;have⟨r2,o2,esl,hr2,hsub⟩:=hG.sub ab ac am a2;refine dA esl<|bN ?_;refine Ov 3 9 11 35 (h1:=λm Y x9 jh FP Q=>∃k mm F gb,FP=W k/\k+m=d-lo/\wz Q rm mm/\GB 240 4 Y F gb/\EL F/\u F<=4*(lo+k)/\SH [] H Q ([(ru,234,yj zN u1 f1 w1 c1 (rootOf rcs i) a1),(rv,180,[J T 0 0]),(E,171,[J ra rn rc,J na nn nc])]++gb)) ?_ (d-lo) ⟨0,mm,F,gb,rfl,N,g,V,hT,N,G⟩;clear G g V hT hl hc;rintro m' y3 y9 bf bg OH H6 ⟨k,mm,F,gb,rfl,bb,g,V,hT,hl,G⟩;simp only[bQ,bX]at G;refine mG (λhc=>?_) λhc=>?_
 .obtain rfl:k=d-lo:=N;refine tm ?_;refine eD ?_;refine tl ?_;refine eD ?_;exact⟨rn-(i+1),N,_,_,_,_,_,_,_,_,_,_,_,O,i+1,mm,F,gb,by rw[hh,<-y.2.2],pq,N,g,V,hT,N,fV (A:=[_]) G⟩
 have hk:k<d-lo:=N;have⟨eid,erd⟩:=hsub k hk;refine dA eid ?_;have⟨kd,ka,kn,kc,ks,t,xa,xn,xc,at',he,_,htz,_⟩:=hC.1.1 (lo+k) N;rw[he]at erd;refine G.BN erd hr2<|G.og O O O λH7 rb G a6=>?_;have g:=g.ex a6<|nofun;have G:SH [] H H7 ((rb,238,[vi kd,J ka kn kc,aJ t,J xa xn xc,vi at'])::(ru,234,yj zN u1 f1 w1 c1 (rootOf rcs i) a1)::(rv,180,[J T 0 0])::(E,171,[J ra rn rc,J na nn nc])::gb):=G;refine fF ?_;refine ME.Kj g Dp T7 eqS λay _ _=>?_;refine bN ?_
 have zO:∀{jh mm F gb Bw H8 Y},wz H8 rm mm->GB 240 4 Y F gb->EL F->u F<=4*(lo+(k+1))->SH [] H H8 ((rb,238,[vi kd,J ka kn kc,aJ t,J xa xn xc,vi at'])::(ru,234,yj zN u1 f1 w1 c1 (rootOf rcs i) a1)::(rv,180,[J T 0 0])::(E,171,[J ra rn rc,J na nn nc])::gb)->
  ∃ao,ao<m'/\zx (gV ra rn rc na nn nc) (pr E) (pr rv) (gz<|Z rm) (W lo) (pr ru) top top (J ra rn rc) (W rn) (W i) (J (Z ⟨r2,o2+lo*5,T⟩) (d-lo)<|gK 5) (W<|d-lo) top top top (λm Y x9 jh FP Q=>∃k mm F gb,FP=W k/\k+m=d-lo/\wz Q rm mm/\GB 240 4 Y F gb/\EL F/\u F<=4*(lo+k)/\SH [] H Q ([(ru,234,yj zN u1 f1 w1 c1 (rootOf rcs i) a1),(rv,180,[J T 0 0]),(E,171,[J ra rn rc,J na nn nc])]++gb)) ao
   (xF (gV ra rn rc na nn nc) (pr E) (pr rv) Y (gz<|Z rm) (W lo) (pr ru) (pr rb) jh top top (J ra rn rc) (W rn) (W i) (J (Z ⟨r2,o2+lo*5,T⟩) (d-lo)<|gK 5) (W<|d-lo) (vi<|(k:Int)+1) top top top Bw H8):=by
  intro jh mm F gb Bw H8 Y I B h3 h4 h5;exact⟨d-lo-(k+1),N,_,_,_,_,_,_,O,k+1,mm,F,gb,pq,N,I,B,h3,h4,fV (A:=[_]) h5⟩
 refine ig (λhb=>?_) λhb=>?_
 .refine eD ?_;exact zO g V hT N G
 refine QN (λaq=>?_) λaq=>?_
 .refine eD ?_;exact zO g V hT N G
 refine Oq (λar=>?_) λar=>?_
 .refine eD ?_;exact zO g V hT N G
 refine tm ?_;obtain⟨a3,n3,c3,rfl,bd,_⟩:=V.fl<|G.perm<|aG (l₁:=[_,_,_,_]);refine bN ?_;refine G.upd (.inr an) g Dp eqS λH8 mm2 U _ G=>G.qE<|dn (yU G.wf t htz) ?_;rintro v H9 ⟨rfl,GY⟩;have U:=U.ex GY<|nofun;have G:=G.call GY;have a8:=U.1;refine PU.b4 O ?_;have a4:=G.Gv U;have G:SH [] H H9 ([(rb,238,[vi kd,J ka kn kc,aJ t,J xa xn xc,vi at']),(ru,234,yj zN u1 f1 w1 c1 (rootOf rcs i) a1),(rv,180,[J T 0 0]),(E,171,[J ra rn rc,J na nn nc])]++gb):=G;have al:=G;have G:=al.base;refine aoj V hT N G (l:=[aJ t,vi (-1),vi 0,aO aA]) ⟨t,-1,0,aA,O,htz⟩ λw v' Cw iX aE ap ad=>?_;have a0:=U.ex ad.ext a4;refine bN ?_;refine tl ?_;refine eD ?_;exact zO a0 aE ap (by rw[aU];show u F+4<=_;omega)<|al.over ad
end
section
variable{S:D Nat}{cs:Nat->Prop}
def AO(rcs:D C):Nat->Nat
 |0=>0
 |i+1=>AO rcs i+(if Iv rcs i=f then 0 else 1)
def Jy(rcs:D C)(h:i<=j):AO rcs i<=AO rcs j:=by
 induction j with
 |zero=>obtain rfl:i=0:=N
        exact ax _
 |succ j d=>
  rcases dH i (j+1)with I|I
  .have:=d N;show _<=AO rcs j+_;omega
  .obtain rfl:i=j+1:=N;exact ax _
def Q_(rcs:D C):∀i,AO rcs i<=i
 |0=>ax _
 |i+1=>by
  have:=Q_ rcs i;show AO rcs i+_<=_;split<;>omega
def yf(tn lw:Nat)(l:D C):Prop:=∃k a:Nat,l=[W k,W a,W 0]/\(k=0\/(k=1/\a<tn)\/(k=2/\a<lw))
def yf.zero(tn lw:Nat):yf tn lw [vi 0,vi 0,vi 0]:=⟨0,0,O,.inl O⟩
def PT(tn lw:Nat)(m:D<|aZ×C):Prop:=∀p∈m,∃l,p.2=dN ⟨l⟩/\yf tn lw l
def Ra:vk Pg 262=Z (9,121):=fQ
def adP:zh Pg 121=Z (dN ⟨[vi 0,vi 0,vi 0]⟩):=fQ
def PT.get{lw:Nat}(h:PT tn lw m){ay:aC C}(d:∀v,ay=Z v->(k,v)∈m):∃l,ay.getD (dN ⟨[vi 0,vi 0,vi 0]⟩)=dN ⟨l⟩/\yf tn lw l:=by
 cases ay with
 |none=>exact⟨_,O,yf.zero _ _⟩
 |some v=>exact h _<|d v O
def adQ{lw rm N ru:Nat}{rn:Nat}{aa ay w:Bool}{ch d at' kd g:Int}(ac:H.bV<=rm)(B:wz H1 rm mm)(hE:PT tn lw mm)(hk:0<=g->yf tn lw [vi kd,vi g,vi 0])(G:SH [] H H1 [(N,121,[vi kd,vi g,vi 0]),(ru,234,yj nm aa ay w ch d at'),(rv,180,[J va tn vc]),(E,171,[J ra rn rc,J na nn nc])]){K:Out->Prop}(kk:∀jh I Bw Q,wz Q rm I->PT tn lw I->SH [] H Q [(rv,180,[J va tn vc]),(E,171,[J ra rn rc,J na nn nc])]->K (.norm<|qF x0 x1 (pr E) (pr rv) (J T 0 0) (gz<|Z rm) x6 x7 (pr ru) (pr N) jh mQ jY vE mO zX wB x20 TG TH J_ Ox Bw Q)):
 iC Pg X (sub zG [1,1,1,0,1,0,0,1,1,0,0,1,1,1]) (qF x0 x1 (pr E) (pr rv) (J T 0 0) (gz<|Z rm) x6 x7 (pr ru) (pr N) jh mQ jY vE mO zX wB x20 TG TH J_ Ox oW H1) K:=by
 refine tm ?_;refine ME.Kj B Ra adP eqS λfo hf _=>?_;refine bN ?_;have⟨l,e,hl⟩:=hE.get hf;rw[e];obtain⟨k1,a1,rfl,hl⟩:=hl;refine G.og O O O λH2 rt G M=>?_;have B:=B.ex M<|nofun;have G:SH [] H H2 ((rt,121,[W k1,W a1,W 0])::[(N,121,[vi kd,vi g,vi 0]),(ru,234,yj nm aa ay w ch d at'),(rv,180,[J va tn vc]),(E,171,[J ra rn rc,J na nn nc])]):=G
 have put:∀b:Bool,(b=f->0<=g)->∀jh oW,Ci oW 48=aO b->iC Pg X (sub zG [1,1,1,0,1,0,0,1,1,0,0,1,1,1,1,1]) (qF x0 x1 (pr E) (pr rv) (J T 0 0) (gz<|Z rm) x6 x7 (pr ru) (pr N) jh mQ jY vE mO zX wB x20 TG TH J_ Ox oW H2) K:=by
  intro b U jh oW V;refine tl ?_;rw[V];refine ig (λy=>?_) λy=>?_
  .refine fF ?_;refine G.upd (.inr ac) B Ra eqS λH3 mm2 Y ab G=>kk _ mm2 _ _ Y (λp hp=>?_)<|fV (A:=[_,_,_]) G;rcases ab p hp with h|rfl
   .exact hE p h
   .exact⟨_,O,hk<|U y⟩
  .exact kk _ mm _ _ B hE<|fV (A:=[_,_,_]) G
 refine ig (λU=>?_) λU=>?_
 .refine fF ?_;exact put _ gF _ _ O
 .exact put aA (λh=>by cases h) _ _ rfl
def _root_.Go.Ae.SH.aok(G:SH S H0 H L){m:Nat}(y:n<=m)(g:m<=16777216)(k:∀H1 r,SH S H0 H1 ((r,e,qd z m)::L)->Ext H H1->H.bV<=r->K (J (Z ⟨r,0,T⟩) n m) H1):ME (Go.Ae.mkS e z (W n) (W m) H) K:=
 (gM G.wf).mkS y g λH1 r d=>k H1 r (SH.frame (hx:=[]) (L:=L) G d) d.ext<|d.yu<|aK ..
def ajD(z:D C)(n:Nat):∀k,k<n->El (qd z n) (u z) k=z:=by
 induction n with
 |zero=>intro k h;omega
 |succ n d=>
  intro k h;have e:qd z (n+1)=z++qd z n:=by show app z (qd z n)=_;rw[uH]
  rw[e];cases k with
  |zero=>unfold El;simp
  |succ k=>
   have:=d k N;unfold El at this|-;rw[show(k+1)*u z=u z+k*u z by rw[iH];omega,List.drop_append,rJ N];rw[show u z+k*u z-u z=k*u z by omega];exact this
def ajE{lw rm:Nat}{rn:Nat}(hG:Gr b H ra rn rcs na nn jw)(hR:∀i,i<nn->NoR (b<=·) H i (El jw 5 i))(hV:Vo cs H va tn vcs)(d:wz H1 rm mm)(hE:PT tn lw mm)(G:SH [] H H1 [(rv,180,[J va tn vc]),(E,171,[J ra rn rc,J na nn nc])]){x8:C}:
 iC Pg X (sub zG [1,1,1,1]) (qF x0 x1 (pr E) (pr rv) (J T 0 0) (gz<|Z rm) x6 x7 x8 x9 jh mQ jY vE mO zX wB x20 TG TH J_ Ox oW H1)
  (jO Pg [.tmp 4]<|Q1 (λv Q=>∃rl F,v=J (Z ⟨rl,0,T⟩) nn nn/\H.bV<=rl/\rl<Q.bV/\Bk Q rl 121 F/\u F=nn*3/\∀i,i<nn->yf tn lw (El F 3 i)) H):=by
 have g5:=hG.2.2.2.2.1;have aE:=G.Gv d;refine tm ?_;have ar:=d.1;refine G.aok (ax _) N λH2 rl G ao a0=>G.ld 2 (o:=1) O O ?_;refine bN ?_;have d:=d.ex ao<|nofun;have g:∃F,u F=nn*3/\(∀i,i<nn->yf tn lw (El F 3 i))/\SH [] H H2 [(rl,121,F),(rv,180,[J va tn vc]),(E,171,[J ra rn rc,J na nn nc])]:=⟨_,Pp _ _,λi hi=>by rw[show(3:Nat)=[a_ bC 0,a_ bC 0,a_ bC 0].length from O,ajD _ _ _ hi];exact yf.zero _ _,G⟩;refine YA 13 14 15 61 67 (h1:=λm jY vE mO J_ Ox Q=>∃i F,J_=W i/\i+m=nn/\wz Q rm mm/\u F=nn*3/\(∀i,i<nn->yf tn lw (El F 3 i))/\SH [] H Q [(rl,121,F),(rv,180,[J va tn vc]),(E,171,[J ra rn rc,J na nn nc])]) ?_ nn ⟨0,g.choose,rfl,N,d,g.choose_spec.1,g.choose_spec.2.1,g.choose_spec.2.2⟩;clear G d g;rintro m jY vE mO J_ Ox oW H3 ⟨i,F,rfl,aw,d,M,U,G⟩;refine mG (λhc=>?_) λhc=>?_
 .refine tl<|rr ?_;exact⟨⟨rl,F,O,G.yu<|aK ..,(G.lo _<|aK ..).2,G.get 0 O,M,U⟩,G.ext⟩
 have hi:i<nn:=N;have⟨kd,ka,kn,kc,ks,t,xa,xn,xc,at',he,_,htz,_⟩:=hR i hi;have⟨r2,o2,e2,hr2,hrd,_⟩:=hG.no hi nc he;rw[e2];refine bN ?_;refine G.BN hrd hr2<|G.og O O O λH4 rb G ap=>?_;have d:=d.ex ap<|nofun;have G:SH [] H H4 ((rb,238,[vi kd,J ka kn kc,aJ t,J xa xn xc,vi at'])::[(rl,121,F),(rv,180,[J va tn vc]),(E,171,[J ra rn rc,J na nn nc])]):=G
 have zO:∀{mO Ox Bw y F},wz y rm mm->u F=nn*3->(∀i,i<nn->yf tn lw (El F 3 i))->SH [] H y ((rb,238,[vi kd,J ka kn kc,aJ t,J xa xn xc,vi at'])::[(rl,121,F),(rv,180,[J va tn vc]),(E,171,[J ra rn rc,J na nn nc])])->
  ∃ac,ac<m/\Bc x0 x1 (pr E) (pr rv) (J T 0 0) (gz<|Z rm) x6 x7 x8 x9 jh (J (Z ⟨rl,0,T⟩) nn nn) zX wB x20 (J na nn nc) (W nn) (λm jY vE mO J_ Ox Q=>∃i F,J_=W i/\i+m=nn/\wz Q rm mm/\u F=nn*3/\(∀i,i<nn->yf tn lw (El F 3 i))/\SH [] H Q [(rl,121,F),(rv,180,[J va tn vc]),(E,171,[J ra rn rc,J na nn nc])]) ac
   (qF x0 x1 (pr E) (pr rv) (J T 0 0) (gz<|Z rm) x6 x7 x8 x9 jh (J (Z ⟨rl,0,T⟩) nn nn) (W i) (pr rb) mO zX wB x20 (J na nn nc) (W nn) (vi<|(i:Int)+1) Ox Bw y):=by
  intro mO Ox Bw y F I B Y h4;exact⟨nn-(i+1),N,_,_,_,_,_,_,_,O,i+1,F,pq,N,I,B,Y,fV (A:=[_]) h4⟩
 have put:∀{y l}{K:C->C->R->Prop},wz y rm mm->yf tn lw l->SH [] H y ((rb,238,[vi kd,J ka kn kc,aJ t,J xa xn xc,vi at'])::[(rl,121,F),(rv,180,[J va tn vc]),(E,171,[J ra rn rc,J na nn nc])])->
  (∀p V F,wz V rm mm->u F=nn*3->(∀i,i<nn->yf tn lw (El F 3 i))->SH [] H V ((rb,238,[vi kd,J ka kn kc,aJ t,J xa xn xc,vi at'])::[(rl,121,F),(rv,180,[J va tn vc]),(E,171,[J ra rn rc,J na nn nc])])->K p undef V)->
  PU (BS 3 (J (Z ⟨rl,0,T⟩) nn nn)<|W i) λp=>ME (GU 3 p (dN ⟨l⟩) y) (K p):=by
  intro y l K d hl G kk;refine dA (uK hi) ?_;rw[bB];obtain⟨k1,a1,rfl,_⟩:=id hl;have hO:=G.base;refine hO.st 1 O O (by show i*3+3<=u F;omega) rfl λV ab=>?_;have an:=G.Gv d;refine kk _ V _ (d.ex ab.ext an) (by rw[o_ (by show i*3+3<=u F;omega)];exact M) (λk hk=>?_)<|G.over ab;show yf tn lw<|El (splice F (i*3) [W k1,W a1,W 0]) 3 k;rw[Pw (es:=3) (k:=i) O N];split
  .exact hl
  .exact U k hk
 refine ym (λad=>?_) λad=>?_
 .refine G.qE<|ME.aii d Ra adP eqS λfo hf _=>?_;have⟨l,e,hl⟩:=hE.get hf;rw[e];refine put d hl G λp V F I B Y h4=>?_;refine eD ?_;exact zO I B Y h4
 refine nO (λal=>?_) λal=>?_
 .refine eD ?_;exact zO d M U G
 refine fF ?_;refine G.cm (OJ G.wf ⟨hV.1.ex G.ext,hV.2⟩ t) ?_;rintro v y ⟨z,rfl,a2,a3⟩ aq G;have d:=d.ex aq<|nofun;refine tJ (λam=>?_) λam=>?_
 .obtain⟨z,rfl⟩:∃n:Nat,z=n:=⟨z.toNat,N⟩;refine PU.b3 O<|put (l:=[vi 1,W z,vi 0]) d ⟨1,z,O,.inr<|.inl ⟨O,N⟩⟩ G λp V F I B Y h4=>?_;refine eD ?_;exact zO I B Y h4
 .refine eD ?_;exact zO d M U G
def Wy(hw:Wf H){rn:Nat}(V:Gr b H ra rn rcs na nn jw)(hR:∀i,i<nn->NoR (b<=·) H i (El jw 5 i))(Y:Vo cs H va tn vcs):bM Pg X 123 [gV ra rn rc na nn nc,vV va tn vc] H
 (Q1 (λv Q=>∃rl F,v=J (Z ⟨rl,0,T⟩) nn nn/\H.bV<=rl/\rl<Q.bV/\Bk Q rl 121 F/\u F=nn*3/\∀i,i<nn->yf tn (AO rcs rn) (El F 3 i)) H):=by
 have M:=V.2.1;have G:=gM hw;refine lF [0,1,2,3,4,5,6,7,8,9,11,12,13,14,15,18,19,20,59,60,61,67] ?_;refine G.box O λH1 E G=>?_;refine G.box O λH2 rv G=>?_;have am:=G.ext.bV;refine ME.adN G Ra λH3 rm d ap y G=>?_;have y:H.bV<=rm:=N;refine fF ?_;refine lp6 6 7 8 9 11 20 (h1:=λm x6 x7 x8 x9 jh x20 Q=>∃i mm,x6=W (AO rcs i)/\x20=W i/\i+m=rn/\wz Q rm mm/\PT tn (AO rcs rn) mm/\SH [] H Q [(rv,180,[J va tn vc]),(E,171,[J ra rn rc,J na nn nc])]) ?_ rn ⟨0,[],rfl,rfl,N,d,nofun,G⟩;clear G d;rintro m x6 x7 x8 x9 jh x20 oW H4 ⟨i,mm,rfl,rfl,an,d,hE,G⟩;refine mG (λhc=>?_) λhc=>?_
 .exact ajE V hR Y d hE G
 have hi:i<rn:=N;have⟨r1,o1,zN,u1,f1,w1,c1,a1,e1,hl1,Be,uR,hsz,hel⟩:=V.ru hi rc;rw[e1];refine bN ?_;refine G.BN Be hl1<|G.og O O O λH5 ru G ab=>?_;have d:=d.ex ab<|nofun;refine PU.b3 O<|G.og O O O λH6 re G ac=>?_;have d:=d.ex ac<|nofun;have G:SH [] H H6 [(re,121,[vi 2,W<|AO rcs i,vi 0]),(ru,234,yj zN u1 f1 w1 c1 (rootOf rcs i) a1),(rv,180,[J va tn vc]),(E,171,[J ra rn rc,J na nn nc])]:=G;have g:AO rcs (i+1)=AO rcs i+(if Iv rcs i=f then 0 else 1):=rfl;rw[Lj hel]at g;have ao:=Jy rcs (show i+1<=rn by omega);have al:=Q_ rcs i;refine QN (λhb=>?_) λhb=>?_
 .rw[jj hb]at g;apply G.jl;refine G.cm (Ww G.wf ⟨Y.1.ex G.ext,Y.2⟩ i) ?_;rintro v H7 ⟨z,rfl,aq,ar⟩ ad G;have d:=d.ex ad<|nofun;refine PU.b3 O ?_;have hO:=G.base;refine hO.st 0 O O (ax 3) O λH8 I=>?_;have d:=d.ex I.ext<|G.Gv d;have G:SH [] H H8 [(re,121,[vi 1,vi z,vi 0]),(ru,234,yj zN u1 f1 w1 c1 (rootOf rcs i) a1),(rv,180,[J va tn vc]),(E,171,[J ra rn rc,J na nn nc])]:=G.over I
  refine adQ y d hE (λh0=>by
   obtain⟨z,rfl⟩:∃n:Nat,z=n:=⟨z.toNat,N⟩;exact⟨1,z,O,.inr<|.inl ⟨O,N⟩⟩) G λjh B Bw H9 U M g3=>?_
  refine bN ?_;refine tl ?_;refine eD ?_;exact⟨rn-(i+1),N,_,_,_,_,_,_,_,_,O,i+1,B,by rw[g];rfl,pq,N,U,M,g3⟩
 .rw[jx (by rw[hb];simp)]at g;refine eD ?_;rw[show((AO rcs i:Int)+1)=((AO rcs (i+1):Nat):Int) by omega];refine adQ y d hE (λh0=>⟨2,AO rcs i,rfl,.inr<|.inr ⟨rfl,N⟩⟩) G λjh B Bw H9 U M g3=>?_;refine bN ?_;refine tl ?_;refine eD ?_;exact⟨rn-(i+1),N,_,_,_,_,_,_,_,_,O,i+1,B,O,pq,N,U,M,g3⟩
end
section
variable{S:D Nat}{cs:Nat->Prop}
def YL(cs:Nat->Prop)(H:R)(nn:Nat)(jw:D C)(kd:Nat->Int)(zs:Nat->D Nat):Prop:=∀i,i<nn->∃(a:aC Addr)(c:Nat)(t:aZ)(d:aC Addr)(y g:Nat)(at':Int),El jw 5 i=[vi (kd i),J a (u<|zs i) c,aJ t,J d y g,vi at']/\jC cs 3 H a (u<|zs i) 1 (gq<|zs i)/\Nl (kd i) (u<|zs i)/\(∀z∈zs i,z<i)/\t.size<=1000000/\u (zs i)<=20001
def YM:∀{ks:D C}{i:Nat},(∀x∈ks,∃z:Nat,x=W z/\z<i)->∃zs,ks=gq zs/\∀z∈zs,z<i
 |[],i,h=>⟨[],rfl,nofun⟩
 |x::ks,i,h=>by
  obtain⟨z,rfl,d⟩:=h x<|aK ..
  obtain⟨zs,rfl,B⟩:=YM (ks:=ks) (i:=i) λy hy=>h y<|bJ _ hy
  exact⟨z::zs,O,λy hy=>by
   rcases bW.1 hy with rfl|hy
   .exact d
   .exact B y hy⟩
theorem YL.of{nn:Nat}{jw:D C}(h:∀i,i<nn->NoR cs H i (El jw 5 i)):∃kd zs,YL cs H nn jw kd zs:=by
 have key:∀i,∃p:Int×D Nat,i<nn->∃(a:aC Addr)(c:Nat)(t:aZ)(d:aC Addr)(y g:Nat)(at':Int),El jw 5 i=[vi p.1,J a (u p.2) c,aJ t,J d y g,vi at']/\jC cs 3 H a (u p.2) 1 (gq p.2)/\Nl p.1 (u p.2)/\(∀z∈p.2,z<i)/\t.size<=1000000/\u p.2<=20001:=by
  intro i
  by_cases hi:i<nn
  .have⟨kd,a,n,c,ks,t,d,y,g,at',I,B,h3,h4,h5,h6⟩:=h i hi;obtain⟨zs,rfl,M⟩:=YM h6;have:n=u zs:=by have:=h4.1.1;simp at this;omega
   subst this;exact⟨(kd,zs),λ_=>⟨a,c,t,d,y,g,at',I,h4,h5,M,h3,B⟩⟩
  .exact⟨(0,[]),λh=>absurd h hi⟩
 exact⟨λi=>(jI<|key i).1,λi=>(jI<|key i).2,λi hi=>mZ (key i) hi⟩
def vn(ws:D Nat)(i:Nat):Nat:=ws[i]?.getD 0
def GZ(kd:Int):Nat:=if kd=0 then 2 else if kd=1 then 0 else if kd=2\/kd=3\/kd=4 then 3 else 1
def KV(kd:Int):Nat:=if kd=0 then 1 else 0
def sP(ws:D Nat)(kd:Int)(l:D Nat):Nat:=(l.map λz=>vn ws z+KV kd).sum
def Iy(kd:Nat->Int)(zs:Nat->D Nat)(ws:D Nat)(i:Nat):Prop:=vn ws i=min (GZ (kd i)+sP ws (kd i) (zs i)) 4001
def ail{z:Nat}(h:z≠i):vn (ws.set i x) z=vn ws z:=by
 unfold vn;rw[dX,jx λe=>h e.symm]
def ajF(h:i<u ws):vn (ws.set i x) i=x:=by
 unfold vn;rw[dX,jj O,jj h];rfl
def Ui{kd:Int}{l:D Nat}(h:∀z∈l,z<i):sP (ws.set i x) kd l=sP ws kd l:=by
 unfold sP;congr 1;apply List.map_congr_left;intro z d;rw[ail (by have:=h z d;omega)]
def amo(h:Iy kd zs ws i):vn ws i<=4001:=by
 unfold Iy at h;omega
def aom{rs rr rn rb:Nat}{xa:aC Addr}{t:aZ}{xn xc:Nat}{at':Int}(aE:nn<=4000)(hi:i<nn)(ao:u ws=nn)(am:u bs=nn)(hf:jC cs 3 H a (u<|zs i) 1<|gq<|zs i)(al:∀j,j<nn->∀z∈zs j,z<j)(a1:u (zs i)<=20001)(hd:∀j,j<i->Iy kd zs ws j)(G:SH [] H H1 [(rb,238,[vi (kd i),J a (u<|zs i) c,aJ t,J xa xn xc,vi at']),(rr,4,bools bs),(rs,3,gq ws),(E,171,[J ra rn rc,J na nn nc])]){d g y Oy Jq B:C}{K:Out->Prop}(kk:∀V jh jY Oy Jq B U Y Bw Q,u U=nn->u Y=nn->(∀j,j<i+1->Iy kd zs U j)->SH [] H Q [(rb,238,[vi (kd i),J a (u<|zs i) c,aJ t,J xa xn xc,vi at']),(rr,4,bools Y),(rs,3,gq U),(E,171,[J ra rn rc,J na nn nc])]->
  K (.norm<|um x0 x1 (pr E) x4 x5 (J (Z ⟨rs,0,T⟩) nn nn) (J (Z ⟨rr,0,T⟩) nn nn) (W i) (pr rb) V jh jY zK d g y Oy Jq B Bw Q)):
 iC Pg X (sub pI [1,1,1,0,1,0,0,1,1,0,0,1,1,1]) (um x0 x1 (pr E) x4 x5 (J (Z ⟨rs,0,T⟩) nn nn) (J (Z ⟨rr,0,T⟩) nn nn) (W i) (pr rb) (W<|GZ<|kd i) (aO ok) jY zK d g y Oy Jq B oW H1) K:=by
 have hz:=al i hi;have ar:GZ (kd i)<=3:=by unfold GZ;split<;>(try split)<;>(try split)<;>omega
 refine tm ?_;refine Ov 10 11 13 51 (h1:=λm V jh jY B Q=>∃(k:Nat)(o:Bool),B=W k/\k+m=u (zs i)/\V=W (min (GZ (kd i)+sP ws (kd i) ((zs i).take k)) 4001)/\jh=aO o/\SH [] H Q [(rb,238,[vi (kd i),J a (u<|zs i) c,aJ t,J xa xn xc,vi at']),(rr,4,bools bs),(rs,3,gq ws),(E,171,[J ra rn rc,J na nn nc])]) ?_ (u<|zs i) ⟨0,ok,rfl,N,by rw[kR,show sP ws (kd i) []=0 from O,dZ,jF N];rfl,rfl,G⟩;clear G;rintro m V jh jY B oW H2 ⟨k,o,rfl,aw,rfl,rfl,G⟩;refine mG (λhc=>?_) λhc=>?_
 .obtain rfl:k=u (zs i):=N;rw[jL];refine tp ?_;rw[show min ((min (GZ (kd i)+sP ws (kd i) (zs i)) 4001:Nat):Int) 4001=((min (GZ (kd i)+sP ws (kd i) (zs i)) 4001:Nat):Int) by omega];refine G.Yi hi (by simpa using(by omega:i<u ws)) (kk:=λp H3 G=>?_);refine G.Yi hi (by simpa using(by omega:i<u bs)) (kk:=λp H4 G=>?_);have e1:(gq ws).set i (W<|min (GZ (kd i)+sP ws (kd i) (zs i)) 4001)=gq (ws.set i<|min (GZ (kd i)+sP ws (kd i) (zs i)) 4001):=gW.symm;have e2:(bools bs).set i (aO o)=bools (bs.set i o):=gW.symm;rw[e1,e2]at G;refine kk _ _ _ _ _ _ _ _ _ _ (by rw[bU];exact ao) (by rw[bU];exact am) (λj hj=>?_) G;unfold Iy;rcases dH j i with h|h
  .rw[ail N,Ui λz aq=>Nat.lt_trans (al j N z aq) h];exact hd j h
  .obtain rfl:j=i:=N;rw[ajF N,Ui hz]
 have hk:k<u (zs i):=N;have US:(zs i)[k]?=Z (zs i)[k]:=av hk;have ad:=hz _<|bH hk;refine(hf.ex G.ext).ix hk (jV _ US) λp=>?_;have M:(zs i)[k]<nn:=N
 have ac:sP ws (kd i) ((zs i).take<|k+1)=sP ws (kd i) ((zs i).take k)+(vn ws (zs i)[k]+KV (kd i)):=by
  unfold sP;rw[dU,US];show(List.map _<|_++[_]).sum=_;rw[dK,nL];rfl
 generalize(zs i)[k]=z at US ad M ac|-;have a0:vn ws z<=4001:=amo<|hd z ad
 have ap:(gq ws)[z]?=Z (W<|vn ws z):=by
  rw[bL,av (show z<u ws by omega)];show _=Z (W<|ws[z]?.getD 0);rw[av (show z<u ws by omega)];rfl
 obtain⟨bz,an⟩:∃b,bs[z]?=Z b:=⟨_,av N⟩;refine G.ix M ap λp=>?_;refine eD ?_;refine fF ?_
 have ab:∀(au:Int),au=((min (GZ (kd i)+sP ws (kd i) ((zs i).take k)) 4001:Nat):Int)+(vn ws z:Int)+(KV (kd i):Int)->∀oW,iC Pg X (sub pI [1,1,1,0,1,0,0,1,1,0,0,1,1,1,0,1,0,0,1,1,0,0,1,1,1]) (um x0 x1 (pr E) x4 x5 (J (Z ⟨rs,0,T⟩) nn nn) (J (Z ⟨rr,0,T⟩) nn nn) (W i) (pr rb) (vi au) (aO o) (W z) zK d g y (J a (u<|zs i) c) (W<|u<|zs i) (W k) oW H2)
  (uk 4<|uQ Pg X (sub pI [1,1,1,0,1,0,0,1,1,0,0,1,1,1,0,1,0,0,1,1,1])<|IU (yT x0 x1 (pr E) x4 x5 (J (Z ⟨rs,0,T⟩) nn nn) (J (Z ⟨rr,0,T⟩) nn nn) (W i) (pr rb) zK d g y (J a (u<|zs i) c) (W<|u<|zs i) λm V jh jY B Q=>∃(k:Nat)(o:Bool),B=W k/\k+m=u (zs i)/\V=W (min (GZ (kd i)+sP ws (kd i) ((zs i).take k)) 4001)/\jh=aO o/\SH [] H Q [(rb,238,[vi (kd i),J a (u<|zs i) c,aJ t,J xa xn xc,vi at']),(rr,4,bools bs),(rs,3,gq ws),(E,171,[J ra rn rc,J na nn nc])]) m<|uk 3<|uQ Pg X (sub pI [1,1,1,0,1,0,0,1,1,0,0,1,1,1,1]) K):=by
  intro au hT oW;refine tp ?_;have eT:min au 4001=((min (GZ (kd i)+sP ws (kd i) ((zs i).take<|k+1)) 4001:Nat):Int):=by rw[hT,ac];omega
  rw[eT];refine ig (λhb=>?_) λhb=>?_
  .refine G.ix (v:=aO bz) M (jV _ an) λp=>tl ?_;refine eD ?_;exact⟨u (zs i)-(k+1),N,_,_,_,_,_,_,O,k+1,bz,pq,N,O,O,G⟩
  .refine tl ?_;refine eD ?_;exact⟨u (zs i)-(k+1),N,_,_,_,_,_,_,O,k+1,aA,pq,N,O,O,G⟩
 refine aV (λI=>?_) λI=>?_
 .refine eD ?_;exact ab _ (by unfold KV;rw[jj I];rfl) _
 .exact ab _ (by unfold KV;rw[jx I];rfl) _
def Wz(hw:Wf H){rl:Nat}{rn:Nat}{V:D C}{lw lc:Nat}(hG:Gr b H ra rn rcs na nn jw)(ac:YL cs H nn jw kd zs)(hl:Bk H rl 121 V)(aE:rl<H.bV)(a4:u V=nn*3)(aw:∀i,i<nn->yf tn lw (El V 3 i)):
 bM Pg X 124 [gV ra rn rc na nn nc,J (Z ⟨rl,0,T⟩) nn lc] H (Q1 (λv Q=>∃rs rr ws bs,v=fJ ⟨[J (Z ⟨rs,0,T⟩) nn nn,J (Z ⟨rr,0,T⟩) nn nn]⟩/\(H.bV<=rs/\rs<Q.bV)/\(H.bV<=rr/\rr<Q.bV)/\Bk Q rs 3 (gq ws)/\Bk Q rr 4 (bools bs)/\u ws=nn/\u bs=nn/\∀j,j<nn->Iy kd zs ws j) H):=by
 have g5:=hG.2.2.2.2.1;have a0:∀j,j<nn->∀z∈zs j,z<j:=λj hj=>by obtain⟨_,_,_,_,_,_,_,_,_,_,h,_⟩:=ac j hj;exact h
 have G:=gM hw;refine lF [0,1,2,4,5,6,7,8,9,10,11,13,23,24,25,31,49,50,51] ?_;refine G.box O λH1 E G=>?_;refine fF ?_;refine G.mkS (ax _) N λH2 rs G=>?_;rw[nC]at G;refine fF ?_;refine G.mkS (ax _) N λH3 rr G=>?_;rw[nC]at G;refine fF ?_;have hz:aY nn (a_ bC 0)=gq (aY nn 0):=gB;have hb:aY nn (aO aA)=bools (aY nn aA):=gB;rw[hz,hb]at G;have G:SH [] H H3 [(rr,4,bools<|aY nn aA),(rs,3,gq<|aY nn 0),(E,171,[J ra rn rc,J na nn nc])]:=G;refine ajl 8 9 10 11 13 25 31 49 50 51 (h1:=λm x8 x9 M jh jY g Y Oy Jq Fx Q=>∃i ws bs,g=W i/\i+m=nn/\u ws=nn/\u bs=nn/\(∀j,j<i->Iy kd zs ws j)/\SH [] H Q [(rr,4,bools bs),(rs,3,gq ws),(E,171,[J ra rn rc,J na nn nc])]) ?_ nn ⟨0,_,_,rfl,N,gB,gB,λj h=>N,G⟩;clear G hz hb;rintro m x8 x9 M jh jY g Y Oy Jq Fx oW H4 ⟨i,ws,bs,rfl,a3,al,ad,hd,G⟩;refine mG (λhc=>?_) λhc=>?_
 .refine tl ?_;obtain rfl:i=nn:=N;refine Lu.rr ?_;exact⟨⟨rs,rr,ws,bs,O,⟨G.yu<|aT (i:=1) O,(G.lo _<|aT (i:=1) O).2⟩,⟨G.yu<|aK ..,(G.lo _<|aK ..).2⟩,G.get 1 O,G.get 0 O,al,ad,hd⟩,G.ext⟩
 have hi:i<nn:=N;have⟨a,c,t,xa,xn,xc,at',he,hf,ab,_,htz,hzl⟩:=ac i hi;have⟨r2,o2,e2,hr2,hrd,_⟩:=hG.no hi nc he;rw[e2];refine bN ?_;refine G.BN hrd hr2<|G.og O O O λH5 rb G a5=>?_;have G:SH [] H H5 [(rb,238,[vi (kd i),J a (u<|zs i) c,aJ t,J xa xn xc,vi at']),(rr,4,bools bs),(rs,3,gq ws),(E,171,[J ra rn rc,J na nn nc])]:=G;refine fF ?_
 have d:∀(ok:Bool){M:C},M=W (GZ<|kd i)->∀{oW},iC Pg X (sub pI [1,1,1,0,1,0,0,1,1,0,0,1,1,1]) (um (gV ra rn rc na nn nc) (J (Z ⟨rl,0,T⟩) nn lc) (pr E) (J T 0 0) (J T 0 0) (J (Z ⟨rs,0,T⟩) nn nn) (J (Z ⟨rr,0,T⟩) nn nn) (W i) (pr rb) M (aO ok) jY (J na nn nc) (W nn) (W i) (vi<|kd i) Oy Jq Fx oW H5)
  (uk 1<|uQ Pg X (sub pI [1,1,1,0,1,0,0,1,1,1])<|IU (zL (gV ra rn rc na nn nc) (J (Z ⟨rl,0,T⟩) nn lc) (pr E) (J T 0 0) (J T 0 0) (J (Z ⟨rs,0,T⟩) nn nn) (J (Z ⟨rr,0,T⟩) nn nn) (J na nn nc) (W nn) λm x8 x9 M jh jY g Y Oy Jq Fx Q=>∃i ws bs,g=W i/\i+m=nn/\u ws=nn/\u bs=nn/\(∀j,j<i->Iy kd zs ws j)/\SH [] H Q [(rr,4,bools bs),(rs,3,gq ws),(E,171,[J ra rn rc,J na nn nc])]) m<|uk 0<|uQ Pg X (sub pI [1,1,1,1])<|jO Pg [.tmp 4,.tmp 5]<|Q1 (λv Q=>∃rs rr ws bs,v=fJ ⟨[J (Z ⟨rs,0,T⟩) nn nn,J (Z ⟨rr,0,T⟩) nn nn]⟩/\(H.bV<=rs/\rs<Q.bV)/\(H.bV<=rr/\rr<Q.bV)/\Bk Q rs 3 (gq ws)/\Bk Q rr 4 (bools bs)/\u ws=nn/\u bs=nn/\∀j,j<nn->Iy kd zs ws j) H):=by
  intro ok M an oW;subst an;refine aom g5 hi al ad hf a0 hzl hd G λM jh jY Oy Jq Fx a2 am Bw Q I B h3 h4=>?_;refine bN ?_;refine tl ?_;refine eD ?_;exact⟨nn-(i+1),N,_,_,_,_,_,_,_,_,_,_,_,_,O,i+1,a2,am,pq,N,I,B,h3,fV (A:=[_]) h4⟩
 have y:∀(b:Bool){jh:C}{ok:Bool}{oW},jh=aO ok->(b=f->GZ (kd i)=1)->(b=aA->GZ (kd i)=0)->Ci oW 38=aO b->iC Pg X (sub pI [1,1,1,0,1,0,0,1,1,0,0,1,1,0,1,0,1,1,1,1,1]) (um (gV ra rn rc na nn nc) (J (Z ⟨rl,0,T⟩) nn lc) (pr E) (J T 0 0) (J T 0 0) (J (Z ⟨rs,0,T⟩) nn nn) (J (Z ⟨rr,0,T⟩) nn nn) (W i) (pr rb) (W 0) jh jY (J na nn nc) (W nn) (W i) (vi<|kd i) Oy Jq Fx oW H5)
  (uk 2<|uQ Pg X (sub pI [1,1,1,0,1,0,0,1,1,0,0,1,1,1])<|uk 1<|uQ Pg X (sub pI [1,1,1,0,1,0,0,1,1,1])<|IU (zL (gV ra rn rc na nn nc) (J (Z ⟨rl,0,T⟩) nn lc) (pr E) (J T 0 0) (J T 0 0) (J (Z ⟨rs,0,T⟩) nn nn) (J (Z ⟨rr,0,T⟩) nn nn) (J na nn nc) (W nn) λm x8 x9 M jh jY g Y Oy Jq Fx Q=>∃i ws bs,g=W i/\i+m=nn/\u ws=nn/\u bs=nn/\(∀j,j<i->Iy kd zs ws j)/\SH [] H Q [(rr,4,bools bs),(rs,3,gq ws),(E,171,[J ra rn rc,J na nn nc])]) m<|uk 0<|uQ Pg X (sub pI [1,1,1,1])<|jO Pg [.tmp 4,.tmp 5]<|Q1 (λv Q=>∃rs rr ws bs,v=fJ ⟨[J (Z ⟨rs,0,T⟩) nn nn,J (Z ⟨rr,0,T⟩) nn nn]⟩/\(H.bV<=rs/\rs<Q.bV)/\(H.bV<=rr/\rr<Q.bV)/\Bk Q rs 3 (gq ws)/\Bk Q rr 4 (bools bs)/\u ws=nn/\u bs=nn/\∀j,j<nn->Iy kd zs ws j) H):=by
  intro b jh ok oW ao aq ap ar;subst ao;refine tl ?_;rw[ar];refine ig (λhb=>?_) λhb=>?_
  .have⟨k1,a1,hle,_⟩:=aw i hi;refine dA (uK hi)<|bN ?_
   have U:H.cell rl (i*3)=Z (W k1):=by
    apply hl.cell;have:=eY (λl=>l[0]?) hle;simp only[oN]at this;simpa using this
   refine G.Jk U aE ?_;refine fF ?_;exact d _ (by rw[aq hb];rfl)
  .refine bN ?_;exact d ok (by rw[ap hb])
 refine aV (λh0=>?_) λh0=>?_
 .exact d f (by unfold GZ;rw[jj h0];rfl)
 have b3:kd i=2\/kd i=3\/kd i=4->GZ (kd i)=3:=λh=>by unfold GZ;rw[jx N,jx N,jj h]
 have b1:kd i=5\/kd i=6\/kd i=7->GZ (kd i)=1:=λh=>by unfold GZ;rw[jx N,jx N,jx N]
 refine aV (λB=>?_) λB=>?_
 .refine tp ?_;refine aV (λ_=>?_) λh=>absurd B h;exact d f (by rw[b3 N]<;>rfl)
 refine aV (λh3=>?_) λh3=>?_
 .refine tp ?_;refine aV (λ_=>?_) λh=>absurd h3 h;exact d f (by rw[b3 N]<;>rfl)
 refine tK (λh4=>?_) λh4=>?_
 .exact d f (by rw[b3 N]<;>rfl)
 refine aV (λh5=>?_) λh5=>?_
 .exact y (decide<|kd i=5) O (λ_=>b1 N) (λh=>absurd h5<|oQ h) O
 refine aV (λh6=>?_) λh6=>?_
 .exact y (decide<|kd i=6) O (λ_=>b1 N) (λh=>absurd h6<|oQ h) O
 exact y (decide<|kd i=7) O (λh=>b1 (by have:=gF h;omega)) (λh=>by
  have h7:=oQ h;have:kd i=1:=by rcases ab with h|h|h|h<;>omega
  unfold GZ;rw[jx h0,jj this]) O
end
section
open Go.Ae
abbrev Ed:=Nat×Nat×Nat
structure At where
 nm:D aZ
 st:D Nat
 sp:D Nat
 ow:D Nat
 eg:D (D Ed)
 ty:Nat
namespace At
variable{i k n r s:Nat}{e:Ed}{w:Ed->Prop}{tok:Bool}{A:At}
def nr(A:At):Nat:=u A.nm
def ns(A:At):Nat:=u A.ow
def S(A:At)(r:Nat):Nat:=A.st[r]?.getD 0
def P(A:At)(r:Nat):Nat:=A.sp[r]?.getD 0
def aj(A:At)(s:Nat):Nat:=A.ow[s]?.getD 0
def rg(A:At)(s:Nat):D Ed:=A.eg[s]?.getD []
def agv(A:At)(e:Ed):Prop:=e.1=0\/(e.1=1/\e.2.1<A.ty)\/(e.1=2/\e.2.1<A.nr)
structure Ok(A:At):Prop where
 pos:0<A.nr
 YN:u A.st=A.nr
 YO:u A.sp=A.nr
 AX:u A.eg=A.ns
 big:A.ns<=4000
 few:A.nr<=1000
 s:∀r,r<A.nr->A.S r<A.ns/\A.aj (A.S r)=r
 p:∀r,r<A.nr->A.P r<A.ns/\A.aj (A.P r)=r
 o:∀s,s<A.ns->A.aj s<A.nr
 e:∀s,s<A.ns->∀e∈A.rg s,e.2.2<A.ns/\A.aj e.2.2=A.aj s/\A.agv e
 tot:(A.eg.map u).sum<=100000
def Uj(h:u A.eg=A.ns)(hs:¬s<A.ns):A.rg s=[]:=by
 unfold rg;rw[dB N];rfl
inductive Mk(A:At)(tok:Bool):Nat->Prop
 |stop (r:Nat):r<A.nr->Mk A tok (A.P r)
 |edge (s:Nat) (e:Ed):e∈A.rg s->(e.1=1->tok=f)->(e.1=2->Mk A tok (A.S e.2.1))->Mk A tok e.2.2->Mk A tok s
inductive Rc(A:At)(ay:Nat->Prop)(w:Ed->Prop):Nat->Prop
 |base (s:Nat):ay s->Rc A ay w s
 |step (s:Nat) (e:Ed):Rc A ay w s->e∈A.rg s->w e->Rc A ay w e.2.2
def leads(A:At)(e:Ed):Prop:=A.Mk f e.2.2/\(e.1=2->A.Mk f (A.S e.2.1))
def isS(A:At)(s:Nat):Prop:=∃r,r<A.nr/\s=A.S r
def met(A:At)(s:Nat):Prop:=A.Rc A.isS A.leads s
open Classical in
def Nu(A:At)(s:Nat):D Ed:=if A.met s then(A.rg s).filter (λe=>decide<|A.leads e)else[]
def trim(A:At):At:={A with eg:=(d_ A.ns).map A.Nu}
def WA(h:A.Ok)(s:Nat):A.trim.rg s=A.Nu s:=by
 show((d_ A.ns).map A.Nu)[s]?.getD []=_
 by_cases hs:s<A.ns
 .rw[bL,tX hs];rfl
 .rw[dB (om hs)];show[]=A.Nu s;unfold Nu;rw[Uj h.AX hs];split<;>rfl
def agw:e∈A.Nu s<->A.met s/\e∈A.rg s/\A.leads e:=by
 classical
 unfold Nu;split
 .next h=>simp[h]
 .next h=>simp[h]
def EM(h:A.Ok):e∈A.trim.rg s<->A.met s/\e∈A.rg s/\A.leads e:=by rw[WA h];exact agw
def adR{l:D (D Ed)}{ay:Nat->D Ed}(d:∀i(h:i<u l),u (ay i)<=u (l[i]))(g:n<=u l):(((d_ n).map ay).map u).sum<=(l.map u).sum:=by
 have key:∀n,n<=u l->(((d_ n).map ay).map u).sum<=((l.take n).map u).sum:=by
  intro n
  induction n with
  |zero=>intro _;simp
  |succ n y=>
   intro h;have I:=y N;have B:=d n N;rw[wZ,dU,av N];simp only[dK,nL,i_,kI,qB,zB,Option.toList]at I|-;omega
 refine aR (key n g) ?_
 have:(l.map u).sum=((l.take n).map u).sum+((l.drop n).map u).sum:=by
  rw[<-nL,<-dK,jb]
 omega
def pre(A:At)(i:Nat):Nat:=((A.eg.take i).map u).sum
def AP(h:A.Ok)(i:Nat):A.pre i<=100000:=by
 have:(A.eg.map u).sum=A.pre i+((A.eg.drop i).map u).sum:=by
  unfold pre;rw[<-nL,<-dK,jb]
 have:=h.tot;omega
def yg(h:A.Ok)(hi:i<A.ns):A.pre (i+1)=A.pre i+u (A.rg i):=by
 unfold pre rg;have:i<u A.eg:=by rw[h.AX];exact hi
 rw[dU,av this];simp only[dK,nL,i_,kI,qB,zB,Option.toList,p9];omega
def Ok.len(h:A.Ok)(s:Nat):u (A.rg s)<=100000:=by
 by_cases hs:s<A.ns
 .have:=yg h hs;have:=AP h<|s+1;omega
 .rw[Uj h.AX hs];simp
theorem Ll(h:A.Ok):A.trim.Ok where
 pos:=h.pos
 YN:=h.YN
 YO:=h.YO
 AX:=by show u ((d_ A.ns).map A.Nu)=A.ns;simp
 big:=h.big
 few:=h.few
 s:=h.s
 p:=h.p
 o:=h.o
 e:=λs hs e d=>h.e s hs e ((EM h).1 d).2.1
 tot:=aR (adR (λi hi=>by
  classical
  have:A.rg i=A.eg[i]:=by unfold rg;rw[av hi];rfl
  unfold Nu;split
  .rw[this];exact m_ _ _
  .exact bD _) (rQ h.AX.symm)) h.tot
def Mk.mono{tok:Bool}{s:Nat}(h:A.Mk tok s):A.Mk f s:=by
 induction h with
 |stop r B=>exact .stop r B
 |edge s e y _ _ _ d g=>exact .edge s e y (λ_=>rfl) d g
def Uk(h:A.met s)(d:e∈A.rg s)(hl:A.leads e):A.met e.2.2:=.step s e h d hl
def aim(d:r<A.nr):A.met (A.S r):=.base _ ⟨r,d,O⟩
def Ok.call(h:A.Ok)(d:e∈A.rg s)(hk:e.1=2):e.2.1<A.nr:=by
 have hs:s<A.ns:=by
  apply uw;intro hs;rw[Uj h.AX hs]at d;cases d
 have⟨_,_,h3⟩:=h.e s hs e d;rcases h3 with h3|h3|h3<;>omega
def Ok.lt(h:A.Ok)(d:e∈A.rg s):s<A.ns:=by
 apply uw;intro hs;rw[Uj h.AX hs]at d;cases d
def Mk.trim(h:A.Ok)(O:A.Mk tok s):A.met s->A.trim.Mk tok s:=by
 induction O with
 |stop r T=>exactλ_=>.stop (A:=A.trim) r T
 |edge s e g U N B y I=>
  intro hs;have M:A.leads e:=⟨B.mono,λd=>(N d).mono⟩;exact .edge (A:=A.trim) s e ((EM h).2 ⟨hs,g,M⟩) U (λd=>y d<|aim<|h.call g d)<|I<|Uk hs g M
def Nv(h:A.Ok)(g:e∈A.trim.rg s):A.trim.leads e:=by
 have⟨I,B,h3⟩:=(EM h).1 g;refine⟨h3.1.trim h<|Uk I B h3,λd=>(h3.2 d).trim h<|aim<|h.call B d⟩
def ajG(h:A.Ok)(N:∀s e,e∈A.trim.rg s->w e):A.trim.Rc A.isS w s<->A.met s:=by
 constructor
 .intro hs
  induction hs with
  |base s hs=>exact .base s hs
  |step s e _ d _ g=>
   have⟨I,B,h3⟩:=(EM h).1 d;exact .step s e g B h3
 .intro hs
  induction hs with
  |base s hs=>exact .base s hs
  |step s e y d M g=>
   have:e∈A.trim.rg s:=(EM h).2 ⟨y,d,M⟩;exact .step s e g this<|N s e this
def Ul(h:A.Ok):A.trim.met s<->A.met s:=ajG h λs e d=>Nv h d
def aaw(h:A.Ok):A.trim.trim=A.trim:=by
 have y:=Ll h
 have key:∀s,A.trim.Nu s=A.Nu s:=by
  classical
  intro s;rw[<-WA h s];unfold Nu
  by_cases hs:A.met s
  .rw[jj ((Ul h).2 hs)];apply List.filter_eq_self.2;intro e d;exact bY<|Nv h d
  .rw[jx (λg=>hs<|(Ul h).1 g),WA h s];unfold Nu;rw[jx hs]
 unfold trim;show At.mk A.nm A.st A.sp A.ow ((d_ A.ns).map (A.trim).Nu) A.ty=At.mk A.nm A.st A.sp A.ow ((d_ A.ns).map A.Nu) A.ty;rw[show A.trim.Nu=A.Nu from funext key]
def isF(A:At)(e:Ed):Prop:=e.1=0\/(e.1=2/\A.Mk aA (A.S e.2.1))
def fre(A:At)(s:Nat):Nat->Prop:=A.Rc (·=s) A.isF
def Rc.own(h:A.Ok){ay:Nat->Prop}(y:∀s,ay s->s<A.ns/\A.aj s=k)(hs:A.Rc ay w s):s<A.ns/\A.aj s=k:=by
 induction hs with
 |base s hs=>exact y s hs
 |step s e _ g _ d=>
  have⟨I,B,_⟩:=h.e s d.1 e g;exact⟨I,B.trans d.2⟩
end At
end
section
open Go.Ae
def on(mk:D Bool)(s:Nat):Prop:=mk[s]?=Z f
def ain(h:on mk s):s<u mk:=(bK.1 h).1
def GA{t:Nat}(hs:s<u mk):on (mk.set s f) t<->s=t\/on mk t:=by
 unfold on;rw[dX]
 by_cases h:s=t
 .subst h;simp[hs]
 .simp[h]
def off:D Bool->Nat
 |[]=>0
 |b::l=>(if b=f then 0 else 1)+off l
def YP:∀{mk:D Bool}{s:Nat},mk[s]?=Z aA->off (mk.set s f)+1=off mk
 |[],s,h=>by simp at h
 |b::l,0,h=>by
  simp at h;subst h;simp[off];omega
 |b::l,s+1,h=>by
  have:=YP (mk:=l) (s:=s)<|om h;simp only[kC,off];omega
def Rb:∀n,off (aY n aA)=n
 |0=>rfl
 |n+1=>by
  have:=Rb n;rw[List.replicate_succ];simp[off,this];omega
structure MJ(n:Nat)(H' P:Nat->Prop)(mk:D Bool)(nx:D Nat):Prop where
 len:u mk=n
 snd:∀s,on mk s->H' s
 cov:∀s,on mk s->s∈nx\/P s
 pon:∀s,P s->on mk s
 nxo:∀s∈nx,on mk s
def mu(mk:D Bool)(nx:D Nat):Nat:=2*off mk+u nx
variable{H' P:Nat->Prop}{nx:D Nat}
def MJ.nil(n:Nat)(H':Nat->Prop):MJ n H' (λ_=>False) (aY n aA) []:=by
 refine⟨gB,?_,?_,λs h=>h.elim,nofun⟩<;>
 .intro s h;unfold on at h;rw[lZ]at h;split at h<;>simp at h
def MJ.mark(h:MJ n H' P mk nx)(hs:mk[s]?=Z aA)(y:H' s):MJ n H' P (mk.set s f) (nx++[s])/\on (mk.set s f) s/\(∀t,on mk t->on (mk.set s f) t)/\mu (mk.set s f) (nx++[s])+1=mu mk nx:=by
 have d:=(bK.1 hs).1;refine⟨⟨by rw[bU];exact h.len,λt ht=>?_,λt ht=>?_,λt ht=>(GA d).2<|.inr<|h.pon t ht,λt ht=>?_⟩,(GA d).2<|.inl O,λt ht=>(GA d).2<|.inr ht,?_⟩
 .rcases(GA d).1 ht with rfl|ht
  .exact y
  .exact h.snd t ht
 .rcases(GA d).1 ht with rfl|ht
  .exact .inl gB
  .exact(h.cov t ht).imp_left λg=>dM _ g
 .rcases cB.1 ht with ht|ht
  .exact(GA d).2<|.inr<|h.nxo t ht
  .exact(GA d).2<|.inl (aS.1 ht).symm
 .have:=YP hs;unfold mu;rw[aU];show _+(u nx+1)+1=_;omega
def MJ.pop(h:MJ n H' P mk<|nx++[s]):MJ n H' (λt=>P t\/t=s) mk nx:=by
 refine⟨h.len,h.snd,λt d=>?_,λt d=>?_,λt d=>h.nxo t<|dM _ d⟩
 .rcases h.cov t d with I|I
  .rcases cB.1 I with I|I
   .exact .inl I
   .exact .inr<|.inr<|aS.1 I
  .exact .inr<|.inl I
 .rcases d with d|rfl
  .exact h.pon t d
  .exact h.nxo _ gB
def adS(mk:D Bool)(nx:D Nat)(s:Nat):mu mk nx+1=mu mk (nx++[s]):=by
 unfold mu;rw[aU];rfl
namespace At
variable{A:At}{tok:Bool}
def YQ(tok:Bool)(e:Ed):Prop:=e.1=1->tok=f
def Clo(A:At)(tok:Bool)(P:Nat->Prop)(mk:D Bool):Prop:=∀s e,e∈A.rg s->YQ tok e->P e.2.2->(e.1=2->P (A.S e.2.1))->on mk s
def Clo.step{cur:Nat}{mk':D Bool}(h:A.Clo tok P mk)(N:∀t,on mk t->on mk' t)(I:∀s e,e∈A.rg s->YQ tok e->e.2.2=cur->(e.1=2->P (A.S e.2.1)\/A.S e.2.1=cur)->on mk' s)(B:∀s e,e∈A.rg s->e.1=2->A.S e.2.1=cur->(P e.2.2\/e.2.2=cur)->on mk' s):A.Clo tok (λt=>P t\/t=cur) mk':=by
 intro s e g M ht y;rcases ht with ht|ht
 .by_cases hc2:e.1=2/\A.S e.2.1=cur
  .exact B s e g hc2.1 hc2.2<|.inl ht
  .refine N s (h s e g M ht λd=>?_);rcases y d with h3|h3
   .exact h3
   .exact absurd ⟨d,h3⟩ hc2
 .exact I s e g M ht y
def agx(ho:A.Ok)(h:MJ A.ns (A.Mk tok) P mk [])(I:A.Clo tok P mk)(T:∀r,r<A.nr->on mk (A.P r))(s:Nat):on mk s<->A.Mk tok s:=by
 refine⟨h.snd s,λO=>?_⟩;have B:∀t,on mk t->P t:=λt d=>(h.cov t d).resolve_left<|nofun
 induction O with
 |stop r U=>exact T r U
 |edge s e M d _ _ g y=>exact I s e M d (B _ y) λN=>B _<|g N
def YS{ay:Nat->Prop}{w:Ed->Prop}(h:MJ A.ns (A.Rc ay w) P mk [])(g:∀s e,P s->e∈A.rg s->w e->on mk e.2.2)(B:∀s,ay s->on mk s)(s:Nat):on mk s<->A.Rc ay w s:=by
 refine⟨h.snd s,λI=>?_⟩;have d:∀t,on mk t->P t:=λt M=>(h.cov t M).resolve_left<|nofun
 induction I with
 |base s hs=>exact B s hs
 |step s e _ y N O=>exact g s e (d _ O) y N
end At
end
end Go.Proofs.Lu
namespace Go.Proofs.Lv
open Go.Proofs.Lu
open Go.Ae Go.Ae.hx
variable{ak D':Nat->Ed->Prop}{K:C->C->R->Prop}{ok w:Ed->Prop}{key:Ed->Nat}{c c' dm es fc i k m n o r E s t x:Nat}{mk mk':D Bool}{A:At}{e e0:Ed}{L L' hx gb:D eF}{a ca fa ia:aC Addr}{F vs:D C}{l:D (Nat×Ed)}{ty:aI}{H Q H0:R}{F' H':Nat->Prop}{fl nx':D Nat}
section
variable{S:D Nat}{cs:Nat->Prop}
def Bf:D Ed->D C
 |[]=>[]
 |e::l=>W e.1::W e.2.1::W e.2.2::Bf l
def Lm:∀l,u (Bf l)=u l*3
 |[]=>rfl
 |e::l=>by
  have:=Lm l;simp only[Bf,cO];omega
def Re:∀l l',Bf (l++l')=Bf l++Bf l'
 |[],l'=>rfl
 |e::l,l'=>by simp only[bQ,Bf,Re l l']
def adT:∀{l:D Ed}{i:Nat}{e:Ed},l[i]?=Z e->El (Bf l) 3 i=[W e.1,W e.2.1,W e.2.2]
 |[],i,e,h=>by simp at h
 |x::l,0,e,h=>by
  simp at h;subst h;simp[El,Bf]
 |x::l,i+1,e,h=>by
  have:=adT (l:=l) (i:=i)<|om h;rw[<-this];unfold El;rw[show(i+1)*3=i*3+3 by omega];rfl
structure AV where
 na:aC Addr
 sa:aC Addr
 pa:aC Addr
 oa:aC Addr
 ea:aC Addr
 nc:Nat
 sc:Nat
 pc:Nat
 oc:Nat
 ec:Nat
def AV.cells(q:AV)(A:At):D C:=[J q.na A.nr q.nc,J q.sa A.nr q.sc,J q.pa A.nr q.pc,J q.oa A.ns q.oc,J q.ea A.ns q.ec,W A.ty]
abbrev AV.v(q:AV)(A:At):C:=dN ⟨q.cells A⟩
def EdM(cs:Nat->Prop)(H:R)(A:At)(d:D C):Prop:=∀i,i<A.ns->∃a c,d[i]?=Z (J a (u<|A.rg i) c)/\jC cs 121 H a (u<|A.rg i) 3 (Bf<|A.rg i)
structure vF(cs:Nat->Prop)(H:R)(A:At)(q:AV):Prop where
 n:jC cs 9 H q.na A.nr 1 (A.nm.map aJ)
 s:jC cs 3 H q.sa A.nr 1 (gq A.st)
 p:jC cs 3 H q.pa A.nr 1 (gq A.sp)
 o:jC cs 3 H q.oa A.ns 1 (gq A.ow)
 e:∃evs,jC cs 119 H q.ea A.ns 1 evs/\EdM cs H A evs
variable{q:AV}
def vF.ex(h:vF cs H A q)(M:Ext H Q):vF cs Q A q:=
 ⟨h.n.ex M,h.s.ex M,h.p.ex M,h.o.ex M,let⟨evs,I,B⟩:=h.e;⟨evs,I.ex M,λi hi=>let⟨a,c,h3,h4⟩:=B i hi;⟨a,c,h3,h4.ex M⟩⟩⟩
def vF.wk(h:vF cs H A q)(d:∀r,cs r->F' r):vF F' H A q:=
 ⟨h.n.wk d,h.s.wk d,h.p.wk d,h.o.wk d,let⟨evs,I,B⟩:=h.e;⟨evs,I.wk d,λi hi=>let⟨a,c,h3,h4⟩:=B i hi;⟨a,c,h3,h4.wk d⟩⟩⟩
def vF.stay(h:vF cs H A q)(M:pN S H Q)(G:∀r∈S,¬cs r):vF cs Q A q:=
 ⟨h.n.stay M λr d=>.inl<|G r d,h.s.stay M λr d=>.inl<|G r d,h.p.stay M λr d=>.inl<|G r d,h.o.stay M λr d=>.inl<|G r d,let⟨evs,I,B⟩:=h.e;⟨evs,I.stay M λr d=>.inl<|G r d,λi hi=>let⟨a,c,h3,h4⟩:=B i hi;⟨a,c,h3,h4.stay M λr d=>.inl<|G r d⟩⟩⟩
def AQ{l:D Nat}(h:k<u l):(gq l)[k]?=Z (W<|l[k]?.getD 0):=by
 rw[bL,av h];rfl
def lM(q:AV)(A:At):cr (q.v A)=q.cells A:=rfl
section steps
def vF.ldS(h:vF cs H A q)(ho:A.Ok)(hk:k<A.nr)(kk:∀p,K p (W<|A.S k) H):PU (BS 1 (J q.sa A.nr q.sc)<|W k) λp=>ME (yh T p H) (K p):=h.s.ix hk (AQ (by rw[ho.YN];exact hk)) kk
def vF.ldP(h:vF cs H A q)(ho:A.Ok)(hk:k<A.nr)(kk:∀p,K p (W<|A.P k) H):PU (BS 1 (J q.pa A.nr q.pc)<|W k) λp=>ME (yh T p H) (K p):=h.p.ix hk (AQ (by rw[ho.YO];exact hk)) kk
def vF.CJ(h:vF cs H A q)(hk:k<A.ns)(kk:∀p,K p (W<|A.aj k) H):PU (BS 1 (J q.oa A.ns q.oc)<|W k) λp=>ME (yh T p H) (K p):=h.o.ix hk (AQ hk) kk
def vF.ldE(h:vF cs H A q)(M:Ext H Q)(hk:k<A.ns)(kk:∀p a c,jC cs 121 H a (u<|A.rg k) 3 (Bf<|A.rg k)->K p (J a (u<|A.rg k) c) Q):PU (BS 1 (J q.ea A.ns q.ec)<|W k) λp=>ME (yh T p Q) (K p):=by
 have⟨evs,I,B⟩:=h.e;have⟨a,c,h3,h4⟩:=B k hk;exact(I.ex M).ix hk h3 λp=>kk p a c h4
def KX{l:D Ed}(h:jC cs 121 H a (u l) 3<|Bf l)(hk:k<u l)(kk:∀p,K p (dN ⟨[W l[k].1,W l[k].2.1,W l[k].2.2]⟩) H):PU (BS 3 (J a (u l) c)<|W k) λp=>ME (yh (Z 3) p H) (K p):=
 h.VS N hk (adT<|av hk) kk
end steps
def Qe(p:C->R->Prop)(H:R)(v:C)(Q:R):Prop:=p v Q/\Ext H Q
def vR(d:Wf H)(q:AV)(A:At):bM Pg X 35 [q.v A] H (Qe (λv _=>v=W A.ns) H):=by
 have G:=gM d;refine lF [0,1,2] ?_;refine G.box O λH1 E G=>?_;rw[lM]at G;unfold AV.cells at G;refine fF ?_;refine rr ?_;exact⟨O,G.ext⟩
end
variable{q:AV}
section
variable{S:D Nat}{cs:Nat->Prop}
abbrev pt(r:Nat):C:=bG<|Z ⟨r,0,T⟩
def Rf(O:Wf H)(h:vF cs H A q){rn:Nat}(I:H.cell rn 0=Z (W A.ns))(g:rn<H.bV)(B:H.cell E 3=Z (J q.oa A.ns q.oc))(y:E<H.bV)(hs:s<A.ns)(M:A.aj s=r):
 bM Pg X 110 [W s,W r,pt rn,pt E] H (Qe (λv _=>v=aO f) H):=by
 have G:=gM O;refine GV [0,1,2,3,6] ?_;refine aV (λd=>?_) λd=>absurd N d;refine G.CJ I g ?_;refine bN ?_;refine aV (λd=>?_) λd=>absurd N d;refine G.CJ B y<|h.CJ hs λp=>?_;rw[M];refine bN ?_;refine rr ?_;exact⟨gB,Ext.refl _⟩
theorem vG(hw:Wf H)(h:vF cs H A q)(ho:A.Ok):bM Pg X 76 [q.v A] H (Qe (λv _=>v=aO f) H):=by
 have G:=gM hw;refine lF [0,1,2,3,4,5,6,7,8,10,45,46,71,72,73,89,90,91,102] ?_;refine G.box O λH1 E G=>?_;rw[lM]at G;unfold AV.cells at G;refine fF ?_;refine G.nD λT rn G f1=>G.oq λHn G=>?_;have n1:rn≠E:=G.nq 0 1 O O N;refine splitK (λK hK=>?_) ?_
 .simp only[f1,eZ,gN];apply nE (a:=rn) (b:=E) n1 yX fQ fQ hK
 have al:=ho.pos;have ad:=ho.big;have Jz:=ho.few;refine aV (λd=>N) λd=>?_;refine fF ?_;refine eU (λd=>absurd trivial d) λ_=>?_;refine fF ?_;refine eU (λd=>absurd trivial d) λ_=>?_;refine fF ?_;refine eU (λd=>absurd trivial d) λ_=>?_;refine fF ?_;refine aV (λd=>N) λ_=>?_;have G:SH [] H _ [(rn,3,[W A.ns]),(E,27,[J q.na A.nr q.nc,J q.sa A.nr q.sc,J q.pa A.nr q.pc,J q.oa A.ns q.oc,J q.ea A.ns q.ec,W A.ty])]:=G
 have key:∀{Q:R}{L':D eF},SH [] H Q L'->(rn,3,[W A.ns])∈L'->(E,27,q.cells A)∈L'->∀{s r:Nat},s<A.ns->A.aj s=r->∀{K:C->R->Prop},(∀T,SH [] H T L'->K (aO f) T)->qh Pg X (Oo<|.func (.func 110) ⟨[]⟩ ⟨[pt rn,pt E]⟩) [W s,W r] Q K:=by
  intro Q L' G B I s r hs hr K kk;show bM Pg X 110 [W s,W r,pt rn,pt E] Q K;refine dn (Rf G.wf (h.ex G.ext) ((G.bk _ B).cell O) (G.lo _ B).2 ((G.bk _ I).cell (o:=3) O) (G.lo _ I).2 hs hr) ?_;rintro v T ⟨rfl,M⟩;exact kk T<|G.call M
 have B:((rn,3,[W A.ns]):eF)∈([(rn,3,[W A.ns]),(E,27,q.cells A)]:D eF):=gB;have I:((E,27,q.cells A):eF)∈([(rn,3,[W A.ns]),(E,27,q.cells A)]:D eF):=gB;refine tl ?_;refine Gg 2 6 46 (h1:=λm x2 x6 ab Q=>∃i:Nat,ab=W i/\i+m=A.nr/\SH [] H Q [(rn,3,[W A.ns]),(E,27,[J q.na A.nr q.nc,J q.sa A.nr q.sc,J q.pa A.nr q.pc,J q.oa A.ns q.oc,J q.ea A.ns q.ec,W A.ty])]) ?_ A.nr ⟨0,rfl,N,G⟩;clear G;rintro m x2 x6 ab oW H3 ⟨i,rfl,V,G⟩;refine tK (λd=>?_) λd=>?_
 .have hi:i<A.nr:=N;refine G.qE<|(h.ex G.ext).ldS ho hi λp=>key G B I (ho.s i hi).1 (ho.s i hi).2 λH4 G=>?_;refine bN ?_;refine ig (λU=>by cases U) λ_=>?_;refine G.qE<|(h.ex G.ext).ldP ho hi λp=>key G B I (ho.p i hi).1 (ho.p i hi).2 λH5 G=>?_;refine bN ?_;refine ig (λU=>by cases U) λ_=>?_;refine eD ?_;exact⟨A.nr-(i+1),N,_,_,_,_,_,O,i+1,pq,N,G⟩
 refine tm ?_;refine lp9 2 7 8 10 73 89 90 91 102 (h1:=λm x2 x7 x8 jW ac am an y g Q=>∃i:Nat,ac=W i/\i+m=A.ns/\SH [] H Q [(rn,3,[W A.ns]),(E,27,[J q.na A.nr q.nc,J q.sa A.nr q.sc,J q.pa A.nr q.pc,J q.oa A.ns q.oc,J q.ea A.ns q.ec,W A.ty])]) ?_ A.ns ⟨0,rfl,N,G⟩;clear G d V;rintro m x2 x7 x8 jW ac am an y g oW H4 ⟨s,rfl,V,G⟩;refine mG (λd=>?_) λd=>?_
 .refine tl<|rr ?_;exact⟨O,G.ext⟩
 have hs:s<A.ns:=N;refine(h.ex G.ext).CJ hs λp=>?_;refine bN ?_;have hO:=ho.o s hs;refine aV (λd=>N) λ_=>?_;refine aV (λd=>N) λ_=>?_;refine tm ?_;refine h.ldE G.ext hs λp ea ec hE=>?_;refine bN ?_;have ar:=G.ext;refine Ov 2 10 91 102 (h1:=λm x2 jW y g Q=>∃k:Nat,y=W k/\k+m=u (A.rg s)/\SH [] H Q [(rn,3,[W A.ns]),(E,27,[J q.na A.nr q.nc,J q.sa A.nr q.sc,J q.pa A.nr q.pc,J q.oa A.ns q.oc,J q.ea A.ns q.ec,W A.ty])]) ?_ (u<|A.rg s) ⟨0,rfl,N,G⟩;clear G d;rintro m' x2 jW y g oW H5 ⟨k,rfl,aq,G⟩;refine mG (λd=>?_) λd=>?_
 .refine tl ?_;refine eD ?_;exact⟨A.ns-(s+1),N,_,_,_,_,_,_,_,_,_,_,_,O,s+1,pq,N,G⟩
 have hk:k<u (A.rg s):=N;refine KX (hE.ex G.ext) hk λp=>?_;have Y:=bH hk;have⟨g1,g2,g3⟩:=ho.e s hs _ Y;generalize hee:(A.rg s)[k]=e at g1 g2 g3|-;refine G.ns O O O λH6 re G aE=>?_;have G:SH [] H H6 [(re,121,[W e.1,W e.2.1,W e.2.2]),(rn,3,[W A.ns]),(E,27,[J q.na A.nr q.nc,J q.sa A.nr q.sc,J q.pa A.nr q.pc,J q.oa A.ns q.oc,J q.ea A.ns q.ec,W A.ty])]:=G;refine fF ?_;have aw:=G.ext;have ao:=G;refine key G (bJ _ B) (bJ _ I) g1 g2 λH7 G=>?_;refine bN ?_;refine ig (λU=>by cases U) λ_=>?_;have G:SH [] H H7 ((re,121,[W e.1,W e.2.1,W e.2.2])::[(rn,3,[W A.ns]),(E,27,[J q.na A.nr q.nc,J q.sa A.nr q.sc,J q.pa A.nr q.pc,J q.oa A.ns q.oc,J q.ea A.ns q.ec,W A.ty])]):=G;refine fF ?_
 have ap:k<1000000000:=by
  have:=ho.len s;omega
 rcases g3 with g3|⟨g3,g4⟩|⟨g3,g4⟩
 .refine aV (λ_=>?_) (λd=>absurd N d);refine eD ?_;exact⟨u (A.rg s)-(k+1),N,_,_,_,_,_,_,O,k+1,pq,N,fV (A:=[_]) G⟩
 .refine aV (λd=>N) (λ_=>?_);refine aV (λ_=>?_) λd=>absurd N d;refine fF ?_;refine aV (λd=>N) λ_=>?_;refine fF ?_;refine aV (λd=>N) λ_=>?_;refine eD ?_;exact⟨u (A.rg s)-(k+1),N,_,_,_,_,_,_,O,k+1,pq,N,fV (A:=[_]) G⟩
 .refine aV (λd=>N) (λ_=>?_);refine aV (λd=>N) λ_=>?_;refine aV (λ_=>?_) λd=>absurd N d;refine fF ?_;refine aV (λd=>N) λ_=>?_;refine fF ?_;refine aV (λd=>N) λ_=>?_;refine eD ?_;exact⟨u (A.rg s)-(k+1),N,_,_,_,_,_,_,O,k+1,pq,N,fV (A:=[_]) G⟩
end
section
variable{S:D Nat}{cs:Nat->Prop}
def _root_.Go.Ae.GB.sl{v:C}(h:GB ty es v F gb):∃a n c,v=J a n c:=by
 rcases h with⟨rfl,_⟩|⟨r,n,d,rfl,_⟩<;>exact⟨_,_,_,O⟩
def Ms(m x dm n:Nat)(mk:D Bool)(nx:D Nat)(hx:D eF):Prop:=∃d gb,hx=(m,34,[J (Z ⟨dm,0,T⟩) n n])::(x,22,[d])::(dm,4,bools mk)::gb/\GB 3 1 d (gq nx) gb/\u mk=n
def Mkd(s:Nat)(mk:D Bool)(nx:D Nat)(mk':D Bool)(nx':D Nat):Prop:=(mk[s]?=Z f/\mk'=mk/\nx'=nx)\/(mk[s]?=Z aA/\mk'=mk.set s f/\nx'=nx++[s])
def Js{nx:D Nat}(hM:Ms m x dm n mk nx hx)(G:SH S H0 H<|hx++L)(hs:s<n)(hb:u nx<=1000000):
 bM Pg X 111 [W s,pt m,pt x] H λv Q=>∃mk' nx' M',Ms m x dm n mk' nx' M'/\SH S H0 Q (M'++L)/\Mkd s mk nx mk' nx':=by
 obtain⟨B,gb,rfl,I,M⟩:=hM;have G:SH S H0 H ((m,34,[J (Z ⟨dm,0,T⟩) n n])::(x,22,[B])::(dm,4,bools mk)::(gb++L)):=G;refine lF [0,1,2] ?_;apply G.qE;obtain⟨b,d⟩:∃b,mk[s]?=Z b:=⟨_,av N⟩;refine G.ix (v:=aO b) hs (jV _ d) λp=>?_;refine sD (λy=>?_) λy=>?_
 .obtain rfl:b=aA:=by cases b<;>simp_all
  apply G.qE;refine G.Yi hs N7 (kk:=λp H1 G=>?_);refine G.qE<|I.push (G.perm<|jB [_,_,_] gb L) N O O O O O N (by simpa using(by omega:u nx<=16777216)) λw v' Y U g G=>?_;have G:=G.perm<|jB U [(m,34,[J (Z ⟨dm,0,T⟩) n n]),(x,22,[B]),(dm,4,(bools mk).set s<|aO f)] L;simp only[bQ,bX]at G;obtain⟨va,V,vc,rfl⟩:=g.sl;refine G.j_ λHn G=>?_;refine rn ?_;refine⟨mk.set s f,nx++[s],_,⟨J va V vc,U,O,?_,by rw[bU];exact M⟩,?_,.inr ⟨d,O,O⟩⟩
  .have:gq (nx++[s])=gq nx++[W s]:=gB;rw[this];exact g
  .have:bools (mk.set s f)=(bools mk).set s (aO f):=gW;rw[this];exact G
 .obtain rfl:b=f:=by cases b<;>simp_all
  refine rn ?_;exact⟨mk,nx,_,⟨B,gb,O,I,M⟩,G,.inl ⟨d,O,O⟩⟩
def aax{nx:D Nat}(hM:Ms m x dm n mk nx hx)(G:SH S H0 H<|hx++L)(hs:s<n)(hb:u nx<=1000000):
 bM Pg X 112 [W s,pt m,pt x] H λv Q=>∃mk' nx' M',Ms m x dm n mk' nx' M'/\SH S H0 Q (M'++L)/\Mkd s mk nx mk' nx':=by
 obtain⟨B,gb,rfl,I,M⟩:=hM;have G:SH S H0 H ((m,34,[J (Z ⟨dm,0,T⟩) n n])::(x,22,[B])::(dm,4,bools mk)::(gb++L)):=G;refine lF [0,1,2] ?_;apply G.qE;obtain⟨b,d⟩:∃b,mk[s]?=Z b:=⟨_,av N⟩;refine G.ix (v:=aO b) hs (jV _ d) λp=>?_;refine sD (λy=>?_) λy=>?_
 .obtain rfl:b=aA:=by cases b<;>simp_all
  apply G.qE;refine G.Yi hs N7 (kk:=λp H1 G=>?_);refine G.qE<|I.push (G.perm<|jB [_,_,_] gb L) N O O O O O N (by simpa using(by omega:u nx<=16777216)) λw v' Y U g G=>?_;have G:=G.perm<|jB U [(m,34,[J (Z ⟨dm,0,T⟩) n n]),(x,22,[B]),(dm,4,(bools mk).set s<|aO f)] L;simp only[bQ,bX]at G;obtain⟨va,V,vc,rfl⟩:=g.sl;refine G.j_ λHn G=>?_;refine rn ?_;refine⟨mk.set s f,nx++[s],_,⟨J va V vc,U,O,?_,by rw[bU];exact M⟩,?_,.inr ⟨d,O,O⟩⟩
  .have:gq (nx++[s])=gq nx++[W s]:=gB;rw[this];exact g
  .have:bools (mk.set s f)=(bools mk).set s (aO f):=gW;rw[this];exact G
 .obtain rfl:b=f:=by cases b<;>simp_all
  refine rn ?_;exact⟨mk,nx,_,⟨B,gb,O,I,M⟩,G,.inl ⟨d,O,O⟩⟩
end
section
variable{S:D Nat}{cs:Nat->Prop}{P:Nat->Prop}{nx:D Nat}
def Mkd.mj(h:Mkd s mk nx mk' nx')(g:MJ n H' P mk nx)(y:H' s):MJ n H' P mk' nx'/\on mk' s/\(∀t,on mk t->on mk' t)/\mu mk' nx'<=mu mk nx:=by
 rcases h with⟨I,rfl,rfl⟩|⟨I,rfl,rfl⟩
 .exact⟨g,I,λt h=>h,ax _⟩
 .have⟨a,b,c,d⟩:=g.mark I y;exact⟨a,b,c,N⟩
def Bs(b:Nat)(H:R)(n:Nat)(v:C)(mk:D Bool):Prop:=∃a c,v=J a n c/\u mk=n/\jC (b<=·) 4 H a n 1 (bools mk)
def Bs.ex{b:Nat}{v:C}(h:Bs b H n v mk)(M:Ext H Q):Bs b Q n v mk:=let⟨a,c,I,B,h3⟩:=h;⟨a,c,I,B,h3.ex M⟩
def Bs.le{b b':Nat}{v:C}(h:Bs b H n v mk)(d:b'<=b):Bs b' H n v mk:=let⟨a,c,I,B,h3⟩:=h;⟨a,c,I,B,h3.le d⟩
def Wnt(A:At)(w:Ed->Prop)(H:R)(d:C):Prop:=∀Q s e,Ext H Q->Wf Q->e∈A.rg s->qh Pg X (Oo d) [dN ⟨[W e.1,W e.2.1,W e.2.2]⟩] Q (Qe (λv _=>∃b:Bool,v=aO b/\(b=f<->w e)) Q)
def YU(d:mu mk nx<=8000):u nx<=1000000:=by unfold mu at d;omega
theorem PV(hw:Wf H)(h:vF cs H A q)(ho:A.Ok)(hf:jC cs 3 H fa (u fl) 1<|gq fl)(a8:∀s∈fl,s<A.ns)(bg:u fl<=1000000){wv:C}(bc:Wnt A w H wv):
 bM Pg X 79 [q.v A,J fa (u fl) fc,wv] H (Qe (λv Q=>∃mk,Bs H.bV Q A.ns v mk/\∀s,on mk s<->A.Rc (·∈fl) w s) H):=by
 have G:=gM hw;have a6:=ho.big;refine lF [0,1,2,3,6,7,8,9,11,12,14,19,20,21,47,48,49] ?_;refine G.box O λH1 E G=>?_;rw[lM]at G;refine G.uE 0 O (by show 0+6<=6;omega) ?_;refine dn (vR G.wf q A) ?_;rintro v H2 ⟨rfl,M⟩;have G:=G.call M;refine G.mkS (ax _) N λH3 dm G=>?_;rw[nC]at G;refine G.jM λH4 U G=>?_;refine G.kN ?_;refine G.j_ λHn G=>G.jM λH5 V G=>?_;have G:SH [] H H5 ([(V,22,[J T 0 0]),(U,34,[J (Z ⟨dm,0,T⟩) A.ns A.ns]),(dm,4,aY A.ns<|aO aA),(E,27,q.cells A)]):=G;have G:=G.perm (L':=[(U,34,[J (Z ⟨dm,0,T⟩) A.ns A.ns]),(V,22,[J T 0 0]),(dm,4,aY A.ns<|aO aA),(E,27,q.cells A)])<|iF _ _ _;have hM:Ms U V dm A.ns (aY A.ns aA) [] [(U,34,[J (Z ⟨dm,0,T⟩) A.ns A.ns]),(V,22,[J T 0 0]),(dm,4,aY A.ns<|aO aA)]:=⟨J T 0 0,[],gB,GB.nil _ _,gB⟩;have y:mu (aY A.ns aA) []<=8000:=by unfold mu;rw[Rb];show 2*A.ns+0<=8000;omega
 have an:∀{s:Nat}{mk:D Bool}{nx:D Nat}{hx L:D eF}{Q:R}{P:Nat->Prop}{K:C->R->Prop},s<A.ns->Ms U V dm A.ns mk nx hx->SH [] H Q (hx++L)->MJ A.ns (A.Rc (·∈fl) w) P mk nx->mu mk nx<=8000->A.Rc (·∈fl) w s->
  (∀v H2 mk' nx' M',Ms U V dm A.ns mk' nx' M'->SH [] H H2 (M'++L)->MJ A.ns (A.Rc (·∈fl) w) P mk' nx'->on mk' s->(∀t,on mk t->on mk' t)->mu mk' nx'<=mu mk nx->K v H2)->
  qh Pg X (Oo<|.func (.func 112) ⟨[]⟩ ⟨[pt U,pt V]⟩) [W s] Q K:=by
  intro s mk nx hx L Q P K hs hM G Y y hq kk;show bM Pg X 112 [W s,pt U,pt V] Q K;refine dn (aax hM G hs<|YU y) ?_;rintro v H2 ⟨mk',nx',M',a2,a4,hk⟩;have⟨a,b,c,d⟩:=hk.mj Y hq;exact kk v H2 mk' nx' M' a2 a4 a b c d
 refine lp2 11 21 (h1:=λm jh yS Q=>∃i mk nx hx,yS=W i/\i+m=u fl/\Ms U V dm A.ns mk nx hx/\SH [] H Q (hx++[(E,27,q.cells A)])/\MJ A.ns (A.Rc (·∈fl) w) (λ_=>False) mk nx/\mu mk nx<=8000/\∀j s,j<i->fl[j]?=Z s->on mk s) ?_ (u fl) ⟨0,_,_,_,rfl,N,hM,G,MJ.nil _ _,y,λj s hj=>N⟩;clear G hM y M;rintro m jh yS oW H6 ⟨i,mk,nx,hx,rfl,a9,hM,G,Y,y,hb⟩;refine tK (λhc=>?_) λhc=>?_
 .have hi:i<u fl:=N;have aw:fl[i]?=Z fl[i]:=av hi;refine(hf.ex G.ext).ix hi (jV _ aw) λp=>an (a8 _<|bH hi) hM G Y y (.base _<|bH hi) λv H7 mk' nx' M' hM G Y ba am aE=>?_;refine eD ?_;refine⟨u fl-(i+1),N,_,_,_,_,O,i+1,mk',nx',M',pq,N,hM,G,Y,N,λj s hj hs=>?_⟩;rcases dH j i with I|I
  .exact am _<|hb j s I hs
  .obtain rfl:j=i:=N;rw[aw]at hs;cases hs;exact ba
 have g:∀s,s∈fl->on mk s:=λs hs=>by
  have⟨j,hj,e⟩:=kL.1 hs;exact hb j s N (by rw[<-e];exact av hj)
 clear hb hc a9;refine tl ?_;refine YA 12 14 47 48 49 (h1:=λm mQ vE bd be Oy Q=>∃mk nx hx P,Ms U V dm A.ns mk nx hx/\SH [] H Q (hx++[(E,27,q.cells A)])/\MJ A.ns (A.Rc (·∈fl) w) P mk nx/\mu mk nx<=8000/\mu mk nx=m/\(∀s,s∈fl->on mk s)/\∀s e,P s->e∈A.rg s->w e->on mk e.2.2) ?_ (mu mk nx) ⟨mk,nx,hx,_,hM,G,Y,y,rfl,g,λs e h=>h.elim⟩;clear G hM Y y g;rintro m mQ vE bd be Oy oW H6 ⟨mk,nx,hx,P,hM,G,Y,y,rfl,g,WB⟩;have bf:=hM;obtain⟨nv,gb,rfl,hg,hl⟩:=hM;have G:SH [] H H6 ((U,34,[J (Z ⟨dm,0,T⟩) A.ns A.ns])::(V,22,[nv])::(dm,4,bools mk)::(gb++[(E,27,q.cells A)])):=G;refine tm ?_;rcases hg with⟨rfl,hn,rfl⟩|⟨r,n,fE,rfl,hn,rfl⟩
 .obtain rfl:nx=[]:=om hn;refine bN ?_;refine aV (λhc=>N) λ_=>?_;refine tl ?_;refine G.qE<|rr ?_;refine⟨⟨mk,⟨_,_,O,hl,jC.one G (aT (i:=2) O) (om hl)<|G.yu<|aT (i:=2) O⟩,A.YS Y WB g⟩,G.ext⟩
 have hn:u nx=n:=om hn;subst hn;refine MQ (λhc=>?_) λhc=>?_
 .have:nx=[]:=eP.1 N;subst this;refine tl ?_;refine G.qE<|rr ?_;refine⟨⟨mk,⟨_,_,O,hl,jC.one G (aT (i:=2) O) (om hl)<|G.yu<|aT (i:=2) O⟩,A.YS Y WB g⟩,G.ext⟩
 obtain⟨B,cur,rfl⟩:∃a b,nx=a++[b]:=⟨nx.dropLast,nx.getLast (λe=>by subst e;simp at hc),(oL _).symm⟩;have ao:u (B++[cur])=u B+1:=gB;rw[ao]at G;simp only[bQ,bX]at G;have a0:=YU y;rw[ao]at a0;refine fF ?_;refine rA ?_;rw[show((u B+1:Nat):Int)-1=(u B:Nat) by omega];refine G.ix (v:=W cur) N gB λp=>?_;refine fF ?_;refine rA ?_;rw[show((u B+1:Nat):Int)-1=(u B:Nat) by omega];refine dA (De N)<|G.j_ λHn G=>?_;apply G.qE;have KY:cur<A.ns:=by have:=ain<|Y.nxo cur gB;rw[Y.len]at this;exact this
 have G:SH [] H _ ((U,34,[J (Z ⟨dm,0,T⟩) A.ns A.ns])::(V,22,[J (Z ⟨r,0,T⟩) (u B) (gK 1)])::(dm,4,bools mk)::([(r,3,gq (B++[cur])++fE)]++[(E,27,q.cells A)])):=G;have al:=Y.pop;have WC:=adS mk B cur;have hM:Ms U V dm A.ns mk B ((U,34,[J (Z ⟨dm,0,T⟩) A.ns A.ns])::(V,22,[J (Z ⟨r,0,T⟩) (u B) (gK 1)])::(dm,4,bools mk)::[(r,3,gq (B++[cur])++fE)]):=⟨_,_,O,.inr ⟨r,_,W cur::fE,O,gB,gB⟩,hl⟩;refine h.ldE G.ext KY λp ea ec hE=>?_;refine bN ?_;have G:SH [] H _ (((U,34,[J (Z ⟨dm,0,T⟩) A.ns A.ns])::(V,22,[J (Z ⟨r,0,T⟩) (u B) (gK 1)])::(dm,4,bools mk)::[(r,3,gq (B++[cur])++fE)])++[(E,27,q.cells A)]):=G;have bb:=Y.snd cur<|Y.nxo cur gB;refine lp2 14 49 (h1:=λm vE Oy Q=>∃k mk' nx' hx,Oy=W k/\k+m=u (A.rg cur)/\Ms U V dm A.ns mk' nx' hx/\SH [] H Q (hx++[(E,27,q.cells A)])/\MJ A.ns (A.Rc (·∈fl) w) (λt=>P t\/t=cur) mk' nx'/\mu mk' nx'<=mu mk B/\(∀t,on mk t->on mk' t)/\∀j e,j<k->(A.rg cur)[j]?=Z e->w e->on mk' e.2.2) ?_ (u<|A.rg cur) ⟨0,mk,B,_,rfl,N,hM,G,al,ax _,λt h=>h,λj e hj=>N⟩;clear G hM al;rintro m' bi bj OH H7 ⟨k,mk',nx',hx,rfl,bh,hM,G,al,aE,am,ab⟩;refine mG (λa7=>?_) λa7=>?_
 .refine⟨mu mk' nx',N,_,_,_,_,_,_,_,O,mk',nx',hx,_,hM,G,al,N,O,λs hs=>am s<|g s hs,λs e hs he WG=>?_⟩;rcases hs with hs|rfl
  .exact am _<|WB s e hs he WG
  .have⟨j,hj,e1⟩:=kL.1 he;exact ab j e N (by rw[<-e1];exact av hj) WG
 have hk:k<u (A.rg cur):=N;refine KX (hE.ex G.ext) hk λp=>?_;have ac:=bH hk;have YK:=ho.len cur;have⟨g1,g2,g3⟩:=ho.e cur KY _ ac;have aq:(A.rg cur)[k]?=Z (A.rg cur)[k]:=av hk;generalize hee:(A.rg cur)[k]=e at g1 g2 g3 aq ac|-;refine G.ns O O O λH8 re G z8=>?_;have G:SH [] H H8 ([(re,121,[W e.1,W e.2.1,W e.2.2])]++(hx++[(E,27,q.cells A)])):=G;refine G.uE 0 O (ax 3) ?_;refine qh.mono (bc H8 cur e G.ext G.wf ac) ?_;rintro v H9 ⟨⟨b,rfl,ar⟩,GY⟩;have G:=G.call GY;refine sD (λap=>?_) λap=>?_
 .refine G.ld 0 (o:=2) O O<|an g1 hM (G.perm<|jB [_] hx [_]) al N (.step cur e bb ac<|ar.1 ap) λv Cw JA Rh M2 a3 a5 a1 WH GD WC=>?_;refine eD ?_;refine⟨u (A.rg cur)-(k+1),N,_,_,_,_,O,k+1,JA,Rh,M2,pq,N,a3,?_,a1,N,λt ht=>GD t<|am t ht,λj e' hj ad WG=>?_⟩
  .have:=a5.perm (jB M2 [(re,121,[W e.1,W e.2.1,W e.2.2])] [(E,27,q.cells A)]);exact fV (A:=[_]) this
  .rcases dH j k with I|I
   .exact GD _<|ab j e' I ad WG
   .obtain rfl:j=k:=N;rw[aq]at ad;cases ad;exact WH
 .refine eD ?_;refine⟨u (A.rg cur)-(k+1),N,_,_,_,_,O,k+1,mk',nx',hx,pq,N,hM,fV (A:=[_]) G,al,N,am,λj e' hj ad WG=>?_⟩;rcases dH j k with I|I
  .exact ab j e' I ad WG
  .obtain rfl:j=k:=N;rw[aq]at ad;cases ad;exact absurd (ar.2 WG) (by rw[ap];simp)
end
section
variable{S:D Nat}{cs:Nat->Prop}{P:Nat->Prop}{nx:D Nat}
def UU:D (Nat×Ed)->D C
 |[]=>[]
 |p::l=>W p.1::W p.2.1::W p.2.2.1::W p.2.2.2::UU l
def Ri:∀l,u (UU l)=u l*4
 |[]=>rfl
 |e::l=>by
  have:=Ri l;simp only[UU,cO];omega
def YV:∀l l',UU (l++l')=UU l++UU l'
 |[],l'=>rfl
 |e::l,l'=>by simp only[bQ,UU,YV l l']
def adV:∀{l:D (Nat×Ed)}{i:Nat}{p:Nat×Ed},l[i]?=Z p->El (UU l) 4 i=[W p.1,W p.2.1,W p.2.2.1,W p.2.2.2]
 |[],i,e,h=>by simp at h
 |x::l,0,e,h=>by
  simp at h;subst h;simp[El,UU]
 |x::l,i+1,e,h=>by
  have:=adV (l:=l) (i:=i)<|om h;rw[<-this];unfold El;rw[show(i+1)*4=i*4+4 by omega];rfl
section steps
variable{v:C}
def _root_.Go.Ae.SH.R8(G:SH S H0 H L)[d:BO L r ty F](hk:k<n)(g:F[k]?=Z v)(kk:K (bG<|Z ⟨r,k,T⟩) v<|hN H):
 PU (BS 1 (J (Z ⟨r,0,T⟩) n c)<|W k) λp=>ME (yh T p<|hN H) (K p):=by
 have⟨i,hi⟩:=d.at';refine dA (Ic hk) ?_;rw[bB];exact G.R5 i hi g kk
def _root_.Go.Ae.jC.R8(h:jC cs ty H a n 1 F)(hk:k<n)(d:F[k]?=Z v)(kk:∀r o,K (bG<|Z ⟨r,o,T⟩) v<|hN H):
 PU (BS 1 (J a n c)<|W k) λp=>ME (yh T p<|hN H) (K p):=by
 have⟨r,o,I,B,h3,_⟩:=h.1.idx (c:=c) (dI 0) hk;refine dA I<|iV (H:=hN H) ?_<|kk _ _;have:=h3 0 v (dI 0) (by rw[dY,dZ];exact d);exact this
def vF.ajI(h:vF cs H A q)(ho:A.Ok)(hk:k<A.nr)(kk:∀r o,K (bG<|Z ⟨r,o,T⟩) (W<|A.S k)<|hN H):PU (BS 1 (J q.sa A.nr q.sc)<|W k) λp=>ME (yh T p<|hN H) (K p):=h.s.R8 hk (AQ (by rw[ho.YN];exact hk)) kk
def amq(h:jC cs 209 H a (u l) 4<|UU l)(hk:k<u l)(kk:∀p,K p (dN ⟨[W l[k].1,W l[k].2.1,W l[k].2.2.1,W l[k].2.2.2]⟩) H):PU (BS 4 (J a (u l) c)<|W k) λp=>ME (yh (Z 4) p H) (K p):=
 h.VS N hk (adV<|av hk) kk
end steps
def amr(A:At)(tok:Bool)(t:Nat)(l:D<|Nat×Ed):Prop:=(∀p∈l,p.2∈A.rg p.1/\p.2.2.2=t/\At.YQ tok p.2)/\∀s e,e∈A.rg s->At.YQ tok e->e.2.2=t->(s,e)∈l
def ams(A:At)(r:Nat)(l:D<|Nat×Ed):Prop:=(∀p∈l,p.2∈A.rg p.1/\p.2.1=2/\p.2.2.1=r)/\∀s e,e∈A.rg s->e.1=2->e.2.1=r->(s,e)∈l
def BkM(d:Nat->D (Nat×Ed)->Prop)(H:R)(n:Nat)(a:aC Addr):Prop:=∃vs,jC (λ_=>True) 207 H a n 1 vs/\∀t,t<n->∃b c l,vs[t]?=Z (J b (u l) c)/\jC (λ_=>True) 209 H b (u l) 4 (UU l)/\d t l/\u l<=1000000000
def BkM.ld{d:Nat->D (Nat×Ed)->Prop}{a:aC Addr}{t c:Nat}{Q:R}{K:C->C->R->Prop}(h:BkM d H n a)(M:Ext H Q)(ht:t<n)(kk:∀p b c l,jC (λ_=>True) 209 H b (u l) 4 (UU l)->d t l->u l<=1000000000->K p (J b (u l) c) Q):PU (BS 1 (J a n c)<|W t) λp=>ME (yh T p Q) (K p):=by
 have⟨vs,I,B⟩:=h;have⟨b,c,l,h3,h4,h5,h6⟩:=B t ht;exact(I.ex M).ix ht h3 λp=>kk p b c l h4 h5 h6
def agy{tok:Bool}{ic cc:Nat}(hw:Wf H)(h:vF cs H A q)(ho:A.Ok)(hg:Bk H E 27<|q.cells A)(bf:E<H.bV)(hI:BkM (amr A tok) H A.ns ia)(hC:BkM (ams A) H A.nr ca){x4 x7 x8 jW jh mQ jY mO rT zX wB yS a7 a8 a9 BU bb bd cq cu bg an Gh Cr ac ad U:C}{oW:D (Nat×C)}:
 iC Pg X (sub qT [1,1,1,1]) (nJ (q.v A) (aO tok) (pt E) x4 (J ia A.ns ic) (J ca A.nr cc) x7 x8 jW jh mQ jY mO rT zX wB yS a7 a8 a9 BU bb bd cq cu bg an Gh Cr ac ad U oW H)
  (jO Pg [.tmp 4]<|Qe (λv Q=>∃mk,Bs H.bV Q A.ns v mk/\∀s,on mk s<->A.Mk tok s) H):=by
 have G:=gM hw;have b6:=ho.big;have Jz:=ho.few;refine tl<|ME.uE (vs:=q.cells A) (hg.read (by show 0+6<=6;omega)) ?_;refine dn (vR G.wf q A) ?_;rintro v H2 ⟨rfl,M⟩;have G:=G.call M;refine G.mkS (ax _) N λH3 dm G=>?_;rw[nC]at G;refine G.jM λH4 V G=>?_;refine G.kN ?_;refine G.j_ λHn G=>G.jM λH5 Y G=>G.CJ (hg.cell (o:=2) O) bf ?_;refine bN ?_;have G:SH [] H H5 ([(Y,22,[J T 0 0]),(V,34,[J (Z ⟨dm,0,T⟩) A.ns A.ns]),(dm,4,aY A.ns<|aO aA)]):=G;have G:=G.perm (L':=[(V,34,[J (Z ⟨dm,0,T⟩) A.ns A.ns]),(Y,22,[J T 0 0]),(dm,4,aY A.ns<|aO aA)])<|iF _ _ _;have hM:Ms V Y dm A.ns (aY A.ns aA) [] [(V,34,[J (Z ⟨dm,0,T⟩) A.ns A.ns]),(Y,22,[J T 0 0]),(dm,4,aY A.ns<|aO aA)]:=⟨J T 0 0,[],gB,GB.nil _ _,gB⟩;have ao:mu (aY A.ns aA) []<=8000:=by unfold mu;rw[Rb];show 2*A.ns+0<=8000;omega
 have ap:∀{s:Nat}{mk:D Bool}{nx:D Nat}{hx L:D eF}{Q:R}{P:Nat->Prop}{K:C->R->Prop},s<A.ns->Ms V Y dm A.ns mk nx hx->SH [] H Q (hx++L)->MJ A.ns (A.Mk tok) P mk nx->mu mk nx<=8000->A.Mk tok s->
  (∀v H2 mk' nx' M',Ms V Y dm A.ns mk' nx' M'->SH [] H H2 (M'++L)->MJ A.ns (A.Mk tok) P mk' nx'->on mk' s->(∀t,on mk t->on mk' t)->mu mk' nx'<=mu mk nx->K v H2)->
  qh Pg X (Oo<|.func (.func 111) ⟨[]⟩ ⟨[pt V,pt Y]⟩) [W s] Q K:=by
  intro s mk nx hx L Q P K hs hM G hJ ao hq kk;show bM Pg X 111 [W s,pt V,pt Y] Q K;refine dn (Js hM G hs<|YU ao) ?_;rintro v H2 ⟨mk',nx',M',b2,b4,hk⟩;have⟨a,b,c,d⟩:=hk.mj hJ hq;exact kk v H2 mk' nx' M' b2 b4 a b c d
 refine lp2 15 90 (h1:=λm mO bg Q=>∃i mk nx hx,bg=W i/\i+m=A.nr/\Ms V Y dm A.ns mk nx hx/\SH [] H Q (hx++[])/\MJ A.ns (A.Mk tok) (λ_=>False) mk nx/\mu mk nx<=8000/\∀j,j<i->on mk (A.P j)) ?_ A.nr ⟨0,_,_,_,rfl,N,hM,G,MJ.nil _ _,ao,λj hj=>N⟩;clear G hM ao M;rintro m mO bg oW H6 ⟨i,mk,nx,hx,rfl,cg,hM,G,hJ,ao,hb⟩;refine tK (λhc=>?_) λhc=>?_
 .have hi:i<A.nr:=N;refine(h.ex G.ext).ldP ho hi λp=>ap (ho.p i hi).1 hM G hJ ao (.stop i hi) λv H7 mk' nx' M' hM G hJ ck aw bh=>?_;refine eD ?_;refine⟨A.nr-(i+1),N,_,_,_,_,O,i+1,mk',nx',M',pq,N,hM,G,hJ,N,λj hj=>?_⟩;rcases dH j i with I|I
  .exact aw _<|hb j I
  .obtain rfl:j=i:=N;exact ck
 have ab:∀r,r<A.nr->on mk (A.P r):=λr hr=>hb r N;clear hb hc cg;refine tl ?_;refine ajl 16 18 19 21 115 116 117 157 158 159 (h1:=λm rT zX wB yS an Gh Cr ac ad U Q=>∃mk nx hx P,Ms V Y dm A.ns mk nx hx/\SH [] H Q (hx++[])/\MJ A.ns (A.Mk tok) P mk nx/\mu mk nx<=8000/\mu mk nx=m/\(∀r,r<A.nr->on mk (A.P r))/\A.Clo tok P mk) ?_ (mu mk nx) ⟨mk,nx,hx,_,hM,G,hJ,ao,rfl,ab,λs e _ _ h=>h.elim⟩;clear G hM hJ ao ab;rintro m rT zX wB yS an Gh Cr ac ad U oW H6 ⟨mk,nx,hx,P,hM,G,hJ,ao,rfl,ab,WB⟩;obtain⟨nv,gb,rfl,b9,hl⟩:=hM;have G:SH [] H H6 ((V,34,[J (Z ⟨dm,0,T⟩) A.ns A.ns])::(Y,22,[nv])::(dm,4,bools mk)::(gb++[])):=G;refine tm ?_
 have bi:nx=[]->∀oW,iC Pg X (sub qT [1,1,1,1,1,1,1,1,1]) (nJ (q.v A) (aO tok) (pt E) x4 (J ia A.ns ic) (J ca A.nr cc) x7 x8 jW (pt V) (pt Y) (.func (.func 111) ⟨[]⟩ ⟨[pt V,pt Y]⟩) mO rT zX wB yS a7 a8 a9 BU bb bd (J q.pa A.nr q.pc) (W A.nr) (W i) an Gh Cr ac ad U oW H6)
  (jO Pg [.tmp 4]<|Qe (λv Q=>∃mk,Bs H.bV Q A.ns v mk/\∀s,on mk s<->A.Mk tok s) H):=by
  intro hn oW;subst hn;refine tl ?_;refine G.qE<|rr ?_;exact⟨⟨mk,⟨_,_,O,hl,jC.one G (aT (i:=2) O) (om hl)<|G.yu<|aT (i:=2) O⟩,At.agx ho hJ WB ab⟩,G.ext⟩
 rcases b9 with⟨rfl,hn,rfl⟩|⟨r,n,fE,rfl,hn,rfl⟩
 .obtain rfl:nx=[]:=om hn;refine bN ?_;refine aV (λhc=>N) λ_=>?_;exact bi O _
 have hn:u nx=n:=om hn;subst hn;refine MQ (λhc=>?_) λhc=>?_
 .exact bi (eP.1 N) _
 clear bi;obtain⟨AY,cur,rfl⟩:∃a b,nx=a++[b]:=⟨nx.dropLast,nx.getLast (λe=>by subst e;simp at hc),(oL _).symm⟩;have a5:u (AY++[cur])=u AY+1:=gB;rw[a5]at G;simp only[bQ,bX]at G;have bx:=YU ao;rw[a5]at bx;refine fF ?_;refine rA ?_;rw[show((u AY+1:Nat):Int)-1=(u AY:Nat) by omega];refine G.ix (v:=W cur) N gB λp=>?_;refine fF ?_;refine rA ?_;rw[show((u AY+1:Nat):Int)-1=(u AY:Nat) by omega];refine dA (De N)<|G.j_ λHn G=>?_;have KY:cur<A.ns:=by have:=ain<|hJ.nxo cur gB;rw[hJ.len]at this;exact this
 have g:=hJ.pop;have WC:=adS mk AY cur;have hM:Ms V Y dm A.ns mk AY ((V,34,[J (Z ⟨dm,0,T⟩) A.ns A.ns])::(Y,22,[J (Z ⟨r,0,T⟩) (u AY) (gK 1)])::(dm,4,bools mk)::[(r,3,gq (AY++[cur])++fE)]):=⟨_,_,O,.inr ⟨r,_,W cur::fE,O,gB,gB⟩,hl⟩;refine hI.ld G.ext KY λp ba bc l hl hG cj=>?_;refine bN ?_;have G:SH [] H _ (((V,34,[J (Z ⟨dm,0,T⟩) A.ns A.ns])::(Y,22,[J (Z ⟨r,0,T⟩) (u AY) (gK 1)])::(dm,4,bools mk)::[(r,3,gq (AY++[cur])++fE)])++[]):=G;have bl:=hJ.snd cur<|hJ.nxo cur gB;refine lp2 18 117 (h1:=λm zX Cr Q=>∃k mk' nx' hx,Cr=W k/\k+m=u l/\Ms V Y dm A.ns mk' nx' hx/\SH [] H Q (hx++[])/\MJ A.ns (A.Mk tok) (λt=>P t\/t=cur) mk' nx'/\mu mk' nx'<=mu mk AY/\(∀t,on mk t->on mk' t)/\∀(j:Nat)(p:Nat×Ed),j<k->l[j]?=Z p->(p.2.1=2->P (A.S p.2.2.1)\/A.S p.2.2.1=cur)->on mk' p.1) ?_ (u l) ⟨0,mk,AY,_,rfl,N,hM,G,g,ax _,λt h=>h,λj e hj=>N⟩;clear G hM g;rintro m' bm cy OH H7 ⟨k,mk',nx',hx,rfl,bt,hM,G,g,bh,aw,y⟩;refine tK (λbe=>?_) λbe=>?_
 .have hk:k<u l:=N;refine amq (hl.ex G.ext) hk λp=>?_;have al:=bH hk;have aE:l[k]?=Z l[k]:=av hk;have⟨g1,g2,g3⟩:=hG.1 _ al;generalize hee:l[k]=pe at g1 g2 g3 aE al|-;have⟨s,e⟩:=pe;replace g1:e∈A.rg s:=g1;replace g2:e.2.2=cur:=g2;replace g3:At.YQ tok e:=g3;have a6:=ho.lt g1;refine G.ns O O O λH8 re G z8=>?_;have G:SH [] H H8 ((re,209,[W s,W e.1,W e.2.1,W e.2.2])::(hx++[])):=G
  have zO:∀bm JA Rh M2 Bw H9,Ms V Y dm A.ns JA Rh M2->SH [] H H9 (M2++[])->MJ A.ns (A.Mk tok) (λt=>P t\/t=cur) JA Rh->mu JA Rh<=mu mk' nx'->(∀t,on mk' t->on JA t)->((e.1=2->P (A.S e.2.1)\/A.S e.2.1=cur)->on JA s)->
   iC Pg X (sub qT [1,1,1,1,1,1,1,1,0,0,0,1,0,1,1,0,1,0,0,1,1,1]) (nJ (q.v A) (aO tok) (pt E) x4 (J ia A.ns ic) (J ca A.nr cc) x7 x8 jW (pt V) (pt Y) (.func (.func 111) ⟨[]⟩ ⟨[pt V,pt Y]⟩) mO (W cur) bm wB yS a7 a8 a9 BU bb bd (J q.pa A.nr q.pc) (W A.nr) (W i) (J ba (u l) bc) (W<|u l) (W k) ac ad U Bw H9)
    (IU (xy (q.v A) (aO tok) (pt E) x4 (J ia A.ns ic) (J ca A.nr cc) x7 x8 jW (pt V) (pt Y) (.func (.func 111) ⟨[]⟩ ⟨[pt V,pt Y]⟩) mO (W cur) wB yS a7 a8 a9 BU bb bd (J q.pa A.nr q.pc) (W A.nr) (W i) (J ba (u l) bc) (W<|u l) ac ad U λm zX Cr Q=>∃k mk' nx' hx,Cr=W k/\k+m=u l/\Ms V Y dm A.ns mk' nx' hx/\SH [] H Q (hx++[])/\MJ A.ns (A.Mk tok) (λt=>P t\/t=cur) mk' nx'/\mu mk' nx'<=mu mk AY/\(∀t,on mk t->on mk' t)/\∀(j:Nat)(p:Nat×Ed),j<k->l[j]?=Z p->(p.2.1=2->P (A.S p.2.2.1)\/A.S p.2.2.1=cur)->on mk' p.1) m'<|uk 8<|uQ Pg X (sub qT [1,1,1,1,1,1,1,1,0,0,0,1,0,1,1,1])<|uk 7<|IU (AL (q.v A) (aO tok) (pt E) x4 (J ia A.ns ic) (J ca A.nr cc) x7 x8 jW (pt V) (pt Y) (.func (.func 111) ⟨[]⟩ ⟨[pt V,pt Y]⟩) mO a7 a8 a9 BU bb bd (J q.pa A.nr q.pc) (W A.nr) (W i) λm rT zX wB yS an Gh Cr ac ad U Q=>∃mk nx hx P,Ms V Y dm A.ns mk nx hx/\SH [] H Q (hx++[])/\MJ A.ns (A.Mk tok) P mk nx/\mu mk nx<=8000/\mu mk nx=m/\(∀r,r<A.nr->on mk (A.P r))/\A.Clo tok P mk) (mu mk<|AY++[cur])<|uk 6<|uQ Pg X (sub qT [1,1,1,1,1,1,1,1,1])<|jO Pg [.tmp 4]<|Qe (λv Q=>∃mk,Bs H.bV Q A.ns v mk/\∀s,on mk s<->A.Mk tok s) H):=by
   intro bm JA Rh M2 Bw H9 a2 a3 a0 WC GD WH;refine tl ?_;refine eD ?_;refine⟨u l-(k+1),N,_,_,_,_,O,k+1,JA,Rh,M2,pq,N,a2,a3,a0,N,λt ht=>GD t<|aw t ht,λj p' hj am WG=>?_⟩;rcases dH j k with I|I
   .exact GD _<|y j p' I am WG
   .obtain rfl:j=k:=N;rw[aE]at am;cases am;exact WH WG
  refine Oq (λa4=>?_) λa4=>?_
  .refine VO ?_;refine tm ?_;refine ap a6 hM (G.perm<|jB [_] hx []) g N (.edge s e g1 g3 (λB=>absurd N a4) (by rw[g2];exact bl)) λv Cw JA Rh M2 a2 a3 a0 WH GD WC=>?_;exact zO _ JA Rh M2 _ _ a2 (fV (A:=[_])<|a3.perm<|jB M2 [_] []) a0 WC GD λ_=>WH
  .have bp:e.1=2:=N;have bo:=ho.call g1 bp;have a1:=hM;have b5:=ho.s _ bo;obtain⟨bw,iX,rfl,bj,ci⟩:=hM;simp only[bQ]at G;refine fF ?_;refine G.Jk (hg.cell (o:=1) O) bf ?_;refine fF ?_;refine vF.ajI (h.ex G.ext) ho bo λr1 o1=>?_;refine G.kN ?_;obtain⟨b,aq⟩:∃b,mk'[A.S e.2.1]?=Z b:=⟨_,av N⟩;refine G.R8 b5.1 (jV _ aq)<|fF ?_;refine al5 (λar=>?_) λar=>?_
   .refine G.qE<|ap a6 a1 (G.perm<|jB [_] (_::_::_::iX) []) g N (.edge s e g1 g3 (λB=>g.snd _ (by unfold on;rw[aq,ar])) (by rw[g2];exact bl)) λv Cw JA Rh M2 a2 a3 a0 WH GD WC=>?_;exact zO _ JA Rh M2 _ _ a2 (fV (A:=[_])<|a3.perm<|jB M2 [_] []) a0 WC GD λ_=>WH
   .refine zO _ mk' nx' _ _ _ a1 (fV (A:=[_]) G) g (ax _) (λt h=>h) λB=>?_;have:=g.pon _<|B bp;unfold on at this;rw[aq]at this;cases this;cases ar
 have br:∀s e,e∈A.rg s->At.YQ tok e->e.2.2=cur->(e.1=2->P (A.S e.2.1)\/A.S e.2.1=cur)->on mk' s:=λs e he hk ht b7=>by
  have⟨j,hj,e1⟩:=kL.1<|hG.2 s e he hk ht;exact y j (s,e) N (by rw[<-e1];exact av hj) b7
 clear y be bt hl hG;refine tp ?_;refine G.CJ (hg.cell (o:=3) O) bf<|(h.ex G.ext).CJ KY λp=>G.CJ (hg.cell (o:=1) O) bf<|(h.ex G.ext).ldS ho (ho.o cur KY) λp=>?_;refine MQ (λa4=>?_) λa4=>?_
 .refine⟨mu mk' nx',N,_,_,_,_,_,_,_,_,_,_,_,_,O,mk',nx',hx,_,hM,G,g,N,O,λr hr=>aw _<|ab r hr,WB.step aw br λs e he B hs _=>?_⟩;have:=(ho.s _<|ho.call he B).2;rw[hs]at this;exact absurd (by rw[this,hs]) a4
 have bz:A.S (A.aj cur)=cur:=N;refine hC.ld G.ext (ho.o cur KY) λp ba bc l hl hG cj=>?_;refine bN ?_;refine lp2 21 159 (h1:=λm yS U Q=>∃k JA Rh hx,U=W k/\k+m=u l/\Ms V Y dm A.ns JA Rh hx/\SH [] H Q (hx++[])/\MJ A.ns (A.Mk tok) (λt=>P t\/t=cur) JA Rh/\mu JA Rh<=mu mk AY/\(∀t,on mk' t->on JA t)/\∀(j:Nat)(p:Nat×Ed),j<k->l[j]?=Z p->(P p.2.2.2\/p.2.2.2=cur)->on JA p.1) ?_ (u l) ⟨0,mk',nx',hx,rfl,N,hM,G,g,N,λt h=>h,λj e hj=>N⟩;clear G hM g bh;rintro m' cC cw OH H7 ⟨k,JA,Rh,hx,rfl,bt,hM,G,g,bh,GD,y⟩;refine mG (λbe=>?_) λbe=>?_
 .refine⟨mu JA Rh,N,_,_,_,_,_,_,_,_,_,_,_,_,O,JA,Rh,hx,_,hM,G,g,N,O,λr hr=>GD _<|aw _<|ab r hr,WB.step (λt ht=>GD t<|aw t ht) (λs e I B h3 h4=>GD _<|br s e I B h3 h4) λs e he B hs ht=>?_⟩;have bv:=(ho.s _<|ho.call he B).2;rw[hs]at bv;have⟨j,hj,e1⟩:=kL.1<|hG.2 s e he B bv.symm;exact y j (s,e) N (by rw[<-e1];exact av hj) ht
 have hk:k<u l:=N;refine amq (hl.ex G.ext) hk λp=>?_;have al:=bH hk;have aE:l[k]?=Z l[k]:=av hk;have⟨g1,g2,g3⟩:=hG.1 _ al;generalize hee:l[k]=pe at g1 g2 g3 aE al|-;have⟨s,e⟩:=pe;replace g1:e∈A.rg s:=g1;replace g2:e.1=2:=g2;replace g3:e.2.1=A.aj cur:=g3;have a6:=ho.lt g1;have b8:=(ho.e s a6 e g1).1;refine G.ns O O O λH8 re G z8=>?_;have a1:=hM;obtain⟨bw,iX,rfl,bj,ci⟩:=hM;have G:SH [] H H8 ((re,209,[W s,W e.1,W e.2.1,W e.2.2])::(V,34,[J (Z ⟨dm,0,T⟩) A.ns A.ns])::(Y,22,[bw])::(dm,4,bools JA)::(iX++[])):=G;refine fF ?_;obtain⟨b,aq⟩:∃b,JA[e.2.2]?=Z b:=⟨_,av N⟩;refine G.ix b8 (jV _ aq) λp=>?_;refine sD (λar=>?_) λar=>?_
 .refine G.qE<|ap a6 a1 (G.perm<|jB [_] (_::_::_::iX) []) g N (.edge s e g1 (λI=>N) (λ_=>by rw[g3,bz];exact bl)<|g.snd _ (by unfold on;rw[aq,ar])) λv Cw cm cn M3 b3 wu b1 b0 bn cA=>?_;refine eD ?_;refine⟨u l-(k+1),N,_,_,_,_,O,k+1,cm,cn,M3,pq,N,b3,fV (A:=[_])<|wu.perm<|jB M3 [_] [],b1,N,λt ht=>bn t<|GD t ht,λj p' hj am WG=>?_⟩;rcases dH j k with I|I
  .exact bn _<|y j p' I am WG
  .obtain rfl:j=k:=N;rw[aE]at am;cases am;exact b0
 .refine eD ?_;refine⟨u l-(k+1),N,_,_,_,_,O,k+1,JA,Rh,_,pq,N,a1,fV (A:=[_]) G,g,N,GD,λj p' hj am WG=>?_⟩;rcases dH j k with I|I
  .exact y j p' I am WG
  .obtain rfl:j=k:=N;rw[aE]at am;cases am;have:=g.pon _ WG;unfold on at this;rw[show((s,e):Nat×Ed).2.2.2=e.2.2 from O,aq]at this;cases this;cases ar
end
section
variable{S:D Nat}{cs:Nat->Prop}{P:Nat->Prop}{nx:D Nat}
structure KD(A:At)(ok:Ed->Prop)(key:Ed->Nat)(ak:Nat->Ed->Prop)(c:Nat)(b:D<|D<|Nat×Ed):Prop where
 snd:∀(t:Nat) l,b[t]?=Z l->∀p∈l,p.2∈A.rg p.1/\key p.2=t/\ok p.2
 cpl:∀s e l,ak s e->ok e->b[key e]?=Z l->(s,e)∈l
 len:∀l∈b,u l<=c
section kd
variable{b:D (D<|Nat×Ed)}
def KD.nil(n:Nat):KD A ok key (λ_ _=>False) 0 (aY n []):=by
 refine⟨λt l h p d=>?_,λs e l h=>h.elim,λl h=>?_⟩
 .have:=aT h;rw[List.mem_replicate]at this;rw[this.2]at d;cases d
 .rw[List.mem_replicate]at h;rw[h.2];exact ax _
def KD.wk(h:KD A ok key ak c b)(hd:∀s e,D' s e->ak s e)(d:c<=c'):KD A ok key D' c' b:=⟨h.snd,λs e l g=>h.cpl s e l<|hd s e g,λl g=>aR (h.len l g) d⟩
def KD.add(h:KD A ok key ak c b)(N:e∈A.rg s)(hk:ok e)(hl:b[key e]?=Z l):KD A ok key (λs' e'=>ak s' e'\/(s'=s/\e'=e)) (c+1) (b.set (key e)<|l++[(s,e)]):=by
 have B:=(bK.1 hl).1;refine⟨λt M d p hp=>?_,λs' e' M g y d=>?_,λM d=>?_⟩
 .rw[dX]at d
  by_cases ht:key e=t
  .rw[jj ht,jj B]at d;cases d;rcases cB.1 hp with hp|hp
   .rw[<-ht];exact h.snd _ l hl p hp
   .rw[aS]at hp;subst hp;exact⟨N,ht,hk⟩
  .rw[jx ht]at d;exact h.snd t M d p hp
 .rw[dX]at d
  by_cases ht:key e=key e'
  .rw[jj ht,jj B]at d;cases d;rcases g with g|⟨rfl,rfl⟩
   .exact dM _<|h.cpl s' e' l g y (by rw[<-ht];exact hl)
   .simp
  .rw[jx ht]at d;rcases g with g|⟨rfl,rfl⟩
   .exact h.cpl s' e' M g y d
   .exact absurd O ht
 .rcases iT d with I|rfl
  .have:=h.len M I;omega
  .have:=h.len l (aT hl);rw[aU];show u l+1<=c+1;omega
def KD.skip(h:KD A ok key ak c b)(hk:¬ok e):KD A ok key (λs' e'=>ak s' e'\/(s'=s/\e'=e)) (c+1) b:=by
 refine⟨h.snd,λs' e' l y d g=>?_,λB g=>uW<|h.len B g⟩;rcases y with y|⟨rfl,rfl⟩
 .exact h.cpl s' e' l y d g
 .exact absurd d hk
end kd
def Seen(A:At)(i k:Nat)(s:Nat)(e:Ed):Prop:=(s<i/\e∈A.rg s)\/(s=i/\∃j:Nat,j<k/\(A.rg i)[j]?=Z e)
def Seen.bV(g:(A.rg i)[k]?=Z e0)(h:Seen A i (k+1) s e):Seen A i k s e\/(s=i/\e=e0):=by
 rcases h with h|⟨I,j,B,d⟩
 .exact .inl<|.inl h
 .rcases dH j k with h4|h4
  .exact .inl<|.inr ⟨I,j,h4,d⟩
  .obtain rfl:j=k:=N;rw[g]at d;cases d;exact .inr ⟨I,O⟩
def Seen.all(h:Seen A (i+1) 0 s e):Seen A i (u<|A.rg i) s e:=by
 rcases h with⟨I,B⟩|⟨I,j,B,d⟩
 .rcases dH s i with h4|h4
  .exact .inl ⟨h4,B⟩
  .obtain rfl:s=i:=N;have⟨j,hj,e1⟩:=kL.1 B;exact .inr ⟨O,j,hj,by rw[<-e1];exact av hj⟩
 .omega
def _root_.Go.Ae.SH.Rj{v:C}(G:SH S H0 H L)[y:Ga L r (λF=>F.set k v) ty F L'](hk:k<n)(hl:k<u F)(N:cr v=[v]:=by rfl)(ho:gI v=f:=by rfl)(kk:∀H1,SH S H0 (hM H H1) L'->K (bG<|Z ⟨r,k,T⟩) undef H1):
 PU (BS 1 (J (Z ⟨r,0,T⟩) n c)<|W k) λp=>ME (GU 1 p v<|hN H) (K p):=by
 have⟨i,hi,e⟩:=y.at';refine dA (Ic hk) ?_;rw[bB];have⟨H1,I,B,M⟩:=(SH.Bt G).zV (vs:=[v]) (o:=k) i hi (by show k+1<=_;omega) (by show b_ (gI v) _ _=_;rw[ho];rfl);rw[Yh hl]at B;show ME (gd (aB (len<|cr v) 1)<|aN ((Go.Ae.hN H).write r k<|cr v) λQ=>Z (undef,Q)) _;rw[N,h_,show aB [v].length 1=f from O,I];refine kk H1 ?_;rw[e]
 exact⟨pN.later G.ext M.draw (λq g=>by
  simp at g;subst g;exact(G.lo _<|aT hi).1),B.bk,λe d=>⟨(B.lo e d).1,(B.lo e d).2⟩,B.ne,M.draw.wf G.wf⟩
def Lp(ok:Ed->Prop)(key:Ed->Nat)(A:At)(ak:Nat->Ed->Prop)(c n:Nat)(vs:D C)(az:D eF):Prop:=∃b,KD A ok key ak c b/\u b=n/\Jm 209 4 (b.map UU) vs az
def Lp.wk{az:D eF}(h:Lp ok key A ak c n vs az)(hd:∀s e,D' s e->ak s e)(d:c<=c'):Lp ok key A D' c' n vs az:=let⟨b,I,B,h3⟩:=h;⟨b,I.wk hd d,B,h3⟩
def Lp.skip{az:D eF}(h:Lp ok key A ak c n vs az)(hk:¬ok e):Lp ok key A (λs' e'=>ak s' e'\/(s'=s/\e'=e)) (c+1) n vs az:=let⟨b,I,B,h3⟩:=h;⟨b,I.skip hk,B,h3⟩
def Lp.put{az y g:D eF}{rx:Nat}{K:C->R->Prop}(h:Lp ok key A ak c n vs az)(hc:c<=1000000)(he:e∈A.rg s)(hk:ok e)(hn:key e<n){v:C}(hv:vs[key e]?=Z v)(G:SH S H0 H<|(rx,209,[W s,W e.1,W e.2.1,W e.2.2])::(y++(az++g)))(kk:∀va vl vc H1 R',Lp ok key A (λs' e'=>ak s' e'\/(s'=s/\e'=e)) (c+1) n (vs.set (key e)<|J va vl vc) R'->SH S H0 (hM H H1) (y++(R'++g))->(CG H H1=cl 1\/CG H H1=⟨2,0,0,0,H,H1⟩)->K (J va vl vc) H1):
 ME (Ch 209 4 v (J (Z ⟨rx,0,T⟩) 1 1)<|hN H) K:=by
 have⟨b,I,B,h3⟩:=h;have ad:u vs=n:=by rw[<-h3.len,aM,B]
 obtain⟨M,gb,U,rfl,V,Y⟩:=h3.at (key e) N;obtain⟨l,hl⟩:∃l,b[key e]?=Z l:=⟨_,av N⟩;have ac:=I.len l<|aT hl;rw[bL,hl]at V;have V:GB 209 4 vs[key e] (UU l) gb:=V;rw[av N]at hv;rw[eO hv]at V;have e1:y++((M++(gb++U))++g)=(y++M)++(gb++(U++g)):=gB;rw[e1]at G;refine V.KB (G.perm<|fA _<|jB (y++M) gb<|U++g) N O O (by rw[Ri];omega) λv' H1 iX X d _ _ ab=>?_;obtain⟨va,vl,vc,rfl⟩:=X.sl;have d:=d.perm<|jB iX (y++M)<|U++g;have e2:(y++M)++(iX++(U++g))=y++((M++(iX++U))++g):=gB;rw[e2]at d;refine kk va vl vc H1 (M++(iX++U)) ⟨b.set (key e)<|l++[(s,e)],I.add he hk hl,by rw[bU];exact B,?_⟩ d ab;have:=Y (J va vl vc) (UU<|l++[(s,e)]) iX (by rw[YV];exact X);rw[gW];exact this
def Cx:∀{d:D (D C)}{vs:D C}{az:D eF},Jm ty es d vs az->∀v∈vs,qL v v=f
 |[],[],az,h=>nofun
 |ks::d,w::vs,az,⟨gb,R',_,I,B⟩=>λv hv=>by
  rcases bW.1 hv with rfl|hv
  .rcases I with⟨rfl,_⟩|⟨r,n,fE,rfl,_⟩
   .exact qR _ _ _ λx h=>by cases h
   .exact qR _ _ _ λx h=>by cases h;rfl
  .exact Cx B v hv
 |[],v::vs,az,h=>h.elim
 |ks::d,[],az,h=>h.elim
def Lp.same{az:D eF}(h:Lp ok key A ak c n vs az):∀v∈vs,qL v v=f:=let⟨_,_,_,h3⟩:=h;Cx h3
def Iz{l:D C}(h:∃a b c:Nat,l=[W a,W b,W c]):∀v∈(l.drop o).take n,qL v v=f:=λv d=>by
 obtain⟨a,b,c,rfl⟩:=h;have:=lV<|fG d;simp at this;rcases this with rfl|rfl|rfl<;>exact yQ _ _
end
end Go.Proofs.Lv
