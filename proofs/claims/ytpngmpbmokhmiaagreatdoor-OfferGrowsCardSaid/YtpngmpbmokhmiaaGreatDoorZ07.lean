/-
  Part 07 of the proof. No condition.
-/
import Derived.Test.YtpngmpbmokhmiaaGreatDoorZ06
set_option linter.unusedVariables false
set_option linter.unusedSimpArgs false
set_option maxRecDepth 100000
set_option maxHeartbeats 4000000
set_option linter.defProp false
open Option renaming some->Z,none->T
open Bool renaming true->F,false->aA
open Go renaming Value->D,TypeId->aH
open Go.Value renaming int->bq,slice->u,bool->aR,string->aJ,pointer->bG,tuple->fO,agg->dP,map->fK
open Nat renaming beq->aB,ble->aD,add->a_,mul->bO,sub->dQ
open List renaming length->J,replicate->aY,range->dZ
open Classical renaming choose->jM
open List.Perm renaming swap->gX,cons->eX
open Go.IntKind renaming i64->bC
noncomputable section
namespace Go.Proofs.Lu
open Go.Ae Go.Ae.hx
variable{oW:C (Nat×D)}{H':Int->Prop}{a a' na ra va:aC Addr}{ws:C Nat}{b c hi i j lo n nc nn r rc E rv s tn vc x:Nat}{zs:Nat->C Nat}{f l jA rcs vcs z:C D}{kd:Nat->Int}{L hx Pf gb:C eB}{bs mk:C Bool}{e t ty:aH}{K:D->R->Prop}{m mm:C (aZ×D)}{H H0 H1:R}{F' P':Nat->Prop}{p x0 x1 je mP ko vH mM Bc xC x20 zV x4 x5 TG x6 TH Ke Oz x7 x9:D}{ok:Bool}{k nm:aZ}
section
variable{S:C Nat}{ay:Nat->Prop}
def TyP(l:C D):Prop:=∃(t:aZ)(r d:Int)(w:Bool),l=[aJ t,vi r,vi d,aR w]/\t.size<=1000000
def Vo(ay:Nat->Prop)(H:R)(a:aC Addr)(n:Nat)(f:C D):Prop:=jJ ay 240 H a n 4 f/\n<=5000/\∀i,i<n->TyP (El f 4 i)
abbrev vV(a:aC Addr)(n c:Nat):D:=dP ⟨[u a n c]⟩
def Wm(d:Wf H):bQ Pg X 151 [vV a n c] H (Q1 (λv _=>v=B n) H):=by
 have G:=h_ d;refine lq [0,1,2] ?_;refine G.box O λH1 E G=>?_;refine fJ ?_;refine rr ?_;exact⟨O,G.ext⟩
def IB(V:Wf H)(g:Vo ay H a n f)(U:∀Q l,Ext H Q->Wf Q->TyP l->qh Pg X (Ou p) [dP ⟨l⟩] Q (Q1 (λv _=>∃b:Bool,v=aR b) Q)):
 bQ Pg X 181 [u a n c,p] H (Q1 (λv _=>∃z:Int,v=vi z/\-1<=z/\z<n) H):=by
 have⟨hf,hn,ht⟩:=g;have G:=h_ V;refine GY [0,1,4,5,7,8] ?_;refine Ik 4 5 8 (h1:=λm x4 x5 d Q=>∃i:Nat,d=B i/\i+m=n/\SH [] H Q []) ?_ n ⟨0,rfl,N,G⟩;clear G;rintro m x4 x5 d E H1 ⟨i,rfl,T,G⟩;refine lX (λI=>?_) λI=>?_
 .refine tl<|rr ?_;exact⟨⟨-1,O,N,N⟩,G.ext⟩
 have⟨r,o,e,hr,hrd,_⟩:=hf.1.read N (show i<n by omega) c;rw[e];refine bM ?_;refine G.BU hrd hr<|qh.mono (U H1 _ G.ext G.wf<|ht i N) ?_;rintro v W ⟨⟨b,rfl⟩,M⟩;have G:=G.call M;refine sD (λy=>?_) λy=>?_
 .refine rr ?_;exact⟨⟨i,O,N,N⟩,G.ext⟩
 .refine eG ?_;exact⟨n-(i+1),N,_,_,_,_,_,O,i+1,pJ,N,G⟩
theorem Wo(hw:Wf H)(B:Vo ay H a n f)(k:Int):bQ Pg X 149 [vV a n c,vi k] H (Q1 (λv _=>∃z:Int,v=vi z/\-1<=z/\z<n) H):=by
 have G:=h_ hw;refine lq [0,1,2,3,4] ?_;refine G.box O λH1 E G=>?_;refine G.box O λU I G=>?_;refine yz (λW=>?_) λW=>?_
 .refine rr ?_;exact⟨⟨-1,O,N,N⟩,G.ext⟩
 apply G.qF;have d:Vo ay U a n f:=⟨B.1.ex G.ext,B.2⟩;refine dD (IB G.wf d (p:=.func (.func 182) ⟨[]⟩ ⟨[bG (Z ⟨I,0,T⟩)]⟩) λQ l M y hl=>?_) ?_
 .obtain⟨t,r,ch,w,rfl,_⟩:=hl;show bQ Pg X 182 [_,bG<|Z ⟨I,0,T⟩] Q _;have Y:=((G.call M).get 0 O).cell (o:=0) (v:=vi k) O;have g:=((G.call M).lo _<|aV (i:=0) O).2;have G:=h_ y;refine lq [0,1,2,3] ?_;refine G.box O λV rt G=>?_;refine fJ ?_;refine G.CO Y g ?_;refine bM ?_;refine rr ?_;exact⟨⟨_,O⟩,G.ext⟩
 .rintro v V ⟨hz,M⟩;refine rr ?_;exact⟨hz,(G.call M).ext⟩
theorem OL(hw:Wf H)(B:Vo ay H a n f)(s:aZ):bQ Pg X 150 [vV a n c,aJ s] H (Q1 (λv _=>∃z:Int,v=vi z/\-1<=z/\z<n) H):=by
 have G:=h_ hw;refine lq [0,1,2,3,4] ?_;refine G.box O λH1 E G=>?_;refine G.box O λN I G=>?_;refine fJ ?_;have d:Vo ay N a n f:=⟨B.1.ex G.ext,B.2⟩;refine dD (IB G.wf d (p:=.func (.func 183) ⟨[]⟩ ⟨[bG (Z ⟨I,0,T⟩)]⟩) λQ l M y Y=>?_) ?_
 .obtain⟨t,r,ch,w,rfl,_⟩:=Y;show bQ Pg X 183 [_,bG<|Z ⟨I,0,T⟩] Q _;have W:=((G.call M).get 0 O).cell (o:=0) (v:=aJ s) O;have g:=((G.call M).lo _<|aV (i:=0) O).2;have G:=h_ y;refine lq [0,1,2,3] ?_;refine G.box O λU rt G=>?_;refine yz (λV=>?_) λV=>?_
  .refine G.qF<|G.CO W g ?_;refine bM ?_;refine rr ?_;exact⟨⟨_,O⟩,G.ext⟩
  .refine rr ?_;exact⟨⟨_,O⟩,G.ext⟩
 .rintro v U ⟨hz,M⟩;refine rr ?_;exact⟨hz,(G.call M).ext⟩
end
def ajC:tEq Pg 240=Z (.inr [3,1,1,2]):=fT
def aml(t t':aZ)(r r' ch d:Int)(w w':Bool):∃b,mU Pg 240 (dP ⟨[aJ t,vi r,vi ch,aR w]⟩) (dP ⟨[aJ t',vi r',vi d,aR w']⟩)=Z b:=by
 have e:mU Pg 240 (dP ⟨[aJ t,vi r,vi ch,aR w]⟩) (dP ⟨[aJ t',vi r',vi d,aR w']⟩)=(cr (tZ t t') (cr (FI r r') (cr (FI ch d) (cr (CK w w') (Z F)<|Z aA)<|Z aA)<|Z aA)<|Z aA):=by
  show(aN (tEq Pg 240) λq=>_)=_;rw[ajC];rfl
 rw[e];cases tZ t t'<;>cases FI r r'<;>cases FI ch d<;>cases CK w w'<;>exact⟨_,O⟩
def aoh(t t':aZ)(r r' ch d:Int)(w w':Bool)(i j:Nat):∃b:Bool,mW Pg .neq 240 (.tmp i) (.tmp j) (dP ⟨[aJ t,vi r,vi ch,aR w]⟩) (dP ⟨[aJ t',vi r',vi d,aR w']⟩)=Z (aR b):=by
 have⟨b,hb⟩:=aml t t' r r' ch d w w';refine⟨!b,?_⟩;show D6 .neq (aeq Pg 240 (.tmp i) (.tmp j) _ _)=_
 have:aeq Pg 240 (.tmp i) (.tmp j) (dP ⟨[aJ t,vi r,vi ch,aR w]⟩) (dP ⟨[aJ t',vi r',vi d,aR w']⟩)=Z b:=by
  rw[<-hb];rfl
 rw[this];rfl
def Wp{ay:Nat->Prop}{n' c':Nat}{cs':C D}(hw:Wf H)(g:Vo ay H a n f)(d:Vo F' H a' n' cs'):bQ Pg X 122 [vV a n c,vV a' n' c'] H (Q1 (λv _=>∃b:Bool,v=aR b) H):=by
 have G:=h_ hw;have hn:=g.2.1;refine lq [0,1,2,3,4,5,6,15,16,17] ?_;refine G.box O λH1 T G=>?_;refine G.box O λH2 U G=>?_;refine Ow (λW=>?_) λW=>?_
 .refine rr ?_;exact⟨⟨_,O⟩,G.ext⟩
 have ab:n=n':=N;refine fJ ?_;refine PO 4 5 6 17 (h1:=λm x4 x5 x6 M Q=>∃i:Nat,x4=aR aA/\M=B i/\i+m=n/\SH [] H Q [(U,180,[u a' n' c']),(T,180,[u a n c])]) ?_ n ⟨0,rfl,rfl,N,G⟩;clear G;rintro m x4 x5 x6 M E H3 ⟨i,rfl,rfl,Y,G⟩;refine lX (λI=>?_) λI=>?_
 .refine tl<|rr ?_;exact⟨⟨_,O⟩,G.ext⟩
 have⟨q,o,e,hr,hrd,_⟩:=g.1.1.read N (show i<n by omega) c;have⟨q',o',e',hr',Nn,_⟩:=d.1.1.read N (show i<n' by omega) c';have⟨t,k,ch,w,he,_⟩:=g.2.2 i N;have⟨t',k',ch',w',he',_⟩:=d.2.2 i N;rw[he]at hrd;rw[he']at Nn;rw[e];refine bM ?_;refine G.BU hrd hr<|G.oV O O O λV rt G ac=>?_;have G:SH [] H V [(rt,240,[aJ t,vi k,vi ch,aR w]),(U,180,[u a' n' c']),(T,180,[u a n c])]:=G;refine fJ ?_;rw[e'];refine G.lJ ?_;refine ME.uL (H:=hN _) ((xI (G.ext.obj q' hr' gD) o' 4).trans Nn) ?_;have⟨b,hb⟩:=aoh t t' k k' ch ch' w w' 22 27;refine dA hb<|fJ ?_;refine iI (λy=>?_) λy=>?_
 .refine rr ?_;exact⟨⟨_,O⟩,G.ext⟩
 .refine eG ?_;exact⟨n-(i+1),N,_,_,_,_,_,_,O,i+1,O,pJ,N,fU (A:=[_]) G⟩
section
variable{S:C Nat}{ay:Nat->Prop}
def _root_.Go.Ae.adH{o es:Nat}(h:lo<=hi)(W:hi<=n):R4 es (u (Z ⟨r,o,T⟩) n<|gQ es) (Z<|B lo) (Z<|B hi) T=Z (u (Z ⟨r,o+lo*es,T⟩) (hi-lo)<|gQ es):=by
 show cr (gW<|gQ es) _ (gd (aB (gQ es)<|gQ es)<|gd (aD lo hi&&aD hi n)<|Z<|u (Z ⟨r,a_ o<|bO lo es,T⟩) (dQ hi lo)<|gQ es)=_;rw[Aq,lz,dW,aG h,aG W];rfl
def Gr.sub{rn:Nat}(I:Gr b H ra rn rcs na nn jA)(U:na=T\/nc=gQ 5)(h:lo<=hi)(V:hi<=nn)(M:0<nn):
 ∃r o,R4 5 (u na nn nc) (Z<|B lo) (Z<|B hi) T=Z (u (Z ⟨r,o+lo*5,T⟩) (hi-lo)<|gQ 5)/\r<H.bU/\∀i,i<hi-lo->B_ 5 (u (Z ⟨r,o+lo*5,T⟩) (hi-lo)<|gQ 5) (B i)=Z (bG<|Z ⟨r,o+(lo+i)*5,T⟩)/\H.read r (o+(lo+i)*5) 5=Z (El jA 5<|lo+i):=by
 obtain⟨r,o,_,W,_,y,rfl,_⟩:=I.2.2.2.1.1.idx (c:=nc) N M;have d:nc=gQ 5:=U.resolve_left gD;subst d;refine⟨r,y,adH h V,W,λi g=>?_⟩;have⟨r',o',e',hr',hrd,_⟩:=I.no (i:=lo+i) N (gQ 5) O;rw[uQ N]at e';cases e';refine⟨?_,hrd⟩;rw[uQ g,show y+lo*5+i*5=y+(lo+i)*5 by omega]
def ES(f:C D):Prop:=∃n,J f=n*4/\∀i,i<n->TyP (El f 4 i)
def ES.nil:ES []:=⟨0,O,λi h=>N⟩
def ES.app(h:ES f)(hl:TyP l):ES (f++l):=by
 have⟨n,I,W⟩:=h;have d:J l=4:=by obtain⟨t,r,g,w,rfl,_⟩:=hl;rfl
 have hE:=Dt (es:=4) (n:=n) I (xs:=l) d;refine⟨n+1,by rw[aS];omega,λi hi=>?_⟩;rcases dH i n with h|h
 .rw[hE.1 i h];exact W i h
 .obtain rfl:i=n:=N;rw[hE.2];exact hl
def ME.adI{q:aH×aH}(G:SH S H0 H L)(I:vz Pg t=Z q)(kk:∀Q r,wF Q r []->Ext H Q->H.bU<=r->SH S H0 Q L->K (fK<|Z r) Q):ME (vD Pg t T H) K:=by
 refine ME.of (v:=fK<|Z H.bU) (H:=H.new<|.map []) ?_<|kk _ _ ⟨dI _,by rw[yf,if_pos O];rfl⟩ (Ext.new _ _) (ax _)<|G.call<|Ext.new _ _;show aN (vz Pg t) _=_;rw[I];rfl
def AX(rcs:C D)(i:Nat):Nat:=if i=0 then 0 else(rootOf rcs (i-1)+1).toNat
def Nq.from{rn:Nat}(h:Nq ay H rn rcs nn jA)(hi:i<rn):(AX rcs i:Int)<=rootOf rcs i/\rootOf rcs i<nn/\(AX rcs (i+1):Int)=rootOf rcs i+1:=by
 have I:=h.1.2 i hi;have e:AX rcs (i+1)=(rootOf rcs i+1).toNat:=rfl;refine⟨?_,I.2,by rw[e];omega⟩;unfold AX;split
 .omega
 .next d=>
  have W:=h.2.2 (i-1) N;have g:=h.1.2 (i-1) N;rw[show i-1+1=i by omega]at W;omega
def aoi{x:D}(I:GB 240 4 x f gb)(B:ES f)(hl:J f<=10000000)(G:SH S H0 H<|Pf++gb)(g:TyP l){K:D->D->R->Prop}(kk:∀w v' Q iN,GB 240 4 v' (f++l) iN->ES (f++l)->SH S H0 Q (Pf++iN)->K w v' Q):
 ME (bS 240 [aJ ⟨#[]⟩,bq bC 0,bq bC 0,aR aA] 4 1 [(0,dP ⟨l⟩)] H) λw y=>ME (Bo 240 4 x w y) (K w):=by
 obtain⟨t,r,T,w,rfl,M⟩:=id g;refine G.bS O O O N λH1 U d=>?_;have d:=d.perm<|eX _<|aI (l₁:=Pf);have⟨v',H6,iN,e1,hg',xP,_⟩:=I.app (m:=0) (cx:=1) d N O O N N;exact ME.of e1<|kk _ v' H6 iN hg' (B.app g)<|xP.perm aI
def adJ(V:Wf H){v:D}(U:v=u a n c)(I:Fl H a n 4 f)(M:n<=5000)(ht:∀i,i<n->TyP (El f 4 i)):bQ Pg X 127 [v] H (Q1 (λv Q=>∃a n c f,v=u a n c/\Vo (H.bU<=·) Q a n f) H):=by
 subst U;have G:=h_ V;refine lq [0,2] ?_;rw[Ey fT];refine sD (λB=>?_) λB=>?_
 .refine rr ?_;exact⟨⟨T,0,0,[],O,jJ.nil _ _ _ _ _,N,λi h=>N⟩,Ext.refl _⟩
 .refine ME.of (ajh N) ?_;have G:=G.grow 240 [];have y:=G.ext.bU;refine G.VJ N (.inr ⟨_,O⟩) (I.ex G.ext) N λa' c' H1 L' g d=>rr ?_;exact⟨⟨a',n,c',f,O,g.le y,M,ht⟩,d.ext⟩
end
section
variable{S:C Nat}{ay:Nat->Prop}
def amn{rn:Nat}(hG:Gr b H ra rn rcs na nn jA){x3:D}(U:GB 240 4 x3 f gb)(y:ES f)(hl:J f<=16000)(G:SH [] H H1<|[(rv,180,[u T 0 0]),(E,171,[u ra rn rc,u na nn nc])]++gb){yu FP V d Y aE a0 g:D}:
 iG Pg X (sub y_ [1,1,1,1,1,1]) (xL (gV ra rn rc na nn nc) (pr E) (pr rv) x3 x4 x5 x7 x9 je mP ko yu FP zV V d Y aE a0 g oW H1) (jZ Pg [.cell 2 180]<|Q1 (λv Q=>∃a n c f,v=vV a n c/\Vo (H.bU<=·) Q a n f) H):=by
 have g2:=hG.2.1;simp only[bV,bZ]at G;refine tm ?_;refine PO 3 12 13 76 (h1:=λm x3 mP ko g Q=>∃i f gb,g=B i/\i+m=rn/\GB 240 4 x3 f gb/\ES f/\J f<=16000+4*i/\SH [] H Q ([(rv,180,[u T 0 0]),(E,171,[u ra rn rc,u na nn nc])]++gb)) ?_ rn ⟨0,f,gb,rfl,N,U,y,N,G⟩;clear U y hl G;rintro m x3 mP ko g oW H2 ⟨i,f,gb,rfl,a2,U,y,hl,G⟩;refine lX (λhc=>?_) λhc=>?_
 .refine tl ?_;have⟨k,hk,ht⟩:=y;have al:=G.perm<|aI (l₁:=[_,_]);obtain⟨a,n,c,rfl,hn,hf⟩:=U.fl al;obtain rfl:n=k:=N;refine dD (adJ G.wf O hf N ht) ?_;rintro v H3 ⟨⟨a',n',c',ab,rfl,hV⟩,M⟩;have an:=G.ext.bU;have ao:=G.lt;have ac:=G.call M;refine PU.b1 O ?_;have G:=SH.own (hx:=[(rv,180,[u T 0 0]),(E,171,[u ra rn rc,u na nn nc])]) ac;refine G.lJ ?_;refine G.kE λHn G=>rr ?_;apply G.jC;have Jg:=G.ext;exact⟨⟨a',n',c',ab,O,(hV.1.stay Jg λq hq=>.inl (by have:=ao q (by simp at hq|-;rcases hq with h|h<;>simp[h]);omega)).wk λr h=>aQ an h,hV.2⟩,(SH.frame (hx:=[_,_]) ac G).ext⟩
 have hi:i<rn:=N;have⟨r1,o1,zY,u1,f1,w1,c1,a1,e1,hl1,Br,uX,hsz,_⟩:=hG.ru hi rc;rw[e1];refine bM ?_;refine G.BU Br hl1<|G.oV O O O λH5 ru G a3=>?_;have G:SH [] H H5 ((ru,234,yw zY u1 f1 w1 c1 (rootOf rcs i) a1)::(rv,180,[u T 0 0])::(E,171,[u ra rn rc,u na nn nc])::gb):=G;refine fJ ?_
 have zZ:∀x3 f gb oW Q,GB 240 4 x3 f gb->ES f->J f<=16000+4*(i+1)->SH [] H Q ((ru,234,yw zY u1 f1 w1 c1 (rootOf rcs i) a1)::(rv,180,[u T 0 0])::(E,171,[u ra rn rc,u na nn nc])::gb)->
  iG Pg X (sub y_ [1,1,1,1,1,1,0,1,0,0,1,1,1]) (xL (gV ra rn rc na nn nc) (pr E) (pr rv) x3 x4 x5 x7 x9 je (B i) (pr ru) yu FP zV V d Y (u ra rn rc) (B rn) (B i) oW Q)
   (IW (yG (gV ra rn rc na nn nc) (pr E) (pr rv) x4 x5 x7 x9 je yu FP zV V d Y (u ra rn rc) (B rn) λm x3 mP ko g Q=>∃i f gb,g=B i/\i+m=rn/\GB 240 4 x3 f gb/\ES f/\J f<=16000+4*i/\SH [] H Q ([(rv,180,[u T 0 0]),(E,171,[u ra rn rc,u na nn nc])]++gb)) m<|uB 4<|uW Pg X (sub y_ [1,1,1,1,1,1,1])<|jZ Pg [.cell 2 180]<|Q1 (λv Q=>∃a n c f,v=vV a n c/\Vo (H.bU<=·) Q a n f) H):=by
  intro x3 f gb oW Q I W h3 h4;refine tl ?_;refine eG ?_;exact⟨rn-(i+1),N,_,_,_,_,_,_,O,i+1,f,gb,pJ,N,I,W,h3,fU (A:=[_]) h4⟩
 have ap:(ar:Bool)->∀oW,Co oW 87=aR ar->iG Pg X (sub y_ [1,1,1,1,1,1,0,1,0,0,1,1,0,0,1,1]) (xL (gV ra rn rc na nn nc) (pr E) (pr rv) x3 x4 x5 x7 x9 je (B i) (pr ru) yu FP zV V d Y (u ra rn rc) (B rn) (B i) oW H5)
  (uB 5<|uW Pg X (sub y_ [1,1,1,1,1,1,0,1,0,0,1,1,1])<|IW (yG (gV ra rn rc na nn nc) (pr E) (pr rv) x4 x5 x7 x9 je yu FP zV V d Y (u ra rn rc) (B rn) λm x3 mP ko g Q=>∃i f gb,g=B i/\i+m=rn/\GB 240 4 x3 f gb/\ES f/\J f<=16000+4*i/\SH [] H Q ([(rv,180,[u T 0 0]),(E,171,[u ra rn rc,u na nn nc])]++gb)) m<|uB 4<|uW Pg X (sub y_ [1,1,1,1,1,1,1])<|jZ Pg [.cell 2 180]<|Q1 (λv Q=>∃a n c f,v=vV a n c/\Vo (H.bU<=·) Q a n f) H):=by
  intro b oW hb;refine tl ?_;rw[hb];refine iI (λhb=>?_) λhb=>?_;rotate_left
  .refine bM ?_;exact zZ _ _ _ _ _ U y N G
  refine fJ ?_;refine dD (zf (oU H5) zY hsz) ?_;rintro v H6 ⟨rfl,ad⟩;have G:=G.oI ad;refine fJ ?_;have aq:TyP [aJ zY,B i,vi c1,aR w1]:=⟨zY,i,c1,w1,O,hsz⟩;refine G.Tq O O O N λH7 rx G uX=>?_;have G:=G.to (cs':=[aJ zY,B i,vi c1,aR w1]) O;refine U.Jp (G.perm<|eX _<|aI (l₁:=[_,_,_])) N O O N λv' H8 iN am G _ _ xF=>?_;have G:=G.perm<|aI (l₂:=[_,_,_]);simp only[bV,bZ]at G;refine splitK (λK hK=>?_) ?_
  .simp only[uX,fu,gJ ad];rcases xF with e|e<;>rw[e]<;>apply Gc (a:=ru) yB fT fT hK
  exact zZ _ _ _ _ _ am (y.app aq) (by rw[aS];show J f+4<=_;omega) G
 refine iI (λhb=>?_) λhb=>?_
 .refine fJ ?_;exact ap (!f1) _ O
 .exact ap aA _ O
theorem Uh(hw:Wf H){rn:Nat}(hG:Gr b H ra rn rcs na nn jA)(ab:na=T\/nc=gQ 5):bQ Pg X 95 [gV ra rn rc na nn nc] H (Q1 (λv Q=>∃a n c f,v=vV a n c/\Vo (H.bU<=·) Q a n f) H):=by
 have G:=h_ hw;have g2:=hG.2.1;have g5:=hG.2.2.2.2.1;refine lq [0,1,2,3,4,5,7,9,11,12,13,21,22,23,33,34,35,74,75,76] ?_;refine G.box O λH1 E G=>?_;refine G.jP λHn rv G=>?_;refine fJ ?_;refine G.cm (Nt G.wf<|hG.ex G.ext) ?_;rintro v H2 ⟨z,a,c,rfl,aE⟩ M G;rw[Gt];refine yx (λhc=>?_) λhc=>?_
 .refine PU.b1 O<|G.kE λHn G=>rr ?_;exact G.jC<|⟨⟨T,0,0,[],O,jJ.nil _ _ _ _ _,N,λi h=>N⟩,G.ext⟩
 have hC:=(aE hc).1;have bd:=hC.2.1;have a4:0<nn:=by have:=hC.1.2 0 N;omega
 have ba:=G.ext.bU;refine ME.adI G Dv λH3 rm g bf an G=>?_;have an:H.bU<=rm:=N;refine fJ ?_;refine lp9 3 5 7 9 11 23 33 34 35 (h1:=λm Y x5 x7 x9 je zV CP a8 FO Q=>∃i mm f gb,x5=B (AX rcs i)/\zV=B i/\i+m=rn/\wF Q rm mm/\GB 240 4 Y f gb/\ES f/\J f<=4*AX rcs i/\SH [] H Q ([(rv,180,[u T 0 0]),(E,171,[u ra rn rc,u na nn nc])]++gb)) ?_ rn ⟨0,[],[],[],rfl,rfl,N,g,GB.nil _ _,ES.nil,bD _,G⟩;clear G g;rintro m Y x5 x7 x9 je zV CP a8 FO oW H4 ⟨i,mm,f,gb,rfl,rfl,bb,g,V,hT,hl,G⟩;refine lX (λhc=>?_) λhc=>?_
 .obtain rfl:i=rn:=N;have y:=hC.from (i:=i-1) N;rw[show i-1+1=i by omega]at y;exact amn hG V hT N G
 have hi:i<rn:=N;have y:=hC.from hi;have⟨r1,o1,zY,u1,f1,w1,c1,a1,e1,hl1,Br,uX,hsz,_⟩:=hG.ru hi rc;rw[e1];refine bM ?_;refine G.BU Br hl1<|G.oV O O O λH5 ru G a6=>?_;have g:=g.ex a6<|nofun;have G:SH [] H H5 ((ru,234,yw zY u1 f1 w1 c1 (rootOf rcs i) a1)::(rv,180,[u T 0 0])::(E,171,[u ra rn rc,u na nn nc])::gb):=G;refine fJ ?_;refine eG ?_;rw[<-y.2.2];have ac:AX rcs i<=AX rcs (i+1):=N;have am:AX rcs (i+1)<=nn:=N;generalize hh:AX rcs (i+1)=d at ac am y|-;generalize AX rcs i=lo at ac hl y|-;have⟨r2,o2,esl,hr2,hsub⟩:=hG.sub ab ac am a4;refine dA esl<|bM ?_;refine PO 3 9 11 35 (h1:=λm Y x9 je FO Q=>∃k mm f gb,FO=B k/\k+m=d-lo/\wF Q rm mm/\GB 240 4 Y f gb/\ES f/\J f<=4*(lo+k)/\SH [] H Q ([(ru,234,yw zY u1 f1 w1 c1 (rootOf rcs i) a1),(rv,180,[u T 0 0]),(E,171,[u ra rn rc,u na nn nc])]++gb)) ?_ (d-lo) ⟨0,mm,f,gb,rfl,N,g,V,hT,N,G⟩;clear G g V hT hl hc;rintro m' y3 y9 bg bh OJ H6 ⟨k,mm,f,gb,rfl,bc,g,V,hT,hl,G⟩;simp only[bV,bZ]at G;refine lX (λhc=>?_) λhc=>?_
 .obtain rfl:k=d-lo:=N;refine tm ?_;refine eG ?_;refine tl ?_;refine eG ?_;exact⟨rn-(i+1),N,_,_,_,_,_,_,_,_,_,_,_,O,i+1,mm,f,gb,by rw[hh,<-y.2.2],pJ,N,g,V,hT,N,fU (A:=[_]) G⟩
 have hk:k<d-lo:=N;have⟨eid,erd⟩:=hsub k hk;refine dA eid ?_;have⟨kd,ka,kn,kc,ks,t,xa,xn,xc,at',he,_,htz,_⟩:=hC.1.1 (lo+k) N;rw[he]at erd;refine G.BU erd hr2<|G.oV O O O λH7 rb G a7=>?_;have g:=g.ex a7<|nofun;have G:SH [] H H7 ((rb,238,[vi kd,u ka kn kc,aJ t,u xa xn xc,vi at'])::(ru,234,yw zY u1 f1 w1 c1 (rootOf rcs i) a1)::(rv,180,[u T 0 0])::(E,171,[u ra rn rc,u na nn nc])::gb):=G;refine fJ ?_;refine ME.Kn g Dv T7 eqS λcs _ _=>?_;refine bM ?_
 have zZ:∀{je mm f gb BH H8 Y},wF H8 rm mm->GB 240 4 Y f gb->ES f->J f<=4*(lo+(k+1))->SH [] H H8 ((rb,238,[vi kd,u ka kn kc,aJ t,u xa xn xc,vi at'])::(ru,234,yw zY u1 f1 w1 c1 (rootOf rcs i) a1)::(rv,180,[u T 0 0])::(E,171,[u ra rn rc,u na nn nc])::gb)->
  ∃ao,ao<m'/\zH (gV ra rn rc na nn nc) (pr E) (pr rv) (fK<|Z rm) (B lo) (pr ru) top top (u ra rn rc) (B rn) (B i) (u (Z ⟨r2,o2+lo*5,T⟩) (d-lo)<|gQ 5) (B<|d-lo) top top top (λm Y x9 je FO Q=>∃k mm f gb,FO=B k/\k+m=d-lo/\wF Q rm mm/\GB 240 4 Y f gb/\ES f/\J f<=4*(lo+k)/\SH [] H Q ([(ru,234,yw zY u1 f1 w1 c1 (rootOf rcs i) a1),(rv,180,[u T 0 0]),(E,171,[u ra rn rc,u na nn nc])]++gb)) ao
   (xL (gV ra rn rc na nn nc) (pr E) (pr rv) Y (fK<|Z rm) (B lo) (pr ru) (pr rb) je top top (u ra rn rc) (B rn) (B i) (u (Z ⟨r2,o2+lo*5,T⟩) (d-lo)<|gQ 5) (B<|d-lo) (vi<|(k:Int)+1) top top top BH H8):=by
  intro je mm f gb BH H8 Y I W h3 h4 h5;exact⟨d-lo-(k+1),N,_,_,_,_,_,_,O,k+1,mm,f,gb,pJ,N,I,W,h3,h4,fU (A:=[_]) h5⟩
 refine iI (λhb=>?_) λhb=>?_
 .refine eG ?_;exact zZ g V hT N G
 refine QX (λaq=>?_) λaq=>?_
 .refine eG ?_;exact zZ g V hT N G
 refine Ow (λar=>?_) λar=>?_
 .refine eG ?_;exact zZ g V hT N G
 refine tm ?_;obtain⟨a3,n3,c3,rfl,be,_⟩:=V.fl<|G.perm<|aI (l₁:=[_,_,_,_]);refine bM ?_;refine G.upd (.inr an) g Dv eqS λH8 mm2 U _ G=>G.qF<|dD (zf G.wf t htz) ?_;rintro v H9 ⟨rfl,Kt⟩;have U:=U.ex Kt<|nofun;have G:=G.call Kt;have a9:=U.1;refine PU.b4 O ?_;have a5:=G.Gv U;have G:SH [] H H9 ([(rb,238,[vi kd,u ka kn kc,aJ t,u xa xn xc,vi at']),(ru,234,yw zY u1 f1 w1 c1 (rootOf rcs i) a1),(rv,180,[u T 0 0]),(E,171,[u ra rn rc,u na nn nc])]++gb):=G;have al:=G;have G:=al.base;refine aoi V hT N G (l:=[aJ t,vi (-1),vi 0,aR aA]) ⟨t,-1,0,aA,O,htz⟩ λw v' CF iN a0 ap ad=>?_;have a2:=U.ex ad.ext a5;refine bM ?_;refine tl ?_;refine eG ?_;exact zZ a2 a0 ap (by rw[aS];show J f+4<=_;omega)<|al.over ad
end
section
variable{S:C Nat}{ay:Nat->Prop}
def AY(rcs:C D):Nat->Nat
 |0=>0
 |i+1=>AY rcs i+(if IA rcs i=F then 0 else 1)
def JE(rcs:C D)(h:i<=j):AY rcs i<=AY rcs j:=by
 induction j with
 |zero=>obtain rfl:i=0:=N
        exact ax _
 |succ j d=>
  rcases dH i (j+1)with I|I
  .have:=d N;show _<=AY rcs j+_;omega
  .obtain rfl:i=j+1:=N;exact ax _
def Ri(rcs:C D):∀i,AY rcs i<=i
 |0=>ax _
 |i+1=>by
  have:=Ri rcs i;show AY rcs i+_<=_;split<;>omega
def yo(tn lw:Nat)(l:C D):Prop:=∃k a:Nat,l=[B k,B a,B 0]/\(k=0\/(k=1/\a<tn)\/(k=2/\a<lw))
def yo.zero(tn lw:Nat):yo tn lw [vi 0,vi 0,vi 0]:=⟨0,0,O,.inl O⟩
def PY(tn lw:Nat)(m:C<|aZ×D):Prop:=∀p∈m,∃l,p.2=dP ⟨l⟩/\yo tn lw l
def Rj:vz Pg 262=Z (9,121):=fT
def adK:zw Pg 121=Z (dP ⟨[vi 0,vi 0,vi 0]⟩):=fT
def PY.get{lw:Nat}(h:PY tn lw m){cs:aC D}(d:∀v,cs=Z v->(k,v)∈m):∃l,cs.getD (dP ⟨[vi 0,vi 0,vi 0]⟩)=dP ⟨l⟩/\yo tn lw l:=by
 cases cs with
 |none=>exact⟨_,O,yo.zero _ _⟩
 |some v=>exact h _<|d v O
def adL{lw rm U ru:Nat}{rn:Nat}{ai cs w:Bool}{ch d at' kd g:Int}(ac:H.bU<=rm)(I:wF H1 rm mm)(hE:PY tn lw mm)(hk:0<=g->yo tn lw [vi kd,vi g,vi 0])(G:SH [] H H1 [(U,121,[vi kd,vi g,vi 0]),(ru,234,yw nm ai cs w ch d at'),(rv,180,[u va tn vc]),(E,171,[u ra rn rc,u na nn nc])]){K:Out->Prop}(kk:∀je N BH Q,wF Q rm N->PY tn lw N->SH [] H Q [(rv,180,[u va tn vc]),(E,171,[u ra rn rc,u na nn nc])]->K (.norm<|qG x0 x1 (pr E) (pr rv) (u T 0 0) (fK<|Z rm) x6 x7 (pr ru) (pr U) je mP ko vH mM Bc xC x20 TG TH Ke Oz BH Q)):
 iG Pg X (sub zQ [1,1,1,0,1,0,0,1,1,0,0,1,1,1]) (qG x0 x1 (pr E) (pr rv) (u T 0 0) (fK<|Z rm) x6 x7 (pr ru) (pr U) je mP ko vH mM Bc xC x20 TG TH Ke Oz oW H1) K:=by
 refine tm ?_;refine ME.Kn I Rj adK eqS λfo hf _=>?_;refine bM ?_;have⟨l,e,hl⟩:=hE.get hf;rw[e];obtain⟨k1,a1,rfl,hl⟩:=hl;refine G.oV O O O λH2 rt G M=>?_;have I:=I.ex M<|nofun;have G:SH [] H H2 ((rt,121,[B k1,B a1,B 0])::[(U,121,[vi kd,vi g,vi 0]),(ru,234,yw nm ai cs w ch d at'),(rv,180,[u va tn vc]),(E,171,[u ra rn rc,u na nn nc])]):=G
 have put:∀b:Bool,(b=F->0<=g)->∀je oW,Co oW 48=aR b->iG Pg X (sub zQ [1,1,1,0,1,0,0,1,1,0,0,1,1,1,1,1]) (qG x0 x1 (pr E) (pr rv) (u T 0 0) (fK<|Z rm) x6 x7 (pr ru) (pr U) je mP ko vH mM Bc xC x20 TG TH Ke Oz oW H2) K:=by
  intro b V je oW W;refine tl ?_;rw[W];refine iI (λy=>?_) λy=>?_
  .refine fJ ?_;refine G.upd (.inr ac) I Rj eqS λH3 mm2 Y ab G=>kk _ mm2 _ _ Y (λp hp=>?_)<|fU (A:=[_,_,_]) G;rcases ab p hp with h|rfl
   .exact hE p h
   .exact⟨_,O,hk<|V y⟩
  .exact kk _ mm _ _ I hE<|fU (A:=[_,_,_]) G
 refine iI (λV=>?_) λV=>?_
 .refine fJ ?_;exact put _ gG _ _ O
 .exact put aA (λh=>by cases h) _ _ rfl
def _root_.Go.Ae.SH.aoj(G:SH S H0 H L){m:Nat}(y:n<=m)(g:m<=16777216)(k:∀H1 r,SH S H0 H1 ((r,e,pV z m)::L)->Ext H H1->H.bU<=r->K (u (Z ⟨r,0,T⟩) n m) H1):ME (Go.Ae.mkS e z (B n) (B m) H) K:=
 (h_ G.wf).mkS y g λH1 r d=>k H1 r (SH.frame (hx:=[]) (L:=L) G d) d.ext<|d.yV<|aL ..
def ajD(z:C D)(n:Nat):∀k,k<n->El (pV z n) (J z) k=z:=by
 induction n with
 |zero=>intro k h;omega
 |succ n d=>
  intro k h;have e:pV z (n+1)=z++pV z n:=by show app z (pV z n)=_;rw[uq]
  rw[e];cases k with
  |zero=>unfold El;simp
  |succ k=>
   have:=d k N;unfold El at this|-;rw[show(k+1)*J z=J z+k*J z by rw[iC];omega,vZ,oN N];rw[show J z+k*J z-J z=k*J z by omega];exact this
def ajE{lw rm:Nat}{rn:Nat}(hG:Gr b H ra rn rcs na nn jA)(hR:∀i,i<nn->NoR (b<=·) H i (El jA 5 i))(hV:Vo ay H va tn vcs)(d:wF H1 rm mm)(hE:PY tn lw mm)(G:SH [] H H1 [(rv,180,[u va tn vc]),(E,171,[u ra rn rc,u na nn nc])]){x8:D}:
 iG Pg X (sub zQ [1,1,1,1]) (qG x0 x1 (pr E) (pr rv) (u T 0 0) (fK<|Z rm) x6 x7 x8 x9 je mP ko vH mM Bc xC x20 TG TH Ke Oz oW H1)
  (jZ Pg [.tmp 4]<|Q1 (λv Q=>∃rl f,v=u (Z ⟨rl,0,T⟩) nn nn/\H.bU<=rl/\rl<Q.bU/\Bk Q rl 121 f/\J f=nn*3/\∀i,i<nn->yo tn lw (El f 3 i)) H):=by
 have g5:=hG.2.2.2.2.1;have a0:=G.Gv d;refine tm ?_;have ar:=d.1;refine G.aoj (ax _) N λH2 rl G ao a2=>G.ld 2 (o:=1) O O ?_;refine bM ?_;have d:=d.ex ao<|nofun;have g:∃f,J f=nn*3/\(∀i,i<nn->yo tn lw (El f 3 i))/\SH [] H H2 [(rl,121,f),(rv,180,[u va tn vc]),(E,171,[u ra rn rc,u na nn nc])]:=⟨_,Ps _ _,λi hi=>by rw[show(3:Nat)=[bq bC 0,bq bC 0,bq bC 0].length from O,ajD _ _ _ hi];exact yo.zero _ _,G⟩;refine Yt 13 14 15 61 67 (h1:=λm ko vH mM Ke Oz Q=>∃i f,Ke=B i/\i+m=nn/\wF Q rm mm/\J f=nn*3/\(∀i,i<nn->yo tn lw (El f 3 i))/\SH [] H Q [(rl,121,f),(rv,180,[u va tn vc]),(E,171,[u ra rn rc,u na nn nc])]) ?_ nn ⟨0,g.choose,rfl,N,d,g.choose_spec.1,g.choose_spec.2.1,g.choose_spec.2.2⟩;clear G d g;rintro m ko vH mM Ke Oz oW H3 ⟨i,f,rfl,aE,d,M,U,G⟩;refine lX (λhc=>?_) λhc=>?_
 .refine tl<|rr ?_;exact⟨⟨rl,f,O,G.yV<|aL ..,(G.lo _<|aL ..).2,G.get 0 O,M,U⟩,G.ext⟩
 have hi:i<nn:=N;have⟨kd,ka,kn,kc,ks,t,xa,xn,xc,at',he,_,htz,_⟩:=hR i hi;have⟨r2,o2,e2,hr2,hrd,_⟩:=hG.no hi nc he;rw[e2];refine bM ?_;refine G.BU hrd hr2<|G.oV O O O λH4 rb G ap=>?_;have d:=d.ex ap<|nofun;have G:SH [] H H4 ((rb,238,[vi kd,u ka kn kc,aJ t,u xa xn xc,vi at'])::[(rl,121,f),(rv,180,[u va tn vc]),(E,171,[u ra rn rc,u na nn nc])]):=G
 have zZ:∀{mM Oz BH y f},wF y rm mm->J f=nn*3->(∀i,i<nn->yo tn lw (El f 3 i))->SH [] H y ((rb,238,[vi kd,u ka kn kc,aJ t,u xa xn xc,vi at'])::[(rl,121,f),(rv,180,[u va tn vc]),(E,171,[u ra rn rc,u na nn nc])])->
  ∃ac,ac<m/\Bq x0 x1 (pr E) (pr rv) (u T 0 0) (fK<|Z rm) x6 x7 x8 x9 je (u (Z ⟨rl,0,T⟩) nn nn) Bc xC x20 (u na nn nc) (B nn) (λm ko vH mM Ke Oz Q=>∃i f,Ke=B i/\i+m=nn/\wF Q rm mm/\J f=nn*3/\(∀i,i<nn->yo tn lw (El f 3 i))/\SH [] H Q [(rl,121,f),(rv,180,[u va tn vc]),(E,171,[u ra rn rc,u na nn nc])]) ac
   (qG x0 x1 (pr E) (pr rv) (u T 0 0) (fK<|Z rm) x6 x7 x8 x9 je (u (Z ⟨rl,0,T⟩) nn nn) (B i) (pr rb) mM Bc xC x20 (u na nn nc) (B nn) (vi<|(i:Int)+1) Oz BH y):=by
  intro mM Oz BH y f I W Y h4;exact⟨nn-(i+1),N,_,_,_,_,_,_,_,O,i+1,f,pJ,N,I,W,Y,fU (A:=[_]) h4⟩
 have put:∀{y l}{K:D->D->R->Prop},wF y rm mm->yo tn lw l->SH [] H y ((rb,238,[vi kd,u ka kn kc,aJ t,u xa xn xc,vi at'])::[(rl,121,f),(rv,180,[u va tn vc]),(E,171,[u ra rn rc,u na nn nc])])->
  (∀p V f,wF V rm mm->J f=nn*3->(∀i,i<nn->yo tn lw (El f 3 i))->SH [] H V ((rb,238,[vi kd,u ka kn kc,aJ t,u xa xn xc,vi at'])::[(rl,121,f),(rv,180,[u va tn vc]),(E,171,[u ra rn rc,u na nn nc])])->K p undef V)->
  PU (B_ 3 (u (Z ⟨rl,0,T⟩) nn nn)<|B i) λp=>ME (Es 3 p (dP ⟨l⟩) y) (K p):=by
  intro y l K d hl G kk;refine dA (uQ hi) ?_;rw[bB];obtain⟨k1,a1,rfl,_⟩:=id hl;have hO:=G.base;refine hO.st 1 O O (by show i*3+3<=J f;omega) rfl λV ab=>?_;have an:=G.Gv d;refine kk _ V _ (d.ex ab.ext an) (by rw[og (by show i*3+3<=J f;omega)];exact M) (λk hk=>?_)<|G.over ab;show yo tn lw<|El (splice f (i*3) [B k1,B a1,B 0]) 3 k;rw[Py (es:=3) (k:=i) O N];split
  .exact hl
  .exact U k hk
 refine yz (λad=>?_) λad=>?_
 .refine G.qF<|ME.aii d Rj adK eqS λfo hf _=>?_;have⟨l,e,hl⟩:=hE.get hf;rw[e];refine put d hl G λp V f I W Y h4=>?_;refine eG ?_;exact zZ I W Y h4
 refine nN (λal=>?_) λal=>?_
 .refine eG ?_;exact zZ d M U G
 refine fJ ?_;refine G.cm (OL G.wf ⟨hV.1.ex G.ext,hV.2⟩ t) ?_;rintro v y ⟨z,rfl,a3,a4⟩ aq G;have d:=d.ex aq<|nofun;refine tO (λam=>?_) λam=>?_
 .obtain⟨z,rfl⟩:∃n:Nat,z=n:=⟨z.toNat,N⟩;refine PU.b3 O<|put (l:=[vi 1,B z,vi 0]) d ⟨1,z,O,.inr<|.inl ⟨O,N⟩⟩ G λp V f I W Y h4=>?_;refine eG ?_;exact zZ I W Y h4
 .refine eG ?_;exact zZ d M U G
def Wq(hw:Wf H){rn:Nat}(W:Gr b H ra rn rcs na nn jA)(hR:∀i,i<nn->NoR (b<=·) H i (El jA 5 i))(Y:Vo ay H va tn vcs):bQ Pg X 123 [gV ra rn rc na nn nc,vV va tn vc] H
 (Q1 (λv Q=>∃rl f,v=u (Z ⟨rl,0,T⟩) nn nn/\H.bU<=rl/\rl<Q.bU/\Bk Q rl 121 f/\J f=nn*3/\∀i,i<nn->yo tn (AY rcs rn) (El f 3 i)) H):=by
 have U:=W.2.1;have G:=h_ hw;refine lq [0,1,2,3,4,5,6,7,8,9,11,12,13,14,15,18,19,20,59,60,61,67] ?_;refine G.box O λH1 E G=>?_;refine G.box O λH2 rv G=>?_;have am:=G.ext.bU;refine ME.adI G Rj λH3 rm d ap y G=>?_;have y:H.bU<=rm:=N;refine fJ ?_;refine lp6 6 7 8 9 11 20 (h1:=λm x6 x7 x8 x9 je x20 Q=>∃i mm,x6=B (AY rcs i)/\x20=B i/\i+m=rn/\wF Q rm mm/\PY tn (AY rcs rn) mm/\SH [] H Q [(rv,180,[u va tn vc]),(E,171,[u ra rn rc,u na nn nc])]) ?_ rn ⟨0,[],rfl,rfl,N,d,nofun,G⟩;clear G d;rintro m x6 x7 x8 x9 je x20 oW H4 ⟨i,mm,rfl,rfl,an,d,hE,G⟩;refine lX (λhc=>?_) λhc=>?_
 .exact ajE W hR Y d hE G
 have hi:i<rn:=N;have⟨r1,o1,zY,u1,f1,w1,c1,a1,e1,hl1,Br,uX,hsz,hel⟩:=W.ru hi rc;rw[e1];refine bM ?_;refine G.BU Br hl1<|G.oV O O O λH5 ru G ab=>?_;have d:=d.ex ab<|nofun;refine PU.b3 O<|G.oV O O O λH6 re G ac=>?_;have d:=d.ex ac<|nofun;have G:SH [] H H6 [(re,121,[vi 2,B<|AY rcs i,vi 0]),(ru,234,yw zY u1 f1 w1 c1 (rootOf rcs i) a1),(rv,180,[u va tn vc]),(E,171,[u ra rn rc,u na nn nc])]:=G;have g:AY rcs (i+1)=AY rcs i+(if IA rcs i=F then 0 else 1):=rfl;rw[Lh hel]at g;have ao:=JE rcs (show i+1<=rn by omega);have al:=Ri rcs i;refine QX (λhb=>?_) λhb=>?_
 .rw[if_pos hb]at g;apply G.jC;refine G.cm (Wo G.wf ⟨Y.1.ex G.ext,Y.2⟩ i) ?_;rintro v H7 ⟨z,rfl,aq,ar⟩ ad G;have d:=d.ex ad<|nofun;refine PU.b3 O ?_;have hO:=G.base;refine hO.st 0 O O (ax 3) O λH8 M=>?_;have d:=d.ex M.ext<|G.Gv d;have G:SH [] H H8 [(re,121,[vi 1,vi z,vi 0]),(ru,234,yw zY u1 f1 w1 c1 (rootOf rcs i) a1),(rv,180,[u va tn vc]),(E,171,[u ra rn rc,u na nn nc])]:=G.over M
  refine adL y d hE (λh0=>by
   obtain⟨z,rfl⟩:∃n:Nat,z=n:=⟨z.toNat,N⟩;exact⟨1,z,O,.inr<|.inl ⟨O,N⟩⟩) G λje I BH H9 V U g3=>?_
  refine bM ?_;refine tl ?_;refine eG ?_;exact⟨rn-(i+1),N,_,_,_,_,_,_,_,_,O,i+1,I,by rw[g];rfl,pJ,N,V,U,g3⟩
 .rw[if_neg (by rw[hb];simp)]at g;refine eG ?_;rw[show((AY rcs i:Int)+1)=((AY rcs (i+1):Nat):Int) by omega];refine adL y d hE (λh0=>⟨2,AY rcs i,rfl,.inr<|.inr ⟨rfl,N⟩⟩) G λje I BH H9 V U g3=>?_;refine bM ?_;refine tl ?_;refine eG ?_;exact⟨rn-(i+1),N,_,_,_,_,_,_,_,_,O,i+1,I,O,pJ,N,V,U,g3⟩
end
section
variable{S:C Nat}{ay:Nat->Prop}
def YD(ay:Nat->Prop)(H:R)(nn:Nat)(jA:C D)(kd:Nat->Int)(zs:Nat->C Nat):Prop:=∀i,i<nn->∃(a:aC Addr)(c:Nat)(t:aZ)(d:aC Addr)(y g:Nat)(at':Int),El jA 5 i=[vi (kd i),u a (J<|zs i) c,aJ t,u d y g,vi at']/\jJ ay 3 H a (J<|zs i) 1 (gq<|zs i)/\Nk (kd i) (J<|zs i)/\(∀z∈zs i,z<i)/\t.size<=1000000/\J (zs i)<=20001
def YE:∀{ks:C D}{i:Nat},(∀x∈ks,∃z:Nat,x=B z/\z<i)->∃zs,ks=gq zs/\∀z∈zs,z<i
 |[],i,h=>⟨[],rfl,nofun⟩
 |x::ks,i,h=>by
  obtain⟨z,rfl,d⟩:=h x<|aL ..
  obtain⟨zs,rfl,W⟩:=YE (ks:=ks) (i:=i) λy hy=>h y<|bL _ hy
  exact⟨z::zs,O,λy hy=>by
   rcases bW.1 hy with rfl|hy
   .exact d
   .exact W y hy⟩
theorem YD.of{nn:Nat}{jA:C D}(h:∀i,i<nn->NoR ay H i (El jA 5 i)):∃kd zs,YD ay H nn jA kd zs:=by
 have key:∀i,∃p:Int×C Nat,i<nn->∃(a:aC Addr)(c:Nat)(t:aZ)(d:aC Addr)(y g:Nat)(at':Int),El jA 5 i=[vi p.1,u a (J p.2) c,aJ t,u d y g,vi at']/\jJ ay 3 H a (J p.2) 1 (gq p.2)/\Nk p.1 (J p.2)/\(∀z∈p.2,z<i)/\t.size<=1000000/\J p.2<=20001:=by
  intro i
  by_cases hi:i<nn
  .have⟨kd,a,n,c,ks,t,d,y,g,at',I,W,h3,h4,h5,h6⟩:=h i hi;obtain⟨zs,rfl,B⟩:=YE h6;have:n=J zs:=by have:=h4.1.1;simp at this;omega
   subst this;exact⟨(kd,zs),λ_=>⟨a,c,t,d,y,g,at',I,h4,h5,B,h3,W⟩⟩
  .exact⟨(0,[]),λh=>absurd h hi⟩
 exact⟨λi=>(jM<|key i).1,λi=>(jM<|key i).2,λi hi=>mZ (key i) hi⟩
def h2(ws:C Nat)(i:Nat):Nat:=ws[i]?.getD 0
def G4(kd:Int):Nat:=if kd=0 then 2 else if kd=1 then 0 else if kd=2\/kd=3\/kd=4 then 3 else 1
def KU(kd:Int):Nat:=if kd=0 then 1 else 0
def sP(ws:C Nat)(kd:Int)(l:C Nat):Nat:=(l.map λz=>h2 ws z+KU kd).sum
def IC(kd:Nat->Int)(zs:Nat->C Nat)(ws:C Nat)(i:Nat):Prop:=h2 ws i=min (G4 (kd i)+sP ws (kd i) (zs i)) 4001
def ail{z:Nat}(h:z≠i):h2 (ws.set i x) z=h2 ws z:=by
 unfold h2;rw[dU,if_neg λe=>h e.symm]
def ajF(h:i<J ws):h2 (ws.set i x) i=x:=by
 unfold h2;rw[dU,if_pos O,if_pos h];rfl
def Ui{kd:Int}{l:C Nat}(h:∀z∈l,z<i):sP (ws.set i x) kd l=sP ws kd l:=by
 unfold sP;congr 1;apply List.map_congr_left;intro z d;rw[ail (by have:=h z d;omega)]
def amo(h:IC kd zs ws i):h2 ws i<=4001:=by
 unfold IC at h;omega
def aol{rs rr rn rb:Nat}{xa:aC Addr}{t:aZ}{xn xc:Nat}{at':Int}(a0:nn<=4000)(hi:i<nn)(ao:J ws=nn)(am:J bs=nn)(hf:jJ ay 3 H a (J<|zs i) 1<|gq<|zs i)(al:∀j,j<nn->∀z∈zs j,z<j)(a2:J (zs i)<=20001)(hd:∀j,j<i->IC kd zs ws j)(G:SH [] H H1 [(rb,238,[vi (kd i),u a (J<|zs i) c,aJ t,u xa xn xc,vi at']),(rr,4,bools bs),(rs,3,gq ws),(E,171,[u ra rn rc,u na nn nc])]){d g y OA Jw I:D}{K:Out->Prop}(kk:∀W je ko OA Jw I V Y BH Q,J V=nn->J Y=nn->(∀j,j<i+1->IC kd zs V j)->SH [] H Q [(rb,238,[vi (kd i),u a (J<|zs i) c,aJ t,u xa xn xc,vi at']),(rr,4,bools Y),(rs,3,gq V),(E,171,[u ra rn rc,u na nn nc])]->
  K (.norm<|uC x0 x1 (pr E) x4 x5 (u (Z ⟨rs,0,T⟩) nn nn) (u (Z ⟨rr,0,T⟩) nn nn) (B i) (pr rb) W je ko zV d g y OA Jw I BH Q)):
 iG Pg X (sub pK [1,1,1,0,1,0,0,1,1,0,0,1,1,1]) (uC x0 x1 (pr E) x4 x5 (u (Z ⟨rs,0,T⟩) nn nn) (u (Z ⟨rr,0,T⟩) nn nn) (B i) (pr rb) (B<|G4<|kd i) (aR ok) ko zV d g y OA Jw I oW H1) K:=by
 have hz:=al i hi;have ar:G4 (kd i)<=3:=by unfold G4;split<;>(try split)<;>(try split)<;>omega
 refine tm ?_;refine PO 10 11 13 51 (h1:=λm W je ko I Q=>∃(k:Nat)(o:Bool),I=B k/\k+m=J (zs i)/\W=B (min (G4 (kd i)+sP ws (kd i) ((zs i).take k)) 4001)/\je=aR o/\SH [] H Q [(rb,238,[vi (kd i),u a (J<|zs i) c,aJ t,u xa xn xc,vi at']),(rr,4,bools bs),(rs,3,gq ws),(E,171,[u ra rn rc,u na nn nc])]) ?_ (J<|zs i) ⟨0,ok,rfl,N,by rw[kT,show sP ws (kd i) []=0 from O,d_,jI N];rfl,rfl,G⟩;clear G;rintro m W je ko I oW H2 ⟨k,o,rfl,aE,rfl,rfl,G⟩;refine lX (λhc=>?_) λhc=>?_
 .obtain rfl:k=J (zs i):=N;rw[kI];refine tp ?_;rw[show min ((min (G4 (kd i)+sP ws (kd i) (zs i)) 4001:Nat):Int) 4001=((min (G4 (kd i)+sP ws (kd i) (zs i)) 4001:Nat):Int) by omega];refine G.Ya hi (by simpa using(by omega:i<J ws)) (kk:=λp H3 G=>?_);refine G.Ya hi (by simpa using(by omega:i<J bs)) (kk:=λp H4 G=>?_);have e1:(gq ws).set i (B<|min (G4 (kd i)+sP ws (kd i) (zs i)) 4001)=gq (ws.set i<|min (G4 (kd i)+sP ws (kd i) (zs i)) 4001):=gz.symm;have e2:(bools bs).set i (aR o)=bools (bs.set i o):=gz.symm;rw[e1,e2]at G;refine kk _ _ _ _ _ _ _ _ _ _ (by rw[bR];exact ao) (by rw[bR];exact am) (λj hj=>?_) G;unfold IC;rcases dH j i with h|h
  .rw[ail N,Ui λz aq=>Nat.lt_trans (al j N z aq) h];exact hd j h
  .obtain rfl:j=i:=N;rw[ajF N,Ui hz]
 have hk:k<J (zs i):=N;have UN:(zs i)[k]?=Z (zs i)[k]:=av hk;have ad:=hz _<|bH hk;refine(hf.ex G.ext).ix hk (jX _ UN) λp=>?_;have U:(zs i)[k]<nn:=N
 have ac:sP ws (kd i) ((zs i).take<|k+1)=sP ws (kd i) ((zs i).take k)+(h2 ws (zs i)[k]+KU (kd i)):=by
  unfold sP;rw[dY,UN];show(List.map _<|_++[_]).sum=_;rw[dM,nK];rfl
 generalize(zs i)[k]=z at UN ad U ac|-;have a1:h2 ws z<=4001:=amo<|hd z ad
 have ap:(gq ws)[z]?=Z (B<|h2 ws z):=by
  rw[bK,av (show z<J ws by omega)];show _=Z (B<|ws[z]?.getD 0);rw[av (show z<J ws by omega)];rfl
 obtain⟨bz,an⟩:∃b,bs[z]?=Z b:=⟨_,av N⟩;refine G.ix U ap λp=>?_;refine eG ?_;refine fJ ?_
 have ab:∀(au:Int),au=((min (G4 (kd i)+sP ws (kd i) ((zs i).take k)) 4001:Nat):Int)+(h2 ws z:Int)+(KU (kd i):Int)->∀oW,iG Pg X (sub pK [1,1,1,0,1,0,0,1,1,0,0,1,1,1,0,1,0,0,1,1,0,0,1,1,1]) (uC x0 x1 (pr E) x4 x5 (u (Z ⟨rs,0,T⟩) nn nn) (u (Z ⟨rr,0,T⟩) nn nn) (B i) (pr rb) (vi au) (aR o) (B z) zV d g y (u a (J<|zs i) c) (B<|J<|zs i) (B k) oW H2)
  (uB 4<|uW Pg X (sub pK [1,1,1,0,1,0,0,1,1,0,0,1,1,1,0,1,0,0,1,1,1])<|IW (ze x0 x1 (pr E) x4 x5 (u (Z ⟨rs,0,T⟩) nn nn) (u (Z ⟨rr,0,T⟩) nn nn) (B i) (pr rb) zV d g y (u a (J<|zs i) c) (B<|J<|zs i) λm W je ko I Q=>∃(k:Nat)(o:Bool),I=B k/\k+m=J (zs i)/\W=B (min (G4 (kd i)+sP ws (kd i) ((zs i).take k)) 4001)/\je=aR o/\SH [] H Q [(rb,238,[vi (kd i),u a (J<|zs i) c,aJ t,u xa xn xc,vi at']),(rr,4,bools bs),(rs,3,gq ws),(E,171,[u ra rn rc,u na nn nc])]) m<|uB 3<|uW Pg X (sub pK [1,1,1,0,1,0,0,1,1,0,0,1,1,1,1]) K):=by
  intro au hT oW;refine tp ?_;have eT:min au 4001=((min (G4 (kd i)+sP ws (kd i) ((zs i).take<|k+1)) 4001:Nat):Int):=by rw[hT,ac];omega
  rw[eT];refine iI (λhb=>?_) λhb=>?_
  .refine G.ix (v:=aR bz) U (jX _ an) λp=>tl ?_;refine eG ?_;exact⟨J (zs i)-(k+1),N,_,_,_,_,_,_,O,k+1,bz,pJ,N,O,O,G⟩
  .refine tl ?_;refine eG ?_;exact⟨J (zs i)-(k+1),N,_,_,_,_,_,_,O,k+1,aA,pJ,N,O,O,G⟩
 refine aW (λM=>?_) λM=>?_
 .refine eG ?_;exact ab _ (by unfold KU;rw[if_pos M];rfl) _
 .exact ab _ (by unfold KU;rw[if_neg M];rfl) _
def Ws(hw:Wf H){rl:Nat}{rn:Nat}{V:C D}{lw lc:Nat}(hG:Gr b H ra rn rcs na nn jA)(ac:YD ay H nn jA kd zs)(hl:Bk H rl 121 V)(a0:rl<H.bU)(a5:J V=nn*3)(aE:∀i,i<nn->yo tn lw (El V 3 i)):
 bQ Pg X 124 [gV ra rn rc na nn nc,u (Z ⟨rl,0,T⟩) nn lc] H (Q1 (λv Q=>∃rs rr ws bs,v=fO ⟨[u (Z ⟨rs,0,T⟩) nn nn,u (Z ⟨rr,0,T⟩) nn nn]⟩/\(H.bU<=rs/\rs<Q.bU)/\(H.bU<=rr/\rr<Q.bU)/\Bk Q rs 3 (gq ws)/\Bk Q rr 4 (bools bs)/\J ws=nn/\J bs=nn/\∀j,j<nn->IC kd zs ws j) H):=by
 have g5:=hG.2.2.2.2.1;have a2:∀j,j<nn->∀z∈zs j,z<j:=λj hj=>by obtain⟨_,_,_,_,_,_,_,_,_,_,h,_⟩:=ac j hj;exact h
 have G:=h_ hw;refine lq [0,1,2,4,5,6,7,8,9,10,11,13,23,24,25,31,49,50,51] ?_;refine G.box O λH1 E G=>?_;refine fJ ?_;refine G.mkS (ax _) N λH2 rs G=>?_;rw[mK]at G;refine fJ ?_;refine G.mkS (ax _) N λH3 rr G=>?_;rw[mK]at G;refine fJ ?_;have hz:aY nn (bq bC 0)=gq (aY nn 0):=gD;have hb:aY nn (aR aA)=bools (aY nn aA):=gD;rw[hz,hb]at G;have G:SH [] H H3 [(rr,4,bools<|aY nn aA),(rs,3,gq<|aY nn 0),(E,171,[u ra rn rc,u na nn nc])]:=G;refine ajl 8 9 10 11 13 25 31 49 50 51 (h1:=λm x8 x9 M je ko g Y OA Jw Fx Q=>∃i ws bs,g=B i/\i+m=nn/\J ws=nn/\J bs=nn/\(∀j,j<i->IC kd zs ws j)/\SH [] H Q [(rr,4,bools bs),(rs,3,gq ws),(E,171,[u ra rn rc,u na nn nc])]) ?_ nn ⟨0,_,_,rfl,N,gD,gD,λj h=>N,G⟩;clear G hz hb;rintro m x8 x9 M je ko g Y OA Jw Fx oW H4 ⟨i,ws,bs,rfl,a4,al,ad,hd,G⟩;refine lX (λhc=>?_) λhc=>?_
 .refine tl ?_;obtain rfl:i=nn:=N;refine Lu.rr ?_;exact⟨⟨rs,rr,ws,bs,O,⟨G.yV<|aV (i:=1) O,(G.lo _<|aV (i:=1) O).2⟩,⟨G.yV<|aL ..,(G.lo _<|aL ..).2⟩,G.get 1 O,G.get 0 O,al,ad,hd⟩,G.ext⟩
 have hi:i<nn:=N;have⟨a,c,t,xa,xn,xc,at',he,hf,ab,_,htz,hzl⟩:=ac i hi;have⟨r2,o2,e2,hr2,hrd,_⟩:=hG.no hi nc he;rw[e2];refine bM ?_;refine G.BU hrd hr2<|G.oV O O O λH5 rb G a6=>?_;have G:SH [] H H5 [(rb,238,[vi (kd i),u a (J<|zs i) c,aJ t,u xa xn xc,vi at']),(rr,4,bools bs),(rs,3,gq ws),(E,171,[u ra rn rc,u na nn nc])]:=G;refine fJ ?_
 have d:∀(ok:Bool){M:D},M=B (G4<|kd i)->∀{oW},iG Pg X (sub pK [1,1,1,0,1,0,0,1,1,0,0,1,1,1]) (uC (gV ra rn rc na nn nc) (u (Z ⟨rl,0,T⟩) nn lc) (pr E) (u T 0 0) (u T 0 0) (u (Z ⟨rs,0,T⟩) nn nn) (u (Z ⟨rr,0,T⟩) nn nn) (B i) (pr rb) M (aR ok) ko (u na nn nc) (B nn) (B i) (vi<|kd i) OA Jw Fx oW H5)
  (uB 1<|uW Pg X (sub pK [1,1,1,0,1,0,0,1,1,1])<|IW (zW (gV ra rn rc na nn nc) (u (Z ⟨rl,0,T⟩) nn lc) (pr E) (u T 0 0) (u T 0 0) (u (Z ⟨rs,0,T⟩) nn nn) (u (Z ⟨rr,0,T⟩) nn nn) (u na nn nc) (B nn) λm x8 x9 M je ko g Y OA Jw Fx Q=>∃i ws bs,g=B i/\i+m=nn/\J ws=nn/\J bs=nn/\(∀j,j<i->IC kd zs ws j)/\SH [] H Q [(rr,4,bools bs),(rs,3,gq ws),(E,171,[u ra rn rc,u na nn nc])]) m<|uB 0<|uW Pg X (sub pK [1,1,1,1])<|jZ Pg [.tmp 4,.tmp 5]<|Q1 (λv Q=>∃rs rr ws bs,v=fO ⟨[u (Z ⟨rs,0,T⟩) nn nn,u (Z ⟨rr,0,T⟩) nn nn]⟩/\(H.bU<=rs/\rs<Q.bU)/\(H.bU<=rr/\rr<Q.bU)/\Bk Q rs 3 (gq ws)/\Bk Q rr 4 (bools bs)/\J ws=nn/\J bs=nn/\∀j,j<nn->IC kd zs ws j) H):=by
  intro ok M an oW;subst an;refine aol g5 hi al ad hf a2 hzl hd G λM je ko OA Jw Fx a3 am BH Q I W h3 h4=>?_;refine bM ?_;refine tl ?_;refine eG ?_;exact⟨nn-(i+1),N,_,_,_,_,_,_,_,_,_,_,_,_,O,i+1,a3,am,pJ,N,I,W,h3,fU (A:=[_]) h4⟩
 have y:∀(b:Bool){je:D}{ok:Bool}{oW},je=aR ok->(b=F->G4 (kd i)=1)->(b=aA->G4 (kd i)=0)->Co oW 38=aR b->iG Pg X (sub pK [1,1,1,0,1,0,0,1,1,0,0,1,1,0,1,0,1,1,1,1,1]) (uC (gV ra rn rc na nn nc) (u (Z ⟨rl,0,T⟩) nn lc) (pr E) (u T 0 0) (u T 0 0) (u (Z ⟨rs,0,T⟩) nn nn) (u (Z ⟨rr,0,T⟩) nn nn) (B i) (pr rb) (B 0) je ko (u na nn nc) (B nn) (B i) (vi<|kd i) OA Jw Fx oW H5)
  (uB 2<|uW Pg X (sub pK [1,1,1,0,1,0,0,1,1,0,0,1,1,1])<|uB 1<|uW Pg X (sub pK [1,1,1,0,1,0,0,1,1,1])<|IW (zW (gV ra rn rc na nn nc) (u (Z ⟨rl,0,T⟩) nn lc) (pr E) (u T 0 0) (u T 0 0) (u (Z ⟨rs,0,T⟩) nn nn) (u (Z ⟨rr,0,T⟩) nn nn) (u na nn nc) (B nn) λm x8 x9 M je ko g Y OA Jw Fx Q=>∃i ws bs,g=B i/\i+m=nn/\J ws=nn/\J bs=nn/\(∀j,j<i->IC kd zs ws j)/\SH [] H Q [(rr,4,bools bs),(rs,3,gq ws),(E,171,[u ra rn rc,u na nn nc])]) m<|uB 0<|uW Pg X (sub pK [1,1,1,1])<|jZ Pg [.tmp 4,.tmp 5]<|Q1 (λv Q=>∃rs rr ws bs,v=fO ⟨[u (Z ⟨rs,0,T⟩) nn nn,u (Z ⟨rr,0,T⟩) nn nn]⟩/\(H.bU<=rs/\rs<Q.bU)/\(H.bU<=rr/\rr<Q.bU)/\Bk Q rs 3 (gq ws)/\Bk Q rr 4 (bools bs)/\J ws=nn/\J bs=nn/\∀j,j<nn->IC kd zs ws j) H):=by
  intro b je ok oW ao aq ap ar;subst ao;refine tl ?_;rw[ar];refine iI (λhb=>?_) λhb=>?_
  .have⟨k1,a1,hle,_⟩:=aE i hi;refine dA (uQ hi)<|bM ?_
   have U:H.cell rl (i*3)=Z (B k1):=by
    apply hl.cell;have:=fq (λl=>l[0]?) hle;simp only[oL]at this;simpa using this
   refine G.Jq U a0 ?_;refine fJ ?_;exact d _ (by rw[aq hb];rfl)
  .refine bM ?_;exact d ok (by rw[ap hb])
 refine aW (λh0=>?_) λh0=>?_
 .exact d F (by unfold G4;rw[if_pos h0];rfl)
 have b3:kd i=2\/kd i=3\/kd i=4->G4 (kd i)=3:=λh=>by unfold G4;rw[if_neg N,if_neg N,if_pos h]
 have b1:kd i=5\/kd i=6\/kd i=7->G4 (kd i)=1:=λh=>by unfold G4;rw[if_neg N,if_neg N,if_neg N]
 refine aW (λW=>?_) λW=>?_
 .refine tp ?_;refine aW (λ_=>?_) λh=>absurd W h;exact d F (by rw[b3 N]<;>rfl)
 refine aW (λh3=>?_) λh3=>?_
 .refine tp ?_;refine aW (λ_=>?_) λh=>absurd h3 h;exact d F (by rw[b3 N]<;>rfl)
 refine tQ (λh4=>?_) λh4=>?_
 .exact d F (by rw[b3 N]<;>rfl)
 refine aW (λh5=>?_) λh5=>?_
 .exact y (decide<|kd i=5) O (λ_=>b1 N) (λh=>absurd h5<|oP h) O
 refine aW (λh6=>?_) λh6=>?_
 .exact y (decide<|kd i=6) O (λ_=>b1 N) (λh=>absurd h6<|oP h) O
 exact y (decide<|kd i=7) O (λh=>b1 (by have:=gG h;omega)) (λh=>by
  have h7:=oP h;have:kd i=1:=by rcases ab with h|h|h|h<;>omega
  unfold G4;rw[if_neg h0,if_pos this]) O
end
section
open Go.Ae
abbrev Ed:=Nat×Nat×Nat
structure At where
 nm:C aZ
 st:C Nat
 sp:C Nat
 ow:C Nat
 eg:C (C Ed)
 ty:Nat
namespace At
variable{i k n r s:Nat}{e:Ed}{tok:Bool}{w:Ed->Prop}{A:At}
def nr(A:At):Nat:=J A.nm
def ns(A:At):Nat:=J A.ow
def S(A:At)(r:Nat):Nat:=A.st[r]?.getD 0
def P(A:At)(r:Nat):Nat:=A.sp[r]?.getD 0
def aj(A:At)(s:Nat):Nat:=A.ow[s]?.getD 0
def rg(A:At)(s:Nat):C Ed:=A.eg[s]?.getD []
def agv(A:At)(e:Ed):Prop:=e.1=0\/(e.1=1/\e.2.1<A.ty)\/(e.1=2/\e.2.1<A.nr)
structure Ok(A:At):Prop where
 pos:0<A.nr
 YF:J A.st=A.nr
 YH:J A.sp=A.nr
 Be:J A.eg=A.ns
 big:A.ns<=4000
 few:A.nr<=1000
 s:∀r,r<A.nr->A.S r<A.ns/\A.aj (A.S r)=r
 p:∀r,r<A.nr->A.P r<A.ns/\A.aj (A.P r)=r
 o:∀s,s<A.ns->A.aj s<A.nr
 e:∀s,s<A.ns->∀e∈A.rg s,e.2.2<A.ns/\A.aj e.2.2=A.aj s/\A.agv e
 tot:(A.eg.map J).sum<=100000
def Uj(h:J A.eg=A.ns)(hs:¬s<A.ns):A.rg s=[]:=by
 unfold rg;rw[dw N];rfl
inductive Mk(A:At)(tok:Bool):Nat->Prop
 |stop (r:Nat):r<A.nr->Mk A tok (A.P r)
 |edge (s:Nat) (e:Ed):e∈A.rg s->(e.1=1->tok=F)->(e.1=2->Mk A tok (A.S e.2.1))->Mk A tok e.2.2->Mk A tok s
inductive Rc(A:At)(cs:Nat->Prop)(w:Ed->Prop):Nat->Prop
 |base (s:Nat):cs s->Rc A cs w s
 |step (s:Nat) (e:Ed):Rc A cs w s->e∈A.rg s->w e->Rc A cs w e.2.2
def leads(A:At)(e:Ed):Prop:=A.Mk F e.2.2/\(e.1=2->A.Mk F (A.S e.2.1))
def isS(A:At)(s:Nat):Prop:=∃r,r<A.nr/\s=A.S r
def met(A:At)(s:Nat):Prop:=A.Rc A.isS A.leads s
open Classical in
def Nu(A:At)(s:Nat):C Ed:=if A.met s then(A.rg s).filter (λe=>decide<|A.leads e)else[]
def trim(A:At):At:={A with eg:=(dZ A.ns).map A.Nu}
def Wt(h:A.Ok)(s:Nat):A.trim.rg s=A.Nu s:=by
 show((dZ A.ns).map A.Nu)[s]?.getD []=_
 by_cases hs:s<A.ns
 .rw[bK,uh hs];rfl
 .rw[dw (nZ hs)];show[]=A.Nu s;unfold Nu;rw[Uj h.Be hs];split<;>rfl
def agw:e∈A.Nu s<->A.met s/\e∈A.rg s/\A.leads e:=by
 classical
 unfold Nu;split
 .next h=>simp[h]
 .next h=>simp[h]
def ET(h:A.Ok):e∈A.trim.rg s<->A.met s/\e∈A.rg s/\A.leads e:=by rw[Wt h];exact agw
def adM{l:C (C Ed)}{cs:Nat->C Ed}(d:∀i(h:i<J l),J (cs i)<=J (l[i]))(g:n<=J l):(((dZ n).map cs).map J).sum<=(l.map J).sum:=by
 have key:∀n,n<=J l->(((dZ n).map cs).map J).sum<=((l.take n).map J).sum:=by
  intro n
  induction n with
  |zero=>intro _;simp
  |succ n y=>
   intro h;have I:=y N;have W:=d n N;rw[xq,dY,av N];simp only[dM,nK,i_,kM,qC,zL,Option.toList]at I|-;omega
 refine aQ (key n g) ?_
 have:(l.map J).sum=((l.take n).map J).sum+((l.drop n).map J).sum:=by
  rw[<-nK,<-dM,iM]
 omega
def pre(A:At)(i:Nat):Nat:=((A.eg.take i).map J).sum
def AZ(h:A.Ok)(i:Nat):A.pre i<=100000:=by
 have:(A.eg.map J).sum=A.pre i+((A.eg.drop i).map J).sum:=by
  unfold pre;rw[<-nK,<-dM,iM]
 have:=h.tot;omega
def yt(h:A.Ok)(hi:i<A.ns):A.pre (i+1)=A.pre i+J (A.rg i):=by
 unfold pre rg;have:i<J A.eg:=by rw[h.Be];exact hi
 rw[dY,av this];simp only[dM,nK,i_,kM,qC,zL,Option.toList,p_];omega
def Ok.len(h:A.Ok)(s:Nat):J (A.rg s)<=100000:=by
 by_cases hs:s<A.ns
 .have:=yt h hs;have:=AZ h<|s+1;omega
 .rw[Uj h.Be hs];simp
theorem Li(h:A.Ok):A.trim.Ok where
 pos:=h.pos
 YF:=h.YF
 YH:=h.YH
 Be:=by show J ((dZ A.ns).map A.Nu)=A.ns;simp
 big:=h.big
 few:=h.few
 s:=h.s
 p:=h.p
 o:=h.o
 e:=λs hs e d=>h.e s hs e ((ET h).1 d).2.1
 tot:=aQ (adM (λi hi=>by
  classical
  have:A.rg i=A.eg[i]:=by unfold rg;rw[av hi];rfl
  unfold Nu;split
  .rw[this];exact m_ _ _
  .exact bD _) (rM h.Be.symm)) h.tot
def Mk.mono{tok:Bool}{s:Nat}(h:A.Mk tok s):A.Mk F s:=by
 induction h with
 |stop r B=>exact .stop r B
 |edge s e y _ _ _ d g=>exact .edge s e y (λ_=>rfl) d g
def Uk(h:A.met s)(d:e∈A.rg s)(hl:A.leads e):A.met e.2.2:=.step s e h d hl
def aim(d:r<A.nr):A.met (A.S r):=.base _ ⟨r,d,O⟩
def Ok.call(h:A.Ok)(d:e∈A.rg s)(hk:e.1=2):e.2.1<A.nr:=by
 have hs:s<A.ns:=by
  apply uF;intro hs;rw[Uj h.Be hs]at d;cases d
 have⟨_,_,h3⟩:=h.e s hs e d;rcases h3 with h3|h3|h3<;>omega
def Ok.lt(h:A.Ok)(d:e∈A.rg s):s<A.ns:=by
 apply uF;intro hs;rw[Uj h.Be hs]at d;cases d
def Mk.trim(h:A.Ok)(N:A.Mk tok s):A.met s->A.trim.Mk tok s:=by
 induction N with
 |stop r O=>exactλ_=>.stop (A:=A.trim) r O
 |edge s e g T M W y B=>
  intro hs;have I:A.leads e:=⟨W.mono,λd=>(M d).mono⟩;exact .edge (A:=A.trim) s e ((ET h).2 ⟨hs,g,I⟩) T (λd=>y d<|aim<|h.call g d)<|B<|Uk hs g I
def Nv(h:A.Ok)(g:e∈A.trim.rg s):A.trim.leads e:=by
 have⟨I,W,h3⟩:=(ET h).1 g;refine⟨h3.1.trim h<|Uk I W h3,λd=>(h3.2 d).trim h<|aim<|h.call W d⟩
def ajG(h:A.Ok)(M:∀s e,e∈A.trim.rg s->w e):A.trim.Rc A.isS w s<->A.met s:=by
 constructor
 .intro hs
  induction hs with
  |base s hs=>exact .base s hs
  |step s e _ d _ g=>
   have⟨I,W,h3⟩:=(ET h).1 d;exact .step s e g W h3
 .intro hs
  induction hs with
  |base s hs=>exact .base s hs
  |step s e y d B g=>
   have:e∈A.trim.rg s:=(ET h).2 ⟨y,d,B⟩;exact .step s e g this<|M s e this
def Ul(h:A.Ok):A.trim.met s<->A.met s:=ajG h λs e d=>Nv h d
def aap(h:A.Ok):A.trim.trim=A.trim:=by
 have y:=Li h
 have key:∀s,A.trim.Nu s=A.Nu s:=by
  classical
  intro s;rw[<-Wt h s];unfold Nu
  by_cases hs:A.met s
  .rw[if_pos ((Ul h).2 hs)];apply List.filter_eq_self.2;intro e d;exact b_<|Nv h d
  .rw[if_neg (λg=>hs<|(Ul h).1 g),Wt h s];unfold Nu;rw[if_neg hs]
 unfold trim;show At.mk A.nm A.st A.sp A.ow ((dZ A.ns).map (A.trim).Nu) A.ty=At.mk A.nm A.st A.sp A.ow ((dZ A.ns).map A.Nu) A.ty;rw[show A.trim.Nu=A.Nu from funext key]
def isF(A:At)(e:Ed):Prop:=e.1=0\/(e.1=2/\A.Mk aA (A.S e.2.1))
def fre(A:At)(s:Nat):Nat->Prop:=A.Rc (·=s) A.isF
def Rc.own(h:A.Ok){cs:Nat->Prop}(y:∀s,cs s->s<A.ns/\A.aj s=k)(hs:A.Rc cs w s):s<A.ns/\A.aj s=k:=by
 induction hs with
 |base s hs=>exact y s hs
 |step s e _ g _ d=>
  have⟨I,W,_⟩:=h.e s d.1 e g;exact⟨I,W.trans d.2⟩
def Mk.own(h:A.Ok)(g:A.Mk tok s):s<A.ns:=by
 cases g with
 |stop r y=>exact(h.p r y).1
 |edge _ e d _ _ _=>exact h.lt d
end At
end
section
open Go.Ae
def on(mk:C Bool)(s:Nat):Prop:=mk[s]?=Z F
def ain(h:on mk s):s<J mk:=(bI.1 h).1
def GA{t:Nat}(hs:s<J mk):on (mk.set s F) t<->s=t\/on mk t:=by
 unfold on;rw[dU]
 by_cases h:s=t
 .subst h;simp[hs]
 .simp[h]
def off:C Bool->Nat
 |[]=>0
 |b::l=>(if b=F then 0 else 1)+off l
def YI:∀{mk:C Bool}{s:Nat},mk[s]?=Z aA->off (mk.set s F)+1=off mk
 |[],s,h=>by simp at h
 |b::l,0,h=>by
  simp at h;subst h;simp[off];omega
 |b::l,s+1,h=>by
  have:=YI (mk:=l) (s:=s)<|nZ h;simp only[kG,off];omega
def Rk:∀n,off (aY n aA)=n
 |0=>rfl
 |n+1=>by
  have:=Rk n;rw[List.replicate_succ];simp[off,this];omega
structure MJ(n:Nat)(H' P:Nat->Prop)(mk:C Bool)(nx:C Nat):Prop where
 len:J mk=n
 snd:∀s,on mk s->H' s
 cov:∀s,on mk s->s∈nx\/P s
 pon:∀s,P s->on mk s
 nxo:∀s∈nx,on mk s
def mu(mk:C Bool)(nx:C Nat):Nat:=2*off mk+J nx
variable{H' P:Nat->Prop}{nx:C Nat}
def MJ.nil(n:Nat)(H':Nat->Prop):MJ n H' (λ_=>False) (aY n aA) []:=by
 refine⟨gD,?_,?_,λs h=>h.elim,nofun⟩<;>
 .intro s h;unfold on at h;rw[l6]at h;split at h<;>simp at h
def MJ.mark(h:MJ n H' P mk nx)(hs:mk[s]?=Z aA)(y:H' s):MJ n H' P (mk.set s F) (nx++[s])/\on (mk.set s F) s/\(∀t,on mk t->on (mk.set s F) t)/\mu (mk.set s F) (nx++[s])+1=mu mk nx:=by
 have d:=(bI.1 hs).1;refine⟨⟨by rw[bR];exact h.len,λt ht=>?_,λt ht=>?_,λt ht=>(GA d).2<|.inr<|h.pon t ht,λt ht=>?_⟩,(GA d).2<|.inl O,λt ht=>(GA d).2<|.inr ht,?_⟩
 .rcases(GA d).1 ht with rfl|ht
  .exact y
  .exact h.snd t ht
 .rcases(GA d).1 ht with rfl|ht
  .exact .inl gD
  .exact(h.cov t ht).imp_left λg=>dK _ g
 .rcases cK.1 ht with ht|ht
  .exact(GA d).2<|.inr<|h.nxo t ht
  .exact(GA d).2<|.inl (aT.1 ht).symm
 .have:=YI hs;unfold mu;rw[aS];show _+(J nx+1)+1=_;omega
def MJ.pop(h:MJ n H' P mk<|nx++[s]):MJ n H' (λt=>P t\/t=s) mk nx:=by
 refine⟨h.len,h.snd,λt d=>?_,λt d=>?_,λt d=>h.nxo t<|dK _ d⟩
 .rcases h.cov t d with I|I
  .rcases cK.1 I with I|I
   .exact .inl I
   .exact .inr<|.inr<|aT.1 I
  .exact .inr<|.inl I
 .rcases d with d|rfl
  .exact h.pon t d
  .exact h.nxo _ gD
def adN(mk:C Bool)(nx:C Nat)(s:Nat):mu mk nx+1=mu mk (nx++[s]):=by
 unfold mu;rw[aS];rfl
def MJ.wk(h:MJ n H' P mk nx)(g:∀t,P t<->P' t):MJ n H' P' mk nx:=
 ⟨h.len,h.snd,λt d=>(h.cov t d).imp_right (g t).1,λt d=>h.pon t<|(g t).2 d,h.nxo⟩
namespace At
variable{A:At}{tok:Bool}
def YJ(tok:Bool)(e:Ed):Prop:=e.1=1->tok=F
def Clo(A:At)(tok:Bool)(P:Nat->Prop)(mk:C Bool):Prop:=∀s e,e∈A.rg s->YJ tok e->P e.2.2->(e.1=2->P (A.S e.2.1))->on mk s
def Clo.step{cur:Nat}{mk':C Bool}(h:A.Clo tok P mk)(M:∀t,on mk t->on mk' t)(I:∀s e,e∈A.rg s->YJ tok e->e.2.2=cur->(e.1=2->P (A.S e.2.1)\/A.S e.2.1=cur)->on mk' s)(W:∀s e,e∈A.rg s->e.1=2->A.S e.2.1=cur->(P e.2.2\/e.2.2=cur)->on mk' s):A.Clo tok (λt=>P t\/t=cur) mk':=by
 intro s e g B ht y;rcases ht with ht|ht
 .by_cases hc2:e.1=2/\A.S e.2.1=cur
  .exact W s e g hc2.1 hc2.2<|.inl ht
  .refine M s (h s e g B ht λd=>?_);rcases y d with h3|h3
   .exact h3
   .exact absurd ⟨d,h3⟩ hc2
 .exact I s e g B ht y
def agx(ho:A.Ok)(h:MJ A.ns (A.Mk tok) P mk [])(I:A.Clo tok P mk)(T:∀r,r<A.nr->on mk (A.P r))(s:Nat):on mk s<->A.Mk tok s:=by
 refine⟨h.snd s,λO=>?_⟩;have B:∀t,on mk t->P t:=λt d=>(h.cov t d).resolve_left<|nofun
 induction O with
 |stop r U=>exact T r U
 |edge s e M d _ _ g y=>exact I s e M d (B _ y) λN=>B _<|g N
def YK{cs:Nat->Prop}{w:Ed->Prop}(h:MJ A.ns (A.Rc cs w) P mk [])(g:∀s e,P s->e∈A.rg s->w e->on mk e.2.2)(B:∀s,cs s->on mk s)(s:Nat):on mk s<->A.Rc cs w s:=by
 refine⟨h.snd s,λI=>?_⟩;have d:∀t,on mk t->P t:=λt M=>(h.cov t M).resolve_left<|nofun
 induction I with
 |base s hs=>exact B s hs
 |step s e _ y N O=>exact g s e (d _ O) y N
end At
end
end Go.Proofs.Lu
namespace Go.Proofs.Lv
open Go.Proofs.Lu
open Go.Ae Go.Ae.hx
variable{ag D':Nat->Ed->Prop}{K:D->D->R->Prop}{ok w:Ed->Prop}{key:Ed->Nat}{c c' dm es fc i k m n o r E s t x:Nat}{mk mk':C Bool}{A:At}{e e0:Ed}{L L' hx gb:C eB}{a ca fa ia:aC Addr}{f vs:C D}{l:C (Nat×Ed)}{ty:aH}{H Q H0:R}{F' H':Nat->Prop}{fl nx':C Nat}
section
variable{S:C Nat}{ay:Nat->Prop}
def Bt:C Ed->C D
 |[]=>[]
 |e::l=>B e.1::B e.2.1::B e.2.2::Bt l
def Lj:∀l,J (Bt l)=J l*3
 |[]=>rfl
 |e::l=>by
  have:=Lj l;simp only[Bt,cO];omega
def Rl:∀l l',Bt (l++l')=Bt l++Bt l'
 |[],l'=>rfl
 |e::l,l'=>by simp only[bV,Bt,Rl l l']
def adO:∀{l:C Ed}{i:Nat}{e:Ed},l[i]?=Z e->El (Bt l) 3 i=[B e.1,B e.2.1,B e.2.2]
 |[],i,e,h=>by simp at h
 |x::l,0,e,h=>by
  simp at h;subst h;simp[El,Bt]
 |x::l,i+1,e,h=>by
  have:=adO (l:=l) (i:=i)<|nZ h;rw[<-this];unfold El;rw[show(i+1)*3=i*3+3 by omega];rfl
structure AV where
 na:aC Addr
 sa:aC Addr
 pa:aC Addr
 oa:aC Addr
 ea:aC Addr
 nc:Nat
 sc:Nat
 pc:Nat
 oc:Nat
 ec:Nat
def AV.cells(q:AV)(A:At):C D:=[u q.na A.nr q.nc,u q.sa A.nr q.sc,u q.pa A.nr q.pc,u q.oa A.ns q.oc,u q.ea A.ns q.ec,B A.ty]
abbrev AV.v(q:AV)(A:At):D:=dP ⟨q.cells A⟩
def EdM(ay:Nat->Prop)(H:R)(A:At)(d:C D):Prop:=∀i,i<A.ns->∃a c,d[i]?=Z (u a (J<|A.rg i) c)/\jJ ay 121 H a (J<|A.rg i) 3 (Bt<|A.rg i)
structure vI(ay:Nat->Prop)(H:R)(A:At)(q:AV):Prop where
 n:jJ ay 9 H q.na A.nr 1 (A.nm.map aJ)
 s:jJ ay 3 H q.sa A.nr 1 (gq A.st)
 p:jJ ay 3 H q.pa A.nr 1 (gq A.sp)
 o:jJ ay 3 H q.oa A.ns 1 (gq A.ow)
 e:∃evs,jJ ay 119 H q.ea A.ns 1 evs/\EdM ay H A evs
variable{q:AV}
def vI.ex(h:vI ay H A q)(M:Ext H Q):vI ay Q A q:=
 ⟨h.n.ex M,h.s.ex M,h.p.ex M,h.o.ex M,let⟨evs,I,W⟩:=h.e;⟨evs,I.ex M,λi hi=>let⟨a,c,h3,h4⟩:=W i hi;⟨a,c,h3,h4.ex M⟩⟩⟩
def vI.wk(h:vI ay H A q)(d:∀r,ay r->F' r):vI F' H A q:=
 ⟨h.n.wk d,h.s.wk d,h.p.wk d,h.o.wk d,let⟨evs,I,W⟩:=h.e;⟨evs,I.wk d,λi hi=>let⟨a,c,h3,h4⟩:=W i hi;⟨a,c,h3,h4.wk d⟩⟩⟩
def vI.stay(h:vI ay H A q)(M:pI S H Q)(G:∀r∈S,¬ay r):vI ay Q A q:=
 ⟨h.n.stay M λr d=>.inl<|G r d,h.s.stay M λr d=>.inl<|G r d,h.p.stay M λr d=>.inl<|G r d,h.o.stay M λr d=>.inl<|G r d,let⟨evs,I,W⟩:=h.e;⟨evs,I.stay M λr d=>.inl<|G r d,λi hi=>let⟨a,c,h3,h4⟩:=W i hi;⟨a,c,h3,h4.stay M λr d=>.inl<|G r d⟩⟩⟩
def A_{l:C Nat}(h:k<J l):(gq l)[k]?=Z (B<|l[k]?.getD 0):=by
 rw[bK,av h];rfl
def lN(q:AV)(A:At):bY (q.v A)=q.cells A:=rfl
section steps
def vI.ldS(h:vI ay H A q)(ho:A.Ok)(hk:k<A.nr)(kk:∀p,K p (B<|A.S k) H):PU (B_ 1 (u q.sa A.nr q.sc)<|B k) λp=>ME (wR T p H) (K p):=h.s.ix hk (A_ (by rw[ho.YF];exact hk)) kk
def vI.ldP(h:vI ay H A q)(ho:A.Ok)(hk:k<A.nr)(kk:∀p,K p (B<|A.P k) H):PU (B_ 1 (u q.pa A.nr q.pc)<|B k) λp=>ME (wR T p H) (K p):=h.p.ix hk (A_ (by rw[ho.YH];exact hk)) kk
def vI.CO(h:vI ay H A q)(hk:k<A.ns)(kk:∀p,K p (B<|A.aj k) H):PU (B_ 1 (u q.oa A.ns q.oc)<|B k) λp=>ME (wR T p H) (K p):=h.o.ix hk (A_ hk) kk
def vI.ldE(h:vI ay H A q)(M:Ext H Q)(hk:k<A.ns)(kk:∀p a c,jJ ay 121 H a (J<|A.rg k) 3 (Bt<|A.rg k)->K p (u a (J<|A.rg k) c) Q):PU (B_ 1 (u q.ea A.ns q.ec)<|B k) λp=>ME (wR T p Q) (K p):=by
 have⟨evs,I,W⟩:=h.e;have⟨a,c,h3,h4⟩:=W k hk;exact(I.ex M).ix hk h3 λp=>kk p a c h4
def KV{l:C Ed}(h:jJ ay 121 H a (J l) 3<|Bt l)(hk:k<J l)(kk:∀p,K p (dP ⟨[B l[k].1,B l[k].2.1,B l[k].2.2]⟩) H):PU (B_ 3 (u a (J l) c)<|B k) λp=>ME (wR (Z 3) p H) (K p):=
 h.Yb N hk (adO<|av hk) kk
end steps
def Qe(p:D->R->Prop)(H:R)(v:D)(Q:R):Prop:=p v Q/\Ext H Q
def vU(d:Wf H)(q:AV)(A:At):bQ Pg X 35 [q.v A] H (Qe (λv _=>v=B A.ns) H):=by
 have G:=h_ d;refine lq [0,1,2] ?_;refine G.box O λH1 E G=>?_;rw[lN]at G;unfold AV.cells at G;refine fJ ?_;refine rr ?_;exact⟨O,G.ext⟩
end
variable{q:AV}
section
variable{S:C Nat}{ay:Nat->Prop}
abbrev pt(r:Nat):D:=bG<|Z ⟨r,0,T⟩
def Rp(O:Wf H)(h:vI ay H A q){rn:Nat}(I:H.cell rn 0=Z (B A.ns))(g:rn<H.bU)(W:H.cell E 3=Z (u q.oa A.ns q.oc))(y:E<H.bU)(hs:s<A.ns)(M:A.aj s=r):
 bQ Pg X 110 [B s,B r,pt rn,pt E] H (Qe (λv _=>v=aR F) H):=by
 have G:=h_ O;refine GY [0,1,2,3,6] ?_;refine aW (λd=>?_) λd=>absurd N d;refine G.CO I g ?_;refine bM ?_;refine aW (λd=>?_) λd=>absurd N d;refine G.CO W y<|h.CO hs λp=>?_;rw[M];refine bM ?_;refine rr ?_;exact⟨gD,Ext.refl _⟩
theorem vJ(hw:Wf H)(h:vI ay H A q)(ho:A.Ok):bQ Pg X 76 [q.v A] H (Qe (λv _=>v=aR F) H):=by
 have G:=h_ hw;refine lq [0,1,2,3,4,5,6,7,8,10,45,46,71,72,73,89,90,91,102] ?_;refine G.box O λH1 E G=>?_;rw[lN]at G;unfold AV.cells at G;refine fJ ?_;refine G.nD λU rn G f1=>G.n_ λHn G=>?_;have n1:rn≠E:=G.nq 0 1 O O N;refine splitK (λK hK=>?_) ?_
 .simp only[f1,fu,gT];apply mO (a:=rn) (b:=E) n1 yB fT fT hK
 have al:=ho.pos;have ad:=ho.big;have JF:=ho.few;refine aW (λd=>N) λd=>?_;refine fJ ?_;refine fP (λd=>absurd trivial d) λ_=>?_;refine fJ ?_;refine fP (λd=>absurd trivial d) λ_=>?_;refine fJ ?_;refine fP (λd=>absurd trivial d) λ_=>?_;refine fJ ?_;refine aW (λd=>N) λ_=>?_;have G:SH [] H _ [(rn,3,[B A.ns]),(E,27,[u q.na A.nr q.nc,u q.sa A.nr q.sc,u q.pa A.nr q.pc,u q.oa A.ns q.oc,u q.ea A.ns q.ec,B A.ty])]:=G
 have key:∀{Q:R}{L':C eB},SH [] H Q L'->(rn,3,[B A.ns])∈L'->(E,27,q.cells A)∈L'->∀{s r:Nat},s<A.ns->A.aj s=r->∀{K:D->R->Prop},(∀U,SH [] H U L'->K (aR F) U)->qh Pg X (Ou<|.func (.func 110) ⟨[]⟩ ⟨[pt rn,pt E]⟩) [B s,B r] Q K:=by
  intro Q L' G I T s r hs hr K kk;show bQ Pg X 110 [B s,B r,pt rn,pt E] Q K;refine dD (Rp G.wf (h.ex G.ext) ((G.bk _ I).cell O) (G.lo _ I).2 ((G.bk _ T).cell (o:=3) O) (G.lo _ T).2 hs hr) ?_;rintro v U ⟨rfl,M⟩;exact kk U<|G.call M
 have I:((rn,3,[B A.ns]):eB)∈([(rn,3,[B A.ns]),(E,27,q.cells A)]:C eB):=gD;have T:((E,27,q.cells A):eB)∈([(rn,3,[B A.ns]),(E,27,q.cells A)]:C eB):=gD;refine tl ?_;refine Ik 2 6 46 (h1:=λm x2 x6 ab Q=>∃i:Nat,ab=B i/\i+m=A.nr/\SH [] H Q [(rn,3,[B A.ns]),(E,27,[u q.na A.nr q.nc,u q.sa A.nr q.sc,u q.pa A.nr q.pc,u q.oa A.ns q.oc,u q.ea A.ns q.ec,B A.ty])]) ?_ A.nr ⟨0,rfl,N,G⟩;clear G;rintro m x2 x6 ab oW H3 ⟨i,rfl,W,G⟩;refine tQ (λd=>?_) λd=>?_
 .have hi:i<A.nr:=N;refine G.qF<|(h.ex G.ext).ldS ho hi λp=>key G I T (ho.s i hi).1 (ho.s i hi).2 λH4 G=>?_;refine bM ?_;refine iI (λV=>by cases V) λ_=>?_;refine G.qF<|(h.ex G.ext).ldP ho hi λp=>key G I T (ho.p i hi).1 (ho.p i hi).2 λH5 G=>?_;refine bM ?_;refine iI (λV=>by cases V) λ_=>?_;refine eG ?_;exact⟨A.nr-(i+1),N,_,_,_,_,_,O,i+1,pJ,N,G⟩
 refine tm ?_;refine lp9 2 7 8 10 73 89 90 91 102 (h1:=λm x2 x7 x8 j_ ac am an y g Q=>∃i:Nat,ac=B i/\i+m=A.ns/\SH [] H Q [(rn,3,[B A.ns]),(E,27,[u q.na A.nr q.nc,u q.sa A.nr q.sc,u q.pa A.nr q.pc,u q.oa A.ns q.oc,u q.ea A.ns q.ec,B A.ty])]) ?_ A.ns ⟨0,rfl,N,G⟩;clear G d W;rintro m x2 x7 x8 j_ ac am an y g oW H4 ⟨s,rfl,W,G⟩;refine lX (λd=>?_) λd=>?_
 .refine tl<|rr ?_;exact⟨O,G.ext⟩
 have hs:s<A.ns:=N;refine(h.ex G.ext).CO hs λp=>?_;refine bM ?_;have hO:=ho.o s hs;refine aW (λd=>N) λ_=>?_;refine aW (λd=>N) λ_=>?_;refine tm ?_;refine h.ldE G.ext hs λp ea ec hE=>?_;refine bM ?_;have ar:=G.ext;refine PO 2 10 91 102 (h1:=λm x2 j_ y g Q=>∃k:Nat,y=B k/\k+m=J (A.rg s)/\SH [] H Q [(rn,3,[B A.ns]),(E,27,[u q.na A.nr q.nc,u q.sa A.nr q.sc,u q.pa A.nr q.pc,u q.oa A.ns q.oc,u q.ea A.ns q.ec,B A.ty])]) ?_ (J<|A.rg s) ⟨0,rfl,N,G⟩;clear G d;rintro m' x2 j_ y g oW H5 ⟨k,rfl,aq,G⟩;refine lX (λd=>?_) λd=>?_
 .refine tl ?_;refine eG ?_;exact⟨A.ns-(s+1),N,_,_,_,_,_,_,_,_,_,_,_,O,s+1,pJ,N,G⟩
 have hk:k<J (A.rg s):=N;refine KV (hE.ex G.ext) hk λp=>?_;have Y:=bH hk;have⟨g1,g2,g3⟩:=ho.e s hs _ Y;generalize hee:(A.rg s)[k]=e at g1 g2 g3|-;refine G.ns O O O λH6 re G a0=>?_;have G:SH [] H H6 [(re,121,[B e.1,B e.2.1,B e.2.2]),(rn,3,[B A.ns]),(E,27,[u q.na A.nr q.nc,u q.sa A.nr q.sc,u q.pa A.nr q.pc,u q.oa A.ns q.oc,u q.ea A.ns q.ec,B A.ty])]:=G;refine fJ ?_;have aE:=G.ext;have ao:=G;refine key G (bL _ I) (bL _ T) g1 g2 λH7 G=>?_;refine bM ?_;refine iI (λV=>by cases V) λ_=>?_;have G:SH [] H H7 ((re,121,[B e.1,B e.2.1,B e.2.2])::[(rn,3,[B A.ns]),(E,27,[u q.na A.nr q.nc,u q.sa A.nr q.sc,u q.pa A.nr q.pc,u q.oa A.ns q.oc,u q.ea A.ns q.ec,B A.ty])]):=G;refine fJ ?_
 have ap:k<1000000000:=by
  have:=ho.len s;omega
 rcases g3 with g3|⟨g3,g4⟩|⟨g3,g4⟩
 .refine aW (λ_=>?_) (λd=>absurd N d);refine eG ?_;exact⟨J (A.rg s)-(k+1),N,_,_,_,_,_,_,O,k+1,pJ,N,fU (A:=[_]) G⟩
 .refine aW (λd=>N) (λ_=>?_);refine aW (λ_=>?_) λd=>absurd N d;refine fJ ?_;refine aW (λd=>N) λ_=>?_;refine fJ ?_;refine aW (λd=>N) λ_=>?_;refine eG ?_;exact⟨J (A.rg s)-(k+1),N,_,_,_,_,_,_,O,k+1,pJ,N,fU (A:=[_]) G⟩
 .refine aW (λd=>N) (λ_=>?_);refine aW (λd=>N) λ_=>?_;refine aW (λ_=>?_) λd=>absurd N d;refine fJ ?_;refine aW (λd=>N) λ_=>?_;refine fJ ?_;refine aW (λd=>N) λ_=>?_;refine eG ?_;exact⟨J (A.rg s)-(k+1),N,_,_,_,_,_,_,O,k+1,pJ,N,fU (A:=[_]) G⟩
end
section
variable{S:C Nat}{ay:Nat->Prop}
def _root_.Go.Ae.GB.sl{v:D}(h:GB ty es v f gb):∃a n c,v=u a n c:=by
 rcases h with⟨rfl,_⟩|⟨r,n,d,rfl,_⟩<;>exact⟨_,_,_,O⟩
def Ms(m x dm n:Nat)(mk:C Bool)(nx:C Nat)(hx:C eB):Prop:=∃d gb,hx=(m,34,[u (Z ⟨dm,0,T⟩) n n])::(x,22,[d])::(dm,4,bools mk)::gb/\GB 3 1 d (gq nx) gb/\J mk=n
def Mkd(s:Nat)(mk:C Bool)(nx:C Nat)(mk':C Bool)(nx':C Nat):Prop:=(mk[s]?=Z F/\mk'=mk/\nx'=nx)\/(mk[s]?=Z aA/\mk'=mk.set s F/\nx'=nx++[s])
def Jz{nx:C Nat}(hM:Ms m x dm n mk nx hx)(G:SH S H0 H<|hx++L)(hs:s<n)(hb:J nx<=1000000):
 bQ Pg X 111 [B s,pt m,pt x] H λv Q=>∃mk' nx' M',Ms m x dm n mk' nx' M'/\SH S H0 Q (M'++L)/\Mkd s mk nx mk' nx':=by
 obtain⟨I,gb,rfl,M,U⟩:=hM;have G:SH S H0 H ((m,34,[u (Z ⟨dm,0,T⟩) n n])::(x,22,[I])::(dm,4,bools mk)::(gb++L)):=G;refine lq [0,1,2] ?_;apply G.qF;obtain⟨b,d⟩:∃b,mk[s]?=Z b:=⟨_,av N⟩;refine G.ix (v:=aR b) hs (jX _ d) λp=>?_;refine sD (λy=>?_) λy=>?_
 .obtain rfl:b=aA:=by cases b<;>simp_all
  apply G.qF;refine G.Ya hs K4 (kk:=λp H1 G=>?_);refine G.qF<|M.push (G.perm<|jw [_,_,_] gb L) N O O O O O N (by simpa using(by omega:J nx<=16777216)) λw v' Y V g G=>?_;have G:=G.perm<|jw V [(m,34,[u (Z ⟨dm,0,T⟩) n n]),(x,22,[I]),(dm,4,(bools mk).set s<|aR F)] L;simp only[bV,bZ]at G;obtain⟨va,W,vc,rfl⟩:=g.sl;refine G.kE λHn G=>?_;refine rn ?_;refine⟨mk.set s F,nx++[s],_,⟨u va W vc,V,O,?_,by rw[bR];exact U⟩,?_,.inr ⟨d,O,O⟩⟩
  .have:gq (nx++[s])=gq nx++[B s]:=gD;rw[this];exact g
  .have:bools (mk.set s F)=(bools mk).set s (aR F):=gz;rw[this];exact G
 .obtain rfl:b=F:=by cases b<;>simp_all
  refine rn ?_;exact⟨mk,nx,_,⟨I,gb,O,M,U⟩,G,.inl ⟨d,O,O⟩⟩
def aaq{nx:C Nat}(hM:Ms m x dm n mk nx hx)(G:SH S H0 H<|hx++L)(hs:s<n)(hb:J nx<=1000000):
 bQ Pg X 112 [B s,pt m,pt x] H λv Q=>∃mk' nx' M',Ms m x dm n mk' nx' M'/\SH S H0 Q (M'++L)/\Mkd s mk nx mk' nx':=by
 obtain⟨I,gb,rfl,M,U⟩:=hM;have G:SH S H0 H ((m,34,[u (Z ⟨dm,0,T⟩) n n])::(x,22,[I])::(dm,4,bools mk)::(gb++L)):=G;refine lq [0,1,2] ?_;apply G.qF;obtain⟨b,d⟩:∃b,mk[s]?=Z b:=⟨_,av N⟩;refine G.ix (v:=aR b) hs (jX _ d) λp=>?_;refine sD (λy=>?_) λy=>?_
 .obtain rfl:b=aA:=by cases b<;>simp_all
  apply G.qF;refine G.Ya hs K4 (kk:=λp H1 G=>?_);refine G.qF<|M.push (G.perm<|jw [_,_,_] gb L) N O O O O O N (by simpa using(by omega:J nx<=16777216)) λw v' Y V g G=>?_;have G:=G.perm<|jw V [(m,34,[u (Z ⟨dm,0,T⟩) n n]),(x,22,[I]),(dm,4,(bools mk).set s<|aR F)] L;simp only[bV,bZ]at G;obtain⟨va,W,vc,rfl⟩:=g.sl;refine G.kE λHn G=>?_;refine rn ?_;refine⟨mk.set s F,nx++[s],_,⟨u va W vc,V,O,?_,by rw[bR];exact U⟩,?_,.inr ⟨d,O,O⟩⟩
  .have:gq (nx++[s])=gq nx++[B s]:=gD;rw[this];exact g
  .have:bools (mk.set s F)=(bools mk).set s (aR F):=gz;rw[this];exact G
 .obtain rfl:b=F:=by cases b<;>simp_all
  refine rn ?_;exact⟨mk,nx,_,⟨I,gb,O,M,U⟩,G,.inl ⟨d,O,O⟩⟩
end
section
variable{S:C Nat}{ay:Nat->Prop}{P:Nat->Prop}{nx:C Nat}
def Mkd.mj(h:Mkd s mk nx mk' nx')(g:MJ n H' P mk nx)(y:H' s):MJ n H' P mk' nx'/\on mk' s/\(∀t,on mk t->on mk' t)/\mu mk' nx'<=mu mk nx:=by
 rcases h with⟨I,rfl,rfl⟩|⟨I,rfl,rfl⟩
 .exact⟨g,I,λt h=>h,ax _⟩
 .have⟨a,b,c,d⟩:=g.mark I y;exact⟨a,b,c,N⟩
def Bs(b:Nat)(H:R)(n:Nat)(v:D)(mk:C Bool):Prop:=∃a c,v=u a n c/\J mk=n/\jJ (b<=·) 4 H a n 1 (bools mk)
def Bs.ex{b:Nat}{v:D}(h:Bs b H n v mk)(M:Ext H Q):Bs b Q n v mk:=let⟨a,c,I,W,h3⟩:=h;⟨a,c,I,W,h3.ex M⟩
def Bs.le{b b':Nat}{v:D}(h:Bs b H n v mk)(d:b'<=b):Bs b' H n v mk:=let⟨a,c,I,W,h3⟩:=h;⟨a,c,I,W,h3.le d⟩
def Wnt(A:At)(w:Ed->Prop)(H:R)(d:D):Prop:=∀Q s e,Ext H Q->Wf Q->e∈A.rg s->qh Pg X (Ou d) [dP ⟨[B e.1,B e.2.1,B e.2.2]⟩] Q (Qe (λv _=>∃b:Bool,v=aR b/\(b=F<->w e)) Q)
def YL(d:mu mk nx<=8000):J nx<=1000000:=by unfold mu at d;omega
theorem PZ(hw:Wf H)(h:vI ay H A q)(ho:A.Ok)(hf:jJ ay 3 H fa (J fl) 1<|gq fl)(a9:∀s∈fl,s<A.ns)(bh:J fl<=1000000){wv:D}(bd:Wnt A w H wv):
 bQ Pg X 79 [q.v A,u fa (J fl) fc,wv] H (Qe (λv Q=>∃mk,Bs H.bU Q A.ns v mk/\∀s,on mk s<->A.Rc (·∈fl) w s) H):=by
 have G:=h_ hw;have a7:=ho.big;refine lq [0,1,2,3,6,7,8,9,11,12,14,19,20,21,47,48,49] ?_;refine G.box O λH1 E G=>?_;rw[lN]at G;refine G.uL 0 O (by show 0+6<=6;omega) ?_;refine dD (vU G.wf q A) ?_;rintro v H2 ⟨rfl,M⟩;have G:=G.call M;refine G.mkS (ax _) N λH3 dm G=>?_;rw[mK]at G;refine G.jP λH4 V G=>?_;refine G.lJ ?_;refine G.kE λHn G=>G.jP λH5 W G=>?_;have G:SH [] H H5 ([(W,22,[u T 0 0]),(V,34,[u (Z ⟨dm,0,T⟩) A.ns A.ns]),(dm,4,aY A.ns<|aR aA),(E,27,q.cells A)]):=G;have G:=G.perm (L':=[(V,34,[u (Z ⟨dm,0,T⟩) A.ns A.ns]),(W,22,[u T 0 0]),(dm,4,aY A.ns<|aR aA),(E,27,q.cells A)])<|gX _ _ _;have hM:Ms V W dm A.ns (aY A.ns aA) [] [(V,34,[u (Z ⟨dm,0,T⟩) A.ns A.ns]),(W,22,[u T 0 0]),(dm,4,aY A.ns<|aR aA)]:=⟨u T 0 0,[],gD,GB.nil _ _,gD⟩;have y:mu (aY A.ns aA) []<=8000:=by unfold mu;rw[Rk];show 2*A.ns+0<=8000;omega
 have an:∀{s:Nat}{mk:C Bool}{nx:C Nat}{hx L:C eB}{Q:R}{P:Nat->Prop}{K:D->R->Prop},s<A.ns->Ms V W dm A.ns mk nx hx->SH [] H Q (hx++L)->MJ A.ns (A.Rc (·∈fl) w) P mk nx->mu mk nx<=8000->A.Rc (·∈fl) w s->
  (∀v H2 mk' nx' M',Ms V W dm A.ns mk' nx' M'->SH [] H H2 (M'++L)->MJ A.ns (A.Rc (·∈fl) w) P mk' nx'->on mk' s->(∀t,on mk t->on mk' t)->mu mk' nx'<=mu mk nx->K v H2)->
  qh Pg X (Ou<|.func (.func 112) ⟨[]⟩ ⟨[pt V,pt W]⟩) [B s] Q K:=by
  intro s mk nx hx L Q P K hs hM G Y y hq kk;show bQ Pg X 112 [B s,pt V,pt W] Q K;refine dD (aaq hM G hs<|YL y) ?_;rintro v H2 ⟨mk',nx',M',a3,a5,hk⟩;have⟨a,b,c,d⟩:=hk.mj Y hq;exact kk v H2 mk' nx' M' a3 a5 a b c d
 refine lp2 11 21 (h1:=λm je yu Q=>∃i mk nx hx,yu=B i/\i+m=J fl/\Ms V W dm A.ns mk nx hx/\SH [] H Q (hx++[(E,27,q.cells A)])/\MJ A.ns (A.Rc (·∈fl) w) (λ_=>False) mk nx/\mu mk nx<=8000/\∀j s,j<i->fl[j]?=Z s->on mk s) ?_ (J fl) ⟨0,_,_,_,rfl,N,hM,G,MJ.nil _ _,y,λj s hj=>N⟩;clear G hM y M;rintro m je yu oW H6 ⟨i,mk,nx,hx,rfl,ba,hM,G,Y,y,hb⟩;refine tQ (λhc=>?_) λhc=>?_
 .have hi:i<J fl:=N;have aE:fl[i]?=Z fl[i]:=av hi;refine(hf.ex G.ext).ix hi (jX _ aE) λp=>an (a9 _<|bH hi) hM G Y y (.base _<|bH hi) λv H7 mk' nx' M' hM G Y bb am a0=>?_;refine eG ?_;refine⟨J fl-(i+1),N,_,_,_,_,O,i+1,mk',nx',M',pJ,N,hM,G,Y,N,λj s hj hs=>?_⟩;rcases dH j i with I|I
  .exact am _<|hb j s I hs
  .obtain rfl:j=i:=N;rw[aE]at hs;cases hs;exact bb
 have g:∀s,s∈fl->on mk s:=λs hs=>by
  have⟨j,hj,e⟩:=kQ.1 hs;exact hb j s N (by rw[<-e];exact av hj)
 clear hb hc ba;refine tl ?_;refine Yt 12 14 47 48 49 (h1:=λm mP vH be bf OA Q=>∃mk nx hx P,Ms V W dm A.ns mk nx hx/\SH [] H Q (hx++[(E,27,q.cells A)])/\MJ A.ns (A.Rc (·∈fl) w) P mk nx/\mu mk nx<=8000/\mu mk nx=m/\(∀s,s∈fl->on mk s)/\∀s e,P s->e∈A.rg s->w e->on mk e.2.2) ?_ (mu mk nx) ⟨mk,nx,hx,_,hM,G,Y,y,rfl,g,λs e h=>h.elim⟩;clear G hM Y y g;rintro m mP vH be bf OA oW H6 ⟨mk,nx,hx,P,hM,G,Y,y,rfl,g,Wu⟩;have bg:=hM;obtain⟨nv,gb,rfl,hg,hl⟩:=hM;have G:SH [] H H6 ((V,34,[u (Z ⟨dm,0,T⟩) A.ns A.ns])::(W,22,[nv])::(dm,4,bools mk)::(gb++[(E,27,q.cells A)])):=G;refine tm ?_;rcases hg with⟨rfl,hn,rfl⟩|⟨r,n,eY,rfl,hn,rfl⟩
 .obtain rfl:nx=[]:=nZ hn;refine bM ?_;refine aW (λhc=>N) λ_=>?_;refine tl ?_;refine G.qF<|rr ?_;refine⟨⟨mk,⟨_,_,O,hl,jJ.one G (aV (i:=2) O) (nZ hl)<|G.yV<|aV (i:=2) O⟩,A.YK Y Wu g⟩,G.ext⟩
 have hn:J nx=n:=nZ hn;subst hn;refine MO (λhc=>?_) λhc=>?_
 .have:nx=[]:=eU.1 N;subst this;refine tl ?_;refine G.qF<|rr ?_;refine⟨⟨mk,⟨_,_,O,hl,jJ.one G (aV (i:=2) O) (nZ hl)<|G.yV<|aV (i:=2) O⟩,A.YK Y Wu g⟩,G.ext⟩
 obtain⟨U,cur,rfl⟩:∃a b,nx=a++[b]:=⟨nx.dropLast,nx.getLast (λe=>by subst e;simp at hc),(oJ _).symm⟩;have ao:J (U++[cur])=J U+1:=gD;rw[ao]at G;simp only[bV,bZ]at G;have a1:=YL y;rw[ao]at a1;refine fJ ?_;refine q_ ?_;rw[show((J U+1:Nat):Int)-1=(J U:Nat) by omega];refine G.ix (v:=B cur) N gD λp=>?_;refine fJ ?_;refine q_ ?_;rw[show((J U+1:Nat):Int)-1=(J U:Nat) by omega];refine dA (BV N)<|G.kE λHn G=>?_;apply G.qF;have KX:cur<A.ns:=by have:=ain<|Y.nxo cur gD;rw[Y.len]at this;exact this
 have G:SH [] H _ ((V,34,[u (Z ⟨dm,0,T⟩) A.ns A.ns])::(W,22,[u (Z ⟨r,0,T⟩) (J U) (gQ 1)])::(dm,4,bools mk)::([(r,3,gq (U++[cur])++eY)]++[(E,27,q.cells A)])):=G;have al:=Y.pop;have Wv:=adN mk U cur;have hM:Ms V W dm A.ns mk U ((V,34,[u (Z ⟨dm,0,T⟩) A.ns A.ns])::(W,22,[u (Z ⟨r,0,T⟩) (J U) (gQ 1)])::(dm,4,bools mk)::[(r,3,gq (U++[cur])++eY)]):=⟨_,_,O,.inr ⟨r,_,B cur::eY,O,gD,gD⟩,hl⟩;refine h.ldE G.ext KX λp ea ec hE=>?_;refine bM ?_;have G:SH [] H _ (((V,34,[u (Z ⟨dm,0,T⟩) A.ns A.ns])::(W,22,[u (Z ⟨r,0,T⟩) (J U) (gQ 1)])::(dm,4,bools mk)::[(r,3,gq (U++[cur])++eY)])++[(E,27,q.cells A)]):=G;have bc:=Y.snd cur<|Y.nxo cur gD;refine lp2 14 49 (h1:=λm vH OA Q=>∃k mk' nx' hx,OA=B k/\k+m=J (A.rg cur)/\Ms V W dm A.ns mk' nx' hx/\SH [] H Q (hx++[(E,27,q.cells A)])/\MJ A.ns (A.Rc (·∈fl) w) (λt=>P t\/t=cur) mk' nx'/\mu mk' nx'<=mu mk U/\(∀t,on mk t->on mk' t)/\∀j e,j<k->(A.rg cur)[j]?=Z e->w e->on mk' e.2.2) ?_ (J<|A.rg cur) ⟨0,mk,U,_,rfl,N,hM,G,al,ax _,λt h=>h,λj e hj=>N⟩;clear G hM al;rintro m' bj bl OJ H7 ⟨k,mk',nx',hx,rfl,bi,hM,G,al,a0,am,ab⟩;refine lX (λa8=>?_) λa8=>?_
 .refine⟨mu mk' nx',N,_,_,_,_,_,_,_,O,mk',nx',hx,_,hM,G,al,N,O,λs hs=>am s<|g s hs,λs e hs he Ww=>?_⟩;rcases hs with hs|rfl
  .exact am _<|Wu s e hs he Ww
  .have⟨j,hj,e1⟩:=kQ.1 he;exact ab j e N (by rw[<-e1];exact av hj) Ww
 have hk:k<J (A.rg cur):=N;refine KV (hE.ex G.ext) hk λp=>?_;have ac:=bH hk;have YC:=ho.len cur;have⟨g1,g2,g3⟩:=ho.e cur KX _ ac;have aq:(A.rg cur)[k]?=Z (A.rg cur)[k]:=av hk;generalize hee:(A.rg cur)[k]=e at g1 g2 g3 aq ac|-;refine G.ns O O O λH8 re G BK=>?_;have G:SH [] H H8 ([(re,121,[B e.1,B e.2.1,B e.2.2])]++(hx++[(E,27,q.cells A)])):=G;refine G.uL 0 O (ax 3) ?_;refine qh.mono (bd H8 cur e G.ext G.wf ac) ?_;rintro v H9 ⟨⟨b,rfl,ar⟩,Kt⟩;have G:=G.call Kt;refine sD (λap=>?_) λap=>?_
 .refine G.ld 0 (o:=2) O O<|an g1 hM (G.perm<|jw [_] hx [_]) al N (.step cur e bc ac<|ar.1 ap) λv CF JG Rq M2 a4 a6 a2 Wx GD Wv=>?_;refine eG ?_;refine⟨J (A.rg cur)-(k+1),N,_,_,_,_,O,k+1,JG,Rq,M2,pJ,N,a4,?_,a2,N,λt ht=>GD t<|am t ht,λj e' hj ad Ww=>?_⟩
  .have:=a6.perm (jw M2 [(re,121,[B e.1,B e.2.1,B e.2.2])] [(E,27,q.cells A)]);exact fU (A:=[_]) this
  .rcases dH j k with I|I
   .exact GD _<|ab j e' I ad Ww
   .obtain rfl:j=k:=N;rw[aq]at ad;cases ad;exact Wx
 .refine eG ?_;refine⟨J (A.rg cur)-(k+1),N,_,_,_,_,O,k+1,mk',nx',hx,pJ,N,hM,fU (A:=[_]) G,al,N,am,λj e' hj ad Ww=>?_⟩;rcases dH j k with I|I
  .exact ab j e' I ad Ww
  .obtain rfl:j=k:=N;rw[aq]at ad;cases ad;exact absurd (ar.2 Ww) (by rw[ap];simp)
end
section
variable{S:C Nat}{ay:Nat->Prop}{P:Nat->Prop}{nx:C Nat}
def UQ:C (Nat×Ed)->C D
 |[]=>[]
 |p::l=>B p.1::B p.2.1::B p.2.2.1::B p.2.2.2::UQ l
def Rt:∀l,J (UQ l)=J l*4
 |[]=>rfl
 |e::l=>by
  have:=Rt l;simp only[UQ,cO];omega
def YM:∀l l',UQ (l++l')=UQ l++UQ l'
 |[],l'=>rfl
 |e::l,l'=>by simp only[bV,UQ,YM l l']
def adQ:∀{l:C (Nat×Ed)}{i:Nat}{p:Nat×Ed},l[i]?=Z p->El (UQ l) 4 i=[B p.1,B p.2.1,B p.2.2.1,B p.2.2.2]
 |[],i,e,h=>by simp at h
 |x::l,0,e,h=>by
  simp at h;subst h;simp[El,UQ]
 |x::l,i+1,e,h=>by
  have:=adQ (l:=l) (i:=i)<|nZ h;rw[<-this];unfold El;rw[show(i+1)*4=i*4+4 by omega];rfl
section steps
variable{v:D}
def _root_.Go.Ae.SH.R8(G:SH S H0 H L)[d:BX L r ty f](hk:k<n)(g:f[k]?=Z v)(kk:K (bG<|Z ⟨r,k,T⟩) v<|hN H):
 PU (B_ 1 (u (Z ⟨r,0,T⟩) n c)<|B k) λp=>ME (wR T p<|hN H) (K p):=by
 have⟨i,hi⟩:=d.at';refine dA (Ih hk) ?_;rw[bB];exact G.Ov i hi g kk
def _root_.Go.Ae.jJ.R8(h:jJ ay ty H a n 1 f)(hk:k<n)(d:f[k]?=Z v)(kk:∀r o,K (bG<|Z ⟨r,o,T⟩) v<|hN H):
 PU (B_ 1 (u a n c)<|B k) λp=>ME (wR T p<|hN H) (K p):=by
 have⟨r,o,I,W,h3,_⟩:=h.1.idx (c:=c) (dI 0) hk;refine dA I<|iY (H:=hN H) ?_<|kk _ _;have:=h3 0 v (dI 0) (by rw[dN,d_];exact d);exact this
def vI.ajI(h:vI ay H A q)(ho:A.Ok)(hk:k<A.nr)(kk:∀r o,K (bG<|Z ⟨r,o,T⟩) (B<|A.S k)<|hN H):PU (B_ 1 (u q.sa A.nr q.sc)<|B k) λp=>ME (wR T p<|hN H) (K p):=h.s.R8 hk (A_ (by rw[ho.YF];exact hk)) kk
def amq(h:jJ ay 209 H a (J l) 4<|UQ l)(hk:k<J l)(kk:∀p,K p (dP ⟨[B l[k].1,B l[k].2.1,B l[k].2.2.1,B l[k].2.2.2]⟩) H):PU (B_ 4 (u a (J l) c)<|B k) λp=>ME (wR (Z 4) p H) (K p):=
 h.Yb N hk (adQ<|av hk) kk
end steps
def amr(A:At)(tok:Bool)(t:Nat)(l:C<|Nat×Ed):Prop:=(∀p∈l,p.2∈A.rg p.1/\p.2.2.2=t/\At.YJ tok p.2)/\∀s e,e∈A.rg s->At.YJ tok e->e.2.2=t->(s,e)∈l
def ams(A:At)(r:Nat)(l:C<|Nat×Ed):Prop:=(∀p∈l,p.2∈A.rg p.1/\p.2.1=2/\p.2.2.1=r)/\∀s e,e∈A.rg s->e.1=2->e.2.1=r->(s,e)∈l
def BkM(d:Nat->C (Nat×Ed)->Prop)(H:R)(n:Nat)(a:aC Addr):Prop:=∃vs,jJ (λ_=>True) 207 H a n 1 vs/\∀t,t<n->∃b c l,vs[t]?=Z (u b (J l) c)/\jJ (λ_=>True) 209 H b (J l) 4 (UQ l)/\d t l/\J l<=1000000000
def BkM.ld{d:Nat->C (Nat×Ed)->Prop}{a:aC Addr}{t c:Nat}{Q:R}{K:D->D->R->Prop}(h:BkM d H n a)(M:Ext H Q)(ht:t<n)(kk:∀p b c l,jJ (λ_=>True) 209 H b (J l) 4 (UQ l)->d t l->J l<=1000000000->K p (u b (J l) c) Q):PU (B_ 1 (u a n c)<|B t) λp=>ME (wR T p Q) (K p):=by
 have⟨vs,I,W⟩:=h;have⟨b,c,l,h3,h4,h5,h6⟩:=W t ht;exact(I.ex M).ix ht h3 λp=>kk p b c l h4 h5 h6
def agy{tok:Bool}{ic cc:Nat}(hw:Wf H)(h:vI ay H A q)(ho:A.Ok)(hg:Bk H E 27<|q.cells A)(bg:E<H.bU)(hI:BkM (amr A tok) H A.ns ia)(hC:BkM (ams A) H A.nr ca){x4 x7 x8 j_ je mP ko mM rP Bc xC yu a8 a9 bb Cb bd be cu cw bh an Gh Cx ac ad U:D}{oW:C (Nat×D)}:
 iG Pg X (sub qR [1,1,1,1]) (nG (q.v A) (aR tok) (pt E) x4 (u ia A.ns ic) (u ca A.nr cc) x7 x8 j_ je mP ko mM rP Bc xC yu a8 a9 bb Cb bd be cu cw bh an Gh Cx ac ad U oW H)
  (jZ Pg [.tmp 4]<|Qe (λv Q=>∃mk,Bs H.bU Q A.ns v mk/\∀s,on mk s<->A.Mk tok s) H):=by
 have G:=h_ hw;have b7:=ho.big;have JF:=ho.few;refine tl<|ME.uL (vs:=q.cells A) (hg.read (by show 0+6<=6;omega)) ?_;refine dD (vU G.wf q A) ?_;rintro v H2 ⟨rfl,M⟩;have G:=G.call M;refine G.mkS (ax _) N λH3 dm G=>?_;rw[mK]at G;refine G.jP λH4 V G=>?_;refine G.lJ ?_;refine G.kE λHn G=>G.jP λH5 Y G=>G.CO (hg.cell (o:=2) O) bg ?_;refine bM ?_;have G:SH [] H H5 ([(Y,22,[u T 0 0]),(V,34,[u (Z ⟨dm,0,T⟩) A.ns A.ns]),(dm,4,aY A.ns<|aR aA)]):=G;have G:=G.perm (L':=[(V,34,[u (Z ⟨dm,0,T⟩) A.ns A.ns]),(Y,22,[u T 0 0]),(dm,4,aY A.ns<|aR aA)])<|gX _ _ _;have hM:Ms V Y dm A.ns (aY A.ns aA) [] [(V,34,[u (Z ⟨dm,0,T⟩) A.ns A.ns]),(Y,22,[u T 0 0]),(dm,4,aY A.ns<|aR aA)]:=⟨u T 0 0,[],gD,GB.nil _ _,gD⟩;have ao:mu (aY A.ns aA) []<=8000:=by unfold mu;rw[Rk];show 2*A.ns+0<=8000;omega
 have ap:∀{s:Nat}{mk:C Bool}{nx:C Nat}{hx L:C eB}{Q:R}{P:Nat->Prop}{K:D->R->Prop},s<A.ns->Ms V Y dm A.ns mk nx hx->SH [] H Q (hx++L)->MJ A.ns (A.Mk tok) P mk nx->mu mk nx<=8000->A.Mk tok s->
  (∀v H2 mk' nx' M',Ms V Y dm A.ns mk' nx' M'->SH [] H H2 (M'++L)->MJ A.ns (A.Mk tok) P mk' nx'->on mk' s->(∀t,on mk t->on mk' t)->mu mk' nx'<=mu mk nx->K v H2)->
  qh Pg X (Ou<|.func (.func 111) ⟨[]⟩ ⟨[pt V,pt Y]⟩) [B s] Q K:=by
  intro s mk nx hx L Q P K hs hM G hJ ao hq kk;show bQ Pg X 111 [B s,pt V,pt Y] Q K;refine dD (Jz hM G hs<|YL ao) ?_;rintro v H2 ⟨mk',nx',M',b3,b5,hk⟩;have⟨a,b,c,d⟩:=hk.mj hJ hq;exact kk v H2 mk' nx' M' b3 b5 a b c d
 refine lp2 15 90 (h1:=λm mM bh Q=>∃i mk nx hx,bh=B i/\i+m=A.nr/\Ms V Y dm A.ns mk nx hx/\SH [] H Q (hx++[])/\MJ A.ns (A.Mk tok) (λ_=>False) mk nx/\mu mk nx<=8000/\∀j,j<i->on mk (A.P j)) ?_ A.nr ⟨0,_,_,_,rfl,N,hM,G,MJ.nil _ _,ao,λj hj=>N⟩;clear G hM ao M;rintro m mM bh oW H6 ⟨i,mk,nx,hx,rfl,ci,hM,G,hJ,ao,hb⟩;refine tQ (λhc=>?_) λhc=>?_
 .have hi:i<A.nr:=N;refine(h.ex G.ext).ldP ho hi λp=>ap (ho.p i hi).1 hM G hJ ao (.stop i hi) λv H7 mk' nx' M' hM G hJ cm aE bi=>?_;refine eG ?_;refine⟨A.nr-(i+1),N,_,_,_,_,O,i+1,mk',nx',M',pJ,N,hM,G,hJ,N,λj hj=>?_⟩;rcases dH j i with I|I
  .exact aE _<|hb j I
  .obtain rfl:j=i:=N;exact cm
 have ab:∀r,r<A.nr->on mk (A.P r):=λr hr=>hb r N;clear hb hc ci;refine tl ?_;refine ajl 16 18 19 21 115 116 117 157 158 159 (h1:=λm rP Bc xC yu an Gh Cx ac ad U Q=>∃mk nx hx P,Ms V Y dm A.ns mk nx hx/\SH [] H Q (hx++[])/\MJ A.ns (A.Mk tok) P mk nx/\mu mk nx<=8000/\mu mk nx=m/\(∀r,r<A.nr->on mk (A.P r))/\A.Clo tok P mk) ?_ (mu mk nx) ⟨mk,nx,hx,_,hM,G,hJ,ao,rfl,ab,λs e _ _ h=>h.elim⟩;clear G hM hJ ao ab;rintro m rP Bc xC yu an Gh Cx ac ad U oW H6 ⟨mk,nx,hx,P,hM,G,hJ,ao,rfl,ab,Wu⟩;obtain⟨nv,gb,rfl,cg,hl⟩:=hM;have G:SH [] H H6 ((V,34,[u (Z ⟨dm,0,T⟩) A.ns A.ns])::(Y,22,[nv])::(dm,4,bools mk)::(gb++[])):=G;refine tm ?_
 have bj:nx=[]->∀oW,iG Pg X (sub qR [1,1,1,1,1,1,1,1,1]) (nG (q.v A) (aR tok) (pt E) x4 (u ia A.ns ic) (u ca A.nr cc) x7 x8 j_ (pt V) (pt Y) (.func (.func 111) ⟨[]⟩ ⟨[pt V,pt Y]⟩) mM rP Bc xC yu a8 a9 bb Cb bd be (u q.pa A.nr q.pc) (B A.nr) (B i) an Gh Cx ac ad U oW H6)
  (jZ Pg [.tmp 4]<|Qe (λv Q=>∃mk,Bs H.bU Q A.ns v mk/\∀s,on mk s<->A.Mk tok s) H):=by
  intro hn oW;subst hn;refine tl ?_;refine G.qF<|rr ?_;exact⟨⟨mk,⟨_,_,O,hl,jJ.one G (aV (i:=2) O) (nZ hl)<|G.yV<|aV (i:=2) O⟩,At.agx ho hJ Wu ab⟩,G.ext⟩
 rcases cg with⟨rfl,hn,rfl⟩|⟨r,n,eY,rfl,hn,rfl⟩
 .obtain rfl:nx=[]:=nZ hn;refine bM ?_;refine aW (λhc=>N) λ_=>?_;exact bj O _
 have hn:J nx=n:=nZ hn;subst hn;refine MO (λhc=>?_) λhc=>?_
 .exact bj (eU.1 N) _
 clear bj;obtain⟨Bf,cur,rfl⟩:∃a b,nx=a++[b]:=⟨nx.dropLast,nx.getLast (λe=>by subst e;simp at hc),(oJ _).symm⟩;have a6:J (Bf++[cur])=J Bf+1:=gD;rw[a6]at G;simp only[bV,bZ]at G;have bz:=YL ao;rw[a6]at bz;refine fJ ?_;refine q_ ?_;rw[show((J Bf+1:Nat):Int)-1=(J Bf:Nat) by omega];refine G.ix (v:=B cur) N gD λp=>?_;refine fJ ?_;refine q_ ?_;rw[show((J Bf+1:Nat):Int)-1=(J Bf:Nat) by omega];refine dA (BV N)<|G.kE λHn G=>?_;have KX:cur<A.ns:=by have:=ain<|hJ.nxo cur gD;rw[hJ.len]at this;exact this
 have g:=hJ.pop;have Wv:=adN mk Bf cur;have hM:Ms V Y dm A.ns mk Bf ((V,34,[u (Z ⟨dm,0,T⟩) A.ns A.ns])::(Y,22,[u (Z ⟨r,0,T⟩) (J Bf) (gQ 1)])::(dm,4,bools mk)::[(r,3,gq (Bf++[cur])++eY)]):=⟨_,_,O,.inr ⟨r,_,B cur::eY,O,gD,gD⟩,hl⟩;refine hI.ld G.ext KX λp ba bc l hl hG ck=>?_;refine bM ?_;have G:SH [] H _ (((V,34,[u (Z ⟨dm,0,T⟩) A.ns A.ns])::(Y,22,[u (Z ⟨r,0,T⟩) (J Bf) (gQ 1)])::(dm,4,bools mk)::[(r,3,gq (Bf++[cur])++eY)])++[]):=G;have bm:=hJ.snd cur<|hJ.nxo cur gD;refine lp2 18 117 (h1:=λm Bc Cx Q=>∃k mk' nx' hx,Cx=B k/\k+m=J l/\Ms V Y dm A.ns mk' nx' hx/\SH [] H Q (hx++[])/\MJ A.ns (A.Mk tok) (λt=>P t\/t=cur) mk' nx'/\mu mk' nx'<=mu mk Bf/\(∀t,on mk t->on mk' t)/\∀(j:Nat)(p:Nat×Ed),j<k->l[j]?=Z p->(p.2.1=2->P (A.S p.2.2.1)\/A.S p.2.2.1=cur)->on mk' p.1) ?_ (J l) ⟨0,mk,Bf,_,rfl,N,hM,G,g,ax _,λt h=>h,λj e hj=>N⟩;clear G hM g;rintro m' bn cC OJ H7 ⟨k,mk',nx',hx,rfl,bv,hM,G,g,bi,aE,y⟩;refine tQ (λbf=>?_) λbf=>?_
 .have hk:k<J l:=N;refine amq (hl.ex G.ext) hk λp=>?_;have al:=bH hk;have a0:l[k]?=Z l[k]:=av hk;have⟨g1,g2,g3⟩:=hG.1 _ al;generalize hee:l[k]=pe at g1 g2 g3 a0 al|-;have⟨s,e⟩:=pe;replace g1:e∈A.rg s:=g1;replace g2:e.2.2=cur:=g2;replace g3:At.YJ tok e:=g3;have a7:=ho.lt g1;refine G.ns O O O λH8 re G BK=>?_;have G:SH [] H H8 ((re,209,[B s,B e.1,B e.2.1,B e.2.2])::(hx++[])):=G
  have zZ:∀bn JG Rq M2 BH H9,Ms V Y dm A.ns JG Rq M2->SH [] H H9 (M2++[])->MJ A.ns (A.Mk tok) (λt=>P t\/t=cur) JG Rq->mu JG Rq<=mu mk' nx'->(∀t,on mk' t->on JG t)->((e.1=2->P (A.S e.2.1)\/A.S e.2.1=cur)->on JG s)->
   iG Pg X (sub qR [1,1,1,1,1,1,1,1,0,0,0,1,0,1,1,0,1,0,0,1,1,1]) (nG (q.v A) (aR tok) (pt E) x4 (u ia A.ns ic) (u ca A.nr cc) x7 x8 j_ (pt V) (pt Y) (.func (.func 111) ⟨[]⟩ ⟨[pt V,pt Y]⟩) mM (B cur) bn xC yu a8 a9 bb Cb bd be (u q.pa A.nr q.pc) (B A.nr) (B i) (u ba (J l) bc) (B<|J l) (B k) ac ad U BH H9)
    (IW (xE (q.v A) (aR tok) (pt E) x4 (u ia A.ns ic) (u ca A.nr cc) x7 x8 j_ (pt V) (pt Y) (.func (.func 111) ⟨[]⟩ ⟨[pt V,pt Y]⟩) mM (B cur) xC yu a8 a9 bb Cb bd be (u q.pa A.nr q.pc) (B A.nr) (B i) (u ba (J l) bc) (B<|J l) ac ad U λm Bc Cx Q=>∃k mk' nx' hx,Cx=B k/\k+m=J l/\Ms V Y dm A.ns mk' nx' hx/\SH [] H Q (hx++[])/\MJ A.ns (A.Mk tok) (λt=>P t\/t=cur) mk' nx'/\mu mk' nx'<=mu mk Bf/\(∀t,on mk t->on mk' t)/\∀(j:Nat)(p:Nat×Ed),j<k->l[j]?=Z p->(p.2.1=2->P (A.S p.2.2.1)\/A.S p.2.2.1=cur)->on mk' p.1) m'<|uB 8<|uW Pg X (sub qR [1,1,1,1,1,1,1,1,0,0,0,1,0,1,1,1])<|uB 7<|IW (AU (q.v A) (aR tok) (pt E) x4 (u ia A.ns ic) (u ca A.nr cc) x7 x8 j_ (pt V) (pt Y) (.func (.func 111) ⟨[]⟩ ⟨[pt V,pt Y]⟩) mM a8 a9 bb Cb bd be (u q.pa A.nr q.pc) (B A.nr) (B i) λm rP Bc xC yu an Gh Cx ac ad U Q=>∃mk nx hx P,Ms V Y dm A.ns mk nx hx/\SH [] H Q (hx++[])/\MJ A.ns (A.Mk tok) P mk nx/\mu mk nx<=8000/\mu mk nx=m/\(∀r,r<A.nr->on mk (A.P r))/\A.Clo tok P mk) (mu mk<|Bf++[cur])<|uB 6<|uW Pg X (sub qR [1,1,1,1,1,1,1,1,1])<|jZ Pg [.tmp 4]<|Qe (λv Q=>∃mk,Bs H.bU Q A.ns v mk/\∀s,on mk s<->A.Mk tok s) H):=by
   intro bn JG Rq M2 BH H9 a3 a4 a1 Wv GD Wx;refine tl ?_;refine eG ?_;refine⟨J l-(k+1),N,_,_,_,_,O,k+1,JG,Rq,M2,pJ,N,a3,a4,a1,N,λt ht=>GD t<|aE t ht,λj p' hj am Ww=>?_⟩;rcases dH j k with I|I
   .exact GD _<|y j p' I am Ww
   .obtain rfl:j=k:=N;rw[a0]at am;cases am;exact Wx Ww
  refine Ow (λa5=>?_) λa5=>?_
  .refine acs ?_;refine tm ?_;refine ap a7 hM (G.perm<|jw [_] hx []) g N (.edge s e g1 g3 (λW=>absurd N a5) (by rw[g2];exact bm)) λv CF JG Rq M2 a3 a4 a1 Wx GD Wv=>?_;exact zZ _ JG Rq M2 _ _ a3 (fU (A:=[_])<|a4.perm<|jw M2 [_] []) a1 Wv GD λ_=>Wx
  .have br:e.1=2:=N;have bp:=ho.call g1 br;have a2:=hM;have b6:=ho.s _ bp;obtain⟨bx,iN,rfl,bl,cj⟩:=hM;simp only[bV]at G;refine fJ ?_;refine G.Jq (hg.cell (o:=1) O) bg ?_;refine fJ ?_;refine vI.ajI (h.ex G.ext) ho bp λr1 o1=>?_;refine G.lJ ?_;obtain⟨b,aq⟩:∃b,mk'[A.S e.2.1]?=Z b:=⟨_,av N⟩;refine G.R8 b6.1 (jX _ aq)<|fJ ?_;refine al5 (λar=>?_) λar=>?_
   .refine G.qF<|ap a7 a2 (G.perm<|jw [_] (_::_::_::iN) []) g N (.edge s e g1 g3 (λW=>g.snd _ (by unfold on;rw[aq,ar])) (by rw[g2];exact bm)) λv CF JG Rq M2 a3 a4 a1 Wx GD Wv=>?_;exact zZ _ JG Rq M2 _ _ a3 (fU (A:=[_])<|a4.perm<|jw M2 [_] []) a1 Wv GD λ_=>Wx
   .refine zZ _ mk' nx' _ _ _ a2 (fU (A:=[_]) G) g (ax _) (λt h=>h) λW=>?_;have:=g.pon _<|W br;unfold on at this;rw[aq]at this;cases this;cases ar
 have bt:∀s e,e∈A.rg s->At.YJ tok e->e.2.2=cur->(e.1=2->P (A.S e.2.1)\/A.S e.2.1=cur)->on mk' s:=λs e he hk ht b8=>by
  have⟨j,hj,e1⟩:=kQ.1<|hG.2 s e he hk ht;exact y j (s,e) N (by rw[<-e1];exact av hj) b8
 clear y bf bv hl hG;refine tp ?_;refine G.CO (hg.cell (o:=3) O) bg<|(h.ex G.ext).CO KX λp=>G.CO (hg.cell (o:=1) O) bg<|(h.ex G.ext).ldS ho (ho.o cur KX) λp=>?_;refine MO (λa5=>?_) λa5=>?_
 .refine⟨mu mk' nx',N,_,_,_,_,_,_,_,_,_,_,_,_,O,mk',nx',hx,_,hM,G,g,N,O,λr hr=>aE _<|ab r hr,Wu.step aE bt λs e he W hs _=>?_⟩;have:=(ho.s _<|ho.call he W).2;rw[hs]at this;exact absurd (by rw[this,hs]) a5
 have b0:A.S (A.aj cur)=cur:=N;refine hC.ld G.ext (ho.o cur KX) λp ba bc l hl hG ck=>?_;refine bM ?_;refine lp2 21 159 (h1:=λm yu U Q=>∃k JG Rq hx,U=B k/\k+m=J l/\Ms V Y dm A.ns JG Rq hx/\SH [] H Q (hx++[])/\MJ A.ns (A.Mk tok) (λt=>P t\/t=cur) JG Rq/\mu JG Rq<=mu mk Bf/\(∀t,on mk' t->on JG t)/\∀(j:Nat)(p:Nat×Ed),j<k->l[j]?=Z p->(P p.2.2.2\/p.2.2.2=cur)->on JG p.1) ?_ (J l) ⟨0,mk',nx',hx,rfl,N,hM,G,g,N,λt h=>h,λj e hj=>N⟩;clear G hM g bi;rintro m' cD cy OJ H7 ⟨k,JG,Rq,hx,rfl,bv,hM,G,g,bi,GD,y⟩;refine lX (λbf=>?_) λbf=>?_
 .refine⟨mu JG Rq,N,_,_,_,_,_,_,_,_,_,_,_,_,O,JG,Rq,hx,_,hM,G,g,N,O,λr hr=>GD _<|aE _<|ab r hr,Wu.step (λt ht=>GD t<|aE t ht) (λs e I W h3 h4=>GD _<|bt s e I W h3 h4) λs e he W hs ht=>?_⟩;have bw:=(ho.s _<|ho.call he W).2;rw[hs]at bw;have⟨j,hj,e1⟩:=kQ.1<|hG.2 s e he W bw.symm;exact y j (s,e) N (by rw[<-e1];exact av hj) ht
 have hk:k<J l:=N;refine amq (hl.ex G.ext) hk λp=>?_;have al:=bH hk;have a0:l[k]?=Z l[k]:=av hk;have⟨g1,g2,g3⟩:=hG.1 _ al;generalize hee:l[k]=pe at g1 g2 g3 a0 al|-;have⟨s,e⟩:=pe;replace g1:e∈A.rg s:=g1;replace g2:e.1=2:=g2;replace g3:e.2.1=A.aj cur:=g3;have a7:=ho.lt g1;have b9:=(ho.e s a7 e g1).1;refine G.ns O O O λH8 re G BK=>?_;have a2:=hM;obtain⟨bx,iN,rfl,bl,cj⟩:=hM;have G:SH [] H H8 ((re,209,[B s,B e.1,B e.2.1,B e.2.2])::(V,34,[u (Z ⟨dm,0,T⟩) A.ns A.ns])::(Y,22,[bx])::(dm,4,bools JG)::(iN++[])):=G;refine fJ ?_;obtain⟨b,aq⟩:∃b,JG[e.2.2]?=Z b:=⟨_,av N⟩;refine G.ix b9 (jX _ aq) λp=>?_;refine sD (λar=>?_) λar=>?_
 .refine G.qF<|ap a7 a2 (G.perm<|jw [_] (_::_::_::iN) []) g N (.edge s e g1 (λI=>N) (λ_=>by rw[g3,b0];exact bm)<|g.snd _ (by unfold on;rw[aq,ar])) λv CF cn cq M3 b4 wD b2 b1 bo cA=>?_;refine eG ?_;refine⟨J l-(k+1),N,_,_,_,_,O,k+1,cn,cq,M3,pJ,N,b4,fU (A:=[_])<|wD.perm<|jw M3 [_] [],b2,N,λt ht=>bo t<|GD t ht,λj p' hj am Ww=>?_⟩;rcases dH j k with I|I
  .exact bo _<|y j p' I am Ww
  .obtain rfl:j=k:=N;rw[a0]at am;cases am;exact b1
 .refine eG ?_;refine⟨J l-(k+1),N,_,_,_,_,O,k+1,JG,Rq,_,pJ,N,a2,fU (A:=[_]) G,g,N,GD,λj p' hj am Ww=>?_⟩;rcases dH j k with I|I
  .exact y j p' I am Ww
  .obtain rfl:j=k:=N;rw[a0]at am;cases am;have:=g.pon _ Ww;unfold on at this;rw[show((s,e):Nat×Ed).2.2.2=e.2.2 from O,aq]at this;cases this;cases ar
end
section
variable{S:C Nat}{ay:Nat->Prop}{P:Nat->Prop}{nx:C Nat}
structure KD(A:At)(ok:Ed->Prop)(key:Ed->Nat)(ag:Nat->Ed->Prop)(c:Nat)(b:C<|C<|Nat×Ed):Prop where
 snd:∀(t:Nat) l,b[t]?=Z l->∀p∈l,p.2∈A.rg p.1/\key p.2=t/\ok p.2
 cpl:∀s e l,ag s e->ok e->b[key e]?=Z l->(s,e)∈l
 len:∀l∈b,J l<=c
section kd
variable{b:C (C<|Nat×Ed)}
def KD.nil(n:Nat):KD A ok key (λ_ _=>False) 0 (aY n []):=by
 refine⟨λt l h p d=>?_,λs e l h=>h.elim,λl h=>?_⟩
 .have:=aV h;rw[List.mem_replicate]at this;rw[this.2]at d;cases d
 .rw[List.mem_replicate]at h;rw[h.2];exact ax _
def KD.wk(h:KD A ok key ag c b)(hd:∀s e,D' s e->ag s e)(d:c<=c'):KD A ok key D' c' b:=⟨h.snd,λs e l g=>h.cpl s e l<|hd s e g,λl g=>aQ (h.len l g) d⟩
def KD.add(h:KD A ok key ag c b)(N:e∈A.rg s)(hk:ok e)(hl:b[key e]?=Z l):KD A ok key (λs' e'=>ag s' e'\/(s'=s/\e'=e)) (c+1) (b.set (key e)<|l++[(s,e)]):=by
 have B:=(bI.1 hl).1;refine⟨λt M d p hp=>?_,λs' e' M g y d=>?_,λM d=>?_⟩
 .rw[dU]at d
  by_cases ht:key e=t
  .rw[if_pos ht,if_pos B]at d;cases d;rcases cK.1 hp with hp|hp
   .rw[<-ht];exact h.snd _ l hl p hp
   .rw[aT]at hp;subst hp;exact⟨N,ht,hk⟩
  .rw[if_neg ht]at d;exact h.snd t M d p hp
 .rw[dU]at d
  by_cases ht:key e=key e'
  .rw[if_pos ht,if_pos B]at d;cases d;rcases g with g|⟨rfl,rfl⟩
   .exact dK _<|h.cpl s' e' l g y (by rw[<-ht];exact hl)
   .simp
  .rw[if_neg ht]at d;rcases g with g|⟨rfl,rfl⟩
   .exact h.cpl s' e' M g y d
   .exact absurd O ht
 .rcases iX d with I|rfl
  .have:=h.len M I;omega
  .have:=h.len l (aV hl);rw[aS];show J l+1<=c+1;omega
def KD.skip(h:KD A ok key ag c b)(hk:¬ok e):KD A ok key (λs' e'=>ag s' e'\/(s'=s/\e'=e)) (c+1) b:=by
 refine⟨h.snd,λs' e' l y d g=>?_,λB g=>rW<|h.len B g⟩;rcases y with y|⟨rfl,rfl⟩
 .exact h.cpl s' e' l y d g
 .exact absurd d hk
end kd
def Seen(A:At)(i k:Nat)(s:Nat)(e:Ed):Prop:=(s<i/\e∈A.rg s)\/(s=i/\∃j:Nat,j<k/\(A.rg i)[j]?=Z e)
def Seen.bU(g:(A.rg i)[k]?=Z e0)(h:Seen A i (k+1) s e):Seen A i k s e\/(s=i/\e=e0):=by
 rcases h with h|⟨I,j,W,d⟩
 .exact .inl<|.inl h
 .rcases dH j k with h4|h4
  .exact .inl<|.inr ⟨I,j,h4,d⟩
  .obtain rfl:j=k:=N;rw[g]at d;cases d;exact .inr ⟨I,O⟩
def Seen.all(h:Seen A (i+1) 0 s e):Seen A i (J<|A.rg i) s e:=by
 rcases h with⟨I,W⟩|⟨I,j,W,d⟩
 .rcases dH s i with h4|h4
  .exact .inl ⟨h4,W⟩
  .obtain rfl:s=i:=N;have⟨j,hj,e1⟩:=kQ.1 W;exact .inr ⟨O,j,hj,by rw[<-e1];exact av hj⟩
 .omega
def _root_.Go.Ae.SH.OM{v:D}(G:SH S H0 H L)[y:Ga L r (λf=>f.set k v) ty f L'](hk:k<n)(hl:k<J f)(N:bY v=[v]:=by rfl)(ho:fZ v=F:=by rfl)(kk:∀H1,SH S H0 (hM H H1) L'->K (bG<|Z ⟨r,k,T⟩) undef H1):
 PU (B_ 1 (u (Z ⟨r,0,T⟩) n c)<|B k) λp=>ME (Es 1 p v<|hN H) (K p):=by
 have⟨i,hi,e⟩:=y.at';refine dA (Ih hk) ?_;rw[bB];have⟨H1,I,W,M⟩:=(SH.zD G).zl (vs:=[v]) (o:=k) i hi (by show k+1<=_;omega) (by show cr (fZ v) _ _=_;rw[ho];rfl);rw[X_ hl]at W;show ME (gd (aB (len<|bY v) 1)<|aN ((Go.Ae.hN H).write r k<|bY v) λQ=>Z (undef,Q)) _;rw[N,ig,show aB [v].length 1=F from O,I];refine kk H1 ?_;rw[e]
 exact⟨pI.later G.ext M.draw (λq g=>by
  simp at g;subst g;exact(G.lo _<|aV hi).1),W.bk,λe d=>⟨(W.lo e d).1,(W.lo e d).2⟩,W.ne,M.draw.wf G.wf⟩
def Ll(ok:Ed->Prop)(key:Ed->Nat)(A:At)(ag:Nat->Ed->Prop)(c n:Nat)(vs:C D)(az:C eB):Prop:=∃b,KD A ok key ag c b/\J b=n/\IX 209 4 (b.map UQ) vs az
def Ll.wk{az:C eB}(h:Ll ok key A ag c n vs az)(hd:∀s e,D' s e->ag s e)(d:c<=c'):Ll ok key A D' c' n vs az:=let⟨b,I,W,h3⟩:=h;⟨b,I.wk hd d,W,h3⟩
def Ll.skip{az:C eB}(h:Ll ok key A ag c n vs az)(hk:¬ok e):Ll ok key A (λs' e'=>ag s' e'\/(s'=s/\e'=e)) (c+1) n vs az:=let⟨b,I,W,h3⟩:=h;⟨b,I.skip hk,W,h3⟩
def Ll.put{az y g:C eB}{rx:Nat}{K:D->R->Prop}(h:Ll ok key A ag c n vs az)(hc:c<=1000000)(he:e∈A.rg s)(hk:ok e)(hn:key e<n){v:D}(hv:vs[key e]?=Z v)(G:SH S H0 H<|(rx,209,[B s,B e.1,B e.2.1,B e.2.2])::(y++(az++g)))(kk:∀va vl vc H1 R',Ll ok key A (λs' e'=>ag s' e'\/(s'=s/\e'=e)) (c+1) n (vs.set (key e)<|u va vl vc) R'->SH S H0 (hM H H1) (y++(R'++g))->(Df H H1=cl 1\/Df H H1=⟨2,0,0,0,H,H1⟩)->K (u va vl vc) H1):
 ME (Bo 209 4 v (u (Z ⟨rx,0,T⟩) 1 1)<|hN H) K:=by
 have⟨b,I,W,h3⟩:=h;have ad:J vs=n:=by rw[<-h3.len,aK,W]
 obtain⟨M,gb,vn,rfl,U,X⟩:=h3.at (key e) N;obtain⟨l,hl⟩:∃l,b[key e]?=Z l:=⟨_,av N⟩;have ac:=I.len l<|aV hl;rw[bK,hl]at U;have U:GB 209 4 vs[key e] (UQ l) gb:=U;rw[av N]at hv;rw[eF hv]at U;have e1:y++((M++(gb++vn))++g)=(y++M)++(gb++(vn++g)):=gD;rw[e1]at G;refine U.Jp (G.perm<|eX _<|jw (y++M) gb<|vn++g) N O O (by rw[Rt];omega) λv' H1 Y V d _ _ ab=>?_;obtain⟨va,vl,vc,rfl⟩:=V.sl;have d:=d.perm<|jw Y (y++M)<|vn++g;have e2:(y++M)++(Y++(vn++g))=y++((M++(Y++vn))++g):=gD;rw[e2]at d;refine kk va vl vc H1 (M++(Y++vn)) ⟨b.set (key e)<|l++[(s,e)],I.add he hk hl,by rw[bR];exact W,?_⟩ d ab;have:=X (u va vl vc) (UQ<|l++[(s,e)]) Y (by rw[YM];exact V);rw[gz];exact this
def Ba:∀{d:C (C D)}{vs:C D}{az:C eB},IX ty es d vs az->∀v∈vs,qA v v=F
 |[],[],az,h=>nofun
 |ks::d,w::vs,az,⟨gb,R',_,I,W⟩=>λv hv=>by
  rcases bW.1 hv with rfl|hv
  .rcases I with⟨rfl,_⟩|⟨r,n,eY,rfl,_⟩
   .exact qQ _ _ _ λx h=>by cases h
   .exact qQ _ _ _ λx h=>by cases h;rfl
  .exact Ba W v hv
 |[],v::vs,az,h=>h.elim
 |ks::d,[],az,h=>h.elim
def Ll.same{az:C eB}(h:Ll ok key A ag c n vs az):∀v∈vs,qA v v=F:=let⟨_,_,_,h3⟩:=h;Ba h3
def ID{l:C D}(h:∃a b c:Nat,l=[B a,B b,B c]):∀v∈(l.drop o).take n,qA v v=F:=λv d=>by
 obtain⟨a,b,c,rfl⟩:=h;have:=lV<|fG d;simp at this;rcases this with rfl|rfl|rfl<;>exact yZ _ _
end
end Go.Proofs.Lv
