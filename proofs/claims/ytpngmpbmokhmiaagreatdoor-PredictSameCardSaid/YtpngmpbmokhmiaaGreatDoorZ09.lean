/-
  Part 09 of the proof. No condition.
-/
import Derived.Test.YtpngmpbmokhmiaaGreatDoorZ08
set_option linter.unusedVariables false
set_option linter.unusedSimpArgs false
set_option maxRecDepth 100000
set_option maxHeartbeats 4000000
set_option linter.defProp false
open Option renaming some->Z,none->W
open Bool renaming true->f,false->aA
open Go renaming Value->D,TypeId->aG
open Go.Value renaming int->bV,slice->T,bool->gF
open Nat renaming beq->ay,ble->aB,add->aV,mul->bL,sub->dA
open List renaming replicate->aU,range->fZ,length->gz
open Classical renaming choose->jr
open List.Perm renaming swap->gm,cons->dQ
noncomputable section
namespace Go.Proofs.Lu
open Go.Ae Go.Ae.SH
variable{mO:List (Nat×D)}{a a' na ra va xa:Option Addr}{ws:List Nat}{h1:Int->Prop}{E l iH rcs vcs z:List D}{zs:Nat->List Nat}{m mm:List (ByteArray×D)}{b c hi i j lo lw n nc nn r rc u rv s tn vc x:Nat}{L SH Pf gb:List dJ}{bs mk:List Bool}{kd:Nat->Int}{e ty:aG}{K:D->F->Prop}{H H0 H1:F}{k nm t:ByteArray}{F' P':Nat->Prop}{p x0 x1 iL kQ jF rA lH zf uZ x20 xM x4 x5 x59 x6 x60 S7 LD x7 x9:D}{ok:Bool}
section
variable{S:List Nat}{ax:Nat->Prop}
def TyP(l:List D):Prop:=∃(t:ByteArray)(r ch:Int)(w:Bool),l=[.string t,vi r,vi ch,.bool w]/\t.size<=1000000
def Vo(ax:Nat->Prop)(H:F)(a:Option Addr)(n:Nat)(E:List D):Prop:=i_ ax 240 H a n 4 E/\n<=5000/\∀i,i<n->TyP (El E 4 i)
abbrev vV(a:Option Addr)(n c:Nat):D:=.agg ⟨[T a n c]⟩
def TC(hw:Wf H):aJ Pg X 151 [vV a n c] H (Q1 (λv _=>v=B n) H):=by
 have G:=M.refl hw;refine ce [0,1,2] ?_;refine tl ?_;refine G.box O λH1 u G=>?_;refine d_ ?_;refine rr ?_;exact⟨O,G.ext⟩
def FL(hw:Wf H)(hV:Vo ax H a n E)(hp:∀C l,Ext H C->Wf C->TyP l->nJ Pg X (Ls p) [.agg ⟨l⟩] C (Q1 (λv _=>∃b:Bool,v=.bool b) C)):
 aJ Pg X 181 [T a n c,p] H (Q1 (λv _=>∃z:Int,v=vi z/\-1<=z/\z<n) H):=by
 obtain⟨hf,hn,ht⟩:=hV;have G:=M.refl hw;refine ce [0,1,4,5,7,8] ?_;refine tp ?_;refine Ig 4 5 8 (h2:=λm x4 x5 x8 C=>∃i:Nat,x8=B i/\i+m=n/\M [] H C []) ?_ n ⟨0,rfl,N,G⟩;clear G;rintro m x4 x5 x8 u H1 ⟨i,rfl,him,G⟩;refine tp ?_;refine aC (λy=>?_) λy=>?_;rotate_left
 .refine tl<|rr ?_;exact⟨⟨-1,O,N,N⟩,G.ext⟩
 obtain⟨r,o,e,R,hrd,_⟩:=hf.1.read N (show i<n by omega) c;rw[e];refine aY ?_;refine G.zP hrd R<|nJ.mono (hp H1 _ G.ext G.wf<|ht i N) ?_;rintro v H2 ⟨⟨b,rfl⟩,J⟩;have G:=G.call J;refine aY ?_;refine dL (λhb=>?_) λhb=>?_
 .refine rr ?_;exact⟨⟨i,O,N,N⟩,G.ext⟩
 .refine dU ?_;exact⟨n-(i+1),N,_,_,_,_,_,O,i+1,nX,N,G⟩
theorem TE(hw:Wf H)(hV:Vo ax H a n E)(k:Int):aJ Pg X 149 [vV a n c,vi k] H (Q1 (λv _=>∃z:Int,v=vi z/\-1<=z/\z<n) H):=by
 have G:=M.refl hw;refine ce [0,1,2,3,4] ?_;refine tl ?_;refine G.box O λH1 u G=>?_;refine G.box O λH2 rk G=>?_;refine d_ ?_;refine aC (λy=>?_) λy=>?_
 .refine rr ?_;exact⟨⟨-1,O,N,N⟩,G.ext⟩
 refine G.oF ?_;have hV2:Vo ax H2 a n E:=⟨hV.1.ex G.ext,hV.2⟩;refine aJ.mono (FL G.wf hV2 (p:=.func (.func 182) ⟨[]⟩ ⟨[.pointer (Z ⟨rk,0,W⟩)]⟩) λC l J hw' hl=>?_) ?_
 .obtain⟨t,r,ch,w,rfl,_⟩:=hl;show aJ Pg X 182 [_,.pointer<|Z ⟨rk,0,W⟩] C _;have hk:=((G.call J).get 0 O).cell (o:=0) (v:=vi k) O;have hkl:=((G.call J).lo _<|aR (i:=0) O).2;have G:=M.refl hw';refine ce [0,1,2,3] ?_;refine tl ?_;refine G.box O λH3 rt G=>?_;refine d_ ?_;refine G.Ay hk hkl ?_;refine aY ?_;refine rr ?_;exact⟨⟨_,O⟩,G.ext⟩
 .rintro v H3 ⟨hz,J⟩;refine rr ?_;exact⟨hz,(G.call J).ext⟩
theorem LV(hw:Wf H)(hV:Vo ax H a n E)(s:ByteArray):aJ Pg X 150 [vV a n c,.string s] H (Q1 (λv _=>∃z:Int,v=vi z/\-1<=z/\z<n) H):=by
 have G:=M.refl hw;refine ce [0,1,2,3,4] ?_;refine tl ?_;refine G.box O λH1 u G=>?_;refine G.box O λH2 rk G=>?_;refine d_ ?_;have hV2:Vo ax H2 a n E:=⟨hV.1.ex G.ext,hV.2⟩;refine aJ.mono (FL G.wf hV2 (p:=.func (.func 183) ⟨[]⟩ ⟨[.pointer (Z ⟨rk,0,W⟩)]⟩) λC l J hw' hl=>?_) ?_
 .obtain⟨t,r,ch,w,rfl,_⟩:=hl;show aJ Pg X 183 [_,.pointer<|Z ⟨rk,0,W⟩] C _;have hk:=((G.call J).get 0 O).cell (o:=0) (v:=.string s) O;have hkl:=((G.call J).lo _<|aR (i:=0) O).2;have G:=M.refl hw';refine ce [0,1,2,3] ?_;refine tl ?_;refine G.box O λH3 rt G=>?_;refine d_ ?_;refine aC (λy=>?_) λy=>?_
  .refine G.oF<|G.Ay hk hkl ?_;refine aY ?_;refine rr ?_;exact⟨⟨_,O⟩,G.ext⟩
  .refine rr ?_;exact⟨⟨_,O⟩,G.ext⟩
 .rintro v H3 ⟨hz,J⟩;refine rr ?_;exact⟨hz,(G.call J).ext⟩
end
def ag6:tEq Pg 240=Z (.inr [3,1,1,2]):=by kernel_rfl
def ajF(t t':ByteArray)(r r' ch ch':Int)(w w':Bool):∃b,kY Pg 240 (.agg ⟨[.string t,vi r,vi ch,.bool w]⟩) (.agg ⟨[.string t',vi r',vi ch',.bool w']⟩)=Z b:=by
 have e:kY Pg 240 (.agg ⟨[.string t,vi r,vi ch,.bool w]⟩) (.agg ⟨[.string t',vi r',vi ch',.bool w']⟩)=(bR (qV t t') (bR (IZ r r') (bR (IZ ch ch') (bR (Au w w') (Z f)<|Z aA)<|Z aA)<|Z aA)<|Z aA):=by
  show(aK (tEq Pg 240) λq=>_)=_;rw[ag6];rfl
 rw[e];cases qV t t'<;>cases IZ r r'<;>cases IZ ch ch'<;>cases Au w w'<;>exact⟨_,O⟩
def aln(t t':ByteArray)(r r' ch ch':Int)(w w':Bool)(i j:Nat):∃b:Bool,lN Pg .neq 240 (.tmp i) (.tmp j) (.agg ⟨[.string t,vi r,vi ch,.bool w]⟩) (.agg ⟨[.string t',vi r',vi ch',.bool w']⟩)=Z (.bool b):=by
 obtain⟨b,hb⟩:=ajF t t' r r' ch ch' w w';refine⟨!b,?_⟩;show B_ .neq (Yx Pg 240 (.tmp i) (.tmp j) _ _)=_
 have:Yx Pg 240 (.tmp i) (.tmp j) (.agg ⟨[.string t,vi r,vi ch,.bool w]⟩) (.agg ⟨[.string t',vi r',vi ch',.bool w']⟩)=Z b:=by
  rw[<-hb];rfl
 rw[this];rfl
def TG{ax:Nat->Prop}{n' c':Nat}{cs':List D}(hw:Wf H)(hV:Vo ax H a n E)(hV':Vo F' H a' n' cs'):aJ Pg X 122 [vV a n c,vV a' n' c'] H (Q1 (λv _=>∃b:Bool,v=.bool b) H):=by
 have G:=M.refl hw;have hn:=hV.2.1;refine ce [0,1,2,3,4,5,6,15,16,17] ?_;refine tl ?_;refine G.box O λH1 r1 G=>?_;refine G.box O λH2 r2 G=>?_;refine d_ ?_;refine bT (λy=>?_) λy=>?_
 .refine rr ?_;exact⟨⟨_,O⟩,G.ext⟩
 have hnn:n=n':=by omega
 refine d_ ?_;refine Oa 4 5 6 17 (h2:=λm x4 x5 x6 zF C=>∃i:Nat,x4=.bool aA/\zF=B i/\i+m=n/\M [] H C [(r2,180,[T a' n' c']),(r1,180,[T a n c])]) ?_ n ⟨0,rfl,rfl,N,G⟩;clear G;rintro m x4 x5 x6 zF u H3 ⟨i,rfl,rfl,him,G⟩;refine tp ?_;refine aC (λhc2=>?_) λhc2=>?_;rotate_left
 .refine tl<|rr ?_;exact⟨⟨_,O⟩,G.ext⟩
 obtain⟨q,o,e,R,hrd,_⟩:=hV.1.1.read N (show i<n by omega) c;obtain⟨q',o',e',hr',KC,_⟩:=hV'.1.1.read N (show i<n' by omega) c';obtain⟨t,k,ch,w,he,_⟩:=hV.2.2 i N;obtain⟨t',k',ch',w',he',_⟩:=hV'.2.2 i N;rw[he]at hrd;rw[he']at KC;rw[e];refine aY ?_;refine G.zP hrd R<|G.nZ O O O λH4 rt G hx4=>?_;have G:M [] H H4 [(rt,240,[.string t,vi k,vi ch,.bool w]),(r2,180,[T a' n' c']),(r1,180,[T a n c])]:=G;refine d_ ?_;rw[e'];refine G.kK ?_;refine ME.rF (H:=hN _) ((vw (G.ext.obj q' hr'<|by simp) o' 4).trans KC) ?_;obtain⟨b,hb⟩:=aln t t' k k' ch ch' w w' 22 27;refine PU.of hb<|d_ ?_;refine dL (λhb2=>?_) λhb2=>?_
 .refine rr ?_;exact⟨⟨_,O⟩,G.ext⟩
 .refine dU ?_;exact⟨n-(i+1),N,_,_,_,_,_,_,O,i+1,O,nX,N,M.drop (A:=[_]) G⟩
section
variable{S:List Nat}{ax:Nat->Prop}
def _root_.Go.Ae.abu{o es:Nat}(h:lo<=hi)(I:hi<=n):U4 es (T (Z ⟨r,o,W⟩) n<|fI es) (Z<|B lo) (Z<|B hi) W=Z (T (Z ⟨r,o+lo*es,W⟩) (hi-lo)<|fI es):=by
 show bR (gD<|fI es) _ (gd (ay (fI es)<|fI es)<|gd (aB lo hi&&aB hi n)<|Z<|T (Z ⟨r,aV o<|bL lo es,W⟩) (dA hi lo)<|fI es)=_;rw[yE,jL,dw,aH h,aH I];rfl
def Gr.sub{rn:Nat}(hG:Gr b H ra rn rcs na nn iH)(y:na=W\/nc=fI 5)(h:lo<=hi)(hn:hi<=nn)(h0:0<nn):
 ∃r o,U4 5 (T na nn nc) (Z<|B lo) (Z<|B hi) W=Z (T (Z ⟨r,o+lo*5,W⟩) (hi-lo)<|fI 5)/\r<H.next/\∀i,i<hi-lo->Ac 5 (T (Z ⟨r,o+lo*5,W⟩) (hi-lo)<|fI 5) (B i)=Z (.pointer<|Z ⟨r,o+(lo+i)*5,W⟩)/\H.read r (o+(lo+i)*5) 5=Z (El iH 5<|lo+i):=by
 obtain⟨r,o,_,R,_,o0,rfl,_⟩:=hG.2.2.2.1.1.idx (c:=nc) N h0;have hcap:nc=fI 5:=y.resolve_left (by simp);subst hcap;refine⟨r,o0,abu h hn,R,λi hi'=>?_⟩;obtain⟨r',o',e',hr',hrd,_⟩:=hG.no (i:=lo+i) N (fI 5) O;rw[vO N]at e';cases e';refine⟨?_,hrd⟩;rw[vO hi',show o0+lo*5+i*5=o0+(lo+i)*5 by omega]
def CX(E:List D):Prop:=∃n,E.length=n*4/\∀i,i<n->TyP (El E 4 i)
def CX.nil:CX []:=⟨0,O,λi h=>absurd h N⟩
def CX.app(h:CX E)(hl:TyP l):CX (E++l):=by
 obtain⟨n,Q,I⟩:=h;have hl4:l.length=4:=by obtain⟨t,r,ch,w,rfl,_⟩:=hl;rfl
 have hE:=Bv (es:=4) (n:=n) Q (xs:=l) hl4;refine⟨n+1,by rw[aQ];omega,λi hi=>?_⟩;rcases bZ i n with h|h
 .rw[hE.1 i h];exact I i h
 .obtain rfl:i=n:=by omega
  rw[hE.2];exact hl
def ME.abv{t:aG}{q:aG×aG}(G:M S H0 H L)(Q:uz Pg t=Z q)(kk:∀C r,uj C r []->Ext H C->H.next<=r->M S H0 C L->K (.map<|Z r) C):ME (uB Pg t W H) K:=by
 refine ME.of (v:=.map<|Z H.next) (H:=H.new<|.map []) ?_<|kk _ _ ⟨dI _,by rw[xF,if_pos O];rfl⟩ (Ext.new _ _) (az _)<|G.call<|Ext.new _ _;show aK (uz Pg t) _=_;rw[Q];rfl
def yX(rcs:List D)(i:Nat):Nat:=if i=0 then 0 else(rootOf rcs (i-1)+1).toNat
def KE.from{rn:Nat}(h:KE ax H rn rcs nn iH)(hi:i<rn):(yX rcs i:Int)<=rootOf rcs i/\rootOf rcs i<nn/\(yX rcs (i+1):Int)=rootOf rcs i+1:=by
 have Q:=h.1.2 i hi;have e:yX rcs (i+1)=(rootOf rcs i+1).toNat:=rfl;refine⟨?_,Q.2,by rw[e];omega⟩;unfold yX;split
 .omega
 .next h0=>
  have I:=h.2.2 (i-1) N;have h3:=h.1.2 (i-1) N;rw[show i-1+1=i by omega]at I;omega
def alo{x:D}(hg:GB 240 4 x E gb)(hT:CX E)(hl:E.length<=10000000)(G:M S H0 H<|Pf++gb)(hp:TyP l){K:D->D->F->Prop}(kk:∀w v' C gT,GB 240 4 v' (E++l) gT->CX (E++l)->M S H0 C (Pf++gT)->K w v' C):
 ME (bS 240 [.string ⟨#[]⟩,.int .i64 0,.int .i64 0,.bool aA] 4 1 [(0,.agg ⟨l⟩)] H) λw H5=>ME (zB 240 4 x w H5) (K w):=by
 obtain⟨t,r,ch,w,rfl,hsz⟩:=id hp;refine G.bS O O O N λH1 rx hS1=>?_;have hS1:=hS1.perm<|dQ _<|aF (l₁:=Pf);obtain⟨v',H6,gT,e1,hg',vZ,_⟩:=hg.app (m:=0) (cx:=1) hS1 N O O N N;exact ME.of e1<|kk _ v' H6 gT hg' (hT.app hp)<|vZ.perm aF
def abw(hw:Wf H){v:D}(hv:v=T a n c)(hf:Fl H a n 4 E)(hn:n<=5000)(ht:∀i,i<n->TyP (El E 4 i)):aJ Pg X 127 [v] H (Q1 (λv C=>∃a n c E,v=T a n c/\Vo (H.next<=·) C a n E) H):=by
 subst hv;have G:=M.refl hw;refine ce [0,2] ?_;refine tl ?_;rw[Cw (by kernel_rfl)];refine aY ?_;refine dL (λhb=>?_) λhb=>?_
 .refine rr ?_;exact⟨⟨W,0,0,[],O,i_.nil _ _ _ _ _,N,λi h=>absurd h N⟩,Ext.refl _⟩
 .refine ME.of (agL N) ?_;have G:=G.grow 240 [];have hge:=G.ext.next
  refine G.SN N (.inr ⟨_,O⟩) (hf.ex G.ext) N λa' c' H1 L' hf' hS'=>rr ?_;exact⟨⟨a',n,c',E,O,hf'.le hge,hn,ht⟩,hS'.ext⟩
end
section
variable{S:List Nat}{ax:Nat->Prop}
def ajG{rn:Nat}(hG:Gr b H ra rn rcs na nn iH){x3:D}(hg:GB 240 4 x3 E gb)(hT:CX E)(hl:E.length<=16000)(G:M [] H H1<|[(rv,180,[T W 0 0]),(u,171,[T ra rn rc,T na nn nc])]++gb){v_ DR Az x34 DN x74 x75 SY:D}:
 gJ Pg X (sub wY [1,1,1,1,1,1]) (vD (gV ra rn rc na nn nc) (pr u) (pr rv) x3 x4 x5 x7 x9 iL kQ jF v_ DR xM Az x34 DN x74 x75 SY mO H1) (jR Pg [.cell 2 180]<|Q1 (λv C=>∃a n c E,v=vV a n c/\Vo (H.next<=·) C a n E) H):=by
 have g2:=hG.2.1;simp only[bE,bK]at G;refine tm ?_;refine Oa 3 12 13 76 (h2:=λm x3 kQ jF SY C=>∃i E gb,SY=B i/\i+m=rn/\GB 240 4 x3 E gb/\CX E/\E.length<=16000+4*i/\M [] H C ([(rv,180,[T W 0 0]),(u,171,[T ra rn rc,T na nn nc])]++gb)) ?_ rn ⟨0,E,gb,rfl,N,hg,hT,N,G⟩;clear hg hT hl G;rintro m x3 kQ jF SY mO H2 ⟨i,E,gb,rfl,him,hg,hT,hl,G⟩;refine tp ?_;refine aC (λy=>?_) λy=>?_;rotate_left
 .refine tl ?_;obtain⟨k,hk,ht⟩:=hT;have hS2:=G.perm<|aF (l₁:=[_,_]);obtain⟨a,n,c,rfl,hn,hf⟩:=hg.fl hS2;obtain rfl:n=k:=by omega
  refine aJ.mono (abw G.wf O hf N ht) ?_;rintro v H3 ⟨⟨a',n',c',cs',rfl,hV⟩,J⟩;have hge:=G.ext.next
  have hlt:=G.lt;have hS0:=G.call J;refine PU.b1 O ?_;have G:=M.own (SH:=[(rv,180,[T W 0 0]),(u,171,[T ra rn rc,T na nn nc])]) hS0;refine G.kK ?_;refine G.jE λHn G=>rr ?_;refine G.iK ?_;have Le:=G.ext;exact⟨⟨a',n',c',cs',O,(hV.1.stay Le λq hq=>.inl (by have:=hlt q (by simp at hq|-;rcases hq with h|h<;>simp[h]);omega)).wk λr h=>aX hge h,hV.2⟩,(M.frame (SH:=[_,_]) hS0 G).ext⟩
 have hi:i<rn:=by omega
 obtain⟨r1,o1,yf,u1,f1,w1,c1,a1,e1,hl1,zo,sw,hsz,_⟩:=hG.ru hi rc;rw[e1];refine aY ?_;refine G.zP zo hl1<|G.nZ O O O λH5 ru G hx5=>?_;have G:M [] H H5 ((ru,234,wh yf u1 f1 w1 c1 (rootOf rcs i) a1)::(rv,180,[T W 0 0])::(u,171,[T ra rn rc,T na nn nc])::gb):=G;refine d_ ?_
 have w_:∀x3 E gb mO C,GB 240 4 x3 E gb->CX E->E.length<=16000+4*(i+1)->M [] H C ((ru,234,wh yf u1 f1 w1 c1 (rootOf rcs i) a1)::(rv,180,[T W 0 0])::(u,171,[T ra rn rc,T na nn nc])::gb)->
  gJ Pg X (sub wY [1,1,1,1,1,1,0,1,0,0,1,1,1]) (vD (gV ra rn rc na nn nc) (pr u) (pr rv) x3 x4 x5 x7 x9 iL (B i) (pr ru) v_ DR xM Az x34 DN (T ra rn rc) (B rn) (B i) mO C)
   (FV (wF (gV ra rn rc na nn nc) (pr u) (pr rv) x4 x5 x7 x9 iL v_ DR xM Az x34 DN (T ra rn rc) (B rn) λm x3 kQ jF SY C=>∃i E gb,SY=B i/\i+m=rn/\GB 240 4 x3 E gb/\CX E/\E.length<=16000+4*i/\M [] H C ([(rv,180,[T W 0 0]),(u,171,[T ra rn rc,T na nn nc])]++gb)) m<|rO 4<|sW Pg X (sub wY [1,1,1,1,1,1,1])<|jR Pg [.cell 2 180]<|Q1 (λv C=>∃a n c E,v=vV a n c/\Vo (H.next<=·) C a n E) H):=by
  intro x3 E gb mO C Q I h3 h4;refine tl ?_;refine dU ?_;exact⟨rn-(i+1),N,_,_,_,_,_,_,O,i+1,E,gb,nX,N,Q,I,h3,M.drop (A:=[_]) h4⟩
 have ap:(lkv:Bool)->∀mO,Aw mO 87=.bool lkv->gJ Pg X (sub wY [1,1,1,1,1,1,0,1,0,0,1,1,0,0,1,1]) (vD (gV ra rn rc na nn nc) (pr u) (pr rv) x3 x4 x5 x7 x9 iL (B i) (pr ru) v_ DR xM Az x34 DN (T ra rn rc) (B rn) (B i) mO H5)
  (rO 5<|sW Pg X (sub wY [1,1,1,1,1,1,0,1,0,0,1,1,1])<|FV (wF (gV ra rn rc na nn nc) (pr u) (pr rv) x4 x5 x7 x9 iL v_ DR xM Az x34 DN (T ra rn rc) (B rn) λm x3 kQ jF SY C=>∃i E gb,SY=B i/\i+m=rn/\GB 240 4 x3 E gb/\CX E/\E.length<=16000+4*i/\M [] H C ([(rv,180,[T W 0 0]),(u,171,[T ra rn rc,T na nn nc])]++gb)) m<|rO 4<|sW Pg X (sub wY [1,1,1,1,1,1,1])<|jR Pg [.cell 2 180]<|Q1 (λv C=>∃a n c E,v=vV a n c/\Vo (H.next<=·) C a n E) H):=by
  intro b mO hb;refine tl ?_;rw[hb];refine dL (λhb=>?_) λhb=>?_;rotate_left
  .refine aY ?_;exact w_ _ _ _ _ _ hg hT N G
  refine d_ ?_;refine aJ.mono (w9 (nG H5) yf hsz) ?_;rintro v H6 ⟨rfl,hx6⟩;have G:=G.mV hx6;refine d_ ?_;have hpt:TyP [.string yf,B i,vi c1,.bool w1]:=⟨yf,i,c1,w1,O,hsz⟩;refine G.Qa O O O N λH7 rx G sw=>?_;have G:=G.to (cs':=[.string yf,B i,vi c1,.bool w1]) O;refine hg.Gj (G.perm<|dQ _<|aF (l₁:=[_,_,_])) N O O N λv' H8 gT hg' G _ _ vk=>?_;have G:=G.perm<|aF (l₂:=[_,_,_]);simp only[bE,bK]at G;refine splitK (λK hK=>?_) ?_
  .simp only[sw,eG,fK hx6];rcases vk with e|e<;>rw[e]<;>apply Eh (a:=ru) (by intros;rfl) (by kernel_rfl) (by kernel_rfl) hK
  exact w_ _ _ _ _ _ hg' (hT.app hpt) (by rw[aQ];show E.length+4<=_;omega) G
 refine dL (λhb=>?_) λhb=>?_
 .refine d_ ?_;exact ap (!f1) _ O
 .exact ap aA _ O
theorem QV(hw:Wf H){rn:Nat}(hG:Gr b H ra rn rcs na nn iH)(hcap:na=W\/nc=fI 5):aJ Pg X 95 [gV ra rn rc na nn nc] H (Q1 (λv C=>∃a n c E,v=vV a n c/\Vo (H.next<=·) C a n E) H):=by
 have G:=M.refl hw;have g2:=hG.2.1;have g5:=hG.2.2.2.2.1;refine ce [0,1,2,3,4,5,7,9,11,12,13,21,22,23,33,34,35,74,75,76] ?_;refine tl ?_;refine G.box O λH1 u G=>?_;refine G.iZ λHn rv G=>?_;refine d_ ?_;refine aJ.mono (KI G.wf<|hG.ex G.ext) ?_;rintro v H2 ⟨⟨z,a,c,rfl,hcl⟩,J⟩;have G:=G.call J;rw[Ey];refine aY ?_;refine bT (λy=>?_) λy=>?_
 .refine PU.b1 O<|G.jE λHn G=>rr ?_;exact G.iK<|⟨⟨W,0,0,[],O,i_.nil _ _ _ _ _,N,λi h=>absurd h N⟩,G.ext⟩
 have hC:=(hcl y).1;have hn1:=hC.2.1;have hn0:0<nn:=by have:=hC.1.2 0 N;omega
 have hge:=G.ext.next
 refine ME.abv G BA λH3 rm hm hx3 hrm G=>?_;have hrm:H.next<=rm:=by omega
 refine d_ ?_;refine lp9 3 5 7 9 11 23 33 34 35 (h2:=λm x3 x5 x7 x9 iL xM Az x34 DN C=>∃i mm E gb,x5=B (yX rcs i)/\xM=B i/\i+m=rn/\uj C rm mm/\GB 240 4 x3 E gb/\CX E/\E.length<=4*yX rcs i/\M [] H C ([(rv,180,[T W 0 0]),(u,171,[T ra rn rc,T na nn nc])]++gb)) ?_ rn ⟨0,[],[],[],rfl,rfl,N,hm,GB.nil _ _,CX.nil,bg _,G⟩;clear G hm;rintro m x3 x5 x7 x9 iL xM Az x34 DN mO H4 ⟨i,mm,E,gb,rfl,rfl,him,hm,hg,hT,hl,G⟩;refine tp ?_;refine aC (λy=>?_) λy=>?_;rotate_left
 .obtain rfl:i=rn:=by omega
  have hfr:=hC.from (i:=i-1) N;rw[show i-1+1=i by omega]at hfr;exact ajG hG hg hT N G
 have hi:i<rn:=by omega
 have hfr:=hC.from hi;obtain⟨r1,o1,yf,u1,f1,w1,c1,a1,e1,hl1,zo,sw,hsz,_⟩:=hG.ru hi rc;rw[e1];refine aY ?_;refine G.zP zo hl1<|G.nZ O O O λH5 ru G hx5=>?_;have hm:=hm.ex hx5 λh=>nomatch h;have G:M [] H H5 ((ru,234,wh yf u1 f1 w1 c1 (rootOf rcs i) a1)::(rv,180,[T W 0 0])::(u,171,[T ra rn rc,T na nn nc])::gb):=G;refine d_ ?_;refine dU ?_;rw[<-hfr.2.2];have hlo:yX rcs i<=yX rcs (i+1):=by omega
 have hhi:yX rcs (i+1)<=nn:=by omega
 generalize hh:yX rcs (i+1)=hi' at hlo hhi hfr|-;generalize yX rcs i=lo at hlo hl hfr|-;obtain⟨r2,o2,esl,hr2,hsub⟩:=hG.sub hcap hlo hhi hn0;refine PU.of esl<|aY ?_;refine Oa 3 9 11 35 (h2:=λm x3 x9 iL DN C=>∃k mm E gb,DN=B k/\k+m=hi'-lo/\uj C rm mm/\GB 240 4 x3 E gb/\CX E/\E.length<=4*(lo+k)/\M [] H C ([(ru,234,wh yf u1 f1 w1 c1 (rootOf rcs i) a1),(rv,180,[T W 0 0]),(u,171,[T ra rn rc,T na nn nc])]++gb)) ?_ (hi'-lo) ⟨0,mm,E,gb,rfl,N,hm,hg,hT,N,G⟩;clear G hm hg hT hl y;rintro m' y3 y9 y11 y35 LU H6 ⟨k,mm,E,gb,rfl,hkm,hm,hg,hT,hl,G⟩;simp only[bE,bK]at G;refine tp ?_;refine aC (λy=>?_) λy=>?_;rotate_left
 .obtain rfl:k=hi'-lo:=by omega
  refine tm ?_;refine dU ?_;refine tl ?_;refine dU ?_;exact⟨rn-(i+1),N,_,_,_,_,_,_,_,_,_,_,_,O,i+1,mm,E,gb,by rw[hh,<-hfr.2.2],nX,N,hm,hg,hT,N,M.drop (A:=[_]) G⟩
 have hk:k<hi'-lo:=by omega
 obtain⟨eid,erd⟩:=hsub k hk;refine PU.of eid ?_;obtain⟨kd,ka,kn,kc,ks,t,xa,xn,xc,at',he,_,htz,_⟩:=hC.1.1 (lo+k) N;rw[he]at erd;refine G.zP erd hr2<|G.nZ O O O λH7 rb G hx7=>?_;have hm:=hm.ex hx7 λh=>nomatch h;have G:M [] H H7 ((rb,238,[vi kd,T ka kn kc,.string t,T xa xn xc,vi at'])::(ru,234,wh yf u1 f1 w1 c1 (rootOf rcs i) a1)::(rv,180,[T W 0 0])::(u,171,[T ra rn rc,T na nn nc])::gb):=G;refine d_ ?_;refine ME.Ip hm BA QI eqS λav _ _=>?_;refine aY ?_
 have w_:∀{iL mm E gb zG H8 x3},uj H8 rm mm->GB 240 4 x3 E gb->CX E->E.length<=4*(lo+(k+1))->M [] H H8 ((rb,238,[vi kd,T ka kn kc,.string t,T xa xn xc,vi at'])::(ru,234,wh yf u1 f1 w1 c1 (rootOf rcs i) a1)::(rv,180,[T W 0 0])::(u,171,[T ra rn rc,T na nn nc])::gb)->
  ∃m_1,m_1<m'/\xK (gV ra rn rc na nn nc) (pr u) (pr rv) (.map<|Z rm) (B lo) (pr ru) top top (T ra rn rc) (B rn) (B i) (T (Z ⟨r2,o2+lo*5,W⟩) (hi'-lo)<|fI 5) (B<|hi'-lo) top top top (λm x3 x9 iL DN C=>∃k mm E gb,DN=B k/\k+m=hi'-lo/\uj C rm mm/\GB 240 4 x3 E gb/\CX E/\E.length<=4*(lo+k)/\M [] H C ([(ru,234,wh yf u1 f1 w1 c1 (rootOf rcs i) a1),(rv,180,[T W 0 0]),(u,171,[T ra rn rc,T na nn nc])]++gb)) m_1
   (vD (gV ra rn rc na nn nc) (pr u) (pr rv) x3 (.map<|Z rm) (B lo) (pr ru) (pr rb) iL top top (T ra rn rc) (B rn) (B i) (T (Z ⟨r2,o2+lo*5,W⟩) (hi'-lo)<|fI 5) (B<|hi'-lo) (vi<|(k:Int)+1) top top top zG H8):=by
  intro iL mm E gb zG H8 x3 Q I h3 h4 h5;exact⟨hi'-lo-(k+1),N,_,_,_,_,_,_,O,k+1,mm,E,gb,nX,N,Q,I,h3,h4,M.drop (A:=[_]) h5⟩
 refine dL (λhb=>?_) λhb=>?_
 .refine dU ?_;exact w_ hm hg hT N G
 refine d_ ?_;refine dL (λhb2=>?_) λhb2=>?_
 .refine dU ?_;exact w_ hm hg hT N G
 refine d_ ?_;refine bT (λhc3=>?_) λhc3=>?_
 .refine dU ?_;exact w_ hm hg hT N G
 refine tm ?_;obtain⟨a3,n3,c3,rfl,hn3,_⟩:=hg.fl<|G.perm<|aF (l₁:=[_,_,_,_]);refine aY ?_;refine G.upd (.inr hrm) hm BA eqS λH8 mm2 hm2 _ G=>G.oF<|aJ.mono (w9 G.wf t htz) ?_;rintro v H9 ⟨rfl,LW⟩;have hm2:=hm2.ex LW λh=>nomatch h;have G:=G.call LW;have amx:=hm2.1;refine PU.b4 O ?_;have hnm:=G.EA hm2;have G:M [] H H9 ([(rb,238,[vi kd,T ka kn kc,.string t,T xa xn xc,vi at']),(ru,234,wh yf u1 f1 w1 c1 (rootOf rcs i) a1),(rv,180,[T W 0 0]),(u,171,[T ra rn rc,T na nn nc])]++gb):=G;have hS0:=G;have G:=hS0.base;refine alo hg hT N G (l:=[.string t,vi (-1),vi 0,.bool aA]) ⟨t,-1,0,aA,O,htz⟩ λw v' Dm gT hg' hT' hS'=>?_;have hm3:=hm2.ex hS'.ext hnm;refine aY ?_;refine tl ?_;refine dU ?_;exact w_ hm3 hg' hT' (by rw[aQ];show E.length+4<=_;omega)<|hS0.over hS'
end
section
variable{S:List Nat}{ax:Nat->Prop}
def yY(rcs:List D):Nat->Nat
 |0=>0
 |i+1=>yY rcs i+(if FK rcs i=f then 0 else 1)
def GD(rcs:List D)(h:i<=j):yY rcs i<=yY rcs j:=by
 induction j with
 |zero=>obtain rfl:i=0:=by omega
        exact az _
 |succ j ih=>
  rcases bZ i (j+1)with Q|Q
  .have:=ih N;show _<=yY rcs j+_;omega
  .obtain rfl:i=j+1:=by omega
   exact az _
def Ov(rcs:List D):∀i,yY rcs i<=i
 |0=>az _
 |i+1=>by
  have:=Ov rcs i;show yY rcs i+_<=_;split<;>omega
def vW(tn lw:Nat)(l:List D):Prop:=∃k a:Nat,l=[B k,B a,B 0]/\(k=0\/(k=1/\a<tn)\/(k=2/\a<lw))
def vW.zero(tn lw:Nat):vW tn lw [vi 0,vi 0,vi 0]:=⟨0,0,O,.inl O⟩
def MZ(tn lw:Nat)(m:List<|ByteArray×D):Prop:=∀p∈m,∃l,p.2=.agg ⟨l⟩/\vW tn lw l
def Ow:uz Pg 262=Z (9,121):=by kernel_rfl
def abx:xz Pg 121=Z (.agg ⟨[vi 0,vi 0,vi 0]⟩):=by kernel_rfl
def MZ.get(h:MZ tn lw m){av:Option D}(hf:∀v,av=Z v->(k,v)∈m):∃l,av.getD (.agg ⟨[vi 0,vi 0,vi 0]⟩)=.agg ⟨l⟩/\vW tn lw l:=by
 cases av with
 |none=>exact⟨_,O,vW.zero _ _⟩
 |some v=>exact h _<|hf v O
def aby{rm re ru:Nat}{rn:Nat}{rg av w:Bool}{ch root at' kd ar:Int}(hrm:H.next<=rm)(hm:uj H1 rm mm)(hE:MZ tn lw mm)(hk:0<=ar->vW tn lw [vi kd,vi ar,vi 0])(G:M [] H H1 [(re,121,[vi kd,vi ar,vi 0]),(ru,234,wh nm rg av w ch root at'),(rv,180,[T va tn vc]),(u,171,[T ra rn rc,T na nn nc])]){K:Out->Prop}(kk:∀iL YH zG C,uj C rm YH->MZ tn lw YH->M [] H C [(rv,180,[T va tn vc]),(u,171,[T ra rn rc,T na nn nc])]->K (.norm<|oI x0 x1 (pr u) (pr rv) (T W 0 0) (.map<|Z rm) x6 x7 (pr ru) (pr re) iL kQ jF rA lH zf uZ x20 x59 x60 S7 LD zG C)):
 gJ Pg X (sub xU [1,1,1,0,1,0,0,1,1,0,0,1,1,1]) (oI x0 x1 (pr u) (pr rv) (T W 0 0) (.map<|Z rm) x6 x7 (pr ru) (pr re) iL kQ jF rA lH zf uZ x20 x59 x60 S7 LD mO H1) K:=by
 refine tm ?_;refine ME.Ip hm Ow abx eqS λfo hf _=>?_;refine aY ?_;obtain⟨l,e,hl⟩:=hE.get hf;rw[e];obtain⟨k1,a1,rfl,hl⟩:=hl;refine G.nZ O O O λH2 rt G J=>?_;have hm:=hm.ex J λh=>nomatch h;have G:M [] H H2 ((rt,121,[B k1,B a1,B 0])::[(re,121,[vi kd,vi ar,vi 0]),(ru,234,wh nm rg av w ch root at'),(rv,180,[T va tn vc]),(u,171,[T ra rn rc,T na nn nc])]):=G
 have put:∀b:Bool,(b=f->0<=ar)->∀iL mO,Aw mO 48=.bool b->gJ Pg X (sub xU [1,1,1,0,1,0,0,1,1,0,0,1,1,1,1,1]) (oI x0 x1 (pr u) (pr rv) (T W 0 0) (.map<|Z rm) x6 x7 (pr ru) (pr re) iL kQ jF rA lH zf uZ x20 x59 x60 S7 LD mO H2) K:=by
  intro b hb iL mO hlk;refine tl ?_;rw[hlk];refine dL (λhb2=>?_) λhb2=>?_
  .refine d_ ?_;refine G.upd (.inr hrm) hm Ow eqS λH3 mm2 hm2 hmm G=>kk _ mm2 _ _ hm2 (λp hp=>?_)<|M.drop (A:=[_,_,_]) G;rcases hmm p hp with h|rfl
   .exact hE p h
   .exact⟨_,O,hk<|hb hb2⟩
  .exact kk _ mm _ _ hm hE<|M.drop (A:=[_,_,_]) G
 refine dL (λhb=>?_) λhb=>?_
 .refine d_ ?_;exact put _ fE _ _ O
 .exact put aA (λh=>by cases h) _ _ rfl
def _root_.Go.Ae.M.alp(G:M S H0 H L){m:Nat}(hn:n<=m)(hm:m<=16777216)(k:∀H1 r,M S H0 H1 ((r,e,oL z m)::L)->Ext H H1->H.next<=r->K (T (Z ⟨r,0,W⟩) n m) H1):ME (Go.Ae.mkS e z (B n) (B m) H) K:=
 (M.refl G.wf).mkS hn hm λH1 r hO=>k H1 r (M.frame (SH:=[]) (L:=L) G hO) hO.ext<|hO.wB<|aL ..
def ag7(z:List D)(n:Nat):∀k,k<n->El (oL z n) z.length k=z:=by
 induction n with
 |zero=>intro k h;omega
 |succ n ih=>
  intro k h;have e:oL z (n+1)=z++oL z n:=by show app z (oL z n)=_;rw[qd]
  rw[e];cases k with
  |zero=>unfold El;simp
  |succ k=>
   have:=ih k N;unfold El at this|-;rw[show(k+1)*z.length=z.length+k*z.length by rw[gM];omega,tX,mH N];rw[show z.length+k*z.length-z.length=k*z.length by omega];exact this
def ag8{rm:Nat}{rn:Nat}(hG:Gr b H ra rn rcs na nn iH)(hR:∀i,i<nn->NoR (b<=·) H i (El iH 5 i))(hV:Vo ax H va tn vcs)(hm:uj H1 rm mm)(hE:MZ tn lw mm)(G:M [] H H1 [(rv,180,[T va tn vc]),(u,171,[T ra rn rc,T na nn nc])]){x8:D}:
 gJ Pg X (sub xU [1,1,1,1]) (oI x0 x1 (pr u) (pr rv) (T W 0 0) (.map<|Z rm) x6 x7 x8 x9 iL kQ jF rA lH zf uZ x20 x59 x60 S7 LD mO H1)
  (jR Pg [.tmp 4]<|Q1 (λv C=>∃rl E,v=T (Z ⟨rl,0,W⟩) nn nn/\H.next<=rl/\rl<C.next/\Bk C rl 121 E/\E.length=nn*3/\∀i,i<nn->vW tn lw (El E 3 i)) H):=by
 have g5:=hG.2.2.2.2.1;have hnm:=G.EA hm;refine tm ?_;have amy:=hm.1;refine G.alp (az _) N λH2 rl G hx2 hrl=>G.ld 2 (o:=1) O O ?_;refine aY ?_;have hm:=hm.ex hx2 λh=>nomatch h;have hin:∃E,E.length=nn*3/\(∀i,i<nn->vW tn lw (El E 3 i))/\M [] H H2 [(rl,121,E),(rv,180,[T va tn vc]),(u,171,[T ra rn rc,T na nn nc])]:=⟨_,MF _ _,λi hi=>by rw[show(3:Nat)=[bV .i64 0,bV .i64 0,bV .i64 0].length from O,ag7 _ _ _ hi];exact vW.zero _ _,G⟩;refine Vx 13 14 15 61 67 (h2:=λm jF rA lH S7 LD C=>∃i E,S7=B i/\i+m=nn/\uj C rm mm/\E.length=nn*3/\(∀i,i<nn->vW tn lw (El E 3 i))/\M [] H C [(rl,121,E),(rv,180,[T va tn vc]),(u,171,[T ra rn rc,T na nn nc])]) ?_ nn ⟨0,hin.choose,rfl,N,hm,hin.choose_spec.1,hin.choose_spec.2.1,hin.choose_spec.2.2⟩;clear G hm hin;rintro m jF rA lH S7 LD mO H3 ⟨i,E,rfl,him,hm,hcl,hcs,G⟩;refine tp ?_;refine aC (λy=>?_) λy=>?_;rotate_left
 .refine tl<|rr ?_;exact⟨⟨rl,E,O,G.wB<|aL ..,(G.lo _<|aL ..).2,G.get 0 O,hcl,hcs⟩,G.ext⟩
 have hi:i<nn:=by omega
 obtain⟨kd,ka,kn,kc,ks,t,xa,xn,xc,at',he,_,htz,_⟩:=hR i hi;obtain⟨r2,o2,e2,hr2,hrd,_⟩:=hG.no hi nc he;rw[e2];refine aY ?_;refine G.zP hrd hr2<|G.nZ O O O λH4 rb G hx4=>?_;have hm:=hm.ex hx4 λh=>nomatch h;have G:M [] H H4 ((rb,238,[vi kd,T ka kn kc,.string t,T xa xn xc,vi at'])::[(rl,121,E),(rv,180,[T va tn vc]),(u,171,[T ra rn rc,T na nn nc])]):=G
 have w_:∀{lH LD zG H5 E},uj H5 rm mm->E.length=nn*3->(∀i,i<nn->vW tn lw (El E 3 i))->M [] H H5 ((rb,238,[vi kd,T ka kn kc,.string t,T xa xn xc,vi at'])::[(rl,121,E),(rv,180,[T va tn vc]),(u,171,[T ra rn rc,T na nn nc])])->
  ∃m_1,m_1<m/\zm x0 x1 (pr u) (pr rv) (T W 0 0) (.map<|Z rm) x6 x7 x8 x9 iL (T (Z ⟨rl,0,W⟩) nn nn) zf uZ x20 (T na nn nc) (B nn) (λm jF rA lH S7 LD C=>∃i E,S7=B i/\i+m=nn/\uj C rm mm/\E.length=nn*3/\(∀i,i<nn->vW tn lw (El E 3 i))/\M [] H C [(rl,121,E),(rv,180,[T va tn vc]),(u,171,[T ra rn rc,T na nn nc])]) m_1
   (oI x0 x1 (pr u) (pr rv) (T W 0 0) (.map<|Z rm) x6 x7 x8 x9 iL (T (Z ⟨rl,0,W⟩) nn nn) (B i) (pr rb) lH zf uZ x20 (T na nn nc) (B nn) (vi<|(i:Int)+1) LD zG H5):=by
  intro lH LD zG H5 E Q I h3 h4;exact⟨nn-(i+1),N,_,_,_,_,_,_,_,O,i+1,E,nX,N,Q,I,h3,M.drop (A:=[_]) h4⟩
 have put:∀{H5 l}{K:D->D->F->Prop},uj H5 rm mm->vW tn lw l->M [] H H5 ((rb,238,[vi kd,T ka kn kc,.string t,T xa xn xc,vi at'])::[(rl,121,E),(rv,180,[T va tn vc]),(u,171,[T ra rn rc,T na nn nc])])->
  (∀p H6 E,uj H6 rm mm->E.length=nn*3->(∀i,i<nn->vW tn lw (El E 3 i))->M [] H H6 ((rb,238,[vi kd,T ka kn kc,.string t,T xa xn xc,vi at'])::[(rl,121,E),(rv,180,[T va tn vc]),(u,171,[T ra rn rc,T na nn nc])])->K p undef H6)->
  PU (Ac 3 (T (Z ⟨rl,0,W⟩) nn nn)<|B i) λp=>ME (Cq 3 p (.agg ⟨l⟩) H5) (K p):=by
  intro H5 l K hm hl G kk;refine PU.of (vO hi) ?_;rw[aW];obtain⟨k1,a1,rfl,_⟩:=id hl;have hO:=G.base;refine hO.st 1 O O (by show i*3+3<=E.length;omega) rfl λH6 hO6=>?_;have hne:=G.EA hm;refine kk _ H6 _ (hm.ex hO6.ext hne) (by rw[lY (by show i*3+3<=E.length;omega)];exact hcl) (λk hk=>?_)<|G.over hO6;show vW tn lw<|El (splice E (i*3) [B k1,B a1,B 0]) 3 k;rw[MK (es:=3) (k:=i) O N];split
  .exact hl
  .exact hcs k hk
 refine d_ ?_;refine aC (λhc1=>?_) λhc1=>?_
 .refine G.oF<|ME.afN hm Ow abx eqS λfo hf _=>?_;obtain⟨l,e,hl⟩:=hE.get hf;rw[e];refine put hm hl G λp H6 E Q I h3 h4=>?_;refine dU ?_;exact w_ Q I h3 h4
 refine aC (λhc2=>?_) λhc2=>?_;rotate_left
 .refine dU ?_;exact w_ hm hcl hcs G
 refine d_ ?_;refine aJ.mono (LV G.wf ⟨hV.1.ex G.ext,hV.2⟩ t) ?_;rintro v H5 ⟨⟨z,rfl,hz1,hz2⟩,hx5⟩;have G:=G.call hx5;have hm:=hm.ex hx5 λh=>nomatch h;refine aY ?_;refine aC (λhc3=>?_) λhc3=>?_
 .obtain⟨z,rfl⟩:∃n:Nat,z=n:=⟨z.toNat,N⟩;refine PU.b3 O<|put (l:=[vi 1,B z,vi 0]) hm ⟨1,z,O,.inr<|.inl ⟨O,N⟩⟩ G λp H6 E Q I h3 h4=>?_;refine dU ?_;exact w_ Q I h3 h4
 .refine dU ?_;exact w_ hm hcl hcs G
def TH(hw:Wf H){rn:Nat}(hG:Gr b H ra rn rcs na nn iH)(hR:∀i,i<nn->NoR (b<=·) H i (El iH 5 i))(hV:Vo ax H va tn vcs):aJ Pg X 123 [gV ra rn rc na nn nc,vV va tn vc] H
 (Q1 (λv C=>∃rl E,v=T (Z ⟨rl,0,W⟩) nn nn/\H.next<=rl/\rl<C.next/\Bk C rl 121 E/\E.length=nn*3/\∀i,i<nn->vW tn (yY rcs rn) (El E 3 i)) H):=by
 have g2:=hG.2.1;have G:=M.refl hw;refine ce [0,1,2,3,4,5,6,7,8,9,11,12,13,14,15,18,19,20,59,60,61,67] ?_;refine tl ?_;refine G.box O λH1 u G=>?_;refine G.box O λH2 rv G=>?_;have hge:=G.ext.next
 refine ME.abv G Ow λH3 rm hm hx3 hrm G=>?_;have hrm:H.next<=rm:=by omega
 refine d_ ?_;refine lp6 6 7 8 9 11 20 (h2:=λm x6 x7 x8 x9 iL x20 C=>∃i mm,x6=B (yY rcs i)/\x20=B i/\i+m=rn/\uj C rm mm/\MZ tn (yY rcs rn) mm/\M [] H C [(rv,180,[T va tn vc]),(u,171,[T ra rn rc,T na nn nc])]) ?_ rn ⟨0,[],rfl,rfl,N,hm,(λp h=>nomatch h),G⟩;clear G hm;rintro m x6 x7 x8 x9 iL x20 mO H4 ⟨i,mm,rfl,rfl,him,hm,hE,G⟩;refine tp ?_;refine aC (λy=>?_) λy=>?_;rotate_left
 .exact ag8 hG hR hV hm hE G
 have hi:i<rn:=by omega
 obtain⟨r1,o1,yf,u1,f1,w1,c1,a1,e1,hl1,zo,sw,hsz,hel⟩:=hG.ru hi rc;rw[e1];refine aY ?_;refine G.zP zo hl1<|G.nZ O O O λH5 ru G hx5=>?_;have hm:=hm.ex hx5 λh=>nomatch h;refine PU.b3 O<|G.nZ O O O λH6 re G hx6=>?_;have hm:=hm.ex hx6 λh=>nomatch h;have G:M [] H H6 [(re,121,[vi 2,B<|yY rcs i,vi 0]),(ru,234,wh yf u1 f1 w1 c1 (rootOf rcs i) a1),(rv,180,[T va tn vc]),(u,171,[T ra rn rc,T na nn nc])]:=G;have hlow:yY rcs (i+1)=yY rcs i+(if FK rcs i=f then 0 else 1):=rfl;rw[Jg hel]at hlow;have hmo:=GD rcs (show i+1<=rn by omega);have alq:=Ov rcs i;refine d_ ?_;refine dL (λhb=>?_) λhb=>?_
 .rw[if_pos hb]at hlow;refine G.iK ?_;refine aJ.mono (TE G.wf ⟨hV.1.ex G.ext,hV.2⟩ i) ?_;rintro v H7 ⟨⟨z,rfl,hz1,hz2⟩,hx7⟩;have G:=G.call hx7;have hm:=hm.ex hx7 λh=>nomatch h;refine PU.b3 O ?_;have hO:=G.base;refine hO.st 0 O O (az 3) O λH8 hO8=>?_;have hm:=hm.ex hO8.ext<|G.EA hm;have G:M [] H H8 [(re,121,[vi 1,vi z,vi 0]),(ru,234,wh yf u1 f1 w1 c1 (rootOf rcs i) a1),(rv,180,[T va tn vc]),(u,171,[T ra rn rc,T na nn nc])]:=G.over hO8
  refine aby hrm hm hE (λh0=>by
   obtain⟨z,rfl⟩:∃n:Nat,z=n:=⟨z.toNat,N⟩;exact⟨1,z,O,.inr<|.inl ⟨O,N⟩⟩) G λiL YH zG H9 g1 g2 g3=>?_
  refine aY ?_;refine tl ?_;refine dU ?_;exact⟨rn-(i+1),N,_,_,_,_,_,_,_,_,O,i+1,YH,by rw[hlow];rfl,nX,N,g1,g2,g3⟩
 .rw[if_neg (by rw[hb];simp)]at hlow;refine dU ?_;rw[show((yY rcs i:Int)+1)=((yY rcs (i+1):Nat):Int) by omega];refine aby hrm hm hE (λh0=>⟨2,yY rcs i,rfl,.inr<|.inr ⟨rfl,N⟩⟩) G λiL YH zG H9 g1 g2 g3=>?_;refine aY ?_;refine tl ?_;refine dU ?_;exact⟨rn-(i+1),N,_,_,_,_,_,_,_,_,O,i+1,YH,O,nX,N,g1,g2,g3⟩
end
section
variable{S:List Nat}{ax:Nat->Prop}
def VH(ax:Nat->Prop)(H:F)(nn:Nat)(iH:List D)(kd:Nat->Int)(zs:Nat->List Nat):Prop:=∀i,i<nn->∃(a:Option Addr)(c:Nat)(t:ByteArray)(xa:Option Addr)(xn xc:Nat)(at':Int),El iH 5 i=[vi (kd i),.slice a (zs i).length c,.string t,T xa xn xc,vi at']/\i_ ax 3 H a (zs i).length 1 (fG<|zs i)/\KA (kd i) (zs i).length/\(∀z∈zs i,z<i)/\t.size<=1000000/\(zs i).length<=20001
def VI:∀{ks:List D}{i:Nat},(∀x∈ks,∃z:Nat,x=B z/\z<i)->∃zs,ks=fG zs/\∀z∈zs,z<i
 |[],i,h=>⟨[],rfl,λz h=>nomatch h⟩
 |x::ks,i,h=>by
  obtain⟨z,rfl,hz⟩:=h x<|aL ..
  obtain⟨zs,rfl,I⟩:=VI (ks:=ks) (i:=i) λhc hy=>h hc<|bH _ hy
  exact⟨z::zs,O,λhc hy=>by
   rcases bM.1 hy with rfl|hy
   .exact hz
   .exact I hc hy⟩
theorem VH.of(h:∀i,i<nn->NoR ax H i (El iH 5 i)):∃kd zs,VH ax H nn iH kd zs:=by
 have key:∀i,∃p:Int×List Nat,i<nn->∃(a:Option Addr)(c:Nat)(t:ByteArray)(xa:Option Addr)(xn xc:Nat)(at':Int),El iH 5 i=[vi p.1,T a p.2.length c,.string t,T xa xn xc,vi at']/\i_ ax 3 H a p.2.length 1 (fG p.2)/\KA p.1 p.2.length/\(∀z∈p.2,z<i)/\t.size<=1000000/\p.2.length<=20001:=by
  intro i
  by_cases hi:i<nn
  .obtain⟨kd,a,n,c,ks,t,xa,xn,xc,at',Q,I,h3,h4,h5,h6⟩:=h i hi;obtain⟨zs,rfl,h7⟩:=VI h6;have:n=zs.length:=by have:=h4.1.1;simp at this;omega
   subst this;exact⟨(kd,zs),λ_=>⟨a,c,t,xa,xn,xc,at',Q,h4,h5,h7,h3,I⟩⟩
  .exact⟨(0,[]),λh=>absurd h hi⟩
 exact⟨λi=>(jr<|key i).1,λi=>(jr<|key i).2,λi hi=>mW (key i) hi⟩
def ak(ws:List Nat)(i:Nat):Nat:=ws[i]?.getD 0
def EO(kd:Int):Nat:=if kd=0 then 2 else if kd=1 then 0 else if kd=2\/kd=3\/kd=4 then 3 else 1
def IQ(kd:Int):Nat:=if kd=0 then 1 else 0
def qw(ws:List Nat)(kd:Int)(l:List Nat):Nat:=(l.map λz=>ak ws z+IQ kd).sum
def FM(kd:Nat->Int)(zs:Nat->List Nat)(ws:List Nat)(i:Nat):Prop:=ak ws i=min (EO (kd i)+qw ws (kd i) (zs i)) 4001
def afQ{z:Nat}(h:z≠i):ak (ws.set i x) z=ak ws z:=by
 unfold ak;rw[dB,if_neg λe=>h e.symm]
def ag9(h:i<ws.length):ak (ws.set i x) i=x:=by
 unfold ak;rw[dB,if_pos O,if_pos h];rfl
def QW{kd:Int}{l:List Nat}(h:∀z∈l,z<i):qw (ws.set i x) kd l=qw ws kd l:=by
 unfold qw;congr 1;apply List.map_congr_left;intro z hz;rw[afQ (by have:=h z hz;omega)]
def ajH(h:FM kd zs ws i):ak ws i<=4001:=by
 unfold FM at h;omega
theorem alr{rs rr rn rb:Nat}{xn xc:Nat}{at':Int}(hnn:nn<=4000)(hi:i<nn)(hwl:ws.length=nn)(hbl:bs.length=nn)(hf:i_ ax 3 H a (zs i).length 1<|fG<|zs i)(hzz:∀j,j<nn->∀z∈zs j,z<j)(hzl:(zs i).length<=20001)(hd:∀j,j<i->FM kd zs ws j)(G:M [] H H1 [(rb,238,[vi (kd i),.slice a (zs i).length c,.string t,T xa xn xc,vi at']),(rr,4,bools bs),(rs,3,fG ws),(u,171,[T ra rn rc,T na nn nc])]){x24 x25 x31 LF Gu Dv:D}{K:Out->Prop}(kk:∀jh iL jF LF Gu Dv ws' bs' zG C,ws'.length=nn->bs'.length=nn->(∀j,j<i+1->FM kd zs ws' j)->M [] H C [(rb,238,[vi (kd i),.slice a (zs i).length c,.string t,T xa xn xc,vi at']),(rr,4,bools bs'),(rs,3,fG ws'),(u,171,[T ra rn rc,T na nn nc])]->
  K (.norm<|rC x0 x1 (pr u) x4 x5 (T (Z ⟨rs,0,W⟩) nn nn) (T (Z ⟨rr,0,W⟩) nn nn) (B i) (pr rb) jh iL jF xM x24 x25 x31 LF Gu Dv zG C)):
 gJ Pg X (sub nH [1,1,1,0,1,0,0,1,1,0,0,1,1,1]) (rC x0 x1 (pr u) x4 x5 (T (Z ⟨rs,0,W⟩) nn nn) (T (Z ⟨rr,0,W⟩) nn nn) (B i) (pr rb) (B<|EO<|kd i) (.bool ok) jF xM x24 x25 x31 LF Gu Dv mO H1) K:=by
 have hz:=hzz i hi;have amz:EO (kd i)<=3:=by unfold EO;split<;>(try split)<;>(try split)<;>omega
 refine tm ?_;refine Oa 10 11 13 51 (h2:=λm jh iL jF Dv C=>∃(k:Nat)(o:Bool),Dv=B k/\k+m=(zs i).length/\jh=B (min (EO (kd i)+qw ws (kd i) ((zs i).take k)) 4001)/\iL=.bool o/\M [] H C [(rb,238,[vi (kd i),.slice a (zs i).length c,.string t,T xa xn xc,vi at']),(rr,4,bools bs),(rs,3,fG ws),(u,171,[T ra rn rc,T na nn nc])]) ?_ (zs i).length ⟨0,ok,rfl,N,by rw[j3,show qw ws (kd i) []=0 from O,dD,iT N];rfl,rfl,G⟩;clear G;rintro m jh iL jF Dv mO H2 ⟨k,o,rfl,hkm,rfl,rfl,G⟩;refine tp ?_;refine aC (λy=>?_) λy=>?_;rotate_left
 .obtain rfl:k=(zs i).length:=by omega
  rw[qC];refine tp ?_;rw[show min ((min (EO (kd i)+qw ws (kd i) (zs i)) 4001:Nat):Int) 4001=((min (EO (kd i)+qw ws (kd i) (zs i)) 4001:Nat):Int) by omega];refine G.YD hi (by simpa using(by omega:i<ws.length)) (kk:=λp H3 G=>?_);refine G.YD hi (by simpa using(by omega:i<bs.length)) (kk:=λp H4 G=>?_);have e1:(fG ws).set i (B<|min (EO (kd i)+qw ws (kd i) (zs i)) 4001)=fG (ws.set i<|min (EO (kd i)+qw ws (kd i) (zs i)) 4001):=fV.symm;have e2:(bools bs).set i (.bool o)=bools (bs.set i o):=fV.symm;rw[e1,e2]at G;refine kk _ _ _ _ _ _ _ _ _ _ (by rw[bF];exact hwl) (by rw[bF];exact hbl) (λj hj=>?_) G;unfold FM;rcases bZ j i with h|h
  .rw[afQ N,QW λz hz'=>Nat.lt_trans (hzz j N z hz') h];exact hd j h
  .obtain rfl:j=i:=by omega
   rw[ag9 N,QW hz]
 have hk:k<(zs i).length:=by omega
 have Rv:(zs i)[k]?=Z (zs i)[k]:=au hk;have hzi:=hz _<|bB hk;refine(hf.ex G.ext).ix hk (kU _ Rv) λp=>?_;have hzn:(zs i)[k]<nn:=by omega
 have hks:qw ws (kd i) ((zs i).take<|k+1)=qw ws (kd i) ((zs i).take k)+(ak ws (zs i)[k]+IQ (kd i)):=by
  unfold qw;rw[eO,Rv];show(List.map _<|_++[_]).sum=_;rw[dG,lF];rfl
 generalize(zs i)[k]=z at Rv hzi hzn hks|-;have hwz:ak ws z<=4001:=ajH<|hd z hzi
 have hwv:(fG ws)[z]?=Z (B<|ak ws z):=by
  rw[bD,au (show z<ws.length by omega)];show _=Z (B<|ws[z]?.getD 0);rw[au (show z<ws.length by omega)];rfl
 obtain⟨bz,hbz⟩:∃b,bs[z]?=Z b:=⟨_,au N⟩;refine G.ix hzn hwv λp=>?_;refine dU ?_;refine d_ ?_
 have fin:∀(ai:Int),ai=((min (EO (kd i)+qw ws (kd i) ((zs i).take k)) 4001:Nat):Int)+(ak ws z:Int)+(IQ (kd i):Int)->∀mO,gJ Pg X (sub nH [1,1,1,0,1,0,0,1,1,0,0,1,1,1,0,1,0,0,1,1,0,0,1,1,1]) (rC x0 x1 (pr u) x4 x5 (T (Z ⟨rs,0,W⟩) nn nn) (T (Z ⟨rr,0,W⟩) nn nn) (B i) (pr rb) (vi ai) (.bool o) (B z) xM x24 x25 x31 (.slice a (zs i).length c) (B (zs i).length) (B k) mO H2)
  (rO 4<|sW Pg X (sub nH [1,1,1,0,1,0,0,1,1,0,0,1,1,1,0,1,0,0,1,1,1])<|FV (wZ x0 x1 (pr u) x4 x5 (T (Z ⟨rs,0,W⟩) nn nn) (T (Z ⟨rr,0,W⟩) nn nn) (B i) (pr rb) xM x24 x25 x31 (.slice a (zs i).length c) (B (zs i).length) λm jh iL jF Dv C=>∃(k:Nat)(o:Bool),Dv=B k/\k+m=(zs i).length/\jh=B (min (EO (kd i)+qw ws (kd i) ((zs i).take k)) 4001)/\iL=.bool o/\M [] H C [(rb,238,[vi (kd i),.slice a (zs i).length c,.string t,T xa xn xc,vi at']),(rr,4,bools bs),(rs,3,fG ws),(u,171,[T ra rn rc,T na nn nc])]) m<|rO 3<|sW Pg X (sub nH [1,1,1,0,1,0,0,1,1,0,0,1,1,1,1]) K):=by
  intro ai hT mO;refine tp ?_;have eT:min ai 4001=((min (EO (kd i)+qw ws (kd i) ((zs i).take<|k+1)) 4001:Nat):Int):=by rw[hT,hks];omega
  rw[eT];refine dL (λhb=>?_) λhb=>?_
  .refine G.ix (v:=.bool bz) hzn (kU _ hbz) λp=>tl ?_;refine dU ?_;exact⟨(zs i).length-(k+1),N,_,_,_,_,_,_,O,k+1,bz,nX,N,O,O,G⟩
  .refine tl ?_;refine dU ?_;exact⟨(zs i).length-(k+1),N,_,_,_,_,_,_,O,k+1,aA,nX,N,O,O,G⟩
 refine aC (λhc2=>?_) λhc2=>?_
 .refine dU ?_;exact fin _ (by unfold IQ;rw[if_pos hc2];rfl) _
 .exact fin _ (by unfold IQ;rw[if_neg hc2];rfl) _
def TI(hw:Wf H){rl:Nat}{rn:Nat}{lcs:List D}{lc:Nat}(hG:Gr b H ra rn rcs na nn iH)(hNd:VH ax H nn iH kd zs)(hl:Bk H rl 121 lcs)(hlr:rl<H.next)(hll:lcs.length=nn*3)(hlp:∀i,i<nn->vW tn lw (El lcs 3 i)):
 aJ Pg X 124 [gV ra rn rc na nn nc,T (Z ⟨rl,0,W⟩) nn lc] H (Q1 (λv C=>∃rs rr ws bs,v=.tuple ⟨[T (Z ⟨rs,0,W⟩) nn nn,T (Z ⟨rr,0,W⟩) nn nn]⟩/\(H.next<=rs/\rs<C.next)/\(H.next<=rr/\rr<C.next)/\Bk C rs 3 (fG ws)/\Bk C rr 4 (bools bs)/\ws.length=nn/\bs.length=nn/\∀j,j<nn->FM kd zs ws j) H):=by
 have g5:=hG.2.2.2.2.1;have hzz:∀j,j<nn->∀z∈zs j,z<j:=λj hj=>by obtain⟨_,_,_,_,_,_,_,_,_,_,h,_⟩:=hNd j hj;exact h
 have G:=M.refl hw;refine ce [0,1,2,4,5,6,7,8,9,10,11,13,23,24,25,31,49,50,51] ?_;refine tl ?_;refine G.box O λH1 u G=>?_;refine d_ ?_;refine G.mkS (az _) N λH2 rs G=>?_;rw[mK]at G;refine d_ ?_;refine G.mkS (az _) N λH3 rr G=>?_;rw[mK]at G;refine d_ ?_;have hz:aU nn (bV .i64 0)=fG (aU nn 0):=by simp
 have hb:aU nn (gF aA)=bools (aU nn aA):=by simp
 rw[hz,hb]at G;have G:M [] H H3 [(rr,4,bools<|aU nn aA),(rs,3,fG<|aU nn 0),(u,171,[T ra rn rc,T na nn nc])]:=G;refine agP 8 9 10 11 13 25 31 49 50 51 (h2:=λm x8 x9 jh iL jF x25 x31 LF Gu Dv C=>∃i ws bs,x25=B i/\i+m=nn/\ws.length=nn/\bs.length=nn/\(∀j,j<i->FM kd zs ws j)/\M [] H C [(rr,4,bools bs),(rs,3,fG ws),(u,171,[T ra rn rc,T na nn nc])]) ?_ nn ⟨0,_,_,rfl,N,by simp,by simp,λj h=>absurd h N,G⟩;clear G hz hb;rintro m x8 x9 jh iL jF x25 x31 LF Gu Dv mO H4 ⟨i,ws,bs,rfl,him,hwl,hbl,hd,G⟩;refine tp ?_;refine aC (λy=>?_) λy=>?_;rotate_left
 .refine tl ?_;obtain rfl:i=nn:=by omega
  refine Lu.rr ?_;exact⟨⟨rs,rr,ws,bs,O,⟨G.wB<|aR (i:=1) O,(G.lo _<|aR (i:=1) O).2⟩,⟨G.wB<|aL ..,(G.lo _<|aL ..).2⟩,G.get 1 O,G.get 0 O,hwl,hbl,hd⟩,G.ext⟩
 have hi:i<nn:=by omega
 obtain⟨a,c,t,xa,xn,xc,at',he,hf,hfit,_,htz,hzl⟩:=hNd i hi;obtain⟨r2,o2,e2,hr2,hrd,_⟩:=hG.no hi nc he;rw[e2];refine aY ?_;refine G.zP hrd hr2<|G.nZ O O O λH5 rb G hx5=>?_;have G:M [] H H5 [(rb,238,[vi (kd i),.slice a (zs i).length c,.string t,T xa xn xc,vi at']),(rr,4,bools bs),(rs,3,fG ws),(u,171,[T ra rn rc,T na nn nc])]:=G;refine d_ ?_
 have fin:∀(ok:Bool){jh:D},jh=B (EO<|kd i)->∀{mO},gJ Pg X (sub nH [1,1,1,0,1,0,0,1,1,0,0,1,1,1]) (rC (gV ra rn rc na nn nc) (T (Z ⟨rl,0,W⟩) nn lc) (pr u) (T W 0 0) (T W 0 0) (T (Z ⟨rs,0,W⟩) nn nn) (T (Z ⟨rr,0,W⟩) nn nn) (B i) (pr rb) jh (.bool ok) jF (T na nn nc) (B nn) (B i) (vi<|kd i) LF Gu Dv mO H5)
  (rO 1<|sW Pg X (sub nH [1,1,1,0,1,0,0,1,1,1])<|FV (xZ (gV ra rn rc na nn nc) (T (Z ⟨rl,0,W⟩) nn lc) (pr u) (T W 0 0) (T W 0 0) (T (Z ⟨rs,0,W⟩) nn nn) (T (Z ⟨rr,0,W⟩) nn nn) (T na nn nc) (B nn) λm x8 x9 jh iL jF x25 x31 LF Gu Dv C=>∃i ws bs,x25=B i/\i+m=nn/\ws.length=nn/\bs.length=nn/\(∀j,j<i->FM kd zs ws j)/\M [] H C [(rr,4,bools bs),(rs,3,fG ws),(u,171,[T ra rn rc,T na nn nc])]) m<|rO 0<|sW Pg X (sub nH [1,1,1,1])<|jR Pg [.tmp 4,.tmp 5]<|Q1 (λv C=>∃rs rr ws bs,v=.tuple ⟨[T (Z ⟨rs,0,W⟩) nn nn,T (Z ⟨rr,0,W⟩) nn nn]⟩/\(H.next<=rs/\rs<C.next)/\(H.next<=rr/\rr<C.next)/\Bk C rs 3 (fG ws)/\Bk C rr 4 (bools bs)/\ws.length=nn/\bs.length=nn/\∀j,j<nn->FM kd zs ws j) H):=by
  intro ok jh e10 mO;subst e10;refine alr g5 hi hwl hbl hf hzz hzl hd G λjh iL jF LF Gu Dv ws' bs' zG C Q I h3 h4=>?_;refine aY ?_;refine tl ?_;refine dU ?_;exact⟨nn-(i+1),N,_,_,_,_,_,_,_,_,_,_,_,_,O,i+1,ws',bs',nX,N,Q,I,h3,M.drop (A:=[_]) h4⟩
 have leaf:∀(b:Bool){iL:D}{ok:Bool}{mO},iL=.bool ok->(b=f->EO (kd i)=1)->(b=aA->EO (kd i)=0)->Aw mO 38=.bool b->gJ Pg X (sub nH [1,1,1,0,1,0,0,1,1,0,0,1,1,0,1,0,1,1,1,1,1]) (rC (gV ra rn rc na nn nc) (T (Z ⟨rl,0,W⟩) nn lc) (pr u) (T W 0 0) (T W 0 0) (T (Z ⟨rs,0,W⟩) nn nn) (T (Z ⟨rr,0,W⟩) nn nn) (B i) (pr rb) (B 0) iL jF (T na nn nc) (B nn) (B i) (vi<|kd i) LF Gu Dv mO H5)
  (rO 2<|sW Pg X (sub nH [1,1,1,0,1,0,0,1,1,0,0,1,1,1])<|rO 1<|sW Pg X (sub nH [1,1,1,0,1,0,0,1,1,1])<|FV (xZ (gV ra rn rc na nn nc) (T (Z ⟨rl,0,W⟩) nn lc) (pr u) (T W 0 0) (T W 0 0) (T (Z ⟨rs,0,W⟩) nn nn) (T (Z ⟨rr,0,W⟩) nn nn) (T na nn nc) (B nn) λm x8 x9 jh iL jF x25 x31 LF Gu Dv C=>∃i ws bs,x25=B i/\i+m=nn/\ws.length=nn/\bs.length=nn/\(∀j,j<i->FM kd zs ws j)/\M [] H C [(rr,4,bools bs),(rs,3,fG ws),(u,171,[T ra rn rc,T na nn nc])]) m<|rO 0<|sW Pg X (sub nH [1,1,1,1])<|jR Pg [.tmp 4,.tmp 5]<|Q1 (λv C=>∃rs rr ws bs,v=.tuple ⟨[T (Z ⟨rs,0,W⟩) nn nn,T (Z ⟨rr,0,W⟩) nn nn]⟩/\(H.next<=rs/\rs<C.next)/\(H.next<=rr/\rr<C.next)/\Bk C rs 3 (fG ws)/\Bk C rr 4 (bools bs)/\ws.length=nn/\bs.length=nn/\∀j,j<nn->FM kd zs ws j) H):=by
  intro b iL ok mO e11 hb1 hb0 hlk;subst e11;refine tl ?_;rw[hlk];refine dL (λhb=>?_) λhb=>?_
  .obtain⟨k1,a1,hle,_⟩:=hlp i hi;refine PU.of (vO hi)<|aY ?_
   have hcell:H.cell rl (i*3)=Z (B k1):=by
    refine hl.cell ?_;have:=dV (λl=>l[0]?) hle;simp only[mG]at this;simpa using this
   refine G.Gn hcell hlr ?_;refine d_ ?_;exact fin _ (by rw[hb1 hb];rfl)
  .refine aY ?_;exact fin ok (by rw[hb0 hb])
 refine aC (λh0=>?_) λh0=>?_
 .exact fin f (by unfold EO;rw[if_pos h0];rfl)
 have b3:kd i=2\/kd i=3\/kd i=4->EO (kd i)=3:=λh=>by unfold EO;rw[if_neg N,if_neg N,if_pos h]
 have b1:kd i=5\/kd i=6\/kd i=7->EO (kd i)=1:=λh=>by unfold EO;rw[if_neg N,if_neg N,if_neg N]
 refine aC (λI=>?_) λI=>?_
 .refine tp ?_;refine aC (λ_=>?_) λh=>absurd I h;exact fin f (by rw[b3 N]<;>rfl)
 refine aC (λh3=>?_) λh3=>?_
 .refine tp ?_;refine aC (λ_=>?_) λh=>absurd h3 h;exact fin f (by rw[b3 N]<;>rfl)
 refine tp ?_;refine aC (λh4=>?_) λh4=>?_
 .exact fin f (by rw[b3 N]<;>rfl)
 refine aC (λh5=>?_) λh5=>?_
 .exact leaf (decide<|kd i=5) O (λ_=>b1 N) (λh=>absurd h5<|mJ h) O
 refine aC (λh6=>?_) λh6=>?_
 .exact leaf (decide<|kd i=6) O (λ_=>b1 N) (λh=>absurd h6<|mJ h) O
 exact leaf (decide<|kd i=7) O (λh=>b1 (by have:=fE h;omega)) (λh=>by
  have h7:=mJ h;have:kd i=1:=by rcases hfit with h|h|h|h<;>omega
  unfold EO;rw[if_neg h0,if_pos this]) O
end
section
open Go.Ae
abbrev Ed:=Nat×Nat×Nat
structure At where
 nm:List ByteArray
 st:List Nat
 sp:List Nat
 ow:List Nat
 eg:List (List Ed)
 ty:Nat
namespace At
variable{i k n r s:Nat}{e:Ed}{tok:Bool}{w:Ed->Prop}{A:At}
def nr(A:At):Nat:=A.nm.length
def ns(A:At):Nat:=A.ow.length
def S(A:At)(r:Nat):Nat:=A.st[r]?.getD 0
def P(A:At)(r:Nat):Nat:=A.sp[r]?.getD 0
def aj(A:At)(s:Nat):Nat:=A.ow[s]?.getD 0
def cs(A:At)(s:Nat):List Ed:=A.eg[s]?.getD []
def ad2(A:At)(e:Ed):Prop:=e.1=0\/(e.1=1/\e.2.1<A.ty)\/(e.1=2/\e.2.1<A.nr)
structure Ok(A:At):Prop where
 pos:0<A.nr
 VJ:A.st.length=A.nr
 XX:A.sp.length=A.nr
 zJ:A.eg.length=A.ns
 big:A.ns<=4000
 few:A.nr<=1000
 s:∀r,r<A.nr->A.S r<A.ns/\A.aj (A.S r)=r
 p:∀r,r<A.nr->A.P r<A.ns/\A.aj (A.P r)=r
 o:∀s,s<A.ns->A.aj s<A.nr
 e:∀s,s<A.ns->∀e∈A.cs s,e.2.2<A.ns/\A.aj e.2.2=A.aj s/\A.ad2 e
 tot:(A.eg.map gz).sum<=100000
def QX(h:A.eg.length=A.ns)(hs:¬s<A.ns):A.cs s=[]:=by
 unfold cs;rw[fC N];rfl
inductive Mk(A:At)(tok:Bool):Nat->Prop
 |stop (r:Nat):r<A.nr->Mk A tok (A.P r)
 |edge (s:Nat) (e:Ed):e∈A.cs s->(e.1=1->tok=f)->(e.1=2->Mk A tok (A.S e.2.1))->Mk A tok e.2.2->Mk A tok s
inductive Rc(A:At)(av:Nat->Prop)(w:Ed->Prop):Nat->Prop
 |base (s:Nat):av s->Rc A av w s
 |step (s:Nat) (e:Ed):Rc A av w s->e∈A.cs s->w e->Rc A av w e.2.2
def leads(A:At)(e:Ed):Prop:=A.Mk f e.2.2/\(e.1=2->A.Mk f (A.S e.2.1))
def isS(A:At)(s:Nat):Prop:=∃r,r<A.nr/\s=A.S r
def met(A:At)(s:Nat):Prop:=A.Rc A.isS A.leads s
open Classical in
def K9(A:At)(s:Nat):List Ed:=if A.met s then(A.cs s).filter (λe=>decide<|A.leads e)else[]
def trim(A:At):At:={A with eg:=(fZ A.ns).map A.K9}
def TJ(h:A.Ok)(s:Nat):A.trim.cs s=A.K9 s:=by
 show((fZ A.ns).map A.K9)[s]?.getD []=_
 by_cases hs:s<A.ns
 .rw[bD,List.getElem?_range hs];rfl
 .rw[fC (by simpa using hs)];show[]=A.K9 s;unfold K9;rw[QX h.zJ hs];split<;>rfl
def ad3:e∈A.K9 s<->A.met s/\e∈A.cs s/\A.leads e:=by
 classical
 unfold K9;split
 .next h=>simp[h]
 .next h=>simp[h]
def CZ(h:A.Ok):e∈A.trim.cs s<->A.met s/\e∈A.cs s/\A.leads e:=by rw[TJ h];exact ad3
def aha{l:List (List Ed)}{av:Nat->List Ed}(hf:∀i(h:i<l.length),(av i).length<=(l[i]).length)(hn:n<=l.length):(((fZ n).map av).map gz).sum<=(l.map gz).sum:=by
 have key:∀n,n<=l.length->(((fZ n).map av).map gz).sum<=((l.take n).map gz).sum:=by
  intro n
  induction n with
  |zero=>intro _;simp
  |succ n ih=>
   intro h;have Q:=ih N;have I:=hf n N;rw[List.range_succ,eO,au N];simp only[dG,lF,iA,jy,tq,List.sum_nil,Option.toList]at Q|-;omega
 refine aX (key n hn) ?_
 have:(l.map gz).sum=((l.take n).map gz).sum+((l.drop n).map gz).sum:=by
  rw[<-lF,<-dG,iO]
 omega
def pre(A:At)(i:Nat):Nat:=((A.eg.take i).map gz).sum
def yZ(h:A.Ok)(i:Nat):A.pre i<=100000:=by
 have:(A.eg.map gz).sum=A.pre i+((A.eg.drop i).map gz).sum:=by
  unfold pre;rw[<-lF,<-dG,iO]
 have:=h.tot;omega
def vX(h:A.Ok)(hi:i<A.ns):A.pre (i+1)=A.pre i+(A.cs i).length:=by
 unfold pre cs;have:i<A.eg.length:=by rw[h.zJ];exact hi
 rw[eO,au this];simp only[dG,lF,iA,jy,tq,List.sum_nil,Option.toList,nS];omega
def Ok.len(h:A.Ok)(s:Nat):(A.cs s).length<=100000:=by
 by_cases hs:s<A.ns
 .have:=vX h hs;have:=yZ h<|s+1;omega
 .rw[QX h.zJ hs];simp
theorem Jh(h:A.Ok):A.trim.Ok where
 pos:=h.pos
 VJ:=h.VJ
 XX:=h.XX
 zJ:=by show((fZ A.ns).map A.K9).length=A.ns;simp
 big:=h.big
 few:=h.few
 s:=h.s
 p:=h.p
 o:=h.o
 e:=λs hs e he=>h.e s hs e ((CZ h).1 he).2.1
 tot:=aX (aha (λi hi=>by
  classical
  have:A.cs i=A.eg[i]:=by unfold cs;rw[au hi];rfl
  unfold K9;split
  .rw[this];exact mX _ _
  .exact bg _) (rH h.zJ.symm)) h.tot
def Mk.mono(h:A.Mk tok s):A.Mk f s:=by
 induction h with
 |stop r R=>exact .stop r R
 |edge s e he _ _ _ ih1 ih2=>exact .edge s e he (λ_=>rfl) ih1 ih2
def QY(h:A.met s)(he:e∈A.cs s)(hl:A.leads e):A.met e.2.2:=.step s e h he hl
def afR(R:r<A.nr):A.met (A.S r):=.base _ ⟨r,R,O⟩
def Ok.call(h:A.Ok)(he:e∈A.cs s)(hk:e.1=2):e.2.1<A.nr:=by
 have hs:s<A.ns:=by
  apply rG;intro hs;rw[QX h.zJ hs]at he;cases he
 obtain⟨_,_,h3⟩:=h.e s hs e he;rcases h3 with h3|h3|h3<;>omega
def Ok.lt(h:A.Ok)(he:e∈A.cs s):s<A.ns:=by
 apply rG;intro hs;rw[QX h.zJ hs]at he;cases he
def Mk.trim(h:A.Ok)(hm:A.Mk tok s):A.met s->A.trim.Mk tok s:=by
 induction hm with
 |stop r R=>exactλ_=>.stop (A:=A.trim) r R
 |edge s e he ht y I ih1 ih2=>
  intro hs;have hl:A.leads e:=⟨I.mono,λhk=>(y hk).mono⟩;exact .edge (A:=A.trim) s e ((CZ h).2 ⟨hs,he,hl⟩) ht (λhk=>ih1 hk<|afR<|h.call he hk)<|ih2<|QY hs he hl
def KJ(h:A.Ok)(he:e∈A.trim.cs s):A.trim.leads e:=by
 obtain⟨Q,I,h3⟩:=(CZ h).1 he;refine⟨h3.1.trim h<|QY Q I h3,λhk=>(h3.2 hk).trim h<|afR<|h.call I hk⟩
def ahc(h:A.Ok)(hw:∀s e,e∈A.trim.cs s->w e):A.trim.Rc A.isS w s<->A.met s:=by
 constructor
 .intro hs
  induction hs with
  |base s hs=>exact .base s hs
  |step s e _ he _ ih=>
   obtain⟨Q,I,h3⟩:=(CZ h).1 he;exact .step s e ih I h3
 .intro hs
  induction hs with
  |base s hs=>exact .base s hs
  |step s e h0 he hl ih=>
   have:e∈A.trim.cs s:=(CZ h).2 ⟨h0,he,hl⟩;exact .step s e ih this<|hw s e this
def QZ(h:A.Ok):A.trim.met s<->A.met s:=ahc h λs e he=>KJ h he
def XY(h:A.Ok):A.trim.trim=A.trim:=by
 have h':=Jh h
 have key:∀s,A.trim.K9 s=A.K9 s:=by
  classical
  intro s;rw[<-TJ h s];unfold K9
  by_cases hs:A.met s
  .rw[if_pos ((QZ h).2 hs)];apply List.filter_eq_self.2;intro e he;exact bG<|KJ h he
  .rw[if_neg (λg=>hs<|(QZ h).1 g),TJ h s];unfold K9;rw[if_neg hs]
 unfold trim;show At.mk A.nm A.st A.sp A.ow ((fZ A.ns).map (A.trim).K9) A.ty=At.mk A.nm A.st A.sp A.ow ((fZ A.ns).map A.K9) A.ty;rw[show A.trim.K9=A.K9 from funext key]
def isF(A:At)(e:Ed):Prop:=e.1=0\/(e.1=2/\A.Mk aA (A.S e.2.1))
def fre(A:At)(s:Nat):Nat->Prop:=A.Rc (·=s) A.isF
def Rc.own(h:A.Ok){av:Nat->Prop}(hf:∀s,av s->s<A.ns/\A.aj s=k)(hs:A.Rc av w s):s<A.ns/\A.aj s=k:=by
 induction hs with
 |base s hs=>exact hf s hs
 |step s e _ he _ ih=>
  obtain⟨Q,I,_⟩:=h.e s ih.1 e he;exact⟨Q,I.trans ih.2⟩
def Mk.own(h:A.Ok)(hm:A.Mk tok s):s<A.ns:=by
 cases hm with
 |stop r R=>exact(h.p r R).1
 |edge _ e he _ _ _=>exact h.lt he
end At
end
section
open Go.Ae
def on(mk:List Bool)(s:Nat):Prop:=mk[s]?=Z f
def afS(h:on mk s):s<mk.length:=(bA.1 h).1
def EG{t:Nat}(hs:s<mk.length):on (mk.set s f) t<->s=t\/on mk t:=by
 unfold on;rw[dB]
 by_cases h:s=t
 .subst h;simp[hs]
 .simp[h]
def off:List Bool->Nat
 |[]=>0
 |b::l=>(if b=f then 0 else 1)+off l
def VK:∀{mk:List Bool}{s:Nat},mk[s]?=Z aA->off (mk.set s f)+1=off mk
 |[],s,h=>by simp at h
 |b::l,0,h=>by
  simp at h;subst h;simp[off];omega
 |b::l,s+1,h=>by
  have:=VK (mk:=l) (s:=s) (by simpa using h);simp only[jo,off];omega
def Ox:∀n,off (aU n aA)=n
 |0=>rfl
 |n+1=>by
  have:=Ox n;rw[List.replicate_succ];simp[off,this];omega
structure MJ(n:Nat)(h1 P:Nat->Prop)(mk:List Bool)(nx:List Nat):Prop where
 len:mk.length=n
 snd:∀s,on mk s->h1 s
 cov:∀s,on mk s->s∈nx\/P s
 pon:∀s,P s->on mk s
 nxo:∀s∈nx,on mk s
def mu(mk:List Bool)(nx:List Nat):Nat:=2*off mk+nx.length
variable{h1 P:Nat->Prop}{nx:List Nat}
def MJ.nil(n:Nat)(h1:Nat->Prop):MJ n h1 (λ_=>False) (aU n aA) []:=by
 refine⟨by simp,?_,?_,λs h=>h.elim,λs h=>nomatch h⟩<;>
 .intro s h;unfold on at h;rw[ku]at h;split at h<;>simp at h
def MJ.mark(h:MJ n h1 P mk nx)(hs:mk[s]?=Z aA)(hq:h1 s):MJ n h1 P (mk.set s f) (nx++[s])/\on (mk.set s f) s/\(∀t,on mk t->on (mk.set s f) t)/\mu (mk.set s f) (nx++[s])+1=mu mk nx:=by
 have hl:=(bA.1 hs).1;refine⟨⟨by rw[bF];exact h.len,λt ht=>?_,λt ht=>?_,λt ht=>(EG hl).2<|.inr<|h.pon t ht,λt ht=>?_⟩,(EG hl).2<|.inl O,λt ht=>(EG hl).2<|.inr ht,?_⟩
 .rcases(EG hl).1 ht with rfl|ht
  .exact hq
  .exact h.snd t ht
 .rcases(EG hl).1 ht with rfl|ht
  .exact .inl (by simp)
  .exact(h.cov t ht).imp_left λg=>cZ _ g
 .rcases bX.1 ht with ht|ht
  .exact(EG hl).2<|.inr<|h.nxo t ht
  .exact(EG hl).2<|.inl (aO.1 ht).symm
 .have:=VK hs;unfold mu;rw[aQ];show _+(nx.length+1)+1=_;omega
def MJ.pop(h:MJ n h1 P mk<|nx++[s]):MJ n h1 (λt=>P t\/t=s) mk nx:=by
 refine⟨h.len,h.snd,λt ht=>?_,λt ht=>?_,λt ht=>h.nxo t<|cZ _ ht⟩
 .rcases h.cov t ht with Q|Q
  .rcases bX.1 Q with Q|Q
   .exact .inl Q
   .exact .inr<|.inr<|aO.1 Q
  .exact .inr<|.inl Q
 .rcases ht with ht|rfl
  .exact h.pon t ht
  .exact h.nxo _ (by simp)
def abz(mk:List Bool)(nx:List Nat)(s:Nat):mu mk nx+1=mu mk (nx++[s]):=by
 unfold mu;rw[aQ];rfl
def MJ.wk(h:MJ n h1 P mk nx)(hp:∀t,P t<->P' t):MJ n h1 P' mk nx:=
 ⟨h.len,h.snd,λt ht=>(h.cov t ht).imp_right (hp t).1,λt ht=>h.pon t<|(hp t).2 ht,h.nxo⟩
namespace At
variable{A:At}{tok:Bool}
def VL(tok:Bool)(e:Ed):Prop:=e.1=1->tok=f
def Clo(A:At)(tok:Bool)(P:Nat->Prop)(mk:List Bool):Prop:=∀s e,e∈A.cs s->VL tok e->P e.2.2->(e.1=2->P (A.S e.2.1))->on mk s
def Clo.step{cur:Nat}{mk':List Bool}(h:A.Clo tok P mk)(hm:∀t,on mk t->on mk' t)(Q:∀s e,e∈A.cs s->VL tok e->e.2.2=cur->(e.1=2->P (A.S e.2.1)\/A.S e.2.1=cur)->on mk' s)(I:∀s e,e∈A.cs s->e.1=2->A.S e.2.1=cur->(P e.2.2\/e.2.2=cur)->on mk' s):A.Clo tok (λt=>P t\/t=cur) mk':=by
 intro s e he hk ht y;rcases ht with ht|ht
 .by_cases hc2:e.1=2/\A.S e.2.1=cur
  .exact I s e he hc2.1 hc2.2<|.inl ht
  .refine hm s (h s e he hk ht λhk2=>?_);rcases y hk2 with h3|h3
   .exact h3
   .exact absurd ⟨hk2,h3⟩ hc2
 .exact Q s e he hk ht y
def ad4(ho:A.Ok)(h:MJ A.ns (A.Mk tok) P mk [])(y:A.Clo tok P mk)(hp:∀r,r<A.nr->on mk (A.P r))(s:Nat):on mk s<->A.Mk tok s:=by
 refine⟨h.snd s,λhm=>?_⟩;have hP:∀t,on mk t->P t:=λt ht=>(h.cov t ht).resolve_left λg=>nomatch g
 induction hm with
 |stop r R=>exact hp r R
 |edge s e he ht _ _ ih1 ih2=>exact y s e he ht (hP _ ih2) λhk=>hP _<|ih1 hk
def VM{av:Nat->Prop}{w:Ed->Prop}(h:MJ A.ns (A.Rc av w) P mk [])(y:∀s e,P s->e∈A.cs s->w e->on mk e.2.2)(hf:∀s,av s->on mk s)(s:Nat):on mk s<->A.Rc av w s:=by
 refine⟨h.snd s,λhm=>?_⟩;have hP:∀t,on mk t->P t:=λt ht=>(h.cov t ht).resolve_left λg=>nomatch g
 induction hm with
 |base s hs=>exact hf s hs
 |step s e _ he hw ih=>exact y s e (hP _ ih) he hw
end At
end
end Go.Proofs.Lu
namespace Go.Proofs.Lv
open Go.Proofs.Lu
open Go.Ae Go.Ae.SH
variable{ae D':Nat->Ed->Prop}{K:D->D->F->Prop}{ok w:Ed->Prop}{key:Ed->Nat}{c c' dm es fc i k m n o r u s t x:Nat}{mk mk':List Bool}{a ca fa ia:Option Addr}{E vs:List D}{L L' SH gb:List dJ}{A:At}{l:List (Nat×Ed)}{e e0:Ed}{ty:aG}{H C H0:F}{fl nx':List Nat}{F' h1:Nat->Prop}
section
variable{S:List Nat}{ax:Nat->Prop}
def zq:List Ed->List D
 |[]=>[]
 |e::l=>B e.1::B e.2.1::B e.2.2::zq l
def Ji:∀l,(zq l).length=l.length*3
 |[]=>rfl
 |e::l=>by
  have:=Ji l;simp only[zq,cr];omega
def Oy:∀l l',zq (l++l')=zq l++zq l'
 |[],l'=>rfl
 |e::l,l'=>by simp only[bE,zq,Oy l l']
def abA:∀{l:List Ed}{i:Nat}{e:Ed},l[i]?=Z e->El (zq l) 3 i=[B e.1,B e.2.1,B e.2.2]
 |[],i,e,h=>by simp at h
 |x::l,0,e,h=>by
  simp at h;subst h;simp[El,zq]
 |x::l,i+1,e,h=>by
  have:=abA (l:=l) (i:=i) (by simpa using h);rw[<-this];unfold El;rw[show(i+1)*3=i*3+3 by omega];rfl
structure AV where
 na:Option Addr
 sa:Option Addr
 pa:Option Addr
 oa:Option Addr
 ea:Option Addr
 nc:Nat
 sc:Nat
 pc:Nat
 oc:Nat
 ec:Nat
def AV.cells(q:AV)(A:At):List D:=[T q.na A.nr q.nc,T q.sa A.nr q.sc,T q.pa A.nr q.pc,T q.oa A.ns q.oc,T q.ea A.ns q.ec,B A.ty]
abbrev AV.v(q:AV)(A:At):D:=.agg ⟨q.cells A⟩
def EdM(ax:Nat->Prop)(H:F)(A:At)(evs:List D):Prop:=∀i,i<A.ns->∃a c,evs[i]?=Z (.slice a (A.cs i).length c)/\i_ ax 121 H a (A.cs i).length 3 (zq<|A.cs i)
structure rX(ax:Nat->Prop)(H:F)(A:At)(q:AV):Prop where
 n:i_ ax 9 H q.na A.nr 1 (A.nm.map .string)
 s:i_ ax 3 H q.sa A.nr 1 (fG A.st)
 p:i_ ax 3 H q.pa A.nr 1 (fG A.sp)
 o:i_ ax 3 H q.oa A.ns 1 (fG A.ow)
 e:∃evs,i_ ax 119 H q.ea A.ns 1 evs/\EdM ax H A evs
variable{q:AV}
def rX.ex(h:rX ax H A q)(J:Ext H C):rX ax C A q:=
 ⟨h.n.ex J,h.s.ex J,h.p.ex J,h.o.ex J,let⟨evs,Q,I⟩:=h.e;⟨evs,Q.ex J,λi hi=>let⟨a,c,h3,h4⟩:=I i hi;⟨a,c,h3,h4.ex J⟩⟩⟩
def rX.wk(h:rX ax H A q)(hF:∀r,ax r->F' r):rX F' H A q:=
 ⟨h.n.wk hF,h.s.wk hF,h.p.wk hF,h.o.wk hF,let⟨evs,Q,I⟩:=h.e;⟨evs,Q.wk hF,λi hi=>let⟨a,c,h3,h4⟩:=I i hi;⟨a,c,h3,h4.wk hF⟩⟩⟩
def rX.stay(h:rX ax H A q)(J:oz S H C)(G:∀r∈S,¬ax r):rX ax C A q:=
 ⟨h.n.stay J λr R=>.inl<|G r R,h.s.stay J λr R=>.inl<|G r R,h.p.stay J λr R=>.inl<|G r R,h.o.stay J λr R=>.inl<|G r R,let⟨evs,Q,I⟩:=h.e;⟨evs,Q.stay J λr R=>.inl<|G r R,λi hi=>let⟨a,c,h3,h4⟩:=I i hi;⟨a,c,h3,h4.stay J λr R=>.inl<|G r R⟩⟩⟩
def y_{l:List Nat}(h:k<l.length):(fG l)[k]?=Z (B<|l[k]?.getD 0):=by
 rw[bD,au h];rfl
def jV(q:AV)(A:At):bI (q.v A)=q.cells A:=rfl
section steps
def rX.ldS(h:rX ax H A q)(ho:A.Ok)(hk:k<A.nr)(kk:∀p,K p (B<|A.S k) H):PU (Ac 1 (T q.sa A.nr q.sc)<|B k) λp=>ME (uP W p H) (K p):=h.s.ix hk (y_ (by rw[ho.VJ];exact hk)) kk
def rX.ldP(h:rX ax H A q)(ho:A.Ok)(hk:k<A.nr)(kk:∀p,K p (B<|A.P k) H):PU (Ac 1 (T q.pa A.nr q.pc)<|B k) λp=>ME (uP W p H) (K p):=h.p.ix hk (y_ (by rw[ho.XX];exact hk)) kk
def rX.Ay(h:rX ax H A q)(hk:k<A.ns)(kk:∀p,K p (B<|A.aj k) H):PU (Ac 1 (T q.oa A.ns q.oc)<|B k) λp=>ME (uP W p H) (K p):=h.o.ix hk (y_ hk) kk
def rX.ldE(h:rX ax H A q)(J:Ext H C)(hk:k<A.ns)(kk:∀p a c,i_ ax 121 H a (A.cs k).length 3 (zq<|A.cs k)->K p (.slice a (A.cs k).length c) C):PU (Ac 1 (T q.ea A.ns q.ec)<|B k) λp=>ME (uP W p C) (K p):=by
 obtain⟨evs,Q,I⟩:=h.e;obtain⟨a,c,h3,h4⟩:=I k hk;exact(Q.ex J).ix hk h3 λp=>kk p a c h4
def IU{l:List Ed}(h:i_ ax 121 H a l.length 3<|zq l)(hk:k<l.length)(kk:∀p,K p (.agg ⟨[B l[k].1,B l[k].2.1,B l[k].2.2]⟩) H):PU (Ac 3 (T a l.length c)<|B k) λp=>ME (uP (Z 3) p H) (K p):=
 h.Xw N hk (abA<|au hk) kk
end steps
def Qe(p:D->F->Prop)(H:F)(v:D)(C:F):Prop:=p v C/\Ext H C
def qP(hw:Wf H)(q:AV)(A:At):aJ Pg X 35 [q.v A] H (Qe (λv _=>v=B A.ns) H):=by
 have G:=M.refl hw;refine ce [0,1,2] ?_;refine tl ?_;refine G.box O λH1 u G=>?_;rw[jV]at G;unfold AV.cells at G;refine d_ ?_;refine rr ?_;exact⟨O,G.ext⟩
end
variable{q:AV}
section
variable{S:List Nat}{ax:Nat->Prop}
abbrev pt(r:Nat):D:=.pointer<|Z ⟨r,0,W⟩
def Oz(hw:Wf H)(h:rX ax H A q){rn:Nat}(Q:H.cell rn 0=Z (B A.ns))(h1':rn<H.next)(I:H.cell u 3=Z (T q.oa A.ns q.oc))(h2':u<H.next)(hs:s<A.ns)(R:A.aj s=r):
 aJ Pg X 110 [B s,B r,pt rn,pt u] H (Qe (λv _=>v=.bool f) H):=by
 have G:=M.refl hw;refine ce [0,1,2,3,6] ?_;refine tp ?_;refine aC (λy=>?_) λy=>absurd N y;refine G.Ay Q h1' ?_;refine aY ?_;refine aC (λy=>?_) λy=>absurd N y;refine G.Ay I h2'<|h.Ay hs λp=>?_;rw[R];refine aY ?_;refine rr ?_;exact⟨by simp,Ext.refl _⟩
theorem sU(hw:Wf H)(h:rX ax H A q)(ho:A.Ok):aJ Pg X 76 [q.v A] H (Qe (λv _=>v=.bool f) H):=by
 have G:=M.refl hw;refine ce [0,1,2,3,4,5,6,7,8,10,45,46,71,72,73,89,90,91,102] ?_;refine tl ?_;refine G.box O λH1 u G=>?_;rw[jV]at G;unfold AV.cells at G;refine d_ ?_;refine G.nD λH2 rn G f1=>G.lW λHn G=>?_;have n1:rn≠u:=G.nq 0 1 O O N;refine splitK (λK hK=>?_) ?_
 .simp only[f1,eG,fT];apply lX (a:=rn) (b:=u) n1 (by intros;rfl) (by kernel_rfl) (by kernel_rfl) hK
 have hpos:=ho.pos;have hbig:=ho.big;have KL:=ho.few;refine aC (λy=>absurd y N) λy=>?_;refine d_ ?_;refine bT (λy=>absurd trivial y) λ_=>?_;refine d_ ?_;refine bT (λy=>absurd trivial y) λ_=>?_;refine d_ ?_;refine bT (λy=>absurd trivial y) λ_=>?_;refine d_ ?_;refine aC (λy=>absurd y N) λ_=>?_;have G:M [] H _ [(rn,3,[B A.ns]),(u,27,[T q.na A.nr q.nc,T q.sa A.nr q.sc,T q.pa A.nr q.pc,T q.oa A.ns q.oc,T q.ea A.ns q.ec,B A.ty])]:=G
 have key:∀{C:F}{L':List dJ},M [] H C L'->(rn,3,[B A.ns])∈L'->(u,27,q.cells A)∈L'->∀{s r:Nat},s<A.ns->A.aj s=r->∀{K:D->F->Prop},(∀H2,M [] H H2 L'->K (.bool f) H2)->nJ Pg X (Ls<|.func (.func 110) ⟨[]⟩ ⟨[pt rn,pt u]⟩) [B s,B r] C K:=by
  intro C L' G m1 m2 s r hs R K kk;show aJ Pg X 110 [B s,B r,pt rn,pt u] C K;refine aJ.mono (Oz G.wf (h.ex G.ext) ((G.bk _ m1).cell O) (G.lo _ m1).2 ((G.bk _ m2).cell (o:=3) O) (G.lo _ m2).2 hs R) ?_;rintro v H2 ⟨rfl,J⟩;exact kk H2<|G.call J
 have m1:((rn,3,[B A.ns]):dJ)∈([(rn,3,[B A.ns]),(u,27,q.cells A)]:List dJ):=by simp
 have m2:((u,27,q.cells A):dJ)∈([(rn,3,[B A.ns]),(u,27,q.cells A)]:List dJ):=by simp
 refine tl ?_;refine Ig 2 6 46 (h2:=λm x2 x6 x46 C=>∃i:Nat,x46=B i/\i+m=A.nr/\M [] H C [(rn,3,[B A.ns]),(u,27,[T q.na A.nr q.nc,T q.sa A.nr q.sc,T q.pa A.nr q.pc,T q.oa A.ns q.oc,T q.ea A.ns q.ec,B A.ty])]) ?_ A.nr ⟨0,rfl,N,G⟩;clear G;rintro m x2 x6 x46 mO H3 ⟨i,rfl,him,G⟩;refine tp ?_;refine aC (λy=>?_) λy=>?_
 .have hi:i<A.nr:=by omega
  refine G.oF<|(h.ex G.ext).ldS ho hi λp=>key G m1 m2 (ho.s i hi).1 (ho.s i hi).2 λH4 G=>?_;refine aY ?_;refine dL (λhb=>by cases hb) λ_=>?_;refine G.oF<|(h.ex G.ext).ldP ho hi λp=>key G m1 m2 (ho.p i hi).1 (ho.p i hi).2 λH5 G=>?_;refine aY ?_;refine dL (λhb=>by cases hb) λ_=>?_;refine dU ?_;exact⟨A.nr-(i+1),N,_,_,_,_,_,O,i+1,nX,N,G⟩
 refine tm ?_;refine lp9 2 7 8 10 73 89 90 91 102 (h2:=λm x2 x7 x8 jh x73 x89 x90 x91 x102 C=>∃i:Nat,x73=B i/\i+m=A.ns/\M [] H C [(rn,3,[B A.ns]),(u,27,[T q.na A.nr q.nc,T q.sa A.nr q.sc,T q.pa A.nr q.pc,T q.oa A.ns q.oc,T q.ea A.ns q.ec,B A.ty])]) ?_ A.ns ⟨0,rfl,N,G⟩;clear G y him;rintro m x2 x7 x8 jh x73 x89 x90 x91 x102 mO H4 ⟨s,rfl,him,G⟩;refine tp ?_;refine aC (λy=>?_) λy=>?_;rotate_left
 .refine tl<|rr ?_;exact⟨O,G.ext⟩
 have hs:s<A.ns:=by omega
 refine(h.ex G.ext).Ay hs λp=>?_;refine aY ?_;have hO:=ho.o s hs;refine aC (λy=>absurd y N) λ_=>?_;refine aC (λy=>absurd y N) λ_=>?_;refine tm ?_;refine h.ldE G.ext hs λp ea ec hE=>?_;refine aY ?_;have hx0:=G.ext;refine Oa 2 10 91 102 (h2:=λm x2 jh x91 x102 C=>∃k:Nat,x91=B k/\k+m=(A.cs s).length/\M [] H C [(rn,3,[B A.ns]),(u,27,[T q.na A.nr q.nc,T q.sa A.nr q.sc,T q.pa A.nr q.pc,T q.oa A.ns q.oc,T q.ea A.ns q.ec,B A.ty])]) ?_ (A.cs s).length ⟨0,rfl,N,G⟩;clear G y;rintro m' x2 jh x91 x102 mO H5 ⟨k,rfl,hkm,G⟩;refine tp ?_;refine aC (λy=>?_) λy=>?_;rotate_left
 .refine tl ?_;refine dU ?_;exact⟨A.ns-(s+1),N,_,_,_,_,_,_,_,_,_,_,_,O,s+1,nX,N,G⟩
 have hk:k<(A.cs s).length:=by omega
 refine IU (hE.ex G.ext) hk λp=>?_;have hmem:=bB hk;obtain⟨g1,g2,g3⟩:=ho.e s hs _ hmem;generalize hee:(A.cs s)[k]=e at g1 g2 g3|-;refine G.ns O O O λH6 re G hx6=>?_;have G:M [] H H6 [(re,121,[B e.1,B e.2.1,B e.2.2]),(rn,3,[B A.ns]),(u,27,[T q.na A.nr q.nc,T q.sa A.nr q.sc,T q.pa A.nr q.pc,T q.oa A.ns q.oc,T q.ea A.ns q.ec,B A.ty])]:=G;refine d_ ?_;have hx5:=G.ext;have hS0:=G;refine key G (bH _ m1) (bH _ m2) g1 g2 λH7 G=>?_;refine aY ?_;refine dL (λhb=>by cases hb) λ_=>?_;have G:M [] H H7 ((re,121,[B e.1,B e.2.1,B e.2.2])::[(rn,3,[B A.ns]),(u,27,[T q.na A.nr q.nc,T q.sa A.nr q.sc,T q.pa A.nr q.pc,T q.oa A.ns q.oc,T q.ea A.ns q.ec,B A.ty])]):=G;refine d_ ?_
 have hkb:k<1000000000:=by
  have:=ho.len s;omega
 rcases g3 with g3|⟨g3,g4⟩|⟨g3,g4⟩
 .refine aC (λ_=>?_) (λy=>absurd N y);refine dU ?_;exact⟨(A.cs s).length-(k+1),N,_,_,_,_,_,_,O,k+1,nX,N,M.drop (A:=[_]) G⟩
 .refine aC (λy=>absurd y N) (λ_=>?_);refine aC (λ_=>?_) λy=>absurd N y;refine d_ ?_;refine aC (λy=>absurd y N) λ_=>?_;refine d_ ?_;refine aC (λy=>absurd y N) λ_=>?_;refine dU ?_;exact⟨(A.cs s).length-(k+1),N,_,_,_,_,_,_,O,k+1,nX,N,M.drop (A:=[_]) G⟩
 .refine aC (λy=>absurd y N) (λ_=>?_);refine aC (λy=>absurd y N) λ_=>?_;refine aC (λ_=>?_) λy=>absurd N y;refine d_ ?_;refine aC (λy=>absurd y N) λ_=>?_;refine d_ ?_;refine aC (λy=>absurd y N) λ_=>?_;refine dU ?_;exact⟨(A.cs s).length-(k+1),N,_,_,_,_,_,_,O,k+1,nX,N,M.drop (A:=[_]) G⟩
end
section
variable{S:List Nat}{ax:Nat->Prop}
def _root_.Go.Ae.GB.sl{v:D}(h:GB ty es v E gb):∃a n c,v=T a n c:=by
 rcases h with⟨rfl,_⟩|⟨r,n,dY,rfl,_⟩<;>exact⟨_,_,_,O⟩
def Ms(m x dm n:Nat)(mk:List Bool)(nx:List Nat)(SH:List dJ):Prop:=∃nv gb,SH=(m,34,[T (Z ⟨dm,0,W⟩) n n])::(x,22,[nv])::(dm,4,bools mk)::gb/\GB 3 1 nv (fG nx) gb/\mk.length=n
def Mkd(s:Nat)(mk:List Bool)(nx:List Nat)(mk':List Bool)(nx':List Nat):Prop:=(mk[s]?=Z f/\mk'=mk/\nx'=nx)\/(mk[s]?=Z aA/\mk'=mk.set s f/\nx'=nx++[s])
def Gx{nx:List Nat}(hM:Ms m x dm n mk nx SH)(G:M S H0 H<|SH++L)(hs:s<n)(hb:nx.length<=1000000):
 aJ Pg X 111 [B s,pt m,pt x] H λv C=>∃mk' nx' M',Ms m x dm n mk' nx' M'/\M S H0 C (M'++L)/\Mkd s mk nx mk' nx':=by
 obtain⟨nv,gb,rfl,hg,hl⟩:=hM;have G:M S H0 H ((m,34,[T (Z ⟨dm,0,W⟩) n n])::(x,22,[nv])::(dm,4,bools mk)::(gb++L)):=G;refine ce [0,1,2] ?_;refine tl ?_;refine G.oF ?_;obtain⟨b,hb1⟩:∃b,mk[s]?=Z b:=⟨_,au N⟩;refine G.ix (v:=.bool b) hs (kU _ hb1) λp=>?_;refine aY ?_;refine dL (λhb2=>?_) λhb2=>?_
 .obtain rfl:b=aA:=by cases b<;>simp_all
  refine G.oF ?_;refine G.YD hs (by simp;omega) (kk:=λp H1 G=>?_);refine G.oF<|hg.push (G.perm<|iE [_,_,_] gb L) N O O O O O N (by simpa using(by omega:nx.length<=16777216)) λw v' H2 gT hg' G=>?_;have G:=G.perm<|iE gT [(m,34,[T (Z ⟨dm,0,W⟩) n n]),(x,22,[nv]),(dm,4,(bools mk).set s<|.bool f)] L;simp only[bE,bK]at G;obtain⟨va,vl,vc,rfl⟩:=hg'.sl;refine G.jE λHn G=>?_;refine rn ?_;refine⟨mk.set s f,nx++[s],_,⟨T va vl vc,gT,O,?_,by rw[bF];exact hl⟩,?_,.inr ⟨hb1,O,O⟩⟩
  .have:fG (nx++[s])=fG nx++[B s]:=by simp
   rw[this];exact hg'
  .have:bools (mk.set s f)=(bools mk).set s (.bool f):=fV;rw[this];exact G
 .obtain rfl:b=f:=by cases b<;>simp_all
  refine rn ?_;exact⟨mk,nx,_,⟨nv,gb,O,hg,hl⟩,G,.inl ⟨hb1,O,O⟩⟩
def XZ{nx:List Nat}(hM:Ms m x dm n mk nx SH)(G:M S H0 H<|SH++L)(hs:s<n)(hb:nx.length<=1000000):
 aJ Pg X 112 [B s,pt m,pt x] H λv C=>∃mk' nx' M',Ms m x dm n mk' nx' M'/\M S H0 C (M'++L)/\Mkd s mk nx mk' nx':=by
 obtain⟨nv,gb,rfl,hg,hl⟩:=hM;have G:M S H0 H ((m,34,[T (Z ⟨dm,0,W⟩) n n])::(x,22,[nv])::(dm,4,bools mk)::(gb++L)):=G;refine ce [0,1,2] ?_;refine tl ?_;refine G.oF ?_;obtain⟨b,hb1⟩:∃b,mk[s]?=Z b:=⟨_,au N⟩;refine G.ix (v:=.bool b) hs (kU _ hb1) λp=>?_;refine aY ?_;refine dL (λhb2=>?_) λhb2=>?_
 .obtain rfl:b=aA:=by cases b<;>simp_all
  refine G.oF ?_;refine G.YD hs (by simp;omega) (kk:=λp H1 G=>?_);refine G.oF<|hg.push (G.perm<|iE [_,_,_] gb L) N O O O O O N (by simpa using(by omega:nx.length<=16777216)) λw v' H2 gT hg' G=>?_;have G:=G.perm<|iE gT [(m,34,[T (Z ⟨dm,0,W⟩) n n]),(x,22,[nv]),(dm,4,(bools mk).set s<|.bool f)] L;simp only[bE,bK]at G;obtain⟨va,vl,vc,rfl⟩:=hg'.sl;refine G.jE λHn G=>?_;refine rn ?_;refine⟨mk.set s f,nx++[s],_,⟨T va vl vc,gT,O,?_,by rw[bF];exact hl⟩,?_,.inr ⟨hb1,O,O⟩⟩
  .have:fG (nx++[s])=fG nx++[B s]:=by simp
   rw[this];exact hg'
  .have:bools (mk.set s f)=(bools mk).set s (.bool f):=fV;rw[this];exact G
 .obtain rfl:b=f:=by cases b<;>simp_all
  refine rn ?_;exact⟨mk,nx,_,⟨nv,gb,O,hg,hl⟩,G,.inl ⟨hb1,O,O⟩⟩
end
section
variable{S:List Nat}{ax:Nat->Prop}{P:Nat->Prop}{nx:List Nat}
def Mkd.mj(h:Mkd s mk nx mk' nx')(hJ:MJ n h1 P mk nx)(hq:h1 s):MJ n h1 P mk' nx'/\on mk' s/\(∀t,on mk t->on mk' t)/\mu mk' nx'<=mu mk nx:=by
 rcases h with⟨Q,rfl,rfl⟩|⟨Q,rfl,rfl⟩
 .exact⟨hJ,Q,λt h=>h,az _⟩
 .obtain⟨a,b,c,d⟩:=hJ.mark Q hq;exact⟨a,b,c,N⟩
def Bs(b:Nat)(H:F)(n:Nat)(v:D)(mk:List Bool):Prop:=∃a c,v=T a n c/\mk.length=n/\i_ (b<=·) 4 H a n 1 (bools mk)
def Bs.ex{b:Nat}{v:D}(h:Bs b H n v mk)(J:Ext H C):Bs b C n v mk:=let⟨a,c,Q,I,h3⟩:=h;⟨a,c,Q,I,h3.ex J⟩
def Bs.le{b b':Nat}{v:D}(h:Bs b H n v mk)(hb:b'<=b):Bs b' H n v mk:=let⟨a,c,Q,I,h3⟩:=h;⟨a,c,Q,I,h3.le hb⟩
def Wnt(A:At)(w:Ed->Prop)(H:F)(wv:D):Prop:=∀C s e,Ext H C->Wf C->e∈A.cs s->nJ Pg X (Ls wv) [.agg ⟨[B e.1,B e.2.1,B e.2.2]⟩] C (Qe (λv _=>∃b:Bool,v=.bool b/\(b=f<->w e)) C)
def VN(hJ:mu mk nx<=8000):nx.length<=1000000:=by unfold mu at hJ;omega
theorem M0(hw:Wf H)(h:rX ax H A q)(ho:A.Ok)(hf:i_ ax 3 H fa fl.length 1<|fG fl)(hfl:∀s∈fl,s<A.ns)(hfn:fl.length<=1000000){wv:D}(hwv:Wnt A w H wv):
 aJ Pg X 79 [q.v A,T fa fl.length fc,wv] H (Qe (λv C=>∃mk,Bs H.next C A.ns v mk/\∀s,on mk s<->A.Rc (·∈fl) w s) H):=by
 have G:=M.refl hw;have hbig:=ho.big;refine ce [0,1,2,3,6,7,8,9,11,12,14,19,20,21,47,48,49] ?_;refine tl ?_;refine G.box O λH1 u G=>?_;rw[jV]at G;refine G.rF 0 O (by show 0+6<=6;omega) ?_;refine aJ.mono (qP G.wf q A) ?_;rintro v H2 ⟨rfl,J⟩;have G:=G.call J;refine G.mkS (az _) N λH3 dm G=>?_;rw[mK]at G;refine G.iZ λH4 mr G=>?_;refine G.kK ?_;refine G.jE λHn G=>G.iZ λH5 xr G=>?_;have G:M [] H H5 ([(xr,22,[T W 0 0]),(mr,34,[T (Z ⟨dm,0,W⟩) A.ns A.ns]),(dm,4,aU A.ns<|.bool aA),(u,27,q.cells A)]):=G;have G:=G.perm (L':=[(mr,34,[T (Z ⟨dm,0,W⟩) A.ns A.ns]),(xr,22,[T W 0 0]),(dm,4,aU A.ns<|.bool aA),(u,27,q.cells A)])<|gm _ _ _;have hM:Ms mr xr dm A.ns (aU A.ns aA) [] [(mr,34,[T (Z ⟨dm,0,W⟩) A.ns A.ns]),(xr,22,[T W 0 0]),(dm,4,aU A.ns<|.bool aA)]:=⟨T W 0 0,[],by simp,GB.nil _ _,by simp⟩;have hmu:mu (aU A.ns aA) []<=8000:=by unfold mu;rw[Ox];show 2*A.ns+0<=8000;omega
 have call:∀{s:Nat}{mk:List Bool}{nx:List Nat}{SH L:List dJ}{C:F}{P:Nat->Prop}{K:D->F->Prop},s<A.ns->Ms mr xr dm A.ns mk nx SH->M [] H C (SH++L)->MJ A.ns (A.Rc (·∈fl) w) P mk nx->mu mk nx<=8000->A.Rc (·∈fl) w s->
  (∀v H2 mk' nx' M',Ms mr xr dm A.ns mk' nx' M'->M [] H H2 (M'++L)->MJ A.ns (A.Rc (·∈fl) w) P mk' nx'->on mk' s->(∀t,on mk t->on mk' t)->mu mk' nx'<=mu mk nx->K v H2)->
  nJ Pg X (Ls<|.func (.func 112) ⟨[]⟩ ⟨[pt mr,pt xr]⟩) [B s] C K:=by
  intro s mk nx SH L C P K hs hM G hJ hmu hq kk;show aJ Pg X 112 [B s,pt mr,pt xr] C K;refine aJ.mono (XZ hM G hs<|VN hmu) ?_;rintro v H2 ⟨mk',nx',M',hM',hS',hk⟩;obtain⟨a,b,c,d⟩:=hk.mj hJ hq;exact kk v H2 mk' nx' M' hM' hS' a b c d
 refine lp2 11 21 (h2:=λm iL v_ C=>∃i mk nx SH,v_=B i/\i+m=fl.length/\Ms mr xr dm A.ns mk nx SH/\M [] H C (SH++[(u,27,q.cells A)])/\MJ A.ns (A.Rc (·∈fl) w) (λ_=>False) mk nx/\mu mk nx<=8000/\∀j s,j<i->fl[j]?=Z s->on mk s) ?_ fl.length ⟨0,_,_,_,rfl,N,hM,G,MJ.nil _ _,hmu,λj s hj=>absurd hj N⟩;clear G hM hmu J;rintro m iL v_ mO H6 ⟨i,mk,nx,SH,rfl,him,hM,G,hJ,hmu,hb⟩;refine tp ?_;refine aC (λy=>?_) λy=>?_
 .have hi:i<fl.length:=by omega
  have hfi:fl[i]?=Z fl[i]:=au hi;refine(hf.ex G.ext).ix hi (kU _ hfi) λp=>call (hfl _<|bB hi) hM G hJ hmu (.base _<|bB hi) λv H7 mk' nx' M' hM G hJ hon hmo abB=>?_;refine dU ?_;refine⟨fl.length-(i+1),N,_,_,_,_,O,i+1,mk',nx',M',nX,N,hM,G,hJ,N,λj s hj hs=>?_⟩;rcases bZ j i with Q|Q
  .exact hmo _<|hb j s Q hs
  .obtain rfl:j=i:=by omega
   rw[hfi]at hs;cases hs;exact hon
 have hbase:∀s,s∈fl->on mk s:=λs hs=>by
  obtain⟨j,hj,e⟩:=kg.1 hs;exact hb j s N (by rw[<-e];exact au hj)
 clear hb y him;refine tl ?_;refine Vx 12 14 47 48 49 (h2:=λm kQ rA x47 x48 LF C=>∃mk nx SH P,Ms mr xr dm A.ns mk nx SH/\M [] H C (SH++[(u,27,q.cells A)])/\MJ A.ns (A.Rc (·∈fl) w) P mk nx/\mu mk nx<=8000/\mu mk nx=m/\(∀s,s∈fl->on mk s)/\∀s e,P s->e∈A.cs s->w e->on mk e.2.2) ?_ (mu mk nx) ⟨mk,nx,SH,_,hM,G,hJ,hmu,rfl,hbase,λs e h=>h.elim⟩;clear G hM hJ hmu hbase;rintro m kQ rA x47 x48 LF mO H6 ⟨mk,nx,SH,P,hM,G,hJ,hmu,rfl,hbase,TK⟩;have hM0:=hM;obtain⟨nv,gb,rfl,hg,hl⟩:=hM;have G:M [] H H6 ((mr,34,[T (Z ⟨dm,0,W⟩) A.ns A.ns])::(xr,22,[nv])::(dm,4,bools mk)::(gb++[(u,27,q.cells A)])):=G;refine tm ?_;rcases hg with⟨rfl,hn,rfl⟩|⟨r,n,dY,rfl,hn,rfl⟩
 .obtain rfl:nx=[]:=by simpa using hn
  refine aY ?_;refine aC (λy=>absurd y N) λ_=>?_;refine tl ?_;refine G.oF<|rr ?_;refine⟨⟨mk,⟨_,_,O,hl,i_.one G (aR (i:=2) O) (by simpa using hl)<|G.wB<|aR (i:=2) O⟩,A.VM hJ TK hbase⟩,G.ext⟩
 have hn:nx.length=n:=by simpa using hn
 subst hn;refine aY ?_;refine aC (λy=>?_) λy=>?_;rotate_left
 .have:nx=[]:=dK.1 N;subst this;refine tl ?_;refine G.oF<|rr ?_;refine⟨⟨mk,⟨_,_,O,hl,i_.one G (aR (i:=2) O) (by simpa using hl)<|G.wB<|aR (i:=2) O⟩,A.VM hJ TK hbase⟩,G.ext⟩
 obtain⟨zg,cur,rfl⟩:∃a b,nx=a++[b]:=⟨nx.dropLast,nx.getLast (λe=>by subst e;simp at y),(mE _).symm⟩;have hlen:(zg++[cur]).length=zg.length+1:=by simp
 rw[hlen]at G;simp only[bE,bK]at G;have ahd:=VN hmu;rw[hlen]at ahd;refine d_ ?_;refine qX ?_;rw[show((zg.length+1:Nat):Int)-1=(zg.length:Nat) by omega];refine G.ix (v:=B cur) N (by simp) λp=>?_;refine d_ ?_;refine qX ?_;rw[show((zg.length+1:Nat):Int)-1=(zg.length:Nat) by omega];refine PU.of (Bh N)<|G.jE λHn G=>?_;refine G.oF ?_;have IV:cur<A.ns:=by have:=afS<|hJ.nxo cur (by simp);rw[hJ.len]at this;exact this
 have G:M [] H _ ((mr,34,[T (Z ⟨dm,0,W⟩) A.ns A.ns])::(xr,22,[T (Z ⟨r,0,W⟩) zg.length (fI 1)])::(dm,4,bools mk)::([(r,3,fG (zg++[cur])++dY)]++[(u,27,q.cells A)])):=G;have hJ':=hJ.pop;have TL:=abz mk zg cur;have hM:Ms mr xr dm A.ns mk zg ((mr,34,[T (Z ⟨dm,0,W⟩) A.ns A.ns])::(xr,22,[T (Z ⟨r,0,W⟩) zg.length (fI 1)])::(dm,4,bools mk)::[(r,3,fG (zg++[cur])++dY)]):=⟨_,_,O,.inr ⟨r,_,B cur::dY,O,by simp,by simp⟩,hl⟩;refine h.ldE G.ext IV λp ea ec hE=>?_;refine aY ?_;have G:M [] H _ (((mr,34,[T (Z ⟨dm,0,W⟩) A.ns A.ns])::(xr,22,[T (Z ⟨r,0,W⟩) zg.length (fI 1)])::(dm,4,bools mk)::[(r,3,fG (zg++[cur])++dY)])++[(u,27,q.cells A)]):=G;have hrc:=hJ.snd cur<|hJ.nxo cur (by simp);refine lp2 14 49 (h2:=λm rA LF C=>∃k mk' nx' SH,LF=B k/\k+m=(A.cs cur).length/\Ms mr xr dm A.ns mk' nx' SH/\M [] H C (SH++[(u,27,q.cells A)])/\MJ A.ns (A.Rc (·∈fl) w) (λt=>P t\/t=cur) mk' nx'/\mu mk' nx'<=mu mk zg/\(∀t,on mk t->on mk' t)/\∀j e,j<k->(A.cs cur)[j]?=Z e->w e->on mk' e.2.2) ?_ (A.cs cur).length ⟨0,mk,zg,_,rfl,N,hM,G,hJ',az _,λt h=>h,λj e hj=>absurd hj N⟩;clear G hM hJ';rintro m' y14 y49 LU H7 ⟨k,mk',nx',SH,rfl,hkm,hM,G,hJ',abB,hmo,hdone⟩;refine tp ?_;refine aC (λhc2=>?_) λhc2=>?_;rotate_left
 .refine⟨mu mk' nx',N,_,_,_,_,_,_,_,O,mk',nx',SH,_,hM,G,hJ',N,O,λs hs=>hmo s<|hbase s hs,λs e hs he TM=>?_⟩;rcases hs with hs|rfl
  .exact hmo _<|TK s e hs he TM
  .obtain⟨j,hj,e1⟩:=kg.1 he;exact hdone j e N (by rw[<-e1];exact au hj) TM
 have hk:k<(A.cs cur).length:=by omega
 refine IU (hE.ex G.ext) hk λp=>?_;have hmem:=bB hk;have VG:=ho.len cur;obtain⟨g1,g2,g3⟩:=ho.e cur IV _ hmem;have hke:(A.cs cur)[k]?=Z (A.cs cur)[k]:=au hk;generalize hee:(A.cs cur)[k]=e at g1 g2 g3 hke hmem|-;refine G.ns O O O λH8 re G Bw=>?_;have G:M [] H H8 ([(re,121,[B e.1,B e.2.1,B e.2.2])]++(SH++[(u,27,q.cells A)])):=G;refine G.rF 0 O (by show 0+3<=3;omega) ?_;refine nJ.mono (hwv H8 cur e G.ext G.wf hmem) ?_;rintro v H9 ⟨⟨b,rfl,hbw⟩,LW⟩;have G:=G.call LW;refine aY ?_;refine dL (λhb2=>?_) λhb2=>?_
 .refine G.ld 0 (o:=2) O O<|call g1 hM (G.perm<|iE [_] SH [_]) hJ' N (.step cur e hrc hmem<|hbw.1 hb2) λv Dm GG OA M2 hM2 hS2 hJ2 TN EH TL=>?_;refine dU ?_;refine⟨(A.cs cur).length-(k+1),N,_,_,_,_,O,k+1,GG,OA,M2,nX,N,hM2,?_,hJ2,N,λt ht=>EH t<|hmo t ht,λj e' hj he' TM=>?_⟩
  .have:=hS2.perm (iE M2 [(re,121,[B e.1,B e.2.1,B e.2.2])] [(u,27,q.cells A)]);exact M.drop (A:=[_]) this
  .rcases bZ j k with Q|Q
   .exact EH _<|hdone j e' Q he' TM
   .obtain rfl:j=k:=by omega
    rw[hke]at he';cases he';exact TN
 .refine dU ?_;refine⟨(A.cs cur).length-(k+1),N,_,_,_,_,O,k+1,mk',nx',SH,nX,N,hM,M.drop (A:=[_]) G,hJ',N,hmo,λj e' hj he' TM=>?_⟩;rcases bZ j k with Q|Q
  .exact hdone j e' Q he' TM
  .obtain rfl:j=k:=by omega
   rw[hke]at he';cases he';exact absurd (hbw.2 TM) (by rw[hb2];simp)
end
section
variable{S:List Nat}{ax:Nat->Prop}{P:Nat->Prop}{nx:List Nat}
def Rx:List (Nat×Ed)->List D
 |[]=>[]
 |p::l=>B p.1::B p.2.1::B p.2.2.1::B p.2.2.2::Rx l
def OB:∀l,(Rx l).length=l.length*4
 |[]=>rfl
 |e::l=>by
  have:=OB l;simp only[Rx,cr];omega
def VO:∀l l',Rx (l++l')=Rx l++Rx l'
 |[],l'=>rfl
 |e::l,l'=>by simp only[bE,Rx,VO l l']
def abC:∀{l:List (Nat×Ed)}{i:Nat}{p:Nat×Ed},l[i]?=Z p->El (Rx l) 4 i=[B p.1,B p.2.1,B p.2.2.1,B p.2.2.2]
 |[],i,e,h=>by simp at h
 |x::l,0,e,h=>by
  simp at h;subst h;simp[El,Rx]
 |x::l,i+1,e,h=>by
  have:=abC (l:=l) (i:=i) (by simpa using h);rw[<-this];unfold El;rw[show(i+1)*4=i*4+4 by omega];rfl
section steps
variable{v:D}
def _root_.Go.Ae.M.TP(G:M S H0 H L)[hb:zQ L r ty E](hk:k<n)(hv:E[k]?=Z v)(kk:K (.pointer<|Z ⟨r,k,W⟩) v<|hN H):
 PU (Ac 1 (T (Z ⟨r,0,W⟩) n c)<|B k) λp=>ME (uP W p<|hN H) (K p):=by
 obtain⟨i,hi⟩:=hb.at';refine PU.of (Fv hk) ?_;rw[aW];exact G.LA i hi hv kk
def _root_.Go.Ae.i_.TP(h:i_ ax ty H a n 1 E)(hk:k<n)(hv:E[k]?=Z v)(kk:∀r o,K (.pointer<|Z ⟨r,o,W⟩) v<|hN H):
 PU (Ac 1 (T a n c)<|B k) λp=>ME (uP W p<|hN H) (K p):=by
 obtain⟨r,o,Q,I,h3,_⟩:=h.1.idx (c:=c) (dI 0) hk;refine PU.of Q<|ME.ld (H:=hN H) ?_<|kk _ _;have:=h3 0 v (dI 0) (by rw[dz,dD];exact hv);exact this
def rX.ahe(h:rX ax H A q)(ho:A.Ok)(hk:k<A.nr)(kk:∀r o,K (.pointer<|Z ⟨r,o,W⟩) (B<|A.S k)<|hN H):PU (Ac 1 (T q.sa A.nr q.sc)<|B k) λp=>ME (uP W p<|hN H) (K p):=h.s.TP hk (y_ (by rw[ho.VJ];exact hk)) kk
def ajI(h:i_ ax 209 H a l.length 4<|Rx l)(hk:k<l.length)(kk:∀p,K p (.agg ⟨[B l[k].1,B l[k].2.1,B l[k].2.2.1,B l[k].2.2.2]⟩) H):PU (Ac 4 (T a l.length c)<|B k) λp=>ME (uP (Z 4) p H) (K p):=
 h.Xw N hk (abC<|au hk) kk
end steps
def ajJ(A:At)(tok:Bool)(t:Nat)(l:List<|Nat×Ed):Prop:=(∀p∈l,p.2∈A.cs p.1/\p.2.2.2=t/\At.VL tok p.2)/\∀s e,e∈A.cs s->At.VL tok e->e.2.2=t->(s,e)∈l
def ajK(A:At)(r:Nat)(l:List<|Nat×Ed):Prop:=(∀p∈l,p.2∈A.cs p.1/\p.2.1=2/\p.2.2.1=r)/\∀s e,e∈A.cs s->e.1=2->e.2.1=r->(s,e)∈l
def BkM(hS:Nat->List (Nat×Ed)->Prop)(H:F)(n:Nat)(a:Option Addr):Prop:=∃vs,i_ (λ_=>True) 207 H a n 1 vs/\∀t,t<n->∃b c l,vs[t]?=Z (T b l.length c)/\i_ (λ_=>True) 209 H b l.length 4 (Rx l)/\hS t l/\l.length<=1000000000
def BkM.ld{hS:Nat->List (Nat×Ed)->Prop}(h:BkM hS H n a)(J:Ext H C)(ht:t<n)(kk:∀p b c l,i_ (λ_=>True) 209 H b l.length 4 (Rx l)->hS t l->l.length<=1000000000->K p (T b l.length c) C):PU (Ac 1 (T a n c)<|B t) λp=>ME (uP W p C) (K p):=by
 obtain⟨vs,Q,I⟩:=h;obtain⟨b,c,l,h3,h4,h5,h6⟩:=I t ht;exact(Q.ex J).ix ht h3 λp=>kk p b c l h4 h5 h6
def ad5{tok:Bool}{ic cc:Nat}(hw:Wf H)(h:rX ax H A q)(ho:A.Ok)(hg:Bk H u 27<|q.cells A)(hgl:u<H.next)(hI:BkM (ajJ A tok) H A.ns ia)(hC:BkM (ajK A) H A.nr ca){x4 x7 x8 jh iL kQ jF lH pz zf uZ v_ x30 x31 x32 zT x38 x39 x88 x89 x90 x115 Eo Ak x157 x158 x159:D}{mO:List (Nat×D)}:
 gJ Pg X (sub oU [1,1,1,1]) (lC (q.v A) (.bool tok) (pt u) x4 (T ia A.ns ic) (T ca A.nr cc) x7 x8 jh iL kQ jF lH pz zf uZ v_ x30 x31 x32 zT x38 x39 x88 x89 x90 x115 Eo Ak x157 x158 x159 mO H)
  (jR Pg [.tmp 4]<|Qe (λv C=>∃mk,Bs H.next C A.ns v mk/\∀s,on mk s<->A.Mk tok s) H):=by
 have G:=M.refl hw;have hbig:=ho.big;have KL:=ho.few;refine tl<|ME.rF (vs:=q.cells A) (hg.read (by show 0+6<=6;omega)) ?_;refine aJ.mono (qP G.wf q A) ?_;rintro v H2 ⟨rfl,J⟩;have G:=G.call J;refine G.mkS (az _) N λH3 dm G=>?_;rw[mK]at G;refine G.iZ λH4 mr G=>?_;refine G.kK ?_;refine G.jE λHn G=>G.iZ λH5 xr G=>G.Ay (hg.cell (o:=2) O) hgl ?_;refine aY ?_;have G:M [] H H5 ([(xr,22,[T W 0 0]),(mr,34,[T (Z ⟨dm,0,W⟩) A.ns A.ns]),(dm,4,aU A.ns<|.bool aA)]):=G;have G:=G.perm (L':=[(mr,34,[T (Z ⟨dm,0,W⟩) A.ns A.ns]),(xr,22,[T W 0 0]),(dm,4,aU A.ns<|.bool aA)])<|gm _ _ _;have hM:Ms mr xr dm A.ns (aU A.ns aA) [] [(mr,34,[T (Z ⟨dm,0,W⟩) A.ns A.ns]),(xr,22,[T W 0 0]),(dm,4,aU A.ns<|.bool aA)]:=⟨T W 0 0,[],by simp,GB.nil _ _,by simp⟩;have hmu:mu (aU A.ns aA) []<=8000:=by unfold mu;rw[Ox];show 2*A.ns+0<=8000;omega
 have call:∀{s:Nat}{mk:List Bool}{nx:List Nat}{SH L:List dJ}{C:F}{P:Nat->Prop}{K:D->F->Prop},s<A.ns->Ms mr xr dm A.ns mk nx SH->M [] H C (SH++L)->MJ A.ns (A.Mk tok) P mk nx->mu mk nx<=8000->A.Mk tok s->
  (∀v H2 mk' nx' M',Ms mr xr dm A.ns mk' nx' M'->M [] H H2 (M'++L)->MJ A.ns (A.Mk tok) P mk' nx'->on mk' s->(∀t,on mk t->on mk' t)->mu mk' nx'<=mu mk nx->K v H2)->
  nJ Pg X (Ls<|.func (.func 111) ⟨[]⟩ ⟨[pt mr,pt xr]⟩) [B s] C K:=by
  intro s mk nx SH L C P K hs hM G hJ hmu hq kk;show aJ Pg X 111 [B s,pt mr,pt xr] C K;refine aJ.mono (Gx hM G hs<|VN hmu) ?_;rintro v H2 ⟨mk',nx',M',hM',hS',hk⟩;obtain⟨a,b,c,d⟩:=hk.mj hJ hq;exact kk v H2 mk' nx' M' hM' hS' a b c d
 refine lp2 15 90 (h2:=λm lH x90 C=>∃i mk nx SH,x90=B i/\i+m=A.nr/\Ms mr xr dm A.ns mk nx SH/\M [] H C (SH++[])/\MJ A.ns (A.Mk tok) (λ_=>False) mk nx/\mu mk nx<=8000/\∀j,j<i->on mk (A.P j)) ?_ A.nr ⟨0,_,_,_,rfl,N,hM,G,MJ.nil _ _,hmu,λj hj=>absurd hj N⟩;clear G hM hmu J;rintro m lH x90 mO H6 ⟨i,mk,nx,SH,rfl,him,hM,G,hJ,hmu,hb⟩;refine tp ?_;refine aC (λy=>?_) λy=>?_
 .have hi:i<A.nr:=by omega
  refine(h.ex G.ext).ldP ho hi λp=>call (ho.p i hi).1 hM G hJ hmu (.stop i hi) λv H7 mk' nx' M' hM G hJ hon hmo abB=>?_;refine dU ?_;refine⟨A.nr-(i+1),N,_,_,_,_,O,i+1,mk',nx',M',nX,N,hM,G,hJ,N,λj hj=>?_⟩;rcases bZ j i with Q|Q
  .exact hmo _<|hb j Q
  .obtain rfl:j=i:=by omega
   exact hon
 have hbase:∀r,r<A.nr->on mk (A.P r):=λr R=>hb r N;clear hb y him;refine tl ?_;refine agP 16 18 19 21 115 116 117 157 158 159 (h2:=λm pz zf uZ v_ x115 Eo Ak x157 x158 x159 C=>∃mk nx SH P,Ms mr xr dm A.ns mk nx SH/\M [] H C (SH++[])/\MJ A.ns (A.Mk tok) P mk nx/\mu mk nx<=8000/\mu mk nx=m/\(∀r,r<A.nr->on mk (A.P r))/\A.Clo tok P mk) ?_ (mu mk nx) ⟨mk,nx,SH,_,hM,G,hJ,hmu,rfl,hbase,λs e _ _ h=>h.elim⟩;clear G hM hJ hmu hbase;rintro m pz zf uZ v_ x115 Eo Ak x157 x158 x159 mO H6 ⟨mk,nx,SH,P,hM,G,hJ,hmu,rfl,hbase,TK⟩;obtain⟨nv,gb,rfl,hgb,hl⟩:=hM;have G:M [] H H6 ((mr,34,[T (Z ⟨dm,0,W⟩) A.ns A.ns])::(xr,22,[nv])::(dm,4,bools mk)::(gb++[])):=G;refine tm ?_
 have fin:nx=[]->∀mO,gJ Pg X (sub oU [1,1,1,1,1,1,1,1,1]) (lC (q.v A) (.bool tok) (pt u) x4 (T ia A.ns ic) (T ca A.nr cc) x7 x8 jh (pt mr) (pt xr) (.func (.func 111) ⟨[]⟩ ⟨[pt mr,pt xr]⟩) lH pz zf uZ v_ x30 x31 x32 zT x38 x39 (T q.pa A.nr q.pc) (B A.nr) (B i) x115 Eo Ak x157 x158 x159 mO H6)
  (jR Pg [.tmp 4]<|Qe (λv C=>∃mk,Bs H.next C A.ns v mk/\∀s,on mk s<->A.Mk tok s) H):=by
  intro hn mO;subst hn;refine tl ?_;refine G.oF<|rr ?_;exact⟨⟨mk,⟨_,_,O,hl,i_.one G (aR (i:=2) O) (by simpa using hl)<|G.wB<|aR (i:=2) O⟩,At.ad4 ho hJ TK hbase⟩,G.ext⟩
 rcases hgb with⟨rfl,hn,rfl⟩|⟨r,n,dY,rfl,hn,rfl⟩
 .obtain rfl:nx=[]:=by simpa using hn
  refine aY ?_;refine aC (λy=>absurd y N) λ_=>?_;exact fin O _
 have hn:nx.length=n:=by simpa using hn
 subst hn;refine aY ?_;refine aC (λy=>?_) λy=>?_;rotate_left
 .exact fin (dK.1 N) _
 clear fin;obtain⟨zg,cur,rfl⟩:∃a b,nx=a++[b]:=⟨nx.dropLast,nx.getLast (λe=>by subst e;simp at y),(mE _).symm⟩;have hlen:(zg++[cur]).length=zg.length+1:=by simp
 rw[hlen]at G;simp only[bE,bK]at G;have ahd:=VN hmu;rw[hlen]at ahd;refine d_ ?_;refine qX ?_;rw[show((zg.length+1:Nat):Int)-1=(zg.length:Nat) by omega];refine G.ix (v:=B cur) N (by simp) λp=>?_;refine d_ ?_;refine qX ?_;rw[show((zg.length+1:Nat):Int)-1=(zg.length:Nat) by omega];refine PU.of (Bh N)<|G.jE λHn G=>?_;have IV:cur<A.ns:=by have:=afS<|hJ.nxo cur (by simp);rw[hJ.len]at this;exact this
 have hJ':=hJ.pop;have TL:=abz mk zg cur;have hM:Ms mr xr dm A.ns mk zg ((mr,34,[T (Z ⟨dm,0,W⟩) A.ns A.ns])::(xr,22,[T (Z ⟨r,0,W⟩) zg.length (fI 1)])::(dm,4,bools mk)::[(r,3,fG (zg++[cur])++dY)]):=⟨_,_,O,.inr ⟨r,_,B cur::dY,O,by simp,by simp⟩,hl⟩;refine hI.ld G.ext IV λp ba bc l hl hG hln=>?_;refine aY ?_;have G:M [] H _ (((mr,34,[T (Z ⟨dm,0,W⟩) A.ns A.ns])::(xr,22,[T (Z ⟨r,0,W⟩) zg.length (fI 1)])::(dm,4,bools mk)::[(r,3,fG (zg++[cur])++dY)])++[]):=G;have hrc:=hJ.snd cur<|hJ.nxo cur (by simp);refine lp2 18 117 (h2:=λm zf Ak C=>∃k mk' nx' SH,Ak=B k/\k+m=l.length/\Ms mr xr dm A.ns mk' nx' SH/\M [] H C (SH++[])/\MJ A.ns (A.Mk tok) (λt=>P t\/t=cur) mk' nx'/\mu mk' nx'<=mu mk zg/\(∀t,on mk t->on mk' t)/\∀(j:Nat)(p:Nat×Ed),j<k->l[j]?=Z p->(p.2.1=2->P (A.S p.2.2.1)\/A.S p.2.2.1=cur)->on mk' p.1) ?_ l.length ⟨0,mk,zg,_,rfl,N,hM,G,hJ',az _,λt h=>h,λj e hj=>absurd hj N⟩;clear G hM hJ';rintro m' y18 amA LU H7 ⟨k,mk',nx',SH,rfl,hkm,hM,G,hJ',abB,hmo,hdone⟩;refine tp ?_;refine aC (λhc2=>?_) λhc2=>?_
 .have hk:k<l.length:=by omega
  refine ajI (hl.ex G.ext) hk λp=>?_;have hmem:=bB hk;have hke:l[k]?=Z l[k]:=au hk;obtain⟨g1,g2,g3⟩:=hG.1 _ hmem;generalize hee:l[k]=pe at g1 g2 g3 hke hmem|-;obtain⟨s,e⟩:=pe;replace g1:e∈A.cs s:=g1;replace g2:e.2.2=cur:=g2;replace g3:At.VL tok e:=g3;have hss:=ho.lt g1;refine G.ns O O O λH8 re G Bw=>?_;have G:M [] H H8 ((re,209,[B s,B e.1,B e.2.1,B e.2.2])::(SH++[])):=G
  have w_:∀y18 GG OA M2 zG H9,Ms mr xr dm A.ns GG OA M2->M [] H H9 (M2++[])->MJ A.ns (A.Mk tok) (λt=>P t\/t=cur) GG OA->mu GG OA<=mu mk' nx'->(∀t,on mk' t->on GG t)->((e.1=2->P (A.S e.2.1)\/A.S e.2.1=cur)->on GG s)->
   gJ Pg X (sub oU [1,1,1,1,1,1,1,1,0,0,0,1,0,1,1,0,1,0,0,1,1,1]) (lC (q.v A) (.bool tok) (pt u) x4 (T ia A.ns ic) (T ca A.nr cc) x7 x8 jh (pt mr) (pt xr) (.func (.func 111) ⟨[]⟩ ⟨[pt mr,pt xr]⟩) lH (B cur) y18 uZ v_ x30 x31 x32 zT x38 x39 (T q.pa A.nr q.pc) (B A.nr) (B i) (T ba l.length bc) (B l.length) (B k) x157 x158 x159 zG H9)
    (FV (vg (q.v A) (.bool tok) (pt u) x4 (T ia A.ns ic) (T ca A.nr cc) x7 x8 jh (pt mr) (pt xr) (.func (.func 111) ⟨[]⟩ ⟨[pt mr,pt xr]⟩) lH (B cur) uZ v_ x30 x31 x32 zT x38 x39 (T q.pa A.nr q.pc) (B A.nr) (B i) (T ba l.length bc) (B l.length) x157 x158 x159 λm zf Ak C=>∃k mk' nx' SH,Ak=B k/\k+m=l.length/\Ms mr xr dm A.ns mk' nx' SH/\M [] H C (SH++[])/\MJ A.ns (A.Mk tok) (λt=>P t\/t=cur) mk' nx'/\mu mk' nx'<=mu mk zg/\(∀t,on mk t->on mk' t)/\∀(j:Nat)(p:Nat×Ed),j<k->l[j]?=Z p->(p.2.1=2->P (A.S p.2.2.1)\/A.S p.2.2.1=cur)->on mk' p.1) m'<|rO 8<|sW Pg X (sub oU [1,1,1,1,1,1,1,1,0,0,0,1,0,1,1,1])<|rO 7<|FV (yU (q.v A) (.bool tok) (pt u) x4 (T ia A.ns ic) (T ca A.nr cc) x7 x8 jh (pt mr) (pt xr) (.func (.func 111) ⟨[]⟩ ⟨[pt mr,pt xr]⟩) lH x30 x31 x32 zT x38 x39 (T q.pa A.nr q.pc) (B A.nr) (B i) λm pz zf uZ v_ x115 Eo Ak x157 x158 x159 C=>∃mk nx SH P,Ms mr xr dm A.ns mk nx SH/\M [] H C (SH++[])/\MJ A.ns (A.Mk tok) P mk nx/\mu mk nx<=8000/\mu mk nx=m/\(∀r,r<A.nr->on mk (A.P r))/\A.Clo tok P mk) (mu mk<|zg++[cur])<|rO 6<|sW Pg X (sub oU [1,1,1,1,1,1,1,1,1])<|jR Pg [.tmp 4]<|Qe (λv C=>∃mk,Bs H.next C A.ns v mk/\∀s,on mk s<->A.Mk tok s) H):=by
   intro y18 GG OA M2 zG H9 hM2 hS2 hJ2 TL EH TN;refine tl ?_;refine dU ?_;refine⟨l.length-(k+1),N,_,_,_,_,O,k+1,GG,OA,M2,nX,N,hM2,hS2,hJ2,N,λt ht=>EH t<|hmo t ht,λj p' hj hp' TM=>?_⟩;rcases bZ j k with Q|Q
   .exact EH _<|hdone j p' Q hp' TM
   .obtain rfl:j=k:=by omega
    rw[hke]at hp';cases hp';exact TN TM
  refine d_ ?_;refine bT (λhc3=>?_) λhc3=>?_
  .refine aag ?_;refine tm ?_;refine call hss hM (G.perm<|iE [_] SH []) hJ' N (.edge s e g1 g3 (λI=>absurd N hc3) (by rw[g2];exact hrc)) λv Dm GG OA M2 hM2 hS2 hJ2 TN EH TL=>?_;exact w_ _ GG OA M2 _ _ hM2 (M.drop (A:=[_])<|hS2.perm<|iE M2 [_] []) hJ2 TL EH λ_=>TN
  .have he2:e.1=2:=by omega
   have hca:=ho.call g1 he2;have hM0:=hM;have hSt:=ho.s _ hca;obtain⟨nv',gT,rfl,hgb',hl'⟩:=hM;simp only[bE]at G;refine d_ ?_;refine G.Gn (hg.cell (o:=1) O) hgl ?_;refine d_ ?_;refine rX.ahe (h.ex G.ext) ho hca λr1 o1=>?_;refine G.kK ?_;obtain⟨b,hb1⟩:∃b,mk'[A.S e.2.1]?=Z b:=⟨_,au N⟩;refine G.TP hSt.1 (kU _ hb1)<|d_ ?_;refine tm ?_;refine dL (λhb2=>?_) λhb2=>?_
   .refine G.oF<|call hss hM0 (G.perm<|iE [_] (_::_::_::gT) []) hJ' N (.edge s e g1 g3 (λI=>hJ'.snd _ (by unfold on;rw[hb1,hb2])) (by rw[g2];exact hrc)) λv Dm GG OA M2 hM2 hS2 hJ2 TN EH TL=>?_;exact w_ _ GG OA M2 _ _ hM2 (M.drop (A:=[_])<|hS2.perm<|iE M2 [_] []) hJ2 TL EH λ_=>TN
   .refine w_ _ mk' nx' _ _ _ hM0 (M.drop (A:=[_]) G) hJ' (az _) (λt h=>h) λI=>?_;have:=hJ'.pon _<|I he2;unfold on at this;rw[hb1]at this;cases this;cases hb2
 have hin:∀s e,e∈A.cs s->At.VL tok e->e.2.2=cur->(e.1=2->P (A.S e.2.1)\/A.S e.2.1=cur)->on mk' s:=λs e he hk ht hc'=>by
  obtain⟨j,hj,e1⟩:=kg.1<|hG.2 s e he hk ht;exact hdone j (s,e) N (by rw[<-e1];exact au hj) hc'
 clear hdone hc2 hkm hl hG;refine tp ?_;refine G.Ay (hg.cell (o:=3) O) hgl<|(h.ex G.ext).Ay IV λp=>G.Ay (hg.cell (o:=1) O) hgl<|(h.ex G.ext).ldS ho (ho.o cur IV) λp=>?_;refine aY ?_;refine aC (λhc3=>?_) λhc3=>?_;rotate_left
 .refine⟨mu mk' nx',N,_,_,_,_,_,_,_,_,_,_,_,_,O,mk',nx',SH,_,hM,G,hJ',N,O,λr R=>hmo _<|hbase r R,TK.step hmo hin λs e he I hs _=>?_⟩;have:=(ho.s _<|ho.call he I).2;rw[hs]at this;exact absurd (by rw[this,hs]) hc3
 have als:A.S (A.aj cur)=cur:=by omega
 refine hC.ld G.ext (ho.o cur IV) λp ba bc l hl hG hln=>?_;refine aY ?_;refine lp2 21 159 (h2:=λm v_ x159 C=>∃k GG OA SH,x159=B k/\k+m=l.length/\Ms mr xr dm A.ns GG OA SH/\M [] H C (SH++[])/\MJ A.ns (A.Mk tok) (λt=>P t\/t=cur) GG OA/\mu GG OA<=mu mk zg/\(∀t,on mk' t->on GG t)/\∀(j:Nat)(p:Nat×Ed),j<k->l[j]?=Z p->(P p.2.2.2\/p.2.2.2=cur)->on GG p.1) ?_ l.length ⟨0,mk',nx',SH,rfl,N,hM,G,hJ',N,λt h=>h,λj e hj=>absurd hj N⟩;clear G hM hJ' abB;rintro m' y21 y159 LU H7 ⟨k,GG,OA,SH,rfl,hkm,hM,G,hJ',abB,EH,hdone⟩;refine tp ?_;refine aC (λhc2=>?_) λhc2=>?_;rotate_left
 .refine⟨mu GG OA,N,_,_,_,_,_,_,_,_,_,_,_,_,O,GG,OA,SH,_,hM,G,hJ',N,O,λr R=>EH _<|hmo _<|hbase r R,TK.step (λt ht=>EH t<|hmo t ht) (λs e Q I h3 h4=>EH _<|hin s e Q I h3 h4) λs e he I hs ht=>?_⟩;have hs2:=(ho.s _<|ho.call he I).2;rw[hs]at hs2;obtain⟨j,hj,e1⟩:=kg.1<|hG.2 s e he I hs2.symm;exact hdone j (s,e) N (by rw[<-e1];exact au hj) ht
 have hk:k<l.length:=by omega
 refine ajI (hl.ex G.ext) hk λp=>?_;have hmem:=bB hk;have hke:l[k]?=Z l[k]:=au hk;obtain⟨g1,g2,g3⟩:=hG.1 _ hmem;generalize hee:l[k]=pe at g1 g2 g3 hke hmem|-;obtain⟨s,e⟩:=pe;replace g1:e∈A.cs s:=g1;replace g2:e.1=2:=g2;replace g3:e.2.1=A.aj cur:=g3;have hss:=ho.lt g1;have het:=(ho.e s hss e g1).1;refine G.ns O O O λH8 re G Bw=>?_;have hM0:=hM;obtain⟨nv',gT,rfl,hgb',hl'⟩:=hM;have G:M [] H H8 ((re,209,[B s,B e.1,B e.2.1,B e.2.2])::(mr,34,[T (Z ⟨dm,0,W⟩) A.ns A.ns])::(xr,22,[nv'])::(dm,4,bools GG)::(gT++[])):=G;refine d_ ?_;obtain⟨b,hb1⟩:∃b,GG[e.2.2]?=Z b:=⟨_,au N⟩;refine G.ix het (kU _ hb1) λp=>?_;refine aY ?_;refine dL (λhb2=>?_) λhb2=>?_
 .refine G.oF<|call hss hM0 (G.perm<|iE [_] (_::_::_::gT) []) hJ' N (.edge s e g1 (λQ=>by omega) (λ_=>by rw[g3,als];exact hrc)<|hJ'.snd _ (by unfold on;rw[hb1,hb2])) λv Dm mk3 nx3 M3 hM3 rQ hJ3 alu ajL amB=>?_;refine dU ?_;refine⟨l.length-(k+1),N,_,_,_,_,O,k+1,mk3,nx3,M3,nX,N,hM3,M.drop (A:=[_])<|rQ.perm<|iE M3 [_] [],hJ3,N,λt ht=>ajL t<|EH t ht,λj p' hj hp' TM=>?_⟩;rcases bZ j k with Q|Q
  .exact ajL _<|hdone j p' Q hp' TM
  .obtain rfl:j=k:=by omega
   rw[hke]at hp';cases hp';exact alu
 .refine dU ?_;refine⟨l.length-(k+1),N,_,_,_,_,O,k+1,GG,OA,_,nX,N,hM0,M.drop (A:=[_]) G,hJ',N,EH,λj p' hj hp' TM=>?_⟩;rcases bZ j k with Q|Q
  .exact hdone j p' Q hp' TM
  .obtain rfl:j=k:=by omega
   rw[hke]at hp';cases hp';have:=hJ'.pon _ TM;unfold on at this;rw[show((s,e):Nat×Ed).2.2.2=e.2.2 from O,hb1]at this;cases this;cases hb2
end
section
variable{S:List Nat}{ax:Nat->Prop}{P:Nat->Prop}{nx:List Nat}
structure KD(A:At)(ok:Ed->Prop)(key:Ed->Nat)(ae:Nat->Ed->Prop)(c:Nat)(b:List<|List<|Nat×Ed):Prop where
 snd:∀(t:Nat) l,b[t]?=Z l->∀p∈l,p.2∈A.cs p.1/\key p.2=t/\ok p.2
 cpl:∀s e l,ae s e->ok e->b[key e]?=Z l->(s,e)∈l
 len:∀l∈b,l.length<=c
section kd
variable{b:List (List<|Nat×Ed)}
def KD.nil(n:Nat):KD A ok key (λ_ _=>False) 0 (aU n []):=by
 refine⟨λt l h p hp=>?_,λs e l h=>h.elim,λl h=>?_⟩
 .have:=aR h;rw[List.mem_replicate]at this;rw[this.2]at hp;cases hp
 .rw[List.mem_replicate]at h;rw[h.2];exact az _
def KD.wk(h:KD A ok key ae c b)(hd:∀s e,D' s e->ae s e)(y:c<=c'):KD A ok key D' c' b:=⟨h.snd,λs e l g=>h.cpl s e l<|hd s e g,λl g=>aX (h.len l g) y⟩
def KD.add(h:KD A ok key ae c b)(he:e∈A.cs s)(hk:ok e)(hl:b[key e]?=Z l):KD A ok key (λs' e'=>ae s' e'\/(s'=s/\e'=e)) (c+1) (b.set (key e)<|l++[(s,e)]):=by
 have hlt:=(bA.1 hl).1;refine⟨λt l' h' p hp=>?_,λs' e' l' hd hk' h'=>?_,λl' h'=>?_⟩
 .rw[dB]at h'
  by_cases ht:key e=t
  .rw[if_pos ht,if_pos hlt]at h';cases h';rcases bX.1 hp with hp|hp
   .rw[<-ht];exact h.snd _ l hl p hp
   .rw[aO]at hp;subst hp;exact⟨he,ht,hk⟩
  .rw[if_neg ht]at h';exact h.snd t l' h' p hp
 .rw[dB]at h'
  by_cases ht:key e=key e'
  .rw[if_pos ht,if_pos hlt]at h';cases h';rcases hd with hd|⟨rfl,rfl⟩
   .exact cZ _<|h.cpl s' e' l hd hk' (by rw[<-ht];exact hl)
   .simp
  .rw[if_neg ht]at h';rcases hd with hd|⟨rfl,rfl⟩
   .exact h.cpl s' e' l' hd hk' h'
   .exact absurd O ht
 .rcases gY h' with Q|rfl
  .have:=h.len l' Q;omega
  .have:=h.len l (aR hl);rw[aQ];show l.length+1<=c+1;omega
def KD.skip(h:KD A ok key ae c b)(hk:¬ok e):KD A ok key (λs' e'=>ae s' e'\/(s'=s/\e'=e)) (c+1) b:=by
 refine⟨h.snd,λs' e' l hd hk' h'=>?_,λl' h'=>pV<|h.len l' h'⟩;rcases hd with hd|⟨rfl,rfl⟩
 .exact h.cpl s' e' l hd hk' h'
 .exact absurd hk' hk
end kd
def Seen(A:At)(i k:Nat)(s:Nat)(e:Ed):Prop:=(s<i/\e∈A.cs s)\/(s=i/\∃j:Nat,j<k/\(A.cs i)[j]?=Z e)
def Seen.next(h0:(A.cs i)[k]?=Z e0)(h:Seen A i (k+1) s e):Seen A i k s e\/(s=i/\e=e0):=by
 rcases h with h|⟨Q,j,I,h3⟩
 .exact .inl<|.inl h
 .rcases bZ j k with h4|h4
  .exact .inl<|.inr ⟨Q,j,h4,h3⟩
  .obtain rfl:j=k:=by omega
   rw[h0]at h3;cases h3;exact .inr ⟨Q,O⟩
def Seen.all(h:Seen A (i+1) 0 s e):Seen A i (A.cs i).length s e:=by
 rcases h with⟨Q,I⟩|⟨Q,j,I,h3⟩
 .rcases bZ s i with h4|h4
  .exact .inl ⟨h4,I⟩
  .obtain rfl:s=i:=by omega
   obtain⟨j,hj,e1⟩:=kg.1 I;exact .inr ⟨O,j,hj,by rw[<-e1];exact au hj⟩
 .omega
def _root_.Go.Ae.M.Q3{v:D}(G:M S H0 H L)[hb:Eg L r (λE=>E.set k v) ty E L'](hk:k<n)(hl:k<E.length)(y:bI v=[v]:=by rfl)(ho:fB v=f:=by rfl)(kk:∀H1,M S H0 (hM H H1) L'->K (.pointer<|Z ⟨r,k,W⟩) undef H1):
 PU (Ac 1 (T (Z ⟨r,0,W⟩) n c)<|B k) λp=>ME (Cq 1 p v<|hN H) (K p):=by
 obtain⟨i,hi,e⟩:=hb.at';refine PU.of (Fv hk) ?_;rw[aW];obtain⟨H1,Q,I,J⟩:=(M.xG G).zC (vs:=[v]) (o:=k) i hi (by show k+1<=_;omega) (by show bR (fB v) _ _=_;rw[ho];rfl);rw[Vf hl]at I;show ME (gd (ay (len<|bI v) 1)<|aK ((Go.Ae.hN H).write r k<|bI v) λC=>Z (undef,C)) _;rw[y,fQ,show ay [v].length 1=f from O,Q];refine kk H1 ?_;rw[e]
 exact⟨oz.later G.ext J.draw (λq hq=>by
  simp at hq;subst hq;exact(G.lo _<|aR hi).1),I.bk,λe he=>⟨(I.lo e he).1,(I.lo e he).2⟩,I.ne,J.draw.wf G.wf⟩
def Jj(ok:Ed->Prop)(key:Ed->Nat)(A:At)(ae:Nat->Ed->Prop)(c n:Nat)(vs:List D)(hr:List dJ):Prop:=∃b,KD A ok key ae c b/\b.length=n/\H_ 209 4 (b.map Rx) vs hr
def Jj.wk{hr:List dJ}(h:Jj ok key A ae c n vs hr)(hd:∀s e,D' s e->ae s e)(y:c<=c'):Jj ok key A D' c' n vs hr:=let⟨b,Q,I,h3⟩:=h;⟨b,Q.wk hd y,I,h3⟩
def Jj.skip{hr:List dJ}(h:Jj ok key A ae c n vs hr)(hk:¬ok e):Jj ok key A (λs' e'=>ae s' e'\/(s'=s/\e'=e)) (c+1) n vs hr:=let⟨b,Q,I,h3⟩:=h;⟨b,Q.skip hk,I,h3⟩
def Jj.put{hr P0 L0:List dJ}{rx:Nat}{K:D->F->Prop}(h:Jj ok key A ae c n vs hr)(y:c<=1000000)(he:e∈A.cs s)(hk:ok e)(hn:key e<n){v:D}(hv:vs[key e]?=Z v)(G:M S H0 H<|(rx,209,[B s,B e.1,B e.2.1,B e.2.2])::(P0++(hr++L0)))(kk:∀va vl vc H1 R',Jj ok key A (λs' e'=>ae s' e'\/(s'=s/\e'=e)) (c+1) n (vs.set (key e)<|T va vl vc) R'->M S H0 (hM H H1) (P0++(R'++L0))->(Dq H H1=cl 1\/Dq H H1=⟨2,0,0,0,H,H1⟩)->K (T va vl vc) H1):
 ME (zB 209 4 v (T (Z ⟨rx,0,W⟩) 1 1)<|hN H) K:=by
 obtain⟨b,Q,I,h3⟩:=h;have hvl:vs.length=n:=by rw[<-h3.len,aM,I]
 obtain⟨A',gb,vn,rfl,hg,hput⟩:=h3.at (key e) N;obtain⟨l,hl⟩:∃l,b[key e]?=Z l:=⟨_,au N⟩;have hll:=Q.len l<|aR hl;rw[bD,hl]at hg;have hg:GB 209 4 vs[key e] (Rx l) gb:=hg;rw[au N]at hv;rw[dH hv]at hg;have e1:P0++((A'++(gb++vn))++L0)=(P0++A')++(gb++(vn++L0)):=by simp
 rw[e1]at G;refine hg.Gj (G.perm<|dQ _<|iE (P0++A') gb<|vn++L0) N O O (by rw[OB];omega) λv' H1 gT hg' hS' _ _ hcl=>?_;obtain⟨va,vl,vc,rfl⟩:=hg'.sl;have hS':=hS'.perm<|iE gT (P0++A')<|vn++L0;have e2:(P0++A')++(gT++(vn++L0))=P0++((A'++(gT++vn))++L0):=by simp
 rw[e2]at hS';refine kk va vl vc H1 (A'++(gT++vn)) ⟨b.set (key e)<|l++[(s,e)],Q.add he hk hl,by rw[bF];exact I,?_⟩ hS' hcl;have:=hput (T va vl vc) (Rx<|l++[(s,e)]) gT (by rw[VO];exact hg');rw[fV];exact this
def Ap:∀{FW:List (List D)}{vs:List D}{hr:List dJ},H_ ty es FW vs hr->∀v∈vs,nI v v=f
 |[],[],hr,h=>λv hv=>nomatch hv
 |ks::FW,w::vs,hr,⟨gb,R',_,Q,I⟩=>λv hv=>by
  rcases bM.1 hv with rfl|hv
  .rcases Q with⟨rfl,_⟩|⟨r,n,dY,rfl,_⟩
   .exact oQ _ _ _ λx h=>by cases h
   .exact oQ _ _ _ λx h=>by cases h;rfl
  .exact Ap I v hv
 |[],v::vs,hr,h=>h.elim
 |ks::FW,[],hr,h=>h.elim
def Jj.same{hr:List dJ}(h:Jj ok key A ae c n vs hr):∀v∈vs,nI v v=f:=let⟨_,_,_,h3⟩:=h;Ap h3
def FN{l:List D}(h:∃a b c:Nat,l=[B a,B b,B c]):∀v∈(l.drop o).take n,nI v v=f:=λv hv=>by
 obtain⟨a,b,c,rfl⟩:=h;have:=ko<|eP hv;simp at this;rcases this with rfl|rfl|rfl<;>exact vC _ _
end
end Go.Proofs.Lv
