/-
  Part 09 of the proof. No condition.
-/
import Derived.Test.YtpngmpbmokhmiaaGreatDoorZ08
set_option linter.unusedVariables false
set_option linter.unusedSimpArgs false
set_option maxRecDepth 100000
set_option maxHeartbeats 4000000
set_option linter.defProp false
open Option renaming some->D,none->Q
open Bool renaming true->f,false->aC
open Go renaming Value->Z,TypeId->aH
open Go.Value renaming int->bX,slice->I,bool->gI
open Nat renaming beq->aA,ble->aD,add->aZ,mul->bO,sub->dJ
open List renaming replicate->aX,range->f_,length->gB
open Classical renaming choose->jB
open List.Perm renaming swap->gq,cons->dS
noncomputable section
namespace Go.Proofs.Lu
open Go.Ae Go.Ae.cs
variable{ni:C (Nat×Z)}{au:Int->Prop}{a a' na ra va:aB Addr}{ws:C Nat}{b c hi i j lo lw n nc nn r rc u rv s tn vc x:Nat}{zs:Nat->C Nat}{M l iK rcs vcs z:C Z}{kd:Nat->Int}{L cs Pf gb:C dL}{bs mk:C Bool}{e t ty:aH}{K:Z->R->Prop}{m mm:C (aV×Z)}{H H0 H1:R}{F' P':Nat->Prop}{p x0 x1 iJ kW jI sP lH wN uC x20 yx x4 x5 x59 x6 x60 TU JF x7 x9:Z}{ok:Bool}{k nm:aV}
section
variable{S:C Nat}{SH:Nat->Prop}
def TyP(l:C Z):Prop:=∃(t:aV)(r ch:Int)(w:Bool),l=[.string t,vi r,vi ch,.bool w]/\t.size<=1000000
def Vo(SH:Nat->Prop)(H:R)(a:aB Addr)(n:Nat)(M:C Z):Prop:=je SH 240 H a n 4 M/\n<=5000/\∀i,i<n->TyP (El M 4 i)
abbrev vV(a:aB Addr)(n c:Nat):Z:=.agg ⟨[I a n c]⟩
def Um(hw:Wf H):aO Pg X 151 [vV a n c] H (Q1 (λv _=>v=B n) H):=by
 have G:=F.refl hw;refine jS [0,1,2] ?_;refine G.box O λH1 u G=>?_;refine eU ?_;refine rr ?_;exact⟨O,G.ext⟩
def Gc(hw:Wf H)(hV:Vo SH H a n M)(hp:∀T l,Ext H T->Wf T->TyP l->nU Pg X (Mj p) [.agg ⟨l⟩] T (Q1 (λv _=>∃b:Bool,v=.bool b) T)):
 aO Pg X 181 [I a n c,p] H (Q1 (λv _=>∃z:Int,v=vi z/\-1<=z/\z<n) H):=by
 have⟨hf,hn,ht⟩:=hV;have G:=F.refl hw;refine Fh [0,1,4,5,7,8] ?_;refine FY 4 5 8 (ai:=λm x4 x5 x8 T=>∃i:Nat,x8=B i/\i+m=n/\F [] H T []) ?_ n ⟨0,rfl,N,G⟩;clear G;rintro m x4 x5 x8 u H1 ⟨i,rfl,him,G⟩;refine kX (λhc=>?_) λhc=>?_
 .refine tl<|rr ?_;exact⟨⟨-1,O,N,N⟩,G.ext⟩
 have⟨r,o,e,y,hrd,_⟩:=hf.1.read N (show i<n by omega) c;rw[e];refine bG ?_;refine G.Aj hrd y<|nU.mono (hp H1 _ G.ext G.wf<|ht i N) ?_;rintro v H2 ⟨⟨b,rfl⟩,E⟩;have G:=G.call E;refine qx (λhb=>?_) λhb=>?_
 .refine rr ?_;exact⟨⟨i,O,N,N⟩,G.ext⟩
 .refine dQ ?_;exact⟨n-(i+1),N,_,_,_,_,_,O,i+1,og,N,G⟩
theorem Un(hw:Wf H)(hV:Vo SH H a n M)(k:Int):aO Pg X 149 [vV a n c,vi k] H (Q1 (λv _=>∃z:Int,v=vi z/\-1<=z/\z<n) H):=by
 have G:=F.refl hw;refine jS [0,1,2,3,4] ?_;refine G.box O λH1 u G=>?_;refine G.box O λH2 rk G=>?_;refine wS (λhc=>?_) λhc=>?_
 .refine rr ?_;exact⟨⟨-1,O,N,N⟩,G.ext⟩
 apply G.pz;have hV2:Vo SH H2 a n M:=⟨hV.1.ex G.ext,hV.2⟩;refine aO.mono (Gc G.wf hV2 (p:=.func (.func 182) ⟨[]⟩ ⟨[.pointer (D ⟨rk,0,Q⟩)]⟩) λT l E hw' hl=>?_) ?_
 .obtain⟨t,r,ch,w,rfl,_⟩:=hl;show aO Pg X 182 [_,.pointer<|D ⟨rk,0,Q⟩] T _;have hk:=((G.call E).get 0 O).cell (o:=0) (v:=vi k) O;have hkl:=((G.call E).lo _<|aS (i:=0) O).2;have G:=F.refl hw';refine jS [0,1,2,3] ?_;refine G.box O λH3 rt G=>?_;refine eU ?_;refine G.Be hk hkl ?_;refine bG ?_;refine rr ?_;exact⟨⟨_,O⟩,G.ext⟩
 .rintro v H3 ⟨hz,E⟩;refine rr ?_;exact⟨hz,(G.call E).ext⟩
theorem MI(hw:Wf H)(hV:Vo SH H a n M)(s:aV):aO Pg X 150 [vV a n c,.string s] H (Q1 (λv _=>∃z:Int,v=vi z/\-1<=z/\z<n) H):=by
 have G:=F.refl hw;refine jS [0,1,2,3,4] ?_;refine G.box O λH1 u G=>?_;refine G.box O λH2 rk G=>?_;refine eU ?_;have hV2:Vo SH H2 a n M:=⟨hV.1.ex G.ext,hV.2⟩;refine aO.mono (Gc G.wf hV2 (p:=.func (.func 183) ⟨[]⟩ ⟨[.pointer (D ⟨rk,0,Q⟩)]⟩) λT l E hw' hl=>?_) ?_
 .obtain⟨t,r,ch,w,rfl,_⟩:=hl;show aO Pg X 183 [_,.pointer<|D ⟨rk,0,Q⟩] T _;have hk:=((G.call E).get 0 O).cell (o:=0) (v:=.string s) O;have hkl:=((G.call E).lo _<|aS (i:=0) O).2;have G:=F.refl hw';refine jS [0,1,2,3] ?_;refine G.box O λH3 rt G=>?_;refine wS (λhc=>?_) λhc=>?_
  .refine G.pz<|G.Be hk hkl ?_;refine bG ?_;refine rr ?_;exact⟨⟨_,O⟩,G.ext⟩
  .refine rr ?_;exact⟨⟨_,O⟩,G.ext⟩
 .rintro v H3 ⟨hz,E⟩;refine rr ?_;exact⟨hz,(G.call E).ext⟩
end
def ahP:tEq Pg 240=D (.inr [3,1,1,2]):=by kernel_rfl
def akm(t t':aV)(r r' ch ch':Int)(w w':Bool):∃b,lC Pg 240 (.agg ⟨[.string t,vi r,vi ch,.bool w]⟩) (.agg ⟨[.string t',vi r',vi ch',.bool w']⟩)=D b:=by
 have e:lC Pg 240 (.agg ⟨[.string t,vi r,vi ch,.bool w]⟩) (.agg ⟨[.string t',vi r',vi ch',.bool w']⟩)=(bV (rG t t') (bV (Jq r r') (bV (Jq ch ch') (bV (Ba w w') (D f)<|D aC)<|D aC)<|D aC)<|D aC):=by
  show(aL (tEq Pg 240) λq=>_)=_;rw[ahP];rfl
 rw[e];cases rG t t'<;>cases Jq r r'<;>cases Jq ch ch'<;>cases Ba w w'<;>exact⟨_,O⟩
def al8(t t':aV)(r r' ch ch':Int)(w w':Bool)(i j:Nat):∃b:Bool,lY Pg .neq 240 (.tmp i) (.tmp j) (.agg ⟨[.string t,vi r,vi ch,.bool w]⟩) (.agg ⟨[.string t',vi r',vi ch',.bool w']⟩)=D (.bool b):=by
 have⟨b,hb⟩:=akm t t' r r' ch ch' w w';refine⟨!b,?_⟩;show CB .neq (Zb Pg 240 (.tmp i) (.tmp j) _ _)=_
 have:Zb Pg 240 (.tmp i) (.tmp j) (.agg ⟨[.string t,vi r,vi ch,.bool w]⟩) (.agg ⟨[.string t',vi r',vi ch',.bool w']⟩)=D b:=by
  rw[<-hb];rfl
 rw[this];rfl
def Uo{SH:Nat->Prop}{n' c':Nat}{cs':C Z}(hw:Wf H)(hV:Vo SH H a n M)(hV':Vo F' H a' n' cs'):aO Pg X 122 [vV a n c,vV a' n' c'] H (Q1 (λv _=>∃b:Bool,v=.bool b) H):=by
 have G:=F.refl hw;have hn:=hV.2.1;refine jS [0,1,2,3,4,5,6,15,16,17] ?_;refine G.box O λH1 r1 G=>?_;refine G.box O λH2 r2 G=>?_;refine Mq (λhc=>?_) λhc=>?_
 .refine rr ?_;exact⟨⟨_,O⟩,G.ext⟩
 have hnn:n=n':=N;refine eU ?_;refine NG 4 5 6 17 (ai:=λm x4 x5 x6 yo T=>∃i:Nat,x4=.bool aC/\yo=B i/\i+m=n/\F [] H T [(r2,180,[I a' n' c']),(r1,180,[I a n c])]) ?_ n ⟨0,rfl,rfl,N,G⟩;clear G;rintro m x4 x5 x6 yo u H3 ⟨i,rfl,rfl,him,G⟩;refine kX (λhc2=>?_) λhc2=>?_
 .refine tl<|rr ?_;exact⟨⟨_,O⟩,G.ext⟩
 have⟨q,o,e,y,hrd,_⟩:=hV.1.1.read N (show i<n by omega) c;have⟨q',o',e',hr',Lf,_⟩:=hV'.1.1.read N (show i<n' by omega) c';have⟨t,k,ch,w,he,_⟩:=hV.2.2 i N;have⟨t',k',ch',w',he',_⟩:=hV'.2.2 i N;rw[he]at hrd;rw[he']at Lf;rw[e];refine bG ?_;refine G.Aj hrd y<|G.nI O O O λH4 rt G hx4=>?_;have G:F [] H H4 [(rt,240,[.string t,vi k,vi ch,.bool w]),(r2,180,[I a' n' c']),(r1,180,[I a n c])]:=G;refine eU ?_;rw[e'];refine G.kL ?_;refine ME.rZ (H:=hN _) ((rJ (G.ext.obj q' hr' kg) o' 4).trans Lf) ?_;have⟨b,hb⟩:=al8 t t' k k' ch ch' w w' 22 27;refine PU.of hb<|eU ?_;refine gF (λhb2=>?_) λhb2=>?_
 .refine rr ?_;exact⟨⟨_,O⟩,G.ext⟩
 .refine dQ ?_;exact⟨n-(i+1),N,_,_,_,_,_,_,O,i+1,O,og,N,F.drop (A:=[_]) G⟩
section
variable{S:C Nat}{SH:Nat->Prop}
def _root_.Go.Ae.ab2{o es:Nat}(h:lo<=hi)(J:hi<=n):XY es (I (D ⟨r,o,Q⟩) n<|fJ es) (D<|B lo) (D<|B hi) Q=D (I (D ⟨r,o+lo*es,Q⟩) (hi-lo)<|fJ es):=by
 show bV (gH<|fJ es) _ (gd (aA (fJ es)<|fJ es)<|gd (aD lo hi&&aD hi n)<|D<|I (D ⟨r,aZ o<|bO lo es,Q⟩) (dJ hi lo)<|fJ es)=_;rw[y_,jW,dD,aI h,aI J];rfl
def Gr.sub{rn:Nat}(hG:Gr b H ra rn rcs na nn iK)(hc:na=Q\/nc=fJ 5)(h:lo<=hi)(hn:hi<=nn)(h0:0<nn):
 ∃r o,XY 5 (I na nn nc) (D<|B lo) (D<|B hi) Q=D (I (D ⟨r,o+lo*5,Q⟩) (hi-lo)<|fJ 5)/\r<H.next/\∀i,i<hi-lo->zN 5 (I (D ⟨r,o+lo*5,Q⟩) (hi-lo)<|fJ 5) (B i)=D (.pointer<|D ⟨r,o+(lo+i)*5,Q⟩)/\H.read r (o+(lo+i)*5) 5=D (El iK 5<|lo+i):=by
 obtain⟨r,o,_,y,_,o0,rfl,_⟩:=hG.2.2.2.1.1.idx (c:=nc) N h0;have hcap:nc=fJ 5:=hc.resolve_left kg;subst hcap;refine⟨r,o0,ab2 h hn,y,λi hi'=>?_⟩;have⟨r',o',e',hr',hrd,_⟩:=hG.no (i:=lo+i) N (fJ 5) O;rw[tX N]at e';cases e';refine⟨?_,hrd⟩;rw[tX hi',show o0+lo*5+i*5=o0+(lo+i)*5 by omega]
def Dr(M:C Z):Prop:=∃n,M.length=n*4/\∀i,i<n->TyP (El M 4 i)
def Dr.nil:Dr []:=⟨0,O,λi h=>N⟩
def Dr.app(h:Dr M)(hl:TyP l):Dr (M++l):=by
 have⟨n,W,J⟩:=h;have hl4:l.length=4:=by obtain⟨t,r,ch,w,rfl,_⟩:=hl;rfl
 have hE:=BX (es:=4) (n:=n) W (xs:=l) hl4;refine⟨n+1,by rw[aQ];omega,λi hi=>?_⟩;rcases cr i n with h|h
 .rw[hE.1 i h];exact J i h
 .obtain rfl:i=n:=N;rw[hE.2];exact hl
def ME.ab3{q:aH×aH}(G:F S H0 H L)(W:uT Pg t=D q)(kk:∀T r,uM T r []->Ext H T->H.next<=r->F S H0 T L->K (.map<|D r) T):ME (uV Pg t Q H) K:=by
 refine ME.of (v:=.map<|D H.next) (H:=H.new<|.map []) ?_<|kk _ _ ⟨dM _,by rw[yg,if_pos O];rfl⟩ (Ext.new _ _) (ax _)<|G.call<|Ext.new _ _;show aL (uT Pg t) _=_;rw[W];rfl
def zF(rcs:C Z)(i:Nat):Nat:=if i=0 then 0 else(rootOf rcs (i-1)+1).toNat
def Lg.from{rn:Nat}(h:Lg SH H rn rcs nn iK)(hi:i<rn):(zF rcs i:Int)<=rootOf rcs i/\rootOf rcs i<nn/\(zF rcs (i+1):Int)=rootOf rcs i+1:=by
 have W:=h.1.2 i hi;have e:zF rcs (i+1)=(rootOf rcs i+1).toNat:=rfl;refine⟨?_,W.2,by rw[e];omega⟩;unfold zF;split
 .omega
 .next h0=>
  have J:=h.2.2 (i-1) N;have h3:=h.1.2 (i-1) N;rw[show i-1+1=i by omega]at J;omega
def al9{x:Z}(hg:GB 240 4 x M gb)(hT:Dr M)(hl:M.length<=10000000)(G:F S H0 H<|Pf++gb)(hp:TyP l){K:Z->Z->R->Prop}(kk:∀w v' T gQ,GB 240 4 v' (M++l) gQ->Dr (M++l)->F S H0 T (Pf++gQ)->K w v' T):
 ME (bS 240 [.string ⟨#[]⟩,.int .i64 0,.int .i64 0,.bool aC] 4 1 [(0,.agg ⟨l⟩)] H) λw H5=>ME (zY 240 4 x w H5) (K w):=by
 obtain⟨t,r,ch,w,rfl,hsz⟩:=id hp;refine G.bS O O O N λH1 rx hS1=>?_;have hS1:=hS1.perm<|dS _<|aG (l₁:=Pf);have⟨v',H6,gQ,e1,hg',wM,_⟩:=hg.app (m:=0) (cx:=1) hS1 N O O N N;exact ME.of e1<|kk _ v' H6 gQ hg' (hT.app hp)<|wM.perm aG
def ab4(hw:Wf H){v:Z}(hv:v=I a n c)(hf:Fl H a n 4 M)(hn:n<=5000)(ht:∀i,i<n->TyP (El M 4 i)):aO Pg X 127 [v] H (Q1 (λv T=>∃a n c M,v=I a n c/\Vo (H.next<=·) T a n M) H):=by
 subst hv;have G:=F.refl hw;refine jS [0,2] ?_;rw[C6 jr];refine qx (λhb=>?_) λhb=>?_
 .refine rr ?_;exact⟨⟨Q,0,0,[],O,je.nil _ _ _ _ _,N,λi h=>N⟩,Ext.refl _⟩
 .refine ME.of (ahu N) ?_;have G:=G.grow 240 [];have hge:=G.ext.next
  refine G.TL N (.inr ⟨_,O⟩) (hf.ex G.ext) N λa' c' H1 L' hf' hS'=>rr ?_;exact⟨⟨a',n,c',M,O,hf'.le hge,hn,ht⟩,hS'.ext⟩
end
section
variable{S:C Nat}{SH:Nat->Prop}
def akn{rn:Nat}(hG:Gr b H ra rn rcs na nn iK){x3:Z}(hg:GB 240 4 x3 M gb)(hT:Dr M)(hl:M.length<=16000)(G:F [] H H1<|[(rv,180,[I Q 0 0]),(u,171,[I ra rn rc,I na nn nc])]++gb){xJ DV Bf x34 Eh x74 x75 TS:Z}:
 gK Pg X (sub xI [1,1,1,1,1,1]) (vY (gV ra rn rc na nn nc) (pr u) (pr rv) x3 x4 x5 x7 x9 iJ kW jI xJ DV yx Bf x34 Eh x74 x75 TS ni H1) (jL Pg [.cell 2 180]<|Q1 (λv T=>∃a n c M,v=vV a n c/\Vo (H.next<=·) T a n M) H):=by
 have g2:=hG.2.1;simp only[bI,bN]at G;refine tm ?_;refine NG 3 12 13 76 (ai:=λm x3 kW jI TS T=>∃i M gb,TS=B i/\i+m=rn/\GB 240 4 x3 M gb/\Dr M/\M.length<=16000+4*i/\F [] H T ([(rv,180,[I Q 0 0]),(u,171,[I ra rn rc,I na nn nc])]++gb)) ?_ rn ⟨0,M,gb,rfl,N,hg,hT,N,G⟩;clear hg hT hl G;rintro m x3 kW jI TS ni H2 ⟨i,M,gb,rfl,him,hg,hT,hl,G⟩;refine kX (λhc=>?_) λhc=>?_
 .refine tl ?_;have⟨k,hk,ht⟩:=hT;have hS2:=G.perm<|aG (l₁:=[_,_]);obtain⟨a,n,c,rfl,hn,hf⟩:=hg.fl hS2;obtain rfl:n=k:=N;refine aO.mono (ab4 G.wf O hf N ht) ?_;rintro v H3 ⟨⟨a',n',c',cs',rfl,hV⟩,E⟩;have hge:=G.ext.next
  have hlt:=G.lt;have hS0:=G.call E;refine PU.b1 O ?_;have G:=F.own (cs:=[(rv,180,[I Q 0 0]),(u,171,[I ra rn rc,I na nn nc])]) hS0;refine G.kL ?_;refine G.jH λHn G=>rr ?_;apply G.iI;have Jw:=G.ext;exact⟨⟨a',n',c',cs',O,(hV.1.stay Jw λq hq=>.inl (by have:=hlt q (by simp at hq|-;rcases hq with h|h<;>simp[h]);omega)).wk λr h=>a_ hge h,hV.2⟩,(F.frame (cs:=[_,_]) hS0 G).ext⟩
 have hi:i<rn:=N;have⟨r1,o1,yJ,u1,f1,w1,c1,a1,e1,hl1,zP,tq,hsz,_⟩:=hG.ru hi rc;rw[e1];refine bG ?_;refine G.Aj zP hl1<|G.nI O O O λH5 ru G hx5=>?_;have G:F [] H H5 ((ru,234,wO yJ u1 f1 w1 c1 (rootOf rcs i) a1)::(rv,180,[I Q 0 0])::(u,171,[I ra rn rc,I na nn nc])::gb):=G;refine eU ?_
 have zf:∀x3 M gb ni T,GB 240 4 x3 M gb->Dr M->M.length<=16000+4*(i+1)->F [] H T ((ru,234,wO yJ u1 f1 w1 c1 (rootOf rcs i) a1)::(rv,180,[I Q 0 0])::(u,171,[I ra rn rc,I na nn nc])::gb)->
  gK Pg X (sub xI [1,1,1,1,1,1,0,1,0,0,1,1,1]) (vY (gV ra rn rc na nn nc) (pr u) (pr rv) x3 x4 x5 x7 x9 iJ (B i) (pr ru) xJ DV yx Bf x34 Eh (I ra rn rc) (B rn) (B i) ni T)
   (Gm (wY (gV ra rn rc na nn nc) (pr u) (pr rv) x4 x5 x7 x9 iJ xJ DV yx Bf x34 Eh (I ra rn rc) (B rn) λm x3 kW jI TS T=>∃i M gb,TS=B i/\i+m=rn/\GB 240 4 x3 M gb/\Dr M/\M.length<=16000+4*i/\F [] H T ([(rv,180,[I Q 0 0]),(u,171,[I ra rn rc,I na nn nc])]++gb)) m<|sw 4<|t_ Pg X (sub xI [1,1,1,1,1,1,1])<|jL Pg [.cell 2 180]<|Q1 (λv T=>∃a n c M,v=vV a n c/\Vo (H.next<=·) T a n M) H):=by
  intro x3 M gb ni T W J h3 h4;refine tl ?_;refine dQ ?_;exact⟨rn-(i+1),N,_,_,_,_,_,_,O,i+1,M,gb,og,N,W,J,h3,F.drop (A:=[_]) h4⟩
 have ap:(lkv:Bool)->∀ni,Bc ni 87=.bool lkv->gK Pg X (sub xI [1,1,1,1,1,1,0,1,0,0,1,1,0,0,1,1]) (vY (gV ra rn rc na nn nc) (pr u) (pr rv) x3 x4 x5 x7 x9 iJ (B i) (pr ru) xJ DV yx Bf x34 Eh (I ra rn rc) (B rn) (B i) ni H5)
  (sw 5<|t_ Pg X (sub xI [1,1,1,1,1,1,0,1,0,0,1,1,1])<|Gm (wY (gV ra rn rc na nn nc) (pr u) (pr rv) x4 x5 x7 x9 iJ xJ DV yx Bf x34 Eh (I ra rn rc) (B rn) λm x3 kW jI TS T=>∃i M gb,TS=B i/\i+m=rn/\GB 240 4 x3 M gb/\Dr M/\M.length<=16000+4*i/\F [] H T ([(rv,180,[I Q 0 0]),(u,171,[I ra rn rc,I na nn nc])]++gb)) m<|sw 4<|t_ Pg X (sub xI [1,1,1,1,1,1,1])<|jL Pg [.cell 2 180]<|Q1 (λv T=>∃a n c M,v=vV a n c/\Vo (H.next<=·) T a n M) H):=by
  intro b ni hb;refine tl ?_;rw[hb];refine gF (λhb=>?_) λhb=>?_;rotate_left
  .refine bG ?_;exact zf _ _ _ _ _ hg hT N G
  refine eU ?_;refine aO.mono (xL (nS H5) yJ hsz) ?_;rintro v H6 ⟨rfl,hx6⟩;have G:=G.nH hx6;refine eU ?_;have hpt:TyP [.string yJ,B i,vi c1,.bool w1]:=⟨yJ,i,c1,w1,O,hsz⟩;refine G.PL O O O N λH7 rx G tq=>?_;have G:=G.to (cs':=[.string yJ,B i,vi c1,.bool w1]) O;refine hg.FM (G.perm<|dS _<|aG (l₁:=[_,_,_])) N O O N λv' H8 gQ hg' G _ _ vT=>?_;have G:=G.perm<|aG (l₂:=[_,_,_]);simp only[bI,bN]at G;refine splitK (λK hK=>?_) ?_
  .simp only[tq,d_,fP hx6];rcases vT with e|e<;>rw[e]<;>apply EL (a:=ru) xN jr jr hK
  exact zf _ _ _ _ _ hg' (hT.app hpt) (by rw[aQ];show M.length+4<=_;omega) G
 refine gF (λhb=>?_) λhb=>?_
 .refine eU ?_;exact ap (!f1) _ O
 .exact ap aC _ O
theorem RF(hw:Wf H){rn:Nat}(hG:Gr b H ra rn rcs na nn iK)(hcap:na=Q\/nc=fJ 5):aO Pg X 95 [gV ra rn rc na nn nc] H (Q1 (λv T=>∃a n c M,v=vV a n c/\Vo (H.next<=·) T a n M) H):=by
 have G:=F.refl hw;have g2:=hG.2.1;have g5:=hG.2.2.2.2.1;refine jS [0,1,2,3,4,5,7,9,11,12,13,21,22,23,33,34,35,74,75,76] ?_;refine G.box O λH1 u G=>?_;refine G.iX λHn rv G=>?_;refine eU ?_;refine G.cm (Lj G.wf<|hG.ex G.ext) ?_;rintro v H2 ⟨z,a,c,rfl,hcl⟩ E G;rw[EX];refine wR (λhc=>?_) λhc=>?_
 .refine PU.b1 O<|G.jH λHn G=>rr ?_;exact G.iI<|⟨⟨Q,0,0,[],O,je.nil _ _ _ _ _,N,λi h=>N⟩,G.ext⟩
 have hC:=(hcl hc).1;have hn1:=hC.2.1;have hn0:0<nn:=by have:=hC.1.2 0 N;omega
 have hge:=G.ext.next
 refine ME.ab3 G B5 λH3 rm hm hx3 hrm G=>?_;have hrm:H.next<=rm:=N
 refine eU ?_;refine lp9 3 5 7 9 11 23 33 34 35 (ai:=λm x3 x5 x7 x9 iJ yx Bf x34 Eh T=>∃i mm M gb,x5=B (zF rcs i)/\yx=B i/\i+m=rn/\uM T rm mm/\GB 240 4 x3 M gb/\Dr M/\M.length<=4*zF rcs i/\F [] H T ([(rv,180,[I Q 0 0]),(u,171,[I ra rn rc,I na nn nc])]++gb)) ?_ rn ⟨0,[],[],[],rfl,rfl,N,hm,GB.nil _ _,Dr.nil,bA _,G⟩;clear G hm;rintro m x3 x5 x7 x9 iJ yx Bf x34 Eh ni H4 ⟨i,mm,M,gb,rfl,rfl,him,hm,hg,hT,hl,G⟩;refine kX (λhc=>?_) λhc=>?_
 .obtain rfl:i=rn:=N;have hfr:=hC.from (i:=i-1) N;rw[show i-1+1=i by omega]at hfr;exact akn hG hg hT N G
 have hi:i<rn:=N;have hfr:=hC.from hi;have⟨r1,o1,yJ,u1,f1,w1,c1,a1,e1,hl1,zP,tq,hsz,_⟩:=hG.ru hi rc;rw[e1];refine bG ?_;refine G.Aj zP hl1<|G.nI O O O λH5 ru G hx5=>?_;have hm:=hm.ex hx5<|nofun;have G:F [] H H5 ((ru,234,wO yJ u1 f1 w1 c1 (rootOf rcs i) a1)::(rv,180,[I Q 0 0])::(u,171,[I ra rn rc,I na nn nc])::gb):=G;refine eU ?_;refine dQ ?_;rw[<-hfr.2.2];have hlo:zF rcs i<=zF rcs (i+1):=N;have hhi:zF rcs (i+1)<=nn:=N;generalize hh:zF rcs (i+1)=hi' at hlo hhi hfr|-;generalize zF rcs i=lo at hlo hl hfr|-;have⟨r2,o2,esl,hr2,hsub⟩:=hG.sub hcap hlo hhi hn0;refine PU.of esl<|bG ?_;refine NG 3 9 11 35 (ai:=λm x3 x9 iJ Eh T=>∃k mm M gb,Eh=B k/\k+m=hi'-lo/\uM T rm mm/\GB 240 4 x3 M gb/\Dr M/\M.length<=4*(lo+k)/\F [] H T ([(ru,234,wO yJ u1 f1 w1 c1 (rootOf rcs i) a1),(rv,180,[I Q 0 0]),(u,171,[I ra rn rc,I na nn nc])]++gb)) ?_ (hi'-lo) ⟨0,mm,M,gb,rfl,N,hm,hg,hT,N,G⟩;clear G hm hg hT hl hc;rintro m' y3 y9 y11 y35 MH H6 ⟨k,mm,M,gb,rfl,hkm,hm,hg,hT,hl,G⟩;simp only[bI,bN]at G;refine kX (λhc=>?_) λhc=>?_
 .obtain rfl:k=hi'-lo:=N;refine tm ?_;refine dQ ?_;refine tl ?_;refine dQ ?_;exact⟨rn-(i+1),N,_,_,_,_,_,_,_,_,_,_,_,O,i+1,mm,M,gb,by rw[hh,<-hfr.2.2],og,N,hm,hg,hT,N,F.drop (A:=[_]) G⟩
 have hk:k<hi'-lo:=N;have⟨eid,erd⟩:=hsub k hk;refine PU.of eid ?_;have⟨kd,ka,kn,kc,ks,t,xa,xn,xc,at',he,_,htz,_⟩:=hC.1.1 (lo+k) N;rw[he]at erd;refine G.Aj erd hr2<|G.nI O O O λH7 rb G hx7=>?_;have hm:=hm.ex hx7<|nofun;have G:F [] H H7 ((rb,238,[vi kd,I ka kn kc,.string t,I xa xn xc,vi at'])::(ru,234,wO yJ u1 f1 w1 c1 (rootOf rcs i) a1)::(rv,180,[I Q 0 0])::(u,171,[I ra rn rc,I na nn nc])::gb):=G;refine eU ?_;refine ME.IU hm B5 Rt eqS λay _ _=>?_;refine bG ?_
 have zf:∀{iJ mm M gb z_ H8 x3},uM H8 rm mm->GB 240 4 x3 M gb->Dr M->M.length<=4*(lo+(k+1))->F [] H H8 ((rb,238,[vi kd,I ka kn kc,.string t,I xa xn xc,vi at'])::(ru,234,wO yJ u1 f1 w1 c1 (rootOf rcs i) a1)::(rv,180,[I Q 0 0])::(u,171,[I ra rn rc,I na nn nc])::gb)->
  ∃m_1,m_1<m'/\yu (gV ra rn rc na nn nc) (pr u) (pr rv) (.map<|D rm) (B lo) (pr ru) top top (I ra rn rc) (B rn) (B i) (I (D ⟨r2,o2+lo*5,Q⟩) (hi'-lo)<|fJ 5) (B<|hi'-lo) top top top (λm x3 x9 iJ Eh T=>∃k mm M gb,Eh=B k/\k+m=hi'-lo/\uM T rm mm/\GB 240 4 x3 M gb/\Dr M/\M.length<=4*(lo+k)/\F [] H T ([(ru,234,wO yJ u1 f1 w1 c1 (rootOf rcs i) a1),(rv,180,[I Q 0 0]),(u,171,[I ra rn rc,I na nn nc])]++gb)) m_1
   (vY (gV ra rn rc na nn nc) (pr u) (pr rv) x3 (.map<|D rm) (B lo) (pr ru) (pr rb) iJ top top (I ra rn rc) (B rn) (B i) (I (D ⟨r2,o2+lo*5,Q⟩) (hi'-lo)<|fJ 5) (B<|hi'-lo) (vi<|(k:Int)+1) top top top z_ H8):=by
  intro iJ mm M gb z_ H8 x3 W J h3 h4 h5;exact⟨hi'-lo-(k+1),N,_,_,_,_,_,_,O,k+1,mm,M,gb,og,N,W,J,h3,h4,F.drop (A:=[_]) h5⟩
 refine gF (λhb=>?_) λhb=>?_
 .refine dQ ?_;exact zf hm hg hT N G
 refine OP (λhb2=>?_) λhb2=>?_
 .refine dQ ?_;exact zf hm hg hT N G
 refine Mq (λhc3=>?_) λhc3=>?_
 .refine dQ ?_;exact zf hm hg hT N G
 refine tm ?_;obtain⟨a3,n3,c3,rfl,hn3,_⟩:=hg.fl<|G.perm<|aG (l₁:=[_,_,_,_]);refine bG ?_;refine G.upd (.inr hrm) hm B5 eqS λH8 mm2 hm2 _ G=>G.pz<|aO.mono (xL G.wf t htz) ?_;rintro v H9 ⟨rfl,NN⟩;have hm2:=hm2.ex NN<|nofun;have G:=G.call NN;have anq:=hm2.1;refine PU.b4 O ?_;have hnm:=G.EZ hm2;have G:F [] H H9 ([(rb,238,[vi kd,I ka kn kc,.string t,I xa xn xc,vi at']),(ru,234,wO yJ u1 f1 w1 c1 (rootOf rcs i) a1),(rv,180,[I Q 0 0]),(u,171,[I ra rn rc,I na nn nc])]++gb):=G;have hS0:=G;have G:=hS0.base;refine al9 hg hT N G (l:=[.string t,vi (-1),vi 0,.bool aC]) ⟨t,-1,0,aC,O,htz⟩ λw v' Dq gQ hg' hT' hS'=>?_;have hm3:=hm2.ex hS'.ext hnm;refine bG ?_;refine tl ?_;refine dQ ?_;exact zf hm3 hg' hT' (by rw[aQ];show M.length+4<=_;omega)<|hS0.over hS'
end
section
variable{S:C Nat}{SH:Nat->Prop}
def zG(rcs:C Z):Nat->Nat
 |0=>0
 |i+1=>zG rcs i+(if Gb rcs i=f then 0 else 1)
def Hg(rcs:C Z)(h:i<=j):zG rcs i<=zG rcs j:=by
 induction j with
 |zero=>obtain rfl:i=0:=N
        exact ax _
 |succ j ih=>
  rcases cr i (j+1)with W|W
  .have:=ih N;show _<=zG rcs j+_;omega
  .obtain rfl:i=j+1:=N;exact ax _
def O'(rcs:C Z):∀i,zG rcs i<=i
 |0=>ax _
 |i+1=>by
  have:=O' rcs i;show zG rcs i+_<=_;split<;>omega
def wJ(tn lw:Nat)(l:C Z):Prop:=∃k a:Nat,l=[B k,B a,B 0]/\(k=0\/(k=1/\a<tn)\/(k=2/\a<lw))
def wJ.zero(tn lw:Nat):wJ tn lw [vi 0,vi 0,vi 0]:=⟨0,0,O,.inl O⟩
def NP(tn lw:Nat)(m:C<|aV×Z):Prop:=∀p∈m,∃l,p.2=.agg ⟨l⟩/\wJ tn lw l
def O_:uT Pg 262=D (9,121):=by kernel_rfl
def ab5:xW Pg 121=D (.agg ⟨[vi 0,vi 0,vi 0]⟩):=by kernel_rfl
def NP.get(h:NP tn lw m){ay:aB Z}(hf:∀v,ay=D v->(k,v)∈m):∃l,ay.getD (.agg ⟨[vi 0,vi 0,vi 0]⟩)=.agg ⟨l⟩/\wJ tn lw l:=by
 cases ay with
 |none=>exact⟨_,O,wJ.zero _ _⟩
 |some v=>exact h _<|hf v O
def ab6{rm re ru:Nat}{rn:Nat}{rg ay w:Bool}{ch root at' kd ar:Int}(hrm:H.next<=rm)(hm:uM H1 rm mm)(hE:NP tn lw mm)(hk:0<=ar->wJ tn lw [vi kd,vi ar,vi 0])(G:F [] H H1 [(re,121,[vi kd,vi ar,vi 0]),(ru,234,wO nm rg ay w ch root at'),(rv,180,[I va tn vc]),(u,171,[I ra rn rc,I na nn nc])]){K:Out->Prop}(kk:∀iJ Zi z_ T,uM T rm Zi->NP tn lw Zi->F [] H T [(rv,180,[I va tn vc]),(u,171,[I ra rn rc,I na nn nc])]->K (.norm<|oV x0 x1 (pr u) (pr rv) (I Q 0 0) (.map<|D rm) x6 x7 (pr ru) (pr re) iJ kW jI sP lH wN uC x20 x59 x60 TU JF z_ T)):
 gK Pg X (sub yC [1,1,1,0,1,0,0,1,1,0,0,1,1,1]) (oV x0 x1 (pr u) (pr rv) (I Q 0 0) (.map<|D rm) x6 x7 (pr ru) (pr re) iJ kW jI sP lH wN uC x20 x59 x60 TU JF ni H1) K:=by
 refine tm ?_;refine ME.IU hm O_ ab5 eqS λfo hf _=>?_;refine bG ?_;have⟨l,e,hl⟩:=hE.get hf;rw[e];obtain⟨k1,a1,rfl,hl⟩:=hl;refine G.nI O O O λH2 rt G E=>?_;have hm:=hm.ex E<|nofun;have G:F [] H H2 ((rt,121,[B k1,B a1,B 0])::[(re,121,[vi kd,vi ar,vi 0]),(ru,234,wO nm rg ay w ch root at'),(rv,180,[I va tn vc]),(u,171,[I ra rn rc,I na nn nc])]):=G
 have put:∀b:Bool,(b=f->0<=ar)->∀iJ ni,Bc ni 48=.bool b->gK Pg X (sub yC [1,1,1,0,1,0,0,1,1,0,0,1,1,1,1,1]) (oV x0 x1 (pr u) (pr rv) (I Q 0 0) (.map<|D rm) x6 x7 (pr ru) (pr re) iJ kW jI sP lH wN uC x20 x59 x60 TU JF ni H2) K:=by
  intro b hb iJ ni hlk;refine tl ?_;rw[hlk];refine gF (λhb2=>?_) λhb2=>?_
  .refine eU ?_;refine G.upd (.inr hrm) hm O_ eqS λH3 mm2 hm2 hmm G=>kk _ mm2 _ _ hm2 (λp hp=>?_)<|F.drop (A:=[_,_,_]) G;rcases hmm p hp with h|rfl
   .exact hE p h
   .exact⟨_,O,hk<|hb hb2⟩
  .exact kk _ mm _ _ hm hE<|F.drop (A:=[_,_,_]) G
 refine gF (λhb=>?_) λhb=>?_
 .refine eU ?_;exact put _ fM _ _ O
 .exact put aC (λh=>by cases h) _ _ rfl
def _root_.Go.Ae.F.ama(G:F S H0 H L){m:Nat}(hn:n<=m)(hm:m<=16777216)(k:∀H1 r,F S H0 H1 ((r,e,o7 z m)::L)->Ext H H1->H.next<=r->K (I (D ⟨r,0,Q⟩) n m) H1):ME (Go.Ae.mkS e z (B n) (B m) H) K:=
 (F.refl G.wf).mkS hn hm λH1 r hO=>k H1 r (F.frame (cs:=[]) (L:=L) G hO) hO.ext<|hO.wQ<|aN ..
def ahQ(z:C Z)(n:Nat):∀k,k<n->El (o7 z n) z.length k=z:=by
 induction n with
 |zero=>intro k h;omega
 |succ n ih=>
  intro k h;have e:o7 z (n+1)=z++o7 z n:=by show app z (o7 z n)=_;rw[qB]
  rw[e];cases k with
  |zero=>unfold El;simp
  |succ k=>
   have:=ih k N;unfold El at this|-;rw[show(k+1)*z.length=z.length+k*z.length by rw[gX];omega,uE,mU N];rw[show z.length+k*z.length-z.length=k*z.length by omega];exact this
def ahR{rm:Nat}{rn:Nat}(hG:Gr b H ra rn rcs na nn iK)(hR:∀i,i<nn->NoR (b<=·) H i (El iK 5 i))(hV:Vo SH H va tn vcs)(hm:uM H1 rm mm)(hE:NP tn lw mm)(G:F [] H H1 [(rv,180,[I va tn vc]),(u,171,[I ra rn rc,I na nn nc])]){x8:Z}:
 gK Pg X (sub yC [1,1,1,1]) (oV x0 x1 (pr u) (pr rv) (I Q 0 0) (.map<|D rm) x6 x7 x8 x9 iJ kW jI sP lH wN uC x20 x59 x60 TU JF ni H1)
  (jL Pg [.tmp 4]<|Q1 (λv T=>∃rl M,v=I (D ⟨rl,0,Q⟩) nn nn/\H.next<=rl/\rl<T.next/\Bk T rl 121 M/\M.length=nn*3/\∀i,i<nn->wJ tn lw (El M 3 i)) H):=by
 have g5:=hG.2.2.2.2.1;have hnm:=G.EZ hm;refine tm ?_;have anr:=hm.1;refine G.ama (ax _) N λH2 rl G hx2 hrl=>G.ld 2 (o:=1) O O ?_;refine bG ?_;have hm:=hm.ex hx2<|nofun;have hin:∃M,M.length=nn*3/\(∀i,i<nn->wJ tn lw (El M 3 i))/\F [] H H2 [(rl,121,M),(rv,180,[I va tn vc]),(u,171,[I ra rn rc,I na nn nc])]:=⟨_,Nq _ _,λi hi=>by rw[show(3:Nat)=[bX .i64 0,bX .i64 0,bX .i64 0].length from O,ahQ _ _ _ hi];exact wJ.zero _ _,G⟩;refine V' 13 14 15 61 67 (ai:=λm jI sP lH TU JF T=>∃i M,TU=B i/\i+m=nn/\uM T rm mm/\M.length=nn*3/\(∀i,i<nn->wJ tn lw (El M 3 i))/\F [] H T [(rl,121,M),(rv,180,[I va tn vc]),(u,171,[I ra rn rc,I na nn nc])]) ?_ nn ⟨0,hin.choose,rfl,N,hm,hin.choose_spec.1,hin.choose_spec.2.1,hin.choose_spec.2.2⟩;clear G hm hin;rintro m jI sP lH TU JF ni H3 ⟨i,M,rfl,him,hm,hcl,hcs,G⟩;refine kX (λhc=>?_) λhc=>?_
 .refine tl<|rr ?_;exact⟨⟨rl,M,O,G.wQ<|aN ..,(G.lo _<|aN ..).2,G.get 0 O,hcl,hcs⟩,G.ext⟩
 have hi:i<nn:=N;have⟨kd,ka,kn,kc,ks,t,xa,xn,xc,at',he,_,htz,_⟩:=hR i hi;have⟨r2,o2,e2,hr2,hrd,_⟩:=hG.no hi nc he;rw[e2];refine bG ?_;refine G.Aj hrd hr2<|G.nI O O O λH4 rb G hx4=>?_;have hm:=hm.ex hx4<|nofun;have G:F [] H H4 ((rb,238,[vi kd,I ka kn kc,.string t,I xa xn xc,vi at'])::[(rl,121,M),(rv,180,[I va tn vc]),(u,171,[I ra rn rc,I na nn nc])]):=G
 have zf:∀{lH JF z_ H5 M},uM H5 rm mm->M.length=nn*3->(∀i,i<nn->wJ tn lw (El M 3 i))->F [] H H5 ((rb,238,[vi kd,I ka kn kc,.string t,I xa xn xc,vi at'])::[(rl,121,M),(rv,180,[I va tn vc]),(u,171,[I ra rn rc,I na nn nc])])->
  ∃m_1,m_1<m/\zO x0 x1 (pr u) (pr rv) (I Q 0 0) (.map<|D rm) x6 x7 x8 x9 iJ (I (D ⟨rl,0,Q⟩) nn nn) wN uC x20 (I na nn nc) (B nn) (λm jI sP lH TU JF T=>∃i M,TU=B i/\i+m=nn/\uM T rm mm/\M.length=nn*3/\(∀i,i<nn->wJ tn lw (El M 3 i))/\F [] H T [(rl,121,M),(rv,180,[I va tn vc]),(u,171,[I ra rn rc,I na nn nc])]) m_1
   (oV x0 x1 (pr u) (pr rv) (I Q 0 0) (.map<|D rm) x6 x7 x8 x9 iJ (I (D ⟨rl,0,Q⟩) nn nn) (B i) (pr rb) lH wN uC x20 (I na nn nc) (B nn) (vi<|(i:Int)+1) JF z_ H5):=by
  intro lH JF z_ H5 M W J h3 h4;exact⟨nn-(i+1),N,_,_,_,_,_,_,_,O,i+1,M,og,N,W,J,h3,F.drop (A:=[_]) h4⟩
 have put:∀{H5 l}{K:Z->Z->R->Prop},uM H5 rm mm->wJ tn lw l->F [] H H5 ((rb,238,[vi kd,I ka kn kc,.string t,I xa xn xc,vi at'])::[(rl,121,M),(rv,180,[I va tn vc]),(u,171,[I ra rn rc,I na nn nc])])->
  (∀p H6 M,uM H6 rm mm->M.length=nn*3->(∀i,i<nn->wJ tn lw (El M 3 i))->F [] H H6 ((rb,238,[vi kd,I ka kn kc,.string t,I xa xn xc,vi at'])::[(rl,121,M),(rv,180,[I va tn vc]),(u,171,[I ra rn rc,I na nn nc])])->K p undef H6)->
  PU (zN 3 (I (D ⟨rl,0,Q⟩) nn nn)<|B i) λp=>ME (CW 3 p (.agg ⟨l⟩) H5) (K p):=by
  intro H5 l K hm hl G kk;refine PU.of (tX hi) ?_;rw[aY];obtain⟨k1,a1,rfl,_⟩:=id hl;have hO:=G.base;refine hO.st 1 O O (by show i*3+3<=M.length;omega) rfl λH6 hO6=>?_;have hne:=G.EZ hm;refine kk _ H6 _ (hm.ex hO6.ext hne) (by rw[mq (by show i*3+3<=M.length;omega)];exact hcl) (λk hk=>?_)<|G.over hO6;show wJ tn lw<|El (splice M (i*3) [B k1,B a1,B 0]) 3 k;rw[Nv (es:=3) (k:=i) O N];split
  .exact hl
  .exact hcs k hk
 refine wS (λhc1=>?_) λhc1=>?_
 .refine G.pz<|ME.agx hm O_ ab5 eqS λfo hf _=>?_;have⟨l,e,hl⟩:=hE.get hf;rw[e];refine put hm hl G λp H6 M W J h3 h4=>?_;refine dQ ?_;exact zf W J h3 h4
 refine mF (λhc2=>?_) λhc2=>?_
 .refine dQ ?_;exact zf hm hcl hcs G
 refine eU ?_;refine G.cm (MI G.wf ⟨hV.1.ex G.ext,hV.2⟩ t) ?_;rintro v H5 ⟨z,rfl,hz1,hz2⟩ hx5 G;have hm:=hm.ex hx5<|nofun;refine rV (λhc3=>?_) λhc3=>?_
 .obtain⟨z,rfl⟩:∃n:Nat,z=n:=⟨z.toNat,N⟩;refine PU.b3 O<|put (l:=[vi 1,B z,vi 0]) hm ⟨1,z,O,.inr<|.inl ⟨O,N⟩⟩ G λp H6 M W J h3 h4=>?_;refine dQ ?_;exact zf W J h3 h4
 .refine dQ ?_;exact zf hm hcl hcs G
def Up(hw:Wf H){rn:Nat}(hG:Gr b H ra rn rcs na nn iK)(hR:∀i,i<nn->NoR (b<=·) H i (El iK 5 i))(hV:Vo SH H va tn vcs):aO Pg X 123 [gV ra rn rc na nn nc,vV va tn vc] H
 (Q1 (λv T=>∃rl M,v=I (D ⟨rl,0,Q⟩) nn nn/\H.next<=rl/\rl<T.next/\Bk T rl 121 M/\M.length=nn*3/\∀i,i<nn->wJ tn (zG rcs rn) (El M 3 i)) H):=by
 have g2:=hG.2.1;have G:=F.refl hw;refine jS [0,1,2,3,4,5,6,7,8,9,11,12,13,14,15,18,19,20,59,60,61,67] ?_;refine G.box O λH1 u G=>?_;refine G.box O λH2 rv G=>?_;have hge:=G.ext.next
 refine ME.ab3 G O_ λH3 rm hm hx3 hrm G=>?_;have hrm:H.next<=rm:=N
 refine eU ?_;refine lp6 6 7 8 9 11 20 (ai:=λm x6 x7 x8 x9 iJ x20 T=>∃i mm,x6=B (zG rcs i)/\x20=B i/\i+m=rn/\uM T rm mm/\NP tn (zG rcs rn) mm/\F [] H T [(rv,180,[I va tn vc]),(u,171,[I ra rn rc,I na nn nc])]) ?_ rn ⟨0,[],rfl,rfl,N,hm,(nofun),G⟩;clear G hm;rintro m x6 x7 x8 x9 iJ x20 ni H4 ⟨i,mm,rfl,rfl,him,hm,hE,G⟩;refine kX (λhc=>?_) λhc=>?_
 .exact ahR hG hR hV hm hE G
 have hi:i<rn:=N;have⟨r1,o1,yJ,u1,f1,w1,c1,a1,e1,hl1,zP,tq,hsz,hel⟩:=hG.ru hi rc;rw[e1];refine bG ?_;refine G.Aj zP hl1<|G.nI O O O λH5 ru G hx5=>?_;have hm:=hm.ex hx5<|nofun;refine PU.b3 O<|G.nI O O O λH6 re G hx6=>?_;have hm:=hm.ex hx6<|nofun;have G:F [] H H6 [(re,121,[vi 2,B<|zG rcs i,vi 0]),(ru,234,wO yJ u1 f1 w1 c1 (rootOf rcs i) a1),(rv,180,[I va tn vc]),(u,171,[I ra rn rc,I na nn nc])]:=G;have hlow:zG rcs (i+1)=zG rcs i+(if Gb rcs i=f then 0 else 1):=rfl;rw[JI hel]at hlow;have hmo:=Hg rcs (show i+1<=rn by omega);have amb:=O' rcs i;refine OP (λhb=>?_) λhb=>?_
 .rw[if_pos hb]at hlow;apply G.iI;refine G.cm (Un G.wf ⟨hV.1.ex G.ext,hV.2⟩ i) ?_;rintro v H7 ⟨z,rfl,hz1,hz2⟩ hx7 G;have hm:=hm.ex hx7<|nofun;refine PU.b3 O ?_;have hO:=G.base;refine hO.st 0 O O (ax 3) O λH8 hO8=>?_;have hm:=hm.ex hO8.ext<|G.EZ hm;have G:F [] H H8 [(re,121,[vi 1,vi z,vi 0]),(ru,234,wO yJ u1 f1 w1 c1 (rootOf rcs i) a1),(rv,180,[I va tn vc]),(u,171,[I ra rn rc,I na nn nc])]:=G.over hO8
  refine ab6 hrm hm hE (λh0=>by
   obtain⟨z,rfl⟩:∃n:Nat,z=n:=⟨z.toNat,N⟩;exact⟨1,z,O,.inr<|.inl ⟨O,N⟩⟩) G λiJ Zi z_ H9 g1 g2 g3=>?_
  refine bG ?_;refine tl ?_;refine dQ ?_;exact⟨rn-(i+1),N,_,_,_,_,_,_,_,_,O,i+1,Zi,by rw[hlow];rfl,og,N,g1,g2,g3⟩
 .rw[if_neg (by rw[hb];simp)]at hlow;refine dQ ?_;rw[show((zG rcs i:Int)+1)=((zG rcs (i+1):Nat):Int) by omega];refine ab6 hrm hm hE (λh0=>⟨2,zG rcs i,rfl,.inr<|.inr ⟨rfl,N⟩⟩) G λiJ Zi z_ H9 g1 g2 g3=>?_;refine bG ?_;refine tl ?_;refine dQ ?_;exact⟨rn-(i+1),N,_,_,_,_,_,_,_,_,O,i+1,Zi,O,og,N,g1,g2,g3⟩
end
section
variable{S:C Nat}{SH:Nat->Prop}
def Wp(SH:Nat->Prop)(H:R)(nn:Nat)(iK:C Z)(kd:Nat->Int)(zs:Nat->C Nat):Prop:=∀i,i<nn->∃(a:aB Addr)(c:Nat)(t:aV)(xa:aB Addr)(xn xc:Nat)(at':Int),El iK 5 i=[vi (kd i),.slice a (zs i).length c,.string t,I xa xn xc,vi at']/\je SH 3 H a (zs i).length 1 (fF<|zs i)/\Ld (kd i) (zs i).length/\(∀z∈zs i,z<i)/\t.size<=1000000/\(zs i).length<=20001
def Wq:∀{ks:C Z}{i:Nat},(∀x∈ks,∃z:Nat,x=B z/\z<i)->∃zs,ks=fF zs/\∀z∈zs,z<i
 |[],i,h=>⟨[],rfl,nofun⟩
 |x::ks,i,h=>by
  obtain⟨z,rfl,hz⟩:=h x<|aN ..
  obtain⟨zs,rfl,J⟩:=Wq (ks:=ks) (i:=i) λhr hy=>h hr<|bH _ hy
  exact⟨z::zs,O,λhr hy=>by
   rcases bP.1 hy with rfl|hy
   .exact hz
   .exact J hr hy⟩
theorem Wp.of(h:∀i,i<nn->NoR SH H i (El iK 5 i)):∃kd zs,Wp SH H nn iK kd zs:=by
 have key:∀i,∃p:Int×C Nat,i<nn->∃(a:aB Addr)(c:Nat)(t:aV)(xa:aB Addr)(xn xc:Nat)(at':Int),El iK 5 i=[vi p.1,I a p.2.length c,.string t,I xa xn xc,vi at']/\je SH 3 H a p.2.length 1 (fF p.2)/\Ld p.1 p.2.length/\(∀z∈p.2,z<i)/\t.size<=1000000/\p.2.length<=20001:=by
  intro i
  by_cases hi:i<nn
  .have⟨kd,a,n,c,ks,t,xa,xn,xc,at',W,J,h3,h4,h5,h6⟩:=h i hi;obtain⟨zs,rfl,h7⟩:=Wq h6;have:n=zs.length:=by have:=h4.1.1;simp at this;omega
   subst this;exact⟨(kd,zs),λ_=>⟨a,c,t,xa,xn,xc,at',W,h4,h5,h7,h3,J⟩⟩
  .exact⟨(0,[]),λh=>absurd h hi⟩
 exact⟨λi=>(jB<|key i).1,λi=>(jB<|key i).2,λi hi=>nJ (key i) hi⟩
def h1(ws:C Nat)(i:Nat):Nat:=ws[i]?.getD 0
def Fp(kd:Int):Nat:=if kd=0 then 2 else if kd=1 then 0 else if kd=2\/kd=3\/kd=4 then 3 else 1
def Jk(kd:Int):Nat:=if kd=0 then 1 else 0
def qI(ws:C Nat)(kd:Int)(l:C Nat):Nat:=(l.map λz=>h1 ws z+Jk kd).sum
def Gd(kd:Nat->Int)(zs:Nat->C Nat)(ws:C Nat)(i:Nat):Prop:=h1 ws i=min (Fp (kd i)+qI ws (kd i) (zs i)) 4001
def agA{z:Nat}(h:z≠i):h1 (ws.set i x) z=h1 ws z:=by
 unfold h1;rw[dG,if_neg λe=>h e.symm]
def ahS(h:i<ws.length):h1 (ws.set i x) i=x:=by
 unfold h1;rw[dG,if_pos O,if_pos h];rfl
def RG{kd:Int}{l:C Nat}(h:∀z∈l,z<i):qI (ws.set i x) kd l=qI ws kd l:=by
 unfold qI;congr 1;apply List.map_congr_left;intro z hz;rw[agA (by have:=h z hz;omega)]
def ako(h:Gd kd zs ws i):h1 ws i<=4001:=by
 unfold Gd at h;omega
def amc{rs rr rn rb:Nat}{xa:aB Addr}{t:aV}{xn xc:Nat}{at':Int}(hnn:nn<=4000)(hi:i<nn)(hwl:ws.length=nn)(hbl:bs.length=nn)(hf:je SH 3 H a (zs i).length 1<|fF<|zs i)(hzz:∀j,j<nn->∀z∈zs j,z<j)(hzl:(zs i).length<=20001)(hd:∀j,j<i->Gd kd zs ws j)(G:F [] H H1 [(rb,238,[vi (kd i),.slice a (zs i).length c,.string t,I xa xn xc,vi at']),(rr,4,bools bs),(rs,3,fF ws),(u,171,[I ra rn rc,I na nn nc])]){x24 x25 x31 Mv G6 D5:Z}{K:Out->Prop}(kk:∀jo iJ jI Mv G6 D5 ws' bs' z_ T,ws'.length=nn->bs'.length=nn->(∀j,j<i+1->Gd kd zs ws' j)->F [] H T [(rb,238,[vi (kd i),.slice a (zs i).length c,.string t,I xa xn xc,vi at']),(rr,4,bools bs'),(rs,3,fF ws'),(u,171,[I ra rn rc,I na nn nc])]->
  K (.norm<|rW x0 x1 (pr u) x4 x5 (I (D ⟨rs,0,Q⟩) nn nn) (I (D ⟨rr,0,Q⟩) nn nn) (B i) (pr rb) jo iJ jI yx x24 x25 x31 Mv G6 D5 z_ T)):
 gK Pg X (sub nT [1,1,1,0,1,0,0,1,1,0,0,1,1,1]) (rW x0 x1 (pr u) x4 x5 (I (D ⟨rs,0,Q⟩) nn nn) (I (D ⟨rr,0,Q⟩) nn nn) (B i) (pr rb) (B<|Fp<|kd i) (.bool ok) jI yx x24 x25 x31 Mv G6 D5 ni H1) K:=by
 have hz:=hzz i hi;have ant:Fp (kd i)<=3:=by unfold Fp;split<;>(try split)<;>(try split)<;>omega
 refine tm ?_;refine NG 10 11 13 51 (ai:=λm jo iJ jI D5 T=>∃(k:Nat)(o:Bool),D5=B k/\k+m=(zs i).length/\jo=B (min (Fp (kd i)+qI ws (kd i) ((zs i).take k)) 4001)/\iJ=.bool o/\F [] H T [(rb,238,[vi (kd i),.slice a (zs i).length c,.string t,I xa xn xc,vi at']),(rr,4,bools bs),(rs,3,fF ws),(u,171,[I ra rn rc,I na nn nc])]) ?_ (zs i).length ⟨0,ok,rfl,N,by rw[kC,show qI ws (kd i) []=0 from O,dH,iV N];rfl,rfl,G⟩;clear G;rintro m jo iJ jI D5 ni H2 ⟨k,o,rfl,hkm,rfl,rfl,G⟩;refine kX (λhc=>?_) λhc=>?_
 .obtain rfl:k=(zs i).length:=N;rw[qO];refine tp ?_;rw[show min ((min (Fp (kd i)+qI ws (kd i) (zs i)) 4001:Nat):Int) 4001=((min (Fp (kd i)+qI ws (kd i) (zs i)) 4001:Nat):Int) by omega];refine G.Zg hi (by simpa using(by omega:i<ws.length)) (kk:=λp H3 G=>?_);refine G.Zg hi (by simpa using(by omega:i<bs.length)) (kk:=λp H4 G=>?_);have e1:(fF ws).set i (B<|min (Fp (kd i)+qI ws (kd i) (zs i)) 4001)=fF (ws.set i<|min (Fp (kd i)+qI ws (kd i) (zs i)) 4001):=fZ.symm;have e2:(bools bs).set i (.bool o)=bools (bs.set i o):=fZ.symm;rw[e1,e2]at G;refine kk _ _ _ _ _ _ _ _ _ _ (by rw[bJ];exact hwl) (by rw[bJ];exact hbl) (λj hj=>?_) G;unfold Gd;rcases cr j i with h|h
  .rw[agA N,RG λz hz'=>Nat.lt_trans (hzz j N z hz') h];exact hd j h
  .obtain rfl:j=i:=N;rw[ahS N,RG hz]
 have hk:k<(zs i).length:=N;have Si:(zs i)[k]?=D (zs i)[k]:=av hk;have hzi:=hz _<|bB hk;refine(hf.ex G.ext).ix hk (jR _ Si) λp=>?_;have hzn:(zs i)[k]<nn:=N
 have hks:qI ws (kd i) ((zs i).take<|k+1)=qI ws (kd i) ((zs i).take k)+(h1 ws (zs i)[k]+Jk (kd i)):=by
  unfold qI;rw[eH,Si];show(List.map _<|_++[_]).sum=_;rw[dA,lN];rfl
 generalize(zs i)[k]=z at Si hzi hzn hks|-;have hwz:h1 ws z<=4001:=ako<|hd z hzi
 have hwv:(fF ws)[z]?=D (B<|h1 ws z):=by
  rw[bF,av (show z<ws.length by omega)];show _=D (B<|ws[z]?.getD 0);rw[av (show z<ws.length by omega)];rfl
 obtain⟨bz,hbz⟩:∃b,bs[z]?=D b:=⟨_,av N⟩;refine G.ix hzn hwv λp=>?_;refine dQ ?_;refine eU ?_
 have fin:∀(H':Int),H'=((min (Fp (kd i)+qI ws (kd i) ((zs i).take k)) 4001:Nat):Int)+(h1 ws z:Int)+(Jk (kd i):Int)->∀ni,gK Pg X (sub nT [1,1,1,0,1,0,0,1,1,0,0,1,1,1,0,1,0,0,1,1,0,0,1,1,1]) (rW x0 x1 (pr u) x4 x5 (I (D ⟨rs,0,Q⟩) nn nn) (I (D ⟨rr,0,Q⟩) nn nn) (B i) (pr rb) (vi H') (.bool o) (B z) yx x24 x25 x31 (.slice a (zs i).length c) (B (zs i).length) (B k) ni H2)
  (sw 4<|t_ Pg X (sub nT [1,1,1,0,1,0,0,1,1,0,0,1,1,1,0,1,0,0,1,1,1])<|Gm (xK x0 x1 (pr u) x4 x5 (I (D ⟨rs,0,Q⟩) nn nn) (I (D ⟨rr,0,Q⟩) nn nn) (B i) (pr rb) yx x24 x25 x31 (.slice a (zs i).length c) (B (zs i).length) λm jo iJ jI D5 T=>∃(k:Nat)(o:Bool),D5=B k/\k+m=(zs i).length/\jo=B (min (Fp (kd i)+qI ws (kd i) ((zs i).take k)) 4001)/\iJ=.bool o/\F [] H T [(rb,238,[vi (kd i),.slice a (zs i).length c,.string t,I xa xn xc,vi at']),(rr,4,bools bs),(rs,3,fF ws),(u,171,[I ra rn rc,I na nn nc])]) m<|sw 3<|t_ Pg X (sub nT [1,1,1,0,1,0,0,1,1,0,0,1,1,1,1]) K):=by
  intro H' hT ni;refine tp ?_;have eT:min H' 4001=((min (Fp (kd i)+qI ws (kd i) ((zs i).take<|k+1)) 4001:Nat):Int):=by rw[hT,hks];omega
  rw[eT];refine gF (λhb=>?_) λhb=>?_
  .refine G.ix (v:=.bool bz) hzn (jR _ hbz) λp=>tl ?_;refine dQ ?_;exact⟨(zs i).length-(k+1),N,_,_,_,_,_,_,O,k+1,bz,og,N,O,O,G⟩
  .refine tl ?_;refine dQ ?_;exact⟨(zs i).length-(k+1),N,_,_,_,_,_,_,O,k+1,aC,og,N,O,O,G⟩
 refine aT (λhc2=>?_) λhc2=>?_
 .refine dQ ?_;exact fin _ (by unfold Jk;rw[if_pos hc2];rfl) _
 .exact fin _ (by unfold Jk;rw[if_neg hc2];rfl) _
def Uq(hw:Wf H){rl:Nat}{rn:Nat}{lcs:C Z}{lc:Nat}(hG:Gr b H ra rn rcs na nn iK)(hNd:Wp SH H nn iK kd zs)(hl:Bk H rl 121 lcs)(hlr:rl<H.next)(hll:lcs.length=nn*3)(hlp:∀i,i<nn->wJ tn lw (El lcs 3 i)):
 aO Pg X 124 [gV ra rn rc na nn nc,I (D ⟨rl,0,Q⟩) nn lc] H (Q1 (λv T=>∃rs rr ws bs,v=.tuple ⟨[I (D ⟨rs,0,Q⟩) nn nn,I (D ⟨rr,0,Q⟩) nn nn]⟩/\(H.next<=rs/\rs<T.next)/\(H.next<=rr/\rr<T.next)/\Bk T rs 3 (fF ws)/\Bk T rr 4 (bools bs)/\ws.length=nn/\bs.length=nn/\∀j,j<nn->Gd kd zs ws j) H):=by
 have g5:=hG.2.2.2.2.1;have hzz:∀j,j<nn->∀z∈zs j,z<j:=λj hj=>by obtain⟨_,_,_,_,_,_,_,_,_,_,h,_⟩:=hNd j hj;exact h
 have G:=F.refl hw;refine jS [0,1,2,4,5,6,7,8,9,10,11,13,23,24,25,31,49,50,51] ?_;refine G.box O λH1 u G=>?_;refine eU ?_;refine G.mkS (ax _) N λH2 rs G=>?_;rw[mZ]at G;refine eU ?_;refine G.mkS (ax _) N λH3 rr G=>?_;rw[mZ]at G;refine eU ?_;have hz:aX nn (bX .i64 0)=fF (aX nn 0):=by simp
 have hb:aX nn (gI aC)=bools (aX nn aC):=by simp
 rw[hz,hb]at G;have G:F [] H H3 [(rr,4,bools<|aX nn aC),(rs,3,fF<|aX nn 0),(u,171,[I ra rn rc,I na nn nc])]:=G;refine ahy 8 9 10 11 13 25 31 49 50 51 (ai:=λm x8 x9 jo iJ jI x25 x31 Mv G6 D5 T=>∃i ws bs,x25=B i/\i+m=nn/\ws.length=nn/\bs.length=nn/\(∀j,j<i->Gd kd zs ws j)/\F [] H T [(rr,4,bools bs),(rs,3,fF ws),(u,171,[I ra rn rc,I na nn nc])]) ?_ nn ⟨0,_,_,rfl,N,by simp,by simp,λj h=>N,G⟩;clear G hz hb;rintro m x8 x9 jo iJ jI x25 x31 Mv G6 D5 ni H4 ⟨i,ws,bs,rfl,him,hwl,hbl,hd,G⟩;refine kX (λhc=>?_) λhc=>?_
 .refine tl ?_;obtain rfl:i=nn:=N;refine Lu.rr ?_;exact⟨⟨rs,rr,ws,bs,O,⟨G.wQ<|aS (i:=1) O,(G.lo _<|aS (i:=1) O).2⟩,⟨G.wQ<|aN ..,(G.lo _<|aN ..).2⟩,G.get 1 O,G.get 0 O,hwl,hbl,hd⟩,G.ext⟩
 have hi:i<nn:=N;have⟨a,c,t,xa,xn,xc,at',he,hf,hfit,_,htz,hzl⟩:=hNd i hi;have⟨r2,o2,e2,hr2,hrd,_⟩:=hG.no hi nc he;rw[e2];refine bG ?_;refine G.Aj hrd hr2<|G.nI O O O λH5 rb G hx5=>?_;have G:F [] H H5 [(rb,238,[vi (kd i),.slice a (zs i).length c,.string t,I xa xn xc,vi at']),(rr,4,bools bs),(rs,3,fF ws),(u,171,[I ra rn rc,I na nn nc])]:=G;refine eU ?_
 have fin:∀(ok:Bool){jo:Z},jo=B (Fp<|kd i)->∀{ni},gK Pg X (sub nT [1,1,1,0,1,0,0,1,1,0,0,1,1,1]) (rW (gV ra rn rc na nn nc) (I (D ⟨rl,0,Q⟩) nn lc) (pr u) (I Q 0 0) (I Q 0 0) (I (D ⟨rs,0,Q⟩) nn nn) (I (D ⟨rr,0,Q⟩) nn nn) (B i) (pr rb) jo (.bool ok) jI (I na nn nc) (B nn) (B i) (vi<|kd i) Mv G6 D5 ni H5)
  (sw 1<|t_ Pg X (sub nT [1,1,1,0,1,0,0,1,1,1])<|Gm (yH (gV ra rn rc na nn nc) (I (D ⟨rl,0,Q⟩) nn lc) (pr u) (I Q 0 0) (I Q 0 0) (I (D ⟨rs,0,Q⟩) nn nn) (I (D ⟨rr,0,Q⟩) nn nn) (I na nn nc) (B nn) λm x8 x9 jo iJ jI x25 x31 Mv G6 D5 T=>∃i ws bs,x25=B i/\i+m=nn/\ws.length=nn/\bs.length=nn/\(∀j,j<i->Gd kd zs ws j)/\F [] H T [(rr,4,bools bs),(rs,3,fF ws),(u,171,[I ra rn rc,I na nn nc])]) m<|sw 0<|t_ Pg X (sub nT [1,1,1,1])<|jL Pg [.tmp 4,.tmp 5]<|Q1 (λv T=>∃rs rr ws bs,v=.tuple ⟨[I (D ⟨rs,0,Q⟩) nn nn,I (D ⟨rr,0,Q⟩) nn nn]⟩/\(H.next<=rs/\rs<T.next)/\(H.next<=rr/\rr<T.next)/\Bk T rs 3 (fF ws)/\Bk T rr 4 (bools bs)/\ws.length=nn/\bs.length=nn/\∀j,j<nn->Gd kd zs ws j) H):=by
  intro ok jo e10 ni;subst e10;refine amc g5 hi hwl hbl hf hzz hzl hd G λjo iJ jI Mv G6 D5 ws' bs' z_ T W J h3 h4=>?_;refine bG ?_;refine tl ?_;refine dQ ?_;exact⟨nn-(i+1),N,_,_,_,_,_,_,_,_,_,_,_,_,O,i+1,ws',bs',og,N,W,J,h3,F.drop (A:=[_]) h4⟩
 have leaf:∀(b:Bool){iJ:Z}{ok:Bool}{ni},iJ=.bool ok->(b=f->Fp (kd i)=1)->(b=aC->Fp (kd i)=0)->Bc ni 38=.bool b->gK Pg X (sub nT [1,1,1,0,1,0,0,1,1,0,0,1,1,0,1,0,1,1,1,1,1]) (rW (gV ra rn rc na nn nc) (I (D ⟨rl,0,Q⟩) nn lc) (pr u) (I Q 0 0) (I Q 0 0) (I (D ⟨rs,0,Q⟩) nn nn) (I (D ⟨rr,0,Q⟩) nn nn) (B i) (pr rb) (B 0) iJ jI (I na nn nc) (B nn) (B i) (vi<|kd i) Mv G6 D5 ni H5)
  (sw 2<|t_ Pg X (sub nT [1,1,1,0,1,0,0,1,1,0,0,1,1,1])<|sw 1<|t_ Pg X (sub nT [1,1,1,0,1,0,0,1,1,1])<|Gm (yH (gV ra rn rc na nn nc) (I (D ⟨rl,0,Q⟩) nn lc) (pr u) (I Q 0 0) (I Q 0 0) (I (D ⟨rs,0,Q⟩) nn nn) (I (D ⟨rr,0,Q⟩) nn nn) (I na nn nc) (B nn) λm x8 x9 jo iJ jI x25 x31 Mv G6 D5 T=>∃i ws bs,x25=B i/\i+m=nn/\ws.length=nn/\bs.length=nn/\(∀j,j<i->Gd kd zs ws j)/\F [] H T [(rr,4,bools bs),(rs,3,fF ws),(u,171,[I ra rn rc,I na nn nc])]) m<|sw 0<|t_ Pg X (sub nT [1,1,1,1])<|jL Pg [.tmp 4,.tmp 5]<|Q1 (λv T=>∃rs rr ws bs,v=.tuple ⟨[I (D ⟨rs,0,Q⟩) nn nn,I (D ⟨rr,0,Q⟩) nn nn]⟩/\(H.next<=rs/\rs<T.next)/\(H.next<=rr/\rr<T.next)/\Bk T rs 3 (fF ws)/\Bk T rr 4 (bools bs)/\ws.length=nn/\bs.length=nn/\∀j,j<nn->Gd kd zs ws j) H):=by
  intro b iJ ok ni e11 hb1 hb0 hlk;subst e11;refine tl ?_;rw[hlk];refine gF (λhb=>?_) λhb=>?_
  .have⟨k1,a1,hle,_⟩:=hlp i hi;refine PU.of (tX hi)<|bG ?_
   have hcell:H.cell rl (i*3)=D (B k1):=by
    apply hl.cell;have:=dW (λl=>l[0]?) hle;simp only[mR]at this;simpa using this
   refine G.GU hcell hlr ?_;refine eU ?_;exact fin _ (by rw[hb1 hb];rfl)
  .refine bG ?_;exact fin ok (by rw[hb0 hb])
 refine aT (λh0=>?_) λh0=>?_
 .exact fin f (by unfold Fp;rw[if_pos h0];rfl)
 have b3:kd i=2\/kd i=3\/kd i=4->Fp (kd i)=3:=λh=>by unfold Fp;rw[if_neg N,if_neg N,if_pos h]
 have b1:kd i=5\/kd i=6\/kd i=7->Fp (kd i)=1:=λh=>by unfold Fp;rw[if_neg N,if_neg N,if_neg N]
 refine aT (λJ=>?_) λJ=>?_
 .refine tp ?_;refine aT (λ_=>?_) λh=>absurd J h;exact fin f (by rw[b3 N]<;>rfl)
 refine aT (λh3=>?_) λh3=>?_
 .refine tp ?_;refine aT (λ_=>?_) λh=>absurd h3 h;exact fin f (by rw[b3 N]<;>rfl)
 refine q_ (λh4=>?_) λh4=>?_
 .exact fin f (by rw[b3 N]<;>rfl)
 refine aT (λh5=>?_) λh5=>?_
 .exact leaf (decide<|kd i=5) O (λ_=>b1 N) (λh=>absurd h5<|mX h) O
 refine aT (λh6=>?_) λh6=>?_
 .exact leaf (decide<|kd i=6) O (λ_=>b1 N) (λh=>absurd h6<|mX h) O
 exact leaf (decide<|kd i=7) O (λh=>b1 (by have:=fM h;omega)) (λh=>by
  have h7:=mX h;have:kd i=1:=by rcases hfit with h|h|h|h<;>omega
  unfold Fp;rw[if_neg h0,if_pos this]) O
end
section
open Go.Ae
abbrev Ed:=Nat×Nat×Nat
structure At where
 nm:C aV
 st:C Nat
 sp:C Nat
 ow:C Nat
 eg:C (C Ed)
 ty:Nat
namespace At
variable{i k n r s:Nat}{e:Ed}{tok:Bool}{w:Ed->Prop}{A:At}
def nr(A:At):Nat:=A.nm.length
def ns(A:At):Nat:=A.ow.length
def S(A:At)(r:Nat):Nat:=A.st[r]?.getD 0
def P(A:At)(r:Nat):Nat:=A.sp[r]?.getD 0
def aj(A:At)(s:Nat):Nat:=A.ow[s]?.getD 0
def hx(A:At)(s:Nat):C Ed:=A.eg[s]?.getD []
def aeG(A:At)(e:Ed):Prop:=e.1=0\/(e.1=1/\e.2.1<A.ty)\/(e.1=2/\e.2.1<A.nr)
structure Ok(A:At):Prop where
 pos:0<A.nr
 Ws:A.st.length=A.nr
 YA:A.sp.length=A.nr
 Ac:A.eg.length=A.ns
 big:A.ns<=4000
 few:A.nr<=1000
 s:∀r,r<A.nr->A.S r<A.ns/\A.aj (A.S r)=r
 p:∀r,r<A.nr->A.P r<A.ns/\A.aj (A.P r)=r
 o:∀s,s<A.ns->A.aj s<A.nr
 e:∀s,s<A.ns->∀e∈A.hx s,e.2.2<A.ns/\A.aj e.2.2=A.aj s/\A.aeG e
 tot:(A.eg.map gB).sum<=100000
def RJ(h:A.eg.length=A.ns)(hs:¬s<A.ns):A.hx s=[]:=by
 unfold hx;rw[fE N];rfl
inductive Mk(A:At)(tok:Bool):Nat->Prop
 |stop (r:Nat):r<A.nr->Mk A tok (A.P r)
 |edge (s:Nat) (e:Ed):e∈A.hx s->(e.1=1->tok=f)->(e.1=2->Mk A tok (A.S e.2.1))->Mk A tok e.2.2->Mk A tok s
inductive Rc(A:At)(ay:Nat->Prop)(w:Ed->Prop):Nat->Prop
 |base (s:Nat):ay s->Rc A ay w s
 |step (s:Nat) (e:Ed):Rc A ay w s->e∈A.hx s->w e->Rc A ay w e.2.2
def leads(A:At)(e:Ed):Prop:=A.Mk f e.2.2/\(e.1=2->A.Mk f (A.S e.2.1))
def isS(A:At)(s:Nat):Prop:=∃r,r<A.nr/\s=A.S r
def met(A:At)(s:Nat):Prop:=A.Rc A.isS A.leads s
open Classical in
def LZ(A:At)(s:Nat):C Ed:=if A.met s then(A.hx s).filter (λe=>decide<|A.leads e)else[]
def trim(A:At):At:={A with eg:=(f_ A.ns).map A.LZ}
def Ur(h:A.Ok)(s:Nat):A.trim.hx s=A.LZ s:=by
 show((f_ A.ns).map A.LZ)[s]?.getD []=_
 by_cases hs:s<A.ns
 .rw[bF,List.getElem?_range hs];rfl
 .rw[fE (mg hs)];show[]=A.LZ s;unfold LZ;rw[RJ h.Ac hs];split<;>rfl
def aeH:e∈A.LZ s<->A.met s/\e∈A.hx s/\A.leads e:=by
 classical
 unfold LZ;split
 .next h=>simp[h]
 .next h=>simp[h]
def Dt(h:A.Ok):e∈A.trim.hx s<->A.met s/\e∈A.hx s/\A.leads e:=by rw[Ur h];exact aeH
def ahT{l:C (C Ed)}{ay:Nat->C Ed}(hf:∀i(h:i<l.length),(ay i).length<=(l[i]).length)(hn:n<=l.length):(((f_ n).map ay).map gB).sum<=(l.map gB).sum:=by
 have key:∀n,n<=l.length->(((f_ n).map ay).map gB).sum<=((l.take n).map gB).sum:=by
  intro n
  induction n with
  |zero=>intro _;simp
  |succ n ih=>
   intro h;have W:=ih N;have J:=hf n N;rw[List.range_succ,eH,av N];simp only[dA,lN,iC,jF,ug,List.sum_nil,Option.toList]at W|-;omega
 refine a_ (key n hn) ?_
 have:(l.map gB).sum=((l.take n).map gB).sum+((l.drop n).map gB).sum:=by
  rw[<-lN,<-dA,iP]
 omega
def pre(A:At)(i:Nat):Nat:=((A.eg.take i).map gB).sum
def zH(h:A.Ok)(i:Nat):A.pre i<=100000:=by
 have:(A.eg.map gB).sum=A.pre i+((A.eg.drop i).map gB).sum:=by
  unfold pre;rw[<-lN,<-dA,iP]
 have:=h.tot;omega
def wK(h:A.Ok)(hi:i<A.ns):A.pre (i+1)=A.pre i+(A.hx i).length:=by
 unfold pre hx;have:i<A.eg.length:=by rw[h.Ac];exact hi
 rw[eH,av this];simp only[dA,lN,iC,jF,ug,List.sum_nil,Option.toList,oq];omega
def Ok.len(h:A.Ok)(s:Nat):(A.hx s).length<=100000:=by
 by_cases hs:s<A.ns
 .have:=wK h hs;have:=zH h<|s+1;omega
 .rw[RJ h.Ac hs];simp
theorem JJ(h:A.Ok):A.trim.Ok where
 pos:=h.pos
 Ws:=h.Ws
 YA:=h.YA
 Ac:=by show((f_ A.ns).map A.LZ).length=A.ns;simp
 big:=h.big
 few:=h.few
 s:=h.s
 p:=h.p
 o:=h.o
 e:=λs hs e he=>h.e s hs e ((Dt h).1 he).2.1
 tot:=a_ (ahT (λi hi=>by
  classical
  have:A.hx i=A.eg[i]:=by unfold hx;rw[av hi];rfl
  unfold LZ;split
  .rw[this];exact nK _ _
  .exact bA _) (vz h.Ac.symm)) h.tot
def Mk.mono(h:A.Mk tok s):A.Mk f s:=by
 induction h with
 |stop r y=>exact .stop r y
 |edge s e he _ _ _ ih1 ih2=>exact .edge s e he (λ_=>rfl) ih1 ih2
def RL(h:A.met s)(he:e∈A.hx s)(hl:A.leads e):A.met e.2.2:=.step s e h he hl
def agB(y:r<A.nr):A.met (A.S r):=.base _ ⟨r,y,O⟩
def Ok.call(h:A.Ok)(he:e∈A.hx s)(hk:e.1=2):e.2.1<A.nr:=by
 have hs:s<A.ns:=by
  apply r_;intro hs;rw[RJ h.Ac hs]at he;cases he
 have⟨_,_,h3⟩:=h.e s hs e he;rcases h3 with h3|h3|h3<;>omega
def Ok.lt(h:A.Ok)(he:e∈A.hx s):s<A.ns:=by
 apply r_;intro hs;rw[RJ h.Ac hs]at he;cases he
def Mk.trim(h:A.Ok)(hm:A.Mk tok s):A.met s->A.trim.Mk tok s:=by
 induction hm with
 |stop r y=>exactλ_=>.stop (A:=A.trim) r y
 |edge s e he ht hc J ih1 ih2=>
  intro hs;have hl:A.leads e:=⟨J.mono,λhk=>(hc hk).mono⟩;exact .edge (A:=A.trim) s e ((Dt h).2 ⟨hs,he,hl⟩) ht (λhk=>ih1 hk<|agB<|h.call he hk)<|ih2<|RL hs he hl
def Ll(h:A.Ok)(he:e∈A.trim.hx s):A.trim.leads e:=by
 have⟨W,J,h3⟩:=(Dt h).1 he;refine⟨h3.1.trim h<|RL W J h3,λhk=>(h3.2 hk).trim h<|agB<|h.call J hk⟩
def ahU(h:A.Ok)(hw:∀s e,e∈A.trim.hx s->w e):A.trim.Rc A.isS w s<->A.met s:=by
 constructor
 .intro hs
  induction hs with
  |base s hs=>exact .base s hs
  |step s e _ he _ ih=>
   have⟨W,J,h3⟩:=(Dt h).1 he;exact .step s e ih J h3
 .intro hs
  induction hs with
  |base s hs=>exact .base s hs
  |step s e h0 he hl ih=>
   have:e∈A.trim.hx s:=(Dt h).2 ⟨h0,he,hl⟩;exact .step s e ih this<|hw s e this
def RN(h:A.Ok):A.trim.met s<->A.met s:=ahU h λs e he=>Ll h he
def YB(h:A.Ok):A.trim.trim=A.trim:=by
 have h':=JJ h
 have key:∀s,A.trim.LZ s=A.LZ s:=by
  classical
  intro s;rw[<-Ur h s];unfold LZ
  by_cases hs:A.met s
  .rw[if_pos ((RN h).2 hs)];apply List.filter_eq_self.2;intro e he;exact bL<|Ll h he
  .rw[if_neg (λg=>hs<|(RN h).1 g),Ur h s];unfold LZ;rw[if_neg hs]
 unfold trim;show At.mk A.nm A.st A.sp A.ow ((f_ A.ns).map (A.trim).LZ) A.ty=At.mk A.nm A.st A.sp A.ow ((f_ A.ns).map A.LZ) A.ty;rw[show A.trim.LZ=A.LZ from funext key]
def isF(A:At)(e:Ed):Prop:=e.1=0\/(e.1=2/\A.Mk aC (A.S e.2.1))
def fre(A:At)(s:Nat):Nat->Prop:=A.Rc (·=s) A.isF
def Rc.own(h:A.Ok){ay:Nat->Prop}(hf:∀s,ay s->s<A.ns/\A.aj s=k)(hs:A.Rc ay w s):s<A.ns/\A.aj s=k:=by
 induction hs with
 |base s hs=>exact hf s hs
 |step s e _ he _ ih=>
  have⟨W,J,_⟩:=h.e s ih.1 e he;exact⟨W,J.trans ih.2⟩
def Mk.own(h:A.Ok)(hm:A.Mk tok s):s<A.ns:=by
 cases hm with
 |stop r y=>exact(h.p r y).1
 |edge _ e he _ _ _=>exact h.lt he
end At
end
section
open Go.Ae
def on(mk:C Bool)(s:Nat):Prop:=mk[s]?=D f
def agC(h:on mk s):s<mk.length:=(bE.1 h).1
def E9{t:Nat}(hs:s<mk.length):on (mk.set s f) t<->s=t\/on mk t:=by
 unfold on;rw[dG]
 by_cases h:s=t
 .subst h;simp[hs]
 .simp[h]
def off:C Bool->Nat
 |[]=>0
 |b::l=>(if b=f then 0 else 1)+off l
def Wt:∀{mk:C Bool}{s:Nat},mk[s]?=D aC->off (mk.set s f)+1=off mk
 |[],s,h=>by simp at h
 |b::l,0,h=>by
  simp at h;subst h;simp[off];omega
 |b::l,s+1,h=>by
  have:=Wt (mk:=l) (s:=s)<|mg h;simp only[jy,off];omega
def Pb:∀n,off (aX n aC)=n
 |0=>rfl
 |n+1=>by
  have:=Pb n;rw[List.replicate_succ];simp[off,this];omega
structure MJ(n:Nat)(au P:Nat->Prop)(mk:C Bool)(nx:C Nat):Prop where
 len:mk.length=n
 snd:∀s,on mk s->au s
 cov:∀s,on mk s->s∈nx\/P s
 pon:∀s,P s->on mk s
 nxo:∀s∈nx,on mk s
def mu(mk:C Bool)(nx:C Nat):Nat:=2*off mk+nx.length
variable{au P:Nat->Prop}{nx:C Nat}
def MJ.nil(n:Nat)(au:Nat->Prop):MJ n au (λ_=>False) (aX n aC) []:=by
 refine⟨by simp,?_,?_,λs h=>h.elim,nofun⟩<;>
 .intro s h;unfold on at h;rw[kH]at h;split at h<;>simp at h
def MJ.mark(h:MJ n au P mk nx)(hs:mk[s]?=D aC)(hq:au s):MJ n au P (mk.set s f) (nx++[s])/\on (mk.set s f) s/\(∀t,on mk t->on (mk.set s f) t)/\mu (mk.set s f) (nx++[s])+1=mu mk nx:=by
 have hl:=(bE.1 hs).1;refine⟨⟨by rw[bJ];exact h.len,λt ht=>?_,λt ht=>?_,λt ht=>(E9 hl).2<|.inr<|h.pon t ht,λt ht=>?_⟩,(E9 hl).2<|.inl O,λt ht=>(E9 hl).2<|.inr ht,?_⟩
 .rcases(E9 hl).1 ht with rfl|ht
  .exact hq
  .exact h.snd t ht
 .rcases(E9 hl).1 ht with rfl|ht
  .exact .inl kg
  .exact(h.cov t ht).imp_left λg=>dn _ g
 .rcases bZ.1 ht with ht|ht
  .exact(E9 hl).2<|.inr<|h.nxo t ht
  .exact(E9 hl).2<|.inl (aP.1 ht).symm
 .have:=Wt hs;unfold mu;rw[aQ];show _+(nx.length+1)+1=_;omega
def MJ.pop(h:MJ n au P mk<|nx++[s]):MJ n au (λt=>P t\/t=s) mk nx:=by
 refine⟨h.len,h.snd,λt ht=>?_,λt ht=>?_,λt ht=>h.nxo t<|dn _ ht⟩
 .rcases h.cov t ht with W|W
  .rcases bZ.1 W with W|W
   .exact .inl W
   .exact .inr<|.inr<|aP.1 W
  .exact .inr<|.inl W
 .rcases ht with ht|rfl
  .exact h.pon t ht
  .exact h.nxo _ kg
def ab7(mk:C Bool)(nx:C Nat)(s:Nat):mu mk nx+1=mu mk (nx++[s]):=by
 unfold mu;rw[aQ];rfl
def MJ.wk(h:MJ n au P mk nx)(hp:∀t,P t<->P' t):MJ n au P' mk nx:=
 ⟨h.len,h.snd,λt ht=>(h.cov t ht).imp_right (hp t).1,λt ht=>h.pon t<|(hp t).2 ht,h.nxo⟩
namespace At
variable{A:At}{tok:Bool}
def Wu(tok:Bool)(e:Ed):Prop:=e.1=1->tok=f
def Clo(A:At)(tok:Bool)(P:Nat->Prop)(mk:C Bool):Prop:=∀s e,e∈A.hx s->Wu tok e->P e.2.2->(e.1=2->P (A.S e.2.1))->on mk s
def Clo.step{cur:Nat}{mk':C Bool}(h:A.Clo tok P mk)(hm:∀t,on mk t->on mk' t)(W:∀s e,e∈A.hx s->Wu tok e->e.2.2=cur->(e.1=2->P (A.S e.2.1)\/A.S e.2.1=cur)->on mk' s)(J:∀s e,e∈A.hx s->e.1=2->A.S e.2.1=cur->(P e.2.2\/e.2.2=cur)->on mk' s):A.Clo tok (λt=>P t\/t=cur) mk':=by
 intro s e he hk ht hc;rcases ht with ht|ht
 .by_cases hc2:e.1=2/\A.S e.2.1=cur
  .exact J s e he hc2.1 hc2.2<|.inl ht
  .refine hm s (h s e he hk ht λhk2=>?_);rcases hc hk2 with h3|h3
   .exact h3
   .exact absurd ⟨hk2,h3⟩ hc2
 .exact W s e he hk ht hc
def aeI(ho:A.Ok)(h:MJ A.ns (A.Mk tok) P mk [])(hc:A.Clo tok P mk)(hp:∀r,r<A.nr->on mk (A.P r))(s:Nat):on mk s<->A.Mk tok s:=by
 refine⟨h.snd s,λhm=>?_⟩;have hP:∀t,on mk t->P t:=λt ht=>(h.cov t ht).resolve_left<|nofun
 induction hm with
 |stop r y=>exact hp r y
 |edge s e he ht _ _ ih1 ih2=>exact hc s e he ht (hP _ ih2) λhk=>hP _<|ih1 hk
def Wv{ay:Nat->Prop}{w:Ed->Prop}(h:MJ A.ns (A.Rc ay w) P mk [])(hc:∀s e,P s->e∈A.hx s->w e->on mk e.2.2)(hf:∀s,ay s->on mk s)(s:Nat):on mk s<->A.Rc ay w s:=by
 refine⟨h.snd s,λhm=>?_⟩;have hP:∀t,on mk t->P t:=λt ht=>(h.cov t ht).resolve_left<|nofun
 induction hm with
 |base s hs=>exact hf s hs
 |step s e _ he hw ih=>exact hc s e (hP _ ih) he hw
end At
end
end Go.Proofs.Lu
namespace Go.Proofs.Lv
open Go.Proofs.Lu
open Go.Ae Go.Ae.cs
variable{ag D':Nat->Ed->Prop}{K:Z->Z->R->Prop}{ok w:Ed->Prop}{key:Ed->Nat}{c c' dm es fc i k m n o r u s t x:Nat}{mk mk':C Bool}{A:At}{e e0:Ed}{L L' cs gb:C dL}{a ca fa ia:aB Addr}{M vs:C Z}{l:C (Nat×Ed)}{ty:aH}{H T H0:R}{F' au:Nat->Prop}{fl nx':C Nat}
section
variable{S:C Nat}{SH:Nat->Prop}
def zQ:C Ed->C Z
 |[]=>[]
 |e::l=>B e.1::B e.2.1::B e.2.2::zQ l
def JK:∀l,(zQ l).length=l.length*3
 |[]=>rfl
 |e::l=>by
  have:=JK l;simp only[zQ,cK];omega
def Pd:∀l l',zQ (l++l')=zQ l++zQ l'
 |[],l'=>rfl
 |e::l,l'=>by simp only[bI,zQ,Pd l l']
def ab8:∀{l:C Ed}{i:Nat}{e:Ed},l[i]?=D e->El (zQ l) 3 i=[B e.1,B e.2.1,B e.2.2]
 |[],i,e,h=>by simp at h
 |x::l,0,e,h=>by
  simp at h;subst h;simp[El,zQ]
 |x::l,i+1,e,h=>by
  have:=ab8 (l:=l) (i:=i)<|mg h;rw[<-this];unfold El;rw[show(i+1)*3=i*3+3 by omega];rfl
structure AV where
 na:aB Addr
 sa:aB Addr
 pa:aB Addr
 oa:aB Addr
 ea:aB Addr
 nc:Nat
 sc:Nat
 pc:Nat
 oc:Nat
 ec:Nat
def AV.cells(q:AV)(A:At):C Z:=[I q.na A.nr q.nc,I q.sa A.nr q.sc,I q.pa A.nr q.pc,I q.oa A.ns q.oc,I q.ea A.ns q.ec,B A.ty]
abbrev AV.v(q:AV)(A:At):Z:=.agg ⟨q.cells A⟩
def EdM(SH:Nat->Prop)(H:R)(A:At)(evs:C Z):Prop:=∀i,i<A.ns->∃a c,evs[i]?=D (.slice a (A.hx i).length c)/\je SH 121 H a (A.hx i).length 3 (zQ<|A.hx i)
structure sQ(SH:Nat->Prop)(H:R)(A:At)(q:AV):Prop where
 n:je SH 9 H q.na A.nr 1 (A.nm.map .string)
 s:je SH 3 H q.sa A.nr 1 (fF A.st)
 p:je SH 3 H q.pa A.nr 1 (fF A.sp)
 o:je SH 3 H q.oa A.ns 1 (fF A.ow)
 e:∃evs,je SH 119 H q.ea A.ns 1 evs/\EdM SH H A evs
variable{q:AV}
def sQ.ex(h:sQ SH H A q)(E:Ext H T):sQ SH T A q:=
 ⟨h.n.ex E,h.s.ex E,h.p.ex E,h.o.ex E,let⟨evs,W,J⟩:=h.e;⟨evs,W.ex E,λi hi=>let⟨a,c,h3,h4⟩:=J i hi;⟨a,c,h3,h4.ex E⟩⟩⟩
def sQ.wk(h:sQ SH H A q)(hF:∀r,SH r->F' r):sQ F' H A q:=
 ⟨h.n.wk hF,h.s.wk hF,h.p.wk hF,h.o.wk hF,let⟨evs,W,J⟩:=h.e;⟨evs,W.wk hF,λi hi=>let⟨a,c,h3,h4⟩:=J i hi;⟨a,c,h3,h4.wk hF⟩⟩⟩
def sQ.stay(h:sQ SH H A q)(E:oN S H T)(G:∀r∈S,¬SH r):sQ SH T A q:=
 ⟨h.n.stay E λr y=>.inl<|G r y,h.s.stay E λr y=>.inl<|G r y,h.p.stay E λr y=>.inl<|G r y,h.o.stay E λr y=>.inl<|G r y,let⟨evs,W,J⟩:=h.e;⟨evs,W.stay E λr y=>.inl<|G r y,λi hi=>let⟨a,c,h3,h4⟩:=J i hi;⟨a,c,h3,h4.stay E λr y=>.inl<|G r y⟩⟩⟩
def Ao{l:C Nat}(h:k<l.length):(fF l)[k]?=D (B<|l[k]?.getD 0):=by
 rw[bF,av h];rfl
def jM(q:AV)(A:At):bK (q.v A)=q.cells A:=rfl
section steps
def sQ.ldS(h:sQ SH H A q)(ho:A.Ok)(hk:k<A.nr)(kk:∀p,K p (B<|A.S k) H):PU (zN 1 (I q.sa A.nr q.sc)<|B k) λp=>ME (vH Q p H) (K p):=h.s.ix hk (Ao (by rw[ho.Ws];exact hk)) kk
def sQ.ldP(h:sQ SH H A q)(ho:A.Ok)(hk:k<A.nr)(kk:∀p,K p (B<|A.P k) H):PU (zN 1 (I q.pa A.nr q.pc)<|B k) λp=>ME (vH Q p H) (K p):=h.p.ix hk (Ao (by rw[ho.YA];exact hk)) kk
def sQ.Be(h:sQ SH H A q)(hk:k<A.ns)(kk:∀p,K p (B<|A.aj k) H):PU (zN 1 (I q.oa A.ns q.oc)<|B k) λp=>ME (vH Q p H) (K p):=h.o.ix hk (Ao hk) kk
def sQ.ldE(h:sQ SH H A q)(E:Ext H T)(hk:k<A.ns)(kk:∀p a c,je SH 121 H a (A.hx k).length 3 (zQ<|A.hx k)->K p (.slice a (A.hx k).length c) T):PU (zN 1 (I q.ea A.ns q.ec)<|B k) λp=>ME (vH Q p T) (K p):=by
 have⟨evs,W,J⟩:=h.e;have⟨a,c,h3,h4⟩:=J k hk;exact(W.ex E).ix hk h3 λp=>kk p a c h4
def Jl{l:C Ed}(h:je SH 121 H a l.length 3<|zQ l)(hk:k<l.length)(kk:∀p,K p (.agg ⟨[B l[k].1,B l[k].2.1,B l[k].2.2]⟩) H):PU (zN 3 (I a l.length c)<|B k) λp=>ME (vH (D 3) p H) (K p):=
 h.TM N hk (ab8<|av hk) kk
end steps
def Qe(p:Z->R->Prop)(H:R)(v:Z)(T:R):Prop:=p v T/\Ext H T
def sI(hw:Wf H)(q:AV)(A:At):aO Pg X 35 [q.v A] H (Qe (λv _=>v=B A.ns) H):=by
 have G:=F.refl hw;refine jS [0,1,2] ?_;refine G.box O λH1 u G=>?_;rw[jM]at G;unfold AV.cells at G;refine eU ?_;refine rr ?_;exact⟨O,G.ext⟩
end
variable{q:AV}
section
variable{S:C Nat}{SH:Nat->Prop}
abbrev pt(r:Nat):Z:=.pointer<|D ⟨r,0,Q⟩
def Pe(hw:Wf H)(h:sQ SH H A q){rn:Nat}(W:H.cell rn 0=D (B A.ns))(h1':rn<H.next)(J:H.cell u 3=D (I q.oa A.ns q.oc))(h2':u<H.next)(hs:s<A.ns)(y:A.aj s=r):
 aO Pg X 110 [B s,B r,pt rn,pt u] H (Qe (λv _=>v=.bool f) H):=by
 have G:=F.refl hw;refine Fh [0,1,2,3,6] ?_;refine aT (λhc=>?_) λhc=>absurd N hc;refine G.Be W h1' ?_;refine bG ?_;refine aT (λhc=>?_) λhc=>absurd N hc;refine G.Be J h2'<|h.Be hs λp=>?_;rw[y];refine bG ?_;refine rr ?_;exact⟨by simp,Ext.refl _⟩
theorem tY(hw:Wf H)(h:sQ SH H A q)(ho:A.Ok):aO Pg X 76 [q.v A] H (Qe (λv _=>v=.bool f) H):=by
 have G:=F.refl hw;refine jS [0,1,2,3,4,5,6,7,8,10,45,46,71,72,73,89,90,91,102] ?_;refine G.box O λH1 u G=>?_;rw[jM]at G;unfold AV.cells at G;refine eU ?_;refine G.nD λH2 rn G f1=>G.mh λHn G=>?_;have n1:rn≠u:=G.nq 0 1 O O N;refine splitK (λK hK=>?_) ?_
 .simp only[f1,d_,fK];apply lQ (a:=rn) (b:=u) n1 xN jr jr hK
 have hpos:=ho.pos;have hbig:=ho.big;have Lm:=ho.few;refine aT (λhc=>N) λhc=>?_;refine eU ?_;refine dN (λhc=>absurd trivial hc) λ_=>?_;refine eU ?_;refine dN (λhc=>absurd trivial hc) λ_=>?_;refine eU ?_;refine dN (λhc=>absurd trivial hc) λ_=>?_;refine eU ?_;refine aT (λhc=>N) λ_=>?_;have G:F [] H _ [(rn,3,[B A.ns]),(u,27,[I q.na A.nr q.nc,I q.sa A.nr q.sc,I q.pa A.nr q.pc,I q.oa A.ns q.oc,I q.ea A.ns q.ec,B A.ty])]:=G
 have key:∀{T:R}{L':C dL},F [] H T L'->(rn,3,[B A.ns])∈L'->(u,27,q.cells A)∈L'->∀{s r:Nat},s<A.ns->A.aj s=r->∀{K:Z->R->Prop},(∀H2,F [] H H2 L'->K (.bool f) H2)->nU Pg X (Mj<|.func (.func 110) ⟨[]⟩ ⟨[pt rn,pt u]⟩) [B s,B r] T K:=by
  intro T L' G m1 m2 s r hs y K kk;show aO Pg X 110 [B s,B r,pt rn,pt u] T K;refine aO.mono (Pe G.wf (h.ex G.ext) ((G.bk _ m1).cell O) (G.lo _ m1).2 ((G.bk _ m2).cell (o:=3) O) (G.lo _ m2).2 hs y) ?_;rintro v H2 ⟨rfl,E⟩;exact kk H2<|G.call E
 have m1:((rn,3,[B A.ns]):dL)∈([(rn,3,[B A.ns]),(u,27,q.cells A)]:C dL):=by simp
 have m2:((u,27,q.cells A):dL)∈([(rn,3,[B A.ns]),(u,27,q.cells A)]:C dL):=by simp
 refine tl ?_;refine FY 2 6 46 (ai:=λm x2 x6 x46 T=>∃i:Nat,x46=B i/\i+m=A.nr/\F [] H T [(rn,3,[B A.ns]),(u,27,[I q.na A.nr q.nc,I q.sa A.nr q.sc,I q.pa A.nr q.pc,I q.oa A.ns q.oc,I q.ea A.ns q.ec,B A.ty])]) ?_ A.nr ⟨0,rfl,N,G⟩;clear G;rintro m x2 x6 x46 ni H3 ⟨i,rfl,him,G⟩;refine q_ (λhc=>?_) λhc=>?_
 .have hi:i<A.nr:=N;refine G.pz<|(h.ex G.ext).ldS ho hi λp=>key G m1 m2 (ho.s i hi).1 (ho.s i hi).2 λH4 G=>?_;refine bG ?_;refine gF (λhb=>by cases hb) λ_=>?_;refine G.pz<|(h.ex G.ext).ldP ho hi λp=>key G m1 m2 (ho.p i hi).1 (ho.p i hi).2 λH5 G=>?_;refine bG ?_;refine gF (λhb=>by cases hb) λ_=>?_;refine dQ ?_;exact⟨A.nr-(i+1),N,_,_,_,_,_,O,i+1,og,N,G⟩
 refine tm ?_;refine lp9 2 7 8 10 73 89 90 91 102 (ai:=λm x2 x7 x8 jo x73 x89 x90 x91 x102 T=>∃i:Nat,x73=B i/\i+m=A.ns/\F [] H T [(rn,3,[B A.ns]),(u,27,[I q.na A.nr q.nc,I q.sa A.nr q.sc,I q.pa A.nr q.pc,I q.oa A.ns q.oc,I q.ea A.ns q.ec,B A.ty])]) ?_ A.ns ⟨0,rfl,N,G⟩;clear G hc him;rintro m x2 x7 x8 jo x73 x89 x90 x91 x102 ni H4 ⟨s,rfl,him,G⟩;refine kX (λhc=>?_) λhc=>?_
 .refine tl<|rr ?_;exact⟨O,G.ext⟩
 have hs:s<A.ns:=N;refine(h.ex G.ext).Be hs λp=>?_;refine bG ?_;have hO:=ho.o s hs;refine aT (λhc=>N) λ_=>?_;refine aT (λhc=>N) λ_=>?_;refine tm ?_;refine h.ldE G.ext hs λp ea ec hE=>?_;refine bG ?_;have hx0:=G.ext;refine NG 2 10 91 102 (ai:=λm x2 jo x91 x102 T=>∃k:Nat,x91=B k/\k+m=(A.hx s).length/\F [] H T [(rn,3,[B A.ns]),(u,27,[I q.na A.nr q.nc,I q.sa A.nr q.sc,I q.pa A.nr q.pc,I q.oa A.ns q.oc,I q.ea A.ns q.ec,B A.ty])]) ?_ (A.hx s).length ⟨0,rfl,N,G⟩;clear G hc;rintro m' x2 jo x91 x102 ni H5 ⟨k,rfl,hkm,G⟩;refine kX (λhc=>?_) λhc=>?_
 .refine tl ?_;refine dQ ?_;exact⟨A.ns-(s+1),N,_,_,_,_,_,_,_,_,_,_,_,O,s+1,og,N,G⟩
 have hk:k<(A.hx s).length:=N;refine Jl (hE.ex G.ext) hk λp=>?_;have hmem:=bB hk;have⟨g1,g2,g3⟩:=ho.e s hs _ hmem;generalize hee:(A.hx s)[k]=e at g1 g2 g3|-;refine G.ns O O O λH6 re G hx6=>?_;have G:F [] H H6 [(re,121,[B e.1,B e.2.1,B e.2.2]),(rn,3,[B A.ns]),(u,27,[I q.na A.nr q.nc,I q.sa A.nr q.sc,I q.pa A.nr q.pc,I q.oa A.ns q.oc,I q.ea A.ns q.ec,B A.ty])]:=G;refine eU ?_;have hx5:=G.ext;have hS0:=G;refine key G (bH _ m1) (bH _ m2) g1 g2 λH7 G=>?_;refine bG ?_;refine gF (λhb=>by cases hb) λ_=>?_;have G:F [] H H7 ((re,121,[B e.1,B e.2.1,B e.2.2])::[(rn,3,[B A.ns]),(u,27,[I q.na A.nr q.nc,I q.sa A.nr q.sc,I q.pa A.nr q.pc,I q.oa A.ns q.oc,I q.ea A.ns q.ec,B A.ty])]):=G;refine eU ?_
 have hkb:k<1000000000:=by
  have:=ho.len s;omega
 rcases g3 with g3|⟨g3,g4⟩|⟨g3,g4⟩
 .refine aT (λ_=>?_) (λhc=>absurd N hc);refine dQ ?_;exact⟨(A.hx s).length-(k+1),N,_,_,_,_,_,_,O,k+1,og,N,F.drop (A:=[_]) G⟩
 .refine aT (λhc=>N) (λ_=>?_);refine aT (λ_=>?_) λhc=>absurd N hc;refine eU ?_;refine aT (λhc=>N) λ_=>?_;refine eU ?_;refine aT (λhc=>N) λ_=>?_;refine dQ ?_;exact⟨(A.hx s).length-(k+1),N,_,_,_,_,_,_,O,k+1,og,N,F.drop (A:=[_]) G⟩
 .refine aT (λhc=>N) (λ_=>?_);refine aT (λhc=>N) λ_=>?_;refine aT (λ_=>?_) λhc=>absurd N hc;refine eU ?_;refine aT (λhc=>N) λ_=>?_;refine eU ?_;refine aT (λhc=>N) λ_=>?_;refine dQ ?_;exact⟨(A.hx s).length-(k+1),N,_,_,_,_,_,_,O,k+1,og,N,F.drop (A:=[_]) G⟩
end
section
variable{S:C Nat}{SH:Nat->Prop}
def _root_.Go.Ae.GB.sl{v:Z}(h:GB ty es v M gb):∃a n c,v=I a n c:=by
 rcases h with⟨rfl,_⟩|⟨r,n,eB,rfl,_⟩<;>exact⟨_,_,_,O⟩
def Ms(m x dm n:Nat)(mk:C Bool)(nx:C Nat)(cs:C dL):Prop:=∃nv gb,cs=(m,34,[I (D ⟨dm,0,Q⟩) n n])::(x,22,[nv])::(dm,4,bools mk)::gb/\GB 3 1 nv (fF nx) gb/\mk.length=n
def Mkd(s:Nat)(mk:C Bool)(nx:C Nat)(mk':C Bool)(nx':C Nat):Prop:=(mk[s]?=D f/\mk'=mk/\nx'=nx)\/(mk[s]?=D aC/\mk'=mk.set s f/\nx'=nx++[s])
def G8{nx:C Nat}(hM:Ms m x dm n mk nx cs)(G:F S H0 H<|cs++L)(hs:s<n)(hb:nx.length<=1000000):
 aO Pg X 111 [B s,pt m,pt x] H λv T=>∃mk' nx' M',Ms m x dm n mk' nx' M'/\F S H0 T (M'++L)/\Mkd s mk nx mk' nx':=by
 obtain⟨nv,gb,rfl,hg,hl⟩:=hM;have G:F S H0 H ((m,34,[I (D ⟨dm,0,Q⟩) n n])::(x,22,[nv])::(dm,4,bools mk)::(gb++L)):=G;refine jS [0,1,2] ?_;apply G.pz;obtain⟨b,hb1⟩:∃b,mk[s]?=D b:=⟨_,av N⟩;refine G.ix (v:=.bool b) hs (jR _ hb1) λp=>?_;refine qx (λhb2=>?_) λhb2=>?_
 .obtain rfl:b=aC:=by cases b<;>simp_all
  apply G.pz;refine G.Zg hs I6 (kk:=λp H1 G=>?_);refine G.pz<|hg.push (G.perm<|iG [_,_,_] gb L) N O O O O O N (by simpa using(by omega:nx.length<=16777216)) λw v' H2 gQ hg' G=>?_;have G:=G.perm<|iG gQ [(m,34,[I (D ⟨dm,0,Q⟩) n n]),(x,22,[nv]),(dm,4,(bools mk).set s<|.bool f)] L;simp only[bI,bN]at G;obtain⟨va,vl,vc,rfl⟩:=hg'.sl;refine G.jH λHn G=>?_;refine rn ?_;refine⟨mk.set s f,nx++[s],_,⟨I va vl vc,gQ,O,?_,by rw[bJ];exact hl⟩,?_,.inr ⟨hb1,O,O⟩⟩
  .have:fF (nx++[s])=fF nx++[B s]:=by simp
   rw[this];exact hg'
  .have:bools (mk.set s f)=(bools mk).set s (.bool f):=fZ;rw[this];exact G
 .obtain rfl:b=f:=by cases b<;>simp_all
  refine rn ?_;exact⟨mk,nx,_,⟨nv,gb,O,hg,hl⟩,G,.inl ⟨hb1,O,O⟩⟩
def YC{nx:C Nat}(hM:Ms m x dm n mk nx cs)(G:F S H0 H<|cs++L)(hs:s<n)(hb:nx.length<=1000000):
 aO Pg X 112 [B s,pt m,pt x] H λv T=>∃mk' nx' M',Ms m x dm n mk' nx' M'/\F S H0 T (M'++L)/\Mkd s mk nx mk' nx':=by
 obtain⟨nv,gb,rfl,hg,hl⟩:=hM;have G:F S H0 H ((m,34,[I (D ⟨dm,0,Q⟩) n n])::(x,22,[nv])::(dm,4,bools mk)::(gb++L)):=G;refine jS [0,1,2] ?_;apply G.pz;obtain⟨b,hb1⟩:∃b,mk[s]?=D b:=⟨_,av N⟩;refine G.ix (v:=.bool b) hs (jR _ hb1) λp=>?_;refine qx (λhb2=>?_) λhb2=>?_
 .obtain rfl:b=aC:=by cases b<;>simp_all
  apply G.pz;refine G.Zg hs I6 (kk:=λp H1 G=>?_);refine G.pz<|hg.push (G.perm<|iG [_,_,_] gb L) N O O O O O N (by simpa using(by omega:nx.length<=16777216)) λw v' H2 gQ hg' G=>?_;have G:=G.perm<|iG gQ [(m,34,[I (D ⟨dm,0,Q⟩) n n]),(x,22,[nv]),(dm,4,(bools mk).set s<|.bool f)] L;simp only[bI,bN]at G;obtain⟨va,vl,vc,rfl⟩:=hg'.sl;refine G.jH λHn G=>?_;refine rn ?_;refine⟨mk.set s f,nx++[s],_,⟨I va vl vc,gQ,O,?_,by rw[bJ];exact hl⟩,?_,.inr ⟨hb1,O,O⟩⟩
  .have:fF (nx++[s])=fF nx++[B s]:=by simp
   rw[this];exact hg'
  .have:bools (mk.set s f)=(bools mk).set s (.bool f):=fZ;rw[this];exact G
 .obtain rfl:b=f:=by cases b<;>simp_all
  refine rn ?_;exact⟨mk,nx,_,⟨nv,gb,O,hg,hl⟩,G,.inl ⟨hb1,O,O⟩⟩
end
section
variable{S:C Nat}{SH:Nat->Prop}{P:Nat->Prop}{nx:C Nat}
def Mkd.mj(h:Mkd s mk nx mk' nx')(hJ:MJ n au P mk nx)(hq:au s):MJ n au P mk' nx'/\on mk' s/\(∀t,on mk t->on mk' t)/\mu mk' nx'<=mu mk nx:=by
 rcases h with⟨W,rfl,rfl⟩|⟨W,rfl,rfl⟩
 .exact⟨hJ,W,λt h=>h,ax _⟩
 .have⟨a,b,c,d⟩:=hJ.mark W hq;exact⟨a,b,c,N⟩
def Bs(b:Nat)(H:R)(n:Nat)(v:Z)(mk:C Bool):Prop:=∃a c,v=I a n c/\mk.length=n/\je (b<=·) 4 H a n 1 (bools mk)
def Bs.ex{b:Nat}{v:Z}(h:Bs b H n v mk)(E:Ext H T):Bs b T n v mk:=let⟨a,c,W,J,h3⟩:=h;⟨a,c,W,J,h3.ex E⟩
def Bs.le{b b':Nat}{v:Z}(h:Bs b H n v mk)(hb:b'<=b):Bs b' H n v mk:=let⟨a,c,W,J,h3⟩:=h;⟨a,c,W,J,h3.le hb⟩
def Wnt(A:At)(w:Ed->Prop)(H:R)(wv:Z):Prop:=∀T s e,Ext H T->Wf T->e∈A.hx s->nU Pg X (Mj wv) [.agg ⟨[B e.1,B e.2.1,B e.2.2]⟩] T (Qe (λv _=>∃b:Bool,v=.bool b/\(b=f<->w e)) T)
def Ww(hJ:mu mk nx<=8000):nx.length<=1000000:=by unfold mu at hJ;omega
theorem NR(hw:Wf H)(h:sQ SH H A q)(ho:A.Ok)(hf:je SH 3 H fa fl.length 1<|fF fl)(hfl:∀s∈fl,s<A.ns)(hfn:fl.length<=1000000){wv:Z}(hwv:Wnt A w H wv):
 aO Pg X 79 [q.v A,I fa fl.length fc,wv] H (Qe (λv T=>∃mk,Bs H.next T A.ns v mk/\∀s,on mk s<->A.Rc (·∈fl) w s) H):=by
 have G:=F.refl hw;have hbig:=ho.big;refine jS [0,1,2,3,6,7,8,9,11,12,14,19,20,21,47,48,49] ?_;refine G.box O λH1 u G=>?_;rw[jM]at G;refine G.rZ 0 O (by show 0+6<=6;omega) ?_;refine aO.mono (sI G.wf q A) ?_;rintro v H2 ⟨rfl,E⟩;have G:=G.call E;refine G.mkS (ax _) N λH3 dm G=>?_;rw[mZ]at G;refine G.iX λH4 mr G=>?_;refine G.kL ?_;refine G.jH λHn G=>G.iX λH5 xr G=>?_;have G:F [] H H5 ([(xr,22,[I Q 0 0]),(mr,34,[I (D ⟨dm,0,Q⟩) A.ns A.ns]),(dm,4,aX A.ns<|.bool aC),(u,27,q.cells A)]):=G;have G:=G.perm (L':=[(mr,34,[I (D ⟨dm,0,Q⟩) A.ns A.ns]),(xr,22,[I Q 0 0]),(dm,4,aX A.ns<|.bool aC),(u,27,q.cells A)])<|gq _ _ _;have hM:Ms mr xr dm A.ns (aX A.ns aC) [] [(mr,34,[I (D ⟨dm,0,Q⟩) A.ns A.ns]),(xr,22,[I Q 0 0]),(dm,4,aX A.ns<|.bool aC)]:=⟨I Q 0 0,[],by simp,GB.nil _ _,by simp⟩;have hmu:mu (aX A.ns aC) []<=8000:=by unfold mu;rw[Pb];show 2*A.ns+0<=8000;omega
 have call:∀{s:Nat}{mk:C Bool}{nx:C Nat}{cs L:C dL}{T:R}{P:Nat->Prop}{K:Z->R->Prop},s<A.ns->Ms mr xr dm A.ns mk nx cs->F [] H T (cs++L)->MJ A.ns (A.Rc (·∈fl) w) P mk nx->mu mk nx<=8000->A.Rc (·∈fl) w s->
  (∀v H2 mk' nx' M',Ms mr xr dm A.ns mk' nx' M'->F [] H H2 (M'++L)->MJ A.ns (A.Rc (·∈fl) w) P mk' nx'->on mk' s->(∀t,on mk t->on mk' t)->mu mk' nx'<=mu mk nx->K v H2)->
  nU Pg X (Mj<|.func (.func 112) ⟨[]⟩ ⟨[pt mr,pt xr]⟩) [B s] T K:=by
  intro s mk nx cs L T P K hs hM G hJ hmu hq kk;show aO Pg X 112 [B s,pt mr,pt xr] T K;refine aO.mono (YC hM G hs<|Ww hmu) ?_;rintro v H2 ⟨mk',nx',M',hM',hS',hk⟩;have⟨a,b,c,d⟩:=hk.mj hJ hq;exact kk v H2 mk' nx' M' hM' hS' a b c d
 refine lp2 11 21 (ai:=λm iJ xJ T=>∃i mk nx cs,xJ=B i/\i+m=fl.length/\Ms mr xr dm A.ns mk nx cs/\F [] H T (cs++[(u,27,q.cells A)])/\MJ A.ns (A.Rc (·∈fl) w) (λ_=>False) mk nx/\mu mk nx<=8000/\∀j s,j<i->fl[j]?=D s->on mk s) ?_ fl.length ⟨0,_,_,_,rfl,N,hM,G,MJ.nil _ _,hmu,λj s hj=>N⟩;clear G hM hmu E;rintro m iJ xJ ni H6 ⟨i,mk,nx,cs,rfl,him,hM,G,hJ,hmu,hb⟩;refine q_ (λhc=>?_) λhc=>?_
 .have hi:i<fl.length:=N;have hfi:fl[i]?=D fl[i]:=av hi;refine(hf.ex G.ext).ix hi (jR _ hfi) λp=>call (hfl _<|bB hi) hM G hJ hmu (.base _<|bB hi) λv H7 mk' nx' M' hM G hJ hon hmo ab9=>?_;refine dQ ?_;refine⟨fl.length-(i+1),N,_,_,_,_,O,i+1,mk',nx',M',og,N,hM,G,hJ,N,λj s hj hs=>?_⟩;rcases cr j i with W|W
  .exact hmo _<|hb j s W hs
  .obtain rfl:j=i:=N;rw[hfi]at hs;cases hs;exact hon
 have hbase:∀s,s∈fl->on mk s:=λs hs=>by
  have⟨j,hj,e⟩:=kG.1 hs;exact hb j s N (by rw[<-e];exact av hj)
 clear hb hc him;refine tl ?_;refine V' 12 14 47 48 49 (ai:=λm kW sP x47 x48 Mv T=>∃mk nx cs P,Ms mr xr dm A.ns mk nx cs/\F [] H T (cs++[(u,27,q.cells A)])/\MJ A.ns (A.Rc (·∈fl) w) P mk nx/\mu mk nx<=8000/\mu mk nx=m/\(∀s,s∈fl->on mk s)/\∀s e,P s->e∈A.hx s->w e->on mk e.2.2) ?_ (mu mk nx) ⟨mk,nx,cs,_,hM,G,hJ,hmu,rfl,hbase,λs e h=>h.elim⟩;clear G hM hJ hmu hbase;rintro m kW sP x47 x48 Mv ni H6 ⟨mk,nx,cs,P,hM,G,hJ,hmu,rfl,hbase,Us⟩;have hM0:=hM;obtain⟨nv,gb,rfl,hg,hl⟩:=hM;have G:F [] H H6 ((mr,34,[I (D ⟨dm,0,Q⟩) A.ns A.ns])::(xr,22,[nv])::(dm,4,bools mk)::(gb++[(u,27,q.cells A)])):=G;refine tm ?_;rcases hg with⟨rfl,hn,rfl⟩|⟨r,n,eB,rfl,hn,rfl⟩
 .obtain rfl:nx=[]:=mg hn;refine bG ?_;refine aT (λhc=>N) λ_=>?_;refine tl ?_;refine G.pz<|rr ?_;refine⟨⟨mk,⟨_,_,O,hl,je.one G (aS (i:=2) O) (mg hl)<|G.wQ<|aS (i:=2) O⟩,A.Wv hJ Us hbase⟩,G.ext⟩
 have hn:nx.length=n:=mg hn;subst hn;refine Mo (λhc=>?_) λhc=>?_
 .have:nx=[]:=dR.1 N;subst this;refine tl ?_;refine G.pz<|rr ?_;refine⟨⟨mk,⟨_,_,O,hl,je.one G (aS (i:=2) O) (mg hl)<|G.wQ<|aS (i:=2) O⟩,A.Wv hJ Us hbase⟩,G.ext⟩
 obtain⟨zJ,cur,rfl⟩:∃a b,nx=a++[b]:=⟨nx.dropLast,nx.getLast (λe=>by subst e;simp at hc),(mP _).symm⟩;have hlen:(zJ++[cur]).length=zJ.length+1:=by simp
 rw[hlen]at G;simp only[bI,bN]at G;have ahV:=Ww hmu;rw[hlen]at ahV;refine eU ?_;refine qL ?_;rw[show((zJ.length+1:Nat):Int)-1=(zJ.length:Nat) by omega];refine G.ix (v:=B cur) N kg λp=>?_;refine eU ?_;refine qL ?_;rw[show((zJ.length+1:Nat):Int)-1=(zJ.length:Nat) by omega];refine PU.of (BM N)<|G.jH λHn G=>?_;apply G.pz;have Jm:cur<A.ns:=by have:=agC<|hJ.nxo cur kg;rw[hJ.len]at this;exact this
 have G:F [] H _ ((mr,34,[I (D ⟨dm,0,Q⟩) A.ns A.ns])::(xr,22,[I (D ⟨r,0,Q⟩) zJ.length (fJ 1)])::(dm,4,bools mk)::([(r,3,fF (zJ++[cur])++eB)]++[(u,27,q.cells A)])):=G;have hJ':=hJ.pop;have Ut:=ab7 mk zJ cur;have hM:Ms mr xr dm A.ns mk zJ ((mr,34,[I (D ⟨dm,0,Q⟩) A.ns A.ns])::(xr,22,[I (D ⟨r,0,Q⟩) zJ.length (fJ 1)])::(dm,4,bools mk)::[(r,3,fF (zJ++[cur])++eB)]):=⟨_,_,O,.inr ⟨r,_,B cur::eB,O,by simp,by simp⟩,hl⟩;refine h.ldE G.ext Jm λp ea ec hE=>?_;refine bG ?_;have G:F [] H _ (((mr,34,[I (D ⟨dm,0,Q⟩) A.ns A.ns])::(xr,22,[I (D ⟨r,0,Q⟩) zJ.length (fJ 1)])::(dm,4,bools mk)::[(r,3,fF (zJ++[cur])++eB)])++[(u,27,q.cells A)]):=G;have hrc:=hJ.snd cur<|hJ.nxo cur kg;refine lp2 14 49 (ai:=λm sP Mv T=>∃k mk' nx' cs,Mv=B k/\k+m=(A.hx cur).length/\Ms mr xr dm A.ns mk' nx' cs/\F [] H T (cs++[(u,27,q.cells A)])/\MJ A.ns (A.Rc (·∈fl) w) (λt=>P t\/t=cur) mk' nx'/\mu mk' nx'<=mu mk zJ/\(∀t,on mk t->on mk' t)/\∀j e,j<k->(A.hx cur)[j]?=D e->w e->on mk' e.2.2) ?_ (A.hx cur).length ⟨0,mk,zJ,_,rfl,N,hM,G,hJ',ax _,λt h=>h,λj e hj=>N⟩;clear G hM hJ';rintro m' y14 y49 MH H7 ⟨k,mk',nx',cs,rfl,hkm,hM,G,hJ',ab9,hmo,hdone⟩;refine kX (λhc2=>?_) λhc2=>?_
 .refine⟨mu mk' nx',N,_,_,_,_,_,_,_,O,mk',nx',cs,_,hM,G,hJ',N,O,λs hs=>hmo s<|hbase s hs,λs e hs he Uu=>?_⟩;rcases hs with hs|rfl
  .exact hmo _<|Us s e hs he Uu
  .have⟨j,hj,e1⟩:=kG.1 he;exact hdone j e N (by rw[<-e1];exact av hj) Uu
 have hk:k<(A.hx cur).length:=N;refine Jl (hE.ex G.ext) hk λp=>?_;have hmem:=bB hk;have Wo:=ho.len cur;have⟨g1,g2,g3⟩:=ho.e cur Jm _ hmem;have hke:(A.hx cur)[k]?=D (A.hx cur)[k]:=av hk;generalize hee:(A.hx cur)[k]=e at g1 g2 g3 hke hmem|-;refine G.ns O O O λH8 re G Bg=>?_;have G:F [] H H8 ([(re,121,[B e.1,B e.2.1,B e.2.2])]++(cs++[(u,27,q.cells A)])):=G;refine G.rZ 0 O (ax 3) ?_;refine nU.mono (hwv H8 cur e G.ext G.wf hmem) ?_;rintro v H9 ⟨⟨b,rfl,hbw⟩,NN⟩;have G:=G.call NN;refine qx (λhb2=>?_) λhb2=>?_
 .refine G.ld 0 (o:=2) O O<|call g1 hM (G.perm<|iG [_] cs [_]) hJ' N (.step cur e hrc hmem<|hbw.1 hb2) λv Dq Hl Ph M2 hM2 hS2 hJ2 Uv E_ Ut=>?_;refine dQ ?_;refine⟨(A.hx cur).length-(k+1),N,_,_,_,_,O,k+1,Hl,Ph,M2,og,N,hM2,?_,hJ2,N,λt ht=>E_ t<|hmo t ht,λj e' hj he' Uu=>?_⟩
  .have:=hS2.perm (iG M2 [(re,121,[B e.1,B e.2.1,B e.2.2])] [(u,27,q.cells A)]);exact F.drop (A:=[_]) this
  .rcases cr j k with W|W
   .exact E_ _<|hdone j e' W he' Uu
   .obtain rfl:j=k:=N;rw[hke]at he';cases he';exact Uv
 .refine dQ ?_;refine⟨(A.hx cur).length-(k+1),N,_,_,_,_,O,k+1,mk',nx',cs,og,N,hM,F.drop (A:=[_]) G,hJ',N,hmo,λj e' hj he' Uu=>?_⟩;rcases cr j k with W|W
  .exact hdone j e' W he' Uu
  .obtain rfl:j=k:=N;rw[hke]at he';cases he';exact absurd (hbw.2 Uu) (by rw[hb2];simp)
end
section
variable{S:C Nat}{SH:Nat->Prop}{P:Nat->Prop}{nx:C Nat}
def Sl:C (Nat×Ed)->C Z
 |[]=>[]
 |p::l=>B p.1::B p.2.1::B p.2.2.1::B p.2.2.2::Sl l
def Pj:∀l,(Sl l).length=l.length*4
 |[]=>rfl
 |e::l=>by
  have:=Pj l;simp only[Sl,cK];omega
def Wx:∀l l',Sl (l++l')=Sl l++Sl l'
 |[],l'=>rfl
 |e::l,l'=>by simp only[bI,Sl,Wx l l']
def acd:∀{l:C (Nat×Ed)}{i:Nat}{p:Nat×Ed},l[i]?=D p->El (Sl l) 4 i=[B p.1,B p.2.1,B p.2.2.1,B p.2.2.2]
 |[],i,e,h=>by simp at h
 |x::l,0,e,h=>by
  simp at h;subst h;simp[El,Sl]
 |x::l,i+1,e,h=>by
  have:=acd (l:=l) (i:=i)<|mg h;rw[<-this];unfold El;rw[show(i+1)*4=i*4+4 by omega];rfl
section steps
variable{v:Z}
def _root_.Go.Ae.F.Uw(G:F S H0 H L)[hb:Ak L r ty M](hk:k<n)(hv:M[k]?=D v)(kk:K (.pointer<|D ⟨r,k,Q⟩) v<|hN H):
 PU (zN 1 (I (D ⟨r,0,Q⟩) n c)<|B k) λp=>ME (vH Q p<|hN H) (K p):=by
 have⟨i,hi⟩:=hb.at';refine PU.of (FV hk) ?_;rw[aY];exact G.Mm i hi hv kk
def _root_.Go.Ae.je.Uw(h:je SH ty H a n 1 M)(hk:k<n)(hv:M[k]?=D v)(kk:∀r o,K (.pointer<|D ⟨r,o,Q⟩) v<|hN H):
 PU (zN 1 (I a n c)<|B k) λp=>ME (vH Q p<|hN H) (K p):=by
 have⟨r,o,W,J,h3,_⟩:=h.1.idx (c:=c) (dM 0) hk;refine PU.of W<|ME.ld (H:=hN H) ?_<|kk _ _;have:=h3 0 v (dM 0) (by rw[dz,dH];exact hv);exact this
def sQ.aeJ(h:sQ SH H A q)(ho:A.Ok)(hk:k<A.nr)(kk:∀r o,K (.pointer<|D ⟨r,o,Q⟩) (B<|A.S k)<|hN H):PU (zN 1 (I q.sa A.nr q.sc)<|B k) λp=>ME (vH Q p<|hN H) (K p):=h.s.Uw hk (Ao (by rw[ho.Ws];exact hk)) kk
def akp(h:je SH 209 H a l.length 4<|Sl l)(hk:k<l.length)(kk:∀p,K p (.agg ⟨[B l[k].1,B l[k].2.1,B l[k].2.2.1,B l[k].2.2.2]⟩) H):PU (zN 4 (I a l.length c)<|B k) λp=>ME (vH (D 4) p H) (K p):=
 h.TM N hk (acd<|av hk) kk
end steps
def akq(A:At)(tok:Bool)(t:Nat)(l:C<|Nat×Ed):Prop:=(∀p∈l,p.2∈A.hx p.1/\p.2.2.2=t/\At.Wu tok p.2)/\∀s e,e∈A.hx s->At.Wu tok e->e.2.2=t->(s,e)∈l
def akr(A:At)(r:Nat)(l:C<|Nat×Ed):Prop:=(∀p∈l,p.2∈A.hx p.1/\p.2.1=2/\p.2.2.1=r)/\∀s e,e∈A.hx s->e.1=2->e.2.1=r->(s,e)∈l
def BkM(hS:Nat->C (Nat×Ed)->Prop)(H:R)(n:Nat)(a:aB Addr):Prop:=∃vs,je (λ_=>True) 207 H a n 1 vs/\∀t,t<n->∃b c l,vs[t]?=D (I b l.length c)/\je (λ_=>True) 209 H b l.length 4 (Sl l)/\hS t l/\l.length<=1000000000
def BkM.ld{hS:Nat->C (Nat×Ed)->Prop}(h:BkM hS H n a)(E:Ext H T)(ht:t<n)(kk:∀p b c l,je (λ_=>True) 209 H b l.length 4 (Sl l)->hS t l->l.length<=1000000000->K p (I b l.length c) T):PU (zN 1 (I a n c)<|B t) λp=>ME (vH Q p T) (K p):=by
 have⟨vs,W,J⟩:=h;have⟨b,c,l,h3,h4,h5,h6⟩:=J t ht;exact(W.ex E).ix ht h3 λp=>kk p b c l h4 h5 h6
def aeK{tok:Bool}{ic cc:Nat}(hw:Wf H)(h:sQ SH H A q)(ho:A.Ok)(hg:Bk H u 27<|q.cells A)(hgl:u<H.next)(hI:BkM (akq A tok) H A.ns ia)(hC:BkM (akr A) H A.nr ca){x4 x7 x8 jo iJ kW jI lH pG wN uC xJ x30 x31 x32 Aq x38 x39 x88 x89 x90 x115 EO AQ x157 x158 x159:Z}{ni:C (Nat×Z)}:
 gK Pg X (sub pF [1,1,1,1]) (lK (q.v A) (.bool tok) (pt u) x4 (I ia A.ns ic) (I ca A.nr cc) x7 x8 jo iJ kW jI lH pG wN uC xJ x30 x31 x32 Aq x38 x39 x88 x89 x90 x115 EO AQ x157 x158 x159 ni H)
  (jL Pg [.tmp 4]<|Qe (λv T=>∃mk,Bs H.next T A.ns v mk/\∀s,on mk s<->A.Mk tok s) H):=by
 have G:=F.refl hw;have hbig:=ho.big;have Lm:=ho.few;refine tl<|ME.rZ (vs:=q.cells A) (hg.read (by show 0+6<=6;omega)) ?_;refine aO.mono (sI G.wf q A) ?_;rintro v H2 ⟨rfl,E⟩;have G:=G.call E;refine G.mkS (ax _) N λH3 dm G=>?_;rw[mZ]at G;refine G.iX λH4 mr G=>?_;refine G.kL ?_;refine G.jH λHn G=>G.iX λH5 xr G=>G.Be (hg.cell (o:=2) O) hgl ?_;refine bG ?_;have G:F [] H H5 ([(xr,22,[I Q 0 0]),(mr,34,[I (D ⟨dm,0,Q⟩) A.ns A.ns]),(dm,4,aX A.ns<|.bool aC)]):=G;have G:=G.perm (L':=[(mr,34,[I (D ⟨dm,0,Q⟩) A.ns A.ns]),(xr,22,[I Q 0 0]),(dm,4,aX A.ns<|.bool aC)])<|gq _ _ _;have hM:Ms mr xr dm A.ns (aX A.ns aC) [] [(mr,34,[I (D ⟨dm,0,Q⟩) A.ns A.ns]),(xr,22,[I Q 0 0]),(dm,4,aX A.ns<|.bool aC)]:=⟨I Q 0 0,[],by simp,GB.nil _ _,by simp⟩;have hmu:mu (aX A.ns aC) []<=8000:=by unfold mu;rw[Pb];show 2*A.ns+0<=8000;omega
 have call:∀{s:Nat}{mk:C Bool}{nx:C Nat}{cs L:C dL}{T:R}{P:Nat->Prop}{K:Z->R->Prop},s<A.ns->Ms mr xr dm A.ns mk nx cs->F [] H T (cs++L)->MJ A.ns (A.Mk tok) P mk nx->mu mk nx<=8000->A.Mk tok s->
  (∀v H2 mk' nx' M',Ms mr xr dm A.ns mk' nx' M'->F [] H H2 (M'++L)->MJ A.ns (A.Mk tok) P mk' nx'->on mk' s->(∀t,on mk t->on mk' t)->mu mk' nx'<=mu mk nx->K v H2)->
  nU Pg X (Mj<|.func (.func 111) ⟨[]⟩ ⟨[pt mr,pt xr]⟩) [B s] T K:=by
  intro s mk nx cs L T P K hs hM G hJ hmu hq kk;show aO Pg X 111 [B s,pt mr,pt xr] T K;refine aO.mono (G8 hM G hs<|Ww hmu) ?_;rintro v H2 ⟨mk',nx',M',hM',hS',hk⟩;have⟨a,b,c,d⟩:=hk.mj hJ hq;exact kk v H2 mk' nx' M' hM' hS' a b c d
 refine lp2 15 90 (ai:=λm lH x90 T=>∃i mk nx cs,x90=B i/\i+m=A.nr/\Ms mr xr dm A.ns mk nx cs/\F [] H T (cs++[])/\MJ A.ns (A.Mk tok) (λ_=>False) mk nx/\mu mk nx<=8000/\∀j,j<i->on mk (A.P j)) ?_ A.nr ⟨0,_,_,_,rfl,N,hM,G,MJ.nil _ _,hmu,λj hj=>N⟩;clear G hM hmu E;rintro m lH x90 ni H6 ⟨i,mk,nx,cs,rfl,him,hM,G,hJ,hmu,hb⟩;refine q_ (λhc=>?_) λhc=>?_
 .have hi:i<A.nr:=N;refine(h.ex G.ext).ldP ho hi λp=>call (ho.p i hi).1 hM G hJ hmu (.stop i hi) λv H7 mk' nx' M' hM G hJ hon hmo ab9=>?_;refine dQ ?_;refine⟨A.nr-(i+1),N,_,_,_,_,O,i+1,mk',nx',M',og,N,hM,G,hJ,N,λj hj=>?_⟩;rcases cr j i with W|W
  .exact hmo _<|hb j W
  .obtain rfl:j=i:=N;exact hon
 have hbase:∀r,r<A.nr->on mk (A.P r):=λr y=>hb r N;clear hb hc him;refine tl ?_;refine ahy 16 18 19 21 115 116 117 157 158 159 (ai:=λm pG wN uC xJ x115 EO AQ x157 x158 x159 T=>∃mk nx cs P,Ms mr xr dm A.ns mk nx cs/\F [] H T (cs++[])/\MJ A.ns (A.Mk tok) P mk nx/\mu mk nx<=8000/\mu mk nx=m/\(∀r,r<A.nr->on mk (A.P r))/\A.Clo tok P mk) ?_ (mu mk nx) ⟨mk,nx,cs,_,hM,G,hJ,hmu,rfl,hbase,λs e _ _ h=>h.elim⟩;clear G hM hJ hmu hbase;rintro m pG wN uC xJ x115 EO AQ x157 x158 x159 ni H6 ⟨mk,nx,cs,P,hM,G,hJ,hmu,rfl,hbase,Us⟩;obtain⟨nv,gb,rfl,hgb,hl⟩:=hM;have G:F [] H H6 ((mr,34,[I (D ⟨dm,0,Q⟩) A.ns A.ns])::(xr,22,[nv])::(dm,4,bools mk)::(gb++[])):=G;refine tm ?_
 have fin:nx=[]->∀ni,gK Pg X (sub pF [1,1,1,1,1,1,1,1,1]) (lK (q.v A) (.bool tok) (pt u) x4 (I ia A.ns ic) (I ca A.nr cc) x7 x8 jo (pt mr) (pt xr) (.func (.func 111) ⟨[]⟩ ⟨[pt mr,pt xr]⟩) lH pG wN uC xJ x30 x31 x32 Aq x38 x39 (I q.pa A.nr q.pc) (B A.nr) (B i) x115 EO AQ x157 x158 x159 ni H6)
  (jL Pg [.tmp 4]<|Qe (λv T=>∃mk,Bs H.next T A.ns v mk/\∀s,on mk s<->A.Mk tok s) H):=by
  intro hn ni;subst hn;refine tl ?_;refine G.pz<|rr ?_;exact⟨⟨mk,⟨_,_,O,hl,je.one G (aS (i:=2) O) (mg hl)<|G.wQ<|aS (i:=2) O⟩,At.aeI ho hJ Us hbase⟩,G.ext⟩
 rcases hgb with⟨rfl,hn,rfl⟩|⟨r,n,eB,rfl,hn,rfl⟩
 .obtain rfl:nx=[]:=mg hn;refine bG ?_;refine aT (λhc=>N) λ_=>?_;exact fin O _
 have hn:nx.length=n:=mg hn;subst hn;refine Mo (λhc=>?_) λhc=>?_
 .exact fin (dR.1 N) _
 clear fin;obtain⟨zJ,cur,rfl⟩:∃a b,nx=a++[b]:=⟨nx.dropLast,nx.getLast (λe=>by subst e;simp at hc),(mP _).symm⟩;have hlen:(zJ++[cur]).length=zJ.length+1:=by simp
 rw[hlen]at G;simp only[bI,bN]at G;have ahV:=Ww hmu;rw[hlen]at ahV;refine eU ?_;refine qL ?_;rw[show((zJ.length+1:Nat):Int)-1=(zJ.length:Nat) by omega];refine G.ix (v:=B cur) N kg λp=>?_;refine eU ?_;refine qL ?_;rw[show((zJ.length+1:Nat):Int)-1=(zJ.length:Nat) by omega];refine PU.of (BM N)<|G.jH λHn G=>?_;have Jm:cur<A.ns:=by have:=agC<|hJ.nxo cur kg;rw[hJ.len]at this;exact this
 have hJ':=hJ.pop;have Ut:=ab7 mk zJ cur;have hM:Ms mr xr dm A.ns mk zJ ((mr,34,[I (D ⟨dm,0,Q⟩) A.ns A.ns])::(xr,22,[I (D ⟨r,0,Q⟩) zJ.length (fJ 1)])::(dm,4,bools mk)::[(r,3,fF (zJ++[cur])++eB)]):=⟨_,_,O,.inr ⟨r,_,B cur::eB,O,by simp,by simp⟩,hl⟩;refine hI.ld G.ext Jm λp ba bc l hl hG hln=>?_;refine bG ?_;have G:F [] H _ (((mr,34,[I (D ⟨dm,0,Q⟩) A.ns A.ns])::(xr,22,[I (D ⟨r,0,Q⟩) zJ.length (fJ 1)])::(dm,4,bools mk)::[(r,3,fF (zJ++[cur])++eB)])++[]):=G;have hrc:=hJ.snd cur<|hJ.nxo cur kg;refine lp2 18 117 (ai:=λm wN AQ T=>∃k mk' nx' cs,AQ=B k/\k+m=l.length/\Ms mr xr dm A.ns mk' nx' cs/\F [] H T (cs++[])/\MJ A.ns (A.Mk tok) (λt=>P t\/t=cur) mk' nx'/\mu mk' nx'<=mu mk zJ/\(∀t,on mk t->on mk' t)/\∀(j:Nat)(p:Nat×Ed),j<k->l[j]?=D p->(p.2.1=2->P (A.S p.2.2.1)\/A.S p.2.2.1=cur)->on mk' p.1) ?_ l.length ⟨0,mk,zJ,_,rfl,N,hM,G,hJ',ax _,λt h=>h,λj e hj=>N⟩;clear G hM hJ';rintro m' y18 anu MH H7 ⟨k,mk',nx',cs,rfl,hkm,hM,G,hJ',ab9,hmo,hdone⟩;refine q_ (λhc2=>?_) λhc2=>?_
 .have hk:k<l.length:=N;refine akp (hl.ex G.ext) hk λp=>?_;have hmem:=bB hk;have hke:l[k]?=D l[k]:=av hk;have⟨g1,g2,g3⟩:=hG.1 _ hmem;generalize hee:l[k]=pe at g1 g2 g3 hke hmem|-;have⟨s,e⟩:=pe;replace g1:e∈A.hx s:=g1;replace g2:e.2.2=cur:=g2;replace g3:At.Wu tok e:=g3;have hss:=ho.lt g1;refine G.ns O O O λH8 re G Bg=>?_;have G:F [] H H8 ((re,209,[B s,B e.1,B e.2.1,B e.2.2])::(cs++[])):=G
  have zf:∀y18 Hl Ph M2 z_ H9,Ms mr xr dm A.ns Hl Ph M2->F [] H H9 (M2++[])->MJ A.ns (A.Mk tok) (λt=>P t\/t=cur) Hl Ph->mu Hl Ph<=mu mk' nx'->(∀t,on mk' t->on Hl t)->((e.1=2->P (A.S e.2.1)\/A.S e.2.1=cur)->on Hl s)->
   gK Pg X (sub pF [1,1,1,1,1,1,1,1,0,0,0,1,0,1,1,0,1,0,0,1,1,1]) (lK (q.v A) (.bool tok) (pt u) x4 (I ia A.ns ic) (I ca A.nr cc) x7 x8 jo (pt mr) (pt xr) (.func (.func 111) ⟨[]⟩ ⟨[pt mr,pt xr]⟩) lH (B cur) y18 uC xJ x30 x31 x32 Aq x38 x39 (I q.pa A.nr q.pc) (B A.nr) (B i) (I ba l.length bc) (B l.length) (B k) x157 x158 x159 z_ H9)
    (Gm (vS (q.v A) (.bool tok) (pt u) x4 (I ia A.ns ic) (I ca A.nr cc) x7 x8 jo (pt mr) (pt xr) (.func (.func 111) ⟨[]⟩ ⟨[pt mr,pt xr]⟩) lH (B cur) uC xJ x30 x31 x32 Aq x38 x39 (I q.pa A.nr q.pc) (B A.nr) (B i) (I ba l.length bc) (B l.length) x157 x158 x159 λm wN AQ T=>∃k mk' nx' cs,AQ=B k/\k+m=l.length/\Ms mr xr dm A.ns mk' nx' cs/\F [] H T (cs++[])/\MJ A.ns (A.Mk tok) (λt=>P t\/t=cur) mk' nx'/\mu mk' nx'<=mu mk zJ/\(∀t,on mk t->on mk' t)/\∀(j:Nat)(p:Nat×Ed),j<k->l[j]?=D p->(p.2.1=2->P (A.S p.2.2.1)\/A.S p.2.2.1=cur)->on mk' p.1) m'<|sw 8<|t_ Pg X (sub pF [1,1,1,1,1,1,1,1,0,0,0,1,0,1,1,1])<|sw 7<|Gm (zC (q.v A) (.bool tok) (pt u) x4 (I ia A.ns ic) (I ca A.nr cc) x7 x8 jo (pt mr) (pt xr) (.func (.func 111) ⟨[]⟩ ⟨[pt mr,pt xr]⟩) lH x30 x31 x32 Aq x38 x39 (I q.pa A.nr q.pc) (B A.nr) (B i) λm pG wN uC xJ x115 EO AQ x157 x158 x159 T=>∃mk nx cs P,Ms mr xr dm A.ns mk nx cs/\F [] H T (cs++[])/\MJ A.ns (A.Mk tok) P mk nx/\mu mk nx<=8000/\mu mk nx=m/\(∀r,r<A.nr->on mk (A.P r))/\A.Clo tok P mk) (mu mk<|zJ++[cur])<|sw 6<|t_ Pg X (sub pF [1,1,1,1,1,1,1,1,1])<|jL Pg [.tmp 4]<|Qe (λv T=>∃mk,Bs H.next T A.ns v mk/\∀s,on mk s<->A.Mk tok s) H):=by
   intro y18 Hl Ph M2 z_ H9 hM2 hS2 hJ2 Ut E_ Uv;refine tl ?_;refine dQ ?_;refine⟨l.length-(k+1),N,_,_,_,_,O,k+1,Hl,Ph,M2,og,N,hM2,hS2,hJ2,N,λt ht=>E_ t<|hmo t ht,λj p' hj hp' Uu=>?_⟩;rcases cr j k with W|W
   .exact E_ _<|hdone j p' W hp' Uu
   .obtain rfl:j=k:=N;rw[hke]at hp';cases hp';exact Uv Uu
  refine Mq (λhc3=>?_) λhc3=>?_
  .refine aaO ?_;refine tm ?_;refine call hss hM (G.perm<|iG [_] cs []) hJ' N (.edge s e g1 g3 (λJ=>absurd N hc3) (by rw[g2];exact hrc)) λv Dq Hl Ph M2 hM2 hS2 hJ2 Uv E_ Ut=>?_;exact zf _ Hl Ph M2 _ _ hM2 (F.drop (A:=[_])<|hS2.perm<|iG M2 [_] []) hJ2 Ut E_ λ_=>Uv
  .have he2:e.1=2:=N;have hca:=ho.call g1 he2;have hM0:=hM;have hSt:=ho.s _ hca;obtain⟨nv',gQ,rfl,hgb',hl'⟩:=hM;simp only[bI]at G;refine eU ?_;refine G.GU (hg.cell (o:=1) O) hgl ?_;refine eU ?_;refine sQ.aeJ (h.ex G.ext) ho hca λr1 o1=>?_;refine G.kL ?_;obtain⟨b,hb1⟩:∃b,mk'[A.S e.2.1]?=D b:=⟨_,av N⟩;refine G.Uw hSt.1 (jR _ hb1)<|eU ?_;refine aj6 (λhb2=>?_) λhb2=>?_
   .refine G.pz<|call hss hM0 (G.perm<|iG [_] (_::_::_::gQ) []) hJ' N (.edge s e g1 g3 (λJ=>hJ'.snd _ (by unfold on;rw[hb1,hb2])) (by rw[g2];exact hrc)) λv Dq Hl Ph M2 hM2 hS2 hJ2 Uv E_ Ut=>?_;exact zf _ Hl Ph M2 _ _ hM2 (F.drop (A:=[_])<|hS2.perm<|iG M2 [_] []) hJ2 Ut E_ λ_=>Uv
   .refine zf _ mk' nx' _ _ _ hM0 (F.drop (A:=[_]) G) hJ' (ax _) (λt h=>h) λJ=>?_;have:=hJ'.pon _<|J he2;unfold on at this;rw[hb1]at this;cases this;cases hb2
 have hin:∀s e,e∈A.hx s->At.Wu tok e->e.2.2=cur->(e.1=2->P (A.S e.2.1)\/A.S e.2.1=cur)->on mk' s:=λs e he hk ht hc'=>by
  have⟨j,hj,e1⟩:=kG.1<|hG.2 s e he hk ht;exact hdone j (s,e) N (by rw[<-e1];exact av hj) hc'
 clear hdone hc2 hkm hl hG;refine tp ?_;refine G.Be (hg.cell (o:=3) O) hgl<|(h.ex G.ext).Be Jm λp=>G.Be (hg.cell (o:=1) O) hgl<|(h.ex G.ext).ldS ho (ho.o cur Jm) λp=>?_;refine Mo (λhc3=>?_) λhc3=>?_
 .refine⟨mu mk' nx',N,_,_,_,_,_,_,_,_,_,_,_,_,O,mk',nx',cs,_,hM,G,hJ',N,O,λr y=>hmo _<|hbase r y,Us.step hmo hin λs e he J hs _=>?_⟩;have:=(ho.s _<|ho.call he J).2;rw[hs]at this;exact absurd (by rw[this,hs]) hc3
 have amd:A.S (A.aj cur)=cur:=N;refine hC.ld G.ext (ho.o cur Jm) λp ba bc l hl hG hln=>?_;refine bG ?_;refine lp2 21 159 (ai:=λm xJ x159 T=>∃k Hl Ph cs,x159=B k/\k+m=l.length/\Ms mr xr dm A.ns Hl Ph cs/\F [] H T (cs++[])/\MJ A.ns (A.Mk tok) (λt=>P t\/t=cur) Hl Ph/\mu Hl Ph<=mu mk zJ/\(∀t,on mk' t->on Hl t)/\∀(j:Nat)(p:Nat×Ed),j<k->l[j]?=D p->(P p.2.2.2\/p.2.2.2=cur)->on Hl p.1) ?_ l.length ⟨0,mk',nx',cs,rfl,N,hM,G,hJ',N,λt h=>h,λj e hj=>N⟩;clear G hM hJ' ab9;rintro m' y21 y159 MH H7 ⟨k,Hl,Ph,cs,rfl,hkm,hM,G,hJ',ab9,E_,hdone⟩;refine kX (λhc2=>?_) λhc2=>?_
 .refine⟨mu Hl Ph,N,_,_,_,_,_,_,_,_,_,_,_,_,O,Hl,Ph,cs,_,hM,G,hJ',N,O,λr y=>E_ _<|hmo _<|hbase r y,Us.step (λt ht=>E_ t<|hmo t ht) (λs e W J h3 h4=>E_ _<|hin s e W J h3 h4) λs e he J hs ht=>?_⟩;have hs2:=(ho.s _<|ho.call he J).2;rw[hs]at hs2;have⟨j,hj,e1⟩:=kG.1<|hG.2 s e he J hs2.symm;exact hdone j (s,e) N (by rw[<-e1];exact av hj) ht
 have hk:k<l.length:=N;refine akp (hl.ex G.ext) hk λp=>?_;have hmem:=bB hk;have hke:l[k]?=D l[k]:=av hk;have⟨g1,g2,g3⟩:=hG.1 _ hmem;generalize hee:l[k]=pe at g1 g2 g3 hke hmem|-;have⟨s,e⟩:=pe;replace g1:e∈A.hx s:=g1;replace g2:e.1=2:=g2;replace g3:e.2.1=A.aj cur:=g3;have hss:=ho.lt g1;have het:=(ho.e s hss e g1).1;refine G.ns O O O λH8 re G Bg=>?_;have hM0:=hM;obtain⟨nv',gQ,rfl,hgb',hl'⟩:=hM;have G:F [] H H8 ((re,209,[B s,B e.1,B e.2.1,B e.2.2])::(mr,34,[I (D ⟨dm,0,Q⟩) A.ns A.ns])::(xr,22,[nv'])::(dm,4,bools Hl)::(gQ++[])):=G;refine eU ?_;obtain⟨b,hb1⟩:∃b,Hl[e.2.2]?=D b:=⟨_,av N⟩;refine G.ix het (jR _ hb1) λp=>?_;refine qx (λhb2=>?_) λhb2=>?_
 .refine G.pz<|call hss hM0 (G.perm<|iG [_] (_::_::_::gQ) []) hJ' N (.edge s e g1 (λW=>N) (λ_=>by rw[g3,amd];exact hrc)<|hJ'.snd _ (by unfold on;rw[hb1,hb2])) λv Dq mk3 nx3 M3 hM3 sG hJ3 ame aks anv=>?_;refine dQ ?_;refine⟨l.length-(k+1),N,_,_,_,_,O,k+1,mk3,nx3,M3,og,N,hM3,F.drop (A:=[_])<|sG.perm<|iG M3 [_] [],hJ3,N,λt ht=>aks t<|E_ t ht,λj p' hj hp' Uu=>?_⟩;rcases cr j k with W|W
  .exact aks _<|hdone j p' W hp' Uu
  .obtain rfl:j=k:=N;rw[hke]at hp';cases hp';exact ame
 .refine dQ ?_;refine⟨l.length-(k+1),N,_,_,_,_,O,k+1,Hl,Ph,_,og,N,hM0,F.drop (A:=[_]) G,hJ',N,E_,λj p' hj hp' Uu=>?_⟩;rcases cr j k with W|W
  .exact hdone j p' W hp' Uu
  .obtain rfl:j=k:=N;rw[hke]at hp';cases hp';have:=hJ'.pon _ Uu;unfold on at this;rw[show((s,e):Nat×Ed).2.2.2=e.2.2 from O,hb1]at this;cases this;cases hb2
end
section
variable{S:C Nat}{SH:Nat->Prop}{P:Nat->Prop}{nx:C Nat}
structure KD(A:At)(ok:Ed->Prop)(key:Ed->Nat)(ag:Nat->Ed->Prop)(c:Nat)(b:C<|C<|Nat×Ed):Prop where
 snd:∀(t:Nat) l,b[t]?=D l->∀p∈l,p.2∈A.hx p.1/\key p.2=t/\ok p.2
 cpl:∀s e l,ag s e->ok e->b[key e]?=D l->(s,e)∈l
 len:∀l∈b,l.length<=c
section kd
variable{b:C (C<|Nat×Ed)}
def KD.nil(n:Nat):KD A ok key (λ_ _=>False) 0 (aX n []):=by
 refine⟨λt l h p hp=>?_,λs e l h=>h.elim,λl h=>?_⟩
 .have:=aS h;rw[List.mem_replicate]at this;rw[this.2]at hp;cases hp
 .rw[List.mem_replicate]at h;rw[h.2];exact ax _
def KD.wk(h:KD A ok key ag c b)(hd:∀s e,D' s e->ag s e)(hc:c<=c'):KD A ok key D' c' b:=⟨h.snd,λs e l g=>h.cpl s e l<|hd s e g,λl g=>a_ (h.len l g) hc⟩
def KD.add(h:KD A ok key ag c b)(he:e∈A.hx s)(hk:ok e)(hl:b[key e]?=D l):KD A ok key (λs' e'=>ag s' e'\/(s'=s/\e'=e)) (c+1) (b.set (key e)<|l++[(s,e)]):=by
 have hlt:=(bE.1 hl).1;refine⟨λt l' h' p hp=>?_,λs' e' l' hd hk' h'=>?_,λl' h'=>?_⟩
 .rw[dG]at h'
  by_cases ht:key e=t
  .rw[if_pos ht,if_pos hlt]at h';cases h';rcases bZ.1 hp with hp|hp
   .rw[<-ht];exact h.snd _ l hl p hp
   .rw[aP]at hp;subst hp;exact⟨he,ht,hk⟩
  .rw[if_neg ht]at h';exact h.snd t l' h' p hp
 .rw[dG]at h'
  by_cases ht:key e=key e'
  .rw[if_pos ht,if_pos hlt]at h';cases h';rcases hd with hd|⟨rfl,rfl⟩
   .exact dn _<|h.cpl s' e' l hd hk' (by rw[<-ht];exact hl)
   .simp
  .rw[if_neg ht]at h';rcases hd with hd|⟨rfl,rfl⟩
   .exact h.cpl s' e' l' hd hk' h'
   .exact absurd O ht
 .rcases ig h' with W|rfl
  .have:=h.len l' W;omega
  .have:=h.len l (aS hl);rw[aQ];show l.length+1<=c+1;omega
def KD.skip(h:KD A ok key ag c b)(hk:¬ok e):KD A ok key (λs' e'=>ag s' e'\/(s'=s/\e'=e)) (c+1) b:=by
 refine⟨h.snd,λs' e' l hd hk' h'=>?_,λl' h'=>lX<|h.len l' h'⟩;rcases hd with hd|⟨rfl,rfl⟩
 .exact h.cpl s' e' l hd hk' h'
 .exact absurd hk' hk
end kd
def Seen(A:At)(i k:Nat)(s:Nat)(e:Ed):Prop:=(s<i/\e∈A.hx s)\/(s=i/\∃j:Nat,j<k/\(A.hx i)[j]?=D e)
def Seen.next(h0:(A.hx i)[k]?=D e0)(h:Seen A i (k+1) s e):Seen A i k s e\/(s=i/\e=e0):=by
 rcases h with h|⟨W,j,J,h3⟩
 .exact .inl<|.inl h
 .rcases cr j k with h4|h4
  .exact .inl<|.inr ⟨W,j,h4,h3⟩
  .obtain rfl:j=k:=N;rw[h0]at h3;cases h3;exact .inr ⟨W,O⟩
def Seen.all(h:Seen A (i+1) 0 s e):Seen A i (A.hx i).length s e:=by
 rcases h with⟨W,J⟩|⟨W,j,J,h3⟩
 .rcases cr s i with h4|h4
  .exact .inl ⟨h4,J⟩
  .obtain rfl:s=i:=N;have⟨j,hj,e1⟩:=kG.1 J;exact .inr ⟨O,j,hj,by rw[<-e1];exact av hj⟩
 .omega
def _root_.Go.Ae.F.RO{v:Z}(G:F S H0 H L)[hb:EK L r (λM=>M.set k v) ty M L'](hk:k<n)(hl:k<M.length)(hc:bK v=[v]:=by rfl)(ho:fC v=f:=by rfl)(kk:∀H1,F S H0 (hM H H1) L'->K (.pointer<|D ⟨r,k,Q⟩) undef H1):
 PU (zN 1 (I (D ⟨r,0,Q⟩) n c)<|B k) λp=>ME (CW 1 p v<|hN H) (K p):=by
 have⟨i,hi,e⟩:=hb.at';refine PU.of (FV hk) ?_;rw[aY];have⟨H1,W,J,E⟩:=(F.yh G).zZ (vs:=[v]) (o:=k) i hi (by show k+1<=_;omega) (by show bV (fC v) _ _=_;rw[ho];rfl);rw[VQ hl]at J;show ME (gd (aA (len<|bK v) 1)<|aL ((Go.Ae.hN H).write r k<|bK v) λT=>D (undef,T)) _;rw[hc,fU,show aA [v].length 1=f from O,W];refine kk H1 ?_;rw[e]
 exact⟨oN.later G.ext E.draw (λq hq=>by
  simp at hq;subst hq;exact(G.lo _<|aS hi).1),J.bk,λe he=>⟨(J.lo e he).1,(J.lo e he).2⟩,J.ne,E.draw.wf G.wf⟩
def JL(ok:Ed->Prop)(key:Ed->Nat)(A:At)(ag:Nat->Ed->Prop)(c n:Nat)(vs:C Z)(az:C dL):Prop:=∃b,KD A ok key ag c b/\b.length=n/\IB 209 4 (b.map Sl) vs az
def JL.wk{az:C dL}(h:JL ok key A ag c n vs az)(hd:∀s e,D' s e->ag s e)(hc:c<=c'):JL ok key A D' c' n vs az:=let⟨b,W,J,h3⟩:=h;⟨b,W.wk hd hc,J,h3⟩
def JL.skip{az:C dL}(h:JL ok key A ag c n vs az)(hk:¬ok e):JL ok key A (λs' e'=>ag s' e'\/(s'=s/\e'=e)) (c+1) n vs az:=let⟨b,W,J,h3⟩:=h;⟨b,W.skip hk,J,h3⟩
def JL.put{az P0 L0:C dL}{rx:Nat}{K:Z->R->Prop}(h:JL ok key A ag c n vs az)(hc:c<=1000000)(he:e∈A.hx s)(hk:ok e)(hn:key e<n){v:Z}(hv:vs[key e]?=D v)(G:F S H0 H<|(rx,209,[B s,B e.1,B e.2.1,B e.2.2])::(P0++(az++L0)))(kk:∀va vl vc H1 R',JL ok key A (λs' e'=>ag s' e'\/(s'=s/\e'=e)) (c+1) n (vs.set (key e)<|I va vl vc) R'->F S H0 (hM H H1) (P0++(R'++L0))->(DY H H1=cl 1\/DY H H1=⟨2,0,0,0,H,H1⟩)->K (I va vl vc) H1):
 ME (zY 209 4 v (I (D ⟨rx,0,Q⟩) 1 1)<|hN H) K:=by
 have⟨b,W,J,h3⟩:=h;have hvl:vs.length=n:=by rw[<-h3.len,aK,J]
 obtain⟨A',gb,vn,rfl,hg,hput⟩:=h3.at (key e) N;obtain⟨l,hl⟩:∃l,b[key e]?=D l:=⟨_,av N⟩;have hll:=W.len l<|aS hl;rw[bF,hl]at hg;have hg:GB 209 4 vs[key e] (Sl l) gb:=hg;rw[av N]at hv;rw[dK hv]at hg;have e1:P0++((A'++(gb++vn))++L0)=(P0++A')++(gb++(vn++L0)):=by simp
 rw[e1]at G;refine hg.FM (G.perm<|dS _<|iG (P0++A') gb<|vn++L0) N O O (by rw[Pj];omega) λv' H1 gQ hg' hS' _ _ hcl=>?_;obtain⟨va,vl,vc,rfl⟩:=hg'.sl;have hS':=hS'.perm<|iG gQ (P0++A')<|vn++L0;have e2:(P0++A')++(gQ++(vn++L0))=P0++((A'++(gQ++vn))++L0):=by simp
 rw[e2]at hS';refine kk va vl vc H1 (A'++(gQ++vn)) ⟨b.set (key e)<|l++[(s,e)],W.add he hk hl,by rw[bJ];exact J,?_⟩ hS' hcl;have:=hput (I va vl vc) (Sl<|l++[(s,e)]) gQ (by rw[Wx];exact hg');rw[fZ];exact this
def AY:∀{Gn:C (C Z)}{vs:C Z}{az:C dL},IB ty es Gn vs az->∀v∈vs,nG v v=f
 |[],[],az,h=>nofun
 |ks::Gn,w::vs,az,⟨gb,R',_,W,J⟩=>λv hv=>by
  rcases bP.1 hv with rfl|hv
  .rcases W with⟨rfl,_⟩|⟨r,n,eB,rfl,_⟩
   .exact oF _ _ _ λx h=>by cases h
   .exact oF _ _ _ λx h=>by cases h;rfl
  .exact AY J v hv
 |[],v::vs,az,h=>h.elim
 |ks::Gn,[],az,h=>h.elim
def JL.same{az:C dL}(h:JL ok key A ag c n vs az):∀v∈vs,nG v v=f:=let⟨_,_,_,h3⟩:=h;AY h3
def Gf{l:C Z}(h:∃a b c:Nat,l=[B a,B b,B c]):∀v∈(l.drop o).take n,nG v v=f:=λv hv=>by
 obtain⟨a,b,c,rfl⟩:=h;have:=jK<|eX hv;simp at this;rcases this with rfl|rfl|rfl<;>exact sH _ _
end
end Go.Proofs.Lv
