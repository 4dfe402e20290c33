/-
  Part 11 of the proof. No condition.
-/
import Derived.Test.YtdkcdlnfeodaaaaGreatDoorR10
set_option linter.unusedVariables false
set_option linter.unusedSimpArgs false
set_option maxRecDepth 100000
set_option maxHeartbeats 4000000
noncomputable section
namespace Go.Proofs.Lu
open Go.Ae Go.Ae.M
variable{cs cs' eG l lcs rcs vcs z:List Value}{b c hi i j lo lw n nc nn r rc rg rv s tn vc:Nat}{l7:List (Nat×Value)}{m m' mm:List (ByteArray×Value)}{a a' na ra va xa:Option Addr}{zs:Nat->List Nat}{Q:Int->Prop}{e ty:TypeId}{L M Pf gb:List cz}{bs mk:List Bool}{kd:Nat->Int}{K:Value->ag->Prop}{H H0 H1:ag}{k nm t:ByteArray}{x:Bool}{F' P':Nat->Prop}{PW Q5 fC gK gq iL lu p qf vv x0 x1 x20 x3 x4 x5 x59 x6 x60 x7 x9 yj:Value}
section
variable{S:List Nat}{F:Nat->Prop}
def TyP(l:List Value):Prop:=∃(t:ByteArray)(r ch:Int)(w:Bool),l=[.string t,vi r,vi ch,.bool w]/\t.size<=1000000
def Vo(F:Nat->Prop)(H:ag)(a:Option Addr)(n:Nat)(cs:List Value):Prop:=jT F 149 H a n 4 cs/\n<=5000/\∀i,i<n->TyP (El cs 4 i)
abbrev vV(a:Option Addr)(n c:Nat):Value:=.agg ⟨[.slice a n c]⟩
theorem RJ(hw:Wf H):az Pg X 117 [vV a n c] H (Q1 (λv _=>v=vn n) H):=by
 have hS:=SH.refl hw;refine ce [0,1,2] ?_;refine tl ?_;refine hS.box rfl λH1 rg hS=>?_
 repeat(first|(refine hS.aY ?_)|(refine hS.dQ ?_))
 refine rr ?_;exact⟨rfl,hS.ext⟩
theorem Ew(hw:Wf H)(hV:Vo F H a n cs)(hp:∀H' l,Ext H H'->Wf H'->TyP l->lK Pg X (KA p) [.agg ⟨l⟩] H' (Q1 (λv _=>∃b:Bool,v=.bool b) H')):
 az Pg X 155 [.slice a n c,p] H (Q1 (λv _=>∃z:Int,v=vi z/\-1<=z/\z<n) H):=by
 obtain⟨hf,hn,ht⟩:=hV;have hS:=SH.refl hw;refine ce [0,1,4,5,7,8] ?_;refine tl ?_;refine aF ?_;refine Vg 4 5 8 (I:=λm x4 x5 x8 H'=>∃i:Nat,x8=vn i/\i+m=n/\SH [] H H' []) ?_ n ⟨0,rfl,aa,hS⟩;clear hS;rintro m x4 x5 x8 rg H1 ⟨i,rfl,him,hS⟩;refine tl ?_;refine aF ?_;refine ah (λhc=>?_) λhc=>?_;rotate_left
 .refine tl ?_;refine rr ?_;exact⟨⟨-1,rfl,aa,aa⟩,hS.ext⟩
 obtain⟨r,o,e,hr,hrd,_⟩:=hf.1.read aa (show i<n by omega) c;rw[e];refine aF ?_;refine hS.xZ hrd hr ?_;refine lK.mono (hp H1 _ hS.ext hS.wf<|ht i aa) ?_;rintro v H2 ⟨⟨b,rfl⟩,hx⟩;have hS:=hS.call hx;refine aF ?_;refine bO (λhb=>?_) λhb=>?_
 .refine rr ?_;exact⟨⟨i,rfl,aa,aa⟩,hS.ext⟩
 .refine bE ?_;exact⟨n-(i+1),aa,_,_,_,_,_,rfl,i+1,uN,aa,hS⟩
theorem RL(hw:Wf H)(hV:Vo F H a n cs)(k:Int):az Pg X 115 [vV a n c,vi k] H (Q1 (λv _=>∃z:Int,v=vi z/\-1<=z/\z<n) H):=by
 have hS:=SH.refl hw;refine ce [0,1,2,3,4] ?_;refine tl ?_;refine hS.box rfl λH1 rg hS=>?_;refine hS.box rfl λH2 rk hS=>?_
 repeat(first|(refine hS.aY ?_)|(refine hS.dQ ?_))
 refine ah (λhc=>?_) λhc=>?_
 .refine rr ?_;exact⟨⟨-1,rfl,aa,aa⟩,hS.ext⟩
 refine hS.dQ ?_;have hV2:Vo F H2 a n cs:=⟨hV.1.ex hS.ext,hV.2⟩;refine az.mono (Ew hS.wf hV2 (p:=.func (.func 156) ⟨[]⟩ ⟨[.pointer (some ⟨rk,0,none⟩)]⟩) λH' l hx hw' hl=>?_) ?_
 .obtain⟨t,r,ch,w,rfl,_⟩:=hl;show az Pg X 156 [_,.pointer<|some ⟨rk,0,none⟩] H' _;have hk:=((hS.call hx).get 0 rfl).cell (o:=0) (v:=vi k) rfl;have hkl:=((hS.call hx).lo _<|aA (i:=0) rfl).2;have hS:=SH.refl hw';refine ce [0,1,2,3] ?_;refine tl ?_;refine hS.box rfl λH3 rt hS=>?_;refine hS.aY ?_;refine hS.dQ ?_;refine hS.E8 hk hkl ?_;refine aF ?_;refine rr ?_;exact⟨⟨_,rfl⟩,hS.ext⟩
 .rintro v H3 ⟨hz,hx⟩;refine rr ?_;exact⟨hz,(hS.call hx).ext⟩
theorem J7(hw:Wf H)(hV:Vo F H a n cs)(s:ByteArray):az Pg X 116 [vV a n c,.string s] H (Q1 (λv _=>∃z:Int,v=vi z/\-1<=z/\z<n) H):=by
 have hS:=SH.refl hw;refine ce [0,1,2,3,4] ?_;refine tl ?_;refine hS.box rfl λH1 rg hS=>?_;refine hS.box rfl λH2 rk hS=>?_;refine hS.aY ?_;refine hS.dQ ?_;have hV2:Vo F H2 a n cs:=⟨hV.1.ex hS.ext,hV.2⟩;refine az.mono (Ew hS.wf hV2 (p:=.func (.func 157) ⟨[]⟩ ⟨[.pointer (some ⟨rk,0,none⟩)]⟩) λH' l hx hw' hl=>?_) ?_
 .obtain⟨t,r,ch,w,rfl,_⟩:=hl;show az Pg X 157 [_,.pointer<|some ⟨rk,0,none⟩] H' _;have hk:=((hS.call hx).get 0 rfl).cell (o:=0) (v:=.string s) rfl;have hkl:=((hS.call hx).lo _<|aA (i:=0) rfl).2;have hS:=SH.refl hw';refine ce [0,1,2,3] ?_;refine tl ?_;refine hS.box rfl λH3 rt hS=>?_
  repeat(first|(refine hS.aY ?_)|(refine hS.dQ ?_))
  refine ah (λhc=>?_) λhc=>?_
  .refine hS.dQ ?_;refine hS.E8 hk hkl ?_;refine aF ?_;refine rr ?_;exact⟨⟨_,rfl⟩,hS.ext⟩
  .refine rr ?_;exact⟨⟨_,rfl⟩,hS.ext⟩
 .rintro v H3 ⟨hz,hx⟩;refine rr ?_;exact⟨hz,(hS.call hx).ext⟩
end
theorem aeC:tEq Pg 149=some (.inr [3,1,1,2]):=by kernel_rfl
theorem agQ(t t':ByteArray)(r r' ch ch':Int)(w w':Bool):∃b,nH Pg 149 (.agg ⟨[.string t,vi r,vi ch,.bool w]⟩) (.agg ⟨[.string t',vi r',vi ch',.bool w']⟩)=some b:=by
 have e:nH Pg 149 (.agg ⟨[.string t,vi r,vi ch,.bool w]⟩) (.agg ⟨[.string t',vi r',vi ch',.bool w']⟩)=(aU (nT t t') (aU (Nv r r') (aU (Nv ch ch') (aU (yu w w') (some true)<|some false)<|some false)<|some false)<|some false):=by
  show(ax (tEq Pg 149) λq=>_)=_;rw[aeC];rfl
 rw[e];cases nT t t'<;>cases Nv r r'<;>cases Nv ch ch'<;>cases yu w w'<;>exact⟨_,rfl⟩
theorem aii(t t':ByteArray)(r r' ch ch':Int)(w w':Bool)(i j:Nat):∃b:Bool,jb Pg .neq 149 (.tmp i) (.tmp j) (.agg ⟨[.string t,vi r,vi ch,.bool w]⟩) (.agg ⟨[.string t',vi r',vi ch',.bool w']⟩)=some (.bool b):=by
 obtain⟨b,hb⟩:=agQ t t' r r' ch ch' w w';refine⟨!b,?_⟩;show Cc .neq (aeq Pg 149 (.tmp i) (.tmp j) _ _)=_
 have:aeq Pg 149 (.tmp i) (.tmp j) (.agg ⟨[.string t,vi r,vi ch,.bool w]⟩) (.agg ⟨[.string t',vi r',vi ch',.bool w']⟩)=some b:=by
  rw[<-hb];rfl
 rw[this];rfl
theorem RN{F:Nat->Prop}{n' c':Nat}(hw:Wf H)(hV:Vo F H a n cs)(hV':Vo F' H a' n' cs'):az Pg X 75 [vV a n c,vV a' n' c'] H (Q1 (λv _=>∃b:Bool,v=.bool b) H):=by
 have hS:=SH.refl hw;have hn:=hV.2.1;refine ce [0,1,2,3,4,5,6,15,16,17] ?_;refine tl ?_;refine hS.box rfl λH1 r1 hS=>?_;refine hS.box rfl λH2 r2 hS=>?_
 repeat(first|(refine hS.aY ?_)|(refine hS.dQ ?_))
 refine bq (λhc=>?_) λhc=>?_
 .refine rr ?_;exact⟨⟨_,rfl⟩,hS.ext⟩
 have hnn:n=n':=by omega
 refine hS.dQ ?_;refine hS.aY ?_;refine PV 4 5 6 17 (I:=λm x4 x5 x6 qV H'=>∃i:Nat,x4=.bool false/\qV=vn i/\i+m=n/\SH [] H H' [(r2,79,[.slice a' n' c']),(r1,79,[.slice a n c])]) ?_ n ⟨0,rfl,rfl,aa,hS⟩;clear hS;rintro m x4 x5 x6 qV rg H3 ⟨i,rfl,rfl,him,hS⟩;refine tl ?_;refine aF ?_;refine ah (λhc2=>?_) λhc2=>?_;rotate_left
 .refine tl ?_;refine rr ?_;exact⟨⟨_,rfl⟩,hS.ext⟩
 obtain⟨q,o,e,hr,hrd,_⟩:=hV.1.1.read aa (show i<n by omega) c;obtain⟨q',o',e',hr',Jj,_⟩:=hV'.1.1.read aa (show i<n' by omega) c';obtain⟨t,k,ch,w,he,_⟩:=hV.2.2 i aa;obtain⟨t',k',ch',w',he',_⟩:=hV'.2.2 i aa;rw[he]at hrd;rw[he']at Jj;rw[e];refine aF ?_;refine hS.xZ hrd hr ?_;refine hS.mO rfl rfl rfl λH4 rt hS hx4=>?_;have hS:SH [] H H4 [(rt,149,[.string t,vi k,vi ch,.bool w]),(r2,79,[.slice a' n' c']),(r1,79,[.slice a n c])]:=hS
 repeat(first|(refine hS.aY ?_)|(refine hS.kI ?_)|(refine hS.nN ?_))
 rw[e'];refine hS.aY ?_;refine ME.CU (H:=hN _) ((rH (hS.ext.obj q' hr'<|by simp) o' 4).trans Jj) ?_;obtain⟨b,hb⟩:=aii t t' k k' ch ch' w w' 22 27;refine PU.of hb ?_;refine hS.aY ?_;refine wS ?_;refine bO (λhb2=>?_) λhb2=>?_
 .refine rr ?_;exact⟨⟨_,rfl⟩,hS.ext⟩
 .refine bE ?_;exact⟨n-(i+1),aa,_,_,_,_,_,_,rfl,i+1,rfl,uN,aa,SH.drop (A:=[_]) hS⟩
section
variable{S:List Nat}{F:Nat->Prop}
theorem _root_.Go.Ae.ZF{o es:Nat}(h:lo<=hi)(h2:hi<=n):slA es (.slice (some ⟨r,o,none⟩) n<|dV es) (some<|vn lo) (some<|vn hi) none=some (.slice (some ⟨r,o+lo*es,none⟩) (hi-lo)<|dV es):=by
 show aU (eY<|dV es) _ (gd (Nat.beq (dV es)<|dV es)<|gd (Nat.ble lo hi&&Nat.ble hi n)<|some<|Value.slice (some ⟨r,Nat.add o<|Nat.mul lo es,none⟩) (Nat.sub hi lo)<|dV es)=_;rw[BC,iE,bC,av h,av h2];rfl
theorem Gr.sub{rn:Nat}(hG:Gr b H ra rn rcs na nn eG)(hc:na=none\/nc=dV 5)(h:lo<=hi)(hn:hi<=nn)(h0:0<nn):
 ∃r o,slA 5 (.slice na nn nc) (some<|vn lo) (some<|vn hi) none=some (.slice (some ⟨r,o+lo*5,none⟩) (hi-lo)<|dV 5)/\r<H.next/\∀i,i<hi-lo->zH 5 (.slice (some ⟨r,o+lo*5,none⟩) (hi-lo)<|dV 5) (vn i)=some (.pointer<|some ⟨r,o+(lo+i)*5,none⟩)/\H.read r (o+(lo+i)*5) 5=some (El eG 5<|lo+i):=by
 obtain⟨r,o,_,hr,_,o0,rfl,_⟩:=hG.2.2.2.1.1.idx (c:=nc) aa h0;have hcap:nc=dV 5:=hc.resolve_left (by simp);subst hcap;refine⟨r,o0,ZF h hn,hr,λi hi'=>?_⟩;obtain⟨r',o',e',hr',hrd,_⟩:=hG.no (i:=lo+i) aa (dV 5) rfl;rw[uB aa]at e';cases e';refine⟨?_,hrd⟩;rw[uB hi',show o0+lo*5+i*5=o0+(lo+i)*5 by omega]
def Ba(cs:List Value):Prop:=∃n,cs.length=n*4/\∀i,i<n->TyP (El cs 4 i)
theorem Ba.nil:Ba []:=⟨0,rfl,λi h=>absurd h aa⟩
theorem Ba.app(h:Ba cs)(hl:TyP l):Ba (cs++l):=by
 obtain⟨n,h1,h2⟩:=h;have hl4:l.length=4:=by obtain⟨t,r,ch,w,rfl,_⟩:=hl;rfl
 have hE:=ze (es:=4) (n:=n) h1 (xs:=l) hl4;refine⟨n+1,by rw[ay];omega,λi hi=>?_⟩;rcases aN i n with h|h
 .rw[hE.1 i h];exact h2 i h
 .obtain rfl:i=n:=by omega
  rw[hE.2];exact hl
theorem ME.ZG{t:TypeId}{q:TypeId×TypeId}(hS:SH S H0 H L)(h1:zD Pg t=some q)(kk:∀H' r,qx H' r []->Ext H H'->H.next<=r->SH S H0 H' L->K (.map<|some r) H'):ME (si Pg t none H) K:=by
 refine ME.of (v:=.map<|some H.next) (H:=H.new<|.map []) ?_<|kk _ _ ⟨bL _,by rw[wO,if_pos rfl];rfl⟩ (Ext.new _ _) (aj _)<|hS.call<|Ext.new _ _;show ax (zD Pg t) _=_;rw[h1];rfl
def wZ(rcs:List Value)(i:Nat):Nat:=if i=0 then 0 else(rootOf rcs (i-1)+1).toNat
theorem Jk.from{rn:Nat}(h:Jk F H rn rcs nn eG)(hi:i<rn):(wZ rcs i:Int)<=rootOf rcs i/\rootOf rcs i<nn/\(wZ rcs (i+1):Int)=rootOf rcs i+1:=by
 have h1:=h.1.2 i hi;have e:wZ rcs (i+1)=(rootOf rcs i+1).toNat:=rfl;refine⟨?_,h1.2,by rw[e];omega⟩;unfold wZ;split
 .omega
 .next h0=>
  have h2:=h.2.2 (i-1) aa;have h3:=h.1.2 (i-1) aa;rw[show i-1+1=i by omega]at h2;omega
theorem aij{x:Value}(hg:GB 149 4 x cs gb)(hT:Ba cs)(hl:cs.length<=10000000)(hS:SH S H0 H<|Pf++gb)(hp:TyP l){K:Value->Value->ag->Prop}(kk:∀w v' H' gY,GB 149 4 v' (cs++l) gY->Ba (cs++l)->SH S H0 H' (Pf++gY)->K w v' H'):
 ME (bS 149 [.string ⟨#[]⟩,.int .i64 0,.int .i64 0,.bool false] 4 1 [(0,.agg ⟨l⟩)] H) λw H5=>ME (Bz 149 4 x w H5) (K w):=by
 obtain⟨t,r,ch,w,rfl,hsz⟩:=id hp;refine hS.bS rfl rfl rfl aa λH1 rx hS1=>?_;have hS1:=hS1.perm<|List.Perm.cons _<|au (l₁:=Pf);obtain⟨v',H6,gY,e1,hg',wB,_⟩:=hg.app (m:=0) (cx:=1) hS1 aa rfl rfl aa aa;exact ME.of e1<|kk _ v' H6 gY hg' (hT.app hp)<|wB.perm au
theorem ZH(hw:Wf H){v:Value}(hv:v=.slice a n c)(hf:Fl H a n 4 cs)(hn:n<=5000)(ht:∀i,i<n->TyP (El cs 4 i)):az Pg X 80 [v] H (Q1 (λv H'=>∃a n c cs,v=.slice a n c/\Vo (H.next<=·) H' a n cs) H):=by
 subst hv;have hS:=SH.refl hw;refine ce [0,2] ?_;refine tl ?_;rw[Am (by kernel_rfl)];refine aF ?_;refine bO (λhb=>?_) λhb=>?_
 .refine rr ?_;exact⟨⟨none,0,0,[],rfl,jT.nil _ _ _ _ _,aa,λi h=>absurd h aa⟩,Ext.refl _⟩
 .refine ME.of (ad5 aa) ?_;have hS:=hS.grow 149 [];have hge:=hS.ext.next
  refine hS.QZ aa (.inr ⟨_,rfl⟩) (hf.ex hS.ext) aa λa' c' H1 L' hf' hS'=>?_;refine rr ?_;exact⟨⟨a',n,c',cs,rfl,hf'.le hge,hn,ht⟩,hS'.ext⟩
end
section
variable{S:List Nat}{F:Nat->Prop}
theorem agR{rn:Nat}(hG:Gr b H ra rn rcs na nn eG)(hg:GB 149 4 x3 cs gb)(hT:Ba cs)(hl:cs.length<=16000)(hS:SH [] H H1<|[(rv,79,[.slice none 0 0]),(rg,69,[.slice ra rn rc,.slice na nn nc])]++gb){xK F6 zO x34 G6 x74 x75 Q4:Value}:
 dJ Pg X (sub uE [1,1,1,1,1,1]) (rJ (gV ra rn rc na nn nc) (pr rg) (pr rv) x3 x4 x5 x7 x9 fC gK gq xK F6 yj zO x34 G6 x74 x75 Q4 l7 H1) (f_ Pg [.cell 2 79]<|Q1 (λv H'=>∃a n c cs,v=vV a n c/\Vo (H.next<=·) H' a n cs) H):=by
 have g2:=hG.2.1;simp only[a_,bB]at hS;refine tl ?_
 repeat(first|(refine hS.aY ?_)|(refine hS.dQ ?_))
 refine PV 3 12 13 76 (I:=λm x3 gK gq Q4 H'=>∃i cs gb,Q4=vn i/\i+m=rn/\GB 149 4 x3 cs gb/\Ba cs/\cs.length<=16000+4*i/\SH [] H H' ([(rv,79,[.slice none 0 0]),(rg,69,[.slice ra rn rc,.slice na nn nc])]++gb)) ?_ rn ⟨0,cs,gb,rfl,aa,hg,hT,aa,hS⟩;clear hg hT hl hS;rintro m x3 gK gq Q4 l7 H2 ⟨i,cs,gb,rfl,him,hg,hT,hl,hS⟩;refine tl ?_;refine aF ?_;refine ah (λhc=>?_) λhc=>?_;rotate_left
 .refine tl ?_;obtain⟨k,hk,ht⟩:=hT;have hS2:=hS.perm<|au (l₁:=[_,_]);obtain⟨a,n,c,rfl,hn,hf⟩:=hg.fl hS2;obtain rfl:n=k:=by omega
  refine az.mono (ZH hS.wf rfl hf aa ht) ?_;rintro v H3 ⟨⟨a',n',c',cs',rfl,hV⟩,hx⟩;have hge:=hS.ext.next
  have hlt:=hS.lt;have hS0:=hS.call hx;refine PU.b1 rfl ?_;have hS:=SH.own (M:=[(rv,79,[.slice none 0 0]),(rg,69,[.slice ra rn rc,.slice na nn nc])]) hS0;refine hS.aY ?_;refine hS.kJ λHn hS=>?_;refine rr ?_;refine hS.eU ?_;have NF:=hS.ext;exact⟨⟨a',n',c',cs',rfl,(hV.1.stay NF λq hq=>.inl (by have:=hlt q (by simp at hq|-;rcases hq with h|h<;>simp[h]);omega)).wk λr h=>aW hge h,hV.2⟩,(SH.frame (M:=[_,_]) hS0 hS).ext⟩
 have hi:i<rn:=by omega
 obtain⟨r1,o1,tQ,u1,f1,w1,c1,a1,e1,hl1,xw,qP,hsz,_⟩:=hG.ru hi rc;rw[e1];refine aF ?_;refine hS.xZ xw hl1 ?_;refine hS.mO rfl rfl rfl λH5 ru hS hx5=>?_;have hS:SH [] H H5 ((ru,141,sZ tQ u1 f1 w1 c1 (rootOf rcs i) a1)::(rv,79,[.slice none 0 0])::(rg,69,[.slice ra rn rc,.slice na nn nc])::gb):=hS
 repeat(first|(refine hS.aY ?_)|(refine hS.dQ ?_))
 have BX:∀x3 cs gb l7 H',GB 149 4 x3 cs gb->Ba cs->cs.length<=16000+4*(i+1)->SH [] H H' ((ru,141,sZ tQ u1 f1 w1 c1 (rootOf rcs i) a1)::(rv,79,[.slice none 0 0])::(rg,69,[.slice ra rn rc,.slice na nn nc])::gb)->
  dJ Pg X (sub uE [1,1,1,1,1,1,0,1,0,0,1,1,1]) (rJ (gV ra rn rc na nn nc) (pr rg) (pr rv) x3 x4 x5 x7 x9 fC (vn i) (pr ru) xK F6 yj zO x34 G6 (.slice ra rn rc) (vn rn) (vn i) l7 H')
   (Ah (tO (gV ra rn rc na nn nc) (pr rg) (pr rv) x4 x5 x7 x9 fC xK F6 yj zO x34 G6 (.slice ra rn rc) (vn rn) λm x3 gK gq Q4 H'=>∃i cs gb,Q4=vn i/\i+m=rn/\GB 149 4 x3 cs gb/\Ba cs/\cs.length<=16000+4*i/\SH [] H H' ([(rv,79,[.slice none 0 0]),(rg,69,[.slice ra rn rc,.slice na nn nc])]++gb)) m<|j3 4<|nR Pg X (sub uE [1,1,1,1,1,1,1])<|f_ Pg [.cell 2 79]<|Q1 (λv H'=>∃a n c cs,v=vV a n c/\Vo (H.next<=·) H' a n cs) H):=by
  intro x3 cs gb l7 H' h1 h2 h3 h4;refine tl ?_;refine bE ?_;exact⟨rn-(i+1),aa,_,_,_,_,_,_,rfl,i+1,cs,gb,uN,aa,h1,h2,h3,SH.drop (A:=[_]) h4⟩
 have ap:(lkv:Bool)->∀l7,BA l7 87=.bool lkv->dJ Pg X (sub uE [1,1,1,1,1,1,0,1,0,0,1,1,0,0,1,1]) (rJ (gV ra rn rc na nn nc) (pr rg) (pr rv) x3 x4 x5 x7 x9 fC (vn i) (pr ru) xK F6 yj zO x34 G6 (.slice ra rn rc) (vn rn) (vn i) l7 H5)
  (j3 5<|nR Pg X (sub uE [1,1,1,1,1,1,0,1,0,0,1,1,1])<|Ah (tO (gV ra rn rc na nn nc) (pr rg) (pr rv) x4 x5 x7 x9 fC xK F6 yj zO x34 G6 (.slice ra rn rc) (vn rn) λm x3 gK gq Q4 H'=>∃i cs gb,Q4=vn i/\i+m=rn/\GB 149 4 x3 cs gb/\Ba cs/\cs.length<=16000+4*i/\SH [] H H' ([(rv,79,[.slice none 0 0]),(rg,69,[.slice ra rn rc,.slice na nn nc])]++gb)) m<|j3 4<|nR Pg X (sub uE [1,1,1,1,1,1,1])<|f_ Pg [.cell 2 79]<|Q1 (λv H'=>∃a n c cs,v=vV a n c/\Vo (H.next<=·) H' a n cs) H):=by
  intro b l7 hb;refine tl ?_;rw[hb];refine bO (λhb=>?_) λhb=>?_;rotate_left
  .refine aF ?_;exact BX _ _ _ _ _ hg hT aa hS
  repeat(first|(refine hS.aY ?_)|(refine hS.kI ?_))
  refine az.mono (Df (qH H5) tQ hsz) ?_;rintro v H6 ⟨rfl,hx6⟩;have hS:=hS.oV hx6
  repeat(first|(refine hS.aY ?_)|(refine PU.b4 rfl ?_)|(refine hS.kI ?_))
  have hpt:TyP [.string tQ,vn i,vi c1,.bool w1]:=⟨tQ,i,c1,w1,rfl,hsz⟩;refine hS.U8 rfl rfl rfl aa λH7 rx hS qP=>?_;have hS:=hS.to (cs':=[.string tQ,vn i,vi c1,.bool w1]) rfl;refine hg.Ou (hS.perm<|List.Perm.cons _<|au (l₁:=[_,_,_])) aa rfl rfl aa λv' H8 gY hg' hS _ _ uI=>?_;have hS:=hS.perm<|au (l₂:=[_,_,_]);simp only[a_,bB]at hS;refine splitK (λK hK=>?_) ?_
  .simp only[qP,cB,dL hx6];rcases uI with e|e<;>rw[e]<;>apply IW (a:=ru) (by intros;rfl) (by kernel_rfl) (by kernel_rfl) hK
  exact BX _ _ _ _ _ hg' (hT.app hpt) (by rw[ay];show cs.length+4<=_;omega) hS
 refine bO (λhb=>?_) λhb=>?_
 .refine hS.dQ ?_;refine hS.aY ?_;exact ap (!f1) _ rfl
 .exact ap false _ rfl
theorem Px(hw:Wf H){rn:Nat}(hG:Gr b H ra rn rcs na nn eG)(hcap:na=none\/nc=dV 5):az Pg X 31 [gV ra rn rc na nn nc] H (Q1 (λv H'=>∃a n c cs,v=vV a n c/\Vo (H.next<=·) H' a n cs) H):=by
 have hS:=SH.refl hw;have g2:=hG.2.1;have g5:=hG.2.2.2.2.1;refine ce [0,1,2,3,4,5,7,9,11,12,13,21,22,23,33,34,35,74,75,76] ?_;refine tl ?_;refine hS.box rfl λH1 rg hS=>?_;refine hS.iI λHn rv hS=>?_;refine hS.aY ?_;refine hS.eU ?_;refine az.mono (Jn hS.wf<|hG.ex hS.ext) ?_;rintro v H2 ⟨⟨z,a,c,rfl,hcl⟩,hx⟩;have hS:=hS.call hx;rw[Dk];refine aF ?_;refine bq (λhc=>?_) λhc=>?_
 .refine PU.b1 rfl ?_;refine hS.kJ λHn hS=>?_;refine rr ?_;refine hS.eU ?_;exact⟨⟨none,0,0,[],rfl,jT.nil _ _ _ _ _,aa,λi h=>absurd h aa⟩,hS.ext⟩
 have hC:=(hcl hc).1;have hn1:=hC.2.1;have hn0:0<nn:=by have:=hC.1.2 0 aa;omega
 have hge:=hS.ext.next
 refine ME.ZG hS zg λH3 rm hm hx3 hrm hS=>?_;have hrm:H.next<=rm:=by omega
 refine hS.dQ ?_;refine hS.aY ?_;refine lp9 3 5 7 9 11 23 33 34 35 (I:=λm x3 x5 x7 x9 fC yj zO x34 G6 H'=>∃i mm cs gb,x5=vn (wZ rcs i)/\yj=vn i/\i+m=rn/\qx H' rm mm/\GB 149 4 x3 cs gb/\Ba cs/\cs.length<=4*wZ rcs i/\SH [] H H' ([(rv,79,[.slice none 0 0]),(rg,69,[.slice ra rn rc,.slice na nn nc])]++gb)) ?_ rn ⟨0,[],[],[],rfl,rfl,aa,hm,GB.nil _ _,Ba.nil,aM _,hS⟩;clear hS hm;rintro m x3 x5 x7 x9 fC yj zO x34 G6 l7 H4 ⟨i,mm,cs,gb,rfl,rfl,him,hm,hg,hT,hl,hS⟩;refine tl ?_;refine aF ?_;refine ah (λhc=>?_) λhc=>?_;rotate_left
 .obtain rfl:i=rn:=by omega
  have hfr:=hC.from (i:=i-1) aa;rw[show i-1+1=i by omega]at hfr;exact agR hG hg hT aa hS
 have hi:i<rn:=by omega
 have hfr:=hC.from hi;obtain⟨r1,o1,tQ,u1,f1,w1,c1,a1,e1,hl1,xw,qP,hsz,_⟩:=hG.ru hi rc;rw[e1];refine aF ?_;refine hS.xZ xw hl1 ?_;refine hS.mO rfl rfl rfl λH5 ru hS hx5=>?_;have hm:=hm.ex hx5 λh=>nomatch h;have hS:SH [] H H5 ((ru,141,sZ tQ u1 f1 w1 c1 (rootOf rcs i) a1)::(rv,79,[.slice none 0 0])::(rg,69,[.slice ra rn rc,.slice na nn nc])::gb):=hS;refine hS.aY ?_;refine hS.dQ ?_;refine hS.dQ ?_;refine bE ?_;rw[<-hfr.2.2];have hlo:wZ rcs i<=wZ rcs (i+1):=by omega
 have hhi:wZ rcs (i+1)<=nn:=by omega
 generalize hh:wZ rcs (i+1)=hi' at hlo hhi hfr|-;generalize wZ rcs i=lo at hlo hl hfr|-;obtain⟨r2,o2,esl,hr2,hsub⟩:=hG.sub hcap hlo hhi hn0;refine PU.of esl ?_;refine aF ?_;refine PV 3 9 11 35 (I:=λm x3 x9 fC G6 H'=>∃k mm cs gb,G6=vn k/\k+m=hi'-lo/\qx H' rm mm/\GB 149 4 x3 cs gb/\Ba cs/\cs.length<=4*(lo+k)/\SH [] H H' ([(ru,141,sZ tQ u1 f1 w1 c1 (rootOf rcs i) a1),(rv,79,[.slice none 0 0]),(rg,69,[.slice ra rn rc,.slice na nn nc])]++gb)) ?_ (hi'-lo) ⟨0,mm,cs,gb,rfl,aa,hm,hg,hT,aa,hS⟩;clear hS hm hg hT hl hc;rintro m' y3 y9 y11 y35 RE H6 ⟨k,mm,cs,gb,rfl,hkm,hm,hg,hT,hl,hS⟩;simp only[a_,bB]at hS;refine tl ?_;refine aF ?_;refine ah (λhc=>?_) λhc=>?_;rotate_left
 .obtain rfl:k=hi'-lo:=by omega
  refine tl ?_;refine hS.aY ?_;refine hS.dQ ?_;refine bE ?_;refine tl ?_;refine bE ?_;exact⟨rn-(i+1),aa,_,_,_,_,_,_,_,_,_,_,_,rfl,i+1,mm,cs,gb,by rw[hh,<-hfr.2.2],uN,aa,hm,hg,hT,aa,SH.drop (A:=[_]) hS⟩
 have hk:k<hi'-lo:=by omega
 obtain⟨eid,erd⟩:=hsub k hk;refine PU.of eid ?_;obtain⟨kd,ka,kn,kc,ks,t,xa,xn,xc,at',he,_,htz,_⟩:=hC.1.1 (lo+k) aa;rw[he]at erd;refine hS.xZ erd hr2 ?_;refine hS.mO rfl rfl rfl λH7 rb hS hx7=>?_;have hm:=hm.ex hx7 λh=>nomatch h;have hS:SH [] H H7 ((rb,145,[vi kd,.slice ka kn kc,.string t,.slice xa xn xc,vi at'])::(ru,141,sZ tQ u1 f1 w1 c1 (rootOf rcs i) a1)::(rv,79,[.slice none 0 0])::(rg,69,[.slice ra rn rc,.slice na nn nc])::gb):=hS;refine hS.aY ?_;refine hS.dQ ?_;refine ME.Ph hm zg Pj eqS λf _ _=>?_;refine aF ?_
 have BX:∀{fC mm cs gb xD H8 x3},qx H8 rm mm->GB 149 4 x3 cs gb->Ba cs->cs.length<=4*(lo+(k+1))->SH [] H H8 ((rb,145,[vi kd,.slice ka kn kc,.string t,.slice xa xn xc,vi at'])::(ru,141,sZ tQ u1 f1 w1 c1 (rootOf rcs i) a1)::(rv,79,[.slice none 0 0])::(rg,69,[.slice ra rn rc,.slice na nn nc])::gb)->
  ∃m_1,m_1<m'/\uZ (gV ra rn rc na nn nc) (pr rg) (pr rv) (.map<|some rm) (vn lo) (pr ru) top top (.slice ra rn rc) (vn rn) (vn i) (.slice (some ⟨r2,o2+lo*5,none⟩) (hi'-lo)<|dV 5) (vn<|hi'-lo) top top top (λm x3 x9 fC G6 H'=>∃k mm cs gb,G6=vn k/\k+m=hi'-lo/\qx H' rm mm/\GB 149 4 x3 cs gb/\Ba cs/\cs.length<=4*(lo+k)/\SH [] H H' ([(ru,141,sZ tQ u1 f1 w1 c1 (rootOf rcs i) a1),(rv,79,[.slice none 0 0]),(rg,69,[.slice ra rn rc,.slice na nn nc])]++gb)) m_1
   (rJ (gV ra rn rc na nn nc) (pr rg) (pr rv) x3 (.map<|some rm) (vn lo) (pr ru) (pr rb) fC top top (.slice ra rn rc) (vn rn) (vn i) (.slice (some ⟨r2,o2+lo*5,none⟩) (hi'-lo)<|dV 5) (vn<|hi'-lo) (vi<|(k:Int)+1) top top top xD H8):=by
  intro fC mm cs gb xD H8 x3 h1 h2 h3 h4 h5;exact⟨hi'-lo-(k+1),aa,_,_,_,_,_,_,rfl,k+1,mm,cs,gb,uN,aa,h1,h2,h3,h4,SH.drop (A:=[_]) h5⟩
 refine bO (λhb=>?_) λhb=>?_
 .refine bE ?_;exact BX hm hg hT aa hS
 refine hS.dQ ?_;refine hS.aY ?_;refine bO (λhb2=>?_) λhb2=>?_
 .refine bE ?_;exact BX hm hg hT aa hS
 refine hS.dQ ?_;refine hS.aY ?_;refine bq (λhc3=>?_) λhc3=>?_
 .refine bE ?_;exact BX hm hg hT aa hS
 refine tl ?_;refine hS.aY ?_;refine hS.dQ ?_;obtain⟨a3,n3,c3,rfl,hn3,_⟩:=hg.fl<|hS.perm<|au (l₁:=[_,_,_,_]);refine aF ?_;refine hS.upd (.inr hrm) hm zg eqS λH8 mm2 hm2 _ _ hS=>?_;refine hS.dQ ?_;refine az.mono (Df hS.wf t htz) ?_;rintro v H9 ⟨rfl,hx9⟩;have hm2:=hm2.ex hx9 λh=>nomatch h;have hS:=hS.call hx9;have aiS:=hm2.1;refine PU.b4 rfl ?_;have hnm:=hS.Dm hm2;have hS:SH [] H H9 ([(rb,145,[vi kd,.slice ka kn kc,.string t,.slice xa xn xc,vi at']),(ru,141,sZ tQ u1 f1 w1 c1 (rootOf rcs i) a1),(rv,79,[.slice none 0 0]),(rg,69,[.slice ra rn rc,.slice na nn nc])]++gb):=hS;have hS0:=hS;have hS:=hS0.base;refine aij hg hT aa hS (l:=[.string t,vi (-1),vi 0,.bool false]) ⟨t,-1,0,false,rfl,htz⟩ λw v' H10 gY hg' hT' hS'=>?_;have MG:=hm2.ex hS'.ext hnm;refine aF ?_;refine tl ?_;refine bE ?_;exact BX MG hg' hT' (by rw[ay];show cs.length+4<=_;omega)<|hS0.over hS'
end
structure Gm where
 kd:Nat->Int
 zs:Nat->List Nat
 G9:Nat->Option Nat
 rt:Nat->Nat
namespace Gm
variable{l:List Ed}{h k r s t:Nat}
inductive Ok(g:Gm)(tok:Bool):Nat->Prop
 |alt (k z:Nat):g.kd k=0->z∈g.zs k->Ok g tok z->Ok g tok k
 |seq (k:Nat):g.kd k=1->(∀z∈g.zs k,Ok g tok z)->Ok g tok k
 |opt (k:Nat):g.kd k=2\/g.kd k=3->Ok g tok k
 |plus (k z:Nat):g.kd k=4->g.zs k=[z]->Ok g tok z->Ok g tok k
 |tok (k:Nat):5<=g.kd k->g.G9 k=none->tok=true->Ok g tok k
 |call (k l:Nat):5<=g.kd k->g.G9 k=some l->Ok g tok (g.rt l)->Ok g tok k
def zx(R:Nat->Nat->Nat->Prop):List Nat->Nat->Nat->Prop
 |[],f,t=>t=f
 |z::l,f,t=>∃m,R z f m/\zx R l m t
def Way(g:Gm)(E:Nat->List Ed):Nat->Nat->Nat->Nat->Prop
 |0,_,_,_=>False
 |n+1,k,f,t=>
  (g.kd k=1/\zx (Way g E n) (g.zs k) f t)\/
  (g.kd k=0/\∃d bs,E f=[(0,0,d)]/\E d=bs.map (λb=>(0,0,b))/\bs≠[]/\bs.length=(g.zs k).length/\∀(i z b:Nat),(g.zs k)[i]?=some z->bs[i]?=some b->∃c,Way g E n z b c/\E c=[(0,0,t)])\/
  ((g.kd k=2\/g.kd k=3)/\∃z d b c,g.zs k=[z]/\E f=[(0,0,d)]/\E d=[(0,0,b),(0,0,t)]/\Way g E n z b c/\(E c=[(0,0,t)]\/E c=[(0,0,d)]))\/
  (g.kd k=4/\∃z d b c,g.zs k=[z]/\E f=[(0,0,b)]/\E d=[(0,0,b),(0,0,t)]/\Way g E n z b c/\E c=[(0,0,d)])\/
  (5<=g.kd k/\∃i a,E f=[(i,a,t)]/\(∀l,g.G9 k=some l->i=2/\a=l)/\(g.G9 k=none->i=1))
structure Is(g:Gm)(A:At):Prop where
 stop:∀r,r<A.nr->A.E (A.P r)=[]
 way:∀r,r<A.nr->∃n t,Way g A.E n (g.rt r) (A.S r) t/\A.E t=[(0,0,A.P r)]
 G9:∀k l,g.G9 k=some l->l<A.nr
variable{g:Gm}{A:At}{tok:Bool}
theorem edge{i a:Nat}(h:A.E s=l)(he:(i,a,t)∈l)(h1:i=1->tok=true)(h2:i=2->A.Mk tok (A.S a))(ht:A.Mk tok t):A.Mk tok s:=
 .edge s (i,a,t) (h▸he) h1 h2 ht
theorem free(h:A.E s=l)(he:(0,0,t)∈l)(ht:A.Mk tok t):A.Mk tok s:=edge h he (λh=>by cases h) (λh=>by cases h) ht
theorem agS(hI:Is g A)(h:Ok g tok k):∀n f t,Way g A.E n k f t->A.Mk tok t->A.Mk tok f:=by
 induction h with
 |alt k z hk hz h ih=>
  intro n f t hw ht;cases n with
  |zero=>exact hw.elim
  |succ n=>
  rcases hw with⟨h1,_⟩|⟨_,d,bs,h2,h3,_,hl,h4⟩|⟨h1,_⟩|⟨h1,_⟩|⟨h1,_⟩
  .omega
  .obtain⟨i,hi,rfl⟩:=fD hz;obtain⟨c,h5,h6⟩:=h4 i _ _ (ae hi)<|ae aa;exact free h2 (by simp)<|free h3 (aZ.2 ⟨_,bF _,rfl⟩)<|ih n _ _ h5<|free h6 (by simp) ht
  all_goals omega
 |seq k hk hz ih=>
  intro n f t hw ht;cases n with
  |zero=>exact hw.elim
  |succ n=>
  rcases hw with⟨_,hc⟩|⟨h1,_⟩|⟨h1,_⟩|⟨h1,_⟩|⟨h1,_⟩
  .clear hz;generalize g.zs k=l at hc ih
   induction l generalizing f with
   |nil=>exact(show t=f from hc)▸ht
   |cons z l ihl=>
    obtain⟨m,h1,h2⟩:=hc;exact ih z (by simp) n f m h1<|ihl m h2 λz hz=>ih z (by simp[hz])
  all_goals omega
 |opt k hk=>
  intro n f t hw ht;cases n with
  |zero=>exact hw.elim
  |succ n=>
  rcases hw with⟨h1,_⟩|⟨h1,_⟩|⟨_,z,d,b,c,_,h2,h3,_⟩|⟨h1,_⟩|⟨h1,_⟩
  .omega
  .omega
  .exact free h2 (by simp)<|free h3 (by simp) ht
  all_goals omega
 |plus k z hk hz h ih=>
  intro n f t hw ht;cases n with
  |zero=>exact hw.elim
  |succ n=>
  rcases hw with⟨h1,_⟩|⟨h1,_⟩|⟨h1,_⟩|⟨_,z',d,b,c,h2,h3,h4,h5,h6⟩|⟨h1,_⟩
  .omega
  .omega
  .omega
  .rw[hz]at h2;cases h2;exact free h3 (by simp)<|ih n _ _ h5<|free h6 (by simp)<|free h4 (by simp) ht
  .omega
 |tok k hk hc h=>
  intro n f t hw ht;cases n with
  |zero=>exact hw.elim
  |succ n=>
  rcases hw with⟨h1,_⟩|⟨h1,_⟩|⟨h1,_⟩|⟨h1,_⟩|⟨_,i,a,h2,_,h3⟩
  all_goals try omega
  obtain rfl:=h3 hc;exact edge h2 (aD ..) (λ_=>h) (λh=>by cases h) ht
 |call k l hk hc h ih=>
  intro n f t hw ht;cases n with
  |zero=>exact hw.elim
  |succ n=>
  rcases hw with⟨h1,_⟩|⟨h1,_⟩|⟨h1,_⟩|⟨h1,_⟩|⟨_,i,a,h2,h3,_⟩
  all_goals try omega
  obtain⟨rfl,rfl⟩:=h3 l hc;obtain⟨n',t',h4,h5⟩:=hI.way a<|hI.G9 k a hc;exact edge h2 (aD ..) (λh=>by cases h) (λ_=>ih n' _ _ h4<|free h5 (by simp)<|.stop a<|hI.G9 k a hc) ht
def Mn(A:At)(tok:Bool):Nat->Nat->Prop
 |0,_=>False
 |h+1,s=>(∃r,r<A.nr/\s=A.P r)\/∃e∈A.E s,(e.1=1->tok=true)/\(e.1=2->Mn A tok h (A.S e.2.1))/\Mn A tok h e.2.2
theorem Mn.up:∀{s:Nat},Mn A tok h s->Mn A tok (h+1) s:=by
 induction h with
 |zero=>intro s h;exact h.elim
 |succ h ih=>
  rintro s (h1|⟨e,h1,h2,h3,h4⟩)
  .exact .inl h1
  .exact .inr ⟨e,h1,h2,λh=>ih<|h3 h,ih h4⟩
theorem Mn.le{h':Nat}(hh:h<=h')(hs:Mn A tok h s):Mn A tok h' s:=by
 induction hh with
 |refl=>exact hs
 |step _ ih=>exact ih.up
theorem Mn.of(hm:A.Mk tok s):∃h,Mn A tok h s:=by
 induction hm with
 |stop r hr=>exact⟨1,.inl ⟨r,hr,rfl⟩⟩
 |edge s e he h1 h2 h3 ih2 ih3=>
  obtain⟨b,hb⟩:=ih3
  by_cases h:e.1=2
  .obtain⟨a,ha⟩:=ih2 h;exact⟨max a b+1,.inr ⟨e,he,h1,λ_=>ha.le aa,hb.le aa⟩⟩
  .exact⟨b+1,.inr ⟨e,he,h1,λh'=>absurd h' h,hb⟩⟩
theorem Mn.go(hI:Is g A)(hs:Mn A tok h s)(hl:A.E s=l)(hn:l≠[]):∃h' e,h=h'+1/\e∈l/\(e.1=1->tok=true)/\(e.1=2->Mn A tok h' (A.S e.2.1))/\Mn A tok h' e.2.2:=by
 cases h with
 |zero=>exact hs.elim
 |succ h=>
  rcases hs with⟨r,hr,rfl⟩|⟨e,h1,h2⟩
  .exact absurd ((hl.symm.trans<|hI.stop r hr)) hn
  .exact⟨h,e,rfl,hl▸h1,h2⟩
theorem Mn.one(hI:Is g A)(hs:Mn A tok h s)(hl:A.E s=[(0,0,t)]):∃h',h=h'+1/\Mn A tok h' t:=by
 obtain⟨h',e,h1,h2,_,_,h3⟩:=hs.go hI hl (by simp);obtain rfl:=aO.1 h2;exact⟨h',h1,h3⟩
theorem agT(hI:Is g A):∀h n k f t,Way g A.E n k f t->Mn A tok h f->Ok g tok k/\∃h',h'<=h/\Mn A tok h' t:=by
 intro h
 induction h using Nat.strongRecOn with
 |ind h ih=>
 intro n
 induction n with
 |zero=>intro k f t hw;exact hw.elim
 |succ n ihn=>
 intro k f t hw hf
 have rnd:∀z d b c t',(∀h',h'<h->∀f t,Way g A.E n z f t->Mn A tok h' f->∃h2,h2<=h'/\Mn A tok h2 t)->A.E d=[(0,0,b),(0,0,t')]->Way g A.E n z b c->(A.E c=[(0,0,t')]\/A.E c=[(0,0,d)])->∀h1,h1<=h->Mn A tok h1 d->∃h',h'<h1/\Mn A tok h' t':=by
  intro z d b c t' hz h3 h4 h5 h1
  induction h1 using Nat.strongRecOn with
  |ind h1 ih1=>
  intro hh hd;obtain⟨h2,e,rfl,he,_,_,h6⟩:=hd.go hI h3 (by simp);simp only[bP,kK,uP]at he;rcases he with rfl|rfl
  .obtain⟨h7,h8,h9⟩:=hz h2 aa _ _ h4 h6;rcases h5 with h5|h5
   .obtain⟨h10,rfl,h11⟩:=h9.one hI h5;exact⟨h10,aa,h11⟩
   .obtain⟨h10,rfl,h11⟩:=h9.one hI h5;obtain⟨h12,h13,h14⟩:=ih1 h10 aa aa h11;exact⟨h12,aa,h14⟩
  .exact⟨h2,aa,h6⟩
 have hz:∀z h',h'<h->∀f t,Way g A.E n z f t->Mn A tok h' f->∃h2,h2<=h'/\Mn A tok h2 t:=λz h' hh f t hw hf=>(ih h' hh n z f t hw hf).2;rcases hw with⟨hk,hc⟩|⟨hk,d,bs,h2,h3,hbs,hl,h4⟩|⟨hk,z,d,b,c,h1,h2,h3,h4,h5⟩|⟨hk,z,d,b,c,h1,h2,h3,h4,h5⟩|⟨hk,i,a,h2,h3,h4⟩
 .have key:∀l f h1,h1<=h->zx (Way g A.E n) l f t->Mn A tok h1 f->(∀z∈l,Ok g tok z)/\∃h',h'<=h1/\Mn A tok h' t:=by
   intro l
   induction l with
   |nil=>intro f h1 _ hc hf;exact⟨λz h=>(nomatch h),h1,aj _,(show t=f from hc)▸hf⟩
   |cons z l ihl=>
    rintro f h1 hh ⟨m,h2,h3⟩ hg
    have a:Ok g tok z/\∃h',h'<=h1/\Mn A tok h' m:=by
     rcases aN h1 h with hlt|hge
     .exact ih h1 hlt n z f m h2 hg
     .obtain rfl:h1=h:=by omega
      exact ihn z f m h2 hg
    obtain⟨a1,h4,a2,a3⟩:=a;obtain⟨b1,h5,b2,b3⟩:=ihl m h4 aa h3 a3;refine⟨λy hy=>?_,h5,aa,b3⟩;rcases bP.1 hy with rfl|hy
    .exact a1
    .exact b1 y hy
  obtain⟨a,b⟩:=key _ f h (aj _) hc hf;exact⟨.seq k hk a,b⟩
 .obtain⟨h5,rfl,h6⟩:=hf.one hI h2;obtain⟨h7,e,rfl,he,_,_,h8⟩:=h6.go hI h3 (by simpa using hbs);obtain⟨b,hb,rfl⟩:=aZ.1 he;obtain⟨j,hj,rfl⟩:=fD hb;obtain⟨c,h9,h10⟩:=h4 j _ _ (ae aa)<|ae hj;obtain⟨a1,h11,a2,a3⟩:=ih h7 aa n _ _ _ h9 h8;obtain⟨h12,rfl,h13⟩:=a3.one hI h10;exact⟨.alt k _ hk (bF _) a1,h12,aa,h13⟩
 .obtain⟨h6,rfl,h7⟩:=hf.one hI h2;obtain⟨h8,h9,h10⟩:=rnd z d b c t (hz z) h3 h4 h5 h6 aa h7;exact⟨.opt k hk,h8,aa,h10⟩
 .obtain⟨h6,rfl,h7⟩:=hf.one hI h2;obtain⟨a1,h8,a2,a3⟩:=ih h6 aa n _ _ _ h4 h7;obtain⟨h9,rfl,h10⟩:=a3.one hI h5;obtain⟨h11,h12,h13⟩:=rnd z d b c t (hz z) h3 h4 (.inr h5) h9 aa h10;exact⟨.plus k z hk h1 a1,h11,aa,h13⟩
 .obtain⟨h6,e,rfl,he,g1,g2,g3⟩:=hf.go hI h2 (by simp);obtain rfl:=aO.1 he;refine⟨?_,h6,aa,g3⟩;cases hc:g.G9 k with
  |none=>exact .tok k hk hc<|g1<|h4 hc
  |some l=>
   obtain⟨rfl,rfl⟩:=h3 l hc;obtain⟨n',t',w1,w2⟩:=hI.way a<|hI.G9 k a hc;exact .call k a hk hc (ih h6 aa n' _ _ _ w1<|g2 rfl).1
theorem law(hI:Is g A)(hr:r<A.nr):A.Mk tok (A.S r)<->Ok g tok (g.rt r):=by
 obtain⟨n,t,h1,h2⟩:=hI.way r hr;constructor
 .intro h;obtain⟨h',hm⟩:=Mn.of h;exact(agT hI h' n _ _ _ h1 hm).1
 .exactλh=>agS hI h n _ _ h1<|free h2 (by simp)<|.stop r hr
end Gm
namespace Gm
variable{N k:Nat}
variable{g:Gm}{tok:Bool}{w w':Nat->Bool}
def nv(g:Gm)(tok:Bool)(w:Nat->Bool):Nat->Nat->Bool
 |0,_=>false
 |n+1,k=>
  if g.kd k=0 then(g.zs k).any (nv g tok w n)
  else if g.kd k=1 then(g.zs k).all (nv g tok w n)
  else if g.kd k=2\/g.kd k=3 then true
  else if g.kd k=4 then nv g tok w n ((g.zs k).headD 0)
  else match g.G9 k with
   |some l=>w l
   |none=>tok
structure Fit(g:Gm)(N:Nat):Prop where
 z:∀k,k<N->∀z∈g.zs k,z<k
 k:∀k,k<N->g.kd k=0\/g.kd k=1\/((g.kd k=2\/g.kd k=3\/g.kd k=4)/\∃z,g.zs k=[z])\/5<=g.kd k
 r:∀k l,g.G9 k=some l->g.rt l<N
theorem agU(hF:Fit g N)(hw:∀l,w l=true->Ok g tok (g.rt l)):∀n k,k<N->nv g tok w n k=true->Ok g tok k:=by
 intro n
 induction n with
 |zero=>intro k _ h;cases h
 |succ n ih=>
  intro k hk h;unfold nv at h;split at h
  .next h0=>
   obtain⟨z,hz,h⟩:=ni.1 h;exact .alt k z h0 hz<|ih z (by have:=hF.z k hk z hz;omega) h
  split at h
  .next h0 h1=>exact .seq k h1 λz hz=>ih z (by have:=hF.z k hk z hz;omega)<|bU.1 h z hz
  split at h
  .next h2=>exact .opt k h2
  split at h
  .next h0 h1 h2 h4=>
   rcases hF.k k hk with h5|h5|⟨_,z,hz⟩|h5
   .omega
   .omega
   .rw[hz]at h;exact .plus k z h4 hz<|ih z (by have:=hF.z k hk z (by rw[hz];simp);omega) h
   .omega
  .next h0 h1 h2 h4=>
   have h5:5<=g.kd k:=by rcases hF.k k hk with h5|h5|h5|h5<;>omega
   cases hc:g.G9 k with
   |none=>rw[hc]at h;exact .tok k h5 hc h
   |some l=>rw[hc]at h;exact .call k l h5 hc<|hw l h
theorem agV(hF:Fit g N)(h:Ok g tok k):k<N->(∀k l,g.G9 k=some l->∀n,g.rt l<n->nv g tok w n (g.rt l)=true->w l=true)->∀n,k<n->nv g tok w n k=true:=by
 intro hk hc
 induction h with
 |alt k z h0 hz h ih=>
  intro n hn;cases n with
  |zero=>omega
  |succ n=>
   unfold nv;rw[if_pos h0];have:=hF.z k hk z hz;exact ni.2 ⟨z,hz,ih aa n aa⟩
 |seq k h1 hz ih=>
  intro n hn;cases n with
  |zero=>omega
  |succ n=>
   unfold nv;rw[if_neg aa,if_pos h1]
   exact bU.2 λz hz=>by
    have:=hF.z k hk z hz;exact ih z hz aa n aa
 |opt k h2=>
  intro n hn;cases n with
  |zero=>omega
  |succ n=>unfold nv;rw[if_neg aa,if_neg aa,if_pos h2]
 |plus k z h4 hz h ih=>
  intro n hn;cases n with
  |zero=>omega
  |succ n=>
   unfold nv;rw[if_neg aa,if_neg aa,if_neg aa,if_pos h4,hz];have:=hF.z k hk z (by rw[hz];simp);exact ih aa n aa
 |tok k h5 hn h=>
  intro n hn';cases n with
  |zero=>omega
  |succ n=>unfold nv;rw[if_neg aa,if_neg aa,if_neg aa,if_neg aa,hn];exact h
 |call k l h5 hl h ih=>
  intro n hn;have hr:=hF.r k l hl;cases n with
  |zero=>omega
  |succ n=>
   unfold nv;rw[if_neg aa,if_neg aa,if_neg aa,if_neg aa,hl];exact hc k l hl (g.rt l+1) aa<|ih hr (g.rt l+1) aa
end Gm
section
section
variable(y:Nat->PR)
def fB:Nat->Nat
 |0=>0
 |i+1=>fB i+(if(y i).2.1=true then 0 else 1)
def mV(t:ByteArray):Nat->Option Nat
 |0=>none
 |i+1=>match mV t i with
  |some x=>some x
  |none=>if(y i).1=t/\(y i).2.1=false then some (fB y i)else none
def Wi:Nat->Nat->Nat
 |0,_=>0
 |i+1,l=>if(y i).2.1=false/\fB y i=l then(y i).2.2 else Wi i l
end
variable{y y':Nat->PR}
theorem BL(h:i<=j):fB y i<=fB y j:=by
 induction h with
 |refl=>exact aj _
 |step _ ih=>exact aW ih<|ny ..
theorem G_:∀n,fB y n<=n
 |0=>aj _
 |n+1=>by
  have:=G_ n;show fB y n+_<=_;split<;>omega
theorem sV(h:mV y t i≠none\/(y i).1≠t\/(y i).2.1=true):mV y t (i+1)=mV y t i:=by
 show(match mV y t i with|some x=>_|none=>_)=_;cases hc:mV y t i with
 |some x=>rfl
 |none=>rw[hc]at h;exact if_neg λe=>by simp_all
theorem Ey(h:mV y t i=none)(h1:(y i).1=t)(h2:(y i).2.1=false):mV y t (i+1)=some (fB y i):=by
 show(match mV y t i with|some x=>_|none=>_)=_;rw[h];exact if_pos ⟨h1,h2⟩
theorem abK(h1:(y j).1=t)(h2:(y j).2.1=false):∀i,j<i->mV y t i≠none:=by
 intro i
 induction i with
 |zero=>intro h;omega
 |succ i ih=>
  intro h;cases hc:mV y t i with
  |some x=>rw[sV (.inl (by rw[hc];simp)),hc];simp
  |none=>
   obtain rfl:j=i:=by
    rcases aN j i with h'|h'
    .exact absurd hc<|ih h'
    .omega
   rw[Ey hc h1 h2];simp
theorem MU(hu:(y i).2.1=false):fB y (i+1)=fB y i+1:=by
 show _+(if(y i).2.1=true then 0 else 1)=_;rw[hu];rfl
theorem BM{l:Nat}:∀n,mV y t n=some l->∃j,j<n/\(y j).1=t/\(y j).2.1=false/\l=fB y j
 |0,h=>by cases h
 |n+1,h=>by
  cases hc:mV y t n with
  |some x=>
   rw[sV (.inl (by rw[hc];simp)),hc]at h;cases h;obtain⟨j,h1,h2⟩:=BM n hc;exact⟨j,aa,h2⟩
  |none=>
   rcases fu ((y n).1=t/\(y n).2.1=false)with e|e
   .rw[Ey hc e.1 e.2]at h;cases h;exact⟨n,aa,e.1,e.2,rfl⟩
   .rw[sV (by cases hu:(y n).2.1<;>simp_all),hc]at h;cases h
theorem T4{l:Nat}(h:mV y t n=some l):l<fB y n:=by
 obtain⟨j,h1,_,h2,rfl⟩:=BM n h;have:=BL (y:=y) (show j+1<=n by omega);rw[MU h2]at this;omega
theorem Jo(hu:(y i).2.1=false):∀n,i<n->Wi y n (fB y i)=(y i).2.2:=by
 intro n
 induction n with
 |zero=>intro h;omega
 |succ n ih=>
  intro h;show(if _ then _ else _)=_;rcases aN i n with h1|h1
  .have h2:=BL (y:=y) (show i+1<=n by omega);rw[MU hu]at h2;rw[if_neg aa];exact ih h1
  .obtain rfl:i=n:=by omega
   rw[if_pos ⟨hu,rfl⟩]
theorem BN:∀n,(∀i,i<n->y i=y' i)->fB y n=fB y' n
 |0,_=>rfl
 |n+1,h=>by
  show fB y n+_=fB y' n+_;rw[BN n λi hi=>h i aa,h n aa]
theorem K6:∀n,(∀i,i<n->y i=y' i)->mV y t n=mV y' t n
 |0,_=>rfl
 |n+1,h=>by
  show(match mV y t n with|some x=>_|none=>if(y n).1=t/\_ then _ else _)=(match mV y' t n with|some x=>_|none=>if(y' n).1=t/\_ then _ else _);rw[K6 n λi hi=>h i aa,h n aa,BN n λi hi=>h i aa]
theorem Py{l:Nat}:∀n,(∀i,i<n->y i=y' i)->Wi y n l=Wi y' n l
 |0,_=>rfl
 |n+1,h=>by
  show(if(y n).2.1=false/\fB y n=l then _ else _)=(if(y' n).2.1=false/\fB y' n=l then _ else _);rw[Py n λi hi=>h i aa,h n aa,BN n λi hi=>h i aa]
abbrev i_(rl:List PR)(i:Nat):PR:=rl[i]?.getD (e0,false,0)
abbrev l8(nd:List PN)(i:Nat):PN:=nd[i]?.getD (0,[],e0)
abbrev tT(nd:List PN)(rl:List PR):Gm:=⟨λi=>(l8 nd i).1,λi=>(l8 nd i).2.1,λi=>if(l8 nd i).1=5 then mV (i_ rl) (l8 nd i).2.2 rl.length else none,Wi (i_ rl) rl.length⟩
end
section
variable{S:List Nat}{F:Nat->Prop}
def B6(rcs:List Value)(i:Nat):ByteArray:=match(El rcs 7 i)[0]? with|some (Value.string t)=>t|_=>⟨#[]⟩
abbrev Gh(rcs:List Value)(i:Nat):PR:=(B6 rcs i,vI rcs i,(rootOf rcs i).toNat)
abbrev vk(rcs:List Value)(i:Nat):Nat:=fB (Gh rcs) i
theorem Fu(rcs:List Value)(h:i<=j):vk rcs i<=vk rcs j:=BL h
theorem T6(rcs:List Value)(i:Nat):vk rcs i<=i:=G_ i
def UpN(rn:Nat)(rcs:List Value):Prop:=∀i j,i<rn->j<rn->B6 rcs i=B6 rcs j->vI rcs i=vI rcs j
def vo(tn lw:Nat)(o:Option Nat)(l:List Value):Prop:=∃k a:Nat,l=[vn k,vn a,vn 0]/\(k=0/\o=none\/(k=1/\a<tn)/\o=none\/(k=2/\a<lw)/\o=some a)
theorem vo.zero(tn lw:Nat):vo tn lw none [vi 0,vi 0,vi 0]:=⟨0,0,rfl,.inl ⟨rfl,rfl⟩⟩
def zy(tn lw:Nat)(rcs:List Value)(i:Nat)(m:List<|ByteArray×Value):Prop:=(∀p∈m,(∃l,p.2=.agg ⟨l⟩/\vo tn lw (mV (Gh rcs) p.1 i) l)/\∃j,j<i/\B6 rcs j=p.1)/\∀t,mV (Gh rcs) t i≠none->∃p∈m,p.1=t
theorem MV:zD Pg 189=some (9,47):=by kernel_rfl
theorem ZI:Cb Pg 47=some (.agg ⟨[vi 0,vi 0,vi 0]⟩):=by kernel_rfl
theorem zy.get(h:zy tn lw rcs i m){f:Option Value}(hf:∀v,f=some v->(k,v)∈m)(hn:f=none->∀p∈m,p.1≠k):∃l,f.getD (.agg ⟨[vi 0,vi 0,vi 0]⟩)=.agg ⟨l⟩/\vo tn lw (mV (Gh rcs) k i) l:=by
 cases f with
 |none=>
  have:mV (Gh rcs) k i=none:=by
   rcases fu (mV (Gh rcs) k i=none)with e|e
   .exact e
   .obtain⟨p,h1,h2⟩:=h.2 k e;exact absurd h2<|hn rfl p h1
  rw[this];exact⟨_,rfl,vo.zero _ _⟩
 |some v=>exact(h.1 _<|hf v rfl).1
theorem zy.old{rn:Nat}(h:zy tn lw rcs i m)(hU:UpN rn rcs)(hi:i<rn)(hk:vI rcs i=true\/∃p∈m,p.1=B6 rcs i):zy tn lw rcs (i+1) m:=by
 have e:∀t,mV (Gh rcs) t (i+1)=mV (Gh rcs) t i:=λt=>sV (by
  rcases fu (B6 rcs i=t)with e|e
  .rcases hk with hk|⟨p,h1,h2⟩
   .exact .inr<|.inr hk
   .obtain⟨_,j,h3,h4⟩:=h.1 p h1;cases hu:vI rcs i with
    |true=>exact .inr<|.inr hu
    |false=>exact .inl<|abK (h4.trans<|h2.trans e) ((hU j i aa hi<|h4.trans h2).trans hu) i h3
  .exact .inr<|.inl e)
 exact⟨λp hp=>by
  obtain⟨h1,j,h2,h3⟩:=h.1 p hp;exact⟨by rw[e];exact h1,j,aa,h3⟩,λt ht=>h.2 t (by rw[<-e];exact ht)⟩
theorem zy.new(h:zy tn lw rcs i m)(hn:∀p∈m,p.1≠B6 rcs i)(hl:vo tn lw (mV (Gh rcs) (B6 rcs i)<|i+1) l)(h1:∀p∈m',p∈m\/p=(B6 rcs i,.agg ⟨l⟩))(h2:∀p,p∈m\/p=(B6 rcs i,.agg ⟨l⟩)->∃q∈m',q.1=p.1):zy tn lw rcs (i+1) m':=by
 refine⟨λp hp=>?_,λt ht=>?_⟩
 .rcases h1 p hp with hp|rfl
  .obtain⟨g1,j,g2,g3⟩:=h.1 p hp;exact⟨by rw[sV (.inr<|.inl λe=>hn p hp e.symm)];exact g1,j,aa,g3⟩
  .exact⟨⟨_,rfl,hl⟩,i,aa,rfl⟩
 .rcases fu (B6 rcs i=t)with e|e
  .obtain⟨q,g1,g2⟩:=h2 _ (.inr rfl);exact⟨q,g1,g2.trans e⟩
  .rw[sV (.inr<|.inl e)]at ht;obtain⟨p,g1,g2⟩:=h.2 t ht;obtain⟨q,g3,g4⟩:=h2 p<|.inl g1;exact⟨q,g3,g4.trans g2⟩
theorem ZJ{rm re ru:Nat}{rn:Nat}{u f w:Bool}{ch root at' kd ar:Int}(hrm:H.next<=rm)(hm:qx H1 rm mm)(hE:zy tn lw rcs i mm)(hU:UpN rn rcs)(hi:i<rn)(hnm:B6 rcs i=nm)(hk:0<=ar->(∀p∈mm,p.1≠nm)->vo tn lw (mV (Gh rcs) nm<|i+1) [vi kd,vi ar,vi 0])(hk0:¬0<=ar->vI rcs i=true)(hS:SH [] H H1 [(re,47,[vi kd,vi ar,vi 0]),(ru,141,sZ nm u f w ch root at'),(rv,79,[.slice va tn vc]),(rg,69,[.slice ra rn rc,.slice na nn nc])]){K:Out->Prop}(kk:∀fC We xD H',qx H' rm We->zy tn lw rcs (i+1) We->SH [] H H' [(rv,79,[.slice va tn vc]),(rg,69,[.slice ra rn rc,.slice na nn nc])]->K (.norm<|lq x0 x1 (pr rg) (pr rv) (.slice none 0 0) (.map<|some rm) x6 x7 (pr ru) (pr re) fC gK gq lu iL qf vv x20 x59 x60 Q5 PW xD H')):
 dJ Pg X (sub vE [1,1,1,0,1,0,0,1,1,0,0,1,1,1]) (lq x0 x1 (pr rg) (pr rv) (.slice none 0 0) (.map<|some rm) x6 x7 (pr ru) (pr re) fC gK gq lu iL qf vv x20 x59 x60 Q5 PW l7 H1) K:=by
 refine tl ?_;refine hS.aY ?_;refine hS.dQ ?_;refine ME.Ph hm MV ZI eqS λfo hf hfn=>?_;refine aF ?_;obtain⟨l,e,hl⟩:=hE.get hf hfn;rw[e];obtain⟨k1,a1,rfl,hl⟩:=hl;refine hS.mO rfl rfl rfl λH2 rt hS hx=>?_;have hm:=hm.ex hx λh=>nomatch h;have hS:SH [] H H2 ((rt,47,[vn k1,vn a1,vn 0])::[(re,47,[vi kd,vi ar,vi 0]),(ru,141,sZ nm u f w ch root at'),(rv,79,[.slice va tn vc]),(rg,69,[.slice ra rn rc,.slice na nn nc])]):=hS
 have put:∀b:Bool,(b=true->0<=ar/\∀p∈mm,p.1≠nm)->(b=false->¬0<=ar\/∃p∈mm,p.1=nm)->∀fC l7,BA l7 48=.bool b->dJ Pg X (sub vE [1,1,1,0,1,0,0,1,1,0,0,1,1,1,1,1]) (lq x0 x1 (pr rg) (pr rv) (.slice none 0 0) (.map<|some rm) x6 x7 (pr ru) (pr re) fC gK gq lu iL qf vv x20 x59 x60 Q5 PW l7 H2) K:=by
  intro b hb hbn fC l7 hlk;refine tl ?_;rw[hlk];refine bO (λhb2=>?_) λhb2=>?_
  .refine hS.aY ?_;refine hS.dQ ?_;refine hS.eU ?_;refine hS.upd (.inr hrm) hm MV eqS λH3 mm2 hm2 hmm MG hS=>?_;obtain⟨h1,h2⟩:=hb hb2;subst hnm;exact kk _ mm2 _ _ hm2 (hE.new h2 (hk h1 h2) hmm MG)<|SH.drop (A:=[_,_,_]) hS
  .subst hnm;exact kk _ mm _ _ hm (hE.old hU hi<|(hbn hb2).imp_left hk0)<|SH.drop (A:=[_,_,_]) hS
 refine bO (λhb=>?_) λhb=>?_
 .refine hS.dQ ?_;refine hS.aY ?_;have hf0:fo=none:=by cases fo<;>simp_all
  exact put _ (λh=>⟨cZ h,hfn hf0⟩) (λh=>.inl<|eD h) _ _ rfl
 .have hf0:∃v,fo=some v:=by cases fo<;>simp_all
  obtain⟨v,rfl⟩:=hf0;exact put false (λh=>by cases h) (λ_=>.inr ⟨_,hf v rfl,rfl⟩) _ _ rfl
theorem _root_.Go.Ae.SH.aik(hS:SH S H0 H L){m:Nat}(hn:n<=m)(hm:m<=16777216)(k:∀H1 r,SH S H0 H1 ((r,e,mg z m)::L)->Ext H H1->H.next<=r->K (.slice (some ⟨r,0,none⟩) n m) H1):ME (Go.Ae.mkS e z (vn n) (vn m) H) K:=
 (SH.refl hS.wf).mkS hn hm λH1 r hO=>k H1 r (SH.frame (M:=[]) (L:=L) hS hO) hO.ext<|hO.zN<|aD ..
theorem aeD(z:List Value)(n:Nat):∀k,k<n->El (mg z n) z.length k=z:=by
 induction n with
 |zero=>intro k h;omega
 |succ n ih=>
  intro k h;have e:mg z (n+1)=z++mg z n:=by show app z (mg z n)=_;rw[nY]
  rw[e];cases k with
  |zero=>unfold El;simp
  |succ k=>
   have:=ih k aa;unfold El at this|-;rw[show(k+1)*z.length=z.length+k*z.length by rw[dN];omega,qh,gJ aa];rw[show z.length+k*z.length-z.length=k*z.length by omega];exact this
def Dr(rcs:List Value)(rn:Nat)(l:List Value):Option Nat:=match l with|[Value.int _ z,_,Value.string t,_,_]=>if z=5 then mV (Gh rcs) t rn else none|_=>none
def LfI(tn lw:Nat)(rcs:List Value)(rn:Nat)(eG:List Value)(nn i:Nat)(cs:List Value):Prop:=∀k,k<nn->vo tn lw (if k<i then Dr rcs rn (El eG 5 k)else none) (El cs 3 k)
theorem LfI.old{rn:Nat}(h:LfI tn lw rcs rn eG nn i cs)(hc:Dr rcs rn (El eG 5 i)=none):LfI tn lw rcs rn eG nn (i+1) cs:=λk hk=>by
 have:=h k hk;rcases aN k i with h1|h1
 .rw[if_pos aa];rwa [if_pos h1]at this
 .rw[if_neg aa]at this;rcases aN k (i+1)with h2|h2
  .obtain rfl:k=i:=by omega
   rw[if_pos h2,hc];exact this
  .rw[if_neg aa];exact this
theorem aeE{rm:Nat}{rn:Nat}(hG:Gr b H ra rn rcs na nn eG)(hR:∀i,i<nn->ZA (b<=·) H i (El eG 5 i))(hV:Vo F H va tn vcs)(hm:qx H1 rm mm)(hE:zy tn lw rcs rn mm)(hS:SH [] H H1 [(rv,79,[.slice va tn vc]),(rg,69,[.slice ra rn rc,.slice na nn nc])]){x8:Value}:
 dJ Pg X (sub vE [1,1,1,1]) (lq x0 x1 (pr rg) (pr rv) (.slice none 0 0) (.map<|some rm) x6 x7 x8 x9 fC gK gq lu iL qf vv x20 x59 x60 Q5 PW l7 H1)
  (f_ Pg [.tmp 4]<|Q1 (λv H'=>∃rl cs,v=.slice (some ⟨rl,0,none⟩) nn nn/\H.next<=rl/\rl<H'.next/\Bk H' rl 47 cs/\cs.length=nn*3/\∀i,i<nn->vo tn lw (Dr rcs rn<|El eG 5 i) (El cs 3 i)) H):=by
 have g5:=hG.2.2.2.2.1;have hnm:=hS.Dm hm;refine tl ?_
 repeat(first|(refine hS.aY ?_)|(refine hS.dQ ?_))
 have aiT:=hm.1;refine hS.aik (aj _) aa λH2 rl hS hx2 hrl=>?_;refine hS.ld 2 (o:=1) rfl rfl ?_;refine aF ?_;have hm:=hm.ex hx2 λh=>nomatch h;have hin:∃cs,cs.length=nn*3/\LfI tn lw rcs rn eG nn 0 cs/\SH [] H H2 [(rl,47,cs),(rv,79,[.slice va tn vc]),(rg,69,[.slice ra rn rc,.slice na nn nc])]:=⟨_,KC _ _,λi hi=>by rw[show(3:Nat)=[Value.int .i64 0,Value.int .i64 0,Value.int .i64 0].length from rfl,aeD _ _ _ hi];exact vo.zero _ _,hS⟩;refine V' 13 14 15 61 67 (I:=λm gq lu iL Q5 PW H'=>∃i cs,Q5=vn i/\i+m=nn/\qx H' rm mm/\cs.length=nn*3/\LfI tn lw rcs rn eG nn i cs/\SH [] H H' [(rl,47,cs),(rv,79,[.slice va tn vc]),(rg,69,[.slice ra rn rc,.slice na nn nc])]) ?_ nn ⟨0,hin.choose,rfl,aa,hm,hin.choose_spec.1,hin.choose_spec.2.1,hin.choose_spec.2.2⟩;clear hS hm hin;rintro m gq lu iL Q5 PW l7 H3 ⟨i,cs,rfl,him,hm,hcl,hcs,hS⟩;refine tl ?_;refine aF ?_;refine ah (λhc=>?_) λhc=>?_;rotate_left
 .refine tl ?_;refine rr ?_;exact⟨⟨rl,cs,rfl,hS.zN<|aD ..,(hS.lo _<|aD ..).2,hS.get 0 rfl,hcl,λk hk=>by have:=hcs k hk;rwa [if_pos aa]at this⟩,hS.ext⟩
 have hi:i<nn:=by omega
 obtain⟨kd,ka,kn,kc,ks,t,xa,xn,xc,at',he,_,htz,_⟩:=hR i hi;obtain⟨r2,o2,e2,hr2,hrd,_⟩:=hG.no hi nc he;rw[e2];refine aF ?_;refine hS.xZ hrd hr2 ?_;refine hS.mO rfl rfl rfl λH4 rb hS hx4=>?_;have hm:=hm.ex hx4 λh=>nomatch h;have hS:SH [] H H4 ((rb,145,[vi kd,.slice ka kn kc,.string t,.slice xa xn xc,vi at'])::[(rl,47,cs),(rv,79,[.slice va tn vc]),(rg,69,[.slice ra rn rc,.slice na nn nc])]):=hS
 have BX:∀{iL PW xD H5 cs},qx H5 rm mm->cs.length=nn*3->LfI tn lw rcs rn eG nn (i+1) cs->SH [] H H5 ((rb,145,[vi kd,.slice ka kn kc,.string t,.slice xa xn xc,vi at'])::[(rl,47,cs),(rv,79,[.slice va tn vc]),(rg,69,[.slice ra rn rc,.slice na nn nc])])->
  ∃m_1,m_1<m/\xm x0 x1 (pr rg) (pr rv) (.slice none 0 0) (.map<|some rm) x6 x7 x8 x9 fC (.slice (some ⟨rl,0,none⟩) nn nn) qf vv x20 (.slice na nn nc) (vn nn) (λm gq lu iL Q5 PW H'=>∃i cs,Q5=vn i/\i+m=nn/\qx H' rm mm/\cs.length=nn*3/\LfI tn lw rcs rn eG nn i cs/\SH [] H H' [(rl,47,cs),(rv,79,[.slice va tn vc]),(rg,69,[.slice ra rn rc,.slice na nn nc])]) m_1
   (lq x0 x1 (pr rg) (pr rv) (.slice none 0 0) (.map<|some rm) x6 x7 x8 x9 fC (.slice (some ⟨rl,0,none⟩) nn nn) (vn i) (pr rb) iL qf vv x20 (.slice na nn nc) (vn nn) (vi<|(i:Int)+1) PW xD H5):=by
  intro iL PW xD H5 cs h1 h2 h3 h4;exact⟨nn-(i+1),aa,_,_,_,_,_,_,_,rfl,i+1,cs,uN,aa,h1,h2,h3,SH.drop (A:=[_]) h4⟩
 have put:∀{H5 l}{K:Value->Value->ag->Prop},qx H5 rm mm->vo tn lw (Dr rcs rn<|El eG 5 i) l->SH [] H H5 ((rb,145,[vi kd,.slice ka kn kc,.string t,.slice xa xn xc,vi at'])::[(rl,47,cs),(rv,79,[.slice va tn vc]),(rg,69,[.slice ra rn rc,.slice na nn nc])])->
  (∀p H6 cs,qx H6 rm mm->cs.length=nn*3->LfI tn lw rcs rn eG nn (i+1) cs->SH [] H H6 ((rb,145,[vi kd,.slice ka kn kc,.string t,.slice xa xn xc,vi at'])::[(rl,47,cs),(rv,79,[.slice va tn vc]),(rg,69,[.slice ra rn rc,.slice na nn nc])])->K p undef H6)->
  PU (zH 3 (.slice (some ⟨rl,0,none⟩) nn nn)<|vn i) λp=>ME (CS 3 p (.agg ⟨l⟩) H5) (K p):=by
  intro H5 l K hm hl hS kk;refine PU.of (uB hi) ?_;rw[aI];obtain⟨k1,a1,rfl,_⟩:=id hl;have hO:=hS.base;refine hO.st 1 rfl rfl (by show i*3+3<=cs.length;omega) rfl λH6 hO6=>?_;have hne:=hS.Dm hm;refine kk _ H6 _ (hm.ex hO6.ext hne) (by rw[jr (by show i*3+3<=cs.length;omega)];exact hcl) (λk hk=>?_)<|hS.over hO6;show vo tn lw _<|El (splice cs (i*3) [vn k1,vn a1,vn 0]) 3 k;rw[E9 (es:=3) (k:=i) rfl aa];rcases fu (k=i)with e|e
  .subst e;rw[if_pos aa,if_pos rfl];exact hl
  .rw[if_neg e];have:=hcs k hk;rcases aN k i with h1|h1
   .rw[if_pos aa];rwa [if_pos h1]at this
   .rw[if_neg aa]at this;rw[if_neg aa];exact this
 repeat(first|(refine hS.aY ?_)|(refine hS.dQ ?_))
 refine ah (λhc1=>?_) λhc1=>?_
 .refine hS.dQ ?_;refine ME.adj hm MV ZI eqS λfo hf hfn=>?_;obtain⟨l,e,hl⟩:=hE.get hf hfn;rw[e];refine put hm (by rw[he];show vo tn lw (if kd=5 then _ else _) l;rw[if_pos hc1];exact hl) hS λp H6 cs h1 h2 h3 h4=>?_;refine bE ?_;exact BX h1 h2 h3 h4
 have hno:Dr rcs rn (El eG 5 i)=none:=by rw[he];exact if_neg hc1
 refine ah (λhc2=>?_) λhc2=>?_;rotate_left
 .refine bE ?_;exact BX hm hcl (hcs.old hno) hS
 refine hS.eU ?_;refine hS.dQ ?_;refine az.mono (J7 hS.wf ⟨hV.1.ex hS.ext,hV.2⟩ t) ?_;rintro v H5 ⟨⟨z,rfl,hz1,hz2⟩,hx5⟩;have hS:=hS.call hx5;have hm:=hm.ex hx5 λh=>nomatch h;refine aF ?_;refine ah (λhc3=>?_) λhc3=>?_
 .obtain⟨z,rfl⟩:∃n:Nat,z=n:=⟨z.toNat,aa⟩;refine PU.b3 rfl ?_;refine put (l:=[vi 1,vn z,vi 0]) hm (by rw[hno];exact⟨1,z,rfl,.inr<|.inl ⟨⟨rfl,aa⟩,rfl⟩⟩) hS λp H6 cs h1 h2 h3 h4=>?_;refine bE ?_;exact BX h1 h2 h3 h4
 .refine bE ?_;exact BX hm hcl (hcs.old hno) hS
theorem RO(hw:Wf H){rn:Nat}(hG:Gr b H ra rn rcs na nn eG)(hR:∀i,i<nn->ZA (b<=·) H i (El eG 5 i))(hV:Vo F H va tn vcs)(hU:UpN rn rcs):az Pg X 76 [gV ra rn rc na nn nc,vV va tn vc] H
 (Q1 (λv H'=>∃rl cs,v=.slice (some ⟨rl,0,none⟩) nn nn/\H.next<=rl/\rl<H'.next/\Bk H' rl 47 cs/\cs.length=nn*3/\∀i,i<nn->vo tn (vk rcs rn) (Dr rcs rn<|El eG 5 i) (El cs 3 i)) H):=by
 have g2:=hG.2.1;have hS:=SH.refl hw;refine ce [0,1,2,3,4,5,6,7,8,9,11,12,13,14,15,18,19,20,59,60,61,67] ?_;refine tl ?_;refine hS.box rfl λH1 rg hS=>?_;refine hS.box rfl λH2 rv hS=>?_;have hge:=hS.ext.next
 refine ME.ZG hS MV λH3 rm hm hx3 hrm hS=>?_;have hrm:H.next<=rm:=by omega
 repeat(first|(refine hS.aY ?_)|(refine hS.dQ ?_))
 refine lp6 6 7 8 9 11 20 (I:=λm x6 x7 x8 x9 fC x20 H'=>∃i mm,x6=vn (vk rcs i)/\x20=vn i/\i+m=rn/\qx H' rm mm/\zy tn (vk rcs rn) rcs i mm/\SH [] H H' [(rv,79,[.slice va tn vc]),(rg,69,[.slice ra rn rc,.slice na nn nc])]) ?_ rn ⟨0,[],rfl,rfl,aa,hm,⟨λp h=>(nomatch h),λt h=>absurd rfl h⟩,hS⟩;clear hS hm;rintro m x6 x7 x8 x9 fC x20 l7 H4 ⟨i,mm,rfl,rfl,him,hm,hE,hS⟩;refine tl ?_;refine aF ?_;refine ah (λhc=>?_) λhc=>?_;rotate_left
 .obtain rfl:i=rn:=by omega
  exact aeE hG hR hV hm hE hS
 have hi:i<rn:=by omega
 obtain⟨r1,o1,tQ,u1,f1,w1,c1,a1,e1,hl1,xw,qP,hsz,hel⟩:=hG.ru hi rc;rw[e1];refine aF ?_;refine hS.xZ xw hl1 ?_;refine hS.mO rfl rfl rfl λH5 ru hS hx5=>?_;have hm:=hm.ex hx5 λh=>nomatch h;refine PU.b3 rfl ?_;refine hS.mO rfl rfl rfl λH6 re hS hx6=>?_;have hm:=hm.ex hx6 λh=>nomatch h;have hS:SH [] H H6 [(re,47,[vi 2,vn<|vk rcs i,vi 0]),(ru,141,sZ tQ u1 f1 w1 c1 (rootOf rcs i) a1),(rv,79,[.slice va tn vc]),(rg,69,[.slice ra rn rc,.slice na nn nc])]:=hS;have hlow:vk rcs (i+1)=vk rcs i+(if vI rcs i=true then 0 else 1):=rfl;have hup:=BK hel;have hnm:B6 rcs i=tQ:=by unfold B6;rw[hel];rfl
 rw[hup]at hlow;have hmo:=Fu rcs (show i+1<=rn by omega);have ail:=T6 rcs i
 repeat(first|(refine hS.aY ?_)|(refine hS.dQ ?_))
 refine bO (λhb=>?_) λhb=>?_
 .rw[if_pos hb]at hlow;refine hS.eU ?_;refine az.mono (RL hS.wf ⟨hV.1.ex hS.ext,hV.2⟩ i) ?_;rintro v H7 ⟨⟨z,rfl,hz1,hz2⟩,hx7⟩;have hS:=hS.call hx7;have hm:=hm.ex hx7 λh=>nomatch h;refine PU.b3 rfl ?_;have hO:=hS.base;refine hO.st 0 rfl rfl (aj 3) rfl λH8 hO8=>?_;have hm:=hm.ex hO8.ext<|hS.Dm hm;have hS:SH [] H H8 [(re,47,[vi 1,vi z,vi 0]),(ru,141,sZ tQ u1 f1 w1 c1 (rootOf rcs i) a1),(rv,79,[.slice va tn vc]),(rg,69,[.slice ra rn rc,.slice na nn nc])]:=hS.over hO8
  refine ZJ hrm hm hE hU hi hnm (λh0 h1=>by
   obtain⟨z,rfl⟩:∃n:Nat,z=n:=⟨z.toNat,aa⟩
   have h2:mV (Gh rcs) tQ (i+1)=none:=by
    rw[sV (.inr<|.inr<|hup.trans hb)];rcases fu (mV (Gh rcs) tQ i=none)with e|e
    .exact e
    .obtain⟨p,h3,h4⟩:=hE.2 _ e;exact absurd h4<|h1 p h3
   rw[h2];exact⟨1,z,rfl,.inr<|.inl ⟨⟨rfl,aa⟩,rfl⟩⟩) (λ_=>hup.trans hb) hS λfC We xD H9 g1 g2 g3=>?_
  refine aF ?_;refine tl ?_;refine bE ?_;exact⟨rn-(i+1),aa,_,_,_,_,_,_,_,_,rfl,i+1,We,by rw[hlow];rfl,uN,aa,g1,g2,g3⟩
 .rw[if_neg (by rw[hb];simp)]at hlow;refine bE ?_;rw[show((vk rcs i:Int)+1)=((vk rcs (i+1):Nat):Int) by omega]
  refine ZJ hrm hm hE hU hi hnm (λh0 h1=>⟨2,vk rcs i,rfl,.inr (.inr ⟨⟨rfl,aa⟩,Ey (by
   rcases fu (mV (Gh rcs) tQ i=none)with e|e
   .exact e
   .obtain⟨p,h3,h4⟩:=hE.2 _ e;exact absurd h4<|h1 p h3) hnm (hup.trans hb)⟩)⟩) (λh=>absurd (Int.natCast_nonneg _) h) hS λfC We xD H9 g1 g2 g3=>?_
  refine aF ?_;refine tl ?_;refine bE ?_;exact⟨rn-(i+1),aa,_,_,_,_,_,_,_,_,rfl,i+1,We,rfl,uN,aa,g1,g2,g3⟩
end
section
variable{S:List Nat}{F:Nat->Prop}
def RP(F:Nat->Prop)(H:ag)(nn:Nat)(eG:List Value)(kd:Nat->Int)(zs:Nat->List Nat):Prop:=∀i,i<nn->∃(a:Option Addr)(c:Nat)(t:ByteArray)(xa:Option Addr)(xn xc:Nat)(at':Int),El eG 5 i=[vi (kd i),.slice a (zs i).length c,.string t,.slice xa xn xc,vi at']/\jT F 3 H a (zs i).length 1 (fG<|zs i)/\KZ (kd i) (zs i).length/\(∀z∈zs i,z<i)/\t.size<=1000000/\(zs i).length<=20001
theorem RP.of{nd:List PN}(hn:nn=nd.length)(hX:∀i x,nd[i]?=some x->TW F H (El eG 5 i) x)(h:∀i,i<nn->ZA F H i (El eG 5 i)):RP F H nn eG (λi=>(l8 nd i).1) λi=>(l8 nd i).2.1:=by
 intro i hi;have hx:nd[i]?=some (l8 nd i):=by unfold l8;rw[ae aa];rfl
 obtain⟨a,c,t,rs,at',e,h1,h2,h3,h4,h5⟩:=hX i _ hx;obtain⟨kd,a',n,c',ks,t',xa,xn,xc,at2,e',g1,g2,g3,g4,g5⟩:=h i hi;rw[e]at e';cases e';refine⟨a,c,t,xa,xn,xc,at',e,h1,g4,λz hz=>?_,h4,h2⟩;obtain⟨y,h6,h7⟩:=g5 (vn z)<|Fl.uniq h1.1 g3.1▸aZ.2 ⟨z,hz,rfl⟩;cases h6;exact h7
def W(ws:List Nat)(i:Nat):Nat:=ws[i]?.getD 0
def Bb(kd:Int):Nat:=if kd=0 then 2 else if kd=1 then 0 else if kd=2\/kd=3\/kd=4 then 3 else 1
def Ez(kd:Int):Nat:=if kd=0 then 1 else 0
def mh(ws:List Nat)(kd:Int)(l:List Nat):Nat:=(l.map λz=>W ws z+Ez kd).sum
def Dt(kd:Nat->Int)(zs:Nat->List Nat)(ws:List Nat)(i:Nat):Prop:=W ws i=min (Bb (kd i)+mh ws (kd i) (zs i)) 4001
def B(bs:List Bool)(i:Nat):Bool:=bs[i]?.getD false
def LfK(lcs:List Value)(kd:Nat->Int)(i:Nat):Prop:=Bb (kd i)=1->∃k:Nat,k≠0/\(El lcs 3 i)[0]?=some (vn k)
def Jp(lcs:List Value)(kd:Nat->Int)(zs:Nat->List Nat)(bs:List Bool)(i:Nat):Prop:=B bs i=true->LfK lcs kd i/\∀z∈zs i,B bs z=true
theorem ZK{z:Nat}(h:z≠i):B (bs.set i x) z=B bs z:=by
 unfold B;rw[bV,if_neg λe=>h e.symm]
theorem aeF(h:i<bs.length):B (bs.set i x) i=x:=by
 unfold B;rw[bV,if_pos rfl,if_pos h];rfl
theorem adm{ws:List Nat}{x z:Nat}(h:z≠i):W (ws.set i x) z=W ws z:=by
 unfold W;rw[bV,if_neg λe=>h e.symm]
theorem aeG{ws:List Nat}{x:Nat}(h:i<ws.length):W (ws.set i x) i=x:=by
 unfold W;rw[bV,if_pos rfl,if_pos h];rfl
theorem Pz{ws:List Nat}{x:Nat}{kd:Int}{l:List Nat}(h:∀z∈l,z<i):mh (ws.set i x) kd l=mh ws kd l:=by
 unfold mh;congr 1;apply nV;intro z hz;rw[adm (by have:=h z hz;omega)]
theorem agW{ws:List Nat}(h:Dt kd zs ws i):W ws i<=4001:=by
 unfold Dt at h;omega
theorem aim{rs rr rn rb:Nat}{xn xc:Nat}{at':Int}{ws:List Nat}{ok:Bool}(hnn:nn<=4000)(hi:i<nn)(hwl:ws.length=nn)(hbl:bs.length=nn)(hf:jT F 3 H a (zs i).length 1<|fG<|zs i)(hzz:∀j,j<nn->∀z∈zs j,z<j)(hzl:(zs i).length<=20001)(hok:ok=true->LfK lcs kd i)(hd:∀j,j<i->Dt kd zs ws j/\Jp lcs kd zs bs j)(hS:SH [] H H1 [(rb,145,[vi (kd i),.slice a (zs i).length c,.string t,.slice xa xn xc,vi at']),(rr,4,bools bs),(rs,3,fG ws),(rg,69,[.slice ra rn rc,.slice na nn nc])]){x24 x25 x31 Mm Gu C8:Value}{K:Out->Prop}(kk:∀dR fC gq Mm Gu C8 ws' bs' xD H',ws'.length=nn->bs'.length=nn->(∀j,j<i+1->Dt kd zs ws' j/\Jp lcs kd zs bs' j)->SH [] H H' [(rb,145,[vi (kd i),.slice a (zs i).length c,.string t,.slice xa xn xc,vi at']),(rr,4,bools bs'),(rs,3,fG ws'),(rg,69,[.slice ra rn rc,.slice na nn nc])]->
  K (.norm<|oC x0 x1 (pr rg) x4 x5 (.slice (some ⟨rs,0,none⟩) nn nn) (.slice (some ⟨rr,0,none⟩) nn nn) (vn i) (pr rb) dR fC gq yj x24 x25 x31 Mm Gu C8 xD H')):
 dJ Pg X (sub j5 [1,1,1,0,1,0,0,1,1,0,0,1,1,1]) (oC x0 x1 (pr rg) x4 x5 (.slice (some ⟨rs,0,none⟩) nn nn) (.slice (some ⟨rr,0,none⟩) nn nn) (vn i) (pr rb) (vn<|Bb<|kd i) (.bool ok) gq yj x24 x25 x31 Mm Gu C8 l7 H1) K:=by
 have hz:=hzz i hi;have aiU:Bb (kd i)<=3:=by unfold Bb;split<;>(try split)<;>(try split)<;>omega
 refine tl ?_
 repeat(first|(refine hS.aY ?_)|(refine hS.dQ ?_))
 refine PV 10 11 13 51 (I:=λm dR fC gq C8 H'=>∃(k:Nat)(o:Bool),C8=vn k/\k+m=(zs i).length/\dR=vn (min (Bb (kd i)+mh ws (kd i) ((zs i).take k)) 4001)/\fC=.bool o/\(o=true->ok=true/\∀z∈(zs i).take k,B bs z=true)/\SH [] H H' [(rb,145,[vi (kd i),.slice a (zs i).length c,.string t,.slice xa xn xc,vi at']),(rr,4,bools bs),(rs,3,fG ws),(rg,69,[.slice ra rn rc,.slice na nn nc])]) ?_ (zs i).length ⟨0,ok,rfl,aa,by rw[rW,show mh ws (kd i) []=0 from rfl,bn,je aa];rfl,rfl,λh=>⟨h,by simp⟩,hS⟩;clear hS;rintro m dR fC gq C8 l7 H2 ⟨k,o,rfl,hkm,rfl,rfl,ho,hS⟩;refine tl ?_;refine aF ?_;refine ah (λhc=>?_) λhc=>?_;rotate_left
 .obtain rfl:k=(zs i).length:=by omega
  rw[kL]at ho|-;refine tl ?_;refine aF ?_;rw[show min ((min (Bb (kd i)+mh ws (kd i) (zs i)) 4001:Nat):Int) 4001=((min (Bb (kd i)+mh ws (kd i) (zs i)) 4001:Nat):Int) by omega];refine hS.ixS hi (by simpa using(by omega:i<ws.length)) (kk:=λp H3 hS=>?_);refine hS.ixS hi (by simpa using(by omega:i<bs.length)) (kk:=λp H4 hS=>?_);have e1:(fG ws).set i (vn<|min (Bb (kd i)+mh ws (kd i) (zs i)) 4001)=fG (ws.set i<|min (Bb (kd i)+mh ws (kd i) (zs i)) 4001):=jH.symm;have e2:(bools bs).set i (.bool o)=bools (bs.set i o):=jH.symm;rw[e1,e2]at hS;refine kk _ _ _ _ _ _ _ _ _ _ (by rw[bJ];exact hwl) (by rw[bJ];exact hbl) (λj hj=>?_) hS;unfold Dt Jp;rcases aN j i with h|h
  .rw[adm aa,Pz λz hz'=>Nat.lt_trans (hzz j aa z hz') h,ZK aa];exact⟨(hd j h).1,λhb=>⟨((hd j h).2 hb).1,λz hz'=>by rw[ZK (by have:=hzz j aa z hz';omega)];exact((hd j h).2 hb).2 z hz'⟩⟩
  .obtain rfl:j=i:=by omega
   rw[aeG aa,Pz hz,aeF aa];exact⟨rfl,λhb=>⟨hok (ho hb).1,λz hz'=>by rw[ZK (by have:=hz z hz';omega)];exact(ho hb).2 z hz'⟩⟩
 have hk:k<(zs i).length:=by omega
 have LK:(zs i)[k]?=some (zs i)[k]:=ae hk;have hzi:=hz _<|bF hk;refine(hf.ex hS.ext).ix hk (oz _ LK) λp=>?_;have hzn:(zs i)[k]<nn:=by omega
 have hks:mh ws (kd i) ((zs i).take<|k+1)=mh ws (kd i) ((zs i).take k)+(W ws (zs i)[k]+Ez (kd i)):=by
  unfold mh;rw[ji,LK];show(List.map _<|_++[_]).sum=_;rw[dw,lC];rfl
 generalize(zs i)[k]=z at LK hzi hzn hks|-;have hwz:W ws z<=4001:=agW (hd z hzi).1
 have hwv:(fG ws)[z]?=some (vn<|W ws z):=by
  rw[aR,ae (show z<ws.length by omega)];show _=some (vn<|ws[z]?.getD 0);rw[ae (show z<ws.length by omega)];rfl
 obtain⟨bz,hbz⟩:∃b,bs[z]?=some b:=⟨_,ae aa⟩;have hBz:B bs z=bz:=by unfold B;rw[hbz];rfl
 refine hS.ix hzn hwv λp=>?_;refine bE ?_;refine hS.dQ ?_;refine hS.aY ?_
 have fin:∀(T:Int),T=((min (Bb (kd i)+mh ws (kd i) ((zs i).take k)) 4001:Nat):Int)+(W ws z:Int)+(Ez (kd i):Int)->∀l7,dJ Pg X (sub j5 [1,1,1,0,1,0,0,1,1,0,0,1,1,1,0,1,0,0,1,1,0,0,1,1,1]) (oC x0 x1 (pr rg) x4 x5 (.slice (some ⟨rs,0,none⟩) nn nn) (.slice (some ⟨rr,0,none⟩) nn nn) (vn i) (pr rb) (vi T) (.bool o) (vn z) yj x24 x25 x31 (.slice a (zs i).length c) (vn (zs i).length) (vn k) l7 H2)
  (j3 4<|nR Pg X (sub j5 [1,1,1,0,1,0,0,1,1,0,0,1,1,1,0,1,0,0,1,1,1])<|Ah (uG x0 x1 (pr rg) x4 x5 (.slice (some ⟨rs,0,none⟩) nn nn) (.slice (some ⟨rr,0,none⟩) nn nn) (vn i) (pr rb) yj x24 x25 x31 (.slice a (zs i).length c) (vn (zs i).length) λm dR fC gq C8 H'=>∃(k:Nat)(o:Bool),C8=vn k/\k+m=(zs i).length/\dR=vn (min (Bb (kd i)+mh ws (kd i) ((zs i).take k)) 4001)/\fC=.bool o/\(o=true->ok=true/\∀z∈(zs i).take k,B bs z=true)/\SH [] H H' [(rb,145,[vi (kd i),.slice a (zs i).length c,.string t,.slice xa xn xc,vi at']),(rr,4,bools bs),(rs,3,fG ws),(rg,69,[.slice ra rn rc,.slice na nn nc])]) m<|j3 3<|nR Pg X (sub j5 [1,1,1,0,1,0,0,1,1,0,0,1,1,1,1]) K):=by
  intro T hT l7;refine tl ?_;refine aF ?_;have eT:min T 4001=((min (Bb (kd i)+mh ws (kd i) ((zs i).take<|k+1)) 4001:Nat):Int):=by rw[hT,hks];omega
  rw[eT];refine bO (λhb=>?_) λhb=>?_
  .refine hS.ix (v:=.bool bz) hzn (oz _ hbz) λp=>?_;refine tl ?_;refine bE ?_
   exact⟨(zs i).length-(k+1),aa,_,_,_,_,_,_,rfl,k+1,bz,uN,aa,rfl,rfl,λh=>⟨(ho hb).1,λy hy=>by
    rw[ji,LK,bX]at hy;rcases hy with hy|hy
    .exact(ho hb).2 y hy
    .obtain rfl:=aO.1 hy;exact hBz.trans h⟩,hS⟩
  .refine tl ?_;refine bE ?_;exact⟨(zs i).length-(k+1),aa,_,_,_,_,_,_,rfl,k+1,false,uN,aa,rfl,rfl,(λh=>by cases h),hS⟩
 refine ah (λhc2=>?_) λhc2=>?_
 .refine bE ?_;exact fin _ (by unfold Ez;rw[if_pos hc2];rfl) _
 .exact fin _ (by unfold Ez;rw[if_neg hc2];rfl) _
theorem RQ(hw:Wf H){rl:Nat}{rn:Nat}{lc:Nat}(hG:Gr b H ra rn rcs na nn eG)(hNd:RP F H nn eG kd zs)(hl:Bk H rl 47 lcs)(hlr:rl<H.next)(hll:lcs.length=nn*3){G9:Nat->Option Nat}(hlp:∀i,i<nn->vo tn lw (G9 i) (El lcs 3 i)):
 az Pg X 77 [gV ra rn rc na nn nc,.slice (some ⟨rl,0,none⟩) nn lc] H (Q1 (λv H'=>∃rs rr ws bs,v=.tuple ⟨[.slice (some ⟨rs,0,none⟩) nn nn,.slice (some ⟨rr,0,none⟩) nn nn]⟩/\(H.next<=rs/\rs<H'.next)/\(H.next<=rr/\rr<H'.next)/\Bk H' rs 3 (fG ws)/\Bk H' rr 4 (bools bs)/\ws.length=nn/\bs.length=nn/\∀j,j<nn->Dt kd zs ws j/\Jp lcs kd zs bs j) H):=by
 have g5:=hG.2.2.2.2.1;have hzz:∀j,j<nn->∀z∈zs j,z<j:=λj hj=>by obtain⟨_,_,_,_,_,_,_,_,_,_,h,_⟩:=hNd j hj;exact h
 have hS:=SH.refl hw;refine ce [0,1,2,4,5,6,7,8,9,10,11,13,23,24,25,31,49,50,51] ?_;refine tl ?_;refine hS.box rfl λH1 rg hS=>?_
 repeat(first|(refine hS.aY ?_)|(refine hS.dQ ?_))
 refine hS.mkS (aj _) aa λH2 rs hS=>?_;rw[pN]at hS;refine hS.dQ ?_;refine hS.aY ?_;refine hS.mkS (aj _) aa λH3 rr hS=>?_;rw[pN]at hS;refine hS.dQ ?_;refine hS.aY ?_;have hz:List.replicate nn (Value.int .i64 0)=fG (List.replicate nn 0):=by simp
 have hb:List.replicate nn (Value.bool false)=bools (List.replicate nn false):=by simp
 rw[hz,hb]at hS;have hS:SH [] H H3 [(rr,4,bools<|List.replicate nn false),(rs,3,fG<|List.replicate nn 0),(rg,69,[.slice ra rn rc,.slice na nn nc])]:=hS;refine aed 8 9 10 11 13 25 31 49 50 51 (I:=λm x8 x9 dR fC gq x25 x31 Mm Gu C8 H'=>∃i ws bs,x25=vn i/\i+m=nn/\ws.length=nn/\bs.length=nn/\(∀j,j<i->Dt kd zs ws j/\Jp lcs kd zs bs j)/\SH [] H H' [(rr,4,bools bs),(rs,3,fG ws),(rg,69,[.slice ra rn rc,.slice na nn nc])]) ?_ nn ⟨0,_,_,rfl,aa,by simp,by simp,λj h=>absurd h aa,hS⟩;clear hS hz hb;rintro m x8 x9 dR fC gq x25 x31 Mm Gu C8 l7 H4 ⟨i,ws,bs,rfl,him,hwl,hbl,hd,hS⟩;refine tl ?_;refine aF ?_;refine ah (λhc=>?_) λhc=>?_;rotate_left
 .refine tl ?_;obtain rfl:i=nn:=by omega
  refine Lu.rr ?_;exact⟨⟨rs,rr,ws,bs,rfl,⟨hS.zN<|aA (i:=1) rfl,(hS.lo _<|aA (i:=1) rfl).2⟩,⟨hS.zN<|aD ..,(hS.lo _<|aD ..).2⟩,hS.get 1 rfl,hS.get 0 rfl,hwl,hbl,hd⟩,hS.ext⟩
 have hi:i<nn:=by omega
 obtain⟨a,c,t,xa,xn,xc,at',he,hf,hfit,_,htz,hzl⟩:=hNd i hi;obtain⟨r2,o2,e2,hr2,hrd,_⟩:=hG.no hi nc he;rw[e2];refine aF ?_;refine hS.xZ hrd hr2 ?_;refine hS.mO rfl rfl rfl λH5 rb hS hx5=>?_;have hS:SH [] H H5 [(rb,145,[vi (kd i),.slice a (zs i).length c,.string t,.slice xa xn xc,vi at']),(rr,4,bools bs),(rs,3,fG ws),(rg,69,[.slice ra rn rc,.slice na nn nc])]:=hS
 repeat(first|(refine hS.aY ?_)|(refine hS.dQ ?_))
 have fin:∀(ok:Bool){dR:Value},dR=vn (Bb<|kd i)->(ok=true->LfK lcs kd i)->∀{l7},dJ Pg X (sub j5 [1,1,1,0,1,0,0,1,1,0,0,1,1,1]) (oC (gV ra rn rc na nn nc) (.slice (some ⟨rl,0,none⟩) nn lc) (pr rg) (.slice none 0 0) (.slice none 0 0) (.slice (some ⟨rs,0,none⟩) nn nn) (.slice (some ⟨rr,0,none⟩) nn nn) (vn i) (pr rb) dR (.bool ok) gq (.slice na nn nc) (vn nn) (vn i) (vi<|kd i) Mm Gu C8 l7 H5)
  (j3 1<|nR Pg X (sub j5 [1,1,1,0,1,0,0,1,1,1])<|Ah (vK (gV ra rn rc na nn nc) (.slice (some ⟨rl,0,none⟩) nn lc) (pr rg) (.slice none 0 0) (.slice none 0 0) (.slice (some ⟨rs,0,none⟩) nn nn) (.slice (some ⟨rr,0,none⟩) nn nn) (.slice na nn nc) (vn nn) λm x8 x9 dR fC gq x25 x31 Mm Gu C8 H'=>∃i ws bs,x25=vn i/\i+m=nn/\ws.length=nn/\bs.length=nn/\(∀j,j<i->Dt kd zs ws j/\Jp lcs kd zs bs j)/\SH [] H H' [(rr,4,bools bs),(rs,3,fG ws),(rg,69,[.slice ra rn rc,.slice na nn nc])]) m<|j3 0<|nR Pg X (sub j5 [1,1,1,1])<|f_ Pg [.tmp 4,.tmp 5]<|Q1 (λv H'=>∃rs rr ws bs,v=.tuple ⟨[.slice (some ⟨rs,0,none⟩) nn nn,.slice (some ⟨rr,0,none⟩) nn nn]⟩/\(H.next<=rs/\rs<H'.next)/\(H.next<=rr/\rr<H'.next)/\Bk H' rs 3 (fG ws)/\Bk H' rr 4 (bools bs)/\ws.length=nn/\bs.length=nn/\∀j,j<nn->Dt kd zs ws j/\Jp lcs kd zs bs j) H):=by
  intro ok dR e10 hok l7;subst e10;refine aim g5 hi hwl hbl hf hzz hzl hok hd hS λdR fC gq Mm Gu C8 ws' bs' xD H' h1 h2 h3 h4=>?_;refine aF ?_;refine tl ?_;refine bE ?_;exact⟨nn-(i+1),aa,_,_,_,_,_,_,_,_,_,_,_,_,rfl,i+1,ws',bs',uN,aa,h1,h2,h3,SH.drop (A:=[_]) h4⟩
 have leaf:∀(b:Bool){fC:Value}{ok:Bool}{l7},fC=.bool ok->(b=true->Bb (kd i)=1)->(b=false->Bb (kd i)=0)->BA l7 38=.bool b->dJ Pg X (sub j5 [1,1,1,0,1,0,0,1,1,0,0,1,1,0,1,0,1,1,1,1,1]) (oC (gV ra rn rc na nn nc) (.slice (some ⟨rl,0,none⟩) nn lc) (pr rg) (.slice none 0 0) (.slice none 0 0) (.slice (some ⟨rs,0,none⟩) nn nn) (.slice (some ⟨rr,0,none⟩) nn nn) (vn i) (pr rb) (vn 0) fC gq (.slice na nn nc) (vn nn) (vn i) (vi<|kd i) Mm Gu C8 l7 H5)
  (j3 2<|nR Pg X (sub j5 [1,1,1,0,1,0,0,1,1,0,0,1,1,1])<|j3 1<|nR Pg X (sub j5 [1,1,1,0,1,0,0,1,1,1])<|Ah (vK (gV ra rn rc na nn nc) (.slice (some ⟨rl,0,none⟩) nn lc) (pr rg) (.slice none 0 0) (.slice none 0 0) (.slice (some ⟨rs,0,none⟩) nn nn) (.slice (some ⟨rr,0,none⟩) nn nn) (.slice na nn nc) (vn nn) λm x8 x9 dR fC gq x25 x31 Mm Gu C8 H'=>∃i ws bs,x25=vn i/\i+m=nn/\ws.length=nn/\bs.length=nn/\(∀j,j<i->Dt kd zs ws j/\Jp lcs kd zs bs j)/\SH [] H H' [(rr,4,bools bs),(rs,3,fG ws),(rg,69,[.slice ra rn rc,.slice na nn nc])]) m<|j3 0<|nR Pg X (sub j5 [1,1,1,1])<|f_ Pg [.tmp 4,.tmp 5]<|Q1 (λv H'=>∃rs rr ws bs,v=.tuple ⟨[.slice (some ⟨rs,0,none⟩) nn nn,.slice (some ⟨rr,0,none⟩) nn nn]⟩/\(H.next<=rs/\rs<H'.next)/\(H.next<=rr/\rr<H'.next)/\Bk H' rs 3 (fG ws)/\Bk H' rr 4 (bools bs)/\ws.length=nn/\bs.length=nn/\∀j,j<nn->Dt kd zs ws j/\Jp lcs kd zs bs j) H):=by
  intro b fC ok l7 e11 hb1 hb0 hlk;subst e11;refine tl ?_;rw[hlk];refine bO (λhb=>?_) λhb=>?_
  .obtain⟨k1,a1,hle,_⟩:=hlp i hi;refine PU.of (uB hi) ?_;refine aF ?_
   have hcell:H.cell rl (i*3)=some (vn k1):=by
    refine hl.cell ?_;have:=bW (λl=>l[0]?) hle;simp only[j4]at this;simpa using this
   refine hS.JR hcell hlr ?_;refine hS.aY ?_;refine wS ?_;exact fin _ (by rw[hb1 hb];rfl) λhk _=>⟨k1,by intro e;subst e;simp at hk,by rw[hle];rfl⟩
  .refine aF ?_;exact fin ok (by rw[hb0 hb]) λ_ h=>by rw[hb0 hb]at h;cases h
 refine ah (λh0=>?_) λh0=>?_
 .exact fin true (by unfold Bb;rw[if_pos h0];rfl) λ_ h=>by unfold Bb at h;rw[if_pos h0]at h;cases h
 have b3:kd i=2\/kd i=3\/kd i=4->Bb (kd i)=3:=λh=>by unfold Bb;rw[if_neg aa,if_neg aa,if_pos h]
 have b1:kd i=5\/kd i=6\/kd i=7->Bb (kd i)=1:=λh=>by unfold Bb;rw[if_neg aa,if_neg aa,if_neg aa]
 refine ah (λh2=>?_) λh2=>?_
 .refine tl ?_;refine aF ?_;refine ah (λ_=>?_) λh=>absurd h2 h;exact fin true (by rw[b3 aa]<;>rfl) λ_ h=>by rw[b3 aa]at h;cases h
 refine ah (λh3=>?_) λh3=>?_
 .refine tl ?_;refine aF ?_;refine ah (λ_=>?_) λh=>absurd h3 h;exact fin true (by rw[b3 aa]<;>rfl) λ_ h=>by rw[b3 aa]at h;cases h
 refine tl ?_;refine aF ?_;refine ah (λh4=>?_) λh4=>?_
 .exact fin true (by rw[b3 aa]<;>rfl) λ_ h=>by rw[b3 aa]at h;cases h
 refine ah (λh5=>?_) λh5=>?_
 .exact leaf (decide<|kd i=5) rfl (λ_=>b1 aa) (λh=>absurd h5<|eD h) rfl
 refine ah (λh6=>?_) λh6=>?_
 .exact leaf (decide<|kd i=6) rfl (λ_=>b1 aa) (λh=>absurd h6<|eD h) rfl
 exact leaf (decide<|kd i=7) rfl (λh=>b1 (by have:=cZ h;omega)) (λh=>by
  have h7:=eD h;have:kd i=1:=by rcases hfit with h|h|h|h<;>omega
  unfold Bb;rw[if_neg h0,if_pos this]) rfl
end
section
open Go.Ae
def on(mk:List Bool)(s:Nat):Prop:=mk[s]?=some true
theorem agX(h:on mk s):s<mk.length:=(aL.1 h).1
theorem Du{t:Nat}(hs:s<mk.length):on (mk.set s true) t<->s=t\/on mk t:=by
 unfold on;rw[bV]
 by_cases h:s=t
 .subst h;simp[hs]
 .simp[h]
def off:List Bool->Nat
 |[]=>0
 |b::l=>(if b=true then 0 else 1)+off l
theorem T7:∀{mk:List Bool}{s:Nat},mk[s]?=some false->off (mk.set s true)+1=off mk
 |[],s,h=>by simp at h
 |b::l,0,h=>by
  simp at h;subst h;simp[off];omega
 |b::l,s+1,h=>by
  have:=T7 (mk:=l) (s:=s) (by simpa using h);simp only[ik,off];omega
theorem T8:∀n,off (List.replicate n false)=n
 |0=>rfl
 |n+1=>by
  have:=T8 n;rw[List.replicate_succ];simp[off,this];omega
structure MJ(n:Nat)(Q P:Nat->Prop)(mk:List Bool)(nx:List Nat):Prop where
 len:mk.length=n
 snd:∀s,on mk s->Q s
 cov:∀s,on mk s->s∈nx\/P s
 pon:∀s,P s->on mk s
 nxo:∀s∈nx,on mk s
def mu(mk:List Bool)(nx:List Nat):Nat:=2*off mk+nx.length
variable{Q P:Nat->Prop}{nx:List Nat}
theorem MJ.nil(n:Nat)(Q:Nat->Prop):MJ n Q (λ_=>False) (List.replicate n false) []:=by
 refine⟨by simp,?_,?_,λs h=>h.elim,λs h=>nomatch h⟩<;>
 .intro s h;unfold on at h;rw[o8]at h;split at h<;>simp at h
theorem MJ.mark(h:MJ n Q P mk nx)(hs:mk[s]?=some false)(hq:Q s):MJ n Q P (mk.set s true) (nx++[s])/\on (mk.set s true) s/\(∀t,on mk t->on (mk.set s true) t)/\mu (mk.set s true) (nx++[s])+1=mu mk nx:=by
 have hl:=(aL.1 hs).1;refine⟨⟨by rw[bJ];exact h.len,λt ht=>?_,λt ht=>?_,λt ht=>(Du hl).2<|.inr<|h.pon t ht,λt ht=>?_⟩,(Du hl).2<|.inl rfl,λt ht=>(Du hl).2<|.inr ht,?_⟩
 .rcases(Du hl).1 ht with rfl|ht
  .exact hq
  .exact h.snd t ht
 .rcases(Du hl).1 ht with rfl|ht
  .exact .inl (by simp)
  .exact(h.cov t ht).imp_left λg=>bI _ g
 .rcases bX.1 ht with ht|ht
  .exact(Du hl).2<|.inr<|h.nxo t ht
  .exact(Du hl).2<|.inl (aO.1 ht).symm
 .have:=T7 hs;unfold mu;rw[ay];show _+(nx.length+1)+1=_;omega
theorem MJ.pop(h:MJ n Q P mk<|nx++[s]):MJ n Q (λt=>P t\/t=s) mk nx:=by
 refine⟨h.len,h.snd,λt ht=>?_,λt ht=>?_,λt ht=>h.nxo t<|bI _ ht⟩
 .rcases h.cov t ht with h1|h1
  .rcases bX.1 h1 with h1|h1
   .exact .inl h1
   .exact .inr<|.inr<|aO.1 h1
  .exact .inr<|.inl h1
 .rcases ht with ht|rfl
  .exact h.pon t ht
  .exact h.nxo _ (by simp)
theorem aeH(mk:List Bool)(nx:List Nat)(s:Nat):mu mk nx+1=mu mk (nx++[s]):=by
 unfold mu;rw[ay];rfl
theorem MJ.wk(h:MJ n Q P mk nx)(hp:∀t,P t<->P' t):MJ n Q P' mk nx:=
 ⟨h.len,h.snd,λt ht=>(h.cov t ht).imp_right (hp t).1,λt ht=>h.pon t<|(hp t).2 ht,h.nxo⟩
namespace At
variable{A:At}{tok:Bool}
def T9(tok:Bool)(e:Ed):Prop:=e.1=1->tok=true
def Clo(A:At)(tok:Bool)(P:Nat->Prop)(mk:List Bool):Prop:=∀s e,e∈A.E s->T9 tok e->P e.2.2->(e.1=2->P (A.S e.2.1))->on mk s
theorem Clo.step{cur:Nat}{mk':List Bool}(h:A.Clo tok P mk)(hm:∀t,on mk t->on mk' t)(h1:∀s e,e∈A.E s->T9 tok e->e.2.2=cur->(e.1=2->P (A.S e.2.1)\/A.S e.2.1=cur)->on mk' s)(h2:∀s e,e∈A.E s->e.1=2->A.S e.2.1=cur->(P e.2.2\/e.2.2=cur)->on mk' s):A.Clo tok (λt=>P t\/t=cur) mk':=by
 intro s e he hk ht hc;rcases ht with ht|ht
 .by_cases hc2:e.1=2/\A.S e.2.1=cur
  .exact h2 s e he hc2.1 hc2.2<|.inl ht
  .refine hm s (h s e he hk ht λhk2=>?_);rcases hc hk2 with h3|h3
   .exact h3
   .exact absurd ⟨hk2,h3⟩ hc2
 .exact h1 s e he hk ht hc
theorem abL(ho:A.Ok)(h:MJ A.ns (A.Mk tok) P mk [])(hc:A.Clo tok P mk)(hp:∀r,r<A.nr->on mk (A.P r))(s:Nat):on mk s<->A.Mk tok s:=by
 refine⟨h.snd s,λhm=>?_⟩;have hP:∀t,on mk t->P t:=λt ht=>(h.cov t ht).resolve_left λg=>nomatch g
 induction hm with
 |stop r hr=>exact hp r hr
 |edge s e he ht _ _ ih1 ih2=>exact hc s e he ht (hP _ ih2) λhk=>hP _<|ih1 hk
end At
end
end Go.Proofs.Lu
namespace Go.Proofs.Lv
open Go.Proofs.Lu
open Go.Ae Go.Ae.M
variable{K:Value->Value->ag->Prop}{D D':Nat->Ed->Prop}{key:Ed->Nat}{cs vs:List Value}{c c' es i k n o r rg s t:Nat}{a ca ia:Option Addr}{ty:TypeId}{mk mk':List Bool}{L L' M gb:List cz}{A:At}{l:List (Nat×Ed)}{e:Ed}{H H' H0:ag}{nx':List Nat}{F' Q:Nat->Prop}
section
variable{S:List Nat}{F:Nat->Prop}
def He:List Ed->List Value
 |[]=>[]
 |e::l=>vn e.1::vn e.2.1::vn e.2.2::He l
theorem MW:∀l,(He l).length=l.length*3
 |[]=>rfl
 |e::l=>by
  have:=MW l;simp only[He,bH];omega
theorem T_:∀l l',He (l++l')=He l++He l'
 |[],l'=>rfl
 |e::l,l'=>by simp only[a_,He,T_ l l']
theorem ZL:∀{l:List Ed}{i:Nat}{e:Ed},l[i]?=some e->El (He l) 3 i=[vn e.1,vn e.2.1,vn e.2.2]
 |[],i,e,h=>by simp at h
 |x::l,0,e,h=>by
  simp at h;subst h;simp[El,He]
 |x::l,i+1,e,h=>by
  have:=ZL (l:=l) (i:=i) (by simpa using h);rw[<-this];unfold El;rw[show(i+1)*3=i*3+3 by omega];rfl
structure AV where
 na:Option Addr
 sa:Option Addr
 pa:Option Addr
 oa:Option Addr
 ea:Option Addr
 nc:Nat
 sc:Nat
 pc:Nat
 oc:Nat
 ec:Nat
def AV.cells(q:AV)(A:At):List Value:=[.slice q.na A.nr q.nc,.slice q.sa A.nr q.sc,.slice q.pa A.nr q.pc,.slice q.oa A.ns q.oc,.slice q.ea A.ns q.ec,vn A.ty]
abbrev AV.v(q:AV)(A:At):Value:=.agg ⟨q.cells A⟩
def EdM(F:Nat->Prop)(H:ag)(A:At)(evs:List Value):Prop:=∀i,i<A.ns->∃a c,evs[i]?=some (.slice a (A.E i).length c)/\jT F 47 H a (A.E i).length 3 (He<|A.E i)
structure BO(F:Nat->Prop)(H:ag)(A:At)(q:AV):Prop where
 n:jT F 9 H q.na A.nr 1 (A.nm.map .string)
 s:jT F 3 H q.sa A.nr 1 (fG A.st)
 p:jT F 3 H q.pa A.nr 1 (fG A.sp)
 o:jT F 3 H q.oa A.ns 1 (fG A.ow)
 e:∃evs,jT F 45 H q.ea A.ns 1 evs/\EdM F H A evs
variable{q:AV}
theorem BO.ex(h:BO F H A q)(hx:Ext H H'):BO F H' A q:=
 ⟨h.n.ex hx,h.s.ex hx,h.p.ex hx,h.o.ex hx,let⟨evs,h1,h2⟩:=h.e;⟨evs,h1.ex hx,λi hi=>let⟨a,c,h3,h4⟩:=h2 i hi;⟨a,c,h3,h4.ex hx⟩⟩⟩
theorem BO.wk(h:BO F H A q)(hF:∀r,F r->F' r):BO F' H A q:=
 ⟨h.n.wk hF,h.s.wk hF,h.p.wk hF,h.o.wk hF,let⟨evs,h1,h2⟩:=h.e;⟨evs,h1.wk hF,λi hi=>let⟨a,c,h3,h4⟩:=h2 i hi;⟨a,c,h3,h4.wk hF⟩⟩⟩
theorem BO.stay(h:BO F H A q)(hx:qU S H H')(hS:∀r∈S,¬F r):BO F H' A q:=
 ⟨h.n.stay hx λr hr=>.inl<|hS r hr,h.s.stay hx λr hr=>.inl<|hS r hr,h.p.stay hx λr hr=>.inl<|hS r hr,h.o.stay hx λr hr=>.inl<|hS r hr,let⟨evs,h1,h2⟩:=h.e;⟨evs,h1.stay hx λr hr=>.inl<|hS r hr,λi hi=>let⟨a,c,h3,h4⟩:=h2 i hi;⟨a,c,h3,h4.stay hx λr hr=>.inl<|hS r hr⟩⟩⟩
theorem MX{l:List Nat}(h:k<l.length):(fG l)[k]?=some (vn<|l[k]?.getD 0):=by
 rw[aR,ae h];rfl
theorem wD(q:AV)(A:At):aX (q.v A)=q.cells A:=rfl
section steps
theorem BO.ldS(h:BO F H A q)(ho:A.Ok)(hk:k<A.nr)(kk:∀p,K p (vn<|A.S k) H):PU (zH 1 (.slice q.sa A.nr q.sc)<|vn k) λp=>ME (rQ none p H) (K p):=h.s.ix hk (MX (by rw[ho.V_];exact hk)) kk
theorem BO.ldP(h:BO F H A q)(ho:A.Ok)(hk:k<A.nr)(kk:∀p,K p (vn<|A.P k) H):PU (zH 1 (.slice q.pa A.nr q.pc)<|vn k) λp=>ME (rQ none p H) (K p):=h.p.ix hk (MX (by rw[ho.Zl];exact hk)) kk
theorem BO.E8(h:BO F H A q)(hk:k<A.ns)(kk:∀p,K p (vn<|A.O k) H):PU (zH 1 (.slice q.oa A.ns q.oc)<|vn k) λp=>ME (rQ none p H) (K p):=h.o.ix hk (MX hk) kk
theorem BO.ldE(h:BO F H A q)(hx:Ext H H')(hk:k<A.ns)(kk:∀p a c,jT F 47 H a (A.E k).length 3 (He<|A.E k)->K p (.slice a (A.E k).length c) H'):PU (zH 1 (.slice q.ea A.ns q.ec)<|vn k) λp=>ME (rQ none p H') (K p):=by
 obtain⟨evs,h1,h2⟩:=h.e;obtain⟨a,c,h3,h4⟩:=h2 k hk;exact(h1.ex hx).ix hk h3 λp=>kk p a c h4
theorem agY{l:List Ed}(h:jT F 47 H a l.length 3<|He l)(hk:k<l.length)(kk:∀p,K p (.agg ⟨[vn l[k].1,vn l[k].2.1,vn l[k].2.2]⟩) H):PU (zH 3 (.slice a l.length c)<|vn k) λp=>ME (rQ (some 3) p H) (K p):=
 h.ixN aa hk (ZL<|ae hk) kk
end steps
def Qe(p:Value->ag->Prop)(H:ag)(v:Value)(H':ag):Prop:=p v H'/\Ext H H'
theorem K7(hw:Wf H)(q:AV)(A:At):az Pg X 17 [q.v A] H (Qe (λv _=>v=vn A.ns) H):=by
 have hS:=SH.refl hw;refine ce [0,1,2] ?_;refine tl ?_;refine hS.box rfl λH1 rg hS=>?_;rw[wD]at hS;unfold AV.cells at hS
 repeat(first|(refine hS.aY ?_)|(refine hS.dQ ?_))
 refine rr ?_;exact⟨rfl,hS.ext⟩
end
variable{q:AV}
section
variable{S:List Nat}{F:Nat->Prop}
abbrev pt(r:Nat):Value:=.pointer<|some ⟨r,0,none⟩
theorem MY(hw:Wf H)(h:BO F H A q){rn:Nat}(h1:H.cell rn 0=some (vn A.ns))(h1':rn<H.next)(h2:H.cell rg 3=some (.slice q.oa A.ns q.oc))(h2':rg<H.next)(hs:s<A.ns)(hr:A.O s=r):
 az Pg X 42 [vn s,vn r,pt rn,pt rg] H (Qe (λv _=>v=.bool true) H):=by
 have hS:=SH.refl hw;refine ce [0,1,2,3,6] ?_;refine tl ?_;refine aF ?_;refine ah (λhc=>?_) λhc=>absurd aa hc;refine hS.E8 h1 h1' ?_;refine aF ?_;refine ah (λhc=>?_) λhc=>absurd aa hc;refine hS.E8 h2 h2' ?_;refine h.E8 hs λp=>?_;rw[hr];refine aF ?_;refine rr ?_;exact⟨by simp,Ext.refl _⟩
theorem Jq(hw:Wf H)(h:BO F H A q)(ho:A.Ok):az Pg X 15 [q.v A] H (Qe (λv _=>v=.bool true) H):=by
 have hS:=SH.refl hw;refine ce [0,1,2,3,4,5,6,7,8,10,45,46,71,72,73,89,90,91,102] ?_;refine tl ?_;refine hS.box rfl λH1 rg hS=>?_;rw[wD]at hS;unfold AV.cells at hS
 repeat(first|(refine hS.aY ?_)|(refine hS.kI ?_))
 refine hS.nD λH2 rn hS f1=>?_;refine hS.qJ λHn hS=>?_;have n1:rn≠rg:=hS.nq 0 1 rfl rfl aa;refine splitK (λK hK=>?_) ?_
 .simp only[f1,cB,dn];apply q_ (a:=rn) (b:=rg) n1 (by intros;rfl) (by kernel_rfl) (by kernel_rfl) hK
 have hpos:=ho.pos;have hbig:=ho.big;have ZM:=ho.few;refine ah (λhc=>absurd hc aa) λhc=>?_;refine hS.dQ ?_;refine hS.aY ?_;refine bq (λhc=>absurd trivial hc) λ_=>?_;refine hS.dQ ?_;refine hS.aY ?_;refine bq (λhc=>absurd trivial hc) λ_=>?_
 repeat(first|(refine hS.aY ?_)|(refine hS.dQ ?_))
 refine bq (λhc=>absurd trivial hc) λ_=>?_;refine hS.dQ ?_;refine hS.aY ?_;refine ah (λhc=>absurd hc aa) λ_=>?_;have hS:SH [] H _ [(rn,3,[vn A.ns]),(rg,26,[.slice q.na A.nr q.nc,.slice q.sa A.nr q.sc,.slice q.pa A.nr q.pc,.slice q.oa A.ns q.oc,.slice q.ea A.ns q.ec,vn A.ty])]:=hS
 have key:∀{H':ag}{L':List cz},SH [] H H' L'->(rn,3,[vn A.ns])∈L'->(rg,26,q.cells A)∈L'->∀{s r:Nat},s<A.ns->A.O s=r->∀{K:Value->ag->Prop},(∀H2,SH [] H H2 L'->K (.bool true) H2)->lK Pg X (KA<|.func (.func 42) ⟨[]⟩ ⟨[pt rn,pt rg]⟩) [vn s,vn r] H' K:=by
  intro H' L' hS m1 m2 s r hs hr K kk;show az Pg X 42 [vn s,vn r,pt rn,pt rg] H' K;refine az.mono (MY hS.wf (h.ex hS.ext) ((hS.bk _ m1).cell rfl) (hS.lo _ m1).2 ((hS.bk _ m2).cell (o:=3) rfl) (hS.lo _ m2).2 hs hr) ?_;rintro v H2 ⟨rfl,hx⟩;exact kk H2<|hS.call hx
 have m1:((rn,3,[vn A.ns]):cz)∈([(rn,3,[vn A.ns]),(rg,26,q.cells A)]:List cz):=by simp
 have m2:((rg,26,q.cells A):cz)∈([(rn,3,[vn A.ns]),(rg,26,q.cells A)]:List cz):=by simp
 refine tl ?_;refine Vg 2 6 46 (I:=λm x2 x6 x46 H'=>∃i:Nat,x46=vn i/\i+m=A.nr/\SH [] H H' [(rn,3,[vn A.ns]),(rg,26,[.slice q.na A.nr q.nc,.slice q.sa A.nr q.sc,.slice q.pa A.nr q.pc,.slice q.oa A.ns q.oc,.slice q.ea A.ns q.ec,vn A.ty])]) ?_ A.nr ⟨0,rfl,aa,hS⟩;clear hS;rintro m x2 x6 x46 l7 H3 ⟨i,rfl,him,hS⟩;refine tl ?_;refine aF ?_;refine ah (λhc=>?_) λhc=>?_
 .have hi:i<A.nr:=by omega
  refine hS.dQ ?_;refine(h.ex hS.ext).ldS ho hi λp=>?_;refine key hS m1 m2 (ho.s i hi).1 (ho.s i hi).2 λH4 hS=>?_;refine aF ?_;refine bO (λhb=>by cases hb) λ_=>?_;refine hS.dQ ?_;refine(h.ex hS.ext).ldP ho hi λp=>?_;refine key hS m1 m2 (ho.p i hi).1 (ho.p i hi).2 λH5 hS=>?_;refine aF ?_;refine bO (λhb=>by cases hb) λ_=>?_;refine bE ?_;exact⟨A.nr-(i+1),aa,_,_,_,_,_,rfl,i+1,uN,aa,hS⟩
 refine tl ?_
 repeat(first|(refine hS.aY ?_)|(refine hS.dQ ?_))
 refine lp9 2 7 8 10 73 89 90 91 102 (I:=λm x2 x7 x8 dR x73 x89 x90 x91 x102 H'=>∃i:Nat,x73=vn i/\i+m=A.ns/\SH [] H H' [(rn,3,[vn A.ns]),(rg,26,[.slice q.na A.nr q.nc,.slice q.sa A.nr q.sc,.slice q.pa A.nr q.pc,.slice q.oa A.ns q.oc,.slice q.ea A.ns q.ec,vn A.ty])]) ?_ A.ns ⟨0,rfl,aa,hS⟩;clear hS hc him;rintro m x2 x7 x8 dR x73 x89 x90 x91 x102 l7 H4 ⟨s,rfl,him,hS⟩;refine tl ?_;refine aF ?_;refine ah (λhc=>?_) λhc=>?_;rotate_left
 .refine tl ?_;refine rr ?_;exact⟨rfl,hS.ext⟩
 have hs:s<A.ns:=by omega
 refine(h.ex hS.ext).E8 hs λp=>?_;refine aF ?_;have hO:=ho.o s hs;refine ah (λhc=>absurd hc aa) λ_=>?_;refine ah (λhc=>absurd hc aa) λ_=>?_;refine tl ?_;refine hS.aY ?_;refine hS.dQ ?_;refine h.ldE hS.ext hs λp ea ec hE=>?_;refine aF ?_;have hx0:=hS.ext;refine PV 2 10 91 102 (I:=λm x2 dR x91 x102 H'=>∃k:Nat,x91=vn k/\k+m=(A.E s).length/\SH [] H H' [(rn,3,[vn A.ns]),(rg,26,[.slice q.na A.nr q.nc,.slice q.sa A.nr q.sc,.slice q.pa A.nr q.pc,.slice q.oa A.ns q.oc,.slice q.ea A.ns q.ec,vn A.ty])]) ?_ (A.E s).length ⟨0,rfl,aa,hS⟩;clear hS hc;rintro m' x2 dR x91 x102 l7 H5 ⟨k,rfl,hkm,hS⟩;refine tl ?_;refine aF ?_;refine ah (λhc=>?_) λhc=>?_;rotate_left
 .refine tl ?_;refine bE ?_;exact⟨A.ns-(s+1),aa,_,_,_,_,_,_,_,_,_,_,_,rfl,s+1,uN,aa,hS⟩
 have hk:k<(A.E s).length:=by omega
 refine agY (hE.ex hS.ext) hk λp=>?_;have hmem:=bF hk;obtain⟨g1,g2,g3⟩:=ho.e s hs _ hmem;generalize hee:(A.E s)[k]=e at g1 g2 g3|-;refine hS.ns rfl rfl rfl λH6 re hS hx6=>?_;have hS:SH [] H H6 [(re,47,[vn e.1,vn e.2.1,vn e.2.2]),(rn,3,[vn A.ns]),(rg,26,[.slice q.na A.nr q.nc,.slice q.sa A.nr q.sc,.slice q.pa A.nr q.pc,.slice q.oa A.ns q.oc,.slice q.ea A.ns q.ec,vn A.ty])]:=hS;refine hS.aY ?_;refine hS.dQ ?_;have hx5:=hS.ext;have hS0:=hS;refine key hS (aT _ m1) (aT _ m2) g1 g2 λH7 hS=>?_;refine aF ?_;refine bO (λhb=>by cases hb) λ_=>?_;have hS:SH [] H H7 ((re,47,[vn e.1,vn e.2.1,vn e.2.2])::[(rn,3,[vn A.ns]),(rg,26,[.slice q.na A.nr q.nc,.slice q.sa A.nr q.sc,.slice q.pa A.nr q.pc,.slice q.oa A.ns q.oc,.slice q.ea A.ns q.ec,vn A.ty])]):=hS;refine hS.dQ ?_;refine hS.aY ?_
 have hkb:k<1000000000:=by
  have:=ho.len s;omega
 rcases g3 with g3|⟨g3,g4⟩|⟨g3,g4⟩
 .refine ah (λ_=>?_) (λhc=>absurd aa hc);refine bE ?_;exact⟨(A.E s).length-(k+1),aa,_,_,_,_,_,_,rfl,k+1,uN,aa,SH.drop (A:=[_]) hS⟩
 .refine ah (λhc=>absurd hc aa) (λ_=>?_);refine ah (λ_=>?_) λhc=>absurd aa hc;refine hS.dQ ?_;refine hS.aY ?_;refine ah (λhc=>absurd hc aa) λ_=>?_;refine hS.dQ ?_;refine hS.dQ ?_;refine hS.aY ?_;refine ah (λhc=>absurd hc aa) λ_=>?_;refine bE ?_;exact⟨(A.E s).length-(k+1),aa,_,_,_,_,_,_,rfl,k+1,uN,aa,SH.drop (A:=[_]) hS⟩
 .refine ah (λhc=>absurd hc aa) (λ_=>?_);refine ah (λhc=>absurd hc aa) λ_=>?_;refine ah (λ_=>?_) λhc=>absurd aa hc;refine hS.dQ ?_;refine hS.aY ?_;refine ah (λhc=>absurd hc aa) λ_=>?_;refine hS.dQ ?_;refine hS.aY ?_;refine ah (λhc=>absurd hc aa) λ_=>?_;refine bE ?_;exact⟨(A.E s).length-(k+1),aa,_,_,_,_,_,_,rfl,k+1,uN,aa,SH.drop (A:=[_]) hS⟩
end
section
variable{S:List Nat}{F:Nat->Prop}
theorem _root_.Go.Ae.GB.sl{v:Value}(h:GB ty es v cs gb):∃a n c,v=.slice a n c:=by
 rcases h with⟨rfl,_⟩|⟨r,n,dH,rfl,_⟩<;>exact⟨_,_,_,rfl⟩
def Ms(m x dm n:Nat)(mk:List Bool)(nx:List Nat)(M:List cz):Prop:=∃nv gb,M=(m,36,[.slice (some ⟨dm,0,none⟩) n n])::(x,23,[nv])::(dm,4,bools mk)::gb/\GB 3 1 nv (fG nx) gb/\mk.length=n
def Mkd(s:Nat)(mk:List Bool)(nx:List Nat)(mk':List Bool)(nx':List Nat):Prop:=(mk[s]?=some true/\mk'=mk/\nx'=nx)\/(mk[s]?=some false/\mk'=mk.set s true/\nx'=nx++[s])
theorem Fg{m x dm:Nat}{nx:List Nat}(hM:Ms m x dm n mk nx M)(hS:SH S H0 H<|M++L)(hs:s<n)(hb:nx.length<=1000000):
 az Pg X 89 [vn s,pt m,pt x] H λv H'=>∃mk' nx' M',Ms m x dm n mk' nx' M'/\SH S H0 H' (M'++L)/\Mkd s mk nx mk' nx':=by
 obtain⟨nv,gb,rfl,hg,hl⟩:=hM;have hS:SH S H0 H ((m,36,[.slice (some ⟨dm,0,none⟩) n n])::(x,23,[nv])::(dm,4,bools mk)::(gb++L)):=hS;refine ce [0,1,2] ?_;refine tl ?_;refine hS.dQ ?_;obtain⟨b,hb1⟩:∃b,mk[s]?=some b:=⟨_,ae aa⟩;refine hS.ix (v:=.bool b) hs (oz _ hb1) λp=>?_;refine aF ?_;refine bO (λhb2=>?_) λhb2=>?_
 .obtain rfl:b=false:=by cases b<;>simp_all
  refine hS.dQ ?_;refine hS.ixS hs (by simp;omega) (kk:=λp H1 hS=>?_);refine hS.dQ ?_;refine hg.push (hS.perm<|mI [_,_,_] gb L) aa rfl rfl rfl rfl rfl aa (by simpa using(by omega:nx.length<=16777216)) λw v' H2 gY hg' hS=>?_;have hS:=hS.perm<|mI gY [(m,36,[.slice (some ⟨dm,0,none⟩) n n]),(x,23,[nv]),(dm,4,(bools mk).set s<|.bool true)] L;simp only[a_,bB]at hS;obtain⟨va,vl,vc,rfl⟩:=hg'.sl;refine hS.kJ λHn hS=>?_;refine rn ?_;refine⟨mk.set s true,nx++[s],_,⟨.slice va vl vc,gY,rfl,?_,by rw[bJ];exact hl⟩,?_,.inr ⟨hb1,rfl,rfl⟩⟩
  .have:fG (nx++[s])=fG nx++[vn s]:=by simp
   rw[this];exact hg'
  .have:bools (mk.set s true)=(bools mk).set s (.bool true):=jH;rw[this];exact hS
 .obtain rfl:b=true:=by cases b<;>simp_all
  refine rn ?_;exact⟨mk,nx,_,⟨nv,gb,rfl,hg,hl⟩,hS,.inl ⟨hb1,rfl,rfl⟩⟩
end
section
variable{S:List Nat}{F:Nat->Prop}{P:Nat->Prop}{nx:List Nat}
theorem Mkd.mj(h:Mkd s mk nx mk' nx')(hJ:MJ n Q P mk nx)(hq:Q s):MJ n Q P mk' nx'/\on mk' s/\(∀t,on mk t->on mk' t)/\mu mk' nx'<=mu mk nx:=by
 rcases h with⟨h1,rfl,rfl⟩|⟨h1,rfl,rfl⟩
 .exact⟨hJ,h1,λt h=>h,aj _⟩
 .obtain⟨a,b,c,d⟩:=hJ.mark h1 hq;exact⟨a,b,c,aa⟩
def Bs(b:Nat)(H:ag)(n:Nat)(v:Value)(mk:List Bool):Prop:=∃a c,v=.slice a n c/\mk.length=n/\jT (b<=·) 4 H a n 1 (bools mk)
theorem Bs.ex{b:Nat}{v:Value}(h:Bs b H n v mk)(hx:Ext H H'):Bs b H' n v mk:=let⟨a,c,h1,h2,h3⟩:=h;⟨a,c,h1,h2,h3.ex hx⟩
theorem Bs.le{b b':Nat}{v:Value}(h:Bs b H n v mk)(hb:b'<=b):Bs b' H n v mk:=let⟨a,c,h1,h2,h3⟩:=h;⟨a,c,h1,h2,h3.le hb⟩
theorem adn(hJ:mu mk nx<=8000):nx.length<=1000000:=by unfold mu at hJ;omega
end
section
variable{S:List Nat}{F:Nat->Prop}{P:Nat->Prop}{nx:List Nat}
def PX:List (Nat×Ed)->List Value
 |[]=>[]
 |p::l=>vn p.1::vn p.2.1::vn p.2.2.1::vn p.2.2.2::PX l
theorem MZ:∀l,(PX l).length=l.length*4
 |[]=>rfl
 |e::l=>by
  have:=MZ l;simp only[PX,bH];omega
theorem Ua:∀l l',PX (l++l')=PX l++PX l'
 |[],l'=>rfl
 |e::l,l'=>by simp only[a_,PX,Ua l l']
theorem ZN:∀{l:List (Nat×Ed)}{i:Nat}{p:Nat×Ed},l[i]?=some p->El (PX l) 4 i=[vn p.1,vn p.2.1,vn p.2.2.1,vn p.2.2.2]
 |[],i,e,h=>by simp at h
 |x::l,0,e,h=>by
  simp at h;subst h;simp[El,PX]
 |x::l,i+1,e,h=>by
  have:=ZN (l:=l) (i:=i) (by simpa using h);rw[<-this];unfold El;rw[show(i+1)*4=i*4+4 by omega];rfl
section steps
variable{v:Value}
theorem _root_.Go.Ae.SH.ixQ(hS:SH S H0 H L)[hb:IU L r ty cs](hk:k<n)(hv:cs[k]?=some v)(kk:K (.pointer<|some ⟨r,k,none⟩) v<|hN H):
 PU (zH 1 (.slice (some ⟨r,0,none⟩) n c)<|vn k) λp=>ME (rQ none p<|hN H) (K p):=by
 obtain⟨i,hi⟩:=hb.at';refine PU.of (Ee hk) ?_;rw[aI];exact hS.BQ i hi hv kk
theorem _root_.Go.Ae.jT.ixQ(h:jT F ty H a n 1 cs)(hk:k<n)(hv:cs[k]?=some v)(kk:∀r o,K (.pointer<|some ⟨r,o,none⟩) v<|hN H):
 PU (zH 1 (.slice a n c)<|vn k) λp=>ME (rQ none p<|hN H) (K p):=by
 obtain⟨r,o,h1,h2,h3,_⟩:=h.1.idx (c:=c) (bL 0) hk;refine PU.of h1 ?_;refine ME.ld (H:=hN H) ?_<|kk _ _;have:=h3 0 v (bL 0) (by rw[bG,bn];exact hv);exact this
theorem BO.ain(h:BO F H A q)(ho:A.Ok)(hk:k<A.nr)(kk:∀r o,K (.pointer<|some ⟨r,o,none⟩) (vn<|A.S k)<|hN H):PU (zH 1 (.slice q.sa A.nr q.sc)<|vn k) λp=>ME (rQ none p<|hN H) (K p):=h.s.ixQ hk (MX (by rw[ho.V_];exact hk)) kk
theorem agZ(h:jT F 166 H a l.length 4<|PX l)(hk:k<l.length)(kk:∀p,K p (.agg ⟨[vn l[k].1,vn l[k].2.1,vn l[k].2.2.1,vn l[k].2.2.2]⟩) H):PU (zH 4 (.slice a l.length c)<|vn k) λp=>ME (rQ (some 4) p H) (K p):=
 h.ixN aa hk (ZN<|ae hk) kk
end steps
def ag0(A:At)(tok:Bool)(t:Nat)(l:List<|Nat×Ed):Prop:=(∀p∈l,p.2∈A.E p.1/\p.2.2.2=t/\At.T9 tok p.2)/\∀s e,e∈A.E s->At.T9 tok e->e.2.2=t->(s,e)∈l
def ag1(A:At)(r:Nat)(l:List<|Nat×Ed):Prop:=(∀p∈l,p.2∈A.E p.1/\p.2.1=2/\p.2.2.1=r)/\∀s e,e∈A.E s->e.1=2->e.2.1=r->(s,e)∈l
def BkM(G:Nat->List (Nat×Ed)->Prop)(H:ag)(n:Nat)(a:Option Addr):Prop:=∃vs,jT (λ_=>True) 164 H a n 1 vs/\∀t,t<n->∃b c l,vs[t]?=some (.slice b l.length c)/\jT (λ_=>True) 166 H b l.length 4 (PX l)/\G t l/\l.length<=1000000000
theorem BkM.ld{G:Nat->List (Nat×Ed)->Prop}(h:BkM G H n a)(hx:Ext H H')(ht:t<n)(kk:∀p b c l,jT (λ_=>True) 166 H b l.length 4 (PX l)->G t l->l.length<=1000000000->K p (.slice b l.length c) H'):PU (zH 1 (.slice a n c)<|vn t) λp=>ME (rQ none p H') (K p):=by
 obtain⟨vs,h1,h2⟩:=h;obtain⟨b,c,l,h3,h4,h5,h6⟩:=h2 t ht;exact(h1.ex hx).ix ht h3 λp=>kk p b c l h4 h5 h6
theorem abM{tok:Bool}{ic cc:Nat}(hw:Wf H)(h:BO F H A q)(ho:A.Ok)(hg:Bk H rg 26<|q.cells A)(hgl:rg<H.next)(hI:BkM (ag0 A tok) H A.ns ia)(hC:BkM (ag1 A) H A.nr ca){x4 x7 x8 dR fC gK gq iL jU qf vv xK x30 x31 x32 Az x38 x39 x88 x89 x90 x115 C6 yl x157 x158 x159:Value}{l7:List (Nat×Value)}:
 dJ Pg X (sub lQ [1,1,1,1]) (jc (q.v A) (.bool tok) (pt rg) x4 (.slice ia A.ns ic) (.slice ca A.nr cc) x7 x8 dR fC gK gq iL jU qf vv xK x30 x31 x32 Az x38 x39 x88 x89 x90 x115 C6 yl x157 x158 x159 l7 H)
  (f_ Pg [.tmp 4]<|Qe (λv H'=>∃mk,Bs H.next H' A.ns v mk/\∀s,on mk s<->A.Mk tok s) H):=by
 have hS:=SH.refl hw;have hbig:=ho.big;have ZM:=ho.few;refine tl ?_;refine ME.CU (vs:=q.cells A) (hg.read (by show 0+6<=6;omega)) ?_;refine az.mono (K7 hS.wf q A) ?_;rintro v H2 ⟨rfl,hx⟩;have hS:=hS.call hx;refine hS.mkS (aj _) aa λH3 dm hS=>?_;rw[pN]at hS;refine hS.iI λH4 mr hS=>?_;refine hS.aY ?_;refine hS.kJ λHn hS=>?_;refine hS.iI λH5 xr hS=>?_;refine hS.E8 (hg.cell (o:=2) rfl) hgl ?_;refine aF ?_;have hS:SH [] H H5 ([(xr,23,[.slice none 0 0]),(mr,36,[.slice (some ⟨dm,0,none⟩) A.ns A.ns]),(dm,4,List.replicate A.ns<|.bool false)]):=hS;have hS:=hS.perm (L':=[(mr,36,[.slice (some ⟨dm,0,none⟩) A.ns A.ns]),(xr,23,[.slice none 0 0]),(dm,4,List.replicate A.ns<|.bool false)])<|List.Perm.swap _ _ _;have hM:Ms mr xr dm A.ns (List.replicate A.ns false) [] [(mr,36,[.slice (some ⟨dm,0,none⟩) A.ns A.ns]),(xr,23,[.slice none 0 0]),(dm,4,List.replicate A.ns<|.bool false)]:=⟨.slice none 0 0,[],by simp,GB.nil _ _,by simp⟩;have hmu:mu (List.replicate A.ns false) []<=8000:=by unfold mu;rw[T8];show 2*A.ns+0<=8000;omega
 have call:∀{s:Nat}{mk:List Bool}{nx:List Nat}{M L:List cz}{H':ag}{P:Nat->Prop}{K:Value->ag->Prop},s<A.ns->Ms mr xr dm A.ns mk nx M->SH [] H H' (M++L)->MJ A.ns (A.Mk tok) P mk nx->mu mk nx<=8000->A.Mk tok s->
  (∀v H2 mk' nx' M',Ms mr xr dm A.ns mk' nx' M'->SH [] H H2 (M'++L)->MJ A.ns (A.Mk tok) P mk' nx'->on mk' s->(∀t,on mk t->on mk' t)->mu mk' nx'<=mu mk nx->K v H2)->
  lK Pg X (KA<|.func (.func 89) ⟨[]⟩ ⟨[pt mr,pt xr]⟩) [vn s] H' K:=by
  intro s mk nx M L H' P K hs hM hS hJ hmu hq kk;show az Pg X 89 [vn s,pt mr,pt xr] H' K;refine az.mono (Fg hM hS hs<|adn hmu) ?_;rintro v H2 ⟨mk',nx',M',hM',hS',hk⟩;obtain⟨a,b,c,d⟩:=hk.mj hJ hq;exact kk v H2 mk' nx' M' hM' hS' a b c d
 refine lp2 15 90 (I:=λm iL x90 H'=>∃i mk nx M,x90=vn i/\i+m=A.nr/\Ms mr xr dm A.ns mk nx M/\SH [] H H' (M++[])/\MJ A.ns (A.Mk tok) (λ_=>False) mk nx/\mu mk nx<=8000/\∀j,j<i->on mk (A.P j)) ?_ A.nr ⟨0,_,_,_,rfl,aa,hM,hS,MJ.nil _ _,hmu,λj hj=>absurd hj aa⟩;clear hS hM hmu hx;rintro m iL x90 l7 H6 ⟨i,mk,nx,M,rfl,him,hM,hS,hJ,hmu,hb⟩;refine tl ?_;refine aF ?_;refine ah (λhc=>?_) λhc=>?_
 .have hi:i<A.nr:=by omega
  refine(h.ex hS.ext).ldP ho hi λp=>?_;refine call (ho.p i hi).1 hM hS hJ hmu (.stop i hi) λv H7 mk' nx' M' hM hS hJ hon hmo aeI=>?_;refine bE ?_;refine⟨A.nr-(i+1),aa,_,_,_,_,rfl,i+1,mk',nx',M',uN,aa,hM,hS,hJ,aa,λj hj=>?_⟩;rcases aN j i with h1|h1
  .exact hmo _<|hb j h1
  .obtain rfl:j=i:=by omega
   exact hon
 have hbase:∀r,r<A.nr->on mk (A.P r):=λr hr=>hb r aa;clear hb hc him;refine tl ?_;refine aed 16 18 19 21 115 116 117 157 158 159 (I:=λm jU qf vv xK x115 C6 yl x157 x158 x159 H'=>∃mk nx M P,Ms mr xr dm A.ns mk nx M/\SH [] H H' (M++[])/\MJ A.ns (A.Mk tok) P mk nx/\mu mk nx<=8000/\mu mk nx=m/\(∀r,r<A.nr->on mk (A.P r))/\A.Clo tok P mk) ?_ (mu mk nx) ⟨mk,nx,M,_,hM,hS,hJ,hmu,rfl,hbase,λs e _ _ h=>h.elim⟩;clear hS hM hJ hmu hbase;rintro m jU qf vv xK x115 C6 yl x157 x158 x159 l7 H6 ⟨mk,nx,M,P,hM,hS,hJ,hmu,rfl,hbase,aeJ⟩;obtain⟨nv,gb,rfl,hgb,hl⟩:=hM;have hS:SH [] H H6 ((mr,36,[.slice (some ⟨dm,0,none⟩) A.ns A.ns])::(xr,23,[nv])::(dm,4,bools mk)::(gb++[])):=hS;refine tl ?_;refine hS.aY ?_;refine hS.dQ ?_
 have fin:nx=[]->∀l7,dJ Pg X (sub lQ [1,1,1,1,1,1,1,1,1]) (jc (q.v A) (.bool tok) (pt rg) x4 (.slice ia A.ns ic) (.slice ca A.nr cc) x7 x8 dR (pt mr) (pt xr) (.func (.func 89) ⟨[]⟩ ⟨[pt mr,pt xr]⟩) iL jU qf vv xK x30 x31 x32 Az x38 x39 (.slice q.pa A.nr q.pc) (vn A.nr) (vn i) x115 C6 yl x157 x158 x159 l7 H6)
  (f_ Pg [.tmp 4]<|Qe (λv H'=>∃mk,Bs H.next H' A.ns v mk/\∀s,on mk s<->A.Mk tok s) H):=by
  intro hn l7;subst hn;refine tl ?_;refine hS.dQ ?_;refine rr ?_;exact⟨⟨mk,⟨_,_,rfl,hl,jT.one hS (aA (i:=2) rfl) (by simpa using hl)<|hS.zN<|aA (i:=2) rfl⟩,At.abL ho hJ aeJ hbase⟩,hS.ext⟩
 rcases hgb with⟨rfl,hn,rfl⟩|⟨r,n,dH,rfl,hn,rfl⟩
 .obtain rfl:nx=[]:=by simpa using hn
  refine aF ?_;refine ah (λhc=>absurd hc aa) λ_=>?_;exact fin rfl _
 have hn:nx.length=n:=by simpa using hn
 subst hn;refine aF ?_;refine ah (λhc=>?_) λhc=>?_;rotate_left
 .exact fin (bK.1 aa) _
 clear fin;obtain⟨PD,cur,rfl⟩:∃a b,nx=a++[b]:=⟨nx.dropLast,nx.getLast (λe=>by subst e;simp at hc),(List.dropLast_concat_getLast _).symm⟩;have hlen:(PD++[cur]).length=PD.length+1:=by simp
 rw[hlen]at hS;simp only[a_,bB]at hS;have aio:=adn hmu;rw[hlen]at aio;refine hS.dQ ?_;refine hS.dQ ?_;refine hS.aY ?_;refine dD ?_;rw[show((PD.length+1:Nat):Int)-1=(PD.length:Nat) by omega];refine hS.ix (v:=vn cur) aa (by simp) λp=>?_;refine hS.dQ ?_;refine hS.dQ ?_;refine hS.aY ?_;refine dD ?_;rw[show((PD.length+1:Nat):Int)-1=(PD.length:Nat) by omega];refine PU.of (CZ aa) ?_;refine hS.kJ λHn hS=>?_;have abN:cur<A.ns:=by have:=agX<|hJ.nxo cur (by simp);rw[hJ.len]at this;exact this
 have hJ':=hJ.pop;have ZO:=aeH mk PD cur;have hM:Ms mr xr dm A.ns mk PD ((mr,36,[.slice (some ⟨dm,0,none⟩) A.ns A.ns])::(xr,23,[.slice (some ⟨r,0,none⟩) PD.length (dV 1)])::(dm,4,bools mk)::[(r,3,fG (PD++[cur])++dH)]):=⟨_,_,rfl,.inr ⟨r,_,vn cur::dH,rfl,by simp,by simp⟩,hl⟩;refine hI.ld hS.ext abN λp ba bc l hl hG hln=>?_;refine aF ?_;have hS:SH [] H _ (((mr,36,[.slice (some ⟨dm,0,none⟩) A.ns A.ns])::(xr,23,[.slice (some ⟨r,0,none⟩) PD.length (dV 1)])::(dm,4,bools mk)::[(r,3,fG (PD++[cur])++dH)])++[]):=hS;have hrc:=hJ.snd cur<|hJ.nxo cur (by simp);refine lp2 18 117 (I:=λm qf yl H'=>∃k mk' nx' M,yl=vn k/\k+m=l.length/\Ms mr xr dm A.ns mk' nx' M/\SH [] H H' (M++[])/\MJ A.ns (A.Mk tok) (λt=>P t\/t=cur) mk' nx'/\mu mk' nx'<=mu mk PD/\(∀t,on mk t->on mk' t)/\∀(j:Nat)(p:Nat×Ed),j<k->l[j]?=some p->(p.2.1=2->P (A.S p.2.2.1)\/A.S p.2.2.1=cur)->on mk' p.1) ?_ l.length ⟨0,mk,PD,_,rfl,aa,hM,hS,hJ',aj _,λt h=>h,λj e hj=>absurd hj aa⟩;clear hS hM hJ';rintro m' y18 aiV RE H7 ⟨k,mk',nx',M,rfl,hkm,hM,hS,hJ',aeI,hmo,hdone⟩;refine tl ?_;refine aF ?_;refine ah (λhc2=>?_) λhc2=>?_
 .have hk:k<l.length:=by omega
  refine agZ (hl.ex hS.ext) hk λp=>?_;have hmem:=bF hk;have hke:l[k]?=some l[k]:=ae hk;obtain⟨g1,g2,g3⟩:=hG.1 _ hmem;generalize hee:l[k]=pe at g1 g2 g3 hke hmem|-;obtain⟨s,e⟩:=pe;replace g1:e∈A.E s:=g1;replace g2:e.2.2=cur:=g2;replace g3:At.T9 tok e:=g3;have hss:=ho.lt g1;refine hS.ns rfl rfl rfl λH8 re hS KY=>?_;have hS:SH [] H H8 ((re,166,[vn s,vn e.1,vn e.2.1,vn e.2.2])::(M++[])):=hS
  have BX:∀y18 Jr PE M2 xD H9,Ms mr xr dm A.ns Jr PE M2->SH [] H H9 (M2++[])->MJ A.ns (A.Mk tok) (λt=>P t\/t=cur) Jr PE->mu Jr PE<=mu mk' nx'->(∀t,on mk' t->on Jr t)->((e.1=2->P (A.S e.2.1)\/A.S e.2.1=cur)->on Jr s)->
   dJ Pg X (sub lQ [1,1,1,1,1,1,1,1,0,0,0,1,0,1,1,0,1,0,0,1,1,1]) (jc (q.v A) (.bool tok) (pt rg) x4 (.slice ia A.ns ic) (.slice ca A.nr cc) x7 x8 dR (pt mr) (pt xr) (.func (.func 89) ⟨[]⟩ ⟨[pt mr,pt xr]⟩) iL (vn cur) y18 vv xK x30 x31 x32 Az x38 x39 (.slice q.pa A.nr q.pc) (vn A.nr) (vn i) (.slice ba l.length bc) (vn l.length) (vn k) x157 x158 x159 xD H9)
    (Ah (rC (q.v A) (.bool tok) (pt rg) x4 (.slice ia A.ns ic) (.slice ca A.nr cc) x7 x8 dR (pt mr) (pt xr) (.func (.func 89) ⟨[]⟩ ⟨[pt mr,pt xr]⟩) iL (vn cur) vv xK x30 x31 x32 Az x38 x39 (.slice q.pa A.nr q.pc) (vn A.nr) (vn i) (.slice ba l.length bc) (vn l.length) x157 x158 x159 λm qf yl H'=>∃k mk' nx' M,yl=vn k/\k+m=l.length/\Ms mr xr dm A.ns mk' nx' M/\SH [] H H' (M++[])/\MJ A.ns (A.Mk tok) (λt=>P t\/t=cur) mk' nx'/\mu mk' nx'<=mu mk PD/\(∀t,on mk t->on mk' t)/\∀(j:Nat)(p:Nat×Ed),j<k->l[j]?=some p->(p.2.1=2->P (A.S p.2.2.1)\/A.S p.2.2.1=cur)->on mk' p.1) m'<|j3 8<|nR Pg X (sub lQ [1,1,1,1,1,1,1,1,0,0,0,1,0,1,1,1])<|j3 7<|Ah (wX (q.v A) (.bool tok) (pt rg) x4 (.slice ia A.ns ic) (.slice ca A.nr cc) x7 x8 dR (pt mr) (pt xr) (.func (.func 89) ⟨[]⟩ ⟨[pt mr,pt xr]⟩) iL x30 x31 x32 Az x38 x39 (.slice q.pa A.nr q.pc) (vn A.nr) (vn i) λm jU qf vv xK x115 C6 yl x157 x158 x159 H'=>∃mk nx M P,Ms mr xr dm A.ns mk nx M/\SH [] H H' (M++[])/\MJ A.ns (A.Mk tok) P mk nx/\mu mk nx<=8000/\mu mk nx=m/\(∀r,r<A.nr->on mk (A.P r))/\A.Clo tok P mk) (mu mk<|PD++[cur])<|j3 6<|nR Pg X (sub lQ [1,1,1,1,1,1,1,1,1])<|f_ Pg [.tmp 4]<|Qe (λv H'=>∃mk,Bs H.next H' A.ns v mk/\∀s,on mk s<->A.Mk tok s) H):=by
   intro y18 Jr PE M2 xD H9 hM2 hS2 hJ2 ZO GI ZP;refine tl ?_;refine bE ?_;refine⟨l.length-(k+1),aa,_,_,_,_,rfl,k+1,Jr,PE,M2,uN,aa,hM2,hS2,hJ2,aa,λt ht=>GI t<|hmo t ht,λj p' hj hp' hwe=>?_⟩;rcases aN j k with h1|h1
   .exact GI _<|hdone j p' h1 hp' hwe
   .obtain rfl:j=k:=by omega
    rw[hke]at hp';cases hp';exact ZP hwe
  repeat(first|(refine hS.aY ?_)|(refine hS.kI ?_))
  refine bq (λhc3=>?_) λhc3=>?_
  .refine wS ?_;refine tl ?_;refine hS.aY ?_;refine hS.dQ ?_;refine call hss hM (hS.perm<|mI [_] M []) hJ' aa (.edge s e g1 g3 (λh2=>absurd aa hc3) (by rw[g2];exact hrc)) λv H10 Jr PE M2 hM2 hS2 hJ2 ZP GI ZO=>?_;exact BX _ Jr PE M2 _ _ hM2 (SH.drop (A:=[_])<|hS2.perm<|mI M2 [_] []) hJ2 ZO GI λ_=>ZP
  .have he2:e.1=2:=by omega
   have hca:=ho.call g1 he2;have hM0:=hM;have hSt:=ho.s _ hca;obtain⟨nv',gY,rfl,hgb',hl'⟩:=hM;simp only[a_]at hS;refine hS.kI ?_;refine hS.aY ?_;refine hS.JR (hg.cell (o:=1) rfl) hgl ?_
   repeat(first|(refine hS.aY ?_)|(refine hS.kI ?_))
   refine BO.ain (h.ex hS.ext) ho hca λr1 o1=>?_;refine hS.aY ?_;obtain⟨b,hb1⟩:∃b,mk'[A.S e.2.1]?=some b:=⟨_,ae aa⟩;refine hS.ixQ hSt.1 (oz _ hb1) ?_;refine hS.aY ?_;refine wS ?_;refine tl ?_;refine hS.aY ?_;refine bO (λhb2=>?_) λhb2=>?_
   .refine hS.dQ ?_;refine call hss hM0 (hS.perm<|mI [_] (_::_::_::gY) []) hJ' aa (.edge s e g1 g3 (λh2=>hJ'.snd _ (by unfold on;rw[hb1,hb2])) (by rw[g2];exact hrc)) λv H10 Jr PE M2 hM2 hS2 hJ2 ZP GI ZO=>?_;exact BX _ Jr PE M2 _ _ hM2 (SH.drop (A:=[_])<|hS2.perm<|mI M2 [_] []) hJ2 ZO GI λ_=>ZP
   .refine BX _ mk' nx' _ _ _ hM0 (SH.drop (A:=[_]) hS) hJ' (aj _) (λt h=>h) λh2=>?_;have:=hJ'.pon _<|h2 he2;unfold on at this;rw[hb1]at this;cases this;cases hb2
 have hin:∀s e,e∈A.E s->At.T9 tok e->e.2.2=cur->(e.1=2->P (A.S e.2.1)\/A.S e.2.1=cur)->on mk' s:=λs e he hk ht hc'=>by
  obtain⟨j,hj,e1⟩:=nE.1<|hG.2 s e he hk ht;exact hdone j (s,e) aa (by rw[<-e1];exact ae hj) hc'
 clear hdone hc2 hkm hl hG;refine tl ?_;refine aF ?_;refine hS.E8 (hg.cell (o:=3) rfl) hgl ?_;refine(h.ex hS.ext).E8 abN λp=>?_;refine hS.E8 (hg.cell (o:=1) rfl) hgl ?_;refine(h.ex hS.ext).ldS ho (ho.o cur abN) λp=>?_;refine aF ?_;refine ah (λhc3=>?_) λhc3=>?_;rotate_left
 .refine⟨mu mk' nx',aa,_,_,_,_,_,_,_,_,_,_,_,_,rfl,mk',nx',M,_,hM,hS,hJ',aa,rfl,λr hr=>hmo _<|hbase r hr,aeJ.step hmo hin λs e he h2 hs _=>?_⟩;have:=(ho.s _<|ho.call he h2).2;rw[hs]at this;exact absurd (by rw[this,hs]) hc3
 have aip:A.S (A.O cur)=cur:=by omega
 refine hC.ld hS.ext (ho.o cur abN) λp ba bc l hl hG hln=>?_;refine aF ?_;refine lp2 21 159 (I:=λm xK x159 H'=>∃k Jr PE M,x159=vn k/\k+m=l.length/\Ms mr xr dm A.ns Jr PE M/\SH [] H H' (M++[])/\MJ A.ns (A.Mk tok) (λt=>P t\/t=cur) Jr PE/\mu Jr PE<=mu mk PD/\(∀t,on mk' t->on Jr t)/\∀(j:Nat)(p:Nat×Ed),j<k->l[j]?=some p->(P p.2.2.2\/p.2.2.2=cur)->on Jr p.1) ?_ l.length ⟨0,mk',nx',M,rfl,aa,hM,hS,hJ',aa,λt h=>h,λj e hj=>absurd hj aa⟩;clear hS hM hJ' aeI;rintro m' y21 y159 RE H7 ⟨k,Jr,PE,M,rfl,hkm,hM,hS,hJ',aeI,GI,hdone⟩;refine tl ?_;refine aF ?_;refine ah (λhc2=>?_) λhc2=>?_;rotate_left
 .refine⟨mu Jr PE,aa,_,_,_,_,_,_,_,_,_,_,_,_,rfl,Jr,PE,M,_,hM,hS,hJ',aa,rfl,λr hr=>GI _<|hmo _<|hbase r hr,aeJ.step (λt ht=>GI t<|hmo t ht) (λs e h1 h2 h3 h4=>GI _<|hin s e h1 h2 h3 h4) λs e he h2 hs ht=>?_⟩;have hs2:=(ho.s _<|ho.call he h2).2;rw[hs]at hs2;obtain⟨j,hj,e1⟩:=nE.1<|hG.2 s e he h2 hs2.symm;exact hdone j (s,e) aa (by rw[<-e1];exact ae hj) ht
 have hk:k<l.length:=by omega
 refine agZ (hl.ex hS.ext) hk λp=>?_;have hmem:=bF hk;have hke:l[k]?=some l[k]:=ae hk;obtain⟨g1,g2,g3⟩:=hG.1 _ hmem;generalize hee:l[k]=pe at g1 g2 g3 hke hmem|-;obtain⟨s,e⟩:=pe;replace g1:e∈A.E s:=g1;replace g2:e.1=2:=g2;replace g3:e.2.1=A.O cur:=g3;have hss:=ho.lt g1;have het:=(ho.e s hss e g1).1;refine hS.ns rfl rfl rfl λH8 re hS KY=>?_;have hM0:=hM;obtain⟨nv',gY,rfl,hgb',hl'⟩:=hM;have hS:SH [] H H8 ((re,166,[vn s,vn e.1,vn e.2.1,vn e.2.2])::(mr,36,[.slice (some ⟨dm,0,none⟩) A.ns A.ns])::(xr,23,[nv'])::(dm,4,bools Jr)::(gY++[])):=hS;refine hS.aY ?_;refine hS.dQ ?_;refine hS.dQ ?_;obtain⟨b,hb1⟩:∃b,Jr[e.2.2]?=some b:=⟨_,ae aa⟩;refine hS.ix het (oz _ hb1) λp=>?_;refine aF ?_;refine bO (λhb2=>?_) λhb2=>?_
 .refine hS.dQ ?_;refine call hss hM0 (hS.perm<|mI [_] (_::_::_::gY) []) hJ' aa (.edge s e g1 (λh1=>by omega) (λ_=>by rw[g3,aip];exact hrc)<|hJ'.snd _ (by unfold on;rw[hb1,hb2])) λv H10 mk3 nx3 M3 hM3 tu hJ3 aiq ag2 aiW=>?_;refine bE ?_;refine⟨l.length-(k+1),aa,_,_,_,_,rfl,k+1,mk3,nx3,M3,uN,aa,hM3,SH.drop (A:=[_])<|tu.perm<|mI M3 [_] [],hJ3,aa,λt ht=>ag2 t<|GI t ht,λj p' hj hp' hwe=>?_⟩;rcases aN j k with h1|h1
  .exact ag2 _<|hdone j p' h1 hp' hwe
  .obtain rfl:j=k:=by omega
   rw[hke]at hp';cases hp';exact aiq
 .refine bE ?_;refine⟨l.length-(k+1),aa,_,_,_,_,rfl,k+1,Jr,PE,_,uN,aa,hM0,SH.drop (A:=[_]) hS,hJ',aa,GI,λj p' hj hp' hwe=>?_⟩;rcases aN j k with h1|h1
  .exact hdone j p' h1 hp' hwe
  .obtain rfl:j=k:=by omega
   rw[hke]at hp';cases hp';have:=hJ'.pon _ hwe;unfold on at this;rw[show((s,e):Nat×Ed).2.2.2=e.2.2 from rfl,hb1]at this;cases this;cases hb2
end
section
variable{S:List Nat}{F:Nat->Prop}{P:Nat->Prop}{nx:List Nat}
structure KD(A:At)(ok:Ed->Prop)(key:Ed->Nat)(D:Nat->Ed->Prop)(c:Nat)(b:List<|List<|Nat×Ed):Prop where
 snd:∀(t:Nat) l,b[t]?=some l->∀p∈l,p.2∈A.E p.1/\key p.2=t/\ok p.2
 cpl:∀s e l,D s e->ok e->b[key e]?=some l->(s,e)∈l
 len:∀l∈b,l.length<=c
section kd
variable{ok:Ed->Prop}{b:List (List<|Nat×Ed)}
theorem KD.nil(n:Nat):KD A ok key (λ_ _=>False) 0 (List.replicate n []):=by
 refine⟨λt l h p hp=>?_,λs e l h=>h.elim,λl h=>?_⟩
 .have:=aA h;rw[List.mem_replicate]at this;rw[this.2]at hp;cases hp
 .rw[List.mem_replicate]at h;rw[h.2];exact aj _
theorem KD.wk(h:KD A ok key D c b)(hd:∀s e,D' s e->D s e)(hc:c<=c'):KD A ok key D' c' b:=⟨h.snd,λs e l g=>h.cpl s e l<|hd s e g,λl g=>aW (h.len l g) hc⟩
theorem KD.add(h:KD A ok key D c b)(he:e∈A.E s)(hk:ok e)(hl:b[key e]?=some l):KD A ok key (λs' e'=>D s' e'\/(s'=s/\e'=e)) (c+1) (b.set (key e)<|l++[(s,e)]):=by
 have hlt:=(aL.1 hl).1;refine⟨λt l' h' p hp=>?_,λs' e' l' hd hk' h'=>?_,λl' h'=>?_⟩
 .rw[bV]at h'
  by_cases ht:key e=t
  .rw[if_pos ht,if_pos hlt]at h';cases h';rcases bX.1 hp with hp|hp
   .rw[<-ht];exact h.snd _ l hl p hp
   .rw[aO]at hp;subst hp;exact⟨he,ht,hk⟩
  .rw[if_neg ht]at h';exact h.snd t l' h' p hp
 .rw[bV]at h'
  by_cases ht:key e=key e'
  .rw[if_pos ht,if_pos hlt]at h';cases h';rcases hd with hd|⟨rfl,rfl⟩
   .exact bI _<|h.cpl s' e' l hd hk' (by rw[<-ht];exact hl)
   .simp
  .rw[if_neg ht]at h';rcases hd with hd|⟨rfl,rfl⟩
   .exact h.cpl s' e' l' hd hk' h'
   .exact absurd rfl ht
 .rcases kF h' with h1|rfl
  .have:=h.len l' h1;omega
  .have:=h.len l (aA hl);rw[ay];show l.length+1<=c+1;omega
theorem KD.skip(h:KD A ok key D c b)(hk:¬ok e):KD A ok key (λs' e'=>D s' e'\/(s'=s/\e'=e)) (c+1) b:=by
 refine⟨h.snd,λs' e' l hd hk' h'=>?_,λl' h'=>Nat.le_succ_of_le<|h.len l' h'⟩;rcases hd with hd|⟨rfl,rfl⟩
 .exact h.cpl s' e' l hd hk' h'
 .exact absurd hk' hk
end kd
def Seen(A:At)(i k:Nat)(s:Nat)(e:Ed):Prop:=(s<i/\e∈A.E s)\/(s=i/\∃j:Nat,j<k/\(A.E i)[j]?=some e)
theorem Seen.next{e0:Ed}(h0:(A.E i)[k]?=some e0)(h:Seen A i (k+1) s e):Seen A i k s e\/(s=i/\e=e0):=by
 rcases h with h|⟨h1,j,h2,h3⟩
 .exact .inl<|.inl h
 .rcases aN j k with h4|h4
  .exact .inl<|.inr ⟨h1,j,h4,h3⟩
  .obtain rfl:j=k:=by omega
   rw[h0]at h3;cases h3;exact .inr ⟨h1,rfl⟩
theorem Seen.all(h:Seen A (i+1) 0 s e):Seen A i (A.E i).length s e:=by
 rcases h with⟨h1,h2⟩|⟨h1,j,h2,h3⟩
 .rcases aN s i with h4|h4
  .exact .inl ⟨h4,h2⟩
  .obtain rfl:s=i:=by omega
   obtain⟨j,hj,e1⟩:=nE.1 h2;exact .inr ⟨rfl,j,hj,by rw[<-e1];exact ae hj⟩
 .omega
theorem _root_.Go.Ae.SH.aeK{v:Value}(hS:SH S H0 H L)[hb:Mh L r (λcs=>cs.set k v) ty cs L'](hk:k<n)(hl:k<cs.length)(hc:aX v=[v]:=by rfl)(ho:dK v=true:=by rfl)(kk:∀H1,SH S H0 (hM H H1) L'->K (.pointer<|some ⟨r,k,none⟩) undef H1):
 PU (zH 1 (.slice (some ⟨r,0,none⟩) n c)<|vn k) λp=>ME (CS 1 p v<|hN H) (K p):=by
 obtain⟨i,hi,e⟩:=hb.at';refine PU.of (Ee hk) ?_;rw[aI];obtain⟨H1,h1,h2,hx⟩:=(SH.uY hS).yN (vs:=[v]) (o:=k) i hi (by show k+1<=_;omega) (by show aU (dK v) _ _=_;rw[ho];rfl);rw[Tq hl]at h2;show ME (gd (Nat.beq (len<|aX v) 1)<|ax ((Go.Ae.hN H).write r k<|aX v) λH'=>some (undef,H')) _;rw[hc,dG,show Nat.beq [v].length 1=true from rfl,h1];refine kk H1 ?_;rw[e]
 exact⟨qU.later hS.ext hx.draw (λq hq=>by
  simp at hq;subst hq;exact(hS.lo _<|aA hi).1),h2.bk,λe he=>⟨(h2.lo e he).1,(h2.lo e he).2⟩,h2.ne,hx.draw.wf hS.wf⟩
def Hf(ok:Ed->Prop)(key:Ed->Nat)(A:At)(D:Nat->Ed->Prop)(c n:Nat)(vs:List Value)(R:List cz):Prop:=∃b,KD A ok key D c b/\b.length=n/\KN 166 4 (b.map PX) vs R
theorem Hf.wk{ok:Ed->Prop}{R:List cz}(h:Hf ok key A D c n vs R)(hd:∀s e,D' s e->D s e)(hc:c<=c'):Hf ok key A D' c' n vs R:=let⟨b,h1,h2,h3⟩:=h;⟨b,h1.wk hd hc,h2,h3⟩
theorem Hf.skip{ok:Ed->Prop}{R:List cz}(h:Hf ok key A D c n vs R)(hk:¬ok e):Hf ok key A (λs' e'=>D s' e'\/(s'=s/\e'=e)) (c+1) n vs R:=let⟨b,h1,h2,h3⟩:=h;⟨b,h1.skip hk,h2,h3⟩
theorem Hf.put{ok:Ed->Prop}{R P0 L0:List cz}{rx:Nat}{K:Value->ag->Prop}(h:Hf ok key A D c n vs R)(hc:c<=1000000)(he:e∈A.E s)(hk:ok e)(hn:key e<n){v:Value}(hv:vs[key e]?=some v)(hS:SH S H0 H<|(rx,166,[vn s,vn e.1,vn e.2.1,vn e.2.2])::(P0++(R++L0)))(kk:∀va vl vc H1 R',Hf ok key A (λs' e'=>D s' e'\/(s'=s/\e'=e)) (c+1) n (vs.set (key e)<|.slice va vl vc) R'->SH S H0 (hM H H1) (P0++(R'++L0))->(E7 H H1=cl 1\/E7 H H1=⟨2,0,0,0,H,H1⟩)->K (.slice va vl vc) H1):
 ME (Bz 166 4 v (.slice (some ⟨rx,0,none⟩) 1 1)<|hN H) K:=by
 obtain⟨b,h1,h2,h3⟩:=h;have hvl:vs.length=n:=by rw[<-h3.len,aC,h2]
 obtain⟨A',gb,B,rfl,hg,hput⟩:=h3.at (key e) aa;obtain⟨l,hl⟩:∃l,b[key e]?=some l:=⟨_,ae aa⟩;have hll:=h1.len l<|aA hl;rw[aR,hl]at hg;have hg:GB 166 4 vs[key e] (PX l) gb:=hg;rw[ae aa]at hv;rw[bN hv]at hg;have e1:P0++((A'++(gb++B))++L0)=(P0++A')++(gb++(B++L0)):=by simp
 rw[e1]at hS;refine hg.Ou (hS.perm<|List.Perm.cons _<|mI (P0++A') gb<|B++L0) aa rfl rfl (by rw[MZ];omega) λv' H1 gY hg' hS' _ _ hcl=>?_;obtain⟨va,vl,vc,rfl⟩:=hg'.sl;have hS':=hS'.perm<|mI gY (P0++A')<|B++L0;have e2:(P0++A')++(gY++(B++L0))=P0++((A'++(gY++B))++L0):=by simp
 rw[e2]at hS';refine kk va vl vc H1 (A'++(gY++B)) ⟨b.set (key e)<|l++[(s,e)],h1.add he hk hl,by rw[bJ];exact h2,?_⟩ hS' hcl;have:=hput (.slice va vl vc) (PX<|l++[(s,e)]) gY (by rw[Ua];exact hg');rw[jH];exact this
theorem Js:∀{EB:List (List Value)}{vs:List Value}{R:List cz},KN ty es EB vs R->∀v∈vs,lX v v=true
 |[],[],R,h=>λv hv=>nomatch hv
 |ks::EB,w::vs,R,⟨gb,R',_,h1,h2⟩=>λv hv=>by
  rcases bP.1 hv with rfl|hv
  .rcases h1 with⟨rfl,_⟩|⟨r,n,dH,rfl,_⟩
   .exact qK _ _ _ λx h=>by cases h
   .exact qK _ _ _ λx h=>by cases h;rfl
  .exact Js h2 v hv
 |[],v::vs,R,h=>h.elim
 |ks::EB,[],R,h=>h.elim
theorem Hf.same{ok:Ed->Prop}{R:List cz}(h:Hf ok key A D c n vs R):∀v∈vs,lX v v=true:=let⟨_,_,_,h3⟩:=h;Js h3
theorem M0{l:List Value}(h:∃a b c:Nat,l=[vn a,vn b,vn c]):∀v∈(l.drop o).take n,lX v v=true:=λv hv=>by
 obtain⟨a,b,c,rfl⟩:=h;have:=kg<|iD hv;simp at this;rcases this with rfl|rfl|rfl<;>exact uD _ _
end
end Go.Proofs.Lv
