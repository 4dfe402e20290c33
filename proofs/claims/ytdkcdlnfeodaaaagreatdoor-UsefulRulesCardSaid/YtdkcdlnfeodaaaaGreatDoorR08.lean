/-
  Part 08 of the proof. No condition.
-/
import Derived.Test.YtdkcdlnfeodaaaaGreatDoorR06
set_option linter.unusedVariables false
set_option linter.unusedSimpArgs false
set_option maxRecDepth 100000
set_option maxHeartbeats 4000000
noncomputable section
namespace Go.Proofs.Lu
open Go.Ae Go.Ae.M
variable{cs:List Value}{ty:TypeId}{L:List cz}{cv v:Value}{K:Value->ag->Prop}{KM c f i k n q r:Nat}{a s z:Int}{H H0:ag}
abbrev Rg(r:Nat)(ty:TypeId)(n:Nat):=SB Nl r ty 2 n
def vg(cv:Value):Prop:=∀(H:ag)(a b c d:Int),Wf H->lK Pg X (KA cv) [.agg ⟨[.int .i32 a,.int .i32 b]⟩,.agg ⟨[.int .i32 c,.int .i32 d]⟩] H (λv H'=>(∃z:Int,v=vi z)/\Ext H H')
theorem vg.call(hc:vg cv)(hB:Rg r ty n H0 H L){b c d:Int}(k:∀z H1,Rg r ty n H0 (hM H H1) L->Ext (hN H) H1->K (vi z) H1):lK Pg X (KA cv) [.agg ⟨[.int .i32 a,.int .i32 b]⟩,.agg ⟨[.int .i32 c,.int .i32 d]⟩] (hN H) K:=by
 refine lK.mono (hc (hN H) a b c d<|qH H) ?_;rintro v H1 ⟨⟨z,rfl⟩,hx⟩;exact k z H1 (hB.oV hx) hx
theorem yZ(hcm:vg cv)(hB:Rg r ty n H0 H<|(q,3,[vi s])::L)(a b:Int)(ha:0<=a/\a<n)(hb:0<=b/\b<n):
 az Pg X 227 [sl r n c,vi a,vi b,.pointer<|some ⟨q,0,none⟩,cv] H λv H'=>∃a' b' s',v=.tuple ⟨[vi a',vi b']⟩/\(a'=a/\b'=b\/a'=b/\b'=a)/\Rg r ty n H0 H' ((q,3,[vi s'])::L):=by
 refine ce [0,1,2,3,4,10,11] ?_;refine tl ?_
 repeat(first|(refine hB.aY ?_)|(with_reducible refine fH ?_)|(with_reducible refine hB.Ec aa aa λza zb=>?_)|(with_reducible refine hcm.call hB λzc Hn hB Dh=>?_)|((with_reducible refine And.intro ?_ ?_);focus ((simp only[cB,dn,dL Dh]);kernel_rfl)))
 refine bO (λhc=>?_) λhc=>?_
 .refine hB.ld 0 rfl rfl ?_;refine PU.of KV ?_;refine hB.st 0 rfl rfl (ai rfl) rfl λHn hB=>?_;refine rr ?_;exact⟨_,_,_,rfl,.inr ⟨rfl,rfl⟩,hB⟩
 .refine rr ?_;exact⟨_,_,_,rfl,.inl ⟨rfl,rfl⟩,hB⟩
theorem Er(hcm:vg cv)(hB:Rg r ty n H0 H<|(q,3,[vi s])::L)(x y z:Int)(hx:0<=x/\x<n)(hy:0<=y/\y<n)(hz:0<=z/\z<n):
 az Pg X 226 [sl r n c,vi x,vi y,vi z,.pointer<|some ⟨q,0,none⟩,cv] H λv H'=>∃m s',v=vi m/\(m=x\/m=y\/m=z)/\Rg r ty n H0 H' ((q,3,[vi s'])::L):=by
 refine ce [0,1,2,3,4,5,12] ?_;refine tl ?_;refine az.mono (yZ hcm hB x y hx hy) ?_;rintro _ H1 ⟨a,b,s1,rfl,h1,hB⟩;refine hB.aY ?_;refine az.mono (yZ hcm hB b z aa hz) ?_;rintro _ H2 ⟨b',c',s2,rfl,h2,hB⟩;refine hB.aY ?_;refine az.mono (yZ hcm hB a b' aa aa) ?_;rintro _ H3 ⟨a3,b3,s3,rfl,h3,hB⟩;refine hB.aY ?_;refine rr ?_;exact⟨_,_,rfl,aa,hB⟩
theorem vG(hcm:vg cv)(hn:n<=16777216)(hB:Rg r ty n H0 H<|(q,3,[vi s])::L)(x:Int)(hx:1<=x/\x+1<n):
 az Pg X 225 [sl r n c,vi x,.pointer<|some ⟨q,0,none⟩,cv] H λv H'=>∃m s',v=vi m/\x-1<=m/\m<=x+1/\Rg r ty n H0 H' ((q,3,[vi s'])::L):=by
 refine ce [0,1,2,3,8] ?_;refine tl ?_
 with_reducible refine dD ?_;with_reducible refine bE ?_
 refine az.mono (Er hcm hB _ _ _ aa aa aa) ?_;rintro _ H1 ⟨m,s1,rfl,h1,hB⟩;refine rr ?_;exact⟨_,_,rfl,aa,aa,hB⟩
theorem AY(hcm:vg cv)(hn:n<=16777216)(hB:Rg r ty n H0 H L)(lo hi first:Int)(h1:0<=lo)(h2:0<=first)(h3:first+hi<=n)(h4:lo<=16777216)(h5:0<=hi):
 az Pg X 224 [sl r n c,vi lo,vi hi,vi first,cv] H λv H'=>Rg r ty n H0 H' L:=by
 refine ce [0,1,2,3,4,10,11] ?_;refine tl ?_;refine lp2 10 11 (I:=λm x8 x9 H'=>∃root:Int,x8=vi root/\0<=root/\root<=16777216/\m=(hi-root).toNat/\Rg r ty n H0 H' L) ?_ _ ⟨lo,rfl,h1,h4,rfl,hB⟩;rintro m x8 x9 rg H' ⟨root,rfl,h6,h7,hm,hB⟩;refine dJ.sH λK hK=>?_
 have fin:∀(ch:Int)(rg)(H2:ag),root<ch->ch<hi->Rg r ty n H0 H2 L->dJ Pg X (sub wV [1,0,0,0,1,1,1]) (vW (sl r n c) (vi lo) (vi hi) (vi first) cv (vi root) (vi ch) rg H2) (j3 1 K):=by
  intro ch rg H2 h8 h9 hB;subst hK;refine tl ?_
  repeat(first|(refine hB.aY ?_)|(with_reducible refine bE ?_)|(with_reducible refine fH ?_)|(with_reducible refine hB.Ec aa aa λza zb=>?_)|(with_reducible refine hcm.call hB λzc Hn hB Dh=>?_)|((with_reducible refine And.intro ?_ ?_);focus ((simp only[cB,dn,dL Dh]);kernel_rfl)))
  refine bO (λhb=>?_) λhb=>?_
  .refine rr ?_;exact hB
  .repeat(first|(refine hB.aY ?_)|(with_reducible refine bE ?_)|(with_reducible refine fH ?_)|(with_reducible refine hB.Ec aa aa λza zb=>?_)|(with_reducible refine hB.QX aa aa λHn hB=>?_)|((with_reducible refine And.intro ?_ ?_);focus ((simp only[cB,dn,dL Dh]);kernel_rfl)))
   exact⟨(hi-ch).toNat,aa,_,_,_,_,rfl,ch,rfl,aa,aa,rfl,hB⟩
 refine tl ?_
 with_reducible refine FX ?_;with_reducible refine bE ?_;refine hB.aY ?_
 refine ah (λhc=>?_) λhc=>?_
 .subst hK;refine hB.aY ?_;refine rn ?_;exact hB
 with_reducible refine bE ?_;refine hB.aY ?_
 refine ah (λhd=>?_) λhd=>?_
 .repeat(first|(refine hB.aY ?_)|(with_reducible refine bE ?_)|(with_reducible refine fH ?_)|(with_reducible refine hB.Ec aa aa λza zb=>?_)|(with_reducible refine hcm.call hB λzc Hn hB Dh=>?_)|((with_reducible refine And.intro ?_ ?_);focus ((simp only[cB,dn,dL Dh]);kernel_rfl)))
  refine bO (λhb=>?_) λhb=>?_
  .with_reducible refine bE ?_
   exact fin _ _ _ aa aa hB
  .exact fin _ _ _ aa aa hB
 .refine⟨by kernel_rfl,?_⟩;exact fin _ _ _ aa aa hB
theorem GD(hcm:vg cv)(hn:n<=16777216)(hB:Rg r ty n H0 H L)(a b:Int)(h1:0<=a)(h2:b<=n)(h3:a<=16777216):
 az Pg X 216 [sl r n c,vi a,vi b,cv] H λv H'=>Rg r ty n H0 H' L:=by
 refine ce [0,1,2,3,8,9] ?_;refine tl ?_
 with_reducible refine bE ?_
 refine lp2 8 9 (I:=λm x6 x7 H'=>∃i:Int,x6=vi i/\a<i/\i<=16777218/\m=(b-i).toNat/\Rg r ty n H0 H' L) ?_ _ ⟨a+1,rfl,aa,aa,rfl,hB⟩;rintro m x6 x7 rg H' ⟨i,rfl,h4,h5,hm,hB⟩;refine dJ.sH λK hK=>?_;refine tl ?_;refine hB.aY ?_;refine ah (λhc=>?_) λhc=>?_;rotate_left
 .subst hK;refine hB.aY ?_;refine rn ?_;exact hB
 refine zm 9 (I:=λm x7 H'=>∃j:Int,x7=vi j/\a<=j/\j<=i/\m=(j-a).toNat/\Rg r ty n H0 H' L) ?_ _ ⟨i,rfl,aa,aa,rfl,hB⟩;rintro m2 x7 rg H2 ⟨j,rfl,h6,h7,hm2,hB⟩
 have fin:∀rg H3,Rg r ty n H0 H3 L->dJ Pg X (sub tH [1,0,0,1,1]) (sQ (sl r n c) (vi a) (vi b) cv (vi i) (vi j) rg H3) K:=by
  intro rg H3 hB;subst hK;refine tl ?_;refine hB.aY ?_;with_reducible refine bE ?_;exact⟨(b-(i+1)).toNat,aa,_,_,_,_,rfl,i+1,rfl,aa,aa,rfl,hB⟩
 refine tl ?_;refine hB.aY ?_;refine ah (λhd=>?_) λhd=>?_;rotate_left
 .refine⟨by kernel_rfl,?_⟩;exact fin _ _ hB
 repeat(first|(refine hB.aY ?_)|(with_reducible refine dD ?_)|(with_reducible refine fH ?_)|(with_reducible refine hB.Ec aa aa λza zb=>?_)|(with_reducible refine hcm.call hB λzc Hn hB Dh=>?_)|((with_reducible refine And.intro ?_ ?_);focus ((simp only[cB,dn,dL Dh]);kernel_rfl)))
 refine bO (λhb=>?_) λhb=>?_;rotate_left
 .exact fin _ _ hB
 refine tl ?_
 repeat(first|(refine hB.aY ?_)|(with_reducible refine dD ?_)|(with_reducible refine fH ?_)|(with_reducible refine hB.Ec aa aa λza zb=>?_)|(with_reducible refine hB.QX aa aa λHn hB=>?_)|((with_reducible refine And.intro ?_ ?_);focus ((simp only[cB,dn,dL Dh]);kernel_rfl)))
 exact⟨(j-1-a).toNat,aa,_,_,_,rfl,j-1,rfl,aa,aa,rfl,hB⟩
theorem Rb(hcm:vg cv)(hn:n<=16777216)(hB:Rg r ty n H0 H L)(a b:Int)(h1:0<=a)(h2:b<=n)(h3:a<b):
 az Pg X 217 [sl r n c,vi a,vi b,cv] H λv H'=>Rg r ty n H0 H' L:=by
 refine ce [0,1,2,3,8,9,10,11,12] ?_;refine tl ?_
 repeat(first|(with_reducible refine dD ?_)|(with_reducible refine PU.quo aa aa aa λqd hd1 hd2 hd3=>?_))
 refine zm 11 (I:=λm x9 H'=>∃i:Int,x9=vi i/\-1<=i/\i<=16777216/\m=(i+1).toNat/\Rg r ty n H0 H' L) ?_ _ ⟨_,rfl,aa,aa,rfl,hB⟩;rintro m x9 rg H' ⟨i,rfl,h4,h5,hm,hB⟩;refine tl ?_;refine hB.aY ?_;refine ah (λhc=>?_) λhc=>?_
 .refine az.mono (AY hcm hn hB i (b-a) a aa aa aa aa aa) ?_;rintro v H2 hB
  with_reducible refine dD ?_
  exact⟨i.toNat,aa,_,_,_,rfl,i-1,rfl,aa,aa,aa,hB⟩
 refine tl ?_
 with_reducible refine dD ?_
 refine zm 12 (I:=λm dR H'=>∃i:Int,dR=vi i/\-1<=i/\i<b-a/\m=(i+1).toNat/\Rg r ty n H0 H' L) ?_ _ ⟨_,rfl,aa,aa,rfl,hB⟩;rintro m dR rg H' ⟨i,rfl,h4,h5,hm,hB⟩;refine tl ?_;refine hB.aY ?_;refine ah (λhc=>?_) λhc=>?_
 .repeat(first|(refine hB.aY ?_)|(with_reducible refine bE ?_)|(with_reducible refine fH ?_)|(with_reducible refine hB.Ec aa aa λza zb=>?_)|(with_reducible refine hB.QX aa aa λHn hB=>?_)|(refine nO ?_))
  refine az.mono (AY hcm hn hB 0 i a aa aa aa aa aa) ?_;rintro v H2 hB
  with_reducible refine dD ?_
  exact⟨i.toNat,aa,_,_,_,rfl,i-1,rfl,aa,aa,aa,hB⟩
 .refine rn ?_;exact hB
theorem JZ(hcm:vg cv)(hn:n<=16777216)(hB:Rg r ty n H0 H L)(a b:Int)(h1:0<=a)(h2:b<=n)(h3:a<=b):
 az Pg X 220 [sl r n c,vi a,vi b,cv] H λv H'=>Rg r ty n H0 H' L:=by
 refine ce [0,1,2,8,9] ?_;refine tl ?_
 with_reducible refine dD ?_
 refine lp2 8 9 (I:=λm x6 x7 H'=>∃i j:Int,x6=vi i/\x7=vi j/\a<=i/\j<b/\i<=16777218/\-2<=j/\m=(j-i).toNat/\Rg r ty n H0 H' L) ?_ _ ⟨_,_,rfl,rfl,aa,aa,aa,aa,rfl,hB⟩;rintro m x6 x7 rg H' ⟨i,j,rfl,rfl,h4,h5,h6,h7,hm,hB⟩;refine tl ?_;refine hB.aY ?_;refine ah (λhc=>?_) λhc=>?_
 .repeat(first|(refine hB.aY ?_)|(with_reducible refine bE ?_)|(with_reducible refine dD ?_)|(with_reducible refine fH ?_)|(with_reducible refine hB.Ec aa aa λza zb=>?_)|(with_reducible refine hB.QX aa aa λHn hB=>?_)|(refine nO ?_))
  exact⟨(j-1-(i+1)).toNat,aa,_,_,_,_,rfl,i+1,j-1,rfl,rfl,aa,aa,aa,aa,rfl,hB⟩
 .refine rn ?_;exact hB
theorem MH(hcm:vg cv)(hn:n<=16777216)(hB:Rg r ty n H0 H L)(a b:Int)(h1:0<=a)(h2:b<=n)(h3:a+12<b):
 az Pg X 219 [sl r n c,vi a,vi b,cv] H λv H'=>∃p h:Int,v=.tuple ⟨[vi p,vi h]⟩/\a<p/\p+1<b/\Rg r ty n H0 H' L:=by
 refine ce [0,1,2,3,8,9,10,11,12,13,14,55] ?_;refine tl ?_
 with_reducible refine dD ?_;refine hB.aY ?_
 refine hB.new λH1 q hB=>?_
 repeat(first|(with_reducible refine bE ?_)|(with_reducible refine FX ?_)|(with_reducible refine PU.quo aa aa aa λqd hd1 hd2 hd3=>?_))
 rw[aS aa];refine hB.aY ?_
 have fin:∀(i j k s:Int) H2,(a<i/\i+1<b)->(a<j/\j+1<b)->(a<k/\k+1<b)->Rg r ty n H0 H2 ((q,3,[vi s])::L)->
  az Pg X 226 [sl r n c,vi i,vi j,vi k,.pointer<|some ⟨q,0,none⟩,cv] H2 λv H'=>∃m s',v=vi m/\(a<m/\m+1<b)/\Rg r ty n H0 H' ((q,3,[vi s'])::L):=by
  intro i j k s H2 hi hj hk hB;refine az.mono (Er hcm hB i j k aa aa aa) ?_;rintro _ H3 ⟨m,s',rfl,hm,hB⟩;exact⟨m,s',rfl,aa,hB⟩
 refine ah (λhc=>?_) λhc=>?_
 .refine az.mono (vG hcm hn hB _ aa) ?_;rintro _ H2 ⟨m1,s1,rfl,h4,h5,hB⟩;refine az.mono (vG hcm hn hB _ aa) ?_;rintro _ H3 ⟨m2,s2,rfl,h6,h7,hB⟩;refine az.mono (vG hcm hn hB _ aa) ?_;rintro _ H4 ⟨m3,s3,rfl,h8,h9,hB⟩;refine tl ?_;refine az.mono (fin _ _ _ _ _ aa aa aa hB) ?_;clear hc h4 h5 h6 h7 h8 h9 fin;rintro _ H3 ⟨m,s',rfl,hm,hB⟩;refine hB.aY ?_;refine tl ?_;refine hB.ld 0 rfl rfl ?_;have hB2:=hB.drop;refine hB.aY ?_;refine ah (λhc=>?_) λhc=>?_
  .refine rr ?_;exact⟨_,_,rfl,aa,aa,hB2⟩
  refine ah (λhc=>?_) λhc=>?_
  .refine rr ?_;exact⟨_,_,rfl,aa,aa,hB2⟩
  .refine rr ?_;exact⟨_,_,rfl,aa,aa,hB2⟩
 .refine tl ?_;refine az.mono (fin _ _ _ _ _ aa aa aa hB) ?_;clear hc fin;rintro _ H3 ⟨m,s',rfl,hm,hB⟩;refine hB.aY ?_;refine tl ?_;refine hB.ld 0 rfl rfl ?_;have hB2:=hB.drop;refine hB.aY ?_;refine ah (λhc=>?_) λhc=>?_
  .refine rr ?_;exact⟨_,_,rfl,aa,aa,hB2⟩
  refine ah (λhc=>?_) λhc=>?_
  .refine rr ?_;exact⟨_,_,rfl,aa,aa,hB2⟩
  .refine rr ?_;exact⟨_,_,rfl,aa,aa,hB2⟩
theorem J2(hcm:vg cv)(hn:n<=16777216)(hB:Rg r ty n H0 H L)(a b:Int)(h1:0<=a)(h2:b<=n)(h3:a<b):
 az Pg X 221 [sl r n c,vi a,vi b,cv] H λv H'=>isB v/\Rg r ty n H0 H' L:=by
 refine ce [0,1,2,3,8,9,10,11,12] ?_;refine tl ?_
 with_reducible refine bE ?_
 refine V' 8 9 10 11 12 (I:=λm x6 x7 x8 x9 dR H'=>∃i j:Int,x7=vi i/\x8=vi j/\a<i/\i<=b/\j<=5/\0<=j/\m=(5-j).toNat/\Rg r ty n H0 H' L) ?_ _ ⟨_,_,rfl,rfl,aa,aa,aa,aa,rfl,hB⟩;rintro m x6 x7 x8 x9 dR rg H' ⟨i,j,rfl,rfl,h4,h5,h6,h6',hm,hB⟩;refine dJ.sH λK hK=>?_;refine tl ?_;refine hB.aY ?_;refine ah (λhc=>?_) λhc=>?_;rotate_left
 .subst hK;refine hB.aY ?_;refine tl ?_;refine rr ?_;exact⟨⟨_,rfl⟩,hB⟩
 refine zm 9 (I:=λm x7 H'=>∃i:Int,x7=vi i/\a<i/\i<=b/\m=(b-i).toNat/\Rg r ty n H0 H' L) ?_ _ ⟨_,rfl,aa,aa,rfl,hB⟩;rintro m2 x7 rg H2 ⟨i,rfl,h7,h8,hm2,hB⟩;clear h4 h5
 have fin:∀x9 dR rg H3,i<b->Rg r ty n H0 H3 L->dJ Pg X (sub dA [1,1,0,1,0,0,1,1]) (fM (sl r n c) (vi a) (vi b) cv x6 (vi i) (vi j) x9 dR rg H3) K:=by
  intro x9 dR rg H3 hib hB;subst hK;refine tl ?_;refine hB.aY ?_;with_reducible refine bE ?_;exact⟨(5-(j+1)).toNat,aa,_,_,_,_,_,_,_,rfl,i,j+1,rfl,rfl,aa,aa,aa,aa,rfl,hB⟩
 have lp2:∀x9 rg H3,i<b->Rg r ty n H0 H3 L->dJ Pg X (.loop<|sub dA [1,1,0,1,0,0,1,0,0,1,1,1,1,1,1,0,1,0,0]) (fM (sl r n c) (vi a) (vi b) cv x6 (vi i) (vi j) x9 (vi<|i+1) rg H3) (j3 6<|j3 1<|nR Pg X (sub dA [1,1,0,1,0,0,1,1]) K):=by
  intro x9 rg H3 hib hB;refine zm 12 (I:=λm dR H'=>∃k:Int,dR=vi k/\i<k/\k<=b/\m=(b-k).toNat/\Rg r ty n H0 H' L) ?_ _ ⟨_,rfl,aa,aa,rfl,hB⟩;rintro m3 dR rg H4 ⟨k,rfl,h9,h10,MG,hB⟩;refine tl ?_;refine hB.aY ?_;refine ah (λhe=>?_) λhe=>?_;rotate_left
  .exact fin _ _ _ _ hib hB
  repeat(first|(refine hB.aY ?_)|(with_reducible refine dD ?_)|(with_reducible refine fH ?_)|(with_reducible refine hB.Ec aa aa λza zb=>?_)|(with_reducible refine hcm.call hB λzc Hn hB Dh=>?_)|((with_reducible refine And.intro ?_ ?_);focus ((simp only[cB,dn,dL Dh]);kernel_rfl)))
  refine bO (λhb=>?_) λhb=>?_
  .exact fin _ _ _ _ hib hB
  repeat(first|(refine hB.aY ?_)|(with_reducible refine bE ?_)|(with_reducible refine dD ?_)|(with_reducible refine fH ?_)|(with_reducible refine hB.Ec aa aa λza zb=>?_)|(with_reducible refine hB.QX aa aa λHn hB=>?_)|((with_reducible refine And.intro ?_ ?_);focus ((simp only[cB,dn,dL Dh]);kernel_rfl)))
  exact⟨(b-(k+1)).toNat,aa,_,_,_,rfl,k+1,rfl,aa,aa,rfl,hB⟩
 have sU:∀x9 rg H3,i<b->Rg r ty n H0 H3 L->dJ Pg X (sub dA [1,1,0,1,0,0,1,0,0,1,1,1,1,1]) (fM (sl r n c) (vi a) (vi b) cv x6 (vi i) (vi j) x9 dR rg H3) (j3 1<|nR Pg X (sub dA [1,1,0,1,0,0,1,1]) K):=by
  intro x9 rg H3 hib hB;refine tl ?_
  repeat(first|(refine hB.aY ?_)|(with_reducible refine dD ?_))
  refine ah (λhd=>?_) λhd=>?_;rotate_left
  .exact fin _ _ _ _ hib hB
  with_reducible refine bE ?_
  exact lp2 _ _ _ hib hB
 have yo:∀rg H3,Rg r ty n H0 H3 L->dJ Pg X (sub dA [1,1,0,1,0,0,1,0,0,1]) (fM (sl r n c) (vi a) (vi b) cv x6 (vi i) (vi j) x9 dR rg H3) (j3 1<|nR Pg X (sub dA [1,1,0,1,0,0,1,1]) K):=by
  intro rg H3 hB;refine tl ?_;refine hB.aY ?_;refine ah (λhd=>?_) λhd=>?_
  .subst hK;refine hB.aY ?_;refine rr ?_;exact⟨⟨_,rfl⟩,hB⟩
  with_reducible refine dD ?_;refine hB.aY ?_
  refine ah (λhe=>?_) λhe=>?_
  .subst hK;refine hB.aY ?_;refine rr ?_;exact⟨⟨_,rfl⟩,hB⟩
  repeat(first|(refine hB.aY ?_)|(with_reducible refine dD ?_)|(with_reducible refine fH ?_)|(with_reducible refine hB.Ec aa aa λza zb=>?_)|(with_reducible refine hB.QX aa aa λHn hB=>?_)|(refine nO ?_))
  refine ah (λhg=>?_) λhg=>?_;rotate_left
  .with_reducible refine dD ?_;refine hB.aY ?_
   refine ah (λhd=>?_) λhd=>?_;rotate_left
   .exact fin _ _ _ _ aa hB
   with_reducible refine bE ?_
   exact lp2 _ _ _ aa hB
  with_reducible refine dD ?_
  refine zm 11 (I:=λm x9 H'=>∃k:Int,x9=vi k/\0<=k/\k<i/\m=k.toNat/\Rg r ty n H0 H' L) ?_ _ ⟨_,rfl,aa,aa,rfl,hB⟩;rintro m3 x9 rg H4 ⟨k,rfl,h9,h10,MG,hB⟩;refine tl ?_;refine hB.aY ?_;refine ah (λhe=>?_) λhe=>?_;rotate_left
  .exact sU _ _ _ aa hB
  repeat(first|(refine hB.aY ?_)|(with_reducible refine dD ?_)|(with_reducible refine fH ?_)|(with_reducible refine hB.Ec aa aa λza zb=>?_)|(with_reducible refine hcm.call hB λzc Hn hB Dh=>?_)|((with_reducible refine And.intro ?_ ?_);focus ((simp only[cB,dn,dL Dh]);kernel_rfl)))
  refine bO (λhb=>?_) λhb=>?_
  .exact sU _ _ _ aa hB
  repeat(first|(refine hB.aY ?_)|(with_reducible refine dD ?_)|(with_reducible refine fH ?_)|(with_reducible refine hB.Ec aa aa λza zb=>?_)|(with_reducible refine hB.QX aa aa λHn hB=>?_)|((with_reducible refine And.intro ?_ ?_);focus ((simp only[cB,dn,dL Dh]);kernel_rfl)))
  exact⟨(k-1).toNat,aa,_,_,_,rfl,k-1,rfl,aa,aa,rfl,hB⟩
 refine tl ?_;refine hB.aY ?_;refine ah (λhd=>?_) λhd=>?_;rotate_left
 .refine⟨by kernel_rfl,?_⟩;exact yo _ _ hB
 repeat(first|(refine hB.aY ?_)|(with_reducible refine dD ?_)|(with_reducible refine fH ?_)|(with_reducible refine hB.Ec aa aa λza zb=>?_)|(with_reducible refine hcm.call hB λzc Hn hB Dh=>?_)|((with_reducible refine And.intro ?_ ?_);focus ((simp only[cB,dn,dL Dh]);kernel_rfl)))
 refine bO (λhb=>?_) λhb=>?_;rotate_left
 .exact yo _ _ hB
 with_reducible refine bE ?_
 exact⟨(b-(i+1)).toNat,aa,_,_,_,rfl,i+1,rfl,aa,aa,rfl,hB⟩
theorem MI(hcm:vg cv)(hn:n<=16777216)(hB:Rg r ty n H0 H L)(a b p:Int)(h1:0<=a)(h2:b<=n)(h3:a<b)(hp:a<=p/\p<b):
 az Pg X 222 [sl r n c,vi a,vi b,vi p,cv] H λv H'=>∃i:Int,v=vi i/\a<i/\i<=b+1/\Rg r ty n H0 H' L:=by
 refine ce [0,1,2,3,4,10,11,12] ?_;refine tl ?_
 repeat(first|(refine hB.aY ?_)|(with_reducible refine bE ?_)|(with_reducible refine dD ?_)|(with_reducible refine fH ?_)|(with_reducible refine hB.Ec aa aa λza zb=>?_)|(with_reducible refine hB.QX aa aa λHn hB=>?_)|(refine nO ?_))
 refine lp2 11 12 (I:=λm x9 dR H'=>∃i j:Int,x9=vi i/\dR=vi j/\a<i/\i<=b+1/\j<b/\i-2<=j/\m=(j+2-i).toNat/\Rg r ty n H0 H' L) ?_ _ ⟨_,_,rfl,rfl,aa,aa,aa,aa,rfl,hB⟩;rintro m x9 dR rg H1 ⟨i,j,rfl,rfl,h4,h5,h6,h7,hm,hB⟩;refine dJ.sH λK hK=>?_
 have sU:∀(i2 j2:Int) rg H3,i<=i2->j2<=j->i2-2<=j2->i2<=b+1->Rg r ty n H0 H3 L->dJ Pg X (sub mK [1,1,1,0,0,0,0,1,1]) (l6 (sl r n c) (vi a) (vi b) (vi p) cv (vi 0) (vi i2) (vi j2) rg H3) (j3 1 K):=by
  intro i2 j2 rg H3 g1 g2 g3 g4 hB;subst hK;refine tl ?_;refine hB.aY ?_;refine ah (λhd=>?_) λhd=>?_
  .refine tl ?_;refine rr ?_;exact⟨_,rfl,aa,aa,hB⟩
  repeat(first|(refine hB.aY ?_)|(with_reducible refine bE ?_)|(with_reducible refine dD ?_)|(with_reducible refine fH ?_)|(with_reducible refine hB.Ec aa aa λza zb=>?_)|(with_reducible refine hB.QX aa aa λHn hB=>?_)|(refine nO ?_))
  exact⟨(j2-1+2-(i2+1)).toNat,aa,_,_,_,_,rfl,i2+1,j2-1,rfl,rfl,aa,aa,aa,aa,rfl,hB⟩
 have yo:∀(i2:Int) rg H3,i<=i2->i2-2<=j->i2<=b+1->Rg r ty n H0 H3 L->dJ Pg X (sub mK [1,1,1,0,0,0,0,1]) (l6 (sl r n c) (vi a) (vi b) (vi p) cv (vi 0) (vi i2) (vi j) rg H3) (j3 1 K):=by
  intro i2 rg H3 g1 g2 g3 hB;refine tl ?_;refine zm 12 (I:=λm dR H'=>∃j2:Int,dR=vi j2/\j2<=j/\i2-2<=j2/\m=(j2+2-i2).toNat/\Rg r ty n H0 H' L) ?_ _ ⟨_,rfl,aa,aa,rfl,hB⟩;rintro m3 dR rg H4 ⟨j2,rfl,h9,h10,MG,hB⟩;refine tl ?_;refine hB.aY ?_;refine ah (λhe=>?_) λhe=>?_;rotate_left
  .refine⟨by kernel_rfl,?_⟩;exact sU _ _ _ _ aa aa aa aa hB
  repeat(first|(refine hB.aY ?_)|(with_reducible refine fH ?_)|(with_reducible refine hB.Ec aa aa λza zb=>?_)|(with_reducible refine hcm.call hB λzc Hn hB Dh=>?_)|((with_reducible refine And.intro ?_ ?_);focus ((simp only[cB,dn,dL Dh]);kernel_rfl)))
  refine bO (λhb=>?_) λhb=>?_;rotate_left
  .exact sU _ _ _ _ aa aa aa aa hB
  with_reducible refine dD ?_
  exact⟨(j2-1+2-i2).toNat,aa,_,_,_,rfl,j2-1,rfl,aa,aa,rfl,hB⟩
 refine tl ?_;refine zm 11 (I:=λm x9 H'=>∃i2:Int,x9=vi i2/\i<=i2/\i2-2<=j/\i2<=b+1/\m=(j+2-i2).toNat/\Rg r ty n H0 H' L) ?_ _ ⟨_,rfl,aa,aa,aa,rfl,hB⟩;rintro m3 x9 rg H4 ⟨i2,rfl,h9,h10,h11,MG,hB⟩;refine tl ?_;refine hB.aY ?_;refine ah (λhe=>?_) λhe=>?_;rotate_left
 .refine⟨by kernel_rfl,?_⟩;exact yo _ _ _ aa aa aa hB
 repeat(first|(refine hB.aY ?_)|(with_reducible refine fH ?_)|(with_reducible refine hB.Ec aa aa λza zb=>?_)|(with_reducible refine hcm.call hB λzc Hn hB Dh=>?_)|((with_reducible refine And.intro ?_ ?_);focus ((simp only[cB,dn,dL Dh]);kernel_rfl)))
 refine bO (λhb=>?_) λhb=>?_;rotate_left
 .exact yo _ _ _ aa aa aa hB
 with_reducible refine bE ?_
 exact⟨(j+2-(i2+1)).toNat,aa,_,_,_,rfl,i2+1,rfl,aa,aa,aa,rfl,hB⟩
theorem Re(hcm:vg cv)(hn:n<=16777216)(hB:Rg r ty n H0 H L)(a b p:Int)(h1:0<=a)(h2:b<=n)(h3:a<b)(hp:a<=p/\p<b):
 az Pg X 223 [sl r n c,vi a,vi b,vi p,cv] H λv H'=>∃(i:Int)(f:Bool),v=.tuple ⟨[vi i,.bool f]⟩/\a<=i/\i<b/\Rg r ty n H0 H' L:=by
 refine ce [0,1,2,3,4,10,11,12,13] ?_;refine tl ?_
 repeat(first|(refine hB.aY ?_)|(with_reducible refine bE ?_)|(with_reducible refine dD ?_)|(with_reducible refine fH ?_)|(with_reducible refine hB.Ec aa aa λza zb=>?_)|(with_reducible refine hB.QX aa aa λHn hB=>?_)|(refine nO ?_))
 refine dJ.sH λK hK=>?_
 have out:∀(i j:Int) x8 x9 rg H3,a<=j->j<b->Rg r ty n H0 H3 L->dJ Pg X (sub fF [1,1,1,1,1,1,1,1,1,1]) (fQ (sl r n c) (vi a) (vi b) (vi p) cv x8 x9 (vi i) (vi j) rg H3) (f_ Pg [.tmp 10,.tmp 11] λv H'=>∃(i:Int)(f:Bool),v=.tuple ⟨[vi i,.bool f]⟩/\a<=i/\i<b/\Rg r ty n H0 H' L):=by
  intro i j x8 x9 rg H3 g1 g2 hB;refine tl ?_
  repeat(first|(refine hB.aY ?_)|(with_reducible refine fH ?_)|(with_reducible refine hB.Ec aa aa λza zb=>?_)|(with_reducible refine hB.QX aa aa λHn hB=>?_)|(refine nO ?_))
  refine rr ?_;exact⟨_,_,rfl,aa,aa,hB⟩
 have lp:∀(i j:Int) x8 x9 rg H3,a<i->j<b->a<=j->i-2<=j->Rg r ty n H0 H3 L->dJ Pg X (.loop<|sub fF [1,1,1,1,1,1,1,1,1,0,0,0]) (fQ (sl r n c) (vi a) (vi b) (vi p) cv x8 x9 (vi i) (vi j) rg H3) (j3 4<|nR Pg X (sub fF [1,1,1,1,1,1,1,1,1,1]) (f_ Pg [.tmp 10,.tmp 11] λv H'=>∃(i:Int)(f:Bool),v=.tuple ⟨[vi i,.bool f]⟩/\a<=i/\i<b/\Rg r ty n H0 H' L)):=by
  intro i j x8 x9 rg H3 g1 g2 g3 g4 hB;refine lp2 12 13 (I:=λm dR fC H'=>∃i j:Int,dR=vi i/\fC=vi j/\a<i/\j<b/\a<=j/\i-2<=j/\m=(j+2-i).toNat/\Rg r ty n H0 H' L) ?_ _ ⟨_,_,rfl,rfl,g1,g2,g3,g4,rfl,hB⟩;clear g1 g2 g3 g4 hB i j;rintro m dR fC rg H1 ⟨i,j,rfl,rfl,h4,h5,h6,h7,hm,hB⟩;refine dJ.sH λK hK=>?_
  have sU:∀(i2 j2:Int) rg H3,i<=i2->j2<=j->i2-2<=j2->a<=j2->Rg r ty n H0 H3 L->dJ Pg X (sub fF [1,1,1,1,1,1,1,1,1,0,0,0,0,1,1]) (fQ (sl r n c) (vi a) (vi b) (vi p) cv x8 x9 (vi i2) (vi j2) rg H3) (j3 5 K):=by
   intro i2 j2 rg H3 g1 g2 g3 g4 hB;subst hK;refine tl ?_;refine hB.aY ?_;refine ah (λhd=>?_) λhd=>?_
   .exact out _ _ _ _ _ _ aa aa hB
   repeat(first|(refine hB.aY ?_)|(with_reducible refine bE ?_)|(with_reducible refine dD ?_)|(with_reducible refine fH ?_)|(with_reducible refine hB.Ec aa aa λza zb=>?_)|(with_reducible refine hB.QX aa aa λHn hB=>?_)|(refine nO ?_))
   exact⟨(j2-1+2-(i2+1)).toNat,aa,_,_,_,_,rfl,i2+1,j2-1,rfl,rfl,aa,aa,aa,aa,rfl,hB⟩
  have yo:∀(i2:Int) rg H3,i<=i2->i2-2<=j->Rg r ty n H0 H3 L->dJ Pg X (sub fF [1,1,1,1,1,1,1,1,1,0,0,0,0,1]) (fQ (sl r n c) (vi a) (vi b) (vi p) cv x8 x9 (vi i2) (vi j) rg H3) (j3 5 K):=by
   intro i2 rg H3 g1 g2 hB;refine tl ?_;refine zm 13 (I:=λm dR H'=>∃j2:Int,dR=vi j2/\j2<=j/\i2-2<=j2/\a<=j2/\m=(j2+2-i2).toNat/\Rg r ty n H0 H' L) ?_ _ ⟨_,rfl,aa,aa,aa,rfl,hB⟩;rintro m3 dR rg H4 ⟨j2,rfl,h9,h10,h11,MG,hB⟩;refine tl ?_;refine hB.aY ?_;refine ah (λhe=>?_) λhe=>?_;rotate_left
   .refine⟨by kernel_rfl,?_⟩;exact sU _ _ _ _ aa aa aa aa hB
   repeat(first|(refine hB.aY ?_)|(with_reducible refine fH ?_)|(with_reducible refine hB.Ec aa aa λza zb=>?_)|(with_reducible refine hcm.call hB λzc Hn hB Dh=>?_)|((with_reducible refine And.intro ?_ ?_);focus ((simp only[cB,dn,dL Dh]);kernel_rfl)))
   refine bO (λhb=>?_) λhb=>?_;rotate_left
   .exact sU _ _ _ _ aa aa aa aa hB
   with_reducible refine dD ?_
   exact⟨(j2-1+2-i2).toNat,aa,_,_,_,rfl,j2-1,rfl,aa,aa,aa,rfl,hB⟩
  refine tl ?_;refine zm 12 (I:=λm x9 H'=>∃i2:Int,x9=vi i2/\i<=i2/\i2-2<=j/\m=(j+2-i2).toNat/\Rg r ty n H0 H' L) ?_ _ ⟨_,rfl,aa,aa,rfl,hB⟩;rintro m3 x9 rg H4 ⟨i2,rfl,h9,h10,MG,hB⟩;refine tl ?_;refine hB.aY ?_;refine ah (λhe=>?_) λhe=>?_;rotate_left
  .refine⟨by kernel_rfl,?_⟩;exact yo _ _ _ aa aa hB
  repeat(first|(refine hB.aY ?_)|(with_reducible refine fH ?_)|(with_reducible refine hB.Ec aa aa λza zb=>?_)|(with_reducible refine hcm.call hB λzc Hn hB Dh=>?_)|((with_reducible refine And.intro ?_ ?_);focus ((simp only[cB,dn,dL Dh]);kernel_rfl)))
  refine bO (λhb=>?_) λhb=>?_;rotate_left
  .exact yo _ _ _ aa aa hB
  with_reducible refine bE ?_
  exact⟨(j+2-(i2+1)).toNat,aa,_,_,_,rfl,i2+1,rfl,aa,aa,rfl,hB⟩
 subst hK
 have Zg:∀(i j:Int) x8 x9 rg H3,a<i->j<b->a<=j->i-2<=j->Rg r ty n H0 H3 L->dJ Pg X (sub fF [1,1,1,1,1]) (fQ (sl r n c) (vi a) (vi b) (vi p) cv x8 x9 (vi i) (vi j) rg H3) (f_ Pg [.tmp 10,.tmp 11] λv H'=>∃(i:Int)(f:Bool),v=.tuple ⟨[vi i,.bool f]⟩/\a<=i/\i<b/\Rg r ty n H0 H' L):=by
  intro i j x8 x9 rg H3 g1 g2 g3 g4 hB;refine tl ?_;refine hB.aY ?_;refine ah (λhe=>?_) λhe=>?_
  .repeat(first|(refine hB.aY ?_)|(with_reducible refine fH ?_)|(with_reducible refine hB.Ec aa aa λza zb=>?_)|(with_reducible refine hB.QX aa aa λHn hB=>?_)|(refine nO ?_))
   refine rr ?_;exact⟨_,_,rfl,aa,aa,hB⟩
  repeat(first|(refine hB.aY ?_)|(with_reducible refine bE ?_)|(with_reducible refine dD ?_)|(with_reducible refine fH ?_)|(with_reducible refine hB.Ec aa aa λza zb=>?_)|(with_reducible refine hB.QX aa aa λHn hB=>?_)|(refine nO ?_))
  exact lp (i+1) (j-1) _ _ _ _ aa aa aa aa hB
 have Zh:∀(i:Int) x8 x9 rg H3,a<i->i<=b->Rg r ty n H0 H3 L->dJ Pg X (sub fF [1,1,1,1]) (fQ (sl r n c) (vi a) (vi b) (vi p) cv x8 x9 (vi i) (vi<|b-1) rg H3) (f_ Pg [.tmp 10,.tmp 11] λv H'=>∃(i:Int)(f:Bool),v=.tuple ⟨[vi i,.bool f]⟩/\a<=i/\i<b/\Rg r ty n H0 H' L):=by
  intro i x8 x9 rg H3 g1 g2 hB;refine tl ?_;refine zm 13 (I:=λm dR H'=>∃j2:Int,dR=vi j2/\j2<b/\i-2<=j2/\a<=j2/\m=(j2+2-i).toNat/\Rg r ty n H0 H' L) ?_ _ ⟨_,rfl,aa,aa,aa,rfl,hB⟩;rintro m3 dR rg H4 ⟨j2,rfl,h9,h10,h11,MG,hB⟩;refine tl ?_;refine hB.aY ?_;refine ah (λhe=>?_) λhe=>?_;rotate_left
  .refine⟨by kernel_rfl,?_⟩;exact Zg _ _ _ _ _ _ aa aa aa aa hB
  repeat(first|(refine hB.aY ?_)|(with_reducible refine fH ?_)|(with_reducible refine hB.Ec aa aa λza zb=>?_)|(with_reducible refine hcm.call hB λzc Hn hB Dh=>?_)|((with_reducible refine And.intro ?_ ?_);focus ((simp only[cB,dn,dL Dh]);kernel_rfl)))
  refine bO (λhb=>?_) λhb=>?_;rotate_left
  .exact Zg _ _ _ _ _ _ aa aa aa aa hB
  with_reducible refine dD ?_
  exact⟨(j2-1+2-i).toNat,aa,_,_,_,rfl,j2-1,rfl,aa,aa,aa,rfl,hB⟩
 refine zm 12 (I:=λm x9 H'=>∃i2:Int,x9=vi i2/\a<i2/\i2<=b/\m=(b-i2).toNat/\Rg r ty n H0 H' L) ?_ _ ⟨_,rfl,aa,aa,rfl,hB⟩;rintro m3 x9 rg H4 ⟨i2,rfl,h9,h10,MG,hB⟩;refine tl ?_;refine hB.aY ?_;refine ah (λhe=>?_) λhe=>?_;rotate_left
 .refine⟨by kernel_rfl,?_⟩;exact Zh _ _ _ _ _ aa aa hB
 repeat(first|(refine hB.aY ?_)|(with_reducible refine fH ?_)|(with_reducible refine hB.Ec aa aa λza zb=>?_)|(with_reducible refine hcm.call hB λzc Hn hB Dh=>?_)|((with_reducible refine And.intro ?_ ?_);focus ((simp only[cB,dn,dL Dh]);kernel_rfl)))
 refine bO (λhb=>?_) λhb=>?_;rotate_left
 .exact Zh _ _ _ _ _ aa aa hB
 with_reducible refine bE ?_
 exact⟨(b-(i2+1)).toNat,aa,_,_,_,rfl,i2+1,rfl,aa,aa,rfl,hB⟩
theorem Jg(hB:Rg r ty n H0 H<|(q,232,[.int .u64 s])::L):
 az Pg X 168 [.pointer (some ⟨q,0,none⟩)] H λv H'=>∃z,v=.int .u64 z/\Rg r ty n H0 H' ((q,232,[.int .u64 z])::L):=by
 refine ce [0,2] ?_;refine tl ?_;refine aF ?_;refine hB.BQ 0 rfl rfl ?_
 try simp only[eF hB.wf,jl,jO]
 refine hB.BQ 0 rfl rfl ?_;refine PU.of (yg aa) ?_;refine PU.of wz ?_
 try simp only[eF hB.wf,jl,jO]
 refine hB.QW 0 rfl rfl (ai rfl) rfl λHn hB=>?_;refine And.intro (by simp only[cB,dn];kernel_rfl) ?_
 try simp only[eF hB.wf,jl,jO]
 refine hB.BQ 0 rfl rfl ?_
 try simp only[eF hB.wf,jl,jO]
 refine hB.BQ 0 rfl rfl ?_;refine PU.of (oL aa) ?_;refine PU.of wz ?_
 try simp only[eF hB.wf,jl,jO]
 refine hB.QW 0 rfl rfl (ai rfl) rfl λHn hB=>?_;refine And.intro (by simp only[cB,dn];kernel_rfl) ?_
 try simp only[eF hB.wf,jl,jO]
 refine hB.BQ 0 rfl rfl ?_
 try simp only[eF hB.wf,jl,jO]
 refine hB.BQ 0 rfl rfl ?_;refine PU.of (yg aa) ?_;refine PU.of wz ?_
 try simp only[eF hB.wf,jl,jO]
 refine hB.QW 0 rfl rfl (ai rfl) rfl λHn hB=>?_;refine And.intro (by simp only[cB,dn];kernel_rfl) ?_
 try simp only[eF hB.wf,jl,jO]
 refine hB.ld 0 rfl rfl ?_;refine rr ?_;exact⟨_,rfl,hB⟩
theorem MK(hcm:vg cv)(hn:n<=1000000)(hB:Rg r ty n H0 H L)(a b:Int)(h1:0<=a)(h2:b<=n)(h3:a+12<b):
 az Pg X 218 [sl r n c,vi a,vi b,cv] H λv H'=>Rg r ty n H0 H' L:=by
 refine ce [0,1,2,8,9,10,11,12] ?_;refine tl ?_;refine dD ?_;refine PU.of oJ ?_;rw[aS aa];rw[vU,qI<|u64_in aa];refine aF ?_;refine hB.new λH1 q hB=>?_;refine hB.st 0 rfl rfl (ai rfl) rfl λHn hB=>?_;refine az.mono (Ep (b-a) aa aa) ?_;rintro _ _ ⟨⟨m,rfl,h4,h5⟩,rfl⟩;refine PU.quo aa aa aa λqd hd1 hd2 hd3=>?_;refine FX ?_;refine bE ?_;refine dD ?_;refine lp2 11 12 (I:=λk x9 dR H'=>∃i s:Int,x9=vi i/\a<i/\i<=b/\k=(b-i).toNat/\Rg r ty n H0 H' ((q,232,[.int .u64 s])::L)) ?_ _ ⟨_,_,rfl,aa,aa,rfl,hB⟩;clear hB hd1 hd2 hd3 qd;rintro k x9 dR rg H3 ⟨i,s,rfl,h6,h7,hk,hB⟩;refine dJ.sH λK hK=>?_;refine tl ?_;refine PU.quo aa aa aa λqd hd1 hd2 hd3=>?_;refine FX ?_;refine bE ?_;refine bE ?_;refine PU.of D7 ?_;refine ah (λhc=>?_) λhc=>?_;rotate_left
 .subst hK;refine aF ?_;refine rn ?_;exact hB.drop
 have hib:i<b-1:=by omega
 clear hc hd1 hd2 hd3 qd;refine az.mono (Jg hB) ?_;rintro _ H4 ⟨z,rfl,hB⟩;refine PU.of (IM<|u64_in aa) ?_;refine PU.of BD ?_;obtain⟨g1,g2⟩:=Ti (a:=z) (b:=m-1) aa;generalize rO .u64 z (m-1)=y at g1 g2;rw[vU,pZ aa aa];refine aF ?_
 have fin:∀(w:Int) rg,0<=w->w<b-a->dJ Pg X (sub mZ [1,1,0,1,1,1,0,0,1,0,0,1,1]) (sS (sl r n c) (vi a) (vi b) cv (vi<|b-a) (.pointer<|some ⟨q,0,none⟩) (.int .u64 m) (vi i) (vi w) rg H4) (j3 1<|nR Pg X (sub mZ [1,1,0,1,1,1,0,0,1,1]) K):=by
  intro w rg g3 g4;subst hK;refine tl ?_
  repeat(first|(refine hB.aY ?_)|(with_reducible refine bE ?_)|(with_reducible refine fH ?_)|(with_reducible refine hB.Ec aa aa λza zb=>?_)|(with_reducible refine hB.QX aa aa λHn hB=>?_)|(refine nO ?_))
  refine tl ?_;refine hB.aY ?_;with_reducible refine bE ?_;exact⟨(b-(i+1)).toNat,aa,_,_,_,_,rfl,i+1,_,rfl,aa,aa,rfl,hB⟩
 refine ah (λhc=>?_) λhc=>?_
 .with_reducible refine dD ?_
  exact fin _ _ aa aa
 .exact fin _ _ aa aa
theorem Vp(hcm:vg cv)(hn:n<=1000000):∀(d:Nat)(H0 H:ag)(L:List cz)(hB:Rg r ty n H0 H L)(a b l:Int)(h1:0<=a)(h2:b<=n)(h3:a<=b+1)(h4:0<=l)(h5:l<=64)(hd:(b-a).toNat<=d),
 az Pg X 214 [sl r n c,vi a,vi b,vi l,cv] H λv H'=>Rg r ty n H0 H' L:=by
 intro d
 induction d using Nat.strongRecOn with
 |_ d ih=>
 intro H0 H L hB a b l h1 h2 h3 h4 h5 hd;refine ce [0,1,2,3,4,10,11,12,13,14,15,16,17,18,19,20] ?_;refine tl ?_
 refine abx 1 2 3 10 11 12 13 14 15 16 17 18 19 20 (I:=λk x1 x2 x3 x8 x9 dR fC gK gq lu iL jU qV qf H'=>∃(a' b' l:Int)(w q:Bool),x1=vi a'/\x2=vi b'/\x3=vi l/\x8=.bool w/\x9=.bool q/\a<=a'/\b'<=b/\a'<=b'+1/\0<=l/\l<=64/\k=(b'+1-a').toNat/\Rg r ty n H0 H' L) ?_ _
  ⟨a,b,l,true,true,rfl,rfl,rfl,rfl,rfl,aa,aa,aa,aa,aa,rfl,hB⟩
 clear hB h4 h5 l H;rintro k x1 x2 x3 x8 x9 dR fC gK gq lu iL jU qV qf rg H1 ⟨a',b',l,w,q,rfl,rfl,rfl,rfl,rfl,h4,h5,h6,h7,h8,hk,hB⟩;refine dJ.sH λK hK=>?_
 have t3:∀(p l:Int)(w q:Bool) gK gq lu iL jU qV qf rg H3,0<=l->l<=64->a'+12<b'->a'<=p->p<b'->Rg r ty n H0 H3 L->dJ Pg X (sub jQ [1,1,0,0,0,1,1,1,1,1,1,1,1])
  (jD (sl r n c) (vi a') (vi b') (vi l) cv (.bool w) (.bool q) (vi<|b'-a') (vi p) gK gq lu iL jU qV qf rg H3) (j3 1 K):=by
  intro p l w q gK gq lu iL jU qV qf rg H3 g1 g2 g3 g4 g5 hB;subst hK;refine tl ?_;refine az.mono (Re hcm aa hB a' b' p aa aa aa aa) ?_;rintro _ H4 ⟨mid,f,rfl,g6,g7,hB⟩;refine aF ?_;refine dD ?_;refine dD ?_;refine PU.quo aa aa aa λqd hd1 hd2 hd3=>?_;clear hd1 hd2 hd3;refine PU.of D6 ?_;refine ah (λhc=>?_) λhc=>?_
  .refine PU.of oJ ?_;refine az.mono (ih (mid-a').toNat aa H0 H4 L hB a' mid l aa aa aa g1 g2<|aj _) ?_;rintro _ H5 hB;refine bE ?_;exact⟨(b'+1-(mid+1)).toNat,aa,_,_,_,_,_,_,_,_,_,_,_,_,_,_,_,_,rfl,mid+1,b',l,_,_,rfl,rfl,rfl,rfl,rfl,aa,aa,aa,g1,g2,rfl,hB⟩
  .refine PU.of oJ ?_;refine bE ?_;refine az.mono (ih (b'-(mid+1)).toNat aa H0 H4 L hB (mid+1) b' l aa aa aa g1 g2<|aj _) ?_;rintro _ H5 hB;exact⟨(mid+1-a').toNat,aa,_,_,_,_,_,_,_,_,_,_,_,_,_,_,_,_,rfl,a',mid,l,_,_,rfl,rfl,rfl,rfl,rfl,aa,aa,aa,g1,g2,rfl,hB⟩
 have t2:∀(p l:Int)(w q:Bool) gK gq lu iL jU qV qf rg H3,0<=l->l<=64->a'+12<b'->a'<=p->p<b'->Rg r ty n H0 H3 L->dJ Pg X (sub jQ [1,1,0,0,0,1,1,1,1,1,1,1])
  (jD (sl r n c) (vi a') (vi b') (vi l) cv (.bool w) (.bool q) (vi<|b'-a') (vi p) gK gq lu iL jU qV qf rg H3) (j3 1 K):=by
  intro p l w q gK gq lu iL jU qV qf rg H3 g1 g2 g3 g4 g5 hB;refine tl ?_;refine hB.aY ?_;refine ah (λhc=>?_) λhc=>?_
  .repeat(first|(refine hB.aY ?_)|(with_reducible refine dD ?_)|(with_reducible refine fH ?_)|(with_reducible refine hB.Ec aa aa λza zb=>?_)|(with_reducible refine hcm.call hB λzc Hn hB Dh=>?_)|((with_reducible refine And.intro ?_ ?_);focus ((simp only[cB,dn,dL Dh]);kernel_rfl)))
   refine tl ?_;refine hB.aY ?_;refine bO (λhb=>?_) λhb=>?_
   .refine az.mono (MI hcm aa hB a' b' p aa aa aa aa) ?_;rintro _ H4 ⟨i,rfl,g6,g7,hB⟩;subst hK;refine hB.aY ?_;exact⟨(b'+1-i).toNat,aa,_,_,_,_,_,_,_,_,_,_,_,_,_,_,_,_,rfl,i,b',l,_,_,rfl,rfl,rfl,rfl,rfl,aa,aa,aa,g1,g2,rfl,hB⟩
   .exact t3 _ _ _ _ _ _ _ _ _ _ _ _ _ g1 g2 g3 g4 g5 hB
  .refine⟨by kernel_rfl,?_⟩;refine tl ?_;refine hB.aY ?_;exact t3 _ _ _ _ _ _ _ _ _ _ _ _ _ g1 g2 g3 g4 g5 hB
 have t1:∀(p h l:Int)(w q:Bool) gq lu iL jU qV qf rg H3,0<=l->l<=64->a'+12<b'->a'<=p->p<b'->Rg r ty n H0 H3 L->dJ Pg X (sub jQ [1,1,0,0,0,1,1,1,1,1,1])
  (jD (sl r n c) (vi a') (vi b') (vi l) cv (.bool w) (.bool q) (vi<|b'-a') (vi p) (vi h) gq lu iL jU qV qf rg H3) (j3 1 K):=by
  intro p h l w q gq lu iL jU qV qf rg H3 g1 g2 g3 g4 g5 hB;refine tl ?_;refine hB.aY ?_;refine bO (λhb=>?_) λhb=>?_
  .refine bO (λhb=>?_) (λhb=>?_)
   .refine tl ?_;refine hB.aY ?_;refine ah (λhc=>?_) λhc=>?_
    .refine az.mono (J2 hcm aa hB a' b' aa aa aa) ?_;rintro _ H4 ⟨⟨bl,rfl⟩,hB⟩;refine hB.aY ?_;refine bO (λhb=>?_) λhb=>?_
     .subst hK;refine hB.aY ?_;refine rr ?_;exact hB
     .exact t2 _ _ _ _ _ _ _ _ _ _ _ _ _ g1 g2 g3 g4 g5 hB
    .exact t2 _ _ _ _ _ _ _ _ _ _ _ _ _ g1 g2 g3 g4 g5 hB
   .refine tl ?_;refine hB.aY ?_;exact t2 _ _ _ _ _ _ _ _ _ _ _ _ _ g1 g2 g3 g4 g5 hB
  .refine tl ?_;refine hB.aY ?_;exact t2 _ _ _ _ _ _ _ _ _ _ _ _ _ g1 g2 g3 g4 g5 hB
 have t0:∀(l:Int)(w q:Bool) fC gK gq lu iL jU qV qf rg H3,0<=l->l<=64->a'+12<b'->Rg r ty n H0 H3 L->dJ Pg X (sub jQ [1,1,0,0,0,1,1,1,1])
  (jD (sl r n c) (vi a') (vi b') (vi l) cv (.bool w) (.bool q) (vi<|b'-a') fC gK gq lu iL jU qV qf rg H3) (j3 1 K):=by
  intro l w q fC gK gq lu iL jU qV qf rg H3 g1 g2 g3 hB;refine tl ?_;refine az.mono (MH hcm aa hB a' b' aa aa aa) ?_;rintro _ H4 ⟨p,h,rfl,g4,g5,hB⟩;refine aF ?_;refine ah (λhc=>?_) λhc=>?_
  .refine az.mono (JZ hcm aa hB a' b' aa aa aa) ?_;rintro _ H5 hB
   repeat(with_reducible refine dD ?_)
   exact t1 _ _ _ _ _ _ _ _ _ _ _ _ _ g1 g2 g3 aa aa hB
  .exact t1 _ _ _ _ _ _ _ _ _ _ _ _ _ g1 g2 g3 aa aa hB
 refine tl ?_
 repeat(first|(refine hB.aY ?_)|(with_reducible refine dD ?_))
 refine ah (λhc=>?_) λhc=>?_
 .refine az.mono (GD hcm aa hB a' b' aa aa aa) ?_;rintro _ H5 hB;subst hK;refine hB.aY ?_;refine rr ?_;exact hB
 refine ah (λhe=>?_) λhe=>?_
 .refine az.mono (Rb hcm aa hB a' b' aa aa aa) ?_;rintro _ H5 hB;subst hK;refine hB.aY ?_;refine rr ?_;exact hB
 refine bO (λhb=>?_) λhb=>?_
 .refine az.mono (MK hcm hn hB a' b' aa aa aa) ?_;rintro _ H5 hB
  with_reducible refine dD ?_
  exact t0 _ _ _ _ _ _ _ _ _ _ _ _ _ aa aa aa hB
 .exact t0 _ _ _ _ _ _ _ _ _ _ _ _ _ aa aa aa hB
section
theorem Gb(a:Int):az Pg X 215 [.int .i32 a] H (Q0 (λv=>v=.bool false) H):=by
 refine ce [0,2] ?_;refine tl ?_;refine aF ?_;refine rr ?_;exact⟨by simp,rfl⟩
theorem J3(a b:Int):az Pg X 209 [.int .i32 a,.int .i32 b] H (Q0 (λv=>∃z:Int,v=vi z) H):=by
 refine ce [0,1,4,5,6] ?_;refine tl ?_;refine az.mono (Gb _) ?_;rintro v H' ⟨rfl,rfl⟩;refine az.mono (Gb _) ?_;rintro v H' ⟨rfl,rfl⟩;refine aF ?_;refine ah (λhc=>?_) λhc=>?_
 .refine rr ?_;exact⟨⟨_,rfl⟩,rfl⟩
 refine ah (λhc=>?_) λhc=>?_
 .refine rr ?_;exact⟨⟨_,rfl⟩,rfl⟩
 .refine rr ?_;exact⟨⟨_,rfl⟩,rfl⟩
theorem abE:vg (.func (.func 208) ⟨[]⟩ ⟨[]⟩):=by
 intro H a b c d hw;show az Pg X 208 [.agg ⟨[.int .i32 a,.int .i32 b]⟩,.agg ⟨[.int .i32 c,.int .i32 d]⟩] H _;have hS:=SH.refl hw;refine ce [0,1,2,3,4] ?_;refine tl ?_;refine hS.box rfl λH1 r hS=>?_;refine hS.box rfl λH2 r2 hS=>?_;refine hS.aY ?_;refine hS.dQ ?_;refine hS.dQ ?_;refine az.mono (J3 _ _) ?_;rintro v H' ⟨⟨z,rfl⟩,rfl⟩;refine rr ?_;exact⟨⟨z,rfl⟩,hS.ext⟩
theorem Rf(v cv:Value):az Pg X 216 [v,vi 0,vi 0,cv] H λ_ H'=>H'=H:=by
 refine ce [0,1,2,3,8,9] ?_;refine tl ?_;refine bE ?_;refine lp2 8 9 (I:=λm x8 x9 H'=>x8=vi 1/\H'=H) ?_ 0 ⟨rfl,rfl⟩;rintro m x8 x9 rg H' ⟨rfl,rfl⟩;refine tl ?_;refine aF ?_;rw[bM aa];refine aF ?_;refine rn ?_;exact rfl
theorem ahZ(v cv l:Value):az Pg X 214 [v,vi 0,vi 0,l,cv] H λ_ H'=>H'=H:=by
 refine ce [0,1,2,3,4,10,11,12,13,14,15,16,17,18,19,20] ?_;refine tl ?_;refine abx 1 2 3 10 11 12 13 14 15 16 17 18 19 20 (I:=λk x1 x2 x3 x8 x9 dR fC gK gq lu iL jU qV qf H'=>x1=vi 0/\x2=vi 0/\H'=H) ?_ 0 ⟨rfl,rfl,rfl⟩;rintro k x1 x2 x3 x8 x9 dR fC gK gq lu iL jU qV qf rg H' ⟨rfl,rfl,rfl⟩;refine tl ?_;refine dD ?_;refine aF ?_;rw[aS aa];refine aF ?_;refine az.mono (Rf _ _) ?_;rintro _ _ rfl;refine rr ?_;exact rfl
theorem Rh(hcm:vg cv)(hn:n<=1000000)(hB:Rg r ty n H0 H L):az Pg X 207 [sl r n c,cv] H λv H'=>Rg r ty n H0 H' L:=by
 refine ce [0,1,4] ?_;refine tl ?_;refine aF ?_;rw[qI (u64_in aa)];refine az.mono (AX _ aa aa) ?_;rintro v H' ⟨⟨l,rfl,h1,_⟩,rfl⟩;refine az.mono (Vp hcm hn _ H0 H' L hB 0 n l aa aa aa aa aa<|aj _) ?_;intro v H1 hB;refine rn ?_;exact hB
theorem aeo(cv:Value):az Pg X 207 [.slice none 0 0,cv] H λv H'=>H'=H:=by
 refine ce [0,1,4] ?_;refine tl ?_;refine aF ?_;rw[qI (u64_in aa)];refine az.mono (AX _ aa aa) ?_;rintro v H' ⟨⟨l,rfl,h1,_⟩,rfl⟩;refine az.mono (ahZ _ _ _) ?_;rintro v H1 rfl;refine rn ?_;exact rfl
theorem Ri(h:∀i,i<2->∃z:Int,cs[k*2+i]?=some (.int .i32 z)):Nl (El cs 2 k):=by
 obtain⟨a,ha⟩:=h 0 aa;obtain⟨b,hb⟩:=h 1 aa;refine⟨a,b,?_⟩;apply eP;intro i;rw[j4]
 match i with
 |0=>rw[if_pos aa,ha];rfl
 |1=>rw[if_pos aa,hb];rfl
 |i+2=>rw[if_neg aa];rfl
theorem ML(h:Nl<|El cs 2 k)(hi:i<2):∃z:Int,cs[k*2+i]?=some (.int .i32 z):=by
 obtain⟨a,b,e⟩:=h;have h1:=j4 cs 2 k i;rw[if_pos hi,e]at h1
 match i,hi with
 |0,_=>exact⟨a,h1.symm⟩
 |1,_=>exact⟨b,h1.symm⟩
section fields
theorem SB.rf(h:SB Nl r ty 2 n H0 H L)(h0:0<=z)(hz:z<n)(hf:f<2)(k:∀a,K (.int .i32 a) H):ME (rQ none (.pointer<|some ⟨r,z.toNat*2+f,none⟩) H) K:=by
 obtain⟨cs,hS,hp,hl⟩:=h.row (k:=z.toNat) aa;obtain⟨a,ha⟩:=ML hp hf;exact hS.ld 0 rfl ha<|k a
theorem SB.rfQ(h:SB Nl r ty 2 n H0 H L)(h0:0<=z)(hz:z<n)(hf:f<2)(k:∀a,K (.int .i32 a)<|hN H):ME (rQ none (.pointer<|some ⟨r,z.toNat*2+f,none⟩)<|hN H) K:=SB.rf h.uY h0 hz hf k
theorem SB.ah0(h:SB Nl r ty 2 n H0 H L)(h0:0<=z)(hz:z<n)(hf:f<2)(k:∀H1,SB Nl r ty 2 n H0 (hM H H1) L->K undef H1):ME (CS 1 (.pointer<|some ⟨r,z.toNat*2+f,none⟩) (.int .i32 a)<|hN H) K:=by
 obtain⟨cs,h1,h2,hS⟩:=h;have hle:z.toNat*2+f+1<=cs.length:=by omega
 refine hS.QW 0 rfl rfl hle rfl λH1 hS=>k H1 ⟨splice cs (z.toNat*2+f) [.int .i32 a],?_,λj hj=>?_,hS⟩
 .rw[jr (by simpa using hle)];exact h1
 .refine Ri λi hi=>?_;rw[mU (by simpa using hle)];split
  .next hc=>
   rw[show j*2+i-(z.toNat*2+f)=0 by simp at hc;omega];exact⟨a,rfl⟩
  .exact ML (h2 j hj) hi
end fields
abbrev J4(cs:List Value):Prop:=∀x∈cs,∃z:Int,x=.int .i32 z
theorem O4(h:J4 cs)(hk:k*2+2<=cs.length):Nl (El cs 2 k):=by
 have e:El cs 2 k=[cs[k*2],cs[k*2+1]]:=by
  unfold El;rw[fA aa,fA aa];rfl
 obtain⟨a,ha⟩:=h cs[k*2]<|bF _;obtain⟨b,hb⟩:=h cs[k*2+1]<|bF _;exact⟨a,b,by rw[e,ha,hb]⟩
theorem J4.app(h:J4 cs)(a b:Int):J4 (cs++[.int .i32 a,.int .i32 b]):=by
 intro x hx;rcases bX.1 hx with hx|hx
 .exact h x hx
 .simp at hx;rcases hx with rfl|rfl
  .exact⟨_,rfl⟩
  .exact⟨_,rfl⟩
theorem MM(hl:cs.length=n*2)(h:∀k,k<n->Nl (El cs 2 k)):J4 cs:=by
 intro x hx;obtain⟨i,hi,rfl⟩:=fD hx;obtain⟨a,b,e⟩:=h (i/2) aa;have h1:=j4 cs 2 (i/2)<|i %2;rw[if_pos (Nat.mod_lt _ aa),show i/2*2+i %2=i by omega,ae hi,e]at h1;have:i %2=0\/i %2=1:=by omega
 rcases this with h2|h2
 .rw[h2]at h1;exact⟨a,(bN h1).symm⟩
 .rw[h2]at h1;exact⟨b,(bN h1).symm⟩
theorem Gc(hw:Wf H){K:Nat}(hK:K<=1000000)(hv:xE K H v):az Pg X 210 [v] H (Q1 (λv H'=>eZ H.next K H' v) H):=by
 obtain⟨a,n,c,cs,rfl,hf,hn,hi⟩:=hv;have hS:=SH.refl hw;refine ce [0,2] ?_;refine tl ?_;rw[Am (by kernel_rfl)];refine aF ?_;refine bO (λhb=>?_) λhb=>?_
 .refine rr ?_;exact⟨eZ.nil _ _ _,Ext.refl _⟩
 .refine ME.of (ad5 aa) ?_;have hS:=hS.grow 269 [];have hge:=hS.ext.next
  refine hS.QZ aa (.inr ⟨_,rfl⟩) (hf.ex hS.ext) aa λa' c' H1 L' hf' hS'=>?_;refine rr ?_;exact⟨⟨a',n,c',cs,rfl,hf'.le hge,hn,hi⟩,hS'.ext⟩
set_option maxHeartbeats 8000000 in
theorem Di(hw:Wf H)(hKM:KM<=1000000)(hv:xE KM H v):az Pg X 197 [v] H (Q1 (λv H'=>eZ H.next KM H' v) H):=by
 obtain⟨a,n,c,cs,rfl,hf,hn,hi⟩:=hv;have hS:=SH.refl hw;refine ce [0,2,3,5,6,8,9,10,11,35,36,37] ?_;refine tl ?_;refine aF ?_;refine Vg 3 5 11 (I:=λm x3 x5 fC H'=>∃(k:Nat)(ds:List Value)(gb:List cz),fC=vn k/\k+m=n/\GB 269 2 x3 ds gb/\ds.length<=2*k/\J4 ds/\SH [] H H' (gb++[])) ?_ n ⟨0,[],[],rfl,aa,GB.nil _ _,by simp,(λx h=>nomatch h),hS⟩;rintro m x3 x5 fC rg H' ⟨k,ds,gb,rfl,hk,hg,hdl,hds,hS⟩;refine dJ.sH λK hK=>?_;refine tl ?_;refine aF ?_;refine ah (λhc=>?_) λhc=>?_
 .obtain⟨r,o,e,hr,hrd,hel,_⟩:=hf.read aa (show k<n by omega) c;rw[e];refine aF ?_;obtain⟨z1,z2,ez⟩:=O4 hi (k:=k) (by rw[hf.1];omega);rw[ez]at hrd;refine hS.xZ hrd hr ?_;refine hS.iI λH1 r1 hS=>?_
  repeat(first|(refine hS.aY ?_)|(refine hS.dQ ?_)|(refine hS.kJ λHn hS=>?_))
  subst hK;refine ah (λhd=>?_) λhd=>?_
  .refine hS.aY ?_;refine hS.eU ?_;refine hS.bS rfl rfl rfl aa λH2 rx hS=>?_;have hS:SH [] H H2 ((rx,269,[.int .i32 (max z1 0),.int .i32<|min z2 1114111])::(r1,269,[.int .i32 (max z1 0),.int .i32<|min z2 1114111])::(gb++[])):=hS;have hS:SH [] H H2 ((rx,269,[.int .i32 (max z1 0),.int .i32<|min z2 1114111])::(gb++[(r1,269,[.int .i32 (max z1 0),.int .i32<|min z2 1114111])])):=hS.perm<|List.Perm.cons _ (by simpa using(au (l₁:=[_]) (l₂:=gb)));refine hg.add hS aa rfl rfl aa λv' H3 gY hg' hS' hx=>?_;rw[dI aa aa];refine aF ?_;refine⟨m-1,aa,_,_,_,_,_,rfl,k+1,_,gY,rfl,aa,hg',by simp;omega,hds.app _ _,?_⟩;exact by simpa using SH.drop (A:=[_]) (hS'.perm<|au (l₂:=[_]))
  .rw[dI aa aa];refine aF ?_;refine⟨m-1,aa,_,_,_,_,_,rfl,k+1,ds,gb,rfl,aa,hg,aa,hds,?_⟩;exact SH.drop (A:=[_]) hS
 .subst hK;refine aF ?_;refine tl ?_;rcases hg with⟨rfl,rfl,rfl⟩|⟨r,n1,dH,rfl,hn1,rfl⟩
  .refine az.mono (aeo _) ?_;rintro _ H1 e;have e:=e.symm;subst e;refine aF ?_;refine Vg 6 8 37 (I:=λm x6 x8 Az H2=>H2=H'/\x6=vi 0/\Az=vi 0) ?_ 0 ⟨rfl,rfl,rfl⟩;rintro m x6 x8 Az rg H2 ⟨rfl,rfl,rfl⟩;refine tl ?_;refine aF ?_;rw[bM aa];refine aF ?_;refine tl ?_;refine PU.of (Tm) ?_;refine az.mono (Gc hS.wf hKM<|xE.nil _ _) ?_;rintro v H3 ⟨hv,hx⟩;refine rr ?_;exact⟨hv.le (aj _) hS.ext.next,hS.ext.trans hx⟩
  .have hB:Rg r 269 n1 H H' []:=⟨ds++dH,by simp;omega,λk hk=>Ri λi hi=>?_,hS⟩;rotate_left
   .rw[aP aa,ae aa];obtain⟨z,hz⟩:=hds ds[k*2+i]<|bF _;exact⟨z,by rw[hz]⟩
   have hn2:n1<=KM:=by omega
   refine az.mono (Rh abE aa hB) ?_;clear hB hS hds hn1 dH ds hdl;rintro _ H2 hB;refine aF ?_;refine Vg 6 8 37 (I:=λm x6 x8 Az H2=>∃(w k:Nat),x6=vn w/\Az=vn k/\w<=k/\k+m=n1/\Rg r 269 n1 H H2 []) ?_ n1 ⟨0,0,rfl,rfl,aa,aa,hB⟩;clear hB;rintro m2 x6 x8 Az rg H3 ⟨w,k2,rfl,rfl,hw2,hk2,hB⟩;refine dJ.sH λK hK=>?_
   have nx:∀(w:Nat) x8 rg H4,w<=k2+1->k2<n1->Rg r 269 n1 H H4 []->dJ Pg X (sub ku [1,1,1,1,1,0,1,0,0,1,1,1]) (rA (.slice a n c) (.slice none 0 0) (sl r n1<|dV 2) x5 (vn w) x8 (.slice a n c) (vn n) (vn k) (sl r n1<|dV 2) (vn n1) (vn k2) rg H4) K:=by
    intro w x8 rg H4 h1 h2 hB;subst hK;refine tl ?_;rw[dI aa aa];refine aF ?_;exact⟨m2-1,aa,_,_,_,_,_,rfl,w,k2+1,rfl,rfl,aa,aa,hB⟩
   refine tl ?_;refine aF ?_;refine ah (λhc=>?_) λhc=>?_;rotate_left
   .subst hK;refine aF ?_;refine tl ?_;refine PU.of (CZ (show w<=n1 by omega)) ?_;obtain⟨es,g1,g2,hS⟩:=hB
    have hfw:Fl H3 (some ⟨r,0,none⟩) w 2 (es.take<|w*2):=⟨by simp;omega,λi x hi=>⟨r,0,rfl,(hS.lo _<|aD ..).2,by
     rw[aI];refine(hS.get 0 rfl).cell ?_;rw[eB]at hi;split at hi
     .exact hi
     .cases hi⟩⟩
    have hR:xE KM H3 (.slice (some ⟨r,0,none⟩) w<|dV 2):=⟨_,w,_,_,rfl,hfw,aa,MM hfw.1 λk hk=>Ri λi hi=>by
     rw[eB,if_pos aa];exact ML (g2 k aa) hi⟩
    refine az.mono (Gc hS.wf hKM hR) ?_;rintro v H4 ⟨hv,hx⟩;refine rr ?_;exact⟨hv.le (aj _) hS.ext.next,hS.ext.trans hx⟩
   refine fH ?_;simp only[aI];refine hB.r1 aa aa λza zb=>?_;refine hB.new λH4 r1 hB=>?_;refine hB.st 0 rfl rfl (ai rfl) rfl λH5 hB=>?_;have hB:SB Nl r 269 2 n1 H H5 [(r1,269,[.int .i32 za,.int .i32 zb])]:=hB
   have lay:∀rg H6,SB Nl r 269 2 n1 H H6 [(r1,269,[.int .i32 za,.int .i32 zb])]->dJ Pg X (sub ku [1,1,1,1,1,0,1,0,0,1,1,0,0,1,1]) (rA (.slice a n c) (.slice none 0 0) (sl r n1<|dV 2) x5 (vn w) (.pointer<|some ⟨r1,0,none⟩) (.slice a n c) (vn n) (vn k) (sl r n1<|dV 2) (vn n1) (vn k2) rg H6) (j3 3<|nR Pg X (sub ku [1,1,1,1,1,0,1,0,0,1,1,1]) K):=by
    intro rg H6 hB;refine tl ?_;refine ME.of (v:=.agg ⟨[.int .i32 za,.int .i32 zb]⟩) (H:=H6) ?_ ?_
    .obtain⟨es,g1,g2,hS⟩:=hB;show(ax (H6.read r1 0 2) λvs=>some (Value.agg ⟨vs⟩,H6))=_;rw[(hS.get 1 rfl).read (o:=0) (n:=2) (aj 2)];rfl
    refine fH ?_;simp only[aI];refine hB.rw' aa aa λH7 hB=>?_;rw[dI aa aa];refine aF ?_;exact nx (w+1) _ _ _ aa aa hB.drop
   have fin:∀rg H6(b:Bool),BA rg 54=.bool b->(b=true->0<w)->SB Nl r 269 2 n1 H H6 [(r1,269,[.int .i32 za,.int .i32 zb])]->dJ Pg X (sub ku [1,1,1,1,1,0,1,0,0,1,1,0,0,1,0,1]) (rA (.slice a n c) (.slice none 0 0) (sl r n1<|dV 2) x5 (vn w) (.pointer<|some ⟨r1,0,none⟩) (.slice a n c) (vn n) (vn k) (sl r n1<|dV 2) (vn n1) (vn k2) rg H6) (nR Pg X (sub ku [1,1,1,1,1,0,1,0,0,1,1,0,0,1,1])<|j3 3<|nR Pg X (sub ku [1,1,1,1,1,0,1,0,0,1,1,1]) K):=by
    intro rg H6 b hb hw0 hB;refine tl ?_;rw[hb];refine aF ?_;refine bO (λhb=>?_) λhb=>?_
    .have:=hw0 hb;refine dD ?_;refine dD ?_;refine fH ?_;refine aF ?_;refine SB.rfQ hB aa aa aa λzc=>?_;simp only[eF hB.wf];refine hB.BQ 0 rfl rfl ?_;simp only[eF hB.wf];refine aF ?_;refine fH ?_;refine aF ?_;refine SB.ah0 hB aa aa aa λH7 hB2=>?_;refine⟨by simp only[cB,dn];kernel_rfl,?_⟩;exact nx w _ _ _ aa aa hB2.drop
    .exact lay _ _ hB
   refine aF ?_;refine ah (λhd=>?_) λhd=>?_
   .refine hB.BQ 0 rfl rfl ?_;simp only[eF hB.wf];refine dD ?_;refine fH ?_;refine aF ?_;refine SB.rfQ hB aa aa aa λzc=>?_;simp only[eF hB.wf];refine aF ?_;refine⟨by simp only[cB];kernel_rfl,?_⟩;exact fin _ _ _ (by simp only[uC];rfl) (λ_=>by omega) hB
   .refine⟨by kernel_rfl,?_⟩;exact fin _ _ false (by simp only[uC]) (λh=>by cases h) hB
theorem Zj(hw:Wf H):az Pg X 211 [] H (Q1 (λv H'=>eZ H.next 1 H' v) H):=by
 have hS:=SH.refl hw;refine ce [0] ?_;refine tl ?_;refine PU.of (v:=.agg ⟨[_,_]⟩) rfl ?_;refine hS.bS rfl rfl rfl aa λH1 r hS=>?_;have hb:=hS.get 0 rfl;have hlo:=hS.lo _<|aD ..
 refine rr ?_;refine⟨⟨_,1,1,_,rfl,⟨hb.fl hlo.2 rfl,λr' o e _=>by cases e;exact⟨hS.zN<|aD ..,hlo.2,hb.Tn⟩⟩,aa,λx hx=>?_⟩,hS.ext⟩;have hx:x∈[Value.int .i32 0,Value.int .i32 1114111]:=hx;simp at hx;rcases hx with rfl|rfl
 .exact⟨_,rfl⟩
 .exact⟨_,rfl⟩
end
end Go.Proofs.Lu
