/-
  Part 07 of the proof. No condition.
-/
import Derived.Test.YtdkcdlnfeodaaaaGreatDoorR06
set_option linter.unusedVariables false
set_option linter.unusedSimpArgs false
set_option maxRecDepth 100000
set_option maxHeartbeats 4000000
noncomputable section
namespace Go.Proofs.Lu
open Go.Ae Go.Ae.M
variable{Q:Int->Prop}{L:List cz}{ty:TypeId}{c n q r:Nat}{H H0:ag}
theorem Vm(hn:n<=16777216)(hB:Nm Q r ty n H0 H L)(a b:Int)(h1:0<=a)(h2:b<=n)(h3:a<b):
 az Pg X 130 [sl r n c,vi a,vi b] H λv H'=>Nm Q r ty n H0 H' L:=by
 refine ce [0,1,2,6,7,8,9,10] ?_;refine tl ?_
 repeat(first|(with_reducible refine dD ?_)|(with_reducible refine PU.quo aa aa aa λqd hd1 hd2 hd3=>?_))
 refine zm 9 (I:=λm x9 H'=>∃i:Int,x9=vi i/\-1<=i/\i<=16777216/\m=(i+1).toNat/\Nm Q r ty n H0 H' L) ?_ _ ⟨_,rfl,aa,aa,rfl,hB⟩;rintro m x9 rg H' ⟨i,rfl,h4,h5,hm,hB⟩;refine tl ?_;refine hB.aY ?_;refine ah (λhc=>?_) λhc=>?_
 .refine az.mono (Co hn hB i (b-a) a aa aa aa aa aa) ?_;rintro v H2 hB
  with_reducible refine dD ?_
  exact⟨i.toNat,aa,_,_,_,rfl,i-1,rfl,aa,aa,aa,hB⟩
 refine tl ?_
 with_reducible refine dD ?_
 refine zm 10 (I:=λm dR H'=>∃i:Int,dR=vi i/\-1<=i/\i<b-a/\m=(i+1).toNat/\Nm Q r ty n H0 H' L) ?_ _ ⟨_,rfl,aa,aa,rfl,hB⟩;rintro m dR rg H' ⟨i,rfl,h4,h5,hm,hB⟩;refine tl ?_;refine hB.aY ?_;refine ah (λhc=>?_) λhc=>?_
 .repeat(first|(refine hB.aY ?_)|(with_reducible refine bE ?_)|(with_reducible refine fH ?_)|(with_reducible refine hB.CX aa aa λz hz=>?_)|(with_reducible refine hB.PS aa aa (by assumption) λHn hB=>?_)|(refine nO ?_))
  refine az.mono (Co hn hB 0 i a aa aa aa aa aa) ?_;rintro v H2 hB
  with_reducible refine dD ?_
  exact⟨i.toNat,aa,_,_,_,rfl,i-1,rfl,aa,aa,aa,hB⟩
 .refine rn ?_;exact hB
theorem MC(hn:n<=16777216)(hB:Nm Q r ty n H0 H L)(a b:Int)(h1:0<=a)(h2:b<=n)(h3:a<=b):
 az Pg X 133 [sl r n c,vi a,vi b] H λv H'=>Nm Q r ty n H0 H' L:=by
 refine ce [0,1,2,6,7] ?_;refine tl ?_
 with_reducible refine dD ?_
 refine lp2 6 7 (I:=λm x6 x7 H'=>∃i j:Int,x6=vi i/\x7=vi j/\a<=i/\j<b/\i<=16777218/\-2<=j/\m=(j-i).toNat/\Nm Q r ty n H0 H' L) ?_ _ ⟨_,_,rfl,rfl,aa,aa,aa,aa,rfl,hB⟩;rintro m x6 x7 rg H' ⟨i,j,rfl,rfl,h4,h5,h6,h7,hm,hB⟩;refine tl ?_;refine hB.aY ?_;refine ah (λhc=>?_) λhc=>?_
 .repeat(first|(refine hB.aY ?_)|(with_reducible refine bE ?_)|(with_reducible refine dD ?_)|(with_reducible refine fH ?_)|(with_reducible refine hB.CX aa aa λz hz=>?_)|(with_reducible refine hB.PS aa aa (by assumption) λHn hB=>?_)|(refine nO ?_))
  exact⟨(j-1-(i+1)).toNat,aa,_,_,_,_,rfl,i+1,j-1,rfl,rfl,aa,aa,aa,aa,rfl,hB⟩
 .refine rn ?_;exact hB
theorem choose_spec(hn:n<=16777216)(hB:Nm Q r ty n H0 H L)(a b:Int)(h1:0<=a)(h2:b<=n)(h3:a+12<b):
 az Pg X 132 [sl r n c,vi a,vi b] H λv H'=>∃p h:Int,v=.tuple ⟨[vi p,vi h]⟩/\a<p/\p+1<b/\Nm Q r ty n H0 H' L:=by
 refine ce [0,1,2,6,7,8,9,10,11,12,49] ?_;refine tl ?_
 with_reducible refine dD ?_;refine hB.aY ?_
 refine hB.new λH1 q hB=>?_
 repeat(first|(with_reducible refine bE ?_)|(with_reducible refine FX ?_)|(with_reducible refine PU.quo aa aa aa λqd hd1 hd2 hd3=>?_))
 have fin:∀(i j k s:Int)(x6 x7 x8:Value) rg H2,(a<i/\i+1<b)->(a<j/\j+1<b)->(a<k/\k+1<b)->Nm Q r ty n H0 H2 ((q,3,[vi s])::L)->
  dJ Pg X (sub nU [1,1,1,1,1,1,0,1,0,1]) (uF (sl r n c) (vi a) (vi b) (.int .i64 0) (.int .i64 0) (vi<|b-a) (.pointer<|some ⟨q,0,none⟩) (vi i) (vi j) (vi k) top rg H2)
   (nR Pg X (sub nU [1,1,1,1,1,1,1]) (f_ Pg [.tmp 6,.tmp 7] λv H'=>∃p h:Int,v=.tuple ⟨[vi p,vi h]⟩/\a<p/\p+1<b/\Nm Q r ty n H0 H' L)):=by
  intro i j k s x6 x7 x8 rg H2 hi hj hk hB;refine tl ?_;refine az.mono (Ga hB i j k aa aa aa) ?_;rintro _ H3 ⟨m,s',rfl,hm,hB⟩;refine hB.aY ?_;refine tl ?_;refine hB.ld 0 rfl rfl ?_
  have hB2:Nm Q r ty n H0 H3 L:=by
   obtain⟨cs,g1,g2,hS⟩:=hB;exact⟨cs,g1,g2,SH.drop (A:=[_])<|hS.perm<|List.Perm.swap _ _ _⟩
  refine hB.aY ?_;refine ah (λhc=>?_) λhc=>?_
  .refine rr ?_;exact⟨_,_,rfl,aa,aa,hB2⟩
  refine ah (λhc=>?_) λhc=>?_
  .refine rr ?_;exact⟨_,_,rfl,aa,aa,hB2⟩
  .refine rr ?_;exact⟨_,_,rfl,aa,aa,hB2⟩
 rw[aS aa];refine hB.aY ?_;refine ah (λhc=>?_) λhc=>?_
 .refine az.mono (wY hn hB _ aa) ?_;rintro _ H2 ⟨m1,s1,rfl,h4,h5,hB⟩;refine az.mono (wY hn hB _ aa) ?_;rintro _ H3 ⟨m2,s2,rfl,h6,h7,hB⟩;refine az.mono (wY hn hB _ aa) ?_;rintro _ H4 ⟨m3,s3,rfl,h8,h9,hB⟩;exact fin _ _ _ _ top top top _ _ aa aa aa hB
 .exact fin _ _ _ _ top top top _ _ aa aa aa hB
theorem MF(hn:n<=16777216)(hB:Nm Q r ty n H0 H L)(a b:Int)(h1:0<=a)(h2:b<=n)(h3:a<b):
 az Pg X 134 [sl r n c,vi a,vi b] H λv H'=>isB v/\Nm Q r ty n H0 H' L:=by
 refine ce [0,1,2,6,7,8,9,10] ?_;refine tl ?_
 with_reducible refine bE ?_
 refine V' 6 7 8 9 10 (I:=λm x6 x7 x8 x9 dR H'=>∃i j:Int,x7=vi i/\x8=vi j/\a<i/\i<=b/\j<=5/\0<=j/\m=(5-j).toNat/\Nm Q r ty n H0 H' L) ?_ _ ⟨_,_,rfl,rfl,aa,aa,aa,aa,rfl,hB⟩;rintro m x6 x7 x8 x9 dR rg H' ⟨i,j,rfl,rfl,h4,h5,h6,h6',hm,hB⟩;refine dJ.sH λK hK=>?_;refine tl ?_;refine hB.aY ?_;refine ah (λhc=>?_) λhc=>?_;rotate_left
 .subst hK;refine hB.aY ?_;refine tl ?_;refine rr ?_;exact⟨⟨_,rfl⟩,hB⟩
 refine zm 7 (I:=λm x7 H'=>∃i:Int,x7=vi i/\a<i/\i<=b/\m=(b-i).toNat/\Nm Q r ty n H0 H' L) ?_ _ ⟨_,rfl,aa,aa,rfl,hB⟩;rintro m2 x7 rg H2 ⟨i,rfl,h7,h8,hm2,hB⟩;clear h4 h5
 have fin:∀x9 dR rg H3,i<b->Nm Q r ty n H0 H3 L->dJ Pg X (sub dz [1,1,0,1,0,0,1,1]) (fK (sl r n c) (vi a) (vi b) x6 (vi i) (vi j) x9 dR rg H3) K:=by
  intro x9 dR rg H3 hib hB;subst hK;refine tl ?_;refine hB.aY ?_;with_reducible refine bE ?_;exact⟨(5-(j+1)).toNat,aa,_,_,_,_,_,_,_,rfl,i,j+1,rfl,rfl,aa,aa,aa,aa,rfl,hB⟩
 have lp2:∀x9 rg H3,i<b->Nm Q r ty n H0 H3 L->dJ Pg X (.loop<|sub dz [1,1,0,1,0,0,1,0,0,1,1,1,1,1,1,0,1,0,0]) (fK (sl r n c) (vi a) (vi b) x6 (vi i) (vi j) x9 (vi<|i+1) rg H3) (j3 6<|j3 1<|nR Pg X (sub dz [1,1,0,1,0,0,1,1]) K):=by
  intro x9 rg H3 hib hB;refine zm 10 (I:=λm dR H'=>∃k:Int,dR=vi k/\i<k/\k<=b/\m=(b-k).toNat/\Nm Q r ty n H0 H' L) ?_ _ ⟨_,rfl,aa,aa,rfl,hB⟩;rintro m3 dR rg H4 ⟨k,rfl,h9,h10,MG,hB⟩;refine tl ?_;refine hB.aY ?_;refine ah (λhe=>?_) λhe=>?_;rotate_left
  .exact fin _ _ _ _ hib hB
  repeat(first|(refine hB.aY ?_)|(with_reducible refine dD ?_)|(with_reducible refine fH ?_)|(with_reducible refine hB.CX aa aa λz hz=>?_)|(refine nO ?_)|((with_reducible refine az.mono (kE _ _) ?_);rintro _ _ ⟨⟨bl,rfl⟩,rfl⟩))
  refine bO (λhb=>?_) λhb=>?_
  .exact fin _ _ _ _ hib hB
  repeat(first|(refine hB.aY ?_)|(with_reducible refine bE ?_)|(with_reducible refine dD ?_)|(with_reducible refine fH ?_)|(with_reducible refine hB.CX aa aa λz hz=>?_)|(with_reducible refine hB.PS aa aa (by assumption) λHn hB=>?_)|(refine nO ?_))
  exact⟨(b-(k+1)).toNat,aa,_,_,_,rfl,k+1,rfl,aa,aa,rfl,hB⟩
 have sU:∀x9 rg H3,i<b->Nm Q r ty n H0 H3 L->dJ Pg X (sub dz [1,1,0,1,0,0,1,0,0,1,1,1,1,1]) (fK (sl r n c) (vi a) (vi b) x6 (vi i) (vi j) x9 dR rg H3) (j3 1<|nR Pg X (sub dz [1,1,0,1,0,0,1,1]) K):=by
  intro x9 rg H3 hib hB;refine tl ?_
  repeat(first|(refine hB.aY ?_)|(with_reducible refine dD ?_))
  refine ah (λhd=>?_) λhd=>?_;rotate_left
  .exact fin _ _ _ _ hib hB
  with_reducible refine bE ?_
  exact lp2 _ _ _ hib hB
 have yo:∀rg H3,Nm Q r ty n H0 H3 L->dJ Pg X (sub dz [1,1,0,1,0,0,1,0,0,1]) (fK (sl r n c) (vi a) (vi b) x6 (vi i) (vi j) x9 dR rg H3) (j3 1<|nR Pg X (sub dz [1,1,0,1,0,0,1,1]) K):=by
  intro rg H3 hB;refine tl ?_;refine hB.aY ?_;refine ah (λhd=>?_) λhd=>?_
  .subst hK;refine hB.aY ?_;refine rr ?_;exact⟨⟨_,rfl⟩,hB⟩
  with_reducible refine dD ?_;refine hB.aY ?_
  refine ah (λhe=>?_) λhe=>?_
  .subst hK;refine hB.aY ?_;refine rr ?_;exact⟨⟨_,rfl⟩,hB⟩
  repeat(first|(refine hB.aY ?_)|(with_reducible refine dD ?_)|(with_reducible refine fH ?_)|(with_reducible refine hB.CX aa aa λz hz=>?_)|(with_reducible refine hB.PS aa aa (by assumption) λHn hB=>?_)|(refine nO ?_))
  refine ah (λhg=>?_) λhg=>?_;rotate_left
  .with_reducible refine dD ?_;refine hB.aY ?_
   refine ah (λhd=>?_) λhd=>?_;rotate_left
   .exact fin _ _ _ _ aa hB
   with_reducible refine bE ?_
   exact lp2 _ _ _ aa hB
  with_reducible refine dD ?_
  refine zm 9 (I:=λm x9 H'=>∃k:Int,x9=vi k/\0<=k/\k<i/\m=k.toNat/\Nm Q r ty n H0 H' L) ?_ _ ⟨_,rfl,aa,aa,rfl,hB⟩;rintro m3 x9 rg H4 ⟨k,rfl,h9,h10,MG,hB⟩;refine tl ?_;refine hB.aY ?_;refine ah (λhe=>?_) λhe=>?_;rotate_left
  .exact sU _ _ _ aa hB
  repeat(first|(refine hB.aY ?_)|(with_reducible refine dD ?_)|(with_reducible refine fH ?_)|(with_reducible refine hB.CX aa aa λz hz=>?_)|(refine nO ?_)|((with_reducible refine az.mono (kE _ _) ?_);rintro _ _ ⟨⟨bl,rfl⟩,rfl⟩))
  refine bO (λhb=>?_) λhb=>?_
  .exact sU _ _ _ aa hB
  repeat(first|(refine hB.aY ?_)|(with_reducible refine dD ?_)|(with_reducible refine fH ?_)|(with_reducible refine hB.CX aa aa λz hz=>?_)|(with_reducible refine hB.PS aa aa (by assumption) λHn hB=>?_)|(refine nO ?_))
  exact⟨(k-1).toNat,aa,_,_,_,rfl,k-1,rfl,aa,aa,rfl,hB⟩
 refine tl ?_;refine hB.aY ?_;refine ah (λhd=>?_) λhd=>?_;rotate_left
 .refine⟨by kernel_rfl,?_⟩;exact yo _ _ hB
 repeat(first|(refine hB.aY ?_)|(with_reducible refine dD ?_)|(with_reducible refine fH ?_)|(with_reducible refine hB.CX aa aa λz hz=>?_)|(refine nO ?_)|((with_reducible refine az.mono (kE _ _) ?_);rintro _ _ ⟨⟨bl,rfl⟩,rfl⟩))
 refine bO (λhb=>?_) λhb=>?_;rotate_left
 .exact yo _ _ hB
 with_reducible refine bE ?_
 exact⟨(b-(i+1)).toNat,aa,_,_,_,rfl,i+1,rfl,aa,aa,rfl,hB⟩
theorem O1(hn:n<=16777216)(hB:Nm Q r ty n H0 H L)(a b p:Int)(h1:0<=a)(h2:b<=n)(h3:a<b)(hp:a<=p/\p<b):
 az Pg X 136 [sl r n c,vi a,vi b,vi p] H λv H'=>∃i:Int,v=vi i/\a<i/\i<=b+1/\Nm Q r ty n H0 H' L:=by
 refine ce [0,1,2,3,8,9,10] ?_;refine tl ?_
 repeat(first|(refine hB.aY ?_)|(with_reducible refine bE ?_)|(with_reducible refine dD ?_)|(with_reducible refine fH ?_)|(with_reducible refine hB.CX aa aa λz hz=>?_)|(with_reducible refine hB.PS aa aa (by assumption) λHn hB=>?_)|(refine nO ?_))
 refine lp2 9 10 (I:=λm x9 dR H'=>∃i j:Int,x9=vi i/\dR=vi j/\a<i/\i<=b+1/\j<b/\i-2<=j/\m=(j+2-i).toNat/\Nm Q r ty n H0 H' L) ?_ _ ⟨_,_,rfl,rfl,aa,aa,aa,aa,rfl,hB⟩;rintro m x9 dR rg H1 ⟨i,j,rfl,rfl,h4,h5,h6,h7,hm,hB⟩;refine dJ.sH λK hK=>?_
 have sU:∀(i2 j2:Int) rg H3,i<=i2->j2<=j->i2-2<=j2->i2<=b+1->Nm Q r ty n H0 H3 L->dJ Pg X (sub mJ [1,1,1,0,0,0,0,1,1]) (lZ (sl r n c) (vi a) (vi b) (vi p) (vi 0) (vi i2) (vi j2) rg H3) (j3 1 K):=by
  intro i2 j2 rg H3 g1 g2 g3 g4 hB;subst hK;refine tl ?_;refine hB.aY ?_;refine ah (λhd=>?_) λhd=>?_
  .refine tl ?_;refine rr ?_;exact⟨_,rfl,aa,aa,hB⟩
  repeat(first|(refine hB.aY ?_)|(with_reducible refine bE ?_)|(with_reducible refine dD ?_)|(with_reducible refine fH ?_)|(with_reducible refine hB.CX aa aa λz hz=>?_)|(with_reducible refine hB.PS aa aa (by assumption) λHn hB=>?_)|(refine nO ?_))
  exact⟨(j2-1+2-(i2+1)).toNat,aa,_,_,_,_,rfl,i2+1,j2-1,rfl,rfl,aa,aa,aa,aa,rfl,hB⟩
 have yo:∀(i2:Int) rg H3,i<=i2->i2-2<=j->i2<=b+1->Nm Q r ty n H0 H3 L->dJ Pg X (sub mJ [1,1,1,0,0,0,0,1]) (lZ (sl r n c) (vi a) (vi b) (vi p) (vi 0) (vi i2) (vi j) rg H3) (j3 1 K):=by
  intro i2 rg H3 g1 g2 g3 hB;refine tl ?_;refine zm 10 (I:=λm dR H'=>∃j2:Int,dR=vi j2/\j2<=j/\i2-2<=j2/\m=(j2+2-i2).toNat/\Nm Q r ty n H0 H' L) ?_ _ ⟨_,rfl,aa,aa,rfl,hB⟩;rintro m3 dR rg H4 ⟨j2,rfl,h9,h10,MG,hB⟩;refine tl ?_;refine hB.aY ?_;refine ah (λhe=>?_) λhe=>?_;rotate_left
  .refine⟨by kernel_rfl,?_⟩;exact sU _ _ _ _ aa aa aa aa hB
  repeat(first|(refine hB.aY ?_)|(with_reducible refine fH ?_)|(with_reducible refine hB.CX aa aa λz hz=>?_)|(refine nO ?_)|((with_reducible refine az.mono (kE _ _) ?_);rintro _ _ ⟨⟨bl,rfl⟩,rfl⟩))
  refine bO (λhb=>?_) λhb=>?_;rotate_left
  .exact sU _ _ _ _ aa aa aa aa hB
  with_reducible refine dD ?_
  exact⟨(j2-1+2-i2).toNat,aa,_,_,_,rfl,j2-1,rfl,aa,aa,rfl,hB⟩
 refine tl ?_;refine zm 9 (I:=λm x9 H'=>∃i2:Int,x9=vi i2/\i<=i2/\i2-2<=j/\i2<=b+1/\m=(j+2-i2).toNat/\Nm Q r ty n H0 H' L) ?_ _ ⟨_,rfl,aa,aa,aa,rfl,hB⟩;rintro m3 x9 rg H4 ⟨i2,rfl,h9,h10,h11,MG,hB⟩;refine tl ?_;refine hB.aY ?_;refine ah (λhe=>?_) λhe=>?_;rotate_left
 .refine⟨by kernel_rfl,?_⟩;exact yo _ _ _ aa aa aa hB
 repeat(first|(refine hB.aY ?_)|(with_reducible refine fH ?_)|(with_reducible refine hB.CX aa aa λz hz=>?_)|(refine nO ?_)|((with_reducible refine az.mono (kE _ _) ?_);rintro _ _ ⟨⟨bl,rfl⟩,rfl⟩))
 refine bO (λhb=>?_) λhb=>?_;rotate_left
 .exact yo _ _ _ aa aa aa hB
 with_reducible refine bE ?_
 exact⟨(j+2-(i2+1)).toNat,aa,_,_,_,rfl,i2+1,rfl,aa,aa,aa,rfl,hB⟩
theorem Vn(hn:n<=16777216)(hB:Nm Q r ty n H0 H L)(a b p:Int)(h1:0<=a)(h2:b<=n)(h3:a<b)(hp:a<=p/\p<b):
 az Pg X 137 [sl r n c,vi a,vi b,vi p] H λv H'=>∃(i:Int)(f:Bool),v=.tuple ⟨[vi i,.bool f]⟩/\a<=i/\i<b/\Nm Q r ty n H0 H' L:=by
 refine ce [0,1,2,3,8,9,10,11] ?_;refine tl ?_
 repeat(first|(refine hB.aY ?_)|(with_reducible refine bE ?_)|(with_reducible refine dD ?_)|(with_reducible refine fH ?_)|(with_reducible refine hB.CX aa aa λz hz=>?_)|(with_reducible refine hB.PS aa aa (by assumption) λHn hB=>?_)|(refine nO ?_))
 refine dJ.sH λK hK=>?_
 have out:∀(i j:Int) x8 x9 rg H3,a<=j->j<b->Nm Q r ty n H0 H3 L->dJ Pg X (sub fE [1,1,1,1,1,1,1,1,1,1]) (fP (sl r n c) (vi a) (vi b) (vi p) x8 x9 (vi i) (vi j) rg H3) (f_ Pg [.tmp 8,.tmp 9] λv H'=>∃(i:Int)(f:Bool),v=.tuple ⟨[vi i,.bool f]⟩/\a<=i/\i<b/\Nm Q r ty n H0 H' L):=by
  intro i j x8 x9 rg H3 g1 g2 hB;refine tl ?_
  repeat(first|(refine hB.aY ?_)|(with_reducible refine fH ?_)|(with_reducible refine hB.CX aa aa λz hz=>?_)|(with_reducible refine hB.PS aa aa (by assumption) λHn hB=>?_)|(refine nO ?_))
  refine rr ?_;exact⟨_,_,rfl,aa,aa,hB⟩
 have lp:∀(i j:Int) x8 x9 rg H3,a<i->j<b->a<=j->i-2<=j->Nm Q r ty n H0 H3 L->dJ Pg X (.loop<|sub fE [1,1,1,1,1,1,1,1,1,0,0,0]) (fP (sl r n c) (vi a) (vi b) (vi p) x8 x9 (vi i) (vi j) rg H3) (j3 4<|nR Pg X (sub fE [1,1,1,1,1,1,1,1,1,1]) (f_ Pg [.tmp 8,.tmp 9] λv H'=>∃(i:Int)(f:Bool),v=.tuple ⟨[vi i,.bool f]⟩/\a<=i/\i<b/\Nm Q r ty n H0 H' L)):=by
  intro i j x8 x9 rg H3 g1 g2 g3 g4 hB;refine lp2 10 11 (I:=λm dR fC H'=>∃i j:Int,dR=vi i/\fC=vi j/\a<i/\j<b/\a<=j/\i-2<=j/\m=(j+2-i).toNat/\Nm Q r ty n H0 H' L) ?_ _ ⟨_,_,rfl,rfl,g1,g2,g3,g4,rfl,hB⟩;clear g1 g2 g3 g4 hB i j;rintro m dR fC rg H1 ⟨i,j,rfl,rfl,h4,h5,h6,h7,hm,hB⟩;refine dJ.sH λK hK=>?_
  have sU:∀(i2 j2:Int) rg H3,i<=i2->j2<=j->i2-2<=j2->a<=j2->Nm Q r ty n H0 H3 L->dJ Pg X (sub fE [1,1,1,1,1,1,1,1,1,0,0,0,0,1,1]) (fP (sl r n c) (vi a) (vi b) (vi p) x8 x9 (vi i2) (vi j2) rg H3) (j3 5 K):=by
   intro i2 j2 rg H3 g1 g2 g3 g4 hB;subst hK;refine tl ?_;refine hB.aY ?_;refine ah (λhd=>?_) λhd=>?_
   .exact out _ _ _ _ _ _ aa aa hB
   repeat(first|(refine hB.aY ?_)|(with_reducible refine bE ?_)|(with_reducible refine dD ?_)|(with_reducible refine fH ?_)|(with_reducible refine hB.CX aa aa λz hz=>?_)|(with_reducible refine hB.PS aa aa (by assumption) λHn hB=>?_)|(refine nO ?_))
   exact⟨(j2-1+2-(i2+1)).toNat,aa,_,_,_,_,rfl,i2+1,j2-1,rfl,rfl,aa,aa,aa,aa,rfl,hB⟩
  have yo:∀(i2:Int) rg H3,i<=i2->i2-2<=j->Nm Q r ty n H0 H3 L->dJ Pg X (sub fE [1,1,1,1,1,1,1,1,1,0,0,0,0,1]) (fP (sl r n c) (vi a) (vi b) (vi p) x8 x9 (vi i2) (vi j) rg H3) (j3 5 K):=by
   intro i2 rg H3 g1 g2 hB;refine tl ?_;refine zm 11 (I:=λm dR H'=>∃j2:Int,dR=vi j2/\j2<=j/\i2-2<=j2/\a<=j2/\m=(j2+2-i2).toNat/\Nm Q r ty n H0 H' L) ?_ _ ⟨_,rfl,aa,aa,aa,rfl,hB⟩;rintro m3 dR rg H4 ⟨j2,rfl,h9,h10,h11,MG,hB⟩;refine tl ?_;refine hB.aY ?_;refine ah (λhe=>?_) λhe=>?_;rotate_left
   .refine⟨by kernel_rfl,?_⟩;exact sU _ _ _ _ aa aa aa aa hB
   repeat(first|(refine hB.aY ?_)|(with_reducible refine fH ?_)|(with_reducible refine hB.CX aa aa λz hz=>?_)|(refine nO ?_)|((with_reducible refine az.mono (kE _ _) ?_);rintro _ _ ⟨⟨bl,rfl⟩,rfl⟩))
   refine bO (λhb=>?_) λhb=>?_;rotate_left
   .exact sU _ _ _ _ aa aa aa aa hB
   with_reducible refine dD ?_
   exact⟨(j2-1+2-i2).toNat,aa,_,_,_,rfl,j2-1,rfl,aa,aa,aa,rfl,hB⟩
  refine tl ?_;refine zm 10 (I:=λm x9 H'=>∃i2:Int,x9=vi i2/\i<=i2/\i2-2<=j/\m=(j+2-i2).toNat/\Nm Q r ty n H0 H' L) ?_ _ ⟨_,rfl,aa,aa,rfl,hB⟩;rintro m3 x9 rg H4 ⟨i2,rfl,h9,h10,MG,hB⟩;refine tl ?_;refine hB.aY ?_;refine ah (λhe=>?_) λhe=>?_;rotate_left
  .refine⟨by kernel_rfl,?_⟩;exact yo _ _ _ aa aa hB
  repeat(first|(refine hB.aY ?_)|(with_reducible refine fH ?_)|(with_reducible refine hB.CX aa aa λz hz=>?_)|(refine nO ?_)|((with_reducible refine az.mono (kE _ _) ?_);rintro _ _ ⟨⟨bl,rfl⟩,rfl⟩))
  refine bO (λhb=>?_) λhb=>?_;rotate_left
  .exact yo _ _ _ aa aa hB
  with_reducible refine bE ?_
  exact⟨(j+2-(i2+1)).toNat,aa,_,_,_,rfl,i2+1,rfl,aa,aa,rfl,hB⟩
 subst hK
 have Zg:∀(i j:Int) x8 x9 rg H3,a<i->j<b->a<=j->i-2<=j->Nm Q r ty n H0 H3 L->dJ Pg X (sub fE [1,1,1,1,1]) (fP (sl r n c) (vi a) (vi b) (vi p) x8 x9 (vi i) (vi j) rg H3) (f_ Pg [.tmp 8,.tmp 9] λv H'=>∃(i:Int)(f:Bool),v=.tuple ⟨[vi i,.bool f]⟩/\a<=i/\i<b/\Nm Q r ty n H0 H' L):=by
  intro i j x8 x9 rg H3 g1 g2 g3 g4 hB;refine tl ?_;refine hB.aY ?_;refine ah (λhe=>?_) λhe=>?_
  .repeat(first|(refine hB.aY ?_)|(with_reducible refine fH ?_)|(with_reducible refine hB.CX aa aa λz hz=>?_)|(with_reducible refine hB.PS aa aa (by assumption) λHn hB=>?_)|(refine nO ?_))
   refine rr ?_;exact⟨_,_,rfl,aa,aa,hB⟩
  repeat(first|(refine hB.aY ?_)|(with_reducible refine bE ?_)|(with_reducible refine dD ?_)|(with_reducible refine fH ?_)|(with_reducible refine hB.CX aa aa λz hz=>?_)|(with_reducible refine hB.PS aa aa (by assumption) λHn hB=>?_)|(refine nO ?_))
  exact lp (i+1) (j-1) _ _ _ _ aa aa aa aa hB
 have Zh:∀(i:Int) x8 x9 rg H3,a<i->i<=b->Nm Q r ty n H0 H3 L->dJ Pg X (sub fE [1,1,1,1]) (fP (sl r n c) (vi a) (vi b) (vi p) x8 x9 (vi i) (vi<|b-1) rg H3) (f_ Pg [.tmp 8,.tmp 9] λv H'=>∃(i:Int)(f:Bool),v=.tuple ⟨[vi i,.bool f]⟩/\a<=i/\i<b/\Nm Q r ty n H0 H' L):=by
  intro i x8 x9 rg H3 g1 g2 hB;refine tl ?_;refine zm 11 (I:=λm dR H'=>∃j2:Int,dR=vi j2/\j2<b/\i-2<=j2/\a<=j2/\m=(j2+2-i).toNat/\Nm Q r ty n H0 H' L) ?_ _ ⟨_,rfl,aa,aa,aa,rfl,hB⟩;rintro m3 dR rg H4 ⟨j2,rfl,h9,h10,h11,MG,hB⟩;refine tl ?_;refine hB.aY ?_;refine ah (λhe=>?_) λhe=>?_;rotate_left
  .refine⟨by kernel_rfl,?_⟩;exact Zg _ _ _ _ _ _ aa aa aa aa hB
  repeat(first|(refine hB.aY ?_)|(with_reducible refine fH ?_)|(with_reducible refine hB.CX aa aa λz hz=>?_)|(refine nO ?_)|((with_reducible refine az.mono (kE _ _) ?_);rintro _ _ ⟨⟨bl,rfl⟩,rfl⟩))
  refine bO (λhb=>?_) λhb=>?_;rotate_left
  .exact Zg _ _ _ _ _ _ aa aa aa aa hB
  with_reducible refine dD ?_
  exact⟨(j2-1+2-i).toNat,aa,_,_,_,rfl,j2-1,rfl,aa,aa,aa,rfl,hB⟩
 refine zm 10 (I:=λm x9 H'=>∃i2:Int,x9=vi i2/\a<i2/\i2<=b/\m=(b-i2).toNat/\Nm Q r ty n H0 H' L) ?_ _ ⟨_,rfl,aa,aa,rfl,hB⟩;rintro m3 x9 rg H4 ⟨i2,rfl,h9,h10,MG,hB⟩;refine tl ?_;refine hB.aY ?_;refine ah (λhe=>?_) λhe=>?_;rotate_left
 .refine⟨by kernel_rfl,?_⟩;exact Zh _ _ _ _ _ aa aa hB
 repeat(first|(refine hB.aY ?_)|(with_reducible refine fH ?_)|(with_reducible refine hB.CX aa aa λz hz=>?_)|(refine nO ?_)|((with_reducible refine az.mono (kE _ _) ?_);rintro _ _ ⟨⟨bl,rfl⟩,rfl⟩))
 refine bO (λhb=>?_) λhb=>?_;rotate_left
 .exact Zh _ _ _ _ _ aa aa hB
 with_reducible refine bE ?_
 exact⟨(b-(i2+1)).toNat,aa,_,_,_,rfl,i2+1,rfl,aa,aa,rfl,hB⟩
theorem JY{s:Int}(hB:Nm Q r ty n H0 H<|(q,232,[.int .u64 s])::L):
 az Pg X 168 [.pointer (some ⟨q,0,none⟩)] H λv H'=>∃z,v=.int .u64 z/\Nm Q r ty n H0 H' ((q,232,[.int .u64 z])::L):=by
 refine ce [0,2] ?_;refine tl ?_;refine aF ?_;refine hB.BQ 0 rfl rfl ?_
 try simp only[eF hB.wf,jl,jO]
 refine hB.BQ 0 rfl rfl ?_;refine PU.of (yg aa) ?_;refine PU.of wz ?_
 try simp only[eF hB.wf,jl,jO]
 refine hB.QW 0 rfl rfl (ai rfl) rfl λHn hB=>?_;refine And.intro (by simp only[cB,dn];kernel_rfl) ?_
 try simp only[eF hB.wf,jl,jO]
 refine hB.BQ 0 rfl rfl ?_
 try simp only[eF hB.wf,jl,jO]
 refine hB.BQ 0 rfl rfl ?_;refine PU.of (oL aa) ?_;refine PU.of wz ?_
 try simp only[eF hB.wf,jl,jO]
 refine hB.QW 0 rfl rfl (ai rfl) rfl λHn hB=>?_;refine And.intro (by simp only[cB,dn];kernel_rfl) ?_
 try simp only[eF hB.wf,jl,jO]
 refine hB.BQ 0 rfl rfl ?_
 try simp only[eF hB.wf,jl,jO]
 refine hB.BQ 0 rfl rfl ?_;refine PU.of (yg aa) ?_;refine PU.of wz ?_
 try simp only[eF hB.wf,jl,jO]
 refine hB.QW 0 rfl rfl (ai rfl) rfl λHn hB=>?_;refine And.intro (by simp only[cB,dn];kernel_rfl) ?_
 try simp only[eF hB.wf,jl,jO]
 refine hB.ld 0 rfl rfl ?_;refine rr ?_;exact⟨_,rfl,hB⟩
theorem O3(hn:n<=1000000)(hB:Nm Q r ty n H0 H L)(a b:Int)(h1:0<=a)(h2:b<=n)(h3:a+12<b):
 az Pg X 131 [sl r n c,vi a,vi b] H λv H'=>Nm Q r ty n H0 H' L:=by
 refine ce [0,1,2,6,7,8,9,10] ?_;refine tl ?_;refine dD ?_;refine PU.of oJ ?_;rw[aS aa];rw[vU,qI<|u64_in aa];refine aF ?_;refine hB.new λH1 q hB=>?_;refine hB.st 0 rfl rfl (ai rfl) rfl λHn hB=>?_;refine az.mono (Ep (b-a) aa aa) ?_;rintro _ _ ⟨⟨m,rfl,h4,h5⟩,rfl⟩;refine PU.quo aa aa aa λqd hd1 hd2 hd3=>?_;refine FX ?_;refine bE ?_;refine dD ?_;refine lp2 9 10 (I:=λk x9 dR H'=>∃i s:Int,x9=vi i/\a<i/\i<=b/\k=(b-i).toNat/\Nm Q r ty n H0 H' ((q,232,[.int .u64 s])::L)) ?_ _ ⟨_,_,rfl,aa,aa,rfl,hB⟩;clear hB hd1 hd2 hd3 qd;rintro k x9 dR rg H3 ⟨i,s,rfl,h6,h7,hk,hB⟩;refine dJ.sH λK hK=>?_;refine tl ?_;refine PU.quo aa aa aa λqd hd1 hd2 hd3=>?_;refine FX ?_;refine bE ?_;refine bE ?_;refine PU.of D7 ?_;refine ah (λhc=>?_) λhc=>?_;rotate_left
 .subst hK;refine aF ?_;refine rn ?_;exact hB.drop
 have hib:i<b-1:=by omega
 clear hc hd1 hd2 hd3 qd;refine az.mono (JY hB) ?_;rintro _ H4 ⟨z,rfl,hB⟩;refine PU.of (IM<|u64_in aa) ?_;refine PU.of BD ?_;obtain⟨g1,g2⟩:=Ti (a:=z) (b:=m-1) aa;generalize rO .u64 z (m-1)=y at g1 g2;rw[vU,pZ aa aa];refine aF ?_
 have fin:∀(w:Int) rg,0<=w->w<b-a->dJ Pg X (sub mY [1,1,0,1,1,1,0,0,1,0,0,1,1]) (sO (sl r n c) (vi a) (vi b) (vi<|b-a) (.pointer<|some ⟨q,0,none⟩) (.int .u64 m) (vi i) (vi w) rg H4) (j3 1<|nR Pg X (sub mY [1,1,0,1,1,1,0,0,1,1]) K):=by
  intro w rg g3 g4;subst hK;refine tl ?_
  repeat(first|(refine hB.aY ?_)|(with_reducible refine bE ?_)|(with_reducible refine fH ?_)|(with_reducible refine hB.CX aa aa λz hz=>?_)|(with_reducible refine hB.PS aa aa (by assumption) λHn hB=>?_)|(refine nO ?_))
  refine tl ?_;refine hB.aY ?_;with_reducible refine bE ?_;exact⟨(b-(i+1)).toNat,aa,_,_,_,_,rfl,i+1,_,rfl,aa,aa,rfl,hB⟩
 refine ah (λhc=>?_) λhc=>?_
 .with_reducible refine dD ?_
  exact fin _ _ aa aa
 .exact fin _ _ aa aa
theorem Zi(hn:n<=1000000):∀(d:Nat)(H0 H:ag)(L:List cz)(hB:Nm Q r ty n H0 H L)(a b l:Int)(h1:0<=a)(h2:b<=n)(h3:a<=b+1)(h4:0<=l)(h5:l<=64)(hd:(b-a).toNat<=d),
 az Pg X 95 [sl r n c,vi a,vi b,vi l] H λv H'=>Nm Q r ty n H0 H' L:=by
 intro d
 induction d using Nat.strongRecOn with
 |_ d ih=>
 intro H0 H L hB a b l h1 h2 h3 h4 h5 hd;refine ce [0,1,2,3,8,9,10,11,12,13,14,15,16,17,18] ?_;refine tl ?_
 refine abx 1 2 3 8 9 10 11 12 13 14 15 16 17 18 (I:=λk x1 x2 x3 x8 x9 dR fC gK gq lu iL jU qV qf H'=>∃(a' b' l:Int)(w q:Bool),x1=vi a'/\x2=vi b'/\x3=vi l/\x8=.bool w/\x9=.bool q/\a<=a'/\b'<=b/\a'<=b'+1/\0<=l/\l<=64/\k=(b'+1-a').toNat/\Nm Q r ty n H0 H' L) ?_ _
  ⟨a,b,l,true,true,rfl,rfl,rfl,rfl,rfl,aa,aa,aa,aa,aa,rfl,hB⟩
 clear hB h4 h5 l H;rintro k x1 x2 x3 x8 x9 dR fC gK gq lu iL jU qV qf rg H1 ⟨a',b',l,w,q,rfl,rfl,rfl,rfl,rfl,h4,h5,h6,h7,h8,hk,hB⟩;refine dJ.sH λK hK=>?_
 have t3:∀(p l:Int)(w q:Bool) gK gq lu iL jU qV qf rg H3,0<=l->l<=64->a'+12<b'->a'<=p->p<b'->Nm Q r ty n H0 H3 L->dJ Pg X (sub jP [1,1,0,0,0,1,1,1,1,1,1,1,1])
  (jC (sl r n c) (vi a') (vi b') (vi l) (.bool w) (.bool q) (vi<|b'-a') (vi p) gK gq lu iL jU qV qf rg H3) (j3 1 K):=by
  intro p l w q gK gq lu iL jU qV qf rg H3 g1 g2 g3 g4 g5 hB;subst hK;refine tl ?_;refine az.mono (Vn aa hB a' b' p aa aa aa aa) ?_;rintro _ H4 ⟨mid,f,rfl,g6,g7,hB⟩;refine aF ?_;refine dD ?_;refine dD ?_;refine PU.quo aa aa aa λqd hd1 hd2 hd3=>?_;clear hd1 hd2 hd3;refine PU.of D6 ?_;refine ah (λhc=>?_) λhc=>?_
  .refine PU.of oJ ?_;refine az.mono (ih (mid-a').toNat aa H0 H4 L hB a' mid l aa aa aa g1 g2<|aj _) ?_;rintro _ H5 hB;refine bE ?_;exact⟨(b'+1-(mid+1)).toNat,aa,_,_,_,_,_,_,_,_,_,_,_,_,_,_,_,_,rfl,mid+1,b',l,_,_,rfl,rfl,rfl,rfl,rfl,aa,aa,aa,g1,g2,rfl,hB⟩
  .refine PU.of oJ ?_;refine bE ?_;refine az.mono (ih (b'-(mid+1)).toNat aa H0 H4 L hB (mid+1) b' l aa aa aa g1 g2<|aj _) ?_;rintro _ H5 hB;exact⟨(mid+1-a').toNat,aa,_,_,_,_,_,_,_,_,_,_,_,_,_,_,_,_,rfl,a',mid,l,_,_,rfl,rfl,rfl,rfl,rfl,aa,aa,aa,g1,g2,rfl,hB⟩
 have t2:∀(p l:Int)(w q:Bool) gK gq lu iL jU qV qf rg H3,0<=l->l<=64->a'+12<b'->a'<=p->p<b'->Nm Q r ty n H0 H3 L->dJ Pg X (sub jP [1,1,0,0,0,1,1,1,1,1,1,1])
  (jC (sl r n c) (vi a') (vi b') (vi l) (.bool w) (.bool q) (vi<|b'-a') (vi p) gK gq lu iL jU qV qf rg H3) (j3 1 K):=by
  intro p l w q gK gq lu iL jU qV qf rg H3 g1 g2 g3 g4 g5 hB;refine tl ?_;refine hB.aY ?_;refine ah (λhc=>?_) λhc=>?_
  .repeat(first|(refine hB.aY ?_)|(with_reducible refine dD ?_)|(with_reducible refine fH ?_)|(with_reducible refine hB.CX aa aa λz hz=>?_)|(refine nO ?_)|((with_reducible refine az.mono (kE _ _) ?_);rintro _ _ ⟨⟨bl,rfl⟩,rfl⟩))
   refine tl ?_;refine hB.aY ?_;refine bO (λhb=>?_) λhb=>?_
   .refine az.mono (O1 aa hB a' b' p aa aa aa aa) ?_;rintro _ H4 ⟨i,rfl,g6,g7,hB⟩;subst hK;refine hB.aY ?_;exact⟨(b'+1-i).toNat,aa,_,_,_,_,_,_,_,_,_,_,_,_,_,_,_,_,rfl,i,b',l,_,_,rfl,rfl,rfl,rfl,rfl,aa,aa,aa,g1,g2,rfl,hB⟩
   .exact t3 _ _ _ _ _ _ _ _ _ _ _ _ _ g1 g2 g3 g4 g5 hB
  .refine⟨by kernel_rfl,?_⟩;refine tl ?_;refine hB.aY ?_;exact t3 _ _ _ _ _ _ _ _ _ _ _ _ _ g1 g2 g3 g4 g5 hB
 have t1:∀(p h l:Int)(w q:Bool) gq lu iL jU qV qf rg H3,0<=l->l<=64->a'+12<b'->a'<=p->p<b'->Nm Q r ty n H0 H3 L->dJ Pg X (sub jP [1,1,0,0,0,1,1,1,1,1,1])
  (jC (sl r n c) (vi a') (vi b') (vi l) (.bool w) (.bool q) (vi<|b'-a') (vi p) (vi h) gq lu iL jU qV qf rg H3) (j3 1 K):=by
  intro p h l w q gq lu iL jU qV qf rg H3 g1 g2 g3 g4 g5 hB;refine tl ?_;refine hB.aY ?_;refine bO (λhb=>?_) λhb=>?_
  .refine bO (λhb=>?_) (λhb=>?_)
   .refine tl ?_;refine hB.aY ?_;refine ah (λhc=>?_) λhc=>?_
    .refine az.mono (MF aa hB a' b' aa aa aa) ?_;rintro _ H4 ⟨⟨bl,rfl⟩,hB⟩;refine hB.aY ?_;refine bO (λhb=>?_) λhb=>?_
     .subst hK;refine hB.aY ?_;refine rr ?_;exact hB
     .exact t2 _ _ _ _ _ _ _ _ _ _ _ _ _ g1 g2 g3 g4 g5 hB
    .exact t2 _ _ _ _ _ _ _ _ _ _ _ _ _ g1 g2 g3 g4 g5 hB
   .refine tl ?_;refine hB.aY ?_;exact t2 _ _ _ _ _ _ _ _ _ _ _ _ _ g1 g2 g3 g4 g5 hB
  .refine tl ?_;refine hB.aY ?_;exact t2 _ _ _ _ _ _ _ _ _ _ _ _ _ g1 g2 g3 g4 g5 hB
 have t0:∀(l:Int)(w q:Bool) fC gK gq lu iL jU qV qf rg H3,0<=l->l<=64->a'+12<b'->Nm Q r ty n H0 H3 L->dJ Pg X (sub jP [1,1,0,0,0,1,1,1,1])
  (jC (sl r n c) (vi a') (vi b') (vi l) (.bool w) (.bool q) (vi<|b'-a') fC gK gq lu iL jU qV qf rg H3) (j3 1 K):=by
  intro l w q fC gK gq lu iL jU qV qf rg H3 g1 g2 g3 hB;refine tl ?_;refine az.mono (choose_spec aa hB a' b' aa aa aa) ?_;rintro _ H4 ⟨p,h,rfl,g4,g5,hB⟩;refine aF ?_;refine ah (λhc=>?_) λhc=>?_
  .refine az.mono (MC aa hB a' b' aa aa aa) ?_;rintro _ H5 hB
   repeat(with_reducible refine dD ?_)
   exact t1 _ _ _ _ _ _ _ _ _ _ _ _ _ g1 g2 g3 aa aa hB
  .exact t1 _ _ _ _ _ _ _ _ _ _ _ _ _ g1 g2 g3 aa aa hB
 refine tl ?_
 repeat(first|(refine hB.aY ?_)|(with_reducible refine dD ?_))
 refine ah (λhc=>?_) λhc=>?_
 .refine az.mono (Jf aa hB a' b' aa aa aa) ?_;rintro _ H5 hB;subst hK;refine hB.aY ?_;refine rr ?_;exact hB
 refine ah (λhe=>?_) λhe=>?_
 .refine az.mono (Vm aa hB a' b' aa aa aa) ?_;rintro _ H5 hB;subst hK;refine hB.aY ?_;refine rr ?_;exact hB
 refine bO (λhb=>?_) λhb=>?_
 .refine az.mono (O3 hn hB a' b' aa aa aa) ?_;rintro _ H5 hB
  with_reducible refine dD ?_
  exact t0 _ _ _ _ _ _ _ _ _ _ _ _ _ aa aa aa hB
 .exact t0 _ _ _ _ _ _ _ _ _ _ _ _ _ aa aa aa hB
end Go.Proofs.Lu
