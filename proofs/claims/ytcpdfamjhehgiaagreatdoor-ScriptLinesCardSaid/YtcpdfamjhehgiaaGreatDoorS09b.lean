/-
  Part 09b of the proof. No condition.
-/
import Derived.Test.YtcpdfamjhehgiaaGreatDoorS09
set_option linter.unusedVariables false
set_option linter.unusedSimpArgs false
set_option maxRecDepth 100000
set_option maxHeartbeats 8000000
noncomputable section
namespace Go.Proofs.Lu
open Go.Ae Go.Ae.M
section
variable{H0 H:ag}{L:List bF}{r:Nat}{ty:TypeId}{n c:Nat}{cv:Value}
theorem zX(hcm:ku cv)(hn:n≤16777216)(hB:Rg r ty n H0 H L)(a b:Int)(h1:0≤a)(h2:b≤n)(h3:a<b):
 aj Pg X 448 [sl r n c,vi a,vi b,cv] H fun v H'=>UT v∧Rg r ty n H0 H' L:=by
 refine ce [0,1,2,3,8,9,10,11,12] ?_;refine tl ?_
 with_reducible refine aC ?_
 refine XW 8 9 10 11 12 (I:=fun m x6 x7 x8 x9 eZ H'=>∃i j:Int,x7=vi i∧x8=vi j∧a<i∧i≤b∧j≤5∧0≤j∧m=(5 -j).toNat∧Rg r ty n H0 H' L) ?_ _ ⟨_,_,rfl,rfl,aa,aa,aa,aa,rfl,hB⟩
 rintro m x6 x7 x8 x9 eZ rg H' ⟨i,j,rfl,rfl,h4,h5,h6,h6',hm,hB⟩
 refine bC.l6 fun K hK=>?_
 refine tl ?_
 refine hB.aX ?_
 refine ai (fun hc=>?_) (fun hc=>?_)
 rotate_left
 ·subst hK
  refine hB.aX ?_
  refine tl ?_
  refine rr ?_;exact⟨⟨_,rfl⟩,hB⟩
 refine IB 9 (I:=fun m x7 H'=>∃i:Int,x7=vi i∧a<i∧i≤b∧m=(b -i).toNat∧Rg r ty n H0 H' L) ?_ _ ⟨_,rfl,aa,aa,rfl,hB⟩
 rintro m2 x7 rg H2 ⟨i,rfl,h7,h8,hm2,hB⟩
 clear h4 h5
 have fin:∀x9 eZ rg H3,i<b→Rg r ty n H0 H3 L→bC Pg X (sub aF [1,1,0,1,0,0,1,1]) (aZ (sl r n c) (vi a) (vi b) cv x6 (vi i) (vi j) x9 eZ rg H3) K:=by
  intro x9 eZ rg H3 hib hB
  subst hK
  refine tl ?_
  refine hB.aX ?_;with_reducible refine aC ?_
  exact⟨(5 -(j +1)).toNat,aa,_,_,_,_,_,_,_,rfl,i,j +1,rfl,rfl,aa,aa,aa,aa,rfl,hB⟩
 have lp2:∀x9 rg H3,i<b→Rg r ty n H0 H3 L→bC Pg X (.loop (sub aF [1,1,0,1,0,0,1,0,0,1,1,1,1,1,1,0,1,0,0])) (aZ (sl r n c) (vi a) (vi b) cv x6 (vi i) (vi j) x9 (vi (i +1)) rg H3) (nL 6 (nL 1 (pG Pg X (sub aF [1,1,0,1,0,0,1,1]) K))):=by
  intro x9 rg H3 hib hB
  refine IB 12 (I:=fun m eZ H'=>∃k:Int,eZ=vi k∧i<k∧k≤b∧m=(b -k).toNat∧Rg r ty n H0 H' L) ?_ _ ⟨_,rfl,aa,aa,rfl,hB⟩
  rintro m3 eZ rg H4 ⟨k,rfl,h9,h10,UF,hB⟩
  refine tl ?_
  refine hB.aX ?_
  refine ai (fun he=>?_) (fun he=>?_)
  rotate_left
  ·exact fin _ _ _ _ hib hB
  repeat(first|(refine hB.aX ?_)|(with_reducible refine aG ?_)|(with_reducible refine aI ?_)|(with_reducible refine hB.fQ aa aa fun za zb=>?_)|(with_reducible refine hcm.call hB fun zc Hn hB bI=>?_)|((with_reducible refine And.intro ?_ ?_);focus ((simp only[az,ay,av bI]);kernel_rfl)))
  refine aU (fun hb=>?_) (fun hb=>?_)
  ·exact fin _ _ _ _ hib hB
  repeat(first|(refine hB.aX ?_)|(with_reducible refine aC ?_)|(with_reducible refine aG ?_)|(with_reducible refine aI ?_)|(with_reducible refine hB.fQ aa aa fun za zb=>?_)|(with_reducible refine hB.gD aa aa fun Hn hB=>?_)|((with_reducible refine And.intro ?_ ?_);focus ((simp only[az,ay,av bI]);kernel_rfl)))
  exact⟨(b -(k +1)).toNat,aa,_,_,_,rfl,k +1,rfl,aa,aa,rfl,hB⟩
 have uh:∀x9 rg H3,i<b→Rg r ty n H0 H3 L→bC Pg X (sub aF [1,1,0,1,0,0,1,0,0,1,1,1,1,1]) (aZ (sl r n c) (vi a) (vi b) cv x6 (vi i) (vi j) x9 eZ rg H3) (nL 1 (pG Pg X (sub aF [1,1,0,1,0,0,1,1]) K)):=by
  intro x9 rg H3 hib hB
  refine tl ?_
  repeat(first|(refine hB.aX ?_)|(with_reducible refine aG ?_))
  refine ai (fun hd=>?_) (fun hd=>?_)
  rotate_left
  ·exact fin _ _ _ _ hib hB
  with_reducible refine aC ?_
  exact lp2 _ _ _ hib hB
 have ze:∀rg H3,Rg r ty n H0 H3 L→bC Pg X (sub aF [1,1,0,1,0,0,1,0,0,1]) (aZ (sl r n c) (vi a) (vi b) cv x6 (vi i) (vi j) x9 eZ rg H3) (nL 1 (pG Pg X (sub aF [1,1,0,1,0,0,1,1]) K)):=by
  intro rg H3 hB
  refine tl ?_
  refine hB.aX ?_
  refine ai (fun hd=>?_) (fun hd=>?_)
  ·subst hK
   refine hB.aX ?_
   refine rr ?_;exact⟨⟨_,rfl⟩,hB⟩
  with_reducible refine aG ?_;refine hB.aX ?_
  refine ai (fun he=>?_) (fun he=>?_)
  ·subst hK
   refine hB.aX ?_
   refine rr ?_;exact⟨⟨_,rfl⟩,hB⟩
  repeat(first|(refine hB.aX ?_)|(with_reducible refine aG ?_)|(with_reducible refine aI ?_)|(with_reducible refine hB.fQ aa aa fun za zb=>?_)|(with_reducible refine hB.gD aa aa fun Hn hB=>?_)|(refine bJ ?_))
  refine ai (fun hg=>?_) (fun hg=>?_)
  rotate_left
  ·with_reducible refine aG ?_;refine hB.aX ?_
   refine ai (fun hd=>?_) (fun hd=>?_)
   rotate_left
   ·exact fin _ _ _ _ aa hB
   with_reducible refine aC ?_
   exact lp2 _ _ _ aa hB
  with_reducible refine aG ?_
  refine IB 11 (I:=fun m x9 H'=>∃k:Int,x9=vi k∧0≤k∧k<i∧m=k.toNat∧Rg r ty n H0 H' L) ?_ _ ⟨_,rfl,aa,aa,rfl,hB⟩
  rintro m3 x9 rg H4 ⟨k,rfl,h9,h10,UF,hB⟩
  refine tl ?_
  refine hB.aX ?_
  refine ai (fun he=>?_) (fun he=>?_)
  rotate_left
  ·exact uh _ _ _ aa hB
  repeat(first|(refine hB.aX ?_)|(with_reducible refine aG ?_)|(with_reducible refine aI ?_)|(with_reducible refine hB.fQ aa aa fun za zb=>?_)|(with_reducible refine hcm.call hB fun zc Hn hB bI=>?_)|((with_reducible refine And.intro ?_ ?_);focus ((simp only[az,ay,av bI]);kernel_rfl)))
  refine aU (fun hb=>?_) (fun hb=>?_)
  ·exact uh _ _ _ aa hB
  repeat(first|(refine hB.aX ?_)|(with_reducible refine aG ?_)|(with_reducible refine aI ?_)|(with_reducible refine hB.fQ aa aa fun za zb=>?_)|(with_reducible refine hB.gD aa aa fun Hn hB=>?_)|((with_reducible refine And.intro ?_ ?_);focus ((simp only[az,ay,av bI]);kernel_rfl)))
  exact⟨(k -1).toNat,aa,_,_,_,rfl,k -1,rfl,aa,aa,rfl,hB⟩
 refine tl ?_
 refine hB.aX ?_
 refine ai (fun hd=>?_) (fun hd=>?_)
 rotate_left
 ·refine⟨by kernel_rfl,?_⟩
  exact ze _ _ hB
 repeat(first|(refine hB.aX ?_)|(with_reducible refine aG ?_)|(with_reducible refine aI ?_)|(with_reducible refine hB.fQ aa aa fun za zb=>?_)|(with_reducible refine hcm.call hB fun zc Hn hB bI=>?_)|((with_reducible refine And.intro ?_ ?_);focus ((simp only[az,ay,av bI]);kernel_rfl)))
 refine aU (fun hb=>?_) (fun hb=>?_)
 rotate_left
 ·exact ze _ _ hB
 with_reducible refine aC ?_
 exact⟨(b -(i +1)).toNat,aa,_,_,_,rfl,i +1,rfl,aa,aa,rfl,hB⟩
theorem Cx(hcm:ku cv)(hn:n≤16777216)(hB:Rg r ty n H0 H L)(a b p:Int)(h1:0≤a)(h2:b≤n)(h3:a<b)(hp:a≤p∧p<b):
 aj Pg X 449 [sl r n c,vi a,vi b,vi p,cv] H fun v H'=>∃i:Int,v=vi i∧a<i∧i≤b +1∧Rg r ty n H0 H' L:=by
 refine ce [0,1,2,3,4,10,11,12] ?_;refine tl ?_
 repeat(first|(refine hB.aX ?_)|(with_reducible refine aC ?_)|(with_reducible refine aG ?_)|(with_reducible refine aI ?_)|(with_reducible refine hB.fQ aa aa fun za zb=>?_)|(with_reducible refine hB.gD aa aa fun Hn hB=>?_)|(refine bJ ?_))
 refine lp2 11 12 (I:=fun m x9 eZ H'=>∃i j:Int,x9=vi i∧eZ=vi j∧a<i∧i≤b +1∧j<b∧i -2≤j∧m=(j +2 -i).toNat∧Rg r ty n H0 H' L) ?_ _ ⟨_,_,rfl,rfl,aa,aa,aa,aa,rfl,hB⟩
 rintro m x9 eZ rg H1 ⟨i,j,rfl,rfl,h4,h5,h6,h7,hm,hB⟩
 refine bC.l6 fun K hK=>?_
 have uh:∀(i2 j2:Int) rg H3,i≤i2→j2≤j→i2 -2≤j2→i2≤b +1→Rg r ty n H0 H3 L→bC Pg X (sub eO [1,1,1,0,0,0,0,1,1]) (dX (sl r n c) (vi a) (vi b) (vi p) cv (vi 0) (vi i2) (vi j2) rg H3) (nL 1 K):=by
  intro i2 j2 rg H3 g1 g2 g3 g4 hB
  subst hK
  refine tl ?_
  refine hB.aX ?_
  refine ai (fun hd=>?_) (fun hd=>?_)
  ·refine tl ?_
   refine rr ?_;exact⟨_,rfl,aa,aa,hB⟩
  repeat(first|(refine hB.aX ?_)|(with_reducible refine aC ?_)|(with_reducible refine aG ?_)|(with_reducible refine aI ?_)|(with_reducible refine hB.fQ aa aa fun za zb=>?_)|(with_reducible refine hB.gD aa aa fun Hn hB=>?_)|(refine bJ ?_))
  exact⟨(j2 -1 +2 -(i2 +1)).toNat,aa,_,_,_,_,rfl,i2 +1,j2 -1,rfl,rfl,aa,aa,aa,aa,rfl,hB⟩
 have ze:∀(i2:Int) rg H3,i≤i2→i2 -2≤j→i2≤b +1→Rg r ty n H0 H3 L→bC Pg X (sub eO [1,1,1,0,0,0,0,1]) (dX (sl r n c) (vi a) (vi b) (vi p) cv (vi 0) (vi i2) (vi j) rg H3) (nL 1 K):=by
  intro i2 rg H3 g1 g2 g3 hB
  refine tl ?_
  refine IB 12 (I:=fun m eZ H'=>∃j2:Int,eZ=vi j2∧j2≤j∧i2 -2≤j2∧m=(j2 +2 -i2).toNat∧Rg r ty n H0 H' L) ?_ _ ⟨_,rfl,aa,aa,rfl,hB⟩
  rintro m3 eZ rg H4 ⟨j2,rfl,h9,h10,UF,hB⟩
  refine tl ?_
  refine hB.aX ?_
  refine ai (fun he=>?_) (fun he=>?_)
  rotate_left
  ·refine⟨by kernel_rfl,?_⟩
   exact uh _ _ _ _ aa aa aa aa hB
  repeat(first|(refine hB.aX ?_)|(with_reducible refine aI ?_)|(with_reducible refine hB.fQ aa aa fun za zb=>?_)|(with_reducible refine hcm.call hB fun zc Hn hB bI=>?_)|((with_reducible refine And.intro ?_ ?_);focus ((simp only[az,ay,av bI]);kernel_rfl)))
  refine aU (fun hb=>?_) (fun hb=>?_)
  rotate_left
  ·exact uh _ _ _ _ aa aa aa aa hB
  with_reducible refine aG ?_
  exact⟨(j2 -1 +2 -i2).toNat,aa,_,_,_,rfl,j2 -1,rfl,aa,aa,rfl,hB⟩
 refine tl ?_
 refine IB 11 (I:=fun m x9 H'=>∃i2:Int,x9=vi i2∧i≤i2∧i2 -2≤j∧i2≤b +1∧m=(j +2 -i2).toNat∧Rg r ty n H0 H' L) ?_ _ ⟨_,rfl,aa,aa,aa,rfl,hB⟩
 rintro m3 x9 rg H4 ⟨i2,rfl,h9,h10,h11,UF,hB⟩
 refine tl ?_
 refine hB.aX ?_
 refine ai (fun he=>?_) (fun he=>?_)
 rotate_left
 ·refine⟨by kernel_rfl,?_⟩
  exact ze _ _ _ aa aa aa hB
 repeat(first|(refine hB.aX ?_)|(with_reducible refine aI ?_)|(with_reducible refine hB.fQ aa aa fun za zb=>?_)|(with_reducible refine hcm.call hB fun zc Hn hB bI=>?_)|((with_reducible refine And.intro ?_ ?_);focus ((simp only[az,ay,av bI]);kernel_rfl)))
 refine aU (fun hb=>?_) (fun hb=>?_)
 rotate_left
 ·exact ze _ _ _ aa aa aa hB
 with_reducible refine aC ?_
 exact⟨(j +2 -(i2 +1)).toNat,aa,_,_,_,rfl,i2 +1,rfl,aa,aa,aa,rfl,hB⟩
theorem Gb(hcm:ku cv)(hn:n≤16777216)(hB:Rg r ty n H0 H L)(a b p:Int)(h1:0≤a)(h2:b≤n)(h3:a<b)(hp:a≤p∧p<b):
 aj Pg X 450 [sl r n c,vi a,vi b,vi p,cv] H fun v H'=>∃(i:Int)(f:Bool),v=.tuple ⟨[vi i,.bool f]⟩∧a≤i∧i<b∧Rg r ty n H0 H' L:=by
 refine ce [0,1,2,3,4,10,11,12,13] ?_;refine tl ?_
 repeat(first|(refine hB.aX ?_)|(with_reducible refine aC ?_)|(with_reducible refine aG ?_)|(with_reducible refine aI ?_)|(with_reducible refine hB.fQ aa aa fun za zb=>?_)|(with_reducible refine hB.gD aa aa fun Hn hB=>?_)|(refine bJ ?_))
 refine bC.l6 fun K hK=>?_
 have out:∀(i j:Int) x8 x9 rg H3,a≤j→j<b→Rg r ty n H0 H3 L→bC Pg X (sub aR [1,1,1,1,1,1,1,1,1,1]) (aY (sl r n c) (vi a) (vi b) (vi p) cv x8 x9 (vi i) (vi j) rg H3) (fD Pg [.tmp 10,.tmp 11] fun v H'=>∃(i:Int)(f:Bool),v=.tuple ⟨[vi i,.bool f]⟩∧a≤i∧i<b∧Rg r ty n H0 H' L):=by
  intro i j x8 x9 rg H3 g1 g2 hB
  refine tl ?_
  repeat(first|(refine hB.aX ?_)|(with_reducible refine aI ?_)|(with_reducible refine hB.fQ aa aa fun za zb=>?_)|(with_reducible refine hB.gD aa aa fun Hn hB=>?_)|(refine bJ ?_))
  refine rr ?_;exact⟨_,_,rfl,aa,aa,hB⟩
 have lp:∀(i j:Int) x8 x9 rg H3,a<i→j<b→a≤j→i -2≤j→Rg r ty n H0 H3 L→bC Pg X (.loop (sub aR [1,1,1,1,1,1,1,1,1,0,0,0])) (aY (sl r n c) (vi a) (vi b) (vi p) cv x8 x9 (vi i) (vi j) rg H3) (nL 4 (pG Pg X (sub aR [1,1,1,1,1,1,1,1,1,1]) (fD Pg [.tmp 10,.tmp 11] fun v H'=>∃(i:Int)(f:Bool),v=.tuple ⟨[vi i,.bool f]⟩∧a≤i∧i<b∧Rg r ty n H0 H' L))):=by
  intro i j x8 x9 rg H3 g1 g2 g3 g4 hB
  refine lp2 12 13 (I:=fun m eZ jK H'=>∃i j:Int,eZ=vi i∧jK=vi j∧a<i∧j<b∧a≤j∧i -2≤j∧m=(j +2 -i).toNat∧Rg r ty n H0 H' L) ?_ _ ⟨_,_,rfl,rfl,g1,g2,g3,g4,rfl,hB⟩
  clear g1 g2 g3 g4 hB i j
  rintro m eZ jK rg H1 ⟨i,j,rfl,rfl,h4,h5,h6,h7,hm,hB⟩
  refine bC.l6 fun K hK=>?_
  have uh:∀(i2 j2:Int) rg H3,i≤i2→j2≤j→i2 -2≤j2→a≤j2→Rg r ty n H0 H3 L→bC Pg X (sub aR [1,1,1,1,1,1,1,1,1,0,0,0,0,1,1]) (aY (sl r n c) (vi a) (vi b) (vi p) cv x8 x9 (vi i2) (vi j2) rg H3) (nL 5 K):=by
   intro i2 j2 rg H3 g1 g2 g3 g4 hB
   subst hK
   refine tl ?_
   refine hB.aX ?_
   refine ai (fun hd=>?_) (fun hd=>?_)
   ·exact out _ _ _ _ _ _ aa aa hB
   repeat(first|(refine hB.aX ?_)|(with_reducible refine aC ?_)|(with_reducible refine aG ?_)|(with_reducible refine aI ?_)|(with_reducible refine hB.fQ aa aa fun za zb=>?_)|(with_reducible refine hB.gD aa aa fun Hn hB=>?_)|(refine bJ ?_))
   exact⟨(j2 -1 +2 -(i2 +1)).toNat,aa,_,_,_,_,rfl,i2 +1,j2 -1,rfl,rfl,aa,aa,aa,aa,rfl,hB⟩
  have ze:∀(i2:Int) rg H3,i≤i2→i2 -2≤j→Rg r ty n H0 H3 L→bC Pg X (sub aR [1,1,1,1,1,1,1,1,1,0,0,0,0,1]) (aY (sl r n c) (vi a) (vi b) (vi p) cv x8 x9 (vi i2) (vi j) rg H3) (nL 5 K):=by
   intro i2 rg H3 g1 g2 hB
   refine tl ?_
   refine IB 13 (I:=fun m eZ H'=>∃j2:Int,eZ=vi j2∧j2≤j∧i2 -2≤j2∧a≤j2∧m=(j2 +2 -i2).toNat∧Rg r ty n H0 H' L) ?_ _ ⟨_,rfl,aa,aa,aa,rfl,hB⟩
   rintro m3 eZ rg H4 ⟨j2,rfl,h9,h10,h11,UF,hB⟩
   refine tl ?_
   refine hB.aX ?_
   refine ai (fun he=>?_) (fun he=>?_)
   rotate_left
   ·refine⟨by kernel_rfl,?_⟩
    exact uh _ _ _ _ aa aa aa aa hB
   repeat(first|(refine hB.aX ?_)|(with_reducible refine aI ?_)|(with_reducible refine hB.fQ aa aa fun za zb=>?_)|(with_reducible refine hcm.call hB fun zc Hn hB bI=>?_)|((with_reducible refine And.intro ?_ ?_);focus ((simp only[az,ay,av bI]);kernel_rfl)))
   refine aU (fun hb=>?_) (fun hb=>?_)
   rotate_left
   ·exact uh _ _ _ _ aa aa aa aa hB
   with_reducible refine aG ?_
   exact⟨(j2 -1 +2 -i2).toNat,aa,_,_,_,rfl,j2 -1,rfl,aa,aa,aa,rfl,hB⟩
  refine tl ?_
  refine IB 12 (I:=fun m x9 H'=>∃i2:Int,x9=vi i2∧i≤i2∧i2 -2≤j∧m=(j +2 -i2).toNat∧Rg r ty n H0 H' L) ?_ _ ⟨_,rfl,aa,aa,rfl,hB⟩
  rintro m3 x9 rg H4 ⟨i2,rfl,h9,h10,UF,hB⟩
  refine tl ?_
  refine hB.aX ?_
  refine ai (fun he=>?_) (fun he=>?_)
  rotate_left
  ·refine⟨by kernel_rfl,?_⟩
   exact ze _ _ _ aa aa hB
  repeat(first|(refine hB.aX ?_)|(with_reducible refine aI ?_)|(with_reducible refine hB.fQ aa aa fun za zb=>?_)|(with_reducible refine hcm.call hB fun zc Hn hB bI=>?_)|((with_reducible refine And.intro ?_ ?_);focus ((simp only[az,ay,av bI]);kernel_rfl)))
  refine aU (fun hb=>?_) (fun hb=>?_)
  rotate_left
  ·exact ze _ _ _ aa aa hB
  with_reducible refine aC ?_
  exact⟨(j +2 -(i2 +1)).toNat,aa,_,_,_,rfl,i2 +1,rfl,aa,aa,rfl,hB⟩
 subst hK
 have XA:∀(i j:Int) x8 x9 rg H3,a<i→j<b→a≤j→i -2≤j→Rg r ty n H0 H3 L→bC Pg X (sub aR [1,1,1,1,1]) (aY (sl r n c) (vi a) (vi b) (vi p) cv x8 x9 (vi i) (vi j) rg H3) (fD Pg [.tmp 10,.tmp 11] fun v H'=>∃(i:Int)(f:Bool),v=.tuple ⟨[vi i,.bool f]⟩∧a≤i∧i<b∧Rg r ty n H0 H' L):=by
  intro i j x8 x9 rg H3 g1 g2 g3 g4 hB
  refine tl ?_
  refine hB.aX ?_
  refine ai (fun he=>?_) (fun he=>?_)
  ·repeat(first|(refine hB.aX ?_)|(with_reducible refine aI ?_)|(with_reducible refine hB.fQ aa aa fun za zb=>?_)|(with_reducible refine hB.gD aa aa fun Hn hB=>?_)|(refine bJ ?_))
   refine rr ?_;exact⟨_,_,rfl,aa,aa,hB⟩
  repeat(first|(refine hB.aX ?_)|(with_reducible refine aC ?_)|(with_reducible refine aG ?_)|(with_reducible refine aI ?_)|(with_reducible refine hB.fQ aa aa fun za zb=>?_)|(with_reducible refine hB.gD aa aa fun Hn hB=>?_)|(refine bJ ?_))
  exact lp (i +1) (j -1) _ _ _ _ aa aa aa aa hB
 have XB:∀(i:Int) x8 x9 rg H3,a<i→i≤b→Rg r ty n H0 H3 L→bC Pg X (sub aR [1,1,1,1]) (aY (sl r n c) (vi a) (vi b) (vi p) cv x8 x9 (vi i) (vi (b -1)) rg H3) (fD Pg [.tmp 10,.tmp 11] fun v H'=>∃(i:Int)(f:Bool),v=.tuple ⟨[vi i,.bool f]⟩∧a≤i∧i<b∧Rg r ty n H0 H' L):=by
  intro i x8 x9 rg H3 g1 g2 hB
  refine tl ?_
  refine IB 13 (I:=fun m eZ H'=>∃j2:Int,eZ=vi j2∧j2<b∧i -2≤j2∧a≤j2∧m=(j2 +2 -i).toNat∧Rg r ty n H0 H' L) ?_ _ ⟨_,rfl,aa,aa,aa,rfl,hB⟩
  rintro m3 eZ rg H4 ⟨j2,rfl,h9,h10,h11,UF,hB⟩
  refine tl ?_
  refine hB.aX ?_
  refine ai (fun he=>?_) (fun he=>?_)
  rotate_left
  ·refine⟨by kernel_rfl,?_⟩
   exact XA _ _ _ _ _ _ aa aa aa aa hB
  repeat(first|(refine hB.aX ?_)|(with_reducible refine aI ?_)|(with_reducible refine hB.fQ aa aa fun za zb=>?_)|(with_reducible refine hcm.call hB fun zc Hn hB bI=>?_)|((with_reducible refine And.intro ?_ ?_);focus ((simp only[az,ay,av bI]);kernel_rfl)))
  refine aU (fun hb=>?_) (fun hb=>?_)
  rotate_left
  ·exact XA _ _ _ _ _ _ aa aa aa aa hB
  with_reducible refine aG ?_
  exact⟨(j2 -1 +2 -i).toNat,aa,_,_,_,rfl,j2 -1,rfl,aa,aa,aa,rfl,hB⟩
 refine IB 12 (I:=fun m x9 H'=>∃i2:Int,x9=vi i2∧a<i2∧i2≤b∧m=(b -i2).toNat∧Rg r ty n H0 H' L) ?_ _ ⟨_,rfl,aa,aa,rfl,hB⟩
 rintro m3 x9 rg H4 ⟨i2,rfl,h9,h10,UF,hB⟩
 refine tl ?_
 refine hB.aX ?_
 refine ai (fun he=>?_) (fun he=>?_)
 rotate_left
 ·refine⟨by kernel_rfl,?_⟩
  exact XB _ _ _ _ _ aa aa hB
 repeat(first|(refine hB.aX ?_)|(with_reducible refine aI ?_)|(with_reducible refine hB.fQ aa aa fun za zb=>?_)|(with_reducible refine hcm.call hB fun zc Hn hB bI=>?_)|((with_reducible refine And.intro ?_ ?_);focus ((simp only[az,ay,av bI]);kernel_rfl)))
 refine aU (fun hb=>?_) (fun hb=>?_)
 rotate_left
 ·exact XB _ _ _ _ _ aa aa hB
 with_reducible refine aC ?_
 exact⟨(b -(i2 +1)).toNat,aa,_,_,_,rfl,i2 +1,rfl,aa,aa,rfl,hB⟩
end
end Go.Proofs.Lu
