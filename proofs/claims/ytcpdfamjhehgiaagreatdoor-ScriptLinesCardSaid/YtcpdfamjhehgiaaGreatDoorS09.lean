/-
  Part 09 of the proof. No condition.
-/
import Derived.Test.YtcpdfamjhehgiaaGreatDoorS06
set_option linter.unusedVariables false
set_option linter.unusedSimpArgs false
set_option maxRecDepth 100000
set_option maxHeartbeats 8000000
noncomputable section
namespace Go.Proofs.Lu
open Go.Ae Go.Ae.M
section
variable{H0 H:ag}{L:List bF}{Q:List Int}{r:Nat}{ty:TypeId}{n c:Nat}
theorem F9(a:Int):aj Pg X 487 [vi a] H (Q0 (fun v=>v=.bool false) H):=by
 refine ce [0,2] ?_;refine tl ?_
 refine ak ?_
 refine rr ?_;exact⟨by simp,rfl⟩
theorem Ki(a b:Int):aj Pg X 462 [vi a,vi b] H (Q0 UT H):=by
 refine ce [0,1,4] ?_;refine tl ?_
 refine aj.mono (F9 _) ?_
 rintro v H' ⟨rfl,rfl⟩
 refine ak ?_
 refine rr ?_;exact⟨⟨_,rfl⟩,rfl⟩
theorem Be{P:Program}{t:TypeId}{ox oy:Operand}{a b:Int}:bq P .add t ox oy (vi a) (vi b)=some (vi (aT .i64 (a +b))):=aV rfl rfl
abbrev sl(r n c:Nat):Value:=.slice (some ⟨r,0,none⟩) n c
theorem pX{q:Nat}{s:Int}(hB:Np (Pn Q) r ty n H0 H ((q,3,[vi s])::L))(a b:Int)(ha:0≤a∧a<n)(hb:0≤b∧b<n):
 aj Pg X 498 [sl r n c,vi a,vi b,.pointer (some ⟨q,0,none⟩)] H fun v H'=>∃a' b' s',v=.tuple ⟨[vi a',vi b']⟩∧(a'=a∧b'=b∨a'=b∧b'=a)∧Np (Pn Q) r ty n H0 H' ((q,3,[vi s'])::L):=by
 refine ce [0,1,2,3,8,9] ?_;refine tl ?_
 repeat(first|(refine hB.aX ?_)|(with_reducible refine aI ?_)|(with_reducible refine hB.ZD aa aa fun z hB=>?_)|(refine bJ ?_)|((with_reducible refine aj.mono (Ki _ _) ?_);rintro _ _ ⟨⟨bl,rfl⟩,rfl⟩))
 refine aU (fun hc=>?_) (fun hc=>?_)
 ·refine hB.ld 0 rfl rfl ?_
  refine PU.of Be ?_
  refine hB.st 0 rfl rfl (Nat.le_of_ble_eq_true rfl) rfl fun Hn hB=>?_
  refine rr ?_;exact⟨_,_,_,rfl,.inr ⟨rfl,rfl⟩,hB.bk⟩
 ·refine rr ?_;exact⟨_,_,_,rfl,.inl ⟨rfl,rfl⟩,hB.bk⟩
theorem wD{q:Nat}{s:Int}(hB:Np (Pn Q) r ty n H0 H ((q,3,[vi s])::L))(x y z:Int)(hx:0≤x∧x<n)(hy:0≤y∧y<n)(hz:0≤z∧z<n):
 aj Pg X 486 [sl r n c,vi x,vi y,vi z,.pointer (some ⟨q,0,none⟩)] H fun v H'=>∃m s',v=vi m∧(m=x∨m=y∨m=z)∧Np (Pn Q) r ty n H0 H' ((q,3,[vi s'])::L):=by
 refine ce [0,1,2,3,4,10] ?_;refine tl ?_
 refine aj.mono (pX hB.bk x y hx hy) ?_
 rintro _ H1 ⟨a,b,s1,rfl,h1,hB⟩
 refine hB.aX ?_
 refine aj.mono (pX hB.bk b z aa hz) ?_
 rintro _ H2 ⟨b',c',s2,rfl,h2,hB⟩
 refine hB.aX ?_
 refine aj.mono (pX hB.bk a b' aa aa) ?_
 rintro _ H3 ⟨a3,b3,s3,rfl,h3,hB⟩
 refine hB.aX ?_
 refine rr ?_;exact⟨_,_,rfl,aa,hB.bk⟩
theorem lN{q:Nat}{s:Int}(hn:n≤16777216)(hB:Np (Pn Q) r ty n H0 H ((q,3,[vi s])::L))(x:Int)(hx:1≤x∧x +1<n):
 aj Pg X 485 [sl r n c,vi x,.pointer (some ⟨q,0,none⟩)] H fun v H'=>∃m s',v=vi m∧x -1≤m∧m≤x +1∧Np (Pn Q) r ty n H0 H' ((q,3,[vi s'])::L):=by
 refine ce [0,1,2,6] ?_;refine tl ?_
 with_reducible refine aG ?_;with_reducible refine aC ?_
 refine aj.mono (wD hB.bk _ _ _ aa aa aa) ?_
 rintro _ H1 ⟨m,s1,rfl,h1,hB⟩
 refine rr ?_;exact⟨_,_,rfl,aa,aa,hB.bk⟩
end
section
variable{H0 H:ag}{L:List bF}{Q:List Int}{r:Nat}{ty:TypeId}{n c:Nat}
theorem choose_spec(hn:n≤16777216)(hB:Np (Pn Q) r ty n H0 H L)(a b:Int)(h1:0≤a)(h2:b≤n)(h3:a +12<b):
 aj Pg X 459 [sl r n c,vi a,vi b] H fun v H'=>∃p h:Int,v=.tuple ⟨[vi p,vi h]⟩∧a<p∧p +1<b∧Np (Pn Q) r ty n H0 H' L:=by
 refine ce [0,1,2,6,7,8,9,10,11,12,49] ?_;refine tl ?_
 with_reducible refine aG ?_;refine hB.aX ?_
 refine hB.new fun H1 q hB=>?_
 repeat(first|(with_reducible refine aC ?_)|(with_reducible refine aL ?_)|(with_reducible refine PU.quo aa aa aa fun qd hd1 hd2 hd3=>?_))
 have fin:∀(i j k s:Int)(x6 x7 x8:Value) rg H2,(a<i∧i +1<b)→(a<j∧j +1<b)→(a<k∧k +1<b)→Np (Pn Q) r ty n H0 H2 ((q,3,[vi s])::L)→
  bC Pg X (sub fU [1,1,1,1,1,1,0,1,0,1]) (jL (sl r n c) (vi a) (vi b) (.int .i64 0) (.int .i64 0) (vi (b -a)) (.pointer (some ⟨q,0,none⟩)) (vi i) (vi j) (vi k) top rg H2)
   (pG Pg X (sub fU [1,1,1,1,1,1,1]) (fD Pg [.tmp 6,.tmp 7] fun v H'=>∃p h:Int,v=.tuple ⟨[vi p,vi h]⟩∧a<p∧p +1<b∧Np (Pn Q) r ty n H0 H' L)):=by
  intro i j k s x6 x7 x8 rg H2 hi hj hk hB
  refine tl ?_
  refine aj.mono (wD hB.bk i j k aa aa aa) ?_
  rintro _ H3 ⟨m,s',rfl,hm,hB⟩
  refine hB.aX ?_
  refine tl ?_
  refine hB.ld 0 rfl rfl ?_
  have hB2:Np (Pn Q) r ty n H0 H3 L:=hB.bk.drop
  refine hB.aX ?_
  refine ai (fun hc=>?_) (fun hc=>?_)
  ·refine rr ?_;exact⟨_,_,rfl,aa,aa,hB2⟩
  refine ai (fun hc=>?_) (fun hc=>?_)
  ·refine rr ?_;exact⟨_,_,rfl,aa,aa,hB2⟩
  ·refine rr ?_;exact⟨_,_,rfl,aa,aa,hB2⟩
 rw[decide_eq_true aa]
 refine hB.aX ?_
 refine ai (fun hc=>?_) (fun hc=>?_)
 ·refine aj.mono (lN hn hB.bk _ aa) ?_
  rintro _ H2 ⟨m1,s1,rfl,h4,h5,hB⟩
  refine aj.mono (lN hn hB.bk _ aa) ?_
  rintro _ H3 ⟨m2,s2,rfl,h6,h7,hB⟩
  refine aj.mono (lN hn hB.bk _ aa) ?_
  rintro _ H4 ⟨m3,s3,rfl,h8,h9,hB⟩
  exact fin _ _ _ _ top top top _ _ aa aa aa hB.bk
 ·exact fin _ _ _ _ top top top _ _ aa aa aa hB.bk
end
section
variable{H0 H:ag}{L:List bF}{Q:List Int}{r:Nat}{ty:TypeId}{n c:Nat}
end
section
variable{H0 H:ag}{L:List bF}{Q:Int→Prop}{r:Nat}{ty:TypeId}{n c:Nat}
abbrev isLen(x:Int)(v:Value):Prop:=∃l:Nat,v=vn l∧l≤32∧(1≤x→((2^l:Nat):Int)≤2*x)
theorem F_(x:Int)(h0:0≤x)(h1:x≤16777216):aj Pg X 242 [.int .u64 x] H (Q0 (isLen x) H):=by
 refine ce [0,2] ?_;refine tl ?_
 refine PU.of fP ?_
 rw[decide_eq_false aa]
 refine ak ?_
 refine bC.l6 fun K hK=>?_
 have fin:∀(y:Int)(k p:Nat) rg,0≤y→y<256→k≤24→2^k=p→(1≤x→1≤y∧p*y≤x)→bC Pg X (sub l8 [1,1,1,1]) (lM (.int .u64 y) (vn k) rg H) K:=by
  intro y k p rg h2 h3 h4 hp h5
  subst hK
  refine tl ?_
  rw[dL,eG (u8_in aa)]
  refine PU.of rfl ?_
  refine PU.TH (by kernel_rfl) h2 h3 fun t ht ht2=>?_
  rw[dL,fo aa aa]
  refine PU.of rfl ?_
  refine aC ?_
  refine rr ?_;refine⟨⟨k +t,rfl,aa,fun hx=>?_⟩,rfl⟩
  obtain⟨h6,h7⟩:=h5 hx
  have h8:=ht2 h6
  have h9:((2^(k +t):Nat):Int)=(p:Int)*((2^t:Nat):Int):=by rw[Nat.pow_add,hp];simp
  rw[h9]
  have h10:(p:Int)*((2^t:Nat):Int)≤p*(2*y):=Int.mul_le_mul_of_nonneg_left h8 aa
  have h11:(p:Int)*(2*y)=2*(p*y):=by rw[Int.mul_left_comm]
  omega
 have fd:∀(a:Int)(n:Nat),0≤a→0<n→a.fdiv ((n:Nat):Int)=a/n:=fun a n ha hn=>Int.fdiv_eq_ediv_of_nonneg a aa
 have s16:∀a:Int,0≤a→lI .u64 a 16=a/65536:=fun a ha=>by
  rw[show(16:Int)=((16:Nat):Int)from rfl,Ia aa (by decide)]
  exact fd a 65536 ha aa
 have s8:∀a:Int,0≤a→lI .u64 a 8=a/256:=fun a ha=>by
  rw[show(8:Int)=((8:Nat):Int)from rfl,Ia aa (by decide)]
  exact fd a 256 ha aa
 refine tl ?_
 refine PU.of fP ?_
 refine ai (fun hc=>?_) (fun hc=>?_)
 ·refine PU.of (dZ aa) ?_
  rw[s16 _ h0]
  refine aC ?_
  refine tl ?_
  refine PU.of fP ?_
  refine ai (fun hd=>?_) (fun hd=>?_)
  ·refine PU.of (dZ aa) ?_
   rw[s8 _ aa]
   refine aC ?_
   exact fin _ 24 16777216 _ aa aa aa rfl (fun _=>by omega)
  ·exact fin _ 16 65536 _ aa aa aa rfl (fun _=>by omega)
 ·refine tl ?_
  refine PU.of fP ?_
  refine ai (fun hd=>?_) (fun hd=>?_)
  ·refine PU.of (dZ aa) ?_
   rw[s8 _ aa]
   refine aC ?_
   exact fin _ 8 256 _ aa aa aa rfl (fun _=>by omega)
  ·exact fin _ 0 1 _ aa aa aa rfl (fun _=>by omega)
theorem zw(x:Int)(h0:0≤x)(h1:x≤16777216):aj Pg X 359 [.int .u64 x] H (Q0 (isLen x) H):=by
 refine ce [0,2] ?_;refine tl ?_
 refine aj.mono (F_ x h0 h1) ?_
 rintro _ _ ⟨⟨l,rfl,h2,h3⟩,rfl⟩
 refine rr ?_;exact⟨⟨l,rfl,h2,h3⟩,rfl⟩
theorem Cv(x:Int)(h0:1≤x)(h1:x≤16777216):aj Pg X 452 [vi x] H (Q0 (fun v=>∃m:Int,v=.int .u64 m∧1≤m∧m≤2*x) H):=by
 refine ce [0,2] ?_;refine tl ?_
 rw[dL,eG (u64_in aa)]
 refine PU.of rfl ?_
 refine aj.mono (zw x aa h1) ?_
 rintro _ _ ⟨⟨l,rfl,h2,h3⟩,rfl⟩
 refine PU.of (u7 aa) ?_
 rw[MN h2]
 have h4:0<2^l:=Nat.pos_of_ne_zero (by simp)
 refine rr ?_;refine⟨⟨_,rfl,aa,h3 h0⟩,rfl⟩
end
section
variable{H0 H:ag}{L:List bF}{Q:List Int}{r:Nat}{ty:TypeId}{n c:Nat}
end
section
variable{H0 H:ag}{L:List bF}{r:Nat}{ty:TypeId}{n c:Nat}{cv:Value}
abbrev Rg(r:Nat)(ty:TypeId)(n:Nat):=SB CJ r ty 2 n
def ku(cv:Value):Prop:=∀(H:ag)(a b c d:Int),Wf H→lH Pg X (VF cv) [.agg ⟨[.int .i32 a,.int .i32 b]⟩,.agg ⟨[.int .i32 c,.int .i32 d]⟩] H (fun v H'=>(∃z:Int,v=vi z)∧Ext H H')
theorem ku.call(hc:ku cv)(hB:Rg r ty n H0 H L){a b c d:Int}{K:Value→ag→Prop}(k:∀z H1,Rg r ty n H0 (hM H H1) L→Ext (hN H) H1→K (vi z) H1):lH Pg X (VF cv) [.agg ⟨[.int .i32 a,.int .i32 b]⟩,.agg ⟨[.int .i32 c,.int .i32 d]⟩] (hN H) K:=by
 refine lH.mono (hc (hN H) a b c d (MG H)) ?_
 rintro v H1 ⟨⟨z,rfl⟩,hx⟩
 exact k z H1 (hB.MH hx) hx
theorem ow(hcm:ku cv){q:Nat}{s:Int}(hB:Rg r ty n H0 H ((q,3,[vi s])::L))(a b:Int)(ha:0≤a∧a<n)(hb:0≤b∧b<n):
 aj Pg X 497 [sl r n c,vi a,vi b,.pointer (some ⟨q,0,none⟩),cv] H fun v H'=>∃a' b' s',v=.tuple ⟨[vi a',vi b']⟩∧(a'=a∧b'=b∨a'=b∧b'=a)∧Rg r ty n H0 H' ((q,3,[vi s'])::L):=by
 refine ce [0,1,2,3,4,10,11] ?_;refine tl ?_
 repeat(first|(refine hB.aX ?_)|(with_reducible refine aI ?_)|(with_reducible refine hB.fQ aa aa fun za zb=>?_)|(with_reducible refine hcm.call hB fun zc Hn hB bI=>?_)|((with_reducible refine And.intro ?_ ?_);focus ((simp only[az,ay,av bI]);kernel_rfl)))
 refine aU (fun hc=>?_) (fun hc=>?_)
 ·refine hB.ld 0 rfl rfl ?_
  refine PU.of Be ?_
  refine hB.st 0 rfl rfl (Nat.le_of_ble_eq_true rfl) rfl fun Hn hB=>?_
  refine rr ?_;exact⟨_,_,_,rfl,.inr ⟨rfl,rfl⟩,hB⟩
 ·refine rr ?_;exact⟨_,_,_,rfl,.inl ⟨rfl,rfl⟩,hB⟩
theorem uz(hcm:ku cv){q:Nat}{s:Int}(hB:Rg r ty n H0 H ((q,3,[vi s])::L))(x y z:Int)(hx:0≤x∧x<n)(hy:0≤y∧y<n)(hz:0≤z∧z<n):
 aj Pg X 482 [sl r n c,vi x,vi y,vi z,.pointer (some ⟨q,0,none⟩),cv] H fun v H'=>∃m s',v=vi m∧(m=x∨m=y∨m=z)∧Rg r ty n H0 H' ((q,3,[vi s'])::L):=by
 refine ce [0,1,2,3,4,5,12] ?_;refine tl ?_
 refine aj.mono (ow hcm hB x y hx hy) ?_
 rintro _ H1 ⟨a,b,s1,rfl,h1,hB⟩
 refine hB.aX ?_
 refine aj.mono (ow hcm hB b z aa hz) ?_
 rintro _ H2 ⟨b',c',s2,rfl,h2,hB⟩
 refine hB.aX ?_
 refine aj.mono (ow hcm hB a b' aa aa) ?_
 rintro _ H3 ⟨a3,b3,s3,rfl,h3,hB⟩
 refine hB.aX ?_
 refine rr ?_;exact⟨_,_,rfl,aa,hB⟩
theorem kF(hcm:ku cv){q:Nat}{s:Int}(hn:n≤16777216)(hB:Rg r ty n H0 H ((q,3,[vi s])::L))(x:Int)(hx:1≤x∧x +1<n):
 aj Pg X 481 [sl r n c,vi x,.pointer (some ⟨q,0,none⟩),cv] H fun v H'=>∃m s',v=vi m∧x -1≤m∧m≤x +1∧Rg r ty n H0 H' ((q,3,[vi s'])::L):=by
 refine ce [0,1,2,3,8] ?_;refine tl ?_
 with_reducible refine aG ?_;with_reducible refine aC ?_
 refine aj.mono (uz hcm hB _ _ _ aa aa aa) ?_
 rintro _ H1 ⟨m,s1,rfl,h1,hB⟩
 refine rr ?_;exact⟨_,_,rfl,aa,aa,hB⟩
theorem pY(hcm:ku cv)(hn:n≤16777216)(hB:Rg r ty n H0 H L)(lo hi first:Int)(h1:0≤lo)(h2:0≤first)(h3:first +hi≤n)(h4:lo≤16777216)(h5:0≤hi):
 aj Pg X 480 [sl r n c,vi lo,vi hi,vi first,cv] H fun v H'=>Rg r ty n H0 H' L:=by
 refine ce [0,1,2,3,4,10,11] ?_;refine tl ?_
 refine lp2 10 11 (I:=fun m x8 x9 H'=>∃root:Int,x8=vi root∧0≤root∧root≤16777216∧m=(hi -root).toNat∧Rg r ty n H0 H' L) ?_ _ ⟨lo,rfl,h1,h4,rfl,hB⟩
 rintro m x8 x9 rg H' ⟨root,rfl,h6,h7,hm,hB⟩
 refine bC.l6 fun K hK=>?_
 have fin:∀(ch:Int)(rg)(H2:ag),root<ch→ch<hi→Rg r ty n H0 H2 L→bC Pg X (sub kE [1,0,0,0,1,1,1]) (kg (sl r n c) (vi lo) (vi hi) (vi first) cv (vi root) (vi ch) rg H2) (nL 1 K):=by
  intro ch rg H2 h8 h9 hB
  subst hK
  refine tl ?_
  repeat(first|(refine hB.aX ?_)|(with_reducible refine aC ?_)|(with_reducible refine aI ?_)|(with_reducible refine hB.fQ aa aa fun za zb=>?_)|(with_reducible refine hcm.call hB fun zc Hn hB bI=>?_)|((with_reducible refine And.intro ?_ ?_);focus ((simp only[az,ay,av bI]);kernel_rfl)))
  refine aU (fun hb=>?_) (fun hb=>?_)
  ·refine rr ?_;exact hB
  ·repeat(first|(refine hB.aX ?_)|(with_reducible refine aC ?_)|(with_reducible refine aI ?_)|(with_reducible refine hB.fQ aa aa fun za zb=>?_)|(with_reducible refine hB.gD aa aa fun Hn hB=>?_)|((with_reducible refine And.intro ?_ ?_);focus ((simp only[az,ay,av bI]);kernel_rfl)))
   exact⟨(hi -ch).toNat,aa,_,_,_,_,rfl,ch,rfl,aa,aa,rfl,hB⟩
 refine tl ?_
 with_reducible refine aL ?_;with_reducible refine aC ?_;refine hB.aX ?_
 refine ai (fun hc=>?_) (fun hc=>?_)
 ·subst hK
  refine hB.aX ?_
  refine rn ?_;exact hB
 with_reducible refine aC ?_;refine hB.aX ?_
 refine ai (fun hd=>?_) (fun hd=>?_)
 ·repeat(first|(refine hB.aX ?_)|(with_reducible refine aC ?_)|(with_reducible refine aI ?_)|(with_reducible refine hB.fQ aa aa fun za zb=>?_)|(with_reducible refine hcm.call hB fun zc Hn hB bI=>?_)|((with_reducible refine And.intro ?_ ?_);focus ((simp only[az,ay,av bI]);kernel_rfl)))
  refine aU (fun hb=>?_) (fun hb=>?_)
  ·with_reducible refine aC ?_
   exact fin _ _ _ aa aa hB
  ·exact fin _ _ _ aa aa hB
 ·refine⟨by kernel_rfl,?_⟩
  exact fin _ _ _ aa aa hB
theorem wV(hcm:ku cv)(hn:n≤16777216)(hB:Rg r ty n H0 H L)(a b:Int)(h1:0≤a)(h2:b≤n)(h3:a≤16777216):
 aj Pg X 443 [sl r n c,vi a,vi b,cv] H fun v H'=>Rg r ty n H0 H' L:=by
 refine ce [0,1,2,3,8,9] ?_;refine tl ?_
 with_reducible refine aC ?_
 refine lp2 8 9 (I:=fun m x6 x7 H'=>∃i:Int,x6=vi i∧a<i∧i≤16777218∧m=(b -i).toNat∧Rg r ty n H0 H' L) ?_ _ ⟨a +1,rfl,aa,aa,rfl,hB⟩
 rintro m x6 x7 rg H' ⟨i,rfl,h4,h5,hm,hB⟩
 refine bC.l6 fun K hK=>?_
 refine tl ?_
 refine hB.aX ?_
 refine ai (fun hc=>?_) (fun hc=>?_)
 rotate_left
 ·subst hK
  refine hB.aX ?_
  refine rn ?_;exact hB
 refine IB 9 (I:=fun m x7 H'=>∃j:Int,x7=vi j∧a≤j∧j≤i∧m=(j -a).toNat∧Rg r ty n H0 H' L) ?_ _ ⟨i,rfl,aa,aa,rfl,hB⟩
 rintro m2 x7 rg H2 ⟨j,rfl,h6,h7,hm2,hB⟩
 have fin:∀rg H3,Rg r ty n H0 H3 L→bC Pg X (sub jd [1,0,0,1,1]) (iY (sl r n c) (vi a) (vi b) cv (vi i) (vi j) rg H3) K:=by
  intro rg H3 hB
  subst hK
  refine tl ?_
  refine hB.aX ?_;with_reducible refine aC ?_
  exact⟨(b -(i +1)).toNat,aa,_,_,_,_,rfl,i +1,rfl,aa,aa,rfl,hB⟩
 refine tl ?_
 refine hB.aX ?_
 refine ai (fun hd=>?_) (fun hd=>?_)
 rotate_left
 ·refine⟨by kernel_rfl,?_⟩
  exact fin _ _ hB
 repeat(first|(refine hB.aX ?_)|(with_reducible refine aG ?_)|(with_reducible refine aI ?_)|(with_reducible refine hB.fQ aa aa fun za zb=>?_)|(with_reducible refine hcm.call hB fun zc Hn hB bI=>?_)|((with_reducible refine And.intro ?_ ?_);focus ((simp only[az,ay,av bI]);kernel_rfl)))
 refine aU (fun hb=>?_) (fun hb=>?_)
 rotate_left
 ·exact fin _ _ hB
 refine tl ?_
 repeat(first|(refine hB.aX ?_)|(with_reducible refine aG ?_)|(with_reducible refine aI ?_)|(with_reducible refine hB.fQ aa aa fun za zb=>?_)|(with_reducible refine hB.gD aa aa fun Hn hB=>?_)|((with_reducible refine And.intro ?_ ?_);focus ((simp only[az,ay,av bI]);kernel_rfl)))
 exact⟨(j -1 -a).toNat,aa,_,_,_,rfl,j -1,rfl,aa,aa,rfl,hB⟩
theorem Ga(hcm:ku cv)(hn:n≤16777216)(hB:Rg r ty n H0 H L)(a b:Int)(h1:0≤a)(h2:b≤n)(h3:a<b):
 aj Pg X 444 [sl r n c,vi a,vi b,cv] H fun v H'=>Rg r ty n H0 H' L:=by
 refine ce [0,1,2,3,8,9,10,11,12] ?_;refine tl ?_
 repeat(first|(with_reducible refine aG ?_)|(with_reducible refine PU.quo aa aa aa fun qd hd1 hd2 hd3=>?_))
 refine IB 11 (I:=fun m x9 H'=>∃i:Int,x9=vi i∧-1≤i∧i≤16777216∧m=(i +1).toNat∧Rg r ty n H0 H' L) ?_ _ ⟨_,rfl,aa,aa,rfl,hB⟩
 rintro m x9 rg H' ⟨i,rfl,h4,h5,hm,hB⟩
 refine tl ?_
 refine hB.aX ?_
 refine ai (fun hc=>?_) (fun hc=>?_)
 ·refine aj.mono (pY hcm hn hB i (b -a) a aa aa aa aa aa) ?_
  rintro v H2 hB
  with_reducible refine aG ?_
  exact⟨i.toNat,aa,_,_,_,rfl,i -1,rfl,aa,aa,aa,hB⟩
 refine tl ?_
 with_reducible refine aG ?_
 refine IB 12 (I:=fun m eZ H'=>∃i:Int,eZ=vi i∧-1≤i∧i<b -a∧m=(i +1).toNat∧Rg r ty n H0 H' L) ?_ _ ⟨_,rfl,aa,aa,rfl,hB⟩
 rintro m eZ rg H' ⟨i,rfl,h4,h5,hm,hB⟩
 refine tl ?_
 refine hB.aX ?_
 refine ai (fun hc=>?_) (fun hc=>?_)
 ·repeat(first|(refine hB.aX ?_)|(with_reducible refine aC ?_)|(with_reducible refine aI ?_)|(with_reducible refine hB.fQ aa aa fun za zb=>?_)|(with_reducible refine hB.gD aa aa fun Hn hB=>?_)|(refine bJ ?_))
  refine aj.mono (pY hcm hn hB 0 i a aa aa aa aa aa) ?_
  rintro v H2 hB
  with_reducible refine aG ?_
  exact⟨i.toNat,aa,_,_,_,rfl,i -1,rfl,aa,aa,aa,hB⟩
 ·refine rn ?_;exact hB
theorem zW(hcm:ku cv)(hn:n≤16777216)(hB:Rg r ty n H0 H L)(a b:Int)(h1:0≤a)(h2:b≤n)(h3:a≤b):
 aj Pg X 447 [sl r n c,vi a,vi b,cv] H fun v H'=>Rg r ty n H0 H' L:=by
 refine ce [0,1,2,8,9] ?_;refine tl ?_
 with_reducible refine aG ?_
 refine lp2 8 9 (I:=fun m x6 x7 H'=>∃i j:Int,x6=vi i∧x7=vi j∧a≤i∧j<b∧i≤16777218∧-2≤j∧m=(j -i).toNat∧Rg r ty n H0 H' L) ?_ _ ⟨_,_,rfl,rfl,aa,aa,aa,aa,rfl,hB⟩
 rintro m x6 x7 rg H' ⟨i,j,rfl,rfl,h4,h5,h6,h7,hm,hB⟩
 refine tl ?_
 refine hB.aX ?_
 refine ai (fun hc=>?_) (fun hc=>?_)
 ·repeat(first|(refine hB.aX ?_)|(with_reducible refine aC ?_)|(with_reducible refine aG ?_)|(with_reducible refine aI ?_)|(with_reducible refine hB.fQ aa aa fun za zb=>?_)|(with_reducible refine hB.gD aa aa fun Hn hB=>?_)|(refine bJ ?_))
  exact⟨(j -1 -(i +1)).toNat,aa,_,_,_,_,rfl,i +1,j -1,rfl,rfl,aa,aa,aa,aa,rfl,hB⟩
 ·refine rn ?_;exact hB
theorem Cw(hcm:ku cv)(hn:n≤16777216)(hB:Rg r ty n H0 H L)(a b:Int)(h1:0≤a)(h2:b≤n)(h3:a +12<b):
 aj Pg X 446 [sl r n c,vi a,vi b,cv] H fun v H'=>∃p h:Int,v=.tuple ⟨[vi p,vi h]⟩∧a<p∧p +1<b∧Rg r ty n H0 H' L:=by
 refine ce [0,1,2,3,8,9,10,11,12,13,14,55] ?_;refine tl ?_
 with_reducible refine aG ?_;refine hB.aX ?_
 refine hB.new fun H1 q hB=>?_
 repeat(first|(with_reducible refine aC ?_)|(with_reducible refine aL ?_)|(with_reducible refine PU.quo aa aa aa fun qd hd1 hd2 hd3=>?_))
 rw[decide_eq_true aa]
 refine hB.aX ?_
 have fin:∀(i j k s:Int) H2,(a<i∧i +1<b)→(a<j∧j +1<b)→(a<k∧k +1<b)→Rg r ty n H0 H2 ((q,3,[vi s])::L)→
  aj Pg X 482 [sl r n c,vi i,vi j,vi k,.pointer (some ⟨q,0,none⟩),cv] H2 fun v H'=>∃m s',v=vi m∧(a<m∧m +1<b)∧Rg r ty n H0 H' ((q,3,[vi s'])::L):=by
  intro i j k s H2 hi hj hk hB
  refine aj.mono (uz hcm hB i j k aa aa aa) ?_
  rintro _ H3 ⟨m,s',rfl,hm,hB⟩
  exact⟨m,s',rfl,aa,hB⟩
 refine ai (fun hc=>?_) (fun hc=>?_)
 ·refine aj.mono (kF hcm hn hB _ aa) ?_
  rintro _ H2 ⟨m1,s1,rfl,h4,h5,hB⟩
  refine aj.mono (kF hcm hn hB _ aa) ?_
  rintro _ H3 ⟨m2,s2,rfl,h6,h7,hB⟩
  refine aj.mono (kF hcm hn hB _ aa) ?_
  rintro _ H4 ⟨m3,s3,rfl,h8,h9,hB⟩
  refine tl ?_
  refine aj.mono (fin _ _ _ _ _ aa aa aa hB) ?_
  clear hc h4 h5 h6 h7 h8 h9 fin
  rintro _ H3 ⟨m,s',rfl,hm,hB⟩
  refine hB.aX ?_
  refine tl ?_
  refine hB.ld 0 rfl rfl ?_
  have hB2:=hB.drop
  refine hB.aX ?_
  refine ai (fun hc=>?_) (fun hc=>?_)
  ·refine rr ?_;exact⟨_,_,rfl,aa,aa,hB2⟩
  refine ai (fun hc=>?_) (fun hc=>?_)
  ·refine rr ?_;exact⟨_,_,rfl,aa,aa,hB2⟩
  ·refine rr ?_;exact⟨_,_,rfl,aa,aa,hB2⟩
 ·refine tl ?_
  refine aj.mono (fin _ _ _ _ _ aa aa aa hB) ?_
  clear hc fin
  rintro _ H3 ⟨m,s',rfl,hm,hB⟩
  refine hB.aX ?_
  refine tl ?_
  refine hB.ld 0 rfl rfl ?_
  have hB2:=hB.drop
  refine hB.aX ?_
  refine ai (fun hc=>?_) (fun hc=>?_)
  ·refine rr ?_;exact⟨_,_,rfl,aa,aa,hB2⟩
  refine ai (fun hc=>?_) (fun hc=>?_)
  ·refine rr ?_;exact⟨_,_,rfl,aa,aa,hB2⟩
  ·refine rr ?_;exact⟨_,_,rfl,aa,aa,hB2⟩
end
end Go.Proofs.Lu
