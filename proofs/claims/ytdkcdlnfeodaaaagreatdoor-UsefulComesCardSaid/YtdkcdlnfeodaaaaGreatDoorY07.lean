/-
  Part 7 of the proof. No condition.
-/
import Derived.Test.YtdkcdlnfeodaaaaGreatDoorY06
set_option linter.unusedVariables false
set_option linter.unusedSimpArgs false
set_option maxRecDepth 100000
set_option maxHeartbeats 4000000
namespace Go.Proofs.Lu
open Go.Ae Go.Ae.M
variable{H0 H:aa}{L:List aK}{Q:Int→Prop}{r:Nat}{ty:TypeId}{n c:Nat}
theorem Dm{q:Nat}{s:Int}(hB:Nm Q r ty n H0 H ((q,232,[.int .u64 s])::L)):
 ak Pg X 168 [.pointer (some ⟨q,0,none⟩)] H fun v H'=>∃z,v=.int .u64 z∧Nm Q r ty n H0 H' ((q,232,[.int .u64 z])::L):=by
 refine ce [0,2] ?_;refine tl ?_
 simp only[PP,Nat.reduceBEq]
 refine hB.xH 0 rfl rfl ?_
 (try simp only[aj hB.wf,dJ,d_])
 refine hB.xH 0 rfl rfl ?_
 refine PU.of (qg (by omega)) ?_
 refine PU.of nM ?_
 (try simp only[aj hB.wf,dJ,d_])
 refine hB.Px 0 rfl rfl (Nat.le_of_ble_eq_true rfl) rfl fun Hn hB=>?_
 refine And.intro (by simp only[aA,aB];kernel_rfl) ?_
 (try simp only[aj hB.wf,dJ,d_])
 refine hB.xH 0 rfl rfl ?_
 (try simp only[aj hB.wf,dJ,d_])
 refine hB.xH 0 rfl rfl ?_
 refine PU.of (iW (by omega)) ?_
 refine PU.of nM ?_
 (try simp only[aj hB.wf,dJ,d_])
 refine hB.Px 0 rfl rfl (Nat.le_of_ble_eq_true rfl) rfl fun Hn hB=>?_
 refine And.intro (by simp only[aA,aB];kernel_rfl) ?_
 (try simp only[aj hB.wf,dJ,d_])
 refine hB.xH 0 rfl rfl ?_
 (try simp only[aj hB.wf,dJ,d_])
 refine hB.xH 0 rfl rfl ?_
 refine PU.of (qg (by omega)) ?_
 refine PU.of nM ?_
 (try simp only[aj hB.wf,dJ,d_])
 refine hB.Px 0 rfl rfl (Nat.le_of_ble_eq_true rfl) rfl fun Hn hB=>?_
 refine And.intro (by simp only[aA,aB];kernel_rfl) ?_
 (try simp only[aj hB.wf,dJ,d_])
 refine hB.ld 0 rfl rfl ?_
 refine rr ?_;exact⟨_,rfl,hB⟩
theorem IQ(hn:n≤1000000)(hB:Nm Q r ty n H0 H L)(a b:Int)(h1:0≤a)(h2:b≤n)(h3:a +12<b):
 ak Pg X 131 [sl r n c,vi a,vi b] H fun v H'=>Nm Q r ty n H0 H' L:=by
 refine ce [0,1,2,6,7,8,9,10] ?_;refine tl ?_
 refine PU.of (ax (by omega) (by omega)) ?_
 refine PU.of iU ?_
 rw[decide_eq_true (by omega)]
 rw[ny,mD (u64_in (by omega))]
 simp only[PP,Nat.reduceBEq]
 refine hB.new fun H1 q hB=>?_
 refine hB.st 0 rfl rfl (Nat.le_of_ble_eq_true rfl) rfl fun Hn hB=>?_
 refine ak.mono (xQ (b -a) (by omega) (by omega)) ?_
 rintro _ _ ⟨⟨m,rfl,h4,h5⟩,rfl⟩
 refine PU.quo (by omega) (by omega) (by omega) fun qd hd1 hd2 hd3=>?_
 refine PU.of (my (by omega) (by omega)) ?_
 refine PU.of (au (by omega) (by omega)) ?_
 refine PU.of (ax (by omega) (by omega)) ?_
 refine lp2 9 10 (I:=fun k x9 aW H'=>∃i s:Int,x9=vi i∧a<i∧i≤b∧k=(b -i).toNat∧Nm Q r ty n H0 H' ((q,232,[.int .u64 s])::L)) ?_ _ ⟨_,_,rfl,by omega,by omega,rfl,hB⟩
 clear hB hd1 hd2 hd3 qd
 rintro k x9 aW rg H3 ⟨i,s,rfl,h6,h7,hk,hB⟩
 refine aR.kK fun K hK=>?_
 refine tl ?_
 refine PU.quo (by omega) (by omega) (by omega) fun qd hd1 hd2 hd3=>?_
 refine PU.of (my (by omega) (by omega)) ?_
 refine PU.of (au (by omega) (by omega)) ?_
 refine PU.of (au (by omega) (by omega)) ?_
 refine PU.of xC ?_
 refine ae (fun hc=>?_) (fun hc=>?_)
 rotate_left
 ·subst hK
  simp only[PP,Nat.reduceBEq]
  refine rn ?_;exact hB.drop
 have hib:i<b -1:=by omega
 clear hc hd1 hd2 hd3 qd
 refine ak.mono (Dm hB) ?_
 rintro _ H4 ⟨z,rfl,hB⟩
 refine PU.of (BS (u64_in (by omega))) ?_
 refine PU.of uK ?_
 obtain⟨g1,g2⟩:=Mr (a:=z) (b:=m -1) (by omega)
 generalize Fw .u64 z (m -1)=y at g1 g2
 rw[ny,nL (by omega) (by omega)]
 simp only[PP,Nat.reduceBEq]
 have fin:∀(w:Int) rg,0≤w→w<b -a→aR Pg X (sub iA [1,1,0,1,1,1,0,0,1,0,0,1,1]) (kM (sl r n c) (vi a) (vi b) (vi (b -a)) (.pointer (some ⟨q,0,none⟩)) (.int .u64 m) (vi i) (vi w) rg H4) (gY 1 (kH Pg X (sub iA [1,1,0,1,1,1,0,0,1,1]) K)):=by
  intro w rg g3 g4
  subst hK
  refine tl ?_
  repeat(first|(simp only[PP,Nat.reduceBEq,aj hB.wf])|(with_reducible refine PU.of (au (by omega) (by omega)) ?_)|(with_reducible refine PU.of (aG (by omega) (by omega)) ?_)|(with_reducible refine hB.wL (by omega) (by omega) fun z hz=>?_)|(with_reducible refine hB.Ke (by omega) (by omega) (by assumption) fun Hn hB=>?_)|((with_reducible refine And.intro ?_ ?_);focus ((try simp only[aA,aB,az (Ext.refl (hN _))]);kernel_rfl)))
  refine tl ?_
  simp only[PP,Nat.reduceBEq,aj hB.wf];with_reducible refine PU.of (au (by omega) (by omega)) ?_
  exact⟨(b -(i +1)).toNat,by omega,_,_,_,_,rfl,i +1,_,rfl,by omega,by omega,rfl,hB⟩
 refine ae (fun hc=>?_) (fun hc=>?_)
 ·with_reducible refine PU.of (ax (by omega) (by omega)) ?_
  exact fin _ _ (by omega) (by omega)
 ·exact fin _ _ (by omega) (by omega)
theorem Ti(hn:n≤1000000):∀(d:Nat)(H0 H:aa)(L:List aK)(hB:Nm Q r ty n H0 H L)(a b l:Int)(h1:0≤a)(h2:b≤n)(h3:a≤b +1)(h4:0≤l)(h5:l≤64)(hd:(b -a).toNat≤d),
 ak Pg X 95 [sl r n c,vi a,vi b,vi l] H fun v H'=>Nm Q r ty n H0 H' L:=by
 intro d
 induction d using Nat.strongRecOn with
 |_ d ih=>
 intro H0 H L hB a b l h1 h2 h3 h4 h5 hd
 refine ce [0,1,2,3,8,9,10,11,12,13,14,15,16,17,18] ?_;refine tl ?_
 refine VH 1 2 3 8 9 10 11 12 13 14 15 16 17 18 (I:=fun k x1 x2 x3 x8 x9 aW bn bT bJ eF bL dL iI jH H'=>∃(a' b' l:Int)(w q:Bool),x1=vi a'∧x2=vi b'∧x3=vi l∧x8=.bool w∧x9=.bool q∧a≤a'∧b'≤b∧a'≤b' +1∧0≤l∧l≤64∧k=(b' +1 -a').toNat∧Nm Q r ty n H0 H' L) ?_ _
  ⟨a,b,l,true,true,rfl,rfl,rfl,rfl,rfl,by omega,by omega,by omega,by omega,by omega,rfl,hB⟩
 clear hB h4 h5 l H
 rintro k x1 x2 x3 x8 x9 aW bn bT bJ eF bL dL iI jH rg H1 ⟨a',b',l,w,q,rfl,rfl,rfl,rfl,rfl,h4,h5,h6,h7,h8,hk,hB⟩
 refine aR.kK fun K hK=>?_
 have t3:∀(p l:Int)(w q:Bool) bT bJ eF bL dL iI jH rg H3,0≤l→l≤64→a' +12<b'→a'≤p→p<b'→Nm Q r ty n H0 H3 L→aR Pg X (sub eB [1,1,0,0,0,1,1,1,1,1,1,1,1])
  (dS (sl r n c) (vi a') (vi b') (vi l) (.bool w) (.bool q) (vi (b' -a')) (vi p) bT bJ eF bL dL iI jH rg H3) (gY 1 K):=by
  intro p l w q bT bJ eF bL dL iI jH rg H3 g1 g2 g3 g4 g5 hB
  subst hK
  refine tl ?_
  refine ak.mono (OK (by omega) hB a' b' p (by omega) (by omega) (by omega) (by omega)) ?_
  rintro _ H4 ⟨mid,f,rfl,g6,g7,hB⟩
  simp only[PP,Nat.reduceBEq]
  refine PU.of (ax (by omega) (by omega)) ?_
  refine PU.of (ax (by omega) (by omega)) ?_
  refine PU.quo (by omega) (by omega) (by omega) fun qd hd1 hd2 hd3=>?_
  clear hd1 hd2 hd3
  refine PU.of xB ?_
  refine ae (fun hc=>?_) (fun hc=>?_)
  ·refine PU.of iU ?_
   refine ak.mono (ih (mid -a').toNat (by omega) H0 H4 L hB a' mid l (by omega) (by omega) (by omega) g1 g2 (Nat.le_refl _)) ?_
   rintro _ H5 hB
   refine PU.of (au (by omega) (by omega)) ?_
   exact⟨(b' +1 -(mid +1)).toNat,by omega,_,_,_,_,_,_,_,_,_,_,_,_,_,_,_,_,rfl,mid +1,b',l,_,_,rfl,rfl,rfl,rfl,rfl,by omega,by omega,by omega,g1,g2,rfl,hB⟩
  ·refine PU.of iU ?_
   refine PU.of (au (by omega) (by omega)) ?_
   refine ak.mono (ih (b' -(mid +1)).toNat (by omega) H0 H4 L hB (mid +1) b' l (by omega) (by omega) (by omega) g1 g2 (Nat.le_refl _)) ?_
   rintro _ H5 hB
   exact⟨(mid +1 -a').toNat,by omega,_,_,_,_,_,_,_,_,_,_,_,_,_,_,_,_,rfl,a',mid,l,_,_,rfl,rfl,rfl,rfl,rfl,by omega,by omega,by omega,g1,g2,rfl,hB⟩
 have t2:∀(p l:Int)(w q:Bool) bT bJ eF bL dL iI jH rg H3,0≤l→l≤64→a' +12<b'→a'≤p→p<b'→Nm Q r ty n H0 H3 L→aR Pg X (sub eB [1,1,0,0,0,1,1,1,1,1,1,1])
  (dS (sl r n c) (vi a') (vi b') (vi l) (.bool w) (.bool q) (vi (b' -a')) (vi p) bT bJ eF bL dL iI jH rg H3) (gY 1 K):=by
  intro p l w q bT bJ eF bL dL iI jH rg H3 g1 g2 g3 g4 g5 hB
  refine tl ?_
  simp only[PP,Nat.reduceBEq,aj hB.wf]
  refine ae (fun hc=>?_) (fun hc=>?_)
  ·repeat(first|(simp only[PP,Nat.reduceBEq,aj hB.wf])|(with_reducible refine PU.of (ax (by omega) (by omega)) ?_)|(with_reducible refine PU.of (aG (by omega) (by omega)) ?_)|(with_reducible refine hB.wL (by omega) (by omega) fun z hz=>?_)|((with_reducible refine And.intro ?_ ?_);focus ((try simp only[aA,aB,az (Ext.refl (hN _))]);kernel_rfl))|((with_reducible refine ak.mono (fB _ _) ?_);rintro _ _ ⟨⟨bl,rfl⟩,rfl⟩))
   refine tl ?_
   simp only[PP,Nat.reduceBEq,aj hB.wf]
   refine aC (fun hb=>?_) (fun hb=>?_)
   ·refine ak.mono (IP (by omega) hB a' b' p (by omega) (by omega) (by omega) (by omega)) ?_
    rintro _ H4 ⟨i,rfl,g6,g7,hB⟩
    subst hK
    simp only[PP,Nat.reduceBEq,aj hB.wf]
    exact⟨(b' +1 -i).toNat,by omega,_,_,_,_,_,_,_,_,_,_,_,_,_,_,_,_,rfl,i,b',l,_,_,rfl,rfl,rfl,rfl,rfl,by omega,by omega,by omega,g1,g2,rfl,hB⟩
   ·exact t3 _ _ _ _ _ _ _ _ _ _ _ _ _ g1 g2 g3 g4 g5 hB
  ·refine⟨by kernel_rfl,?_⟩
   refine tl ?_
   simp only[PP,Nat.reduceBEq,aj hB.wf]
   exact t3 _ _ _ _ _ _ _ _ _ _ _ _ _ g1 g2 g3 g4 g5 hB
 have t1:∀(p h l:Int)(w q:Bool) bJ eF bL dL iI jH rg H3,0≤l→l≤64→a' +12<b'→a'≤p→p<b'→Nm Q r ty n H0 H3 L→aR Pg X (sub eB [1,1,0,0,0,1,1,1,1,1,1])
  (dS (sl r n c) (vi a') (vi b') (vi l) (.bool w) (.bool q) (vi (b' -a')) (vi p) (vi h) bJ eF bL dL iI jH rg H3) (gY 1 K):=by
  intro p h l w q bJ eF bL dL iI jH rg H3 g1 g2 g3 g4 g5 hB
  refine tl ?_
  simp only[PP,Nat.reduceBEq,aj hB.wf]
  refine aC (fun hb=>?_) (fun hb=>?_)
  ·refine aC (fun hb=>?_) (fun hb=>?_)
   ·refine tl ?_
    simp only[PP,Nat.reduceBEq,aj hB.wf]
    refine ae (fun hc=>?_) (fun hc=>?_)
    ·refine ak.mono (FM (by omega) hB a' b' (by omega) (by omega) (by omega)) ?_
     rintro _ H4 ⟨⟨bl,rfl⟩,hB⟩
     simp only[PP,Nat.reduceBEq,aj hB.wf]
     refine aC (fun hb=>?_) (fun hb=>?_)
     ·subst hK
      simp only[PP,Nat.reduceBEq,aj hB.wf]
      refine rr ?_;exact hB
     ·exact t2 _ _ _ _ _ _ _ _ _ _ _ _ _ g1 g2 g3 g4 g5 hB
    ·exact t2 _ _ _ _ _ _ _ _ _ _ _ _ _ g1 g2 g3 g4 g5 hB
   ·refine tl ?_
    simp only[PP,Nat.reduceBEq,aj hB.wf]
    exact t2 _ _ _ _ _ _ _ _ _ _ _ _ _ g1 g2 g3 g4 g5 hB
  ·refine tl ?_
   simp only[PP,Nat.reduceBEq,aj hB.wf]
   exact t2 _ _ _ _ _ _ _ _ _ _ _ _ _ g1 g2 g3 g4 g5 hB
 have t0:∀(l:Int)(w q:Bool) bn bT bJ eF bL dL iI jH rg H3,0≤l→l≤64→a' +12<b'→Nm Q r ty n H0 H3 L→aR Pg X (sub eB [1,1,0,0,0,1,1,1,1])
  (dS (sl r n c) (vi a') (vi b') (vi l) (.bool w) (.bool q) (vi (b' -a')) bn bT bJ eF bL dL iI jH rg H3) (gY 1 K):=by
  intro l w q bn bT bJ eF bL dL iI jH rg H3 g1 g2 g3 hB
  refine tl ?_
  refine ak.mono (choose_spec (by omega) hB a' b' (by omega) (by omega) (by omega)) ?_
  rintro _ H4 ⟨p,h,rfl,g4,g5,hB⟩
  simp only[PP,Nat.reduceBEq]
  refine ae (fun hc=>?_) (fun hc=>?_)
  ·refine ak.mono (FL (by omega) hB a' b' (by omega) (by omega) (by omega)) ?_
   rintro _ H5 hB
   repeat(with_reducible refine PU.of (ax (by omega) (by omega)) ?_)
   exact t1 _ _ _ _ _ _ _ _ _ _ _ _ _ g1 g2 g3 (by omega) (by omega) hB
  ·exact t1 _ _ _ _ _ _ _ _ _ _ _ _ _ g1 g2 g3 (by omega) (by omega) hB
 refine tl ?_
 repeat(first|(simp only[PP,Nat.reduceBEq,aj hB.wf])|(with_reducible refine PU.of (ax (by omega) (by omega)) ?_))
 refine ae (fun hc=>?_) (fun hc=>?_)
 ·refine ak.mono (Cq (by omega) hB a' b' (by omega) (by omega) (by omega)) ?_
  rintro _ H5 hB
  subst hK
  simp only[PP,Nat.reduceBEq,aj hB.wf]
  refine rr ?_;exact hB
 refine ae (fun he=>?_) (fun he=>?_)
 ·refine ak.mono (OJ (by omega) hB a' b' (by omega) (by omega) (by omega)) ?_
  rintro _ H5 hB
  subst hK
  simp only[PP,Nat.reduceBEq,aj hB.wf]
  refine rr ?_;exact hB
 refine aC (fun hb=>?_) (fun hb=>?_)
 ·refine ak.mono (IQ hn hB a' b' (by omega) (by omega) (by omega)) ?_
  rintro _ H5 hB
  with_reducible refine PU.of (ax (by omega) (by omega)) ?_
  exact t0 _ _ _ _ _ _ _ _ _ _ _ _ _ (by omega) (by omega) (by omega) hB
 ·exact t0 _ _ _ _ _ _ _ _ _ _ _ _ _ (by omega) (by omega) (by omega) hB
end Go.Proofs.Lu
set_option maxRecDepth 100000
set_option maxHeartbeats 4000000
namespace Go.Proofs.Lu
open Go.Ae Go.Ae.M
variable{H0 H:aa}{L:List aK}{r:Nat}{ty:TypeId}{n c:Nat}{cv:Value}
abbrev Rg(r:Nat)(ty:TypeId)(n:Nat):=SB Gm r ty 2 n
def mG(cv:Value):Prop:=∀(H:aa)(a b c d:Int),Wf H→fq Pg X (CW cv) [.agg ⟨[.int .i32 a,.int .i32 b]⟩,.agg ⟨[.int .i32 c,.int .i32 d]⟩] H (fun v H'=>(∃z:Int,v=vi z)∧Ext H H')
theorem mG.call(hc:mG cv)(hB:Rg r ty n H0 H L){a b c d:Int}{K:Value→aa→Prop}(k:∀z H1,Rg r ty n H0 (hM H H1) L→Ext (hN H) H1→K (vi z) H1):fq Pg X (CW cv) [.agg ⟨[.int .i32 a,.int .i32 b]⟩,.agg ⟨[.int .i32 c,.int .i32 d]⟩] (hN H) K:=by
 refine fq.mono (hc (hN H) a b c d (mP H)) ?_
 rintro v H1 ⟨⟨z,rfl⟩,hx⟩
 exact k z H1 (hB.j4 hx) hx
theorem qW(hcm:mG cv){q:Nat}{s:Int}(hB:Rg r ty n H0 H ((q,3,[vi s])::L))(a b:Int)(ha:0≤a∧a<n)(hb:0≤b∧b<n):
 ak Pg X 227 [sl r n c,vi a,vi b,.pointer (some ⟨q,0,none⟩),cv] H fun v H'=>∃a' b' s',v=.tuple ⟨[vi a',vi b']⟩∧(a'=a∧b'=b∨a'=b∧b'=a)∧Rg r ty n H0 H' ((q,3,[vi s'])::L):=by
 refine ce [0,1,2,3,4,10,11] ?_;refine tl ?_
 repeat(first|(simp only[PP,Nat.reduceBEq,aj hB.wf])|(with_reducible refine PU.of (aG (by omega) (by omega)) ?_)|(with_reducible refine hB.xJ (by omega) (by omega) fun za zb=>?_)|(with_reducible refine hcm.call hB fun zc Hn hB wz=>?_)|((with_reducible refine And.intro ?_ ?_);focus ((simp only[aA,aB,az wz]);kernel_rfl)))
 refine aC (fun hc=>?_) (fun hc=>?_)
 ·refine hB.ld 0 rfl rfl ?_
  refine PU.of En ?_
  refine hB.st 0 rfl rfl (Nat.le_of_ble_eq_true rfl) rfl fun Hn hB=>?_
  refine rr ?_;exact⟨_,_,_,rfl,.inr ⟨rfl,rfl⟩,hB⟩
 ·refine rr ?_;exact⟨_,_,_,rfl,.inl ⟨rfl,rfl⟩,hB⟩
theorem xR(hcm:mG cv){q:Nat}{s:Int}(hB:Rg r ty n H0 H ((q,3,[vi s])::L))(x y z:Int)(hx:0≤x∧x<n)(hy:0≤y∧y<n)(hz:0≤z∧z<n):
 ak Pg X 226 [sl r n c,vi x,vi y,vi z,.pointer (some ⟨q,0,none⟩),cv] H fun v H'=>∃m s',v=vi m∧(m=x∨m=y∨m=z)∧Rg r ty n H0 H' ((q,3,[vi s'])::L):=by
 refine ce [0,1,2,3,4,5,12] ?_;refine tl ?_
 refine ak.mono (qW hcm hB x y hx hy) ?_
 rintro _ H1 ⟨a,b,s1,rfl,h1,hB⟩
 simp only[PP,Nat.reduceBEq,aj hB.wf]
 refine ak.mono (qW hcm hB b z (by omega) hz) ?_
 rintro _ H2 ⟨b',c',s2,rfl,h2,hB⟩
 simp only[PP,Nat.reduceBEq,aj hB.wf]
 refine ak.mono (qW hcm hB a b' (by omega) (by omega)) ?_
 rintro _ H3 ⟨a3,b3,s3,rfl,h3,hB⟩
 simp only[PP,Nat.reduceBEq,aj hB.wf]
 refine rr ?_;exact⟨_,_,rfl,by omega,hB⟩
theorem mK(hcm:mG cv){q:Nat}{s:Int}(hn:n≤16777216)(hB:Rg r ty n H0 H ((q,3,[vi s])::L))(x:Int)(hx:1≤x∧x +1<n):
 ak Pg X 225 [sl r n c,vi x,.pointer (some ⟨q,0,none⟩),cv] H fun v H'=>∃m s',v=vi m∧x -1≤m∧m≤x +1∧Rg r ty n H0 H' ((q,3,[vi s'])::L):=by
 refine ce [0,1,2,3,8] ?_;refine tl ?_
 with_reducible refine PU.of (ax (by omega) (by omega)) ?_;with_reducible refine PU.of (au (by omega) (by omega)) ?_
 refine ak.mono (xR hcm hB _ _ _ (by omega) (by omega) (by omega)) ?_
 rintro _ H1 ⟨m,s1,rfl,h1,hB⟩
 refine rr ?_;exact⟨_,_,rfl,by omega,by omega,hB⟩
theorem ug(hcm:mG cv)(hn:n≤16777216)(hB:Rg r ty n H0 H L)(lo hi first:Int)(h1:0≤lo)(h2:0≤first)(h3:first +hi≤n)(h4:lo≤16777216)(h5:0≤hi):
 ak Pg X 224 [sl r n c,vi lo,vi hi,vi first,cv] H fun v H'=>Rg r ty n H0 H' L:=by
 refine ce [0,1,2,3,4,10,11] ?_;refine tl ?_
 refine lp2 10 11 (I:=fun m x8 x9 H'=>∃root:Int,x8=vi root∧0≤root∧root≤16777216∧m=(hi -root).toNat∧Rg r ty n H0 H' L) ?_ _ ⟨lo,rfl,h1,h4,rfl,hB⟩
 rintro m x8 x9 rg H' ⟨root,rfl,h6,h7,hm,hB⟩
 refine aR.kK fun K hK=>?_
 have fin:∀(ch:Int)(rg)(H2:aa),root<ch→ch<hi→Rg r ty n H0 H2 L→aR Pg X (sub oz [1,0,0,0,1,1,1]) (nA (sl r n c) (vi lo) (vi hi) (vi first) cv (vi root) (vi ch) rg H2) (gY 1 K):=by
  intro ch rg H2 h8 h9 hB
  subst hK
  refine tl ?_
  repeat(first|(simp only[PP,Nat.reduceBEq,aj hB.wf])|(with_reducible refine PU.of (au (by omega) (by omega)) ?_)|(with_reducible refine PU.of (aG (by omega) (by omega)) ?_)|(with_reducible refine hB.xJ (by omega) (by omega) fun za zb=>?_)|(with_reducible refine hcm.call hB fun zc Hn hB wz=>?_)|((with_reducible refine And.intro ?_ ?_);focus ((simp only[aA,aB,az wz]);kernel_rfl)))
  refine aC (fun hb=>?_) (fun hb=>?_)
  ·refine rr ?_;exact hB
  ·repeat(first|(simp only[PP,Nat.reduceBEq,aj hB.wf])|(with_reducible refine PU.of (au (by omega) (by omega)) ?_)|(with_reducible refine PU.of (aG (by omega) (by omega)) ?_)|(with_reducible refine hB.xJ (by omega) (by omega) fun za zb=>?_)|(with_reducible refine hB.Kg (by omega) (by omega) fun Hn hB=>?_)|((with_reducible refine And.intro ?_ ?_);focus ((simp only[aA,aB,az wz]);kernel_rfl)))
   exact⟨(hi -ch).toNat,by omega,_,_,_,_,rfl,ch,rfl,by omega,by omega,rfl,hB⟩
 refine tl ?_
 with_reducible refine PU.of (my (by omega) (by omega)) ?_;with_reducible refine PU.of (au (by omega) (by omega)) ?_;simp only[PP,Nat.reduceBEq,aj hB.wf]
 refine ae (fun hc=>?_) (fun hc=>?_)
 ·subst hK
  simp only[PP,Nat.reduceBEq,aj hB.wf]
  refine rn ?_;exact hB
 with_reducible refine PU.of (au (by omega) (by omega)) ?_;simp only[PP,Nat.reduceBEq,aj hB.wf]
 refine ae (fun hd=>?_) (fun hd=>?_)
 ·repeat(first|(simp only[PP,Nat.reduceBEq,aj hB.wf])|(with_reducible refine PU.of (au (by omega) (by omega)) ?_)|(with_reducible refine PU.of (aG (by omega) (by omega)) ?_)|(with_reducible refine hB.xJ (by omega) (by omega) fun za zb=>?_)|(with_reducible refine hcm.call hB fun zc Hn hB wz=>?_)|((with_reducible refine And.intro ?_ ?_);focus ((simp only[aA,aB,az wz]);kernel_rfl)))
  refine aC (fun hb=>?_) (fun hb=>?_)
  ·with_reducible refine PU.of (au (by omega) (by omega)) ?_
   exact fin _ _ _ (by omega) (by omega) hB
  ·exact fin _ _ _ (by omega) (by omega) hB
 ·refine⟨by kernel_rfl,?_⟩
  exact fin _ _ _ (by omega) (by omega) hB
theorem Ag(hcm:mG cv)(hn:n≤16777216)(hB:Rg r ty n H0 H L)(a b:Int)(h1:0≤a)(h2:b≤n)(h3:a≤16777216):
 ak Pg X 216 [sl r n c,vi a,vi b,cv] H fun v H'=>Rg r ty n H0 H' L:=by
 refine ce [0,1,2,3,8,9] ?_;refine tl ?_
 with_reducible refine PU.of (au (by omega) (by omega)) ?_
 refine lp2 8 9 (I:=fun m x6 x7 H'=>∃i:Int,x6=vi i∧a<i∧i≤16777218∧m=(b -i).toNat∧Rg r ty n H0 H' L) ?_ _ ⟨a +1,rfl,by omega,by omega,rfl,hB⟩
 rintro m x6 x7 rg H' ⟨i,rfl,h4,h5,hm,hB⟩
 refine aR.kK fun K hK=>?_
 refine tl ?_
 simp only[PP,Nat.reduceBEq,aj hB.wf]
 refine ae (fun hc=>?_) (fun hc=>?_)
 rotate_left
 ·subst hK
  simp only[PP,Nat.reduceBEq,aj hB.wf]
  refine rn ?_;exact hB
 refine yf 9 (I:=fun m x7 H'=>∃j:Int,x7=vi j∧a≤j∧j≤i∧m=(j -a).toNat∧Rg r ty n H0 H' L) ?_ _ ⟨i,rfl,by omega,by omega,rfl,hB⟩
 rintro m2 x7 rg H2 ⟨j,rfl,h6,h7,hm2,hB⟩
 have fin:∀rg H3,Rg r ty n H0 H3 L→aR Pg X (sub kW [1,0,0,1,1]) (kN (sl r n c) (vi a) (vi b) cv (vi i) (vi j) rg H3) K:=by
  intro rg H3 hB
  subst hK
  refine tl ?_
  simp only[PP,Nat.reduceBEq,aj hB.wf];with_reducible refine PU.of (au (by omega) (by omega)) ?_
  exact⟨(b -(i +1)).toNat,by omega,_,_,_,_,rfl,i +1,rfl,by omega,by omega,rfl,hB⟩
 refine tl ?_
 simp only[PP,Nat.reduceBEq,aj hB.wf]
 refine ae (fun hd=>?_) (fun hd=>?_)
 rotate_left
 ·refine⟨by kernel_rfl,?_⟩
  exact fin _ _ hB
 repeat(first|(simp only[PP,Nat.reduceBEq,aj hB.wf])|(with_reducible refine PU.of (ax (by omega) (by omega)) ?_)|(with_reducible refine PU.of (aG (by omega) (by omega)) ?_)|(with_reducible refine hB.xJ (by omega) (by omega) fun za zb=>?_)|(with_reducible refine hcm.call hB fun zc Hn hB wz=>?_)|((with_reducible refine And.intro ?_ ?_);focus ((simp only[aA,aB,az wz]);kernel_rfl)))
 refine aC (fun hb=>?_) (fun hb=>?_)
 rotate_left
 ·exact fin _ _ hB
 refine tl ?_
 repeat(first|(simp only[PP,Nat.reduceBEq,aj hB.wf])|(with_reducible refine PU.of (ax (by omega) (by omega)) ?_)|(with_reducible refine PU.of (aG (by omega) (by omega)) ?_)|(with_reducible refine hB.xJ (by omega) (by omega) fun za zb=>?_)|(with_reducible refine hB.Kg (by omega) (by omega) fun Hn hB=>?_)|((with_reducible refine And.intro ?_ ?_);focus ((simp only[aA,aB,az wz]);kernel_rfl)))
 exact⟨(j -1 -a).toNat,by omega,_,_,_,rfl,j -1,rfl,by omega,by omega,rfl,hB⟩
theorem Ku(hcm:mG cv)(hn:n≤16777216)(hB:Rg r ty n H0 H L)(a b:Int)(h1:0≤a)(h2:b≤n)(h3:a<b):
 ak Pg X 217 [sl r n c,vi a,vi b,cv] H fun v H'=>Rg r ty n H0 H' L:=by
 refine ce [0,1,2,3,8,9,10,11,12] ?_;refine tl ?_
 repeat(first|(with_reducible refine PU.of (ax (by omega) (by omega)) ?_)|(with_reducible refine PU.quo (by omega) (by omega) (by omega) fun qd hd1 hd2 hd3=>?_))
 refine yf 11 (I:=fun m x9 H'=>∃i:Int,x9=vi i∧-1≤i∧i≤16777216∧m=(i +1).toNat∧Rg r ty n H0 H' L) ?_ _ ⟨_,rfl,by omega,by omega,rfl,hB⟩
 rintro m x9 rg H' ⟨i,rfl,h4,h5,hm,hB⟩
 refine tl ?_
 simp only[PP,Nat.reduceBEq,aj hB.wf]
 refine ae (fun hc=>?_) (fun hc=>?_)
 ·refine ak.mono (ug hcm hn hB i (b -a) a (by omega) (by omega) (by omega) (by omega) (by omega)) ?_
  rintro v H2 hB
  with_reducible refine PU.of (ax (by omega) (by omega)) ?_
  exact⟨i.toNat,by omega,_,_,_,rfl,i -1,rfl,by omega,by omega,by omega,hB⟩
 refine tl ?_
 with_reducible refine PU.of (ax (by omega) (by omega)) ?_
 refine yf 12 (I:=fun m aW H'=>∃i:Int,aW=vi i∧-1≤i∧i<b -a∧m=(i +1).toNat∧Rg r ty n H0 H' L) ?_ _ ⟨_,rfl,by omega,by omega,rfl,hB⟩
 rintro m aW rg H' ⟨i,rfl,h4,h5,hm,hB⟩
 refine tl ?_
 simp only[PP,Nat.reduceBEq,aj hB.wf]
 refine ae (fun hc=>?_) (fun hc=>?_)
 ·repeat(first|(simp only[PP,Nat.reduceBEq,aj hB.wf])|(with_reducible refine PU.of (au (by omega) (by omega)) ?_)|(with_reducible refine PU.of (aG (by omega) (by omega)) ?_)|(with_reducible refine hB.xJ (by omega) (by omega) fun za zb=>?_)|(with_reducible refine hB.Kg (by omega) (by omega) fun Hn hB=>?_)|((with_reducible refine And.intro ?_ ?_);focus ((try simp only[aA,aB,az (Ext.refl (hN _))]);kernel_rfl)))
  refine ak.mono (ug hcm hn hB 0 i a (by omega) (by omega) (by omega) (by omega) (by omega)) ?_
  rintro v H2 hB
  with_reducible refine PU.of (ax (by omega) (by omega)) ?_
  exact⟨i.toNat,by omega,_,_,_,rfl,i -1,rfl,by omega,by omega,by omega,hB⟩
 ·refine rn ?_;exact hB
theorem Dn(hcm:mG cv)(hn:n≤16777216)(hB:Rg r ty n H0 H L)(a b:Int)(h1:0≤a)(h2:b≤n)(h3:a≤b):
 ak Pg X 220 [sl r n c,vi a,vi b,cv] H fun v H'=>Rg r ty n H0 H' L:=by
 refine ce [0,1,2,8,9] ?_;refine tl ?_
 with_reducible refine PU.of (ax (by omega) (by omega)) ?_
 refine lp2 8 9 (I:=fun m x6 x7 H'=>∃i j:Int,x6=vi i∧x7=vi j∧a≤i∧j<b∧i≤16777218∧-2≤j∧m=(j -i).toNat∧Rg r ty n H0 H' L) ?_ _ ⟨_,_,rfl,rfl,by omega,by omega,by omega,by omega,rfl,hB⟩
 rintro m x6 x7 rg H' ⟨i,j,rfl,rfl,h4,h5,h6,h7,hm,hB⟩
 refine tl ?_
 simp only[PP,Nat.reduceBEq,aj hB.wf]
 refine ae (fun hc=>?_) (fun hc=>?_)
 ·repeat(first|(simp only[PP,Nat.reduceBEq,aj hB.wf])|(with_reducible refine PU.of (au (by omega) (by omega)) ?_)|(with_reducible refine PU.of (ax (by omega) (by omega)) ?_)|(with_reducible refine PU.of (aG (by omega) (by omega)) ?_)|(with_reducible refine hB.xJ (by omega) (by omega) fun za zb=>?_)|(with_reducible refine hB.Kg (by omega) (by omega) fun Hn hB=>?_)|((with_reducible refine And.intro ?_ ?_);focus ((try simp only[aA,aB,az (Ext.refl (hN _))]);kernel_rfl)))
  exact⟨(j -1 -(i +1)).toNat,by omega,_,_,_,_,rfl,i +1,j -1,rfl,rfl,by omega,by omega,by omega,by omega,rfl,hB⟩
 ·refine rn ?_;exact hB
theorem FN(hcm:mG cv)(hn:n≤16777216)(hB:Rg r ty n H0 H L)(a b:Int)(h1:0≤a)(h2:b≤n)(h3:a +12<b):
 ak Pg X 219 [sl r n c,vi a,vi b,cv] H fun v H'=>∃p h:Int,v=.tuple ⟨[vi p,vi h]⟩∧a<p∧p +1<b∧Rg r ty n H0 H' L:=by
 refine ce [0,1,2,3,8,9,10,11,12,13,14,55] ?_;refine tl ?_
 with_reducible refine PU.of (ax (by omega) (by omega)) ?_;simp only[PP,Nat.reduceBEq,aj hB.wf]
 refine hB.new fun H1 q hB=>?_
 repeat(first|(with_reducible refine PU.of (au (by omega) (by omega)) ?_)|(with_reducible refine PU.of (my (by omega) (by omega)) ?_)|(with_reducible refine PU.quo (by omega) (by omega) (by omega) fun qd hd1 hd2 hd3=>?_))
 rw[decide_eq_true (by omega)]
 simp only[PP,Nat.reduceBEq,aj hB.wf]
 have fin:∀(i j k s:Int) H2,(a<i∧i +1<b)→(a<j∧j +1<b)→(a<k∧k +1<b)→Rg r ty n H0 H2 ((q,3,[vi s])::L)→
  ak Pg X 226 [sl r n c,vi i,vi j,vi k,.pointer (some ⟨q,0,none⟩),cv] H2 fun v H'=>∃m s',v=vi m∧(a<m∧m +1<b)∧Rg r ty n H0 H' ((q,3,[vi s'])::L):=by
  intro i j k s H2 hi hj hk hB
  refine ak.mono (xR hcm hB i j k (by omega) (by omega) (by omega)) ?_
  rintro _ H3 ⟨m,s',rfl,hm,hB⟩
  exact⟨m,s',rfl,by omega,hB⟩
 refine ae (fun hc=>?_) (fun hc=>?_)
 ·refine ak.mono (mK hcm hn hB _ (by omega)) ?_
  rintro _ H2 ⟨m1,s1,rfl,h4,h5,hB⟩
  refine ak.mono (mK hcm hn hB _ (by omega)) ?_
  rintro _ H3 ⟨m2,s2,rfl,h6,h7,hB⟩
  refine ak.mono (mK hcm hn hB _ (by omega)) ?_
  rintro _ H4 ⟨m3,s3,rfl,h8,h9,hB⟩
  refine tl ?_
  refine ak.mono (fin _ _ _ _ _ (by omega) (by omega) (by omega) hB) ?_
  clear hc h4 h5 h6 h7 h8 h9 fin
  rintro _ H3 ⟨m,s',rfl,hm,hB⟩
  simp only[PP,Nat.reduceBEq,aj hB.wf]
  refine tl ?_
  refine hB.ld 0 rfl rfl ?_
  have hB2:=hB.drop
  simp only[PP,Nat.reduceBEq,aj hB.wf]
  refine ae (fun hc=>?_) (fun hc=>?_)
  ·refine rr ?_;exact⟨_,_,rfl,by omega,by omega,hB2⟩
  refine ae (fun hc=>?_) (fun hc=>?_)
  ·refine rr ?_;exact⟨_,_,rfl,by omega,by omega,hB2⟩
  ·refine rr ?_;exact⟨_,_,rfl,by omega,by omega,hB2⟩
 ·refine tl ?_
  refine ak.mono (fin _ _ _ _ _ (by omega) (by omega) (by omega) hB) ?_
  clear hc fin
  rintro _ H3 ⟨m,s',rfl,hm,hB⟩
  simp only[PP,Nat.reduceBEq,aj hB.wf]
  refine tl ?_
  refine hB.ld 0 rfl rfl ?_
  have hB2:=hB.drop
  simp only[PP,Nat.reduceBEq,aj hB.wf]
  refine ae (fun hc=>?_) (fun hc=>?_)
  ·refine rr ?_;exact⟨_,_,rfl,by omega,by omega,hB2⟩
  refine ae (fun hc=>?_) (fun hc=>?_)
  ·refine rr ?_;exact⟨_,_,rfl,by omega,by omega,hB2⟩
  ·refine rr ?_;exact⟨_,_,rfl,by omega,by omega,hB2⟩
end Go.Proofs.Lu
set_option maxRecDepth 100000
set_option maxHeartbeats 4000000
namespace Go.Proofs.Lu
open Go.Ae Go.Ae.M
variable{H0 H:aa}{L:List aK}{r:Nat}{ty:TypeId}{n c:Nat}{cv:Value}
theorem Dp(hcm:mG cv)(hn:n≤16777216)(hB:Rg r ty n H0 H L)(a b:Int)(h1:0≤a)(h2:b≤n)(h3:a<b):
 ak Pg X 221 [sl r n c,vi a,vi b,cv] H fun v H'=>Ze v∧Rg r ty n H0 H' L:=by
 refine ce [0,1,2,3,8,9,10,11,12] ?_;refine tl ?_
 with_reducible refine PU.of (au (by omega) (by omega)) ?_
 refine VG 8 9 10 11 12 (I:=fun m x6 x7 x8 x9 aW H'=>∃i j:Int,x7=vi i∧x8=vi j∧a<i∧i≤b∧j≤5∧0≤j∧m=(5 -j).toNat∧Rg r ty n H0 H' L) ?_ _ ⟨_,_,rfl,rfl,by omega,by omega,by omega,by omega,rfl,hB⟩
 rintro m x6 x7 x8 x9 aW rg H' ⟨i,j,rfl,rfl,h4,h5,h6,h6',hm,hB⟩
 refine aR.kK fun K hK=>?_
 refine tl ?_
 simp only[PP,Nat.reduceBEq,aj hB.wf]
 refine ae (fun hc=>?_) (fun hc=>?_)
 rotate_left
 ·subst hK
  simp only[PP,Nat.reduceBEq,aj hB.wf]
  refine tl ?_
  refine rr ?_;exact⟨⟨_,rfl⟩,hB⟩
 refine yf 9 (I:=fun m x7 H'=>∃i:Int,x7=vi i∧a<i∧i≤b∧m=(b -i).toNat∧Rg r ty n H0 H' L) ?_ _ ⟨_,rfl,by omega,by omega,rfl,hB⟩
 rintro m2 x7 rg H2 ⟨i,rfl,h7,h8,hm2,hB⟩
 clear h4 h5
 have fin:∀x9 aW rg H3,i<b→Rg r ty n H0 H3 L→aR Pg X (sub aN [1,1,0,1,0,0,1,1]) (bA (sl r n c) (vi a) (vi b) cv x6 (vi i) (vi j) x9 aW rg H3) K:=by
  intro x9 aW rg H3 hib hB
  subst hK
  refine tl ?_
  simp only[PP,Nat.reduceBEq,aj hB.wf];with_reducible refine PU.of (au (by omega) (by omega)) ?_
  exact⟨(5 -(j +1)).toNat,by omega,_,_,_,_,_,_,_,rfl,i,j +1,rfl,rfl,by omega,by omega,by omega,by omega,rfl,hB⟩
 have lp2:∀x9 rg H3,i<b→Rg r ty n H0 H3 L→aR Pg X (.loop (sub aN [1,1,0,1,0,0,1,0,0,1,1,1,1,1,1,0,1,0,0])) (bA (sl r n c) (vi a) (vi b) cv x6 (vi i) (vi j) x9 (vi (i +1)) rg H3) (gY 6 (gY 1 (kH Pg X (sub aN [1,1,0,1,0,0,1,1]) K))):=by
  intro x9 rg H3 hib hB
  refine yf 12 (I:=fun m aW H'=>∃k:Int,aW=vi k∧i<k∧k≤b∧m=(b -k).toNat∧Rg r ty n H0 H' L) ?_ _ ⟨_,rfl,by omega,by omega,rfl,hB⟩
  rintro m3 aW rg H4 ⟨k,rfl,h9,h10,IM,hB⟩
  refine tl ?_
  simp only[PP,Nat.reduceBEq,aj hB.wf]
  refine ae (fun he=>?_) (fun he=>?_)
  rotate_left
  ·exact fin _ _ _ _ hib hB
  repeat(first|(simp only[PP,Nat.reduceBEq,aj hB.wf])|(with_reducible refine PU.of (ax (by omega) (by omega)) ?_)|(with_reducible refine PU.of (aG (by omega) (by omega)) ?_)|(with_reducible refine hB.xJ (by omega) (by omega) fun za zb=>?_)|(with_reducible refine hcm.call hB fun zc Hn hB wz=>?_)|((with_reducible refine And.intro ?_ ?_);focus ((simp only[aA,aB,az wz]);kernel_rfl)))
  refine aC (fun hb=>?_) (fun hb=>?_)
  ·exact fin _ _ _ _ hib hB
  repeat(first|(simp only[PP,Nat.reduceBEq,aj hB.wf])|(with_reducible refine PU.of (au (by omega) (by omega)) ?_)|(with_reducible refine PU.of (ax (by omega) (by omega)) ?_)|(with_reducible refine PU.of (aG (by omega) (by omega)) ?_)|(with_reducible refine hB.xJ (by omega) (by omega) fun za zb=>?_)|(with_reducible refine hB.Kg (by omega) (by omega) fun Hn hB=>?_)|((with_reducible refine And.intro ?_ ?_);focus ((simp only[aA,aB,az wz]);kernel_rfl)))
  exact⟨(b -(k +1)).toNat,by omega,_,_,_,rfl,k +1,rfl,by omega,by omega,rfl,hB⟩
 have kQ:∀x9 rg H3,i<b→Rg r ty n H0 H3 L→aR Pg X (sub aN [1,1,0,1,0,0,1,0,0,1,1,1,1,1]) (bA (sl r n c) (vi a) (vi b) cv x6 (vi i) (vi j) x9 aW rg H3) (gY 1 (kH Pg X (sub aN [1,1,0,1,0,0,1,1]) K)):=by
  intro x9 rg H3 hib hB
  refine tl ?_
  repeat(first|(simp only[PP,Nat.reduceBEq,aj hB.wf])|(with_reducible refine PU.of (ax (by omega) (by omega)) ?_))
  refine ae (fun hd=>?_) (fun hd=>?_)
  rotate_left
  ·exact fin _ _ _ _ hib hB
  with_reducible refine PU.of (au (by omega) (by omega)) ?_
  exact lp2 _ _ _ hib hB
 have qo:∀rg H3,Rg r ty n H0 H3 L→aR Pg X (sub aN [1,1,0,1,0,0,1,0,0,1]) (bA (sl r n c) (vi a) (vi b) cv x6 (vi i) (vi j) x9 aW rg H3) (gY 1 (kH Pg X (sub aN [1,1,0,1,0,0,1,1]) K)):=by
  intro rg H3 hB
  refine tl ?_
  simp only[PP,Nat.reduceBEq,aj hB.wf]
  refine ae (fun hd=>?_) (fun hd=>?_)
  ·subst hK
   simp only[PP,Nat.reduceBEq,aj hB.wf]
   refine rr ?_;exact⟨⟨_,rfl⟩,hB⟩
  with_reducible refine PU.of (ax (by omega) (by omega)) ?_;simp only[PP,Nat.reduceBEq,aj hB.wf]
  refine ae (fun he=>?_) (fun he=>?_)
  ·subst hK
   simp only[PP,Nat.reduceBEq,aj hB.wf]
   refine rr ?_;exact⟨⟨_,rfl⟩,hB⟩
  repeat(first|(simp only[PP,Nat.reduceBEq,aj hB.wf])|(with_reducible refine PU.of (ax (by omega) (by omega)) ?_)|(with_reducible refine PU.of (aG (by omega) (by omega)) ?_)|(with_reducible refine hB.xJ (by omega) (by omega) fun za zb=>?_)|(with_reducible refine hB.Kg (by omega) (by omega) fun Hn hB=>?_)|((with_reducible refine And.intro ?_ ?_);focus ((try simp only[aA,aB,az (Ext.refl (hN _))]);kernel_rfl)))
  refine ae (fun hg=>?_) (fun hg=>?_)
  rotate_left
  ·with_reducible refine PU.of (ax (by omega) (by omega)) ?_;simp only[PP,Nat.reduceBEq,aj hB.wf]
   refine ae (fun hd=>?_) (fun hd=>?_)
   rotate_left
   ·exact fin _ _ _ _ (by omega) hB
   with_reducible refine PU.of (au (by omega) (by omega)) ?_
   exact lp2 _ _ _ (by omega) hB
  with_reducible refine PU.of (ax (by omega) (by omega)) ?_
  refine yf 11 (I:=fun m x9 H'=>∃k:Int,x9=vi k∧0≤k∧k<i∧m=k.toNat∧Rg r ty n H0 H' L) ?_ _ ⟨_,rfl,by omega,by omega,rfl,hB⟩
  rintro m3 x9 rg H4 ⟨k,rfl,h9,h10,IM,hB⟩
  refine tl ?_
  simp only[PP,Nat.reduceBEq,aj hB.wf]
  refine ae (fun he=>?_) (fun he=>?_)
  rotate_left
  ·exact kQ _ _ _ (by omega) hB
  repeat(first|(simp only[PP,Nat.reduceBEq,aj hB.wf])|(with_reducible refine PU.of (ax (by omega) (by omega)) ?_)|(with_reducible refine PU.of (aG (by omega) (by omega)) ?_)|(with_reducible refine hB.xJ (by omega) (by omega) fun za zb=>?_)|(with_reducible refine hcm.call hB fun zc Hn hB wz=>?_)|((with_reducible refine And.intro ?_ ?_);focus ((simp only[aA,aB,az wz]);kernel_rfl)))
  refine aC (fun hb=>?_) (fun hb=>?_)
  ·exact kQ _ _ _ (by omega) hB
  repeat(first|(simp only[PP,Nat.reduceBEq,aj hB.wf])|(with_reducible refine PU.of (ax (by omega) (by omega)) ?_)|(with_reducible refine PU.of (aG (by omega) (by omega)) ?_)|(with_reducible refine hB.xJ (by omega) (by omega) fun za zb=>?_)|(with_reducible refine hB.Kg (by omega) (by omega) fun Hn hB=>?_)|((with_reducible refine And.intro ?_ ?_);focus ((simp only[aA,aB,az wz]);kernel_rfl)))
  exact⟨(k -1).toNat,by omega,_,_,_,rfl,k -1,rfl,by omega,by omega,rfl,hB⟩
 refine tl ?_
 simp only[PP,Nat.reduceBEq,aj hB.wf]
 refine ae (fun hd=>?_) (fun hd=>?_)
 rotate_left
 ·refine⟨by kernel_rfl,?_⟩
  exact qo _ _ hB
 repeat(first|(simp only[PP,Nat.reduceBEq,aj hB.wf])|(with_reducible refine PU.of (ax (by omega) (by omega)) ?_)|(with_reducible refine PU.of (aG (by omega) (by omega)) ?_)|(with_reducible refine hB.xJ (by omega) (by omega) fun za zb=>?_)|(with_reducible refine hcm.call hB fun zc Hn hB wz=>?_)|((with_reducible refine And.intro ?_ ?_);focus ((simp only[aA,aB,az wz]);kernel_rfl)))
 refine aC (fun hb=>?_) (fun hb=>?_)
 rotate_left
 ·exact qo _ _ hB
 with_reducible refine PU.of (au (by omega) (by omega)) ?_
 exact⟨(b -(i +1)).toNat,by omega,_,_,_,rfl,i +1,rfl,by omega,by omega,rfl,hB⟩
theorem FO(hcm:mG cv)(hn:n≤16777216)(hB:Rg r ty n H0 H L)(a b p:Int)(h1:0≤a)(h2:b≤n)(h3:a<b)(hp:a≤p∧p<b):
 ak Pg X 222 [sl r n c,vi a,vi b,vi p,cv] H fun v H'=>∃i:Int,v=vi i∧a<i∧i≤b +1∧Rg r ty n H0 H' L:=by
 refine ce [0,1,2,3,4,10,11,12] ?_;refine tl ?_
 repeat(first|(simp only[PP,Nat.reduceBEq,aj hB.wf])|(with_reducible refine PU.of (au (by omega) (by omega)) ?_)|(with_reducible refine PU.of (ax (by omega) (by omega)) ?_)|(with_reducible refine PU.of (aG (by omega) (by omega)) ?_)|(with_reducible refine hB.xJ (by omega) (by omega) fun za zb=>?_)|(with_reducible refine hB.Kg (by omega) (by omega) fun Hn hB=>?_)|((with_reducible refine And.intro ?_ ?_);focus ((try simp only[aA,aB,az (Ext.refl (hN _))]);kernel_rfl)))
 refine lp2 11 12 (I:=fun m x9 aW H'=>∃i j:Int,x9=vi i∧aW=vi j∧a<i∧i≤b +1∧j<b∧i -2≤j∧m=(j +2 -i).toNat∧Rg r ty n H0 H' L) ?_ _ ⟨_,_,rfl,rfl,by omega,by omega,by omega,by omega,rfl,hB⟩
 rintro m x9 aW rg H1 ⟨i,j,rfl,rfl,h4,h5,h6,h7,hm,hB⟩
 refine aR.kK fun K hK=>?_
 have kQ:∀(i2 j2:Int) rg H3,i≤i2→j2≤j→i2 -2≤j2→i2≤b +1→Rg r ty n H0 H3 L→aR Pg X (sub gT [1,1,1,0,0,0,0,1,1]) (gH (sl r n c) (vi a) (vi b) (vi p) cv (vi 0) (vi i2) (vi j2) rg H3) (gY 1 K):=by
  intro i2 j2 rg H3 g1 g2 g3 g4 hB
  subst hK
  refine tl ?_
  simp only[PP,Nat.reduceBEq,aj hB.wf]
  refine ae (fun hd=>?_) (fun hd=>?_)
  ·refine tl ?_
   refine rr ?_;exact⟨_,rfl,by omega,by omega,hB⟩
  repeat(first|(simp only[PP,Nat.reduceBEq,aj hB.wf])|(with_reducible refine PU.of (au (by omega) (by omega)) ?_)|(with_reducible refine PU.of (ax (by omega) (by omega)) ?_)|(with_reducible refine PU.of (aG (by omega) (by omega)) ?_)|(with_reducible refine hB.xJ (by omega) (by omega) fun za zb=>?_)|(with_reducible refine hB.Kg (by omega) (by omega) fun Hn hB=>?_)|((with_reducible refine And.intro ?_ ?_);focus ((try simp only[aA,aB,az (Ext.refl (hN _))]);kernel_rfl)))
  exact⟨(j2 -1 +2 -(i2 +1)).toNat,by omega,_,_,_,_,rfl,i2 +1,j2 -1,rfl,rfl,by omega,by omega,by omega,by omega,rfl,hB⟩
 have qo:∀(i2:Int) rg H3,i≤i2→i2 -2≤j→i2≤b +1→Rg r ty n H0 H3 L→aR Pg X (sub gT [1,1,1,0,0,0,0,1]) (gH (sl r n c) (vi a) (vi b) (vi p) cv (vi 0) (vi i2) (vi j) rg H3) (gY 1 K):=by
  intro i2 rg H3 g1 g2 g3 hB
  refine tl ?_
  refine yf 12 (I:=fun m aW H'=>∃j2:Int,aW=vi j2∧j2≤j∧i2 -2≤j2∧m=(j2 +2 -i2).toNat∧Rg r ty n H0 H' L) ?_ _ ⟨_,rfl,by omega,by omega,rfl,hB⟩
  rintro m3 aW rg H4 ⟨j2,rfl,h9,h10,IM,hB⟩
  refine tl ?_
  simp only[PP,Nat.reduceBEq,aj hB.wf]
  refine ae (fun he=>?_) (fun he=>?_)
  rotate_left
  ·refine⟨by kernel_rfl,?_⟩
   exact kQ _ _ _ _ (by omega) (by omega) (by omega) (by omega) hB
  repeat(first|(simp only[PP,Nat.reduceBEq,aj hB.wf])|(with_reducible refine PU.of (aG (by omega) (by omega)) ?_)|(with_reducible refine hB.xJ (by omega) (by omega) fun za zb=>?_)|(with_reducible refine hcm.call hB fun zc Hn hB wz=>?_)|((with_reducible refine And.intro ?_ ?_);focus ((simp only[aA,aB,az wz]);kernel_rfl)))
  refine aC (fun hb=>?_) (fun hb=>?_)
  rotate_left
  ·exact kQ _ _ _ _ (by omega) (by omega) (by omega) (by omega) hB
  with_reducible refine PU.of (ax (by omega) (by omega)) ?_
  exact⟨(j2 -1 +2 -i2).toNat,by omega,_,_,_,rfl,j2 -1,rfl,by omega,by omega,rfl,hB⟩
 refine tl ?_
 refine yf 11 (I:=fun m x9 H'=>∃i2:Int,x9=vi i2∧i≤i2∧i2 -2≤j∧i2≤b +1∧m=(j +2 -i2).toNat∧Rg r ty n H0 H' L) ?_ _ ⟨_,rfl,by omega,by omega,by omega,rfl,hB⟩
 rintro m3 x9 rg H4 ⟨i2,rfl,h9,h10,h11,IM,hB⟩
 refine tl ?_
 simp only[PP,Nat.reduceBEq,aj hB.wf]
 refine ae (fun he=>?_) (fun he=>?_)
 rotate_left
 ·refine⟨by kernel_rfl,?_⟩
  exact qo _ _ _ (by omega) (by omega) (by omega) hB
 repeat(first|(simp only[PP,Nat.reduceBEq,aj hB.wf])|(with_reducible refine PU.of (aG (by omega) (by omega)) ?_)|(with_reducible refine hB.xJ (by omega) (by omega) fun za zb=>?_)|(with_reducible refine hcm.call hB fun zc Hn hB wz=>?_)|((with_reducible refine And.intro ?_ ?_);focus ((simp only[aA,aB,az wz]);kernel_rfl)))
 refine aC (fun hb=>?_) (fun hb=>?_)
 rotate_left
 ·exact qo _ _ _ (by omega) (by omega) (by omega) hB
 with_reducible refine PU.of (au (by omega) (by omega)) ?_
 exact⟨(j +2 -(i2 +1)).toNat,by omega,_,_,_,rfl,i2 +1,rfl,by omega,by omega,by omega,rfl,hB⟩
theorem Kv(hcm:mG cv)(hn:n≤16777216)(hB:Rg r ty n H0 H L)(a b p:Int)(h1:0≤a)(h2:b≤n)(h3:a<b)(hp:a≤p∧p<b):
 ak Pg X 223 [sl r n c,vi a,vi b,vi p,cv] H fun v H'=>∃(i:Int)(f:Bool),v=.tuple ⟨[vi i,.bool f]⟩∧a≤i∧i<b∧Rg r ty n H0 H' L:=by
 refine ce [0,1,2,3,4,10,11,12,13] ?_;refine tl ?_
 repeat(first|(simp only[PP,Nat.reduceBEq,aj hB.wf])|(with_reducible refine PU.of (au (by omega) (by omega)) ?_)|(with_reducible refine PU.of (ax (by omega) (by omega)) ?_)|(with_reducible refine PU.of (aG (by omega) (by omega)) ?_)|(with_reducible refine hB.xJ (by omega) (by omega) fun za zb=>?_)|(with_reducible refine hB.Kg (by omega) (by omega) fun Hn hB=>?_)|((with_reducible refine And.intro ?_ ?_);focus ((try simp only[aA,aB,az (Ext.refl (hN _))]);kernel_rfl)))
 refine aR.kK fun K hK=>?_
 have out:∀(i j:Int) x8 x9 rg H3,a≤j→j<b→Rg r ty n H0 H3 L→aR Pg X (sub bg [1,1,1,1,1,1,1,1,1,1]) (bC (sl r n c) (vi a) (vi b) (vi p) cv x8 x9 (vi i) (vi j) rg H3) (cB Pg [.tmp 10,.tmp 11] fun v H'=>∃(i:Int)(f:Bool),v=.tuple ⟨[vi i,.bool f]⟩∧a≤i∧i<b∧Rg r ty n H0 H' L):=by
  intro i j x8 x9 rg H3 g1 g2 hB
  refine tl ?_
  repeat(first|(simp only[PP,Nat.reduceBEq,aj hB.wf])|(with_reducible refine PU.of (aG (by omega) (by omega)) ?_)|(with_reducible refine hB.xJ (by omega) (by omega) fun za zb=>?_)|(with_reducible refine hB.Kg (by omega) (by omega) fun Hn hB=>?_)|((with_reducible refine And.intro ?_ ?_);focus ((try simp only[aA,aB,az (Ext.refl (hN _))]);kernel_rfl)))
  refine rr ?_;exact⟨_,_,rfl,by omega,by omega,hB⟩
 have lp:∀(i j:Int) x8 x9 rg H3,a<i→j<b→a≤j→i -2≤j→Rg r ty n H0 H3 L→aR Pg X (.loop (sub bg [1,1,1,1,1,1,1,1,1,0,0,0])) (bC (sl r n c) (vi a) (vi b) (vi p) cv x8 x9 (vi i) (vi j) rg H3) (gY 4 (kH Pg X (sub bg [1,1,1,1,1,1,1,1,1,1]) (cB Pg [.tmp 10,.tmp 11] fun v H'=>∃(i:Int)(f:Bool),v=.tuple ⟨[vi i,.bool f]⟩∧a≤i∧i<b∧Rg r ty n H0 H' L))):=by
  intro i j x8 x9 rg H3 g1 g2 g3 g4 hB
  refine lp2 12 13 (I:=fun m aW bn H'=>∃i j:Int,aW=vi i∧bn=vi j∧a<i∧j<b∧a≤j∧i -2≤j∧m=(j +2 -i).toNat∧Rg r ty n H0 H' L) ?_ _ ⟨_,_,rfl,rfl,g1,g2,g3,g4,rfl,hB⟩
  clear g1 g2 g3 g4 hB i j
  rintro m aW bn rg H1 ⟨i,j,rfl,rfl,h4,h5,h6,h7,hm,hB⟩
  refine aR.kK fun K hK=>?_
  have kQ:∀(i2 j2:Int) rg H3,i≤i2→j2≤j→i2 -2≤j2→a≤j2→Rg r ty n H0 H3 L→aR Pg X (sub bg [1,1,1,1,1,1,1,1,1,0,0,0,0,1,1]) (bC (sl r n c) (vi a) (vi b) (vi p) cv x8 x9 (vi i2) (vi j2) rg H3) (gY 5 K):=by
   intro i2 j2 rg H3 g1 g2 g3 g4 hB
   subst hK
   refine tl ?_
   simp only[PP,Nat.reduceBEq,aj hB.wf]
   refine ae (fun hd=>?_) (fun hd=>?_)
   ·exact out _ _ _ _ _ _ (by omega) (by omega) hB
   repeat(first|(simp only[PP,Nat.reduceBEq,aj hB.wf])|(with_reducible refine PU.of (au (by omega) (by omega)) ?_)|(with_reducible refine PU.of (ax (by omega) (by omega)) ?_)|(with_reducible refine PU.of (aG (by omega) (by omega)) ?_)|(with_reducible refine hB.xJ (by omega) (by omega) fun za zb=>?_)|(with_reducible refine hB.Kg (by omega) (by omega) fun Hn hB=>?_)|((with_reducible refine And.intro ?_ ?_);focus ((try simp only[aA,aB,az (Ext.refl (hN _))]);kernel_rfl)))
   exact⟨(j2 -1 +2 -(i2 +1)).toNat,by omega,_,_,_,_,rfl,i2 +1,j2 -1,rfl,rfl,by omega,by omega,by omega,by omega,rfl,hB⟩
  have qo:∀(i2:Int) rg H3,i≤i2→i2 -2≤j→Rg r ty n H0 H3 L→aR Pg X (sub bg [1,1,1,1,1,1,1,1,1,0,0,0,0,1]) (bC (sl r n c) (vi a) (vi b) (vi p) cv x8 x9 (vi i2) (vi j) rg H3) (gY 5 K):=by
   intro i2 rg H3 g1 g2 hB
   refine tl ?_
   refine yf 13 (I:=fun m aW H'=>∃j2:Int,aW=vi j2∧j2≤j∧i2 -2≤j2∧a≤j2∧m=(j2 +2 -i2).toNat∧Rg r ty n H0 H' L) ?_ _ ⟨_,rfl,by omega,by omega,by omega,rfl,hB⟩
   rintro m3 aW rg H4 ⟨j2,rfl,h9,h10,h11,IM,hB⟩
   refine tl ?_
   simp only[PP,Nat.reduceBEq,aj hB.wf]
   refine ae (fun he=>?_) (fun he=>?_)
   rotate_left
   ·refine⟨by kernel_rfl,?_⟩
    exact kQ _ _ _ _ (by omega) (by omega) (by omega) (by omega) hB
   repeat(first|(simp only[PP,Nat.reduceBEq,aj hB.wf])|(with_reducible refine PU.of (aG (by omega) (by omega)) ?_)|(with_reducible refine hB.xJ (by omega) (by omega) fun za zb=>?_)|(with_reducible refine hcm.call hB fun zc Hn hB wz=>?_)|((with_reducible refine And.intro ?_ ?_);focus ((simp only[aA,aB,az wz]);kernel_rfl)))
   refine aC (fun hb=>?_) (fun hb=>?_)
   rotate_left
   ·exact kQ _ _ _ _ (by omega) (by omega) (by omega) (by omega) hB
   with_reducible refine PU.of (ax (by omega) (by omega)) ?_
   exact⟨(j2 -1 +2 -i2).toNat,by omega,_,_,_,rfl,j2 -1,rfl,by omega,by omega,by omega,rfl,hB⟩
  refine tl ?_
  refine yf 12 (I:=fun m x9 H'=>∃i2:Int,x9=vi i2∧i≤i2∧i2 -2≤j∧m=(j +2 -i2).toNat∧Rg r ty n H0 H' L) ?_ _ ⟨_,rfl,by omega,by omega,rfl,hB⟩
  rintro m3 x9 rg H4 ⟨i2,rfl,h9,h10,IM,hB⟩
  refine tl ?_
  simp only[PP,Nat.reduceBEq,aj hB.wf]
  refine ae (fun he=>?_) (fun he=>?_)
  rotate_left
  ·refine⟨by kernel_rfl,?_⟩
   exact qo _ _ _ (by omega) (by omega) hB
  repeat(first|(simp only[PP,Nat.reduceBEq,aj hB.wf])|(with_reducible refine PU.of (aG (by omega) (by omega)) ?_)|(with_reducible refine hB.xJ (by omega) (by omega) fun za zb=>?_)|(with_reducible refine hcm.call hB fun zc Hn hB wz=>?_)|((with_reducible refine And.intro ?_ ?_);focus ((simp only[aA,aB,az wz]);kernel_rfl)))
  refine aC (fun hb=>?_) (fun hb=>?_)
  rotate_left
  ·exact qo _ _ _ (by omega) (by omega) hB
  with_reducible refine PU.of (au (by omega) (by omega)) ?_
  exact⟨(j +2 -(i2 +1)).toNat,by omega,_,_,_,rfl,i2 +1,rfl,by omega,by omega,rfl,hB⟩
 subst hK
 have Tf:∀(i j:Int) x8 x9 rg H3,a<i→j<b→a≤j→i -2≤j→Rg r ty n H0 H3 L→aR Pg X (sub bg [1,1,1,1,1]) (bC (sl r n c) (vi a) (vi b) (vi p) cv x8 x9 (vi i) (vi j) rg H3) (cB Pg [.tmp 10,.tmp 11] fun v H'=>∃(i:Int)(f:Bool),v=.tuple ⟨[vi i,.bool f]⟩∧a≤i∧i<b∧Rg r ty n H0 H' L):=by
  intro i j x8 x9 rg H3 g1 g2 g3 g4 hB
  refine tl ?_
  simp only[PP,Nat.reduceBEq,aj hB.wf]
  refine ae (fun he=>?_) (fun he=>?_)
  ·repeat(first|(simp only[PP,Nat.reduceBEq,aj hB.wf])|(with_reducible refine PU.of (aG (by omega) (by omega)) ?_)|(with_reducible refine hB.xJ (by omega) (by omega) fun za zb=>?_)|(with_reducible refine hB.Kg (by omega) (by omega) fun Hn hB=>?_)|((with_reducible refine And.intro ?_ ?_);focus ((try simp only[aA,aB,az (Ext.refl (hN _))]);kernel_rfl)))
   refine rr ?_;exact⟨_,_,rfl,by omega,by omega,hB⟩
  repeat(first|(simp only[PP,Nat.reduceBEq,aj hB.wf])|(with_reducible refine PU.of (au (by omega) (by omega)) ?_)|(with_reducible refine PU.of (ax (by omega) (by omega)) ?_)|(with_reducible refine PU.of (aG (by omega) (by omega)) ?_)|(with_reducible refine hB.xJ (by omega) (by omega) fun za zb=>?_)|(with_reducible refine hB.Kg (by omega) (by omega) fun Hn hB=>?_)|((with_reducible refine And.intro ?_ ?_);focus ((try simp only[aA,aB,az (Ext.refl (hN _))]);kernel_rfl)))
  exact lp (i +1) (j -1) _ _ _ _ (by omega) (by omega) (by omega) (by omega) hB
 have Tg:∀(i:Int) x8 x9 rg H3,a<i→i≤b→Rg r ty n H0 H3 L→aR Pg X (sub bg [1,1,1,1]) (bC (sl r n c) (vi a) (vi b) (vi p) cv x8 x9 (vi i) (vi (b -1)) rg H3) (cB Pg [.tmp 10,.tmp 11] fun v H'=>∃(i:Int)(f:Bool),v=.tuple ⟨[vi i,.bool f]⟩∧a≤i∧i<b∧Rg r ty n H0 H' L):=by
  intro i x8 x9 rg H3 g1 g2 hB
  refine tl ?_
  refine yf 13 (I:=fun m aW H'=>∃j2:Int,aW=vi j2∧j2<b∧i -2≤j2∧a≤j2∧m=(j2 +2 -i).toNat∧Rg r ty n H0 H' L) ?_ _ ⟨_,rfl,by omega,by omega,by omega,rfl,hB⟩
  rintro m3 aW rg H4 ⟨j2,rfl,h9,h10,h11,IM,hB⟩
  refine tl ?_
  simp only[PP,Nat.reduceBEq,aj hB.wf]
  refine ae (fun he=>?_) (fun he=>?_)
  rotate_left
  ·refine⟨by kernel_rfl,?_⟩
   exact Tf _ _ _ _ _ _ (by omega) (by omega) (by omega) (by omega) hB
  repeat(first|(simp only[PP,Nat.reduceBEq,aj hB.wf])|(with_reducible refine PU.of (aG (by omega) (by omega)) ?_)|(with_reducible refine hB.xJ (by omega) (by omega) fun za zb=>?_)|(with_reducible refine hcm.call hB fun zc Hn hB wz=>?_)|((with_reducible refine And.intro ?_ ?_);focus ((simp only[aA,aB,az wz]);kernel_rfl)))
  refine aC (fun hb=>?_) (fun hb=>?_)
  rotate_left
  ·exact Tf _ _ _ _ _ _ (by omega) (by omega) (by omega) (by omega) hB
  with_reducible refine PU.of (ax (by omega) (by omega)) ?_
  exact⟨(j2 -1 +2 -i).toNat,by omega,_,_,_,rfl,j2 -1,rfl,by omega,by omega,by omega,rfl,hB⟩
 refine yf 12 (I:=fun m x9 H'=>∃i2:Int,x9=vi i2∧a<i2∧i2≤b∧m=(b -i2).toNat∧Rg r ty n H0 H' L) ?_ _ ⟨_,rfl,by omega,by omega,rfl,hB⟩
 rintro m3 x9 rg H4 ⟨i2,rfl,h9,h10,IM,hB⟩
 refine tl ?_
 simp only[PP,Nat.reduceBEq,aj hB.wf]
 refine ae (fun he=>?_) (fun he=>?_)
 rotate_left
 ·refine⟨by kernel_rfl,?_⟩
  exact Tg _ _ _ _ _ (by omega) (by omega) hB
 repeat(first|(simp only[PP,Nat.reduceBEq,aj hB.wf])|(with_reducible refine PU.of (aG (by omega) (by omega)) ?_)|(with_reducible refine hB.xJ (by omega) (by omega) fun za zb=>?_)|(with_reducible refine hcm.call hB fun zc Hn hB wz=>?_)|((with_reducible refine And.intro ?_ ?_);focus ((simp only[aA,aB,az wz]);kernel_rfl)))
 refine aC (fun hb=>?_) (fun hb=>?_)
 rotate_left
 ·exact Tg _ _ _ _ _ (by omega) (by omega) hB
 with_reducible refine PU.of (au (by omega) (by omega)) ?_
 exact⟨(b -(i2 +1)).toNat,by omega,_,_,_,rfl,i2 +1,rfl,by omega,by omega,rfl,hB⟩
end Go.Proofs.Lu
set_option maxRecDepth 100000
set_option maxHeartbeats 4000000
namespace Go.Proofs.Lu
open Go.Ae Go.Ae.M
variable{H0 H:aa}{L:List aK}{r:Nat}{ty:TypeId}{n c:Nat}{cv:Value}
theorem Cr{q:Nat}{s:Int}(hB:Rg r ty n H0 H ((q,232,[.int .u64 s])::L)):
 ak Pg X 168 [.pointer (some ⟨q,0,none⟩)] H fun v H'=>∃z,v=.int .u64 z∧Rg r ty n H0 H' ((q,232,[.int .u64 z])::L):=by
 refine ce [0,2] ?_;refine tl ?_
 simp only[PP,Nat.reduceBEq]
 refine hB.xH 0 rfl rfl ?_
 (try simp only[aj hB.wf,dJ,d_])
 refine hB.xH 0 rfl rfl ?_
 refine PU.of (qg (by omega)) ?_
 refine PU.of nM ?_
 (try simp only[aj hB.wf,dJ,d_])
 refine hB.Px 0 rfl rfl (Nat.le_of_ble_eq_true rfl) rfl fun Hn hB=>?_
 refine And.intro (by simp only[aA,aB];kernel_rfl) ?_
 (try simp only[aj hB.wf,dJ,d_])
 refine hB.xH 0 rfl rfl ?_
 (try simp only[aj hB.wf,dJ,d_])
 refine hB.xH 0 rfl rfl ?_
 refine PU.of (iW (by omega)) ?_
 refine PU.of nM ?_
 (try simp only[aj hB.wf,dJ,d_])
 refine hB.Px 0 rfl rfl (Nat.le_of_ble_eq_true rfl) rfl fun Hn hB=>?_
 refine And.intro (by simp only[aA,aB];kernel_rfl) ?_
 (try simp only[aj hB.wf,dJ,d_])
 refine hB.xH 0 rfl rfl ?_
 (try simp only[aj hB.wf,dJ,d_])
 refine hB.xH 0 rfl rfl ?_
 refine PU.of (qg (by omega)) ?_
 refine PU.of nM ?_
 (try simp only[aj hB.wf,dJ,d_])
 refine hB.Px 0 rfl rfl (Nat.le_of_ble_eq_true rfl) rfl fun Hn hB=>?_
 refine And.intro (by simp only[aA,aB];kernel_rfl) ?_
 (try simp only[aj hB.wf,dJ,d_])
 refine hB.ld 0 rfl rfl ?_
 refine rr ?_;exact⟨_,rfl,hB⟩
theorem FP(hcm:mG cv)(hn:n≤1000000)(hB:Rg r ty n H0 H L)(a b:Int)(h1:0≤a)(h2:b≤n)(h3:a +12<b):
 ak Pg X 218 [sl r n c,vi a,vi b,cv] H fun v H'=>Rg r ty n H0 H' L:=by
 refine ce [0,1,2,8,9,10,11,12] ?_;refine tl ?_
 refine PU.of (ax (by omega) (by omega)) ?_
 refine PU.of iU ?_
 rw[decide_eq_true (by omega)]
 rw[ny,mD (u64_in (by omega))]
 simp only[PP,Nat.reduceBEq]
 refine hB.new fun H1 q hB=>?_
 refine hB.st 0 rfl rfl (Nat.le_of_ble_eq_true rfl) rfl fun Hn hB=>?_
 refine ak.mono (xQ (b -a) (by omega) (by omega)) ?_
 rintro _ _ ⟨⟨m,rfl,h4,h5⟩,rfl⟩
 refine PU.quo (by omega) (by omega) (by omega) fun qd hd1 hd2 hd3=>?_
 refine PU.of (my (by omega) (by omega)) ?_
 refine PU.of (au (by omega) (by omega)) ?_
 refine PU.of (ax (by omega) (by omega)) ?_
 refine lp2 11 12 (I:=fun k x9 aW H'=>∃i s:Int,x9=vi i∧a<i∧i≤b∧k=(b -i).toNat∧Rg r ty n H0 H' ((q,232,[.int .u64 s])::L)) ?_ _ ⟨_,_,rfl,by omega,by omega,rfl,hB⟩
 clear hB hd1 hd2 hd3 qd
 rintro k x9 aW rg H3 ⟨i,s,rfl,h6,h7,hk,hB⟩
 refine aR.kK fun K hK=>?_
 refine tl ?_
 refine PU.quo (by omega) (by omega) (by omega) fun qd hd1 hd2 hd3=>?_
 refine PU.of (my (by omega) (by omega)) ?_
 refine PU.of (au (by omega) (by omega)) ?_
 refine PU.of (au (by omega) (by omega)) ?_
 refine PU.of xC ?_
 refine ae (fun hc=>?_) (fun hc=>?_)
 rotate_left
 ·subst hK
  simp only[PP,Nat.reduceBEq]
  refine rn ?_;exact hB.drop
 have hib:i<b -1:=by omega
 clear hc hd1 hd2 hd3 qd
 refine ak.mono (Cr hB) ?_
 rintro _ H4 ⟨z,rfl,hB⟩
 refine PU.of (BS (u64_in (by omega))) ?_
 refine PU.of uK ?_
 obtain⟨g1,g2⟩:=Mr (a:=z) (b:=m -1) (by omega)
 generalize Fw .u64 z (m -1)=y at g1 g2
 rw[ny,nL (by omega) (by omega)]
 simp only[PP,Nat.reduceBEq]
 have fin:∀(w:Int) rg,0≤w→w<b -a→aR Pg X (sub iB [1,1,0,1,1,1,0,0,1,0,0,1,1]) (kP (sl r n c) (vi a) (vi b) cv (vi (b -a)) (.pointer (some ⟨q,0,none⟩)) (.int .u64 m) (vi i) (vi w) rg H4) (gY 1 (kH Pg X (sub iB [1,1,0,1,1,1,0,0,1,1]) K)):=by
  intro w rg g3 g4
  subst hK
  refine tl ?_
  repeat(first|(simp only[PP,Nat.reduceBEq,aj hB.wf])|(with_reducible refine PU.of (au (by omega) (by omega)) ?_)|(with_reducible refine PU.of (aG (by omega) (by omega)) ?_)|(with_reducible refine hB.xJ (by omega) (by omega) fun za zb=>?_)|(with_reducible refine hB.Kg (by omega) (by omega) fun Hn hB=>?_)|((with_reducible refine And.intro ?_ ?_);focus ((try simp only[aA,aB,az (Ext.refl (hN _))]);kernel_rfl)))
  refine tl ?_
  simp only[PP,Nat.reduceBEq,aj hB.wf];with_reducible refine PU.of (au (by omega) (by omega)) ?_
  exact⟨(b -(i +1)).toNat,by omega,_,_,_,_,rfl,i +1,_,rfl,by omega,by omega,rfl,hB⟩
 refine ae (fun hc=>?_) (fun hc=>?_)
 ·with_reducible refine PU.of (ax (by omega) (by omega)) ?_
  exact fin _ _ (by omega) (by omega)
 ·exact fin _ _ (by omega) (by omega)
theorem OL(hcm:mG cv)(hn:n≤1000000):∀(d:Nat)(H0 H:aa)(L:List aK)(hB:Rg r ty n H0 H L)(a b l:Int)(h1:0≤a)(h2:b≤n)(h3:a≤b +1)(h4:0≤l)(h5:l≤64)(hd:(b -a).toNat≤d),
 ak Pg X 214 [sl r n c,vi a,vi b,vi l,cv] H fun v H'=>Rg r ty n H0 H' L:=by
 intro d
 induction d using Nat.strongRecOn with
 |_ d ih=>
 intro H0 H L hB a b l h1 h2 h3 h4 h5 hd
 refine ce [0,1,2,3,4,10,11,12,13,14,15,16,17,18,19,20] ?_;refine tl ?_
 refine VH 1 2 3 10 11 12 13 14 15 16 17 18 19 20 (I:=fun k x1 x2 x3 x8 x9 aW bn bT bJ eF bL dL iI jH H'=>∃(a' b' l:Int)(w q:Bool),x1=vi a'∧x2=vi b'∧x3=vi l∧x8=.bool w∧x9=.bool q∧a≤a'∧b'≤b∧a'≤b' +1∧0≤l∧l≤64∧k=(b' +1 -a').toNat∧Rg r ty n H0 H' L) ?_ _
  ⟨a,b,l,true,true,rfl,rfl,rfl,rfl,rfl,by omega,by omega,by omega,by omega,by omega,rfl,hB⟩
 clear hB h4 h5 l H
 rintro k x1 x2 x3 x8 x9 aW bn bT bJ eF bL dL iI jH rg H1 ⟨a',b',l,w,q,rfl,rfl,rfl,rfl,rfl,h4,h5,h6,h7,h8,hk,hB⟩
 refine aR.kK fun K hK=>?_
 have t3:∀(p l:Int)(w q:Bool) bT bJ eF bL dL iI jH rg H3,0≤l→l≤64→a' +12<b'→a'≤p→p<b'→Rg r ty n H0 H3 L→aR Pg X (sub eD [1,1,0,0,0,1,1,1,1,1,1,1,1])
  (dU (sl r n c) (vi a') (vi b') (vi l) cv (.bool w) (.bool q) (vi (b' -a')) (vi p) bT bJ eF bL dL iI jH rg H3) (gY 1 K):=by
  intro p l w q bT bJ eF bL dL iI jH rg H3 g1 g2 g3 g4 g5 hB
  subst hK
  refine tl ?_
  refine ak.mono (Kv hcm (by omega) hB a' b' p (by omega) (by omega) (by omega) (by omega)) ?_
  rintro _ H4 ⟨mid,f,rfl,g6,g7,hB⟩
  simp only[PP,Nat.reduceBEq]
  refine PU.of (ax (by omega) (by omega)) ?_
  refine PU.of (ax (by omega) (by omega)) ?_
  refine PU.quo (by omega) (by omega) (by omega) fun qd hd1 hd2 hd3=>?_
  clear hd1 hd2 hd3
  refine PU.of xB ?_
  refine ae (fun hc=>?_) (fun hc=>?_)
  ·refine PU.of iU ?_
   refine ak.mono (ih (mid -a').toNat (by omega) H0 H4 L hB a' mid l (by omega) (by omega) (by omega) g1 g2 (Nat.le_refl _)) ?_
   rintro _ H5 hB
   refine PU.of (au (by omega) (by omega)) ?_
   exact⟨(b' +1 -(mid +1)).toNat,by omega,_,_,_,_,_,_,_,_,_,_,_,_,_,_,_,_,rfl,mid +1,b',l,_,_,rfl,rfl,rfl,rfl,rfl,by omega,by omega,by omega,g1,g2,rfl,hB⟩
  ·refine PU.of iU ?_
   refine PU.of (au (by omega) (by omega)) ?_
   refine ak.mono (ih (b' -(mid +1)).toNat (by omega) H0 H4 L hB (mid +1) b' l (by omega) (by omega) (by omega) g1 g2 (Nat.le_refl _)) ?_
   rintro _ H5 hB
   exact⟨(mid +1 -a').toNat,by omega,_,_,_,_,_,_,_,_,_,_,_,_,_,_,_,_,rfl,a',mid,l,_,_,rfl,rfl,rfl,rfl,rfl,by omega,by omega,by omega,g1,g2,rfl,hB⟩
 have t2:∀(p l:Int)(w q:Bool) bT bJ eF bL dL iI jH rg H3,0≤l→l≤64→a' +12<b'→a'≤p→p<b'→Rg r ty n H0 H3 L→aR Pg X (sub eD [1,1,0,0,0,1,1,1,1,1,1,1])
  (dU (sl r n c) (vi a') (vi b') (vi l) cv (.bool w) (.bool q) (vi (b' -a')) (vi p) bT bJ eF bL dL iI jH rg H3) (gY 1 K):=by
  intro p l w q bT bJ eF bL dL iI jH rg H3 g1 g2 g3 g4 g5 hB
  refine tl ?_
  simp only[PP,Nat.reduceBEq,aj hB.wf]
  refine ae (fun hc=>?_) (fun hc=>?_)
  ·repeat(first|(simp only[PP,Nat.reduceBEq,aj hB.wf])|(with_reducible refine PU.of (ax (by omega) (by omega)) ?_)|(with_reducible refine PU.of (aG (by omega) (by omega)) ?_)|(with_reducible refine hB.xJ (by omega) (by omega) fun za zb=>?_)|(with_reducible refine hcm.call hB fun zc Hn hB wz=>?_)|((with_reducible refine And.intro ?_ ?_);focus ((simp only[aA,aB,az wz]);kernel_rfl)))
   refine tl ?_
   simp only[PP,Nat.reduceBEq,aj hB.wf]
   refine aC (fun hb=>?_) (fun hb=>?_)
   ·refine ak.mono (FO hcm (by omega) hB a' b' p (by omega) (by omega) (by omega) (by omega)) ?_
    rintro _ H4 ⟨i,rfl,g6,g7,hB⟩
    subst hK
    simp only[PP,Nat.reduceBEq,aj hB.wf]
    exact⟨(b' +1 -i).toNat,by omega,_,_,_,_,_,_,_,_,_,_,_,_,_,_,_,_,rfl,i,b',l,_,_,rfl,rfl,rfl,rfl,rfl,by omega,by omega,by omega,g1,g2,rfl,hB⟩
   ·exact t3 _ _ _ _ _ _ _ _ _ _ _ _ _ g1 g2 g3 g4 g5 hB
  ·refine⟨by kernel_rfl,?_⟩
   refine tl ?_
   simp only[PP,Nat.reduceBEq,aj hB.wf]
   exact t3 _ _ _ _ _ _ _ _ _ _ _ _ _ g1 g2 g3 g4 g5 hB
 have t1:∀(p h l:Int)(w q:Bool) bJ eF bL dL iI jH rg H3,0≤l→l≤64→a' +12<b'→a'≤p→p<b'→Rg r ty n H0 H3 L→aR Pg X (sub eD [1,1,0,0,0,1,1,1,1,1,1])
  (dU (sl r n c) (vi a') (vi b') (vi l) cv (.bool w) (.bool q) (vi (b' -a')) (vi p) (vi h) bJ eF bL dL iI jH rg H3) (gY 1 K):=by
  intro p h l w q bJ eF bL dL iI jH rg H3 g1 g2 g3 g4 g5 hB
  refine tl ?_
  simp only[PP,Nat.reduceBEq,aj hB.wf]
  refine aC (fun hb=>?_) (fun hb=>?_)
  ·refine aC (fun hb=>?_) (fun hb=>?_)
   ·refine tl ?_
    simp only[PP,Nat.reduceBEq,aj hB.wf]
    refine ae (fun hc=>?_) (fun hc=>?_)
    ·refine ak.mono (Dp hcm (by omega) hB a' b' (by omega) (by omega) (by omega)) ?_
     rintro _ H4 ⟨⟨bl,rfl⟩,hB⟩
     simp only[PP,Nat.reduceBEq,aj hB.wf]
     refine aC (fun hb=>?_) (fun hb=>?_)
     ·subst hK
      simp only[PP,Nat.reduceBEq,aj hB.wf]
      refine rr ?_;exact hB
     ·exact t2 _ _ _ _ _ _ _ _ _ _ _ _ _ g1 g2 g3 g4 g5 hB
    ·exact t2 _ _ _ _ _ _ _ _ _ _ _ _ _ g1 g2 g3 g4 g5 hB
   ·refine tl ?_
    simp only[PP,Nat.reduceBEq,aj hB.wf]
    exact t2 _ _ _ _ _ _ _ _ _ _ _ _ _ g1 g2 g3 g4 g5 hB
  ·refine tl ?_
   simp only[PP,Nat.reduceBEq,aj hB.wf]
   exact t2 _ _ _ _ _ _ _ _ _ _ _ _ _ g1 g2 g3 g4 g5 hB
 have t0:∀(l:Int)(w q:Bool) bn bT bJ eF bL dL iI jH rg H3,0≤l→l≤64→a' +12<b'→Rg r ty n H0 H3 L→aR Pg X (sub eD [1,1,0,0,0,1,1,1,1])
  (dU (sl r n c) (vi a') (vi b') (vi l) cv (.bool w) (.bool q) (vi (b' -a')) bn bT bJ eF bL dL iI jH rg H3) (gY 1 K):=by
  intro l w q bn bT bJ eF bL dL iI jH rg H3 g1 g2 g3 hB
  refine tl ?_
  refine ak.mono (FN hcm (by omega) hB a' b' (by omega) (by omega) (by omega)) ?_
  rintro _ H4 ⟨p,h,rfl,g4,g5,hB⟩
  simp only[PP,Nat.reduceBEq]
  refine ae (fun hc=>?_) (fun hc=>?_)
  ·refine ak.mono (Dn hcm (by omega) hB a' b' (by omega) (by omega) (by omega)) ?_
   rintro _ H5 hB
   repeat(with_reducible refine PU.of (ax (by omega) (by omega)) ?_)
   exact t1 _ _ _ _ _ _ _ _ _ _ _ _ _ g1 g2 g3 (by omega) (by omega) hB
  ·exact t1 _ _ _ _ _ _ _ _ _ _ _ _ _ g1 g2 g3 (by omega) (by omega) hB
 refine tl ?_
 repeat(first|(simp only[PP,Nat.reduceBEq,aj hB.wf])|(with_reducible refine PU.of (ax (by omega) (by omega)) ?_))
 refine ae (fun hc=>?_) (fun hc=>?_)
 ·refine ak.mono (Ag hcm (by omega) hB a' b' (by omega) (by omega) (by omega)) ?_
  rintro _ H5 hB
  subst hK
  simp only[PP,Nat.reduceBEq,aj hB.wf]
  refine rr ?_;exact hB
 refine ae (fun he=>?_) (fun he=>?_)
 ·refine ak.mono (Ku hcm (by omega) hB a' b' (by omega) (by omega) (by omega)) ?_
  rintro _ H5 hB
  subst hK
  simp only[PP,Nat.reduceBEq,aj hB.wf]
  refine rr ?_;exact hB
 refine aC (fun hb=>?_) (fun hb=>?_)
 ·refine ak.mono (FP hcm hn hB a' b' (by omega) (by omega) (by omega)) ?_
  rintro _ H5 hB
  with_reducible refine PU.of (ax (by omega) (by omega)) ?_
  exact t0 _ _ _ _ _ _ _ _ _ _ _ _ _ (by omega) (by omega) (by omega) hB
 ·exact t0 _ _ _ _ _ _ _ _ _ _ _ _ _ (by omega) (by omega) (by omega) hB
end Go.Proofs.Lu
set_option maxRecDepth 100000
set_option maxHeartbeats 4000000
namespace Go.Proofs.Lu
open Go.Ae Go.Ae.M
variable{H0 H:aa}{L:List aK}
theorem zR(a:Int):ak Pg X 215 [.int .i32 a] H (Q0 (fun v=>v=.bool false) H):=by
 refine ce [0,2] ?_;refine tl ?_
 simp only[PP,Nat.reduceBEq]
 refine rr ?_;exact⟨by simp,rfl⟩
theorem Dq(a b:Int):ak Pg X 209 [.int .i32 a,.int .i32 b] H (Q0 (fun v=>∃z:Int,v=vi z) H):=by
 refine ce [0,1,4,5,6] ?_;refine tl ?_
 refine ak.mono (zR _) ?_
 rintro v H' ⟨rfl,rfl⟩
 refine ak.mono (zR _) ?_
 rintro v H' ⟨rfl,rfl⟩
 simp only[PP,Nat.reduceBEq]
 refine ae (fun hc=>?_) (fun hc=>?_)
 ·refine rr ?_;exact⟨⟨_,rfl⟩,rfl⟩
 refine ae (fun hc=>?_) (fun hc=>?_)
 ·refine rr ?_;exact⟨⟨_,rfl⟩,rfl⟩
 ·refine rr ?_;exact⟨⟨_,rfl⟩,rfl⟩
theorem VQ:mG (.func (.func 208) ⟨[]⟩ ⟨[]⟩):=by
 intro H a b c d hw
 show ak Pg X 208 [.agg ⟨[.int .i32 a,.int .i32 b]⟩,.agg ⟨[.int .i32 c,.int .i32 d]⟩] H _
 have hS:=SH.refl hw
 refine ce [0,1,2,3,4] ?_;refine tl ?_
 refine hS.box rfl fun H1 r hS=>?_
 refine hS.box rfl fun H2 r2 hS=>?_
 simp only[PP,Nat.reduceBEq,aj hS.wf];refine hS.aZ ?_;refine hS.aZ ?_
 refine ak.mono (Dq _ _) ?_
 rintro v H' ⟨⟨z,rfl⟩,rfl⟩
 refine rr ?_;exact⟨⟨z,rfl⟩,hS.ext⟩
theorem Kw(v cv:Value):ak Pg X 216 [v,vi 0,vi 0,cv] H fun _ H'=>H'=H:=by
 refine ce [0,1,2,3,8,9] ?_;refine tl ?_
 refine PU.of (au (by omega) (by omega)) ?_
 refine lp2 8 9 (I:=fun m x8 x9 H'=>x8=vi 1∧H'=H) ?_ 0 ⟨rfl,rfl⟩
 rintro m x8 x9 rg H' ⟨rfl,rfl⟩
 refine tl ?_
 simp only[PP,Nat.reduceBEq]
 rw[decide_eq_false (by omega)]
 simp only[PP,Nat.reduceBEq]
 refine rn ?_;exact rfl
theorem acN(v cv l:Value):ak Pg X 214 [v,vi 0,vi 0,l,cv] H fun _ H'=>H'=H:=by
 refine ce [0,1,2,3,4,10,11,12,13,14,15,16,17,18,19,20] ?_;refine tl ?_
 refine VH 1 2 3 10 11 12 13 14 15 16 17 18 19 20 (I:=fun k x1 x2 x3 x8 x9 aW bn bT bJ eF bL dL iI jH H'=>x1=vi 0∧x2=vi 0∧H'=H) ?_ 0 ⟨rfl,rfl,rfl⟩
 rintro k x1 x2 x3 x8 x9 aW bn bT bJ eF bL dL iI jH rg H' ⟨rfl,rfl,rfl⟩
 refine tl ?_
 refine PU.of (ax (by omega) (by omega)) ?_
 simp only[PP,Nat.reduceBEq]
 rw[decide_eq_true (by omega)]
 simp only[PP,Nat.reduceBEq]
 refine ak.mono (Kw _ _) ?_
 rintro _ _ rfl
 refine rr ?_;exact rfl
theorem Ky{cv:Value}(hcm:mG cv){r:Nat}{ty:TypeId}{n c:Nat}(hn:n≤1000000)(hB:Rg r ty n H0 H L):ak Pg X 207 [sl r n c,cv] H fun v H'=>Rg r ty n H0 H' L:=by
 refine ce [0,1,4] ?_;refine tl ?_
 simp only[PP,Nat.reduceBEq]
 rw[mD (u64_in (by omega))]
 refine ak.mono (uf _ (by omega) (by omega)) ?_
 rintro v H' ⟨⟨l,rfl,h1,_⟩,rfl⟩
 refine ak.mono (OL hcm hn _ H0 H' L hB 0 n l (by omega) (by omega) (by omega) (by omega) (by omega) (Nat.le_refl _)) ?_
 intro v H1 hB
 refine rn ?_;exact hB
theorem Zh(cv:Value):ak Pg X 207 [.slice none 0 0,cv] H fun v H'=>H'=H:=by
 refine ce [0,1,4] ?_;refine tl ?_
 simp only[PP,Nat.reduceBEq]
 rw[mD (u64_in (by omega))]
 refine ak.mono (uf _ (by omega) (by omega)) ?_
 rintro v H' ⟨⟨l,rfl,h1,_⟩,rfl⟩
 refine ak.mono (acN _ _ _) ?_
 rintro v H1 rfl
 refine rn ?_;exact rfl
theorem KA{cs:List Value}{k:Nat}(h:∀i,i<2→∃z:Int,cs[k*2 +i]?=some (.int .i32 z)):Gm (El cs 2 k):=by
 obtain⟨a,ha⟩:=h 0 (by omega)
 obtain⟨b,hb⟩:=h 1 (by omega)
 refine⟨a,b,?_⟩
 apply List.ext_getElem?
 intro i
 rw[jb]
 match i with
 |0=>rw[if_pos (by omega),ha];rfl
 |1=>rw[if_pos (by omega),hb];rfl
 |i +2=>rw[if_neg (by omega)];rfl
theorem FQ{cs:List Value}{k i:Nat}(h:Gm (El cs 2 k))(hi:i<2):∃z:Int,cs[k*2 +i]?=some (.int .i32 z):=by
 obtain⟨a,b,e⟩:=h
 have h1:=jb cs 2 k i
 rw[if_pos hi,e]at h1
 match i,hi with
 |0,_=>exact⟨a,h1.symm⟩
 |1,_=>exact⟨b,h1.symm⟩
section fields
variable{r:Nat}{ty:TypeId}{n:Nat}{K:Value→aa→Prop}
theorem SB.rf(h:SB Gm r ty 2 n H0 H L){z:Int}(h0:0≤z)(hz:z<n){f:Nat}(hf:f<2)(k:∀a,K (.int .i32 a) H):ME (jX none (.pointer (some ⟨r,z.toNat*2 +f,none⟩)) H) K:=by
 obtain⟨cs,hS,hp,hl⟩:=h.row (k:=z.toNat) (by omega)
 obtain⟨a,ha⟩:=FQ hp hf
 exact hS.ld 0 rfl ha (k a)
theorem SB.rfQ(h:SB Gm r ty 2 n H0 H L){z:Int}(h0:0≤z)(hz:z<n){f:Nat}(hf:f<2)(k:∀a,K (.int .i32 a) (hN H)):ME (jX none (.pointer (some ⟨r,z.toNat*2 +f,none⟩)) (hN H)) K:=SB.rf h.o8 h0 hz hf k
theorem SB.acO(h:SB Gm r ty 2 n H0 H L){z:Int}(h0:0≤z)(hz:z<n){f:Nat}(hf:f<2){a:Int}(k:∀H1,SB Gm r ty 2 n H0 (hM H H1) L→K undef H1):ME (Aw 1 (.pointer (some ⟨r,z.toNat*2 +f,none⟩)) (.int .i32 a) (hN H)) K:=by
 obtain⟨cs,h1,h2,hS⟩:=h
 have hle:z.toNat*2 +f +1≤cs.length:=by omega
 refine hS.Px 0 rfl rfl hle rfl fun H1 hS=>k H1 ⟨splice cs (z.toNat*2 +f) [.int .i32 a],?_,fun j hj=>?_,hS⟩
 ·rw[dM (by simpa using hle)];exact h1
 ·refine KA fun i hi=>?_
  rw[gZ (by simpa using hle)]
  split
  ·next hc=>
   rw[show j*2 +i -(z.toNat*2 +f)=0 by simp at hc;omega]
   exact⟨a,rfl⟩
  ·exact FQ (h2 j hj) hi
end fields
abbrev Dr(cs:List Value):Prop:=∀x∈cs,∃z:Int,x=.int .i32 z
theorem IU{cs:List Value}(h:Dr cs){k:Nat}(hk:k*2 +2≤cs.length):Gm (El cs 2 k):=by
 have e:El cs 2 k=[cs[k*2],cs[k*2 +1]]:=by
  unfold El
  rw[List.drop_eq_getElem_cons (by omega),List.drop_eq_getElem_cons (by omega)];rfl
 obtain⟨a,ha⟩:=h cs[k*2] (List.getElem_mem _)
 obtain⟨b,hb⟩:=h cs[k*2 +1] (List.getElem_mem _)
 exact⟨a,b,by rw[e,ha,hb]⟩
theorem Dr.app{cs:List Value}(h:Dr cs)(a b:Int):Dr (cs++[.int .i32 a,.int .i32 b]):=by
 intro x hx
 rcases List.mem_append.1 hx with hx|hx
 ·exact h x hx
 ·simp at hx
  rcases hx with rfl|rfl
  ·exact⟨_,rfl⟩
  ·exact⟨_,rfl⟩
theorem FT{cs:List Value}{n:Nat}(hl:cs.length=n*2)(h:∀k,k<n→Gm (El cs 2 k)):Dr cs:=by
 intro x hx
 obtain⟨i,hi,rfl⟩:=List.getElem_of_mem hx
 obtain⟨a,b,e⟩:=h (i/2) (by omega)
 have h1:=jb cs 2 (i/2) (i %2)
 rw[if_pos (Nat.mod_lt _ (by omega)),show i/2*2 +i %2=i by omega,List.getElem?_eq_getElem hi,e]at h1
 have:i %2=0∨i %2=1:=by omega
 rcases this with h2|h2
 ·rw[h2]at h1;exact⟨a,(Option.some.inj h1).symm⟩
 ·rw[h2]at h1;exact⟨b,(Option.some.inj h1).symm⟩
theorem zS(hw:Wf H){K:Nat}(hK:K≤1000000){v:Value}(hv:pg K H v):ak Pg X 210 [v] H (Q1 (fun v H'=>a_ H.next K H' v) H):=by
 obtain⟨a,n,c,cs,rfl,hf,hn,hi⟩:=hv
 have hS:=SH.refl hw
 refine ce [0,2] ?_;refine tl ?_
 rw[tq (by kernel_rfl)]
 simp only[PP,Nat.reduceBEq]
 refine aC (fun hb=>?_) (fun hb=>?_)
 ·refine rr ?_;exact⟨a_.nil _ _ _,Ext.refl _⟩
 ·refine ME.of (Y0 (by omega)) ?_
  have hS:=hS.grow 269 []
  have hge:=hS.ext.next
  refine hS.Ki (by omega) (.inr ⟨_,rfl⟩) (hf.ex hS.ext) (by omega) fun a' c' H1 L' hf' hS'=>?_
  refine rr ?_;exact⟨⟨a',n,c',cs,rfl,hf'.le hge,hn,hi⟩,hS'.ext⟩
set_option maxHeartbeats 8000000 in
theorem wB(hw:Wf H){KM:Nat}(hKM:KM≤1000000){v:Value}(hv:pg KM H v):ak Pg X 197 [v] H (Q1 (fun v H'=>a_ H.next KM H' v) H):=by
 obtain⟨a,n,c,cs,rfl,hf,hn,hi⟩:=hv
 have hS:=SH.refl hw
 refine ce [0,2,3,5,6,8,9,10,11,35,36,37] ?_;refine tl ?_
 simp only[PP,Nat.reduceBEq]
 refine PE 3 5 11 (I:=fun m x3 x5 bn H'=>∃(k:Nat)(ds:List Value)(gb:List aK),bn=vn k∧k +m=n∧GB 269 2 x3 ds gb∧ds.length≤2*k∧Dr ds∧SH [] H H' (gb++[])) ?_ n ⟨0,[],[],rfl,by omega,GB.nil _ _,by simp,(fun x h=>nomatch h),hS⟩
 rintro m x3 x5 bn rg H' ⟨k,ds,gb,rfl,hk,hg,hdl,hds,hS⟩
 refine aR.kK fun K hK=>?_
 refine tl ?_
 simp only[PP,Nat.reduceBEq]
 refine ae (fun hc=>?_) (fun hc=>?_)
 ·obtain⟨r,o,e,hr,hrd,hel,_⟩:=hf.read (by omega) (show k<n by omega) c
  rw[e]
  simp only[PP,Nat.reduceBEq]
  obtain⟨z1,z2,ez⟩:=IU hi (k:=k) (by rw[hf.1];omega)
  rw[ez]at hrd
  refine hS.p_ hrd hr ?_
  refine hS.cZ fun H1 r1 hS=>?_
  repeat(first|(simp only[PP,Nat.reduceBEq,aj hS.wf])|(refine hS.aZ ?_)|(refine hS.jd fun Hn hS=>?_))
  subst hK
  refine ae (fun hd=>?_) (fun hd=>?_)
  ·simp only[PP,Nat.reduceBEq,aj hS.wf];refine hS.bZ ?_
   refine hS.bS rfl rfl rfl (by omega) fun H2 rx hS=>?_
   have hS:SH [] H H2 ((rx,269,[.int .i32 (max z1 0),.int .i32 (min z2 1114111)])::(r1,269,[.int .i32 (max z1 0),.int .i32 (min z2 1114111)])::(gb++[])):=hS
   have hS:SH [] H H2 ((rx,269,[.int .i32 (max z1 0),.int .i32 (min z2 1114111)])::(gb++[(r1,269,[.int .i32 (max z1 0),.int .i32 (min z2 1114111)])])):=hS.perm (List.Perm.cons _ (by simpa using(List.perm_append_comm (l₁:=[_]) (l₂:=gb))))
   refine hg.add hS (by omega) rfl rfl (by omega) fun v' H3 dD hg' hS' hx=>?_
   rw[au (by omega) (by omega)]
   simp only[PP,Nat.reduceBEq]
   refine⟨m -1,by omega,_,_,_,_,_,rfl,k +1,_,dD,rfl,by omega,hg',by simp;omega,hds.app _ _,?_⟩
   exact by simpa using SH.drop (A:=[_]) (hS'.perm (List.perm_append_comm (l₂:=[_])))
  ·rw[au (by omega) (by omega)]
   simp only[PP,Nat.reduceBEq]
   refine⟨m -1,by omega,_,_,_,_,_,rfl,k +1,ds,gb,rfl,by omega,hg,by omega,hds,?_⟩
   exact SH.drop (A:=[_]) hS
 ·subst hK
  simp only[PP,Nat.reduceBEq]
  refine tl ?_
  rcases hg with⟨rfl,rfl,rfl⟩|⟨r,n1,aQ,rfl,hn1,rfl⟩
  ·refine ak.mono (Zh _) ?_
   rintro _ H1 e
   have e:=e.symm
   subst e
   simp only[PP,Nat.reduceBEq]
   refine PE 6 8 37 (I:=fun m x6 x8 tL H2=>H2=H'∧x6=vi 0∧tL=vi 0) ?_ 0 ⟨rfl,rfl,rfl⟩
   rintro m x6 x8 tL rg H2 ⟨rfl,rfl,rfl⟩
   refine tl ?_
   simp only[PP,Nat.reduceBEq]
   rw[decide_eq_false (by omega)]
   simp only[PP,Nat.reduceBEq]
   refine tl ?_
   refine PU.of (Mv) ?_
   refine ak.mono (zS hS.wf hKM (pg.nil _ _)) ?_
   rintro v H3 ⟨hv,hx⟩
   refine rr ?_;exact⟨hv.le (Nat.le_refl _) hS.ext.next,hS.ext.trans hx⟩
  ·have hB:Rg r 269 n1 H H' []:=⟨ds++aQ,by simp;omega,fun k hk=>KA fun i hi=>?_,hS⟩
   rotate_left
   ·rw[List.getElem?_append_left (by omega),List.getElem?_eq_getElem (by omega)]
    obtain⟨z,hz⟩:=hds ds[k*2 +i] (List.getElem_mem _)
    exact⟨z,by rw[hz]⟩
   have hn2:n1≤KM:=by omega
   refine ak.mono (Ky VQ (by omega) hB) ?_
   clear hB hS hds hn1 aQ ds hdl
   rintro _ H2 hB
   simp only[PP,Nat.reduceBEq]
   refine PE 6 8 37 (I:=fun m x6 x8 tL H2=>∃(w k:Nat),x6=vn w∧tL=vn k∧w≤k∧k +m=n1∧Rg r 269 n1 H H2 []) ?_ n1 ⟨0,0,rfl,rfl,by omega,by omega,hB⟩
   clear hB
   rintro m2 x6 x8 tL rg H3 ⟨w,k2,rfl,rfl,hw2,hk2,hB⟩
   refine aR.kK fun K hK=>?_
   have nx:∀(w:Nat) x8 rg H4,w≤k2 +1→k2<n1→Rg r 269 n1 H H4 []→aR Pg X (sub fu [1,1,1,1,1,0,1,0,0,1,1,1]) (jY (.slice a n c) (.slice none 0 0) (sl r n1 (aT 2)) x5 (vn w) x8 (.slice a n c) (vn n) (vn k) (sl r n1 (aT 2)) (vn n1) (vn k2) rg H4) K:=by
    intro w x8 rg H4 h1 h2 hB
    subst hK
    refine tl ?_
    rw[au (by omega) (by omega)]
    simp only[PP,Nat.reduceBEq]
    exact⟨m2 -1,by omega,_,_,_,_,_,rfl,w,k2 +1,rfl,rfl,by omega,by omega,hB⟩
   refine tl ?_
   simp only[PP,Nat.reduceBEq]
   refine ae (fun hc=>?_) (fun hc=>?_)
   rotate_left
   ·subst hK
    simp only[PP,Nat.reduceBEq]
    refine tl ?_
    refine PU.of (vY (show w≤n1 by omega)) ?_
    obtain⟨es,g1,g2,hS⟩:=hB
    have hfw:Fl H3 (some ⟨r,0,none⟩) w 2 (es.take (w*2)):=⟨by simp;omega,fun i x hi=>⟨r,0,rfl,(hS.lo _ (List.mem_cons_self ..)).2,by
     rw[Nat.zero_add]
     refine(hS.get 0 rfl).cell ?_
     rw[List.getElem?_take]at hi
     split at hi
     ·exact hi
     ·cases hi⟩⟩
    have hR:pg KM H3 (.slice (some ⟨r,0,none⟩) w (aT 2)):=⟨_,w,_,_,rfl,hfw,by omega,FT hfw.1 fun k hk=>KA fun i hi=>by
     rw[List.getElem?_take,if_pos (by omega)]
     exact FQ (g2 k (by omega)) hi⟩
    refine ak.mono (zS hS.wf hKM hR) ?_
    rintro v H4 ⟨hv,hx⟩
    refine rr ?_;exact⟨hv.le (Nat.le_refl _) hS.ext.next,hS.ext.trans hx⟩
   refine PU.of (aG (by omega) (by omega)) ?_
   simp only[Nat.zero_add]
   refine hB.r1 (by omega) (by omega) fun za zb=>?_
   refine hB.new fun H4 r1 hB=>?_
   refine hB.st 0 rfl rfl (Nat.le_of_ble_eq_true rfl) rfl fun H5 hB=>?_
   have hB:SB Gm r 269 2 n1 H H5 [(r1,269,[.int .i32 za,.int .i32 zb])]:=hB
   have lay:∀rg H6,SB Gm r 269 2 n1 H H6 [(r1,269,[.int .i32 za,.int .i32 zb])]→aR Pg X (sub fu [1,1,1,1,1,0,1,0,0,1,1,0,0,1,1]) (jY (.slice a n c) (.slice none 0 0) (sl r n1 (aT 2)) x5 (vn w) (.pointer (some ⟨r1,0,none⟩)) (.slice a n c) (vn n) (vn k) (sl r n1 (aT 2)) (vn n1) (vn k2) rg H6) (gY 3 (kH Pg X (sub fu [1,1,1,1,1,0,1,0,0,1,1,1]) K)):=by
    intro rg H6 hB
    refine tl ?_
    refine ME.of (v:=.agg ⟨[.int .i32 za,.int .i32 zb]⟩) (H:=H6) ?_ ?_
    ·obtain⟨es,g1,g2,hS⟩:=hB
     show(ai (H6.read r1 0 2) fun vs=>some (Value.agg ⟨vs⟩,H6))=_
     rw[(hS.get 1 rfl).read (o:=0) (n:=2) (Nat.le_refl 2)];rfl
    refine PU.of (aG (by omega) (by omega)) ?_
    simp only[Nat.zero_add]
    refine hB.rw' (by omega) (by omega) fun H7 hB=>?_
    rw[au (by omega) (by omega)]
    simp only[PP,Nat.reduceBEq]
    exact nx (w +1) _ _ _ (by omega) (by omega) hB.drop
   have fin:∀rg H6(b:Bool),zZ rg 54=.bool b→(b=true→0<w)→SB Gm r 269 2 n1 H H6 [(r1,269,[.int .i32 za,.int .i32 zb])]→aR Pg X (sub fu [1,1,1,1,1,0,1,0,0,1,1,0,0,1,0,1]) (jY (.slice a n c) (.slice none 0 0) (sl r n1 (aT 2)) x5 (vn w) (.pointer (some ⟨r1,0,none⟩)) (.slice a n c) (vn n) (vn k) (sl r n1 (aT 2)) (vn n1) (vn k2) rg H6) (kH Pg X (sub fu [1,1,1,1,1,0,1,0,0,1,1,0,0,1,1]) (gY 3 (kH Pg X (sub fu [1,1,1,1,1,0,1,0,0,1,1,1]) K))):=by
    intro rg H6 b hb hw0 hB
    refine tl ?_
    rw[hb]
    simp only[PP,Nat.reduceBEq]
    refine aC (fun hb=>?_) (fun hb=>?_)
    ·have:=hw0 hb
     refine PU.of (ax (by omega) (by omega)) ?_
     refine PU.of (ax (by omega) (by omega)) ?_
     refine PU.of (aG (by omega) (by omega)) ?_
     simp only[PP,Nat.reduceBEq]
     refine SB.rfQ hB (by omega) (by omega) (by omega) fun zc=>?_
     simp only[aj hB.wf]
     refine hB.xH 0 rfl rfl ?_
     simp only[aj hB.wf]
     simp only[PP,Nat.reduceBEq]
     refine PU.of (aG (by omega) (by omega)) ?_
     simp only[PP,Nat.reduceBEq]
     refine SB.acO hB (by omega) (by omega) (by omega) fun H7 hB2=>?_
     refine⟨by simp only[aA,aB];kernel_rfl,?_⟩
     exact nx w _ _ _ (by omega) (by omega) hB2.drop
    ·exact lay _ _ hB
   simp only[PP,Nat.reduceBEq]
   refine ae (fun hd=>?_) (fun hd=>?_)
   ·refine hB.xH 0 rfl rfl ?_
    simp only[aj hB.wf]
    refine PU.of (ax (by omega) (by omega)) ?_
    refine PU.of (aG (by omega) (by omega)) ?_
    simp only[PP,Nat.reduceBEq]
    refine SB.rfQ hB (by omega) (by omega) (by omega) fun zc=>?_
    simp only[aj hB.wf]
    simp only[PP,Nat.reduceBEq]
    refine⟨by simp only[aA];kernel_rfl,?_⟩
    exact fin _ _ _ (by simp only[lQ];rfl) (fun _=>by omega) hB
   ·refine⟨by kernel_rfl,?_⟩
    exact fin _ _ false (by simp only[lQ]) (fun h=>by cases h) hB
theorem Tj(hw:Wf H):ak Pg X 211 [] H (Q1 (fun v H'=>a_ H.next 1 H' v) H):=by
 have hS:=SH.refl hw
 refine ce [0] ?_;refine tl ?_
 refine PU.of (v:=.agg ⟨[_,_]⟩) rfl ?_
 refine hS.bS rfl rfl rfl (by omega) fun H1 r hS=>?_
 have hb:=hS.get 0 rfl
 have hlo:=hS.lo _ (List.mem_cons_self ..)
 refine rr ?_;refine⟨⟨_,1,1,_,rfl,⟨hb.fl hlo.2 rfl,fun r' o e _=>by cases e;exact⟨hS.xA (List.mem_cons_self ..),hlo.2,hb.Py⟩⟩,by omega,fun x hx=>?_⟩,hS.ext⟩
 have hx:x∈[Value.int .i32 0,Value.int .i32 1114111]:=hx
 simp at hx
 rcases hx with rfl|rfl
 ·exact⟨_,rfl⟩
 ·exact⟨_,rfl⟩
end Go.Proofs.Lu
set_option maxRecDepth 100000
set_option maxHeartbeats 4000000
namespace Go.Proofs.Lu
open Go.Ae Go.Ae.M
variable{H0 H:aa}{L:List aK}
abbrev isRead(b:Nat)(s:ByteArray)(v:Value)(H':aa):Prop:=∃(rs:Value)(cd:Int)(at':Nat),v=.tuple ⟨[rs,.agg ⟨[vi cd,vn at']⟩]⟩∧at'≤s.size +1∧a_ b s.size H' rs
theorem Tok.st{S:List Nat}{b b' lo hi:Nat}{H H':aa}{v:Value}(h:Tok b H lo hi v)(hx:kS S H H')(hS:∀q∈S,q<b∨¬qy H q 269)(hb:b'≤b):Tok b' H' lo hi v:=by
 obtain⟨kd,a,e,t,rs,h1,h2,h3,h4,h5,h6⟩:=h
 exact⟨kd,a,e,t,rs,h1,h2,h3,h4,h5,(h6.stay hx hS).le (Nat.le_refl _) hb⟩
theorem OM(hw:Wf H)(hT:tX H)(s:ByteArray)(hs:s.size≤20000):ak Pg X 180 [.string s] H (Q1 (isRead H.next s) H):=by
 have hS:=SH.refl hw
 refine ce [0,2,3,4,5,6,7,8,9,10] ?_;refine tl ?_
 refine hS.cZ fun Hn rs hS=>?_
 simp only[PP,Nat.reduceBEq]
 refine ae (fun hc=>?_) (fun hc=>?_)
 ·refine PU.b2 rfl ?_;simp only[PP,Nat.reduceBEq,aj hS.wf];refine hS.jd fun Hn hS=>?_
  refine rr ?_
  refine hS.bZ ?_
  exact⟨⟨_,_,0,rfl,by omega,a_.nil _ _ _⟩,hS.ext⟩
 refine lp8 2 4 5 6 7 8 9 10 (I:=fun m x2 x4 x5 x6 x7 x8 x9 aW H'=>∃(k:Nat)(ds:List Value)(gb:List aK),x2=.slice none 0 0∧x5=vn k∧k +m=s.size∧GB 269 2 x4 ds gb∧ds.length≤2*k∧Dr ds∧SH [] H H' ((rs,72,[vi 0,vi 0])::(gb++[]))) ?_ s.size ⟨0,[],[],rfl,rfl,by omega,GB.nil _ _,by simp,(fun x h=>nomatch h),hS⟩
 clear hS
 rintro m x2 x4 x5 x6 x7 x8 x9 aW rg H' ⟨k,ds,gb,rfl,rfl,hk,hg,hdl,hds,hS⟩
 refine aR.kK fun K hK=>?_
 have lay:∀(lo hi:Int)(q:Nat) x7 x8 rg H2,k<q→q≤s.size→SH [] H H2 ((rs,72,[vi 0,vi 0])::(gb++[]))→
  aR Pg X (sub qR [1,1,1,0,1,0,0,1,0,1,1,1,1]) (vw (.string s) (.slice none 0 0) (.pointer (some ⟨rs,0,none⟩)) x4 (vn k) (.int .i32 lo) x7 x8 (.int .i32 hi) (vn q) rg H2) (gY 1 K):=by
  intro lo hi q x7 x8 rg H2 h1 h2 hS
  subst hK
  refine tl ?_
  refine PU.of (v:=.agg ⟨[_,_]⟩) rfl ?_
  refine hS.bS rfl rfl rfl (by omega) fun H3 rx hS=>?_
  have hS:SH [] H H3 ((rx,269,[.int .i32 lo,.int .i32 hi])::(gb++[(rs,72,[vi 0,vi 0])])):=hS.perm (List.Perm.cons _ (Ec _ _))
  refine hg.add hS (by omega) rfl rfl (by omega) fun v' H3 dD hg' hS' hx=>?_
  simp only[PP,Nat.reduceBEq]
  exact⟨s.size -q,by omega,_,_,_,_,_,_,_,_,_,_,rfl,q,_,dD,rfl,rfl,by omega,hg',by simp;omega,hds.app _ _,hS'.perm (Ec _ _).symm⟩
 have mid:∀(lo:Int)(sz q:Nat)(b:Bool) x8 rg H2,zZ rg 44=.bool b→k<q→q≤s.size→(b=true→q +1<s.size)→SH [] H H2 ((rs,72,[vi 0,vi 0])::(gb++[]))→
  aR Pg X (sub qR [1,1,1,0,1,0,0,1,0,1,1,1,0,1]) (vw (.string s) (.slice none 0 0) (.pointer (some ⟨rs,0,none⟩)) x4 (vn k) (.int .i32 lo) (vn sz) x8 (.int .i32 lo) (vn q) rg H2) (kH Pg X (sub qR [1,1,1,0,1,0,0,1,0,1,1,1,1]) (gY 1 K)):=by
  intro lo sz q b x8 rg H2 hb h1 h2 h3 hS
  refine tl ?_
  rw[hb]
  simp only[PP,Nat.reduceBEq]
  refine aC (fun hb=>?_) (fun hb=>?_)
  ·have:=h3 hb
   rw[au (by omega) (by omega)]
   simp only[PP,Nat.reduceBEq]
   rw[Ei (show(q:Int) +1=((q +1:Nat):Int) by omega)]
   refine ak.mono (Em hS.wf (hT.ex hS.ext) s (q +1) (by omega) (by omega)) ?_
   rintro v H3 ⟨⟨r,n,e,rfl,h4,h5⟩,hx⟩
   have hS:=hS.call hx
   simp only[PP,Nat.reduceBEq,aj hS.wf]
   refine aP (fun he=>?_) (fun he=>?_)
   ·rw[au (by omega) (by omega)]
    repeat(first|(simp only[PP,Nat.reduceBEq,aj hS.wf])|(refine PU.b2 rfl ?_)|(refine hS.jd fun Hn hS=>?_))
    subst hK
    refine rr ?_
    refine hS.bZ ?_
    exact⟨⟨_,_,q +1,rfl,by omega,a_.nil _ _ _⟩,hS.ext⟩
   refine ae (fun hc=>?_) (fun hc=>?_)
   ·refine PU.b2 rfl ?_;simp only[PP,Nat.reduceBEq,aj hS.wf];refine hS.jd fun Hn hS=>?_
    subst hK
    refine rr ?_
    refine hS.bZ ?_
    exact⟨⟨_,_,k,rfl,by omega,a_.nil _ _ _⟩,hS.ext⟩
   rw[au (by omega) (by omega)]
   simp only[PP,Nat.reduceBEq,aj hS.wf]
   rw[au (by omega) (by omega)]
   simp only[PP,Nat.reduceBEq,aj hS.wf]
   rw[Ei (show(q:Int) +(1 +(n:Int))=((q +1 +n:Nat):Int) by omega)]
   exact lay _ _ _ _ _ _ _ (by omega) (by omega) hS
  ·exact lay _ _ _ _ _ _ _ h1 h2 hS
 refine tl ?_
 simp only[PP,Nat.reduceBEq]
 refine ae (fun hc=>?_) (fun hc=>?_)
 ·refine ak.mono (Em hS.wf (hT.ex hS.ext) s k (by omega) (by omega)) ?_
  rintro v H3 ⟨⟨r,n,e,rfl,h4,h5⟩,hx⟩
  have hS:=hS.call hx
  simp only[PP,Nat.reduceBEq,aj hS.wf]
  refine aP (fun he=>?_) (fun he=>?_)
  ·refine PU.b2 rfl ?_;simp only[PP,Nat.reduceBEq,aj hS.wf];refine hS.jd fun Hn hS=>?_
   subst hK
   refine rr ?_
   refine hS.bZ ?_
   exact⟨⟨_,_,k,rfl,by omega,a_.nil _ _ _⟩,hS.ext⟩
  have h6:=h5 (by omega)
  rw[au (by omega) (by omega)]
  simp only[PP,Nat.reduceBEq,aj hS.wf]
  rw[ax (by omega) (by omega)]
  simp only[PP,Nat.reduceBEq,aj hS.wf]
  rw[Ei (show(k:Int) +(n:Int)=((k +n:Nat):Int) by omega)]
  refine ae (fun hc=>?_) (fun hc=>?_)
  ·rw[jB (by omega)]
   simp only[PP,Nat.reduceBEq,aj hS.wf]
   exact mid _ _ _ _ _ _ _ (by simp only[lQ];rfl) (by omega) (by omega) (fun _=>by omega) hS
  ·exact mid _ _ _ false _ _ _ (by simp only[lQ]) (by omega) (by omega) (fun h=>by cases h) hS
 ·subst hK
  simp only[PP,Nat.reduceBEq]
  refine tl ?_
  have hS2:SH [] H H' (gb++[(rs,72,[vi 0,vi 0])]):=hS.perm (Ec _ _)
  obtain⟨a,n,c,rfl,hn,hf⟩:=hg.fl hS2
  have hge:=hS.ext.next
  refine ak.mono (wB (KM:=s.size) hS.wf (by omega) ⟨a,n,c,ds,rfl,hf,by omega,hds⟩) ?_
  rintro v H3 ⟨hv,hx⟩
  have hlt:=hS.lt
  have hS0:=hS.call hx
  have hS:=hS0.base
  refine PU.b2 rfl ?_;refine hS.jd fun Hn hS=>?_
  refine rr ?_
  refine hS.bZ ?_
  exact⟨⟨_,0,0,rfl,by omega,(hv.stay hS.ext fun q hq=>.inl (hlt q hq)).le (Nat.le_refl _) hge⟩,(hS0.over hS).ext⟩
theorem KB(hw:Wf H)(hT:tX H)(s:ByteArray)(k:Nat)(hk:k<s.size)(hs:s.size≤20000):ak Pg X 145 [.string s,vn k] H (Q1 (xP H.next s k) H):=by
 have hS:=SH.refl hw
 refine ce [0,1,4,5,6,7,8,19] ?_;refine tl ?_
 refine hS.cZ fun Hn rt hS=>?_
 refine hS.cZ fun Hn rs hS=>?_
 rw[au (by omega) (by omega)]
 simp only[PP,Nat.reduceBEq]
 refine Iv 6 7 8 19 (I:=fun m x6 x7 x8 mJ H'=>∃p:Nat,x6=vn p∧p +m=s.size +1∧k +1≤p∧SH [] H H' [(rs,72,[vi 0,vi 0]),(rt,128,[vi 0,vi 0,vi 0,.string (ByteArray.mk #[]),.slice none 0 0])]) ?_ (s.size -k) ⟨k +1,rfl,by omega,by omega,hS⟩
 clear hS
 rintro m x6 x7 x8 mJ rg H' ⟨p,rfl,h1,h2,hS⟩
 refine tl ?_
 simp only[PP,Nat.reduceBEq]
 refine ae (fun hc=>?_) (fun hc=>?_)
 rotate_left
 ·refine tl ?_
  repeat(first|(simp only[PP,Nat.reduceBEq,aj hS.wf])|(refine PU.b2 rfl ?_)|(refine PU.b5 rfl ?_)|(refine hS.jd fun Hn hS=>?_))
  refine rr ?_
  repeat(refine hS.bZ ?_)
  exact⟨⟨_,_,k,rfl,⟨_,0,0,_,_,rfl,_,_,_,rfl⟩,fun h=>by cases h⟩,hS.ext⟩
 rw[jB (by omega)]
 simp only[PP,Nat.reduceBEq]
 refine ae (fun hd=>?_) (fun hd=>?_)
 ·rw[au (by omega) (by omega)]
  simp only[PP,Nat.reduceBEq]
  rw[au (by omega) (by omega)]
  simp only[PP,Nat.reduceBEq]
  exact⟨m -2,by omega,_,_,_,_,_,_,rfl,p +2,rfl,by omega,by omega,hS⟩
 refine ae (fun he=>?_) (fun he=>?_)
 ·rw[au (by omega) (by omega)]
  simp only[PP,Nat.reduceBEq]
  rw[show YT (.string s) (some (vi ((k:Int) +1))) (some (vn p)) none=_ from Ih (lo:=k +1) (by omega) (by omega)]
  simp only[PP,Nat.reduceBEq]
  have hp:=lN s (lo:=k +1) (hi:=p) (by omega) (by omega)
  refine ak.mono (OM hS.wf (hT.ex hS.ext) _ (by omega)) ?_
  rintro v H3 ⟨⟨rsv,cd,e,rfl,h3,h4⟩,hx⟩
  have hge:=hS.ext.next
  have hlt:=hS.lt
  have hS0:=hS.call hx
  have hS:=hS0.base
  simp only[PP,Nat.reduceBEq,aj hS.wf]
  refine hS.cZ fun Hn rq hS=>?_
  repeat(first|(simp only[PP,Nat.reduceBEq,aj hS.wf])|(refine hS.aZ ?_)|(refine hS.jd fun Hn hS=>?_))
  refine aP (fun hz=>?_) (fun hz=>?_)
  ·refine PU.b5 rfl ?_;refine hS.jf ?_;simp only[PP,Nat.reduceBEq,aj hS.wf]
   rw[au (by omega) (by omega)]
   repeat(first|(simp only[PP,Nat.reduceBEq,aj hS.wf])|(refine hS.jf ?_))
   rw[au (by omega) (by omega)]
   repeat(first|(simp only[PP,Nat.reduceBEq,aj hS.wf])|(refine PU.b2 rfl ?_)|(refine hS.qh fun Hn hS=>?_))
   simp only[aA,aB]
   apply Fz (a:=rq) (b:=rs) (c:=rt) (hS.nq 0 1 rfl rfl (by omega)) (hS.nq 0 2 rfl rfl (by omega)) (hS.nq 1 2 rfl rfl (by omega)) (by intros;rfl) (by kernel_rfl) (by kernel_rfl)
   refine rr ?_
   repeat(refine hS.bZ ?_)
   exact⟨⟨_,cd,k +1 +e,rfl,⟨_,0,0,_,_,rfl,_,_,_,rfl⟩,fun h=>absurd h hz⟩,(hS0.over hS).ext⟩
  ·obtain⟨xa,xn,xc,xcs,rfl,h5,h6,h7⟩:=id h4
   rw[au (by omega) (by omega)]
   repeat(first|(simp only[PP,Nat.reduceBEq,aj hS.wf])|(refine PU.b2 rfl ?_)|(refine PU.b5 rfl ?_)|(refine hS.jd fun Hn hS=>?_))
   refine rr ?_
   repeat(refine hS.bZ ?_)
   refine⟨⟨_,0,0,rfl,⟨_,_,_,_,_,rfl,_,_,_,rfl⟩,fun _=>⟨4,k,p +1,_,_,rfl,by omega,by omega,by omega,Nat.zero_le _,?_⟩⟩,(hS0.over hS).ext⟩
   exact(h4.stay hS.ext fun q hq=>.inl (hlt q hq)).le (by omega) hge
 ·rw[au (by omega) (by omega)]
  simp only[PP,Nat.reduceBEq]
  exact⟨m -1,by omega,_,_,_,_,_,_,rfl,p +1,rfl,by omega,by omega,hS⟩
theorem Tm(hw:Wf H)(hT:tX H)(s:ByteArray)(k:Nat)(hk:k<s.size)(hs:s.size≤20000):ak Pg X 107 [.string s,vn k] H (Q1 (xP H.next s k) H):=by
 have hS:=SH.refl hw
 refine ce [0,1,4,5,6,7,8] ?_;refine tl ?_
 refine hS.cZ fun Hn rt hS=>?_
 refine hS.cZ fun Hn rs hS=>?_
 rw[jB (by omega)]
 simp only[PP,Nat.reduceBEq]
 refine ak.mono (zN _) ?_
 rintro v H' ⟨⟨b,rfl⟩,rfl⟩
 simp only[PP,Nat.reduceBEq]
 have hge:=hS.ext.next
 have hlt:=hS.lt
 refine aC (fun hb=>?_) (fun hb=>?_)
 ·refine ak.mono (OI hS.wf s k hk (by omega)) ?_
  rintro v H3 ⟨⟨tok,cd,e,rfl,⟨kd,a,e',t,rsv,rfl,xa,xn,xc,rfl⟩,hto⟩,hx⟩
  have hS0:=hS.call hx
  have hS:=hS0.base
  repeat(first|(simp only[PP,Nat.reduceBEq,aj hS.wf])|(refine hS.jd fun Hn hS=>?_))
  refine rr ?_
  repeat(refine hS.bZ ?_)
  exact⟨⟨_,cd,e,rfl,⟨_,_,_,_,_,rfl,_,_,_,rfl⟩,fun h=>(hto h).st hS.ext (fun q hq=>.inl (hlt q hq)) hge⟩,(hS0.over hS).ext⟩
 refine ae (fun hc=>?_) (fun hc=>?_)
 ·refine ak.mono (FK hS.wf (hT.ex hS.ext) s k hk (by omega)) ?_
  rintro v H3 ⟨⟨tok,cd,e,rfl,⟨kd,a,e',t,rsv,rfl,xa,xn,xc,rfl⟩,hto⟩,hx⟩
  have hS0:=hS.call hx
  have hS:=hS0.base
  repeat(first|(simp only[PP,Nat.reduceBEq,aj hS.wf])|(refine hS.jd fun Hn hS=>?_))
  refine rr ?_
  repeat(refine hS.bZ ?_)
  exact⟨⟨_,cd,e,rfl,⟨_,_,_,_,_,rfl,_,_,_,rfl⟩,fun h=>(hto h).st hS.ext (fun q hq=>.inl (hlt q hq)) hge⟩,(hS0.over hS).ext⟩
 refine ae (fun hc=>?_) (fun hc=>?_)
 ·refine ak.mono (KB hS.wf (hT.ex hS.ext) s k hk (by omega)) ?_
  rintro v H3 ⟨⟨tok,cd,e,rfl,⟨kd,a,e',t,rsv,rfl,xa,xn,xc,rfl⟩,hto⟩,hx⟩
  have hS0:=hS.call hx
  have hS:=hS0.base
  repeat(first|(simp only[PP,Nat.reduceBEq,aj hS.wf])|(refine hS.jd fun Hn hS=>?_))
  refine rr ?_
  repeat(refine hS.bZ ?_)
  exact⟨⟨_,cd,e,rfl,⟨_,_,_,_,_,rfl,_,_,_,rfl⟩,fun h=>(hto h).st hS.ext (fun q hq=>.inl (hlt q hq)) hge⟩,(hS0.over hS).ext⟩
 rw[sZ (by omega)]
 simp only[PP,Nat.reduceBEq]
 have hp:=lN s (lo:=k) (hi:=s.size) (by omega) (by omega)
 refine ak.mono (tV _ _) ?_
 rintro v H' ⟨⟨b,rfl,hb2⟩,rfl⟩
 simp only[PP,Nat.reduceBEq]
 refine aC (fun hb=>?_) (fun hb=>?_)
 ·have hl:2≤(Go.Ae.part s k s.size).size:=by
   obtain⟨r,hr⟩:=hb2 hb
   have h:=congrArg List.length hr
   have e1:(Go.Ae.part s k s.size).data.toList.length=(Go.Ae.part s k s.size).size:=rfl
   rw[e1,List.length_append]at h
   have e2:(ByteArray.mk #[45,62]).data.toList.length=2:=rfl
   omega
  rw[au (by omega) (by omega)]
  repeat(first|(simp only[PP,Nat.reduceBEq,aj hS.wf])|(refine PU.b2 rfl ?_)|(refine PU.b5 rfl ?_)|(refine hS.jd fun Hn hS=>?_))
  refine rr ?_
  repeat(refine hS.bZ ?_)
  exact⟨⟨_,0,0,rfl,⟨_,_,_,_,_,rfl,_,_,_,rfl⟩,fun _=>⟨15,k,k +2,_,_,rfl,by omega,by omega,by omega,Nat.zero_le _,a_.nil _ _ _⟩⟩,hS.ext⟩
 refine ak.mono (yQ _) ?_
 rintro v H' ⟨⟨kd,b,rfl⟩,rfl⟩
 simp only[PP,Nat.reduceBEq,aj hS.wf]
 cases b with
 |false=>
  refine(show∀{A B:Prop},A→vk (some !false) A B from fun h=>h) ?_
  repeat(first|(simp only[PP,Nat.reduceBEq,aj hS.wf])|(refine PU.b2 rfl ?_)|(refine PU.b5 rfl ?_)|(refine hS.jd fun Hn hS=>?_))
  refine rr ?_
  repeat(refine hS.bZ ?_)
  exact⟨⟨_,_,k,rfl,⟨_,0,0,_,_,rfl,_,_,_,rfl⟩,fun h=>by cases h⟩,hS.ext⟩
 |true=>
  refine(show∀{A B:Prop},B→vk (some !true) A B from fun h=>h) ?_
  rw[au (by omega) (by omega)]
  repeat(first|(simp only[PP,Nat.reduceBEq,aj hS.wf])|(refine PU.b2 rfl ?_)|(refine PU.b5 rfl ?_)|(refine hS.jd fun Hn hS=>?_))
  refine rr ?_
  repeat(refine hS.bZ ?_)
  exact⟨⟨_,0,0,rfl,⟨_,_,_,_,_,rfl,_,_,_,rfl⟩,fun _=>⟨kd,k,k +1,_,_,rfl,by omega,by omega,by omega,Nat.zero_le _,a_.nil _ _ _⟩⟩,hS.ext⟩
def Tk(b:Nat)(H:aa)(l:List Value):Prop:=∃(kd:Int)(a e:Nat)(t:ByteArray)(rs:Value),l=[vi kd,vn a,vn e,.string t,rs]∧a≤20000∧t.size≤1000000∧a_ b 20000 H rs
theorem Tk.st{S:List Nat}{b b':Nat}{H H':aa}{l:List Value}(h:Tk b H l)(hx:kS S H H')(hS:∀q∈S,q<b∨¬qy H q 269)(hb:b'≤b):Tk b' H' l:=by
 obtain⟨kd,a,e,t,rs,h1,h2,h3,h4⟩:=h
 exact⟨kd,a,e,t,rs,h1,h2,h3,(h4.stay hx hS).le (Nat.le_refl _) hb⟩
def KC(b:Nat)(H:aa)(a:Option Addr)(n:Nat)(cs:List Value):Prop:=fE (b≤·) 128 H a n 5 cs∧1≤n∧n≤20001∧(∀i,i<n→Tk b H (El cs 5 i))∧cs[(n -1)*5]?=some (vi 0)
theorem KC.st{S:List Nat}{b b':Nat}{H H':aa}{a:Option Addr}{n:Nat}{cs:List Value}(h:KC b H a n cs)(hx:kS S H H')(hS:∀q∈S,q<b∨¬qy H q 269∧¬qy H q 128)(hb:b'≤b):KC b' H' a n cs:=
 ⟨(h.1.stay hx fun q hq=>(hS q hq).imp Nat.not_le_of_lt (·.2)).le hb,h.2.1,h.2.2.1,fun i hi=>(h.2.2.2.1 i hi).st hx (fun q hq=>(hS q hq).imp_right (·.1)) hb,h.2.2.2.2⟩
abbrev Zi(b:Nat)(v:Value)(H':aa):Prop:=∃(ts:Value)(cd e:Int),v=.tuple ⟨[ts,.agg ⟨[vi cd,vi e]⟩]⟩∧(ts=.slice none 0 0∨∃a n c,ts=.slice (some a) n c)∧(cd=0→∃a n c cs,ts=.slice a n c∧KC b H' a n cs)
theorem yS{cs xs:List Value}{es n:Nat}(hl:cs.length=n*es)(hx:xs.length=es):(∀i,i<n→El (cs++xs) es i=El cs es i)∧El (cs++xs) es n=xs:=by
 constructor
 ·intro i hi
  have h1:(i +1)*es≤n*es:=Nat.mul_le_mul_right es hi
  rw[Nat.add_mul]at h1
  apply List.ext_getElem?
  intro j
  rw[jb,jb]
  split
  ·rw[List.getElem?_append_left (by omega)]
  ·rfl
 ·unfold El
  rw[←hl,List.drop_left,List.take_of_length_le (by omega)]
theorem IV(hw:Wf H)(hT:tX H)(s:ByteArray):ak Pg X 70 [.string s] H (Q1 (Zi H.next) H):=by
 have hS:=SH.refl hw
 refine ce [0,2,3,4,5,6,7] ?_;refine tl ?_
 refine hS.cZ fun Hn rs hS=>?_
 simp only[PP,Nat.reduceBEq]
 refine ae (fun hc=>?_) (fun hc=>?_)
 ·refine PU.b2 rfl ?_;simp only[PP,Nat.reduceBEq,aj hS.wf];refine hS.jd fun Hn hS=>?_
  refine rr ?_
  refine hS.bZ ?_
  exact⟨⟨_,3,0,rfl,.inl rfl,fun h=>by cases h⟩,hS.ext⟩
 have hs:s.size≤20000:=by omega
 refine ak.mono (qj s 0 (by omega) (by omega)) ?_
 rintro v H' ⟨⟨k,rfl,hk0,hk1⟩,rfl⟩
 refine VG 2 4 5 6 7 (I:=fun m x2 x4 x5 x6 x7 H'=>∃(k n:Nat)(cs:List Value)(gb:List aK),x2=.slice none 0 0∧x5=vn k∧k +m=s.size∧GB 128 5 x4 cs gb∧cs.length=n*5∧n≤k∧(∀i,i<n→Tk H.next H' (El cs 5 i))∧SH [] H H' ((rs,72,[vi 0,vi 0])::(gb++[]))) ?_ (s.size -k) ⟨k,0,[],[],rfl,rfl,by omega,GB.nil _ _,rfl,by omega,(fun i h=>absurd h (by omega)),hS⟩
 clear hS
 rintro m x2 x4 x5 x6 x7 rg H' ⟨k,n,cs,gb,rfl,rfl,hk,hg,hcl,hnk,htk,hS⟩
 refine tl ?_
 simp only[PP,Nat.reduceBEq]
 have hge:=hS.ext.next
 refine ae (fun hc=>?_) (fun hc=>?_)
 rotate_left
 ·refine tl ?_
  simp only[PP,Nat.reduceBEq]
  refine PU.b5 rfl ?_
  have htn:=hS.Ow (ty:=269) (by simp[hg.all])
  have hS0:=hS
  have hS:=hS0.base
  refine hS.bS rfl rfl rfl (by omega) fun H1 rx hS=>?_
  have hS:SH _ H' H1 ((rx,128,[vi 0,vn s.size,vn s.size,.string (ByteArray.mk #[]),.slice none 0 0])::(gb++[(rs,72,[vi 0,vi 0])])):=hS.perm (List.Perm.cons _ (Ec _ _))
  refine hg.add hS (by omega) rfl rfl (by omega) fun v' H3 dD hg' hS' hx=>?_
  have hE:=yS (es:=5) (n:=n) hcl (xs:=[vi 0,vn s.size,vn s.size,.string (ByteArray.mk #[]),.slice none 0 0]) rfl
  have hS:=hS'.perm (List.perm_append_comm (l₂:=[_]))
  simp only[List.cons_append,List.nil_append]at hS
  simp only[PP,Nat.reduceBEq,aj hS.wf];refine PU.b2 rfl ?_;refine hS.jd fun Hn hS=>?_
  have hS2:=(hS0.over hS).perm (List.Perm.symm (List.perm_append_comm (l₂:=[_])))
  obtain⟨a,n',c,rfl,hn',hf⟩:=hg'.Pz hS2
  have hn1:n'=n +1:=by rw[List.length_append,hcl]at hn';simp at hn';omega
  subst hn1
  refine rr ?_
  refine hS.bZ ?_
  refine⟨⟨_,0,0,rfl,?_,fun _=>⟨a,n +1,c,_,rfl,hf,by omega,by omega,?_,?_⟩⟩,hS2.ext⟩
  ·cases a with
   |none=>
    obtain⟨_,_,h,_⟩:=hf.1.2 0 _ (List.getElem?_eq_getElem (by rw[hf.1.1];omega))
    cases h
   |some a=>exact .inr ⟨a,_,_,rfl⟩
  ·intro i hi
   rcases Nat.lt_or_ge i n with h|h
   ·rw[hE.1 i h]
    exact(htk i h).st hS.ext (fun q hq=>.inr (htn q hq)) (Nat.le_refl _)
   ·have:i=n:=by omega
    subst this
    rw[hE.2]
    exact⟨0,s.size,s.size,_,_,rfl,hs,Nat.zero_le _,a_.nil _ _ _⟩
  ·rw[Nat.add_sub_cancel,←hcl,List.getElem?_append_right (Nat.le_refl _),Nat.sub_self];rfl
 refine ak.mono (Tm hS.wf (hT.ex hS.ext) s k (by omega) hs) ?_
 rintro v H3 ⟨⟨tok,cd,e,rfl,⟨kd,a,e',t,rsv,rfl,xa,xn,xc,rfl⟩,hto⟩,hx⟩
 have htn:=hS.Ow (ty:=269) (by simp[hg.all])
 have hlt:=hS.lt
 have hS0:=hS.call hx
 have hS:=hS0.base
 simp only[PP,Nat.reduceBEq,aj hS.wf]
 refine hS.cZ fun Hn r8 hS=>?_
 refine hS.cZ fun Hn r10 hS=>?_
 repeat(first|(simp only[PP,Nat.reduceBEq,aj hS.wf])|(refine hS.aZ ?_)|(refine hS.jd fun Hn hS=>?_))
 refine aP (fun hz=>?_) (fun hz=>?_)
 ·refine hS.og ?_;simp only[PP,Nat.reduceBEq,aj hS.wf];refine hS.qh fun Hn hS=>?_
  simp only[aA,aB]
  apply oh (a:=r10) (b:=rs) (hS.nq 0 2 rfl rfl (by omega)) (by intros;rfl) (by kernel_rfl) (by kernel_rfl)
  refine rr ?_
  refine hS.bZ ?_
  exact⟨⟨_,cd,e,rfl,.inl rfl,fun h=>absurd h hz⟩,(hS0.over hS).ext⟩
 obtain⟨kd',a',e2,t',rs',he,h3,h4,h5,h6,h7⟩:=hto hz
 simp only[Value.agg.injEq,Array.mk.injEq,List.cons.injEq,and_true]at he
 obtain⟨e_1,e_2,e_3,e_4,e_5⟩:=he
 have:e'=e2:=by injection e_3 with _ h;omega
 subst this
 have:a=a':=by injection e_2 with _ h;omega
 subst this
 have:t=t':=by injection e_4
 subst this
 subst e_5
 refine hS.bZ ?_
 refine hS.bS rfl rfl rfl (by omega) fun H4 rx hS=>?_
 have hS:=hS.to (cs':=[vi kd,vn a,vn e',.string t,.slice xa xn xc]) rfl
 have hS:=hS.perm (L':=(rx,128,[vi kd,vn a,vn e',.string t,.slice xa xn xc])::(gb++[_,_,_])) (List.Perm.cons _ (aaJ _ _ _ _))
 refine hg.add hS (by omega) rfl rfl (by omega) fun v' H5 dD hg' hS' hx'=>?_
 have hE:=yS (es:=5) (n:=n) hcl (xs:=[vi kd,vn a,vn e',.string t,.slice xa xn xc]) rfl
 have hS:=hS'.perm (List.perm_append_comm (l₂:=[_,_,_]))
 simp only[List.cons_append,List.nil_append]at hS
 refine hS.aZ ?_
 refine ak.mono (qj s e' (by omega) (by omega)) ?_
 rintro v H' ⟨⟨k2,rfl,hk2,hk3⟩,rfl⟩
 have hS2:=(hS0.over hS)
 refine⟨s.size -k2,by omega,_,_,_,_,_,_,_,rfl,k2,n +1,_,dD,rfl,rfl,by omega,hg',by rw[List.length_append,hcl];simp;omega,by omega,?_,?_⟩
 ·intro i hi
  rcases Nat.lt_or_ge i n with h|h
  ·rw[hE.1 i h]
   exact((htk i h).st hx (fun q h=>nomatch h) (Nat.le_refl _)).st hS.ext (fun q hq=>.inr fun ht=>htn q hq (ht.fO (hx.obj q (hlt q hq) (by simp)).symm)) (Nat.le_refl _)
  ·have:i=n:=by omega
   subst this
   rw[hE.2]
   exact⟨kd,a,e',t,_,rfl,by omega,h6,(h7.stay hS.ext fun q hq=>.inl (hlt q hq)).le (Nat.le_refl _) hge⟩
 ·exact SH.drop (A:=[_,_]) (by simpa using hS2)
end Go.Proofs.Lu
set_option maxRecDepth 100000
set_option maxHeartbeats 4000000
namespace Go.Proofs.Lu
open Go.Ae Go.Ae.M
variable{H0 H:aa}{L M:List aK}{S:List Nat}{F:Nat→Prop}
abbrev pr(r:Nat):Value:=.pointer (some ⟨r,0,none⟩)
structure RC where
 (rt ra rp rr:Nat)(a:Option Addr)(n c:Nat)(cs:List Value)(nu:Nat)
abbrev gB(rt ra:Nat):Value:=.func (.func 71) ⟨[]⟩ ⟨[pr rt,pr ra]⟩
abbrev mR(rp ra rt:Nat):Value:=.func (.func 72) ⟨[]⟩ ⟨[pr rp,pr ra,pr rt]⟩
def RuC(l:List Value):Prop:=∃(nm:ByteArray)(u f w:Bool)(ch root at':Int),l=[.string nm,.bool u,.bool f,.bool w,vi ch,vi root,vi at']∧nm.size≤1000000
def UD(F:Nat→Prop)(H:aa)(l:List Value):Prop:=∃(kd:Int)(a:Option Addr)(n c:Nat)(ks:List Value)(t:ByteArray)(rs:Value)(at':Int),l=[vi kd,.slice a n c,.string t,rs,vi at']∧fE F 3 H a n 1 ks∧n≤20001∧(∀x∈ks,∃z:Int,x=vi z)∧t.size≤1000000∧a_ 0 20001 H rs
theorem UD.st{S:List Nat}{F:Nat→Prop}{H H':aa}{l:List Value}(h:UD F H l)(hx:kS S H H')(hS:∀q∈S,(¬F q∨¬qy H q 3)∧¬qy H q 269):UD F H' l:=by
 obtain⟨kd,a,n,c,ks,t,rs,at',h1,h2,h3,h4,h5,h6⟩:=h
 exact⟨kd,a,n,c,ks,t,rs,at',h1,h2.stay hx (fun q hq=>(hS q hq).1),h3,h4,h5,h6.stay hx fun q hq=>.inr (hS q hq).2⟩
def Rd(F:Nat→Prop)(q:RC)(k:Nat)(H:aa)(M:List aK):Prop:=∃rv rcs gr nv bW gn sc sa nr nn,
 M=(q.rt,122,[.slice q.a q.n q.c])::(q.ra,3,[vn k])::(q.rp,129,[gB q.rt q.ra])::(q.rr,133,[gB q.rt q.ra,mR q.rp q.ra q.rt,rv,nv,vi sc,vi sa])::(gr++gn)∧
 k<q.n∧KC 0 H q.a q.n q.cs∧GB 141 7 rv rcs gr∧rcs.length=nr*7∧nr=q.nu∧(∀i,i<nr→RuC (El rcs 7 i))∧GB 145 5 nv bW gn∧bW.length=nn*5∧nn≤4000∧(∀i,i<nn→UD F H (El bW 5 i))∧¬F q.ra
theorem Rd.le{q:RC}{k:Nat}(h:Rd F q k H M):k<q.n∧q.n≤20001:=by
 obtain⟨rv,rcs,gr,nv,bW,gn,sc,sa,nr,nn,_,h1,h2,_⟩:=h
 exact⟨h1,h2.2.2.1⟩
theorem UD.wk{F':Nat→Prop}{l:List Value}(h:UD F H l)(hF:∀r,r<H.next→F r→F' r):UD F' H l:=by
 obtain⟨kd,a,n,c,ks,t,rs,at',h1,h2,h3⟩:=h
 exact⟨kd,a,n,c,ks,t,rs,at',h1,⟨h2.1,fun r o e hn=>by obtain⟨g1,g2,g3⟩:=h2.2 r o e hn;exact⟨hF r g2 g1,g2,g3⟩⟩,h3⟩
theorem Rd.wk{F':Nat→Prop}{q:RC}{k:Nat}(h:Rd F q k H M)(hF:∀r,r<H.next→F r→F' r)(ha:¬F' q.ra):Rd F' q k H M:=by
 obtain⟨rv,rcs,gr,nv,bW,gn,sc,sa,nr,nn,h0,h1,h2,h3,h4,h5,h6,h7,h8,h9,h10,rU⟩:=h
 exact⟨rv,rcs,gr,nv,bW,gn,sc,sa,nr,nn,h0,h1,h2,h3,h4,h5,h6,h7,h8,h9,fun i hi=>(h10 i hi).wk hF,ha⟩
theorem Rd.ex{q:RC}{k:Nat}{H':aa}(h:Rd F q k H M)(hx:Ext H H'):Rd F q k H' M:=by
 obtain⟨rv,rcs,gr,nv,bW,gn,sc,sa,nr,nn,h0,h1,h2,h3,h4,h5,h6,h7,h8,h9,h10,rU⟩:=h
 exact⟨rv,rcs,gr,nv,bW,gn,sc,sa,nr,nn,h0,h1,h2.st hx (fun _ h=>nomatch h) (Nat.le_refl _),h3,h4,h5,h6,h7,h8,h9,fun i hi=>(h10 i hi).st hx (fun _ h=>nomatch h),rU⟩
theorem Rd.ty{q:RC}{k:Nat}(h:Rd F q k H M)(hS:SH S H0 H (M++L)):∀r∈M.map (·.1),(r=q.ra∨¬qy H r 3)∧¬qy H r 269∧¬qy H r 128:=by
 obtain⟨rv,rcs,gr,nv,bW,gn,sc,sa,nr,nn,rfl,h1,h2,h3,h4,h5,h6,h7,h8,h9,h10,rU⟩:=h
 intro r hr
 obtain⟨e,he,rfl⟩:=List.mem_map.1 hr
 have hb:=(hS.bk e (List.mem_append_left _ he)).Py
 have key:e.1=q.ra∨(e.2.1≠3∧e.2.1≠269∧e.2.1≠128)∨e.2.1=3∧e.1=q.ra:=by
  simp only[List.mem_cons,List.mem_append]at he
  rcases he with rfl|rfl|rfl|rfl|he|he
  ·exact .inr (.inl ⟨(show(122:Nat)≠3 by decide),(show(122:Nat)≠269 by decide),(show(122:Nat)≠128 by decide)⟩)
  ·exact .inl rfl
  ·exact .inr (.inl ⟨(show(129:Nat)≠3 by decide),(show(129:Nat)≠269 by decide),(show(129:Nat)≠128 by decide)⟩)
  ·exact .inr (.inl ⟨(show(133:Nat)≠3 by decide),(show(133:Nat)≠269 by decide),(show(133:Nat)≠128 by decide)⟩)
  ·refine .inr (.inl ?_)
   rcases h3 with⟨_,_,rfl⟩|⟨_,_,_,_,_,rfl⟩
   ·cases he
   ·rw[List.mem_singleton]at he;subst he;exact⟨(show(141:Nat)≠3 by decide),(show(141:Nat)≠269 by decide),(show(141:Nat)≠128 by decide)⟩
  ·refine .inr (.inl ?_)
   rcases h7 with⟨_,_,rfl⟩|⟨_,_,_,_,_,rfl⟩
   ·cases he
   ·rw[List.mem_singleton]at he;subst he;exact⟨(show(145:Nat)≠3 by decide),(show(145:Nat)≠269 by decide),(show(145:Nat)≠128 by decide)⟩
 have ra3:e.1=q.ra→e.2.1=3:=by
  intro e1
  have hra:qy H q.ra 3:=(hS.bk (q.ra,3,[vn k]) (List.mem_append_left _ (by simp))).Py
  rw[e1]at hb
  exact hb.one hra
 have far:e.1=q.ra→¬qy H e.1 269∧¬qy H e.1 128:=fun h=>by
  rw[ra3 h]at hb
  exact⟨fun ht=>(by have:=hb.one ht;cases this),fun ht=>(by have:=hb.one ht;cases this)⟩
 rcases key with h|⟨h,h',h''⟩|⟨_,h⟩
 ·exact⟨.inl h,far h⟩
 ·exact⟨.inr fun ht=>h (hb.one ht),fun ht=>h' (hb.one ht),fun ht=>h'' (hb.one ht)⟩
 ·exact⟨.inl h,far h⟩
theorem Rd.on{q:RC}{k:Nat}{H':aa}(h:Rd F q k H M)(hS:SH S H0 H (M++L))(hx:kS (M.map (·.1)) H H'):Rd F q k H' M:=by
 have hty:=h.ty hS
 obtain⟨rv,rcs,gr,nv,bW,gn,sc,sa,nr,nn,h0,h1,h2,h3,h4,h5,h6,h7,h8,h9,h10,rU⟩:=h
 exact⟨rv,rcs,gr,nv,bW,gn,sc,sa,nr,nn,h0,h1,h2.st hx (fun r hr=>.inr (hty r hr).2) (Nat.le_refl _),h3,h4,h5,h6,h7,h8,h9,fun i hi=>(h10 i hi).st hx fun r hr=>⟨(hty r hr).1.imp_left (fun e=>by rw[e];exact rU),(hty r hr).2.1⟩,rU⟩
theorem KC.get{b:Nat}{a:Option Addr}{n:Nat}{cs:List Value}(h:KC b H a n cs){i:Nat}(hi:i<n):∃(kd:Int)(at' e:Nat)(t:ByteArray)(xa:Option Addr)(xn xc:Nat),El cs 5 i=[vi kd,vn at',vn e,.string t,.slice xa xn xc]∧at'≤20000∧t.size≤1000000∧a_ b 20000 H (.slice xa xn xc)∧(i=n -1→kd=0):=by
 obtain⟨kd,at',e,t,rs,h1,h2,h3,h4⟩:=h.2.2.2.1 i hi
 obtain⟨xa,xn,xc,xcs,rfl,h5⟩:=id h4
 refine⟨kd,at',e,t,xa,xn,xc,h1,h2,h3,h4,fun e'=>?_⟩
 subst e'
 have h6:=h.2.2.2.2
 have h7:=jb cs 5 (n -1) 0
 rw[if_pos (by omega),h1,Nat.add_zero,h6]at h7
 simpa using Option.some.inj h7
theorem Tn{q:RC}{k:Nat}(hR:Rd F q k H M)(hS:SH S H0 H (M++L))(j:Nat)(hj:j≤1000):ak Pg X 71 [vn j,pr q.rt,pr q.ra] H (Q1 (fun v _=>v=.agg ⟨El q.cs 5 (min (k +j) (q.n -1))⟩) H):=by
 have hkn:=hR.le
 obtain⟨rv,rcs,gr,nv,bW,gn,sc,sa,nr,nn,rfl,h1,h2,_⟩:=hR
 have bt:=hS.get 0 rfl
 have ba:=hS.get 1 rfl
 have lt:=(hS.lo _ (List.mem_of_getElem? (i:=0) rfl)).2
 have la:=(hS.lo _ (List.mem_of_getElem? (i:=1) rfl)).2
 have hS:=SH.refl hS.wf
 refine ce [0,1,2,4] ?_;refine tl ?_
 refine hS.cZ fun Hn rb hS=>?_
 refine hS.Dg (bt.cell (o:=0) rfl) lt ?_
 refine hS.Dg (ba.cell (o:=0) rfl) la ?_
 refine PU.of (au (by omega) (by omega)) ?_
 refine hS.Dg (bt.cell (o:=0) rfl) lt ?_
 simp only[PP,Nat.reduceBEq]
 refine PU.of (ax (by omega) (by omega)) ?_
 simp only[PP,Nat.reduceBEq]
 rw[show min ((k:Int) +(j:Int)) ((q.n:Int) -1)=((min (k +j) (q.n -1):Nat):Int) by omega]
 obtain⟨r,o,e,hr,hrd,hel,o0,_⟩:=h2.1.1.read (by omega) (show min (k +j) (q.n -1)<q.n by omega) q.c
 rw[e]
 simp only[PP,Nat.reduceBEq]
 obtain⟨kd,at',e',t,xa,xn,xc,he,_⟩:=h2.get (i:=min (k +j) (q.n -1)) (by omega)
 rw[he]at hrd
 rw[he]
 refine hS.p_ hrd hr ?_
 refine hS.jd fun Hn hS=>?_
 refine rr ?_
 refine hS.bZ ?_
 exact⟨rfl,hS.ext⟩
theorem Rd.FU{q:RC}{k:Nat}(hR:Rd F q k H M)(hS:SH S H0 H (M++L))(j:Nat)(hj:j≤1000){K:Value→Value→aa→Prop}
 (h:∀H',Rd F q k H' M→SH S H0 H' (M++L)→Ext H H'→K (gB q.rt q.ra) (.agg ⟨El q.cs 5 (min (k +j) (q.n -1))⟩) H'):ME (jX none (.pointer (some ⟨q.rr,0,none⟩)) H) fun v H1=>fq Pg X (CW v) [vn j] H1 (K v):=by
 have hR0:=hR
 obtain⟨rv,rcs,gr,nv,bW,gn,sc,sa,nr,nn,rfl,_⟩:=hR
 refine hS.ld 3 rfl rfl ?_
 show ak Pg X 71 [vn j,pr q.rt,pr q.ra] H (K _)
 refine ak.mono (Tn hR0 hS j hj) ?_
 rintro v H' ⟨rfl,hx⟩
 exact h H' (hR0.ex hx) (hS.call hx) hx
theorem abK{q:RC}{k:Nat}(hR:Rd F q k H M)(hS:SH S H0 H (M++L)):ak Pg X 72 [pr q.rp,pr q.ra,pr q.rt] H fun v H'=>v=.agg ⟨El q.cs 5 k⟩∧∃M',Rd F q (min (k +1) (q.n -1)) H' M'∧SH (M.map (·.1)) H H' M':=by
 have hkn:=hR.le
 have hR0:=hR
 have hS0:=hS
 have hS:=hS.own
 obtain⟨rv,rcs,gr,nv,bW,gn,sc,sa,nr,nn,rfl,h1,h2,h3,h4,h5,h6,h7,h8,h9,h10,rU⟩:=hR
 obtain⟨kd,at',e',t,xa,xn,xc,he,_⟩:=h2.get (i:=k) h1
 refine ce [0,1,2,3,4] ?_;refine tl ?_
 refine hS.cZ fun H1 rb hS=>?_
 refine hS.aZ ?_
 show ak Pg X 71 [vn 0,pr q.rt,pr q.ra] H1 _
 have hS':=hS.perm (List.perm_append_comm (l₁:=[_]))
 refine ak.mono (Tn (hR0.on hS0 hS.ext) hS' 0 (by omega)) ?_
 rintro v H2 ⟨rfl,hx⟩
 rw[show min (k +0) (q.n -1)=k by omega,he]
 have hS:=hS.call hx
 refine hS.cZ fun H1 r8 hS=>?_
 refine hS.jd fun Hn hS=>?_;refine hS.aZ ?_
 rw[au (by omega) (by omega)]
 repeat(first|(simp only[PP,Nat.reduceBEq,aj hS.wf])|(refine hS.aZ ?_))
 rw[ax (by omega) (by omega)]
 repeat(first|(simp only[PP,Nat.reduceBEq,aj hS.wf])|(refine hS.bZ ?_)|(refine hS.jd fun Hn hS=>?_))
 rw[show min ((k:Int) +1) ((q.n:Int) -1)=((min (k +1) (q.n -1):Nat):Int) by omega]at hS
 refine rr ?_
 simp only[PP,Nat.reduceBEq,aj hS.wf];refine hS.bZ ?_
 refine⟨rfl,(q.rt,122,[.slice q.a q.n q.c])::(q.ra,3,[vn (min (k +1) (q.n -1))])::(q.rp,129,[gB q.rt q.ra])::(q.rr,133,[gB q.rt q.ra,mR q.rp q.ra q.rt,rv,nv,vi sc,vi sa])::(gr++gn),?_,SH.drop (A:=[_,_]) hS⟩
 have pq:=hR0.on hS0 hS.ext
 obtain⟨rv',abL,Z9,nv',abM,Zj,sc',sa',nr',nn',e0,g1,g2,_⟩:=pq
 refine⟨rv,rcs,gr,nv,bW,gn,sc,sa,nr,nn,rfl,by omega,g2,h3,h4,h5,h6,h7,h8,h9,fun i hi=>(h10 i hi).st hS.ext fun r hr=>?_,rU⟩
 have:=hR0.ty hS0 r hr
 exact⟨this.1.imp_left (fun e=>by rw[e];exact rU),this.2.1⟩
theorem Rd.next{q:RC}{k:Nat}(hR:Rd F q k H M)(hS:SH S H0 H (M++L)){K:Value→Value→aa→Prop}
 (h:∀H' M',Rd F q (min (k +1) (q.n -1)) H' M'→SH S H0 H' (M'++L)→SH (M.map (·.1)) H H' M'→K (mR q.rp q.ra q.rt) (.agg ⟨El q.cs 5 k⟩) H'):ME (jX none (.pointer (some ⟨q.rr,1,none⟩)) H) fun v H1=>fq Pg X (CW v) [] H1 (K v):=by
 have hR0:=hR
 obtain⟨rv,rcs,gr,nv,bW,gn,sc,sa,nr,nn,rfl,_⟩:=hR
 refine hS.ld 3 rfl rfl ?_
 show ak Pg X 72 [pr q.rp,pr q.ra,pr q.rt] H (K _)
 refine ak.mono (abK hR0 hS) ?_
 rintro v H' ⟨rfl,M',hR',hS'⟩
 exact h H' M' hR' (hS.frame hS') hS'
theorem qp{q:RC}{k:Nat}(hR:Rd F q k H M)(hS:SH S H0 H (M++L))(cd at':Int):ak Pg X 110 [pr q.rr,vi cd,vi at'] H fun v H'=>v=.bool false∧∃M',Rd F q k H' M'∧SH (M.map (·.1)) H H' M':=by
 have hR0:=hR
 have hS0:=hS
 have hS:=hS.own
 obtain⟨rv,rcs,gr,nv,bW,gn,sc,sa,nr,nn,rfl,h1,h2,h3,h4,h5,h6,h7,h8,h9,h10,rU⟩:=hR
 refine ce [0,1,2,6] ?_;refine tl ?_
 repeat(first|(simp only[PP,Nat.reduceBEq,aj hS.wf])|(refine PU.b2 rfl ?_)|(refine hS.jd fun Hn hS=>?_))
 refine rr ?_;refine⟨rfl,(q.rt,122,[.slice q.a q.n q.c])::(q.ra,3,[vn k])::(q.rp,129,[gB q.rt q.ra])::(q.rr,133,[gB q.rt q.ra,mR q.rp q.ra q.rt,rv,nv,vi cd,vi at'])::(gr++gn),?_,hS⟩
 have pq:=hR0.on hS0 hS.ext
 obtain⟨rv',abL,Z9,nv',abM,Zj,sc',sa',nr',nn',e0,g1,g2,_⟩:=pq
 refine⟨rv,rcs,gr,nv,bW,gn,cd,at',nr,nn,rfl,h1,g2,h3,h4,h5,h6,h7,h8,h9,fun i hi=>(h10 i hi).st hS.ext fun r hr=>?_,rU⟩
 have:=hR0.ty hS0 r hr
 exact⟨this.1.imp_left (fun e=>by rw[e];exact rU),this.2.1⟩
theorem Cs{q:RC}{k:Nat}(hR:Rd F q k H M)(hS:SH S H0 H (M++L)):ak Pg X 109 [pr q.rr] H fun v H'=>v=.bool false∧∃M',Rd F q k H' M'∧SH (M.map (·.1)) H H' M':=by
 have hkn:=hR.le
 have hS0:=hS
 have hS:=hS.own
 refine ce [0,2,3] ?_;refine tl ?_
 simp only[PP,Nat.reduceBEq]
 have hS1:SH (M.map (·.1)) H H (M++[]):=by rw[List.append_nil];exact hS
 refine hR.FU hS1 0 (by omega) fun H1 pq hS1 hx1=>?_
 obtain⟨kd,at',e',t,xa,xn,xc,he,_⟩:∃(kd:Int)(at' e:Nat)(t:ByteArray)(xa:Option Addr)(xn xc:Nat),El q.cs 5 (min (k +0) (q.n -1))=[vi kd,vn at',vn e,.string t,.slice xa xn xc]∧True:=by
  obtain⟨_,_,_,_,_,_,_,_,_,_,_,_,h2,_⟩:=hR
  obtain⟨kd,at',e',t,xa,xn,xc,he,_⟩:=h2.get (i:=min (k +0) (q.n -1)) (by omega)
  exact⟨kd,at',e',t,xa,xn,xc,he,trivial⟩
 rw[he]
 have hS:=hS1.perm List.perm_append_comm
 simp only[List.nil_append]at hS
 refine hS.cZ fun H2 rb hS=>?_
 repeat(first|(simp only[PP,Nat.reduceBEq,aj hS.wf])|(refine hS.aZ ?_)|(refine hS.jd fun Hn hS=>?_))
 have hx2:=hS.ext
 have hS2:=hS.perm (List.perm_append_comm (l₁:=[_]))
 have hR2:=hR.on hS0 hx2
 refine ae (fun hc=>?_) (fun hc=>?_)
 ·refine hS.aZ ?_
  refine ak.mono (qp hR2 hS2 _ _) ?_
  rintro v H3 ⟨rfl,M',uM,k_⟩
  refine rr ?_;refine⟨rfl,M',uM,?_⟩
  exact SH.drop (A:=[_]) ((hS2.frame k_).perm List.perm_append_comm)
 ·refine hS.aZ ?_
  refine ak.mono (qp hR2 hS2 _ _) ?_
  rintro v H3 ⟨rfl,M',uM,k_⟩
  refine rr ?_;refine⟨rfl,M',uM,?_⟩
  exact SH.drop (A:=[_]) ((hS2.frame k_).perm List.perm_append_comm)
end Go.Proofs.Lu
set_option maxRecDepth 100000
set_option maxHeartbeats 4000000
namespace Go.Proofs.Lu
open Go.Ae Go.Ae.M
variable{H0 H:aa}{L M:List aK}{S:List Nat}{F:Nat→Prop}
theorem Rd.tok{q:RC}{k i:Nat}(hR:Rd F q k H M)(hi:i<q.n):∃(kd:Int)(at' e:Nat)(t:ByteArray)(xa:Option Addr)(xn xc:Nat),El q.cs 5 i=[vi kd,vn at',vn e,.string t,.slice xa xn xc]∧at'≤20000∧t.size≤1000000∧a_ 0 20000 H (.slice xa xn xc)∧(i=q.n -1→kd=0):=by
 obtain⟨_,_,_,_,_,_,_,_,_,_,_,_,h2,_⟩:=hR
 exact h2.get hi
theorem wC(x:Value)(l:List Value):YR none 0 (.agg ⟨x::l⟩)=some x:=rfl
theorem KE(x y:Value)(l:List Value):YR none 1 (.agg ⟨x::y::l⟩)=some y:=rfl
theorem yT{q:RC}{k:Nat}(hR:Rd F q k H M)(hS:SH S H0 H (M++L))(kd:Int)(hkd:kd≠0):ak Pg X 111 [pr q.rr,vi kd] H fun v H'=>∃(b:Bool)(k':Nat)(M':List aK),v=.bool b∧Rd F q k' H' M'∧SH (M.map (·.1)) H H' M'∧k≤k'∧(b=true→k'=k +1):=by
 have hkn:=hR.le
 have hS0:=hS
 have hS:=hS.own
 refine ce [0,1,4] ?_;refine tl ?_
 simp only[PP,Nat.reduceBEq]
 have hS1:SH (M.map (·.1)) H H (M++[]):=by rw[List.append_nil];exact hS
 refine hR.FU hS1 0 (by omega) fun H1 pq hS1 hx1=>?_
 rw[show min (k +0) (q.n -1)=k by omega]
 obtain⟨kd',at',e',t,xa,xn,xc,he,_,_,_,hz⟩:=pq.tok hkn.1
 rw[he,wC]
 simp only[PP,Nat.reduceBEq]
 refine aP (fun hc=>?_) (fun hc=>?_)
 ·refine ak.mono (Cs pq hS1) ?_
  rintro v H3 ⟨rfl,M',uM,k_⟩
  refine rr ?_;refine⟨false,k,M',rfl,uM,?_,Nat.le_refl _,fun h=>by cases h⟩
  have:=hS1.frame k_
  rwa [List.append_nil]at this
 ·refine pq.next hS1 fun H2 M' hR2 hS2 hx2=>?_
  refine rr ?_;refine⟨true,_,M',rfl,hR2,?_,by omega,fun _=>?_⟩
  ·rwa [List.append_nil]at hS2
  ·have:k≠q.n -1:=fun h=>hkd (by rw[←hc];exact hz h)
   omega
theorem wD(hw:Wf H)(kd:Int)(a e:Value)(t x:Value)(h:kr (.agg ⟨[vi kd,a,e,t,x]⟩)=true):ak Pg X 108 [.agg ⟨[vi kd,a,e,t,x]⟩] H (Q1 (fun v _=>v=.bool (decide (kd=1)||decide (kd=2))) H):=by
 have hS:=SH.refl hw
 refine ce [0,1,2] ?_;refine tl ?_
 refine hS.box h fun H1 r hS=>?_
 repeat(first|(simp only[PP,Nat.reduceBEq,aj hS.wf])|(refine hS.aZ ?_))
 refine ae (fun hc=>?_) (fun hc=>?_)
 ·refine rr ?_;refine⟨?_,hS.ext⟩
  rw[decide_eq_true hc];rfl
 ·refine hS.aZ ?_;simp only[PP,Nat.reduceBEq,aj hS.wf]
  refine rr ?_;refine⟨?_,hS.ext⟩
  rw[decide_eq_false hc];rfl
theorem IW(hw:Wf H)(kd:Int)(a e:Value)(t x:Value)(h:kr (.agg ⟨[vi kd,a,e,t,x]⟩)=true):ak Pg X 181 [.agg ⟨[vi kd,a,e,t,x]⟩] H (Q1 (fun v _=>∃b:Bool,v=.bool b∧(b=true→kd≠0)) H):=by
 have hS:=SH.refl hw
 refine ce [0,1,2,4] ?_;refine tl ?_
 refine hS.box h fun H1 r hS=>?_
 repeat(first|(simp only[PP,Nat.reduceBEq,aj hS.wf])|(refine hS.aZ ?_))
 refine ae (fun hc=>?_) (fun hc=>?_)
 ·rw[decide_eq_true hc]
  simp only[PP,Nat.reduceBEq,aj hS.wf]
  refine rr ?_;exact⟨⟨true,rfl,fun _=>by omega⟩,hS.ext⟩
 refine ae (fun hc=>?_) (fun hc=>?_)
 ·rw[decide_eq_true hc]
  simp only[PP,Nat.reduceBEq,aj hS.wf]
  refine rr ?_;exact⟨⟨true,rfl,fun _=>by omega⟩,hS.ext⟩
 refine ae (fun hc=>?_) (fun hc=>?_)
 ·rw[decide_eq_true hc]
  simp only[PP,Nat.reduceBEq,aj hS.wf]
  refine rr ?_;exact⟨⟨true,rfl,fun _=>by omega⟩,hS.ext⟩
 refine ae (fun hc=>?_) (fun hc=>?_)
 ·rw[decide_eq_true hc]
  simp only[PP,Nat.reduceBEq,aj hS.wf]
  refine rr ?_;exact⟨⟨true,rfl,fun _=>by omega⟩,hS.ext⟩
 refine ae (fun hc=>?_) (fun hc=>?_)
 ·rw[decide_eq_true hc]
  simp only[PP,Nat.reduceBEq,aj hS.wf]
  refine rr ?_;exact⟨⟨true,rfl,fun _=>by omega⟩,hS.ext⟩
 refine ae (fun hc=>?_) (fun hc=>?_)
 ·rw[decide_eq_true hc]
  simp only[PP,Nat.reduceBEq,aj hS.wf]
  refine rr ?_;exact⟨⟨true,rfl,fun _=>by omega⟩,hS.ext⟩
 refine ae (fun hc=>?_) (fun hc=>?_)
 ·refine rr ?_;exact⟨⟨true,rfl,fun _=>by omega⟩,hS.ext⟩
 ·refine rr ?_;exact⟨⟨false,rfl,fun h=>by cases h⟩,hS.ext⟩
def XW(F:Nat→Prop)(H:aa)(v:Value):Prop:=∃l,v=.agg ⟨l⟩∧UD F H l
theorem uh{q:RC}{k:Nat}(hR:Rd F q k H M)(hS:SH S H0 H (M++L)){v:Value}(hv:XW F H v)(at':Int):ak Pg X 148 [pr q.rr,v,vi at'] H fun w H'=>∃(i:Nat)(b:Bool)(M':List aK),w=.tuple ⟨[vn i,.bool b]⟩∧i<4000∧Rd F q k H' M'∧SH (M.map (·.1)) H H' M':=by
 have hR0:=hR
 have hS0:=hS
 have hS:=hS.own
 have hty:=hR.ty hS0
 obtain⟨rv,rcs,gr,nv,bW,gn,sc,sa,nr,nn,rfl,h1,h2,h3,h4,h5,h6,h7,h8,h9,h10,rU⟩:=hR
 obtain⟨l,rfl,hno⟩:=hv
 obtain⟨kd,ka,kn,kc,ks,t,rs,na,rfl,hk1,hk2,hk3,hk4,hk5⟩:=id hno
 obtain⟨xa,xn,xc,xcs,rfl,XX⟩:=id hk5
 obtain⟨na',nc,cc,rfl,hnl,hnf⟩:∃a n c,nv=.slice a n c∧bW.length=n*5∧True:=by
  rcases h7 with⟨rfl,rfl,_⟩|⟨r,n,aQ,rfl,hn,_⟩
  ·exact⟨_,_,_,rfl,by simp,trivial⟩
  ·exact⟨_,_,_,rfl,hn,trivial⟩
 have hnn:nc=nn:=by omega
 subst hnn
 refine ce [0,1,2,4,6,7] ?_;refine tl ?_
 refine hS.box rfl fun H1 rb hS=>?_
 repeat(first|(simp only[PP,Nat.reduceBEq,aj hS.wf])|(refine hS.aZ ?_))
 refine ae (fun hc=>?_) (fun hc=>?_)
 ·have hS2:=hS.perm (List.perm_append_comm (l₁:=[_]))
  refine ak.mono (qp (hR0.on hS0 hS.ext) hS2 _ _) ?_
  rintro v H3 ⟨rfl,M',uM,k_⟩
  refine rr ?_;refine⟨0,false,M',rfl,by omega,uM,?_⟩
  exact SH.drop (A:=[_]) ((hS2.frame k_).perm List.perm_append_comm)
 ·have hlt:nc<4000:=by omega
  repeat(first|(simp only[PP,Nat.reduceBEq,aj hS.wf])|(refine hS.jf ?_)|(refine hS.og ?_))
  refine hS.Vw rfl rfl rfl (by omega) fun H2 rx hS jC=>?_
  have hS:=hS.to (cs':=[vi kd,.slice ka kn kc,.string t,.slice xa xn xc,vi na]) rfl
  have hS:=hS.perm (L':=(rx,145,[vi kd,.slice ka kn kc,.string t,.slice xa xn xc,vi na])::(gn++((rb,145,[vi kd,.slice ka kn kc,.string t,.slice xa xn xc,vi na])::(q.rt,122,[.slice q.a q.n q.c])::(q.ra,3,[vn k])::(q.rp,129,[gB q.rt q.ra])::(q.rr,133,[gB q.rt q.ra,mR q.rp q.ra q.rt,rv,.slice na' nc cc,vi sc,vi sa])::gr))) (List.Perm.cons _ (List.perm_append_comm (l₁:=_::_::_::_::_::gr)))
  refine h7.Ie hS (by omega) rfl rfl (by omega) fun v' H3 Zj hg' hS hx' Jl nE=>?_
  have hS:=hS.perm (List.perm_append_comm (l₂:=_::_::_::_::_::gr))
  simp only[List.cons_append]at hS
  obtain⟨va,VS,vc,rfl,hvl,_⟩:∃a n c,v'=.slice a n c∧(bW++[vi kd,.slice ka kn kc,.string t,.slice xa xn xc,vi na]).length=n*5∧True:=by
   rcases hg' with⟨_,h,_⟩|⟨r,n,aQ,rfl,hn,_⟩
   ·exact absurd h (by simp)
   ·exact⟨_,_,_,rfl,hn,trivial⟩
  have hvn:VS=nc +1:=by rw[List.length_append,hnl]at hvl;simp at hvl;omega
  subst hvn
  refine hS.qh fun Hn hS=>?_
  have hne:q.rr≠rb:=(hS.nq 0 4 rfl rfl (by omega)).symm
  have hgo:∀K:Prop,K→bO (opsOf (sub xM [1,1,0])) [clS (.pointer (some ⟨q.rr,2 +1,none⟩)) (.slice va (nc +1) vc) (hM (hM H1 H2) H3) Hn,cl 0,cl 0,cl 0,Df (hM H1 H2) H3,Oo H1 H2,W9 5 (.pointer (some ⟨rb,0,none⟩)) H1 (hN H1),W9 1 (.pointer (some ⟨q.rr,2 +1,none⟩)) H1 (hN H1),cl 0,cl 0,cl 0,cl 0,cl 0]=true∧K:=by
   intro K hK
   simp only[jC,aA,aB]
   generalize q.rr=rr at hne
   rcases nE with e|e<;>rw[e]<;>apply oh (a:=rr) (b:=rb) hne (by intros;rfl) (by kernel_rfl) (by kernel_rfl) hK
  refine hgo _ ?_
  refine hS.aZ ?_;simp only[PP,Nat.reduceBEq,aj hS.wf]
  rw[ax (by omega) (by omega)]
  simp only[PP,Nat.reduceBEq,aj hS.wf]
  have hx:=hS.ext
  refine rr ?_;refine⟨nc,true,(q.rt,122,[.slice q.a q.n q.c])::(q.ra,3,[vn k])::(q.rp,129,[gB q.rt q.ra])::(q.rr,133,[gB q.rt q.ra,mR q.rp q.ra q.rt,rv,.slice va (nc +1) vc,vi sc,vi sa])::(gr++Zj),?_,hlt,?_,SH.drop (A:=[_]) hS⟩
  ·rw[show((nc +1:Nat):Int) -1=((nc:Nat):Int) by omega]
  ·have pq:=hR0.on hS0 hx
   obtain⟨rv',abL,Z9,nv',abM,ado,sc',sa',nr',nn',e0,g1,g2,_⟩:=pq
   have hE:=yS (es:=5) (n:=nc) hnl (xs:=[vi kd,.slice ka kn kc,.string t,.slice xa xn xc,vi na]) rfl
   refine⟨rv,rcs,gr,_,_,Zj,sc,sa,nr,nc +1,rfl,h1,g2,h3,h4,h5,h6,hg',hvl,by omega,fun i hi=>?_,rU⟩
   have hst:∀r∈((q.rt,122,[.slice q.a q.n q.c])::(q.ra,3,[vn k])::(q.rp,129,[gB q.rt q.ra])::(q.rr,133,[gB q.rt q.ra,mR q.rp q.ra q.rt,rv,.slice na' nc cc,vi sc,vi sa])::(gr++gn)).map (fun e:aK=>e.1),(¬F r∨¬qy H r 3)∧¬qy H r 269:=fun r hr=>⟨(hty r hr).1.imp_left (fun e=>by rw[e];exact rU),(hty r hr).2.1⟩
   rcases Nat.lt_or_ge i nc with h|h
   ·rw[hE.1 i h]
    exact(h10 i h).st hx hst
   ·obtain rfl:i=nc:=by omega
    rw[hE.2]
    exact hno.st hx hst
end Go.Proofs.Lu
set_option maxRecDepth 100000
set_option maxHeartbeats 4000000
namespace Go.Proofs.Lu
open Go.Ae Go.Ae.M
variable{H0 H:aa}{L M:List aK}{S:List Nat}
theorem Tp(hw:Wf H){m:Nat}(hm:m≤900000){v:Value}(hv:pg m H v):ak Pg X 212 [v] H (Q1 (fun v H'=>a_ H.next (m +1) H' v) H):=by
 refine ce [0,2,3,4,6,8,9,10] ?_;refine tl ?_
 refine ak.mono (wB hw (by omega) hv) ?_
 rintro v H2 ⟨hv2,hx⟩
 obtain⟨a,n,c,cs,rfl,hf,hn,hi⟩:=hv2
 have hw2:=hx.wf hw
 have hS:=SH.refl hw2
 have hnx:H.next≤H2.next:=hx.next
 simp only[PP,Nat.reduceBEq]
 refine Iv 3 4 6 10 (I:=fun m x3 x4 x6 aW H'=>∃(k:Nat)(ds:List Value)(gb:List aK)(z:Int),x4=.int .i32 z∧aW=vn k∧k +m=n∧GB 269 2 x3 ds gb∧ds.length≤2*k∧Dr ds∧SH [] H2 H' (gb++[])) ?_ n ⟨0,[],[],0,rfl,rfl,by omega,GB.nil _ _,by simp,(fun x h=>nomatch h),hS⟩
 clear hS
 rintro m' x3 x4 x6 aW rg H' ⟨k,ds,gb,z,rfl,rfl,hk,hg,hdl,hds,hS⟩
 refine aR.kK fun K hK=>?_
 refine tl ?_
 simp only[PP,Nat.reduceBEq]
 refine ae (fun hc=>?_) (fun hc=>?_)
 ·obtain⟨r,o,e,hr,hrd,hel,_⟩:=hf.1.read (by omega) (show k<n by omega) c
  rw[e]
  simp only[PP,Nat.reduceBEq]
  obtain⟨z1,z2,ez⟩:=IU hi (k:=k) (by rw[hf.1.1];omega)
  rw[ez]at hrd
  refine hS.p_ hrd hr ?_
  refine hS.cZ fun H1 r1 hS=>?_
  repeat(first|(simp only[PP,Nat.reduceBEq,aj hS.wf])|(refine hS.aZ ?_)|(refine hS.jd fun Hn hS=>?_))
  have nx:∀x3 ds gb rg H4,GB 269 2 x3 ds gb→ds.length≤2*(k +1)→Dr ds→SH [] H2 H4 ((r1,269,[.int .i32 z1,.int .i32 z2])::(gb++[]))→
   aR Pg X (sub rC [1,1,1,0,1,0,0,1,1,0,0,1,1]) (yP v (.slice none 0 0) x3 (.int .i32 z) (.pointer (some ⟨r1,0,none⟩)) (.slice a n c) (vn n) (vn k) rg H4) (gY 1 (kH Pg X (sub rC [1,1,1,0,1,0,0,1,1,1]) K)):=by
   intro x3 ds gb rg H4 hg hdl hds hS
   subst hK
   refine tl ?_
   repeat(first|(simp only[PP,Nat.reduceBEq,aj hS.wf])|(refine hS.aZ ?_))
   refine tl ?_
   refine PU.of (au (by omega) (by omega)) ?_
   simp only[PP,Nat.reduceBEq]
   exact⟨m' -1,by omega,_,_,_,_,_,_,rfl,k +1,ds,gb,_,rfl,rfl,by omega,hg,by omega,hds,SH.drop (A:=[_]) hS⟩
  refine ae (fun hd=>?_) (fun hd=>?_)
  ·repeat(first|(simp only[PP,Nat.reduceBEq,aj hS.wf])|(refine PU.b2 rfl ?_)|(refine hS.aZ ?_))
   refine hS.bS rfl rfl rfl (by omega) fun H3 rx hS=>?_
   have hS:=hS.perm (L':=(rx,269,ay (.agg ⟨[.int .i32 z,.int .i32 (fQ .i32 (z1 -1))]⟩))::(gb++[(r1,269,[.int .i32 z1,.int .i32 z2])])) (List.Perm.cons _ (Ec _ _))
   refine hg.add hS (by omega) rfl rfl (by omega) fun v' H4 dD hg' hS hx'=>?_
   exact nx _ _ _ _ _ hg' (by rw[List.length_append];show ds.length +2≤_;omega) (hds.app _ _) (hS.perm (Ec _ _).symm)
  ·exact nx _ _ _ _ _ hg (by omega) hds hS
 ·have fin:∀v' ds gb H4,GB 269 2 v' ds gb→ds.length≤2*(n +1)→Dr ds→SH [] H2 H4 (gb++[])→∀K:Value→aa→Prop,(∀w H5,a_ H.next (m +1) H5 w→Ext H H5→K w H5)→ak Pg X 197 [v'] H4 K:=by
   intro v' ds gb H4 hg hdl hds hS K hk
   obtain⟨a',n',c',rfl,hn',hf'⟩:=hg.fl hS
   refine ak.mono (wB (KM:=m +1) hS.wf (by omega) ⟨a',n',c',ds,rfl,hf',by omega,hds⟩) ?_
   rintro w H5 ⟨hw5,hx5⟩
   have:=hS.ext.next
   exact hk w H5 (hw5.le (Nat.le_refl _) (by omega)) ((hx.trans hS.ext).trans hx5)
  obtain rfl:k=n:=by omega
  subst hK
  simp only[PP,Nat.reduceBEq]
  refine tl ?_
  simp only[PP,Nat.reduceBEq]
  refine ae (fun hd=>?_) (fun hd=>?_)
  ·refine PU.b2 rfl ?_;simp only[PP,Nat.reduceBEq,aj hS.wf]
   refine hS.bS rfl rfl rfl (by omega) fun H3 rx hS=>?_
   obtain⟨v',H4,dD,e,hg',hS,_⟩:=hg.app (m:=0) (cx:=1) hS (by omega) rfl rfl (by omega) (by omega)
   refine ME.of e ?_
   refine fin _ _ _ _ hg' (by rw[List.length_append];show ds.length +2≤_;omega) (hds.app _ _) hS _ fun w H5 h1 h2=>?_
   refine rr ?_;exact⟨h1,h2⟩
  ·refine fin _ _ _ _ hg (by omega) hds hS _ fun w H5 h1 h2=>?_
   refine rr ?_;exact⟨h1,h2⟩
end Go.Proofs.Lu
set_option maxRecDepth 100000
set_option maxHeartbeats 4000000
namespace Go.Proofs.Lu
open Go.Ae Go.Ae.M
variable{H0 H:aa}{L M:List aK}{S:List Nat}{F:Nat→Prop}
def IX(F:Nat→Prop)(q:RC)(M:List aK)(H:aa)(k:Nat)(strict:Bool)(w:Value)(H':aa):Prop:=∃(i:Int)(b:Bool)(k':Nat)(M':List aK),w=.tuple ⟨[vi i,.bool b]⟩∧Rd F q k' H' M'∧SH (M.map (·.1)) H H' M'∧k≤k'∧(b=true→strict=true→k<k')
def VT(q:RC)(k:Nat):Prop:=∀(F:Nat→Prop) H M d,(∀r,H.next≤r→F r)→Rd F q k H M→SH (M.map (·.1)) H H M→d≤40→ak Pg X 112 [pr q.rr,vn d] H (IX F q M H k false)
def VU(q:RC)(k:Nat):Prop:=∀(F:Nat→Prop) H M d,(∀r,H.next≤r→F r)→Rd F q k H M→SH (M.map (·.1)) H H M→d≤40→ak Pg X 147 [pr q.rr,vn d] H (IX F q M H k false)
def VV(q:RC)(k:Nat):Prop:=∃(kd:Int)(l:List Value),El q.cs 5 k=vi kd::l∧kd≠0
def VW(q:RC)(k:Nat):Prop:=∀(F:Nat→Prop) H M d,(∀r,H.next≤r→F r)→Rd F q k H M→SH (M.map (·.1)) H H M→d≤40→VV q k→ak Pg X 182 [pr q.rr,vn d] H (IX F q M H k true)
def abN(q:RC)(k:Nat):Prop:=∀(F:Nat→Prop) H M d,(∀r,H.next≤r→F r)→Rd F q k H M→SH (M.map (·.1)) H H M→d≤40→VV q k→ak Pg X 198 [pr q.rr,vn d] H (IX F q M H k true)
theorem VV.lt{q:RC}{k:Nat}(h:VV q k)(hR:Rd F q k H M):k +1<q.n:=by
 obtain⟨kd,l,h1,h2⟩:=h
 have hk:=hR.le
 obtain⟨kd',at',e,t,xa,xn,xc,h3,_,_,_,hz⟩:=hR.tok hk.1
 rw[h1]at h3
 have:kd=kd':=by
  have:=(List.cons.inj h3).1
  injection this
 have:k≠q.n -1:=fun e=>h2 (by rw[this];exact hz e)
 omega
theorem xS{kd:Int}{t:ByteArray}{rs:Value}{at':Int}(ht:t.size≤1000000)(hr:a_ 0 20001 H rs):XW F H (.agg ⟨[vi kd,.slice none 0 0,.string t,rs,vi at']⟩):=
 ⟨_,rfl,kd,none,0,0,[],t,rs,at',rfl,fE.nil _ _ _ _ _,by omega,(fun x h=>nomatch h),ht,hr⟩
theorem Rd.n{q:RC}{k:Nat}(h:Rd F q k H M):Rd F q k (hN H) M:=h
theorem SH.nn{S:List Nat}{M:List aK}(h:SH S H H M):SH S (hN H) (hN H) M:=h.o8
theorem Zk{q:RC}{M Mb Lx:List aK}{H Hb Hc:aa}{k kb:Nat}(hRb:Rd F q kb Hb Mb)(hSb:SH (M.map (·.1)) H Hb Mb)(hk:k<kb)(hS:SH (Mb.map (·.1)) Hb Hc (Lx++Mb)){v:Value}(hv:XW F Hc v)(z:Int):
 ak Pg X 148 [pr q.rr,v,vi z] Hc fun w H'=>∃(i:Int)(b:Bool),w=.tuple ⟨[vi i,.bool b]⟩∧IX F q M H k true w H':=by
 have hS2:=hS.perm (List.perm_append_comm (l₁:=Lx))
 have Zl:SH (M.map (·.1)) H Hb (Mb++[]):=by rw[List.append_nil];exact hSb
 refine ak.mono (uh (hRb.on Zl hS.ext) hS2 hv z) ?_
 rintro w H4 ⟨i,b,M3,rfl,_,uM,k_⟩
 refine⟨i,b,rfl,i,b,kb,M3,rfl,uM,?_,by omega,fun _ _=>hk⟩
 exact hSb.over (by simpa using SH.drop (A:=Lx) ((hS2.frame k_).perm List.perm_append_comm))
theorem XY{q:RC}{M Mb Lx:List aK}{H Hb Hc:aa}{k kb:Nat}(hRb:Rd F q kb Hb Mb)(hSb:SH (M.map (·.1)) H Hb Mb)(hk:k<kb)(hS:SH (Mb.map (·.1)) Hb Hc (Lx++Mb)){v:Value}(hv:XW F Hc v)(z:Int):
 ak Pg X 148 [pr q.rr,v,vi z] (hN Hc) fun w H'=>∃(i:Int)(b:Bool),w=.tuple ⟨[vi i,.bool b]⟩∧IX F q M H k true w (hM Hc H'):=by
 have hS2:=hS.perm (List.perm_append_comm (l₁:=Lx))
 have Zl:SH (M.map (·.1)) H Hb (Mb++[]):=by rw[List.append_nil];exact hSb
 refine ak.mono (uh (hRb.on Zl hS.ext).n hS2.o8 (v:=v) hv z) ?_
 rintro w H4 ⟨i,b,M3,rfl,_,uM,k_⟩
 refine⟨i,b,rfl,i,b,kb,M3,rfl,uM,?_,by omega,fun _ _=>hk⟩
 exact hSb.over (by simpa using SH.drop (A:=Lx) ((hS2.RP k_).perm List.perm_append_comm))
theorem XW.n{v:Value}(h:XW F H v):XW F (hN H) v:=h
theorem VX{q:RC}{k:Nat}(ih:∀k',k<k'→VT q k'):abN q k:=by
 intro F H M d hF hR hS hd hkd
 have hlt:=hkd.lt hR
 have hkn:=hR.le
 obtain⟨kd,at',e',t,xa,xn,xc,he,ha2,ht,hrs,hz⟩:=hR.tok hkn.1
 have adp:kd≠0:=by
  obtain⟨kd',l,h1,h2⟩:=hkd
  rw[he]at h1
  have:=(List.cons.inj h1).1
  injection this with _ h3
  omega
 have hty:=hR.ty (L:=[]) (by rw[List.append_nil];exact hS)
 have acP:SH (M.map (·.1)) H H (M++[]):=by rw[List.append_nil];exact hS
 refine ce [0,1,4,5,6,7,8,9,16] ?_;refine tl ?_
 simp only[PP,Nat.reduceBEq]
 refine hR.next acP fun H1 M1 pq hS1 hx1=>?_
 rw[show min (k +1) (q.n -1)=k +1 by omega]at pq
 rw[he]
 have acQ:a_ 0 20000 H1 (.slice xa xn xc):=hrs.stay hx1.ext fun r hr=>.inr (hty r hr).2.1
 have adq:=hx1
 have acR:=pq.ty (L:=[]) hS1
 have hS:=hS1.own
 refine hS.cZ fun H2 rb hS=>?_
 refine hS.jd fun H3 hS=>?_
 have hS:SH (M1.map (·.1)) H1 H3 ((rb,128,[vi kd,vn at',vn e',.string t,.slice xa xn xc])::M1):=hS
 have drs:∀H3,kS (M1.map (·.1)) H1 H3→a_ 0 20000 H3 (.slice xa xn xc):=fun H3 hx=>acQ.stay hx fun r hr=>.inr (acR r hr).2.1
 repeat(first|(simp only[PP,Nat.reduceBEq,aj hS.wf])|(refine hS.aZ ?_))
 have kQ:∀(b:Bool) rg,zZ rg 17=.bool b→aR Pg X (sub oq [1,1,0,1,0,1]) (uR (pr q.rr) (vn d) (.int .i64 0) (.bool false) (.pointer (some ⟨rb,0,none⟩)) top top top (vi kd) rg H3) (gY 0 (kH Pg X (sub oq [1,1,1]) (cB Pg [.tmp 4,.tmp 5] (IX F q M H k true)))):=by
  intro b rg hb
  refine tl ?_
  rw[hb]
  simp only[PP,Nat.reduceBEq]
  refine aC (fun hb=>?_) (fun hb=>?_)
  ·repeat(first|(simp only[PP,Nat.reduceBEq,aj hS.wf])|(refine PU.b5 rfl ?_)|(refine hS.aZ ?_))
   refine ak.mono (Zk (Lx:=[_]) pq hx1 (Nat.lt_succ_self k) hS (xS ht (a_.nil _ _ _)) _) ?_
   rintro w H4 ⟨i,b,rfl,hw⟩
   simp only[PP,Nat.reduceBEq]
   refine rr ?_;exact hw
  refine ae (fun hc=>?_) (fun hc=>?_)
  ·repeat(first|(simp only[PP,Nat.reduceBEq,aj hS.wf])|(refine PU.b5 rfl ?_)|(refine hS.aZ ?_))
   refine ak.mono (Zk (Lx:=[_]) pq hx1 (Nat.lt_succ_self k) hS (xS ht (a_.nil _ _ _)) _) ?_
   rintro w H4 ⟨i,b,rfl,hw⟩
   simp only[PP,Nat.reduceBEq]
   refine rr ?_;exact hw
  refine ae (fun hc=>?_) (fun hc=>?_)
  ·repeat(first|(simp only[PP,Nat.reduceBEq,aj hS.wf])|(refine PU.b5 rfl ?_)|(refine hS.aZ ?_))
   refine ak.mono (Zk (Lx:=[_]) pq hx1 (Nat.lt_succ_self k) hS (xS (t:=⟨#[]⟩) (Nat.zero_le _) ((drs _ hS.ext).le (by omega) (Nat.le_refl _))) _) ?_
   rintro w H4 ⟨i,b,rfl,hw⟩
   simp only[PP,Nat.reduceBEq]
   refine rr ?_;exact hw
  refine ae (fun hc=>?_) (fun hc=>?_)
  ·refine ak.mono (Tj (mP _)) ?_
   rintro v H4 ⟨hv,hx4⟩
   obtain⟨ya,yn,yc,ycs,rfl,hv2⟩:=id hv
   have hS:=hS.j4 hx4
   repeat(first|(simp only[PP,Nat.reduceBEq,aj hS.wf])|(refine PU.b5 rfl ?_)|(refine hS.jf ?_))
   refine ak.mono (XY (Lx:=[_]) pq hx1 (Nat.lt_succ_self k) hS (xS (t:=⟨#[]⟩) (Nat.zero_le _) (hv.le (by omega) (Nat.zero_le _))) _) ?_
   rintro w H5 ⟨i,b,rfl,hw⟩
   simp only[PP,Nat.reduceBEq,aj hS.wf]
   simp only[az hx4,aA]
   rcases tC (hM H3 H4) H5 with e|e<;>rw[e]<;>apply RO (a:=rb) (by intros;rfl) (by kernel_rfl) (by kernel_rfl)<;>(refine rr ?_;exact hw)
  refine ae (fun hc=>?_) (fun hc=>?_)
  ·have kg:=hS.perm (List.perm_append_comm (l₁:=[_]))
   refine(pq.on hS1 hS.ext).FU kg 0 (by omega) fun H4 yg kg hx4=>?_
   rw[show min (k +1 +0) (q.n -1)=k +1 by omega]
   obtain⟨XZ,at2,e2,t2,ya,yn,yc,he2,_,_,_,_⟩:=yg.tok (i:=k +1) (by omega)
   rw[he2]
   have hS:=kg
   refine hS.cZ fun H5 rc hS=>?_
   refine hS.jd fun H6 hS=>?_
   have hS:SH (M1.map (·.1)) H1 H6 ((rc,128,[vi XZ,vn at2,vn e2,.string t2,.slice ya yn yc])::(M1++[(rb,128,[vi kd,vn at',vn e',.string t,.slice xa xn xc])])):=hS
   have nN:SH (M1.map (·.1)) H1 H6 (M1++[(rb,128,[vi kd,vn at',vn e',.string t,.slice xa xn xc]),(rc,128,[vi XZ,vn at2,vn e2,.string t2,.slice ya yn yc])]):=by
    have:=hS.perm (List.perm_append_comm (l₁:=[_]))
    have e:=List.append_assoc M1 [((rb,128,[vi kd,vn at',vn e',.string t,.slice xa xn xc]):aK)] [((rc,128,[vi XZ,vn at2,vn e2,.string t2,.slice ya yn yc]):aK)]
    exact this.cast e
   refine ak.mono (yT (pq.on hS1 hS.ext) nN 4 (by decide)) ?_
   rintro v H7 ⟨b,k2,M2,rfl,M0,Eo,hk2,hb2⟩
   have OO:=nN.frame Eo
   have hSo:=OO.own
   have hSb:SH (M.map (·.1)) H H7 M2:=hx1.over (SH.drop (A:=[_,_]) (OO.perm List.perm_append_comm))
   cases b with
   |false=>
    simp only[PP,Nat.reduceBEq]
    refine(show∀{A B:Prop},A→vk (some !false) A B from fun h=>h) ?_
    refine rr ?_;exact⟨0,false,k2,M2,rfl,M0,hSb,by omega,fun h=>by cases h⟩
   |true=>
    have hk3:k2=k +1 +1:=hb2 rfl
    simp only[PP,Nat.reduceBEq]
    refine(show∀{A B:Prop},B→vk (some !true) A B from fun h=>h) ?_
    have bc:=OO.bk (rc,128,[vi XZ,vn at2,vn e2,.string t2,.slice ya yn yc]) (by simp)
    have bb:=OO.bk (rb,128,[vi kd,vn at',vn e',.string t,.slice xa xn xc]) (by simp)
    have lc:=(OO.lo (rc,128,[vi XZ,vn at2,vn e2,.string t2,.slice ya yn yc]) (by simp)).2
    have lb:=(OO.lo (rb,128,[vi kd,vn at',vn e',.string t,.slice xa xn xc]) (by simp)).2
    have hbc:rb≠rc:=by
     have:=hS.apart (A:=[_]) (x:=(rc,128,[vi XZ,vn at2,vn e2,.string t2,.slice ya yn yc])) (y:=(rb,128,[vi kd,vn at',vn e',.string t,.slice xa xn xc])) (List.mem_cons_self ..) (by simp)
     exact this.symm
    obtain⟨_,_,_,_,_,_,_,he3,_,_,abO,_⟩:=M0.tok (i:=k +1) (by omega)
    rw[he2]at he3
    have he4:=(List.cons.inj (List.cons.inj (List.cons.inj (List.cons.inj (List.cons.inj he3).2).2).2).2).1
    rw[←he4]at abO
    have hS:=SH.refl hSo.wf
    refine hS.Dh (bc.cell (o:=4) rfl) lc ?_
    simp only[PP,Nat.reduceBEq,aj hS.wf]
    refine ak.mono (Tp (mP _) (m:=20000) (by omega) abO.i) ?_
    rintro v H8 ⟨hv,Jo⟩
    obtain⟨za,zn,zc,zcs,rfl,hv2⟩:=id hv
    have hS:=hS.j4 Jo
    refine hS.Dh (bb.cell (o:=1) rfl) lb ?_
    repeat(first|(simp only[PP,Nat.reduceBEq,aj hS.wf])|(refine PU.b5 rfl ?_))
    refine hS.Dh (bc.cell (o:=1) rfl) lc ?_
    simp only[PP,Nat.reduceBEq,aj hS.wf]
    refine ak.mono (XY (Lx:=[]) M0 hSb (show k<k2 by omega) (hSo.j4 Jo) (xS (t:=⟨#[]⟩) (Nat.zero_le _) (hv.le (by omega) (Nat.zero_le _))) _) ?_
    rintro w H9 ⟨i,b,rfl,hw⟩
    simp only[PP,Nat.reduceBEq,aj hS.wf]
    simp only[az Jo,aA]
    rcases tC (hM H7 H8) H9 with e|e<;>rw[e]<;>apply oh (a:=rb) (b:=rc) hbc (by intros;rfl) (by kernel_rfl) (by kernel_rfl)<;>(refine rr ?_;exact hw)
  ·refine tl ?_
   have kg:=hS.perm (List.perm_append_comm (l₁:=[_]))
   simp only[PP,Nat.reduceBEq,aj hS.wf]
   refine ae (fun hd2=>?_) (fun hd2=>?_)
   ·refine hS.aZ ?_
    refine ak.mono (qp (pq.on hS1 hS.ext) kg _ _) ?_
    rintro w H5 ⟨rfl,M2,Dt,hS5⟩
    refine rr ?_;exact⟨0,false,k +1,M2,rfl,Dt,hx1.over (SH.drop (A:=[_]) ((kg.frame hS5).perm List.perm_append_comm)),by omega,fun h=>by cases h⟩
   ·rw[au (by omega) (by omega)]
    simp only[PP,Nat.reduceBEq]
    refine ak.mono (ih (k +1) (by omega) F H3 M1 (d +1) (fun r hr=>hF r (by have:=hx1.ext.next;have:=hS.ext.next;omega)) (pq.on hS1 hS.ext) kg.own (by omega)) ?_
    rintro w H5 ⟨i,b,k2,M2,rfl,Dt,hS5,hk2,_⟩
    have Zm:=kg.frame hS5
    simp only[PP,Nat.reduceBEq]
    cases b with
    |false=>
     refine(show∀{A B:Prop},B→vk (some false) A B from fun h=>h) ?_
     refine rr ?_;exact⟨i,false,k2,M2,rfl,Dt,hx1.over (SH.drop (A:=[_]) (Zm.perm List.perm_append_comm)),by omega,fun h=>by cases h⟩
    |true=>
     refine(show∀{A B:Prop},A→vk (some true) A B from fun h=>h) ?_
     refine ak.mono (yT Dt Zm 9 (by decide)) ?_
     rintro w H6 ⟨b,k3,M3,rfl,uj,nN,hk3,_⟩
     refine rr ?_;exact⟨i,b,k3,M3,rfl,uj,hx1.over (SH.drop (A:=[_]) ((Zm.frame nN).perm List.perm_append_comm)),by omega,fun _ _=>by omega⟩
 refine ae (fun hc=>?_) (fun hc=>?_)
 ·exact kQ _ _ (by simp only[lQ];rfl)
 ·exact kQ _ _ (by simp only[lQ];rfl)
end Go.Proofs.Lu
set_option maxRecDepth 100000
set_option maxHeartbeats 4000000
namespace Go.Proofs.Lu
open Go.Ae Go.Ae.M
variable{H0 H:aa}{L M:List aK}{S:List Nat}{F:Nat→Prop}
theorem Rd.mem{q:RC}{k:Nat}(h:Rd F q k H M):(q.ra,3,[vn k])∈M:=by
 obtain⟨rv,rcs,gr,nv,bW,gn,sc,sa,nr,nn,rfl,_⟩:=h
 simp
theorem FV{kd:Int}{a:Option Addr}{n c:Nat}{ks:List Value}{at':Int}(hf:fE F 3 H a n 1 ks)(hn:n≤20001)(hk:∀x∈ks,∃z:Int,x=vi z):XW F H (.agg ⟨[vi kd,.slice a n c,.string ⟨#[]⟩,.slice none 0 0,vi at']⟩):=
 ⟨_,rfl,kd,a,n,c,ks,⟨#[]⟩,_,at',rfl,hf,hn,hk,Nat.zero_le _,a_.nil _ _ _⟩
theorem KF{q:RC}{k:Nat}(ha:abN q k):VW q k:=by
 intro F H M d hF hR hS hd hkd
 have hlt:=hkd.lt hR
 refine ce [0,1,4,5,6,7,8,22] ?_;refine tl ?_
 refine ak.mono (ha F H M d hF hR hS hd hkd) ?_
 rintro w H1 ⟨i,b,k1,M1,rfl,pq,hS1,hk1,hb1⟩
 simp only[PP,Nat.reduceBEq]
 cases b with
 |false=>
  refine(show∀{A B:Prop},A→vk (some !false) A B from fun h=>h) ?_
  refine rr ?_;exact⟨0,false,k1,M1,rfl,pq,hS1,hk1,fun h=>by cases h⟩
 |true=>
  have hk2:=hb1 rfl rfl
  refine(show∀{A B:Prop},B→vk (some !true) A B from fun h=>h) ?_
  have acS:SH (M.map (·.1)) H H1 (M1++[]):=by rw[List.append_nil];exact hS1
  refine pq.FU acS 0 (by omega) fun H2 hR2 hS2 hx2=>?_
  have hkn:=hR2.le
  rw[show min (k1 +0) (q.n -1)=k1 by omega]
  obtain⟨kd,at',e',t,xa,xn,xc,he,_⟩:=hR2.tok hkn.1
  rw[he,wC]
  have fin:∀(z:Int) rg,aR Pg X (sub rR [1,1,1,1,1]) (qU (pr q.rr) (vn d) (.int .i64 0) (.bool false) (vi i) (.bool true) (vi z) (vi kd) rg H2) (cB Pg [.tmp 4,.tmp 5] (IX F q M H k true)):=by
   intro z rg
   have VY:SH (M.map (·.1)) H H2 M1:=by rw[←List.append_nil M1];exact hS2
   have hS:=hS2.own
   refine tl ?_
   refine hS.bS rfl rfl rfl (by omega) fun H3 rk hS=>?_
   have hS:SH (M1.map (·.1)) H2 H3 ((rk,3,[vi i])::M1):=hS
   have hge:H.next≤rk:=by
    rcases(hS.lo (rk,3,[vi i]) (List.mem_cons_self ..)).1 with h|h
    ·exfalso
     obtain⟨e,he,e1⟩:=List.mem_map.1 h
     exact hS.apart (A:=[_]) (List.mem_cons_self ..) he e1.symm
    ·have:=VY.ext.next
     omega
   simp only[PP,Nat.reduceBEq]
   refine PU.b5 rfl ?_
   simp only[PP,Nat.reduceBEq]
   have k_:=hS.perm (List.perm_append_comm (l₁:=[_]))
   have uM:=hR2.on hS2 hS.ext
   refine uM.next k_ fun H4 M4 yg kg hx4=>?_
   rw[he,KE]
   simp only[PP,Nat.reduceBEq]
   have hrk:F rk:=hF rk hge
   have hfl:fE F 3 H4 (some ⟨rk,0,none⟩) 1 1 [vi i]:=fE.one kg (List.mem_append_right _ (List.mem_singleton.2 rfl)) rfl hrk
   refine ak.mono (uh yg kg (FV hfl (by omega) (fun x hx=>⟨i,by simpa using hx⟩)) _) ?_
   rintro w H5 ⟨j,b,M5,rfl,_,Dt,hS5⟩
   simp only[PP,Nat.reduceBEq]
   refine rr ?_;refine⟨j,b,_,M5,rfl,Dt,?_,by omega,fun _ _=>by omega⟩
   exact VY.over (SH.drop (A:=[_]) ((kg.frame hS5).perm List.perm_append_comm))
  simp only[PP,Nat.reduceBEq]
  refine ae (fun hc=>?_) (fun hc=>?_)
  ·exact fin _ _
  refine ae (fun hc=>?_) (fun hc=>?_)
  ·exact fin _ _
  refine ae (fun hc=>?_) (fun hc=>?_)
  ·exact fin _ _
  refine rr ?_;refine⟨i,true,k1,M1,rfl,hR2,?_,hk1,fun _ _=>hk2⟩
  rwa [List.append_nil]at hS2
theorem Rd.stay{S':List Nat}{q:RC}{k:Nat}{H':aa}(h:Rd F q k H M)(hx:kS S' H H')(hk:∀r∈S',(¬F r∨¬qy H r 3)∧¬qy H r 269∧¬qy H r 128):Rd F q k H' M:=by
 obtain⟨rv,rcs,gr,nv,bW,gn,sc,sa,nr,nn,h0,h1,h2,h3,h4,h5,h6,h7,h8,h9,h10,rU⟩:=h
 exact⟨rv,rcs,gr,nv,bW,gn,sc,sa,nr,nn,h0,h1,h2.st hx (fun r hr=>.inr (hk r hr).2) (Nat.le_refl _),h3,h4,h5,h6,h7,h8,h9,fun i hi=>(h10 i hi).st hx fun r hr=>⟨(hk r hr).1,(hk r hr).2.1⟩,rU⟩
abbrev Fo(F:Nat→Prop)(gb:List aK):Nat→Prop:=fun r=>F r∧r∉gb.map (·.1)
theorem Tq{q:RC}{k:Nat}{x:Value}{ks:List Value}{gb:List aK}(rU:¬F q.ra)(hg:GB 3 1 x ks gb)(hS:SH S H0 H (M++gb))(hR:Rd (Fo F gb) q k H M)(hl:ks.length≤1000000)(z:Int){K:Value→Value→aa→Prop}
 (kk:∀w v' H6 dD,GB 3 1 v' (ks++[vi z]) dD→SH S H0 H6 (M++dD)→Rd (Fo F dD) q k H6 M→(∀e∈dD,e.1∈gb.map (·.1)∨H.next≤e.1)→K w v' H6):
 ME (bS 3 [.int .i64 0] 1 1 [(0,vi z)] H) fun w H5=>ME (xz 3 1 x w H5) (K w):=by
 have hP:=hS.perm (List.perm_append_comm (l₁:=M))
 have hO:SH (gb.map (·.1)) H H (gb++[]):=by rw[List.append_nil];exact hP.own
 have hne:∀ty:TypeId,((3:Nat)==ty)=false→∀r∈gb.map (·.1),¬qy H r ty:=fun ty ht=>hP.own.Ow (hg.all ht)
 refine hO.bS rfl rfl rfl (by omega) fun H5 rx hS5=>?_
 obtain⟨v',H6,dD,e1,hg',nN,_⟩:=hg.app (m:=0) (cx:=1) hS5 (by omega) rfl rfl (by omega) (by omega)
 refine ME.of e1 ?_
 rw[List.append_nil]at nN
 have pq:Rd (fun r=>Fo F gb r∧r<H.next) q k H M:=hR.wk (fun r hr h=>⟨h,hr⟩) (fun h=>rU h.1.1)
 have hR2:=pq.stay nN.ext fun r hr=>⟨.inl fun h=>h.1.2 hr,hne 269 rfl r hr,hne 128 rfl r hr⟩
 refine kk _ v' H6 dD hg' ((hP.frame nN).perm List.perm_append_comm) (hR2.wk (fun r _ h=>⟨h.1.1,fun hm=>?_⟩) fun h=>rU h.1) (fun e he=>(nN.lo e he).1)
 obtain⟨e,he,e1⟩:=List.mem_map.1 hm
 rcases(nN.lo e he).1 with h3|h3
 ·exact h.1.2 (by rw[←e1];exact h3)
 ·have:=h.2;omega
theorem row_of{q:RC}{k:Nat}(he:∀k',k≤k'→VW q k'):VU q k:=by
 intro F H M d hF hR hS hd
 have hkn:=hR.le
 have rU:¬F q.ra:=by
  obtain⟨_,_,_,_,_,_,_,_,_,_,_,_,_,_,_,_,_,_,_,_,_,h⟩:=hR
  exact h
 refine ce [0,1,4,5,6,7,8] ?_;refine tl ?_
 refine VG 4 5 6 7 8 (I:=fun m x4 x5 x6 x7 x8 H'=>∃(k':Nat)(M':List aK)(ks:List Value)(gb:List aK),x4=vi 0∧x5=.bool false∧k' +m=q.n∧k≤k'∧Rd (Fo F gb) q k' H' M'∧SH (M.map (·.1)) H H' (M'++gb)∧GB 3 1 x6 ks gb∧ks.length≤k' -k∧(∀x∈ks,∃z:Int,x=vi z)∧∀e∈gb,H.next≤e.1) ?_ (q.n -k) ⟨k,M,[],[],rfl,rfl,by omega,Nat.le_refl _,hR.wk (fun r _ h=>⟨h,by simp⟩) (fun h=>rU h.1),by rw[List.append_nil];exact hS,GB.nil _ _,Nat.zero_le _,(fun x h=>nomatch h),fun e h=>nomatch h⟩
 clear hR hS
 rintro m x4 x5 x6 x7 x8 rg H' ⟨k1,M1,ks,gb,rfl,rfl,hkm,hk1,pq,hS1,hg,hkl,hks,hgb⟩
 have abP:=pq.le
 refine tl ?_
 simp only[PP,Nat.reduceBEq]
 refine pq.FU hS1 0 (by omega) fun H2 hR2 hS2 hx2=>?_
 rw[show min (k1 +0) (q.n -1)=k1 by omega]
 obtain⟨kd,at',e',t,xa,xn,xc,hel,_⟩:=hR2.tok abP.1
 rw[hel]
 refine ak.mono (IW hS2.wf kd _ _ _ _ rfl) ?_
 rintro w H3 ⟨⟨b,rfl,hb⟩,hx3⟩
 have uM:=hR2.ex hx3
 have k_:=hS2.call hx3
 simp only[PP,Nat.reduceBEq]
 refine aC (fun hbt=>?_) (fun hbt=>?_)
 ·have hF3:∀r,H3.next≤r→Fo F gb r:=fun r hr=>⟨hF r (by have:=k_.ext.next;omega),fun hm=>by
   obtain⟨e,he,e1⟩:=List.mem_map.1 hm
   have:=(k_.lo e (List.mem_append_right _ he)).2
   omega⟩
  refine ak.mono (he k1 hk1 _ H3 M1 d hF3 uM k_.own hd ⟨kd,_,hel,hb hbt⟩) ?_
  rintro w H4 ⟨i,b,k2,M2,rfl,yg,kg,hk2,hb2⟩
  have KH:=k_.frame kg
  simp only[PP,Nat.reduceBEq]
  cases b with
  |false=>
   refine(show∀{A B:Prop},A→vk (some !false) A B from fun h=>h) ?_
   refine rr ?_;exact⟨0,false,k2,M2,rfl,yg.wk (fun r _ h=>h.1) rU,SH.drop (A:=gb) (KH.perm List.perm_append_comm),by omega,fun h=>by cases h⟩
  |true=>
   have hk3:=hb2 rfl rfl
   have hkn2:=yg.le
   refine(show∀{A B:Prop},B→vk (some !true) A B from fun h=>h) ?_
   refine Tq rU hg KH yg (by omega) i fun w v' H6 dD hg' nN uj hgn=>?_
   refine⟨q.n -k2,by omega,_,_,_,_,_,_,_,rfl,k2,M2,ks++[vi i],dD,rfl,rfl,by omega,by omega,uj,nN,hg',by rw[List.length_append];show ks.length +1≤_;omega,fun x hx=>?_,fun e he'=>?_⟩
   ·rcases List.mem_append.1 hx with h|h
    ·exact hks x h
    ·exact⟨i,by simpa using h⟩
   ·rcases hgn e he' with h|h
    ·obtain⟨e2,h2,h3⟩:=List.mem_map.1 h
     rw[←h3];exact hgb e2 h2
    ·have:=KH.ext.next;omega
 ·refine tl ?_
  obtain⟨a,n,c,rfl,hn,hfl⟩:=hg.W_ (F:=F) (k_.perm (List.perm_append_comm (l₁:=M1))) (fun e he'=>hF _ (hgb e he'))
  refine PU.b5 rfl ?_
  simp only[PP,Nat.reduceBEq]
  refine uM.FU k_ 0 (by omega) fun H4 yg kg hx4=>?_
  rw[show min (k1 +0) (q.n -1)=k1 by omega,hel,KE]
  simp only[PP,Nat.reduceBEq]
  have Dt:Rd F q k1 H4 M1:=yg.wk (fun r _ h=>h.1) rU
  refine ak.mono (uh Dt kg (FV (hfl.ex hx4) (by omega) hks) _) ?_
  rintro w H5 ⟨j,b,M5,rfl,_,uj,nN⟩
  simp only[PP,Nat.reduceBEq]
  refine rr ?_;exact⟨j,b,k1,M5,rfl,uj,SH.drop (A:=gb) ((kg.frame nN).perm List.perm_append_comm),by omega,fun _ h=>by cases h⟩
theorem KI{q:RC}{k:Nat}(he:∀k',k≤k'→VU q k'):VT q k:=by
 intro F H M d hF hR hS hd
 have hkn:=hR.le
 have rU:¬F q.ra:=by
  obtain⟨_,_,_,_,_,_,_,_,_,_,_,_,_,_,_,_,_,_,_,_,_,h⟩:=hR
  exact h
 refine ce [0,1,4,5,6,7,8] ?_;refine tl ?_
 refine VG 4 5 6 7 8 (I:=fun m x4 x5 x6 x7 x8 H'=>∃(k':Nat)(M':List aK)(ks:List Value)(gb:List aK),x4=vi 0∧x5=.bool false∧k' +m=q.n∧k≤k'∧Rd (Fo F gb) q k' H' M'∧SH (M.map (·.1)) H H' (M'++gb)∧GB 3 1 x6 ks gb∧ks.length≤k' -k∧(∀x∈ks,∃z:Int,x=vi z)∧∀e∈gb,H.next≤e.1) ?_ (q.n -k) ⟨k,M,[],[],rfl,rfl,by omega,Nat.le_refl _,hR.wk (fun r _ h=>⟨h,by simp⟩) (fun h=>rU h.1),by rw[List.append_nil];exact hS,GB.nil _ _,Nat.zero_le _,(fun x h=>nomatch h),fun e h=>nomatch h⟩
 clear hR hS
 rintro m x4 x5 x6 x7 x8 rg H' ⟨k1,M1,ks,gb,rfl,rfl,hkm,hk1,pq,hS1,hg,hkl,hks,hgb⟩
 have abP:=pq.le
 have hF3:∀r,H'.next≤r→Fo F gb r:=fun r hr=>⟨hF r (by have:=hS1.ext.next;omega),fun hm=>by
  obtain⟨e,he,e1⟩:=List.mem_map.1 hm
  have:=(hS1.lo e (List.mem_append_right _ he)).2
  omega⟩
 refine tl ?_
 refine ak.mono (he k1 hk1 _ H' M1 d hF3 pq hS1.own hd) ?_
 rintro w H4 ⟨i,b,k2,M2,rfl,yg,kg,hk2,hb2⟩
 have KH:=hS1.frame kg
 have hkn2:=yg.le
 simp only[PP,Nat.reduceBEq]
 cases b with
 |false=>
  refine(show∀{A B:Prop},A→vk (some !false) A B from fun h=>h) ?_
  refine rr ?_;exact⟨0,false,k2,M2,rfl,yg.wk (fun r _ h=>h.1) rU,SH.drop (A:=gb) (KH.perm List.perm_append_comm),by omega,fun h=>by cases h⟩
 |true=>
  refine(show∀{A B:Prop},B→vk (some !true) A B from fun h=>h) ?_
  refine Tq rU hg KH yg (by omega) i fun w v' H6 dD hg' nN uj hgn=>?_
  have hgb':∀e∈dD,H.next≤e.1:=fun e he'=>by
   rcases hgn e he' with h|h
   ·obtain⟨e2,h2,h3⟩:=List.mem_map.1 h
    rw[←h3];exact hgb e2 h2
   ·have:=KH.ext.next;omega
  have Zn:∀x∈ks++[vi i],∃z:Int,x=vi z:=fun x hx=>by
   rcases List.mem_append.1 hx with h|h
   ·exact hks x h
   ·exact⟨i,by simpa using h⟩
  have hkl':(ks++[vi i]).length=ks.length +1:=by simp
  refine uj.FU nN 0 (by omega) fun H7 M0 Eo hx7=>?_
  rw[show min (k2 +0) (q.n -1)=k2 by omega]
  obtain⟨kd,at',e',t,xa,xn,xc,hel,_,_,_,hz⟩:=M0.tok hkn2.1
  rw[hel,wC]
  simp only[PP,Nat.reduceBEq]
  refine aP (fun hc=>?_) (fun hc=>?_)
  ·refine tl ?_
   obtain⟨a,n,c,rfl,hn,hfl⟩:=hg'.W_ (F:=F) (Eo.perm (List.perm_append_comm (l₁:=M2))) (fun e he'=>hF _ (hgb' e he'))
   simp only[PP,Nat.reduceBEq]
   refine ae (fun h1=>?_) (fun h1=>?_)
   ·have h1:n=1:=by omega
    subst h1
    obtain⟨r,o,e,hr,hrd,_⟩:=hfl.1.idx (c:=c) (by omega) (show 0<1 by omega)
    obtain⟨z,hz'⟩:=Zn (ks++[vi i])[0] (List.getElem_mem _)
    have e:q_ 1 (.slice a 1 c) (.int .i64 0)=_:=e
    rw[e]
    simp only[PP,Nat.reduceBEq]
    refine ME.ld (hrd 0 (vi z) (by omega) (by rw[List.getElem?_eq_getElem (by omega),←hz'])) ?_
    refine rr ?_;exact⟨z,true,k2,M2,rfl,M0.wk (fun r _ h=>h.1) rU,SH.drop (A:=dD) (Eo.perm List.perm_append_comm),by omega,fun _ h=>by cases h⟩
   ·refine PU.b5 rfl ?_
    simp only[PP,Nat.reduceBEq]
    refine M0.FU Eo 0 (by omega) fun H8 hR8 UE Jo=>?_
    rw[show min (k2 +0) (q.n -1)=k2 by omega,hel,KE]
    simp only[PP,Nat.reduceBEq]
    have hR9:Rd F q k2 H8 M2:=hR8.wk (fun r _ h=>h.1) rU
    refine ak.mono (uh hR9 UE (FV (hfl.ex Jo) (by omega) Zn) _) ?_
    rintro w H9 ⟨j,b,M5,rfl,_,acT,Zo⟩
    simp only[PP,Nat.reduceBEq]
    refine rr ?_;exact⟨j,b,k2,M5,rfl,acT,SH.drop (A:=dD) ((UE.frame Zo).perm List.perm_append_comm),by omega,fun _ h=>by cases h⟩
  ·have hk3:k2≠q.n -1:=fun e=>by have:=hz e;omega
   refine M0.next Eo fun H8 M8 hR8 UE Jo=>?_
   rw[show min (k2 +1) (q.n -1)=k2 +1 by omega]at hR8
   refine⟨q.n -(k2 +1),by omega,_,_,_,_,_,_,_,rfl,k2 +1,M8,ks++[vi i],dD,rfl,rfl,by omega,by omega,hR8,UE,hg',by rw[hkl'];omega,Zn,hgb'⟩
theorem Zp{q:RC}:∀(n k:Nat),q.n≤k +n→VT q k∧VU q k∧VW q k:=by
 intro n
 induction n with
 |zero=>
  intro k hk
  have hno:∀k',k≤k'→∀(F:Nat→Prop) H M,¬Rd F q k' H M:=fun k' h F H M hR=>by have:=hR.le;omega
  exact⟨fun F H M d _ hR=>absurd hR (hno k (Nat.le_refl _) _ _ _),fun F H M d _ hR=>absurd hR (hno k (Nat.le_refl _) _ _ _),fun F H M d _ hR=>absurd hR (hno k (Nat.le_refl _) _ _ _)⟩
 |succ n ih=>
  intro k hk
  have hel:VW q k:=KF (VX fun k' h=>(ih k' (by omega)).1)
  have hro:VU q k:=row_of fun k' h=>by
   rcases Nat.eq_or_lt_of_le h with rfl|h
   ·exact hel
   ·exact(ih k' (by omega)).2.2
  refine⟨KI fun k' h=>?_,hro,hel⟩
  rcases Nat.eq_or_lt_of_le h with rfl|h
  ·exact hro
  ·exact(ih k' (by omega)).2.1
theorem KJ(q:RC)(k:Nat):VT q k:=(Zp (q.n) k (by omega)).1
end Go.Proofs.Lu
set_option maxRecDepth 100000
set_option maxHeartbeats 4000000
namespace Go.Proofs.Lu
open Go.Ae Go.Ae.M
variable{H0 H:aa}{L M:List aK}{S:List Nat}{F:Nat→Prop}
theorem _root_.Go.Ae.SH.jF{S:List Nat}{H0 H:aa}{L:List aK}{ty:TypeId}{z:List Value}{v:Value}{n:Nat}{K:Value→Value→aa→Prop}(hS:SH S H0 H L)(hl:(ay v).length=n)(hz:z.length=n)(hk:all' aU (ay v)=true)
 (k:∀H2 r,SH S H0 H2 ((r,ty,ay v)::L)→Ext H H2→K (.pointer (some ⟨r,0,none⟩)) undef H2):ME (Go.Ae.cZ ty z H) fun p H1=>ME (Go.Ae.Aw n p v H1) fun u H2=>K p u H2:=by
 have hO:=SH.refl hS.wf
 refine hO.cZ fun H1 r hO=>?_
 refine hO.st 0 rfl hl (by omega) hk fun H2 hO=>?_
 have hO:SH [] H H2 [(r,ty,splice z 0 (ay v))]:=hO
 rw[ni _ _ (by omega)]at hO
 exact k H2 r (SH.frame (M:=[]) (L:=L) hS hO) hO.ext
theorem Rd.st{q:RC}{k:Nat}(hR:Rd F q k H M){b:Nat}{ty:TypeId}{cs:List Value}(hS:SH S H0 H ((b,ty,cs)::(M++L)))(h3:(ty==3)=false)(acU:(ty==269)=false)(h128:(ty==128)=false){o n:Nat}{v:Value}(hl:(ay v).length=n)(hn:o +n≤cs.length)(hk:all' aU (ay v)=true){K:Value→aa→Prop}
 (kk:∀H1,Rd F q k H1 M→SH S H0 H1 ((b,ty,splice cs o (ay v))::(M++L))→H.next≤H1.next→K undef H1):ME (Aw n (.pointer (some ⟨b,o,none⟩)) v H) K:=by
 have hO:SH [b] H H [(b,ty,cs)]:=SH.own (M:=[(b,ty,cs)]) hS
 have hty:qy H b ty:=(hO.bk (b,ty,cs) (List.mem_singleton.2 rfl)).Py
 have hne:∀t:TypeId,(ty==t)=false→¬qy H b t:=fun t ht h=>by rw[hty.one h]at ht;simp at ht
 refine hO.st 0 rfl hl hn hk fun H1 hO=>?_
 have hO:SH [b] H H1 [(b,ty,splice cs o (ay v))]:=hO
 refine kk H1 (hR.stay hO.ext fun r hr=>?_) (SH.frame (M:=[(b,ty,cs)]) hS hO) hO.ext.next
 rw[List.mem_singleton]at hr
 subst hr
 exact⟨.inr (hne 3 h3),hne 269 acU,hne 128 h128⟩
theorem Rd.rules{q:RC}{k:Nat}(hR:Rd F q k H M)(hS:SH S H0 H (M++L)):(∃a c,H.cell q.rr 2=some (.slice a q.nu c))∧q.rr<H.next:=by
 obtain⟨rv,rcs,gr,nv,bW,gn,sc,sa,nr,nn,rfl,h1,h2,h3,h4,h5,h6,h7,h8,h9,h10,rU⟩:=hR
 have hb:=hS.get 3 rfl
 refine⟨?_,(hS.lo _ (List.mem_of_getElem? (i:=3) rfl)).2⟩
 subst h5
 rcases h3 with⟨rfl,rfl,_⟩|⟨r,n,aQ,rfl,hn,_⟩
 ·have:q.nu=0:=by simp at h4;omega
  rw[this]
  exact⟨none,0,hb.cell rfl⟩
 ·have:n=q.nu:=by omega
  subst this
  exact⟨_,_,hb.cell rfl⟩
theorem _root_.Go.Ae.SH.Tt{S:List Nat}{H0 H:aa}{P M L:List aK}(hS:SH S H0 H (P++(M++L))):SH S H0 H (M++(P++L)):=hS.perm (by
 rw[←List.append_assoc,←List.append_assoc];exact List.Perm.append_right _ List.perm_append_comm)
theorem _root_.Go.Ae.SH.FW{S:List Nat}{H0 H H':aa}{P M M' L:List aK}(hS:SH S H0 H (P++(M++L)))(h:SH (M.map (·.1)) H H' M'):SH S H0 H' (P++(M'++L)):=(hS.Tt.frame h).Tt
theorem Rd.IY{q:RC}{k:Nat}{P:List aK}(hR:Rd F q k H M)(hS:SH S H0 H (P++(M++L)))(j:Nat)(hj:j≤1000){K:Value→Value→aa→Prop}
 (h:∀H',Rd F q k H' M→SH S H0 H' (P++(M++L))→Ext H H'→K (gB q.rt q.ra) (.agg ⟨El q.cs 5 (min (k +j) (q.n -1))⟩) H'):ME (jX none (.pointer (some ⟨q.rr,0,none⟩)) H) fun v H1=>fq Pg X (CW v) [vn j] H1 (K v):=
 hR.FU hS.Tt j hj fun H' hR' hS' hx=>h H' hR' hS'.Tt hx
theorem Rd.M_{q:RC}{k:Nat}{P:List aK}(hR:Rd F q k H M)(hS:SH S H0 H (P++(M++L))){K:Value→Value→aa→Prop}
 (h:∀H' M',Rd F q (min (k +1) (q.n -1)) H' M'→SH S H0 H' (P++(M'++L))→H.next≤H'.next→K (mR q.rp q.ra q.rt) (.agg ⟨El q.cs 5 k⟩) H'):ME (jX none (.pointer (some ⟨q.rr,1,none⟩)) H) fun v H1=>fq Pg X (CW v) [] H1 (K v):=
 hR.next hS.Tt fun H' M' hR' hS' hx=>h H' M' hR' hS'.Tt hx.ext.next
theorem Tu{q:RC}{k:Nat}{P:List aK}(hR:Rd F q k H M)(hS:SH S H0 H (P++(M++L)))(cd at':Int):ak Pg X 110 [pr q.rr,vi cd,vi at'] H fun v H'=>v=.bool false∧∃M',Rd F q k H' M'∧SH S H0 H' (P++(M'++L)):=
 ak.mono (qp hR hS.Tt cd at') fun v H' ⟨e,M',hR',hS'⟩=>⟨e,M',hR',hS.FW hS'⟩
theorem Tv{q:RC}{k:Nat}{P:List aK}(hR:Rd F q k H M)(hS:SH S H0 H (P++(M++L))):ak Pg X 109 [pr q.rr] H fun v H'=>v=.bool false∧∃M',Rd F q k H' M'∧SH S H0 H' (P++(M'++L)):=
 ak.mono (Cs hR hS.Tt) fun v H' ⟨e,M',hR',hS'⟩=>⟨e,M',hR',hS.FW hS'⟩
theorem X3{q:RC}{k:Nat}{P:List aK}(hR:Rd F q k H M)(hS:SH S H0 H (P++(M++L)))(kd:Int)(hkd:kd≠0):ak Pg X 111 [pr q.rr,vi kd] H fun v H'=>∃(b:Bool)(k':Nat)(M':List aK),v=.bool b∧Rd F q k' H' M'∧SH S H0 H' (P++(M'++L))∧k≤k'∧(b=true→k'=k +1)∧H.next≤H'.next:=
 ak.mono (yT hR hS.Tt kd hkd) fun v H' ⟨b,k',M',e,hR',hS',h1,h2⟩=>⟨b,k',M',e,hR',hS.FW hS',h1,h2,hS'.ext.next⟩
abbrev kT(nm:ByteArray)(u f w:Bool)(ch root at':Int):List Value:=[.string nm,.bool u,.bool f,.bool w,vi ch,vi root,vi at']
theorem KL{q:RC}{k ru:Nat}{nm:ByteArray}{u f w:Bool}{ch root at':Int}(hR:Rd F q k H M)(hS:SH S H0 H ((ru,141,kT nm u f w ch root at')::(M++L))):
 ak Pg X 113 [pr q.rr,pr ru] H fun v H'=>∃(b w':Bool)(ch':Int)(k':Nat)(M':List aK),v=.bool b∧Rd F q k' H' M'∧k≤k'∧SH S H0 H' ((ru,141,kT nm u f w' ch' root at')::(M'++L)):=by
 have hkn:=hR.le
 refine ce [0,1,4,5,40] ?_;refine tl ?_
 simp only[PP,Nat.reduceBEq]
 refine hR.IY (P:=[_]) hS 0 (by omega) fun H1 pq hS1 hx1=>?_
 rw[show min (k +0) (q.n -1)=k by omega]
 obtain⟨kd,OP,e1,t1,xa,xn,xc,he,_,_,_,hz⟩:=pq.tok hkn.1
 rw[he,wC]
 simp only[PP,Nat.reduceBEq]
 refine aP (fun hc=>?_) (fun hc=>?_)
 ·refine rr ?_;exact⟨true,w,ch,k,M,rfl,pq,Nat.le_refl _,hS1⟩
 refine pq.M_ (P:=[_]) hS1 fun H2 M2 hR2 hS2 _=>?_
 have hk2:=hR2.le
 refine hR2.IY (P:=[_]) hS2 0 (by omega) fun H3 uM k_ hx3=>?_
 obtain⟨XZ,at2,e2,t2,ya,yn,yc,he2,_,ht2,_,_⟩:=uM.tok (i:=min (min (k +1) (q.n -1) +0) (q.n -1)) (by omega)
 rw[he2]
 refine k_.jF rfl rfl rfl fun H4 rt kg hx4=>?_
 have yg:=uM.ex hx4
 have hS:SH S H0 H4 ((rt,128,[vi XZ,vn at2,vn e2,.string t2,.slice ya yn yc])::(ru,141,kT nm u f w ch root at')::(M2++L)):=kg
 simp only[PP,Nat.reduceBEq,aj hS.wf];refine hS.bZ ?_
 refine ak.mono (wD hS.wf _ _ _ _ _ rfl) ?_
 rintro v H5 ⟨rfl,hx5⟩
 have Dt:=yg.ex hx5
 have hS:=hS.call hx5
 simp only[PP,Nat.reduceBEq,aj hS.wf]
 refine aC (fun hb=>?_) (fun hb=>?_)
 ·refine ak.mono (Tv (P:=[_,_]) Dt hS) ?_
  rintro v H6 ⟨rfl,M6,uj,nN⟩
  refine rr ?_;exact⟨false,w,ch,_,M6,rfl,uj,by omega,SH.drop (A:=[_]) nN⟩
 have X4:∀cd p:Int,ak Pg X 110 [pr q.rr,vi cd,vi p] H5 fun v H'=>v=.bool false∧∃M',Rd F q (min (k +1) (q.n -1)) H' M'∧SH S H0 H' ((ru,141,kT nm u f w ch root at')::(M'++L)):=fun cd p=>by
  refine ak.mono (Tu (P:=[_,_]) Dt hS cd p) ?_
  rintro v H6 ⟨rfl,M6,uj,nN⟩
  exact⟨rfl,M6,uj,SH.drop (A:=[_]) nN⟩
 have last:∀(H6:aa)(w':Bool)(ch':Int) y,Rd F q (min (k +1) (q.n -1)) H6 M2→SH S H0 H6 ((ru,141,kT nm u f w' ch' root at')::(M2++L))→aR Pg X (sub uQ [1,1,1,1,1,1,1]) (tN (pr q.rr) (pr ru) (.bool false) (pr rt) (.string t2) y H6) (cB Pg [.tmp 4] fun v H'=>∃(b w':Bool)(ch':Int)(k':Nat)(M':List aK),v=.bool b∧Rd F q k' H' M'∧k≤k'∧SH S H0 H' ((ru,141,kT nm u f w' ch' root at')::(M'++L))):=by
  intro H6 w' ch' y uj nN
  refine tl ?_
  simp only[PP,Nat.reduceBEq]
  refine uj.M_ (P:=[_]) nN fun H7 M7 M0 Eo _=>?_
  refine rr ?_;exact⟨true,w',ch',_,M7,rfl,M0,by omega,Eo⟩
 refine hS.aZ ?_;simp only[PP,Nat.reduceBEq,aj hS.wf]
 refine aC (fun hb2=>?_) (fun hb2=>?_)
 ·refine hS.aZ ?_
  refine ak.mono (X4 _ _) ?_
  rintro v H6 ⟨rfl,M6,uj,nN⟩
  refine rr ?_;exact⟨false,w,ch,_,M6,rfl,uj,by omega,nN⟩
 refine hS.aZ ?_;simp only[PP,Nat.reduceBEq,aj hS.wf]
 refine aC (fun hb3=>?_) (fun hb3=>?_)
 ·refine Dt.st (SH.drop (A:=[_]) hS) rfl rfl rfl rfl (Nat.le_of_ble_eq_true rfl) rfl fun H6 uj nN _=>?_
  exact last _ _ _ _ uj nN
 refine aC (fun hb4=>?_) (fun hb4=>?_)
 ·refine Dt.st (SH.drop (A:=[_]) hS) rfl rfl rfl rfl (Nat.le_of_ble_eq_true rfl) rfl fun H6 uj nN _=>?_
  exact last _ _ _ _ uj nN
 refine aC (fun hb5=>?_) (fun hb5=>?_)
 ·refine Dt.st (SH.drop (A:=[_]) hS) rfl rfl rfl rfl (Nat.le_of_ble_eq_true rfl) rfl fun H6 uj nN _=>?_
  exact last _ _ _ _ uj nN
 refine hS.aZ ?_
 refine ak.mono (X4 _ _) ?_
 rintro v H6 ⟨rfl,M6,uj,nN⟩
 refine rr ?_;exact⟨false,w,ch,_,M6,rfl,uj,by omega,nN⟩
end Go.Proofs.Lu
