/-
  Part 7 of the proof. No condition.
-/
import Derived.Test.YtdkcdlnfeodaaaaGreatDoorZ06
set_option linter.unusedVariables false
set_option linter.unusedSimpArgs false
set_option maxRecDepth 100000
set_option maxHeartbeats 4000000
namespace Go.Proofs.Lu
open Go.Ae Go.Ae.M
variable{H0 H:aa}{L:List aL}{Q:Int→Prop}{r:Nat}{ty:TypeId}{n c:Nat}
theorem Dz{q:Nat}{s:Int}(hB:Nm Q r ty n H0 H ((q,232,[.int .u64 s])::L)):
 ak Pg X 168 [.pointer (some ⟨q,0,none⟩)] H fun v H'=>∃z,v=.int .u64 z∧Nm Q r ty n H0 H' ((q,232,[.int .u64 z])::L):=by
 refine ce [0,2] ?_;refine tl ?_
 simp only[PP,Nat.reduceBEq]
 refine hB.xM 0 rfl rfl ?_
 (try simp only[aj hB.wf,dI,dZ])
 refine hB.xM 0 rfl rfl ?_
 refine PU.of (p_ (by omega)) ?_
 refine PU.of nN ?_
 (try simp only[aj hB.wf,dI,dZ])
 refine hB.Qb 0 rfl rfl (Nat.le_of_ble_eq_true rfl) rfl fun Hn hB=>?_
 refine And.intro (by simp only[aA,aC];kernel_rfl) ?_
 (try simp only[aj hB.wf,dI,dZ])
 refine hB.xM 0 rfl rfl ?_
 (try simp only[aj hB.wf,dI,dZ])
 refine hB.xM 0 rfl rfl ?_
 refine PU.of (iZ (by omega)) ?_
 refine PU.of nN ?_
 (try simp only[aj hB.wf,dI,dZ])
 refine hB.Qb 0 rfl rfl (Nat.le_of_ble_eq_true rfl) rfl fun Hn hB=>?_
 refine And.intro (by simp only[aA,aC];kernel_rfl) ?_
 (try simp only[aj hB.wf,dI,dZ])
 refine hB.xM 0 rfl rfl ?_
 (try simp only[aj hB.wf,dI,dZ])
 refine hB.xM 0 rfl rfl ?_
 refine PU.of (p_ (by omega)) ?_
 refine PU.of nN ?_
 (try simp only[aj hB.wf,dI,dZ])
 refine hB.Qb 0 rfl rfl (Nat.le_of_ble_eq_true rfl) rfl fun Hn hB=>?_
 refine And.intro (by simp only[aA,aC];kernel_rfl) ?_
 (try simp only[aj hB.wf,dI,dZ])
 refine hB.ld 0 rfl rfl ?_
 refine rr ?_;exact⟨_,rfl,hB⟩
theorem Jb(hn:n≤1000000)(hB:Nm Q r ty n H0 H L)(a b:Int)(h1:0≤a)(h2:b≤n)(h3:a +12<b):
 ak Pg X 131 [sl r n c,vi a,vi b] H fun v H'=>Nm Q r ty n H0 H' L:=by
 refine ce [0,1,2,6,7,8,9,10] ?_;refine tl ?_
 refine PU.of (ax (by omega) (by omega)) ?_
 refine PU.of iU ?_
 rw[decide_eq_true (by omega)]
 rw[nC,mD (u64_in (by omega))]
 simp only[PP,Nat.reduceBEq]
 refine hB.new fun H1 q hB=>?_
 refine hB.st 0 rfl rfl (Nat.le_of_ble_eq_true rfl) rfl fun Hn hB=>?_
 refine ak.mono (xX (b -a) (by omega) (by omega)) ?_
 rintro _ _ ⟨⟨m,rfl,h4,h5⟩,rfl⟩
 refine PU.quo (by omega) (by omega) (by omega) fun qd hd1 hd2 hd3=>?_
 refine PU.of (my (by omega) (by omega)) ?_
 refine PU.of (au (by omega) (by omega)) ?_
 refine PU.of (ax (by omega) (by omega)) ?_
 refine lp2 9 10 (I:=fun k x9 aW H'=>∃i s:Int,x9=vi i∧a<i∧i≤b∧k=(b -i).toNat∧Nm Q r ty n H0 H' ((q,232,[.int .u64 s])::L)) ?_ _ ⟨_,_,rfl,by omega,by omega,rfl,hB⟩
 clear hB hd1 hd2 hd3 qd
 rintro k x9 aW rg H3 ⟨i,s,rfl,h6,h7,hk,hB⟩
 refine aS.kH fun K hK=>?_
 refine tl ?_
 refine PU.quo (by omega) (by omega) (by omega) fun qd hd1 hd2 hd3=>?_
 refine PU.of (my (by omega) (by omega)) ?_
 refine PU.of (au (by omega) (by omega)) ?_
 refine PU.of (au (by omega) (by omega)) ?_
 refine PU.of xH ?_
 refine ah (fun hc=>?_) (fun hc=>?_)
 rotate_left
 ·subst hK
  simp only[PP,Nat.reduceBEq]
  refine rn ?_;exact hB.drop
 have hib:i<b -1:=by omega
 clear hc hd1 hd2 hd3 qd
 refine ak.mono (Dz hB) ?_
 rintro _ H4 ⟨z,rfl,hB⟩
 refine PU.of (B6 (u64_in (by omega))) ?_
 refine PU.of uO ?_
 obtain⟨g1,g2⟩:=MV (a:=z) (b:=m -1) (by omega)
 generalize KB .u64 z (m -1)=y at g1 g2
 rw[nC,nM (by omega) (by omega)]
 simp only[PP,Nat.reduceBEq]
 have fin:∀(w:Int) rg,0≤w→w<b -a→aS Pg X (sub iA [1,1,0,1,1,1,0,0,1,0,0,1,1]) (kJ (sl r n c) (vi a) (vi b) (vi (b -a)) (.pointer (some ⟨q,0,none⟩)) (.int .u64 m) (vi i) (vi w) rg H4) (iq 1 (kP Pg X (sub iA [1,1,0,1,1,1,0,0,1,1]) K)):=by
  intro w rg g3 g4
  subst hK
  refine tl ?_
  repeat(first|(simp only[PP,Nat.reduceBEq,aj hB.wf])|(with_reducible refine PU.of (au (by omega) (by omega)) ?_)|(with_reducible refine PU.of (aI (by omega) (by omega)) ?_)|(with_reducible refine hB.wS (by omega) (by omega) fun z hz=>?_)|(with_reducible refine hB.KC (by omega) (by omega) (by assumption) fun Hn hB=>?_)|((with_reducible refine And.intro ?_ ?_);focus ((try simp only[aA,aC,az (Ext.refl (hN _))]);kernel_rfl)))
  refine tl ?_
  simp only[PP,Nat.reduceBEq,aj hB.wf];with_reducible refine PU.of (au (by omega) (by omega)) ?_
  exact⟨(b -(i +1)).toNat,by omega,_,_,_,_,rfl,i +1,_,rfl,by omega,by omega,rfl,hB⟩
 refine ah (fun hc=>?_) (fun hc=>?_)
 ·with_reducible refine PU.of (ax (by omega) (by omega)) ?_
  exact fin _ _ (by omega) (by omega)
 ·exact fin _ _ (by omega) (by omega)
theorem TR(hn:n≤1000000):∀(d:Nat)(H0 H:aa)(L:List aL)(hB:Nm Q r ty n H0 H L)(a b l:Int)(h1:0≤a)(h2:b≤n)(h3:a≤b +1)(h4:0≤l)(h5:l≤64)(hd:(b -a).toNat≤d),
 ak Pg X 95 [sl r n c,vi a,vi b,vi l] H fun v H'=>Nm Q r ty n H0 H' L:=by
 intro d
 induction d using Nat.strongRecOn with
 |_ d ih=>
 intro H0 H L hB a b l h1 h2 h3 h4 h5 hd
 refine ce [0,1,2,3,8,9,10,11,12,13,14,15,16,17,18] ?_;refine tl ?_
 refine V8 1 2 3 8 9 10 11 12 13 14 15 16 17 18 (I:=fun k x1 x2 x3 x8 x9 aW a_ bP bA dL bI cr gQ fP H'=>∃(a' b' l:Int)(w q:Bool),x1=vi a'∧x2=vi b'∧x3=vi l∧x8=.bool w∧x9=.bool q∧a≤a'∧b'≤b∧a'≤b' +1∧0≤l∧l≤64∧k=(b' +1 -a').toNat∧Nm Q r ty n H0 H' L) ?_ _
  ⟨a,b,l,true,true,rfl,rfl,rfl,rfl,rfl,by omega,by omega,by omega,by omega,by omega,rfl,hB⟩
 clear hB h4 h5 l H
 rintro k x1 x2 x3 x8 x9 aW a_ bP bA dL bI cr gQ fP rg H1 ⟨a',b',l,w,q,rfl,rfl,rfl,rfl,rfl,h4,h5,h6,h7,h8,hk,hB⟩
 refine aS.kH fun K hK=>?_
 have t3:∀(p l:Int)(w q:Bool) bP bA dL bI cr gQ fP rg H3,0≤l→l≤64→a' +12<b'→a'≤p→p<b'→Nm Q r ty n H0 H3 L→aS Pg X (sub d_ [1,1,0,0,0,1,1,1,1,1,1,1,1])
  (dR (sl r n c) (vi a') (vi b') (vi l) (.bool w) (.bool q) (vi (b' -a')) (vi p) bP bA dL bI cr gQ fP rg H3) (iq 1 K):=by
  intro p l w q bP bA dL bI cr gQ fP rg H3 g1 g2 g3 g4 g5 hB
  subst hK
  refine tl ?_
  refine ak.mono (Ph (by omega) hB a' b' p (by omega) (by omega) (by omega) (by omega)) ?_
  rintro _ H4 ⟨mid,f,rfl,g6,g7,hB⟩
  simp only[PP,Nat.reduceBEq]
  refine PU.of (ax (by omega) (by omega)) ?_
  refine PU.of (ax (by omega) (by omega)) ?_
  refine PU.quo (by omega) (by omega) (by omega) fun qd hd1 hd2 hd3=>?_
  clear hd1 hd2 hd3
  refine PU.of xG ?_
  refine ah (fun hc=>?_) (fun hc=>?_)
  ·refine PU.of iU ?_
   refine ak.mono (ih (mid -a').toNat (by omega) H0 H4 L hB a' mid l (by omega) (by omega) (by omega) g1 g2 (Nat.le_refl _)) ?_
   rintro _ H5 hB
   refine PU.of (au (by omega) (by omega)) ?_
   exact⟨(b' +1 -(mid +1)).toNat,by omega,_,_,_,_,_,_,_,_,_,_,_,_,_,_,_,_,rfl,mid +1,b',l,_,_,rfl,rfl,rfl,rfl,rfl,by omega,by omega,by omega,g1,g2,rfl,hB⟩
  ·refine PU.of iU ?_
   refine PU.of (au (by omega) (by omega)) ?_
   refine ak.mono (ih (b' -(mid +1)).toNat (by omega) H0 H4 L hB (mid +1) b' l (by omega) (by omega) (by omega) g1 g2 (Nat.le_refl _)) ?_
   rintro _ H5 hB
   exact⟨(mid +1 -a').toNat,by omega,_,_,_,_,_,_,_,_,_,_,_,_,_,_,_,_,rfl,a',mid,l,_,_,rfl,rfl,rfl,rfl,rfl,by omega,by omega,by omega,g1,g2,rfl,hB⟩
 have t2:∀(p l:Int)(w q:Bool) bP bA dL bI cr gQ fP rg H3,0≤l→l≤64→a' +12<b'→a'≤p→p<b'→Nm Q r ty n H0 H3 L→aS Pg X (sub d_ [1,1,0,0,0,1,1,1,1,1,1,1])
  (dR (sl r n c) (vi a') (vi b') (vi l) (.bool w) (.bool q) (vi (b' -a')) (vi p) bP bA dL bI cr gQ fP rg H3) (iq 1 K):=by
  intro p l w q bP bA dL bI cr gQ fP rg H3 g1 g2 g3 g4 g5 hB
  refine tl ?_
  simp only[PP,Nat.reduceBEq,aj hB.wf]
  refine ah (fun hc=>?_) (fun hc=>?_)
  ·repeat(first|(simp only[PP,Nat.reduceBEq,aj hB.wf])|(with_reducible refine PU.of (ax (by omega) (by omega)) ?_)|(with_reducible refine PU.of (aI (by omega) (by omega)) ?_)|(with_reducible refine hB.wS (by omega) (by omega) fun z hz=>?_)|((with_reducible refine And.intro ?_ ?_);focus ((try simp only[aA,aC,az (Ext.refl (hN _))]);kernel_rfl))|((with_reducible refine ak.mono (fu _ _) ?_);rintro _ _ ⟨⟨bl,rfl⟩,rfl⟩))
   refine tl ?_
   simp only[PP,Nat.reduceBEq,aj hB.wf]
   refine aB (fun hb=>?_) (fun hb=>?_)
   ·refine ak.mono (Ja (by omega) hB a' b' p (by omega) (by omega) (by omega) (by omega)) ?_
    rintro _ H4 ⟨i,rfl,g6,g7,hB⟩
    subst hK
    simp only[PP,Nat.reduceBEq,aj hB.wf]
    exact⟨(b' +1 -i).toNat,by omega,_,_,_,_,_,_,_,_,_,_,_,_,_,_,_,_,rfl,i,b',l,_,_,rfl,rfl,rfl,rfl,rfl,by omega,by omega,by omega,g1,g2,rfl,hB⟩
   ·exact t3 _ _ _ _ _ _ _ _ _ _ _ _ _ g1 g2 g3 g4 g5 hB
  ·refine⟨by kernel_rfl,?_⟩
   refine tl ?_
   simp only[PP,Nat.reduceBEq,aj hB.wf]
   exact t3 _ _ _ _ _ _ _ _ _ _ _ _ _ g1 g2 g3 g4 g5 hB
 have t1:∀(p h l:Int)(w q:Bool) bA dL bI cr gQ fP rg H3,0≤l→l≤64→a' +12<b'→a'≤p→p<b'→Nm Q r ty n H0 H3 L→aS Pg X (sub d_ [1,1,0,0,0,1,1,1,1,1,1])
  (dR (sl r n c) (vi a') (vi b') (vi l) (.bool w) (.bool q) (vi (b' -a')) (vi p) (vi h) bA dL bI cr gQ fP rg H3) (iq 1 K):=by
  intro p h l w q bA dL bI cr gQ fP rg H3 g1 g2 g3 g4 g5 hB
  refine tl ?_
  simp only[PP,Nat.reduceBEq,aj hB.wf]
  refine aB (fun hb=>?_) (fun hb=>?_)
  ·refine aB (fun hb=>?_) (fun hb=>?_)
   ·refine tl ?_
    simp only[PP,Nat.reduceBEq,aj hB.wf]
    refine ah (fun hc=>?_) (fun hc=>?_)
    ·refine ak.mono (F5 (by omega) hB a' b' (by omega) (by omega) (by omega)) ?_
     rintro _ H4 ⟨⟨bl,rfl⟩,hB⟩
     simp only[PP,Nat.reduceBEq,aj hB.wf]
     refine aB (fun hb=>?_) (fun hb=>?_)
     ·subst hK
      simp only[PP,Nat.reduceBEq,aj hB.wf]
      refine rr ?_;exact hB
     ·exact t2 _ _ _ _ _ _ _ _ _ _ _ _ _ g1 g2 g3 g4 g5 hB
    ·exact t2 _ _ _ _ _ _ _ _ _ _ _ _ _ g1 g2 g3 g4 g5 hB
   ·refine tl ?_
    simp only[PP,Nat.reduceBEq,aj hB.wf]
    exact t2 _ _ _ _ _ _ _ _ _ _ _ _ _ g1 g2 g3 g4 g5 hB
  ·refine tl ?_
   simp only[PP,Nat.reduceBEq,aj hB.wf]
   exact t2 _ _ _ _ _ _ _ _ _ _ _ _ _ g1 g2 g3 g4 g5 hB
 have t0:∀(l:Int)(w q:Bool) a_ bP bA dL bI cr gQ fP rg H3,0≤l→l≤64→a' +12<b'→Nm Q r ty n H0 H3 L→aS Pg X (sub d_ [1,1,0,0,0,1,1,1,1])
  (dR (sl r n c) (vi a') (vi b') (vi l) (.bool w) (.bool q) (vi (b' -a')) a_ bP bA dL bI cr gQ fP rg H3) (iq 1 K):=by
  intro l w q a_ bP bA dL bI cr gQ fP rg H3 g1 g2 g3 hB
  refine tl ?_
  refine ak.mono (choose_spec (by omega) hB a' b' (by omega) (by omega) (by omega)) ?_
  rintro _ H4 ⟨p,h,rfl,g4,g5,hB⟩
  simp only[PP,Nat.reduceBEq]
  refine ah (fun hc=>?_) (fun hc=>?_)
  ·refine ak.mono (F4 (by omega) hB a' b' (by omega) (by omega) (by omega)) ?_
   rintro _ H5 hB
   repeat(with_reducible refine PU.of (ax (by omega) (by omega)) ?_)
   exact t1 _ _ _ _ _ _ _ _ _ _ _ _ _ g1 g2 g3 (by omega) (by omega) hB
  ·exact t1 _ _ _ _ _ _ _ _ _ _ _ _ _ g1 g2 g3 (by omega) (by omega) hB
 refine tl ?_
 repeat(first|(simp only[PP,Nat.reduceBEq,aj hB.wf])|(with_reducible refine PU.of (ax (by omega) (by omega)) ?_))
 refine ah (fun hc=>?_) (fun hc=>?_)
 ·refine ak.mono (Cz (by omega) hB a' b' (by omega) (by omega) (by omega)) ?_
  rintro _ H5 hB
  subst hK
  simp only[PP,Nat.reduceBEq,aj hB.wf]
  refine rr ?_;exact hB
 refine ah (fun he=>?_) (fun he=>?_)
 ·refine ak.mono (Pe (by omega) hB a' b' (by omega) (by omega) (by omega)) ?_
  rintro _ H5 hB
  subst hK
  simp only[PP,Nat.reduceBEq,aj hB.wf]
  refine rr ?_;exact hB
 refine aB (fun hb=>?_) (fun hb=>?_)
 ·refine ak.mono (Jb hn hB a' b' (by omega) (by omega) (by omega)) ?_
  rintro _ H5 hB
  with_reducible refine PU.of (ax (by omega) (by omega)) ?_
  exact t0 _ _ _ _ _ _ _ _ _ _ _ _ _ (by omega) (by omega) (by omega) hB
 ·exact t0 _ _ _ _ _ _ _ _ _ _ _ _ _ (by omega) (by omega) (by omega) hB
end Go.Proofs.Lu
set_option maxRecDepth 100000
set_option maxHeartbeats 4000000
namespace Go.Proofs.Lu
open Go.Ae Go.Ae.M
variable{H0 H:aa}{L:List aL}{r:Nat}{ty:TypeId}{n c:Nat}{cv:Value}
abbrev Rg(r:Nat)(ty:TypeId)(n:Nat):=SB GH r ty 2 n
def mG(cv:Value):Prop:=∀(H:aa)(a b c d:Int),Wf H→eY Pg X (Db cv) [.agg ⟨[.int .i32 a,.int .i32 b]⟩,.agg ⟨[.int .i32 c,.int .i32 d]⟩] H (fun v H'=>(∃z:Int,v=vi z)∧Ext H H')
theorem mG.call(hc:mG cv)(hB:Rg r ty n H0 H L){a b c d:Int}{K:Value→aa→Prop}(k:∀z H1,Rg r ty n H0 (hM H H1) L→Ext (hN H) H1→K (vi z) H1):eY Pg X (Db cv) [.agg ⟨[.int .i32 a,.int .i32 b]⟩,.agg ⟨[.int .i32 c,.int .i32 d]⟩] (hN H) K:=by
 refine eY.mono (hc (hN H) a b c d (jJ H)) ?_
 rintro v H1 ⟨⟨z,rfl⟩,hx⟩
 exact k z H1 (hB.iK hx) hx
theorem qY(hcm:mG cv){q:Nat}{s:Int}(hB:Rg r ty n H0 H ((q,3,[vi s])::L))(a b:Int)(ha:0≤a∧a<n)(hb:0≤b∧b<n):
 ak Pg X 227 [sl r n c,vi a,vi b,.pointer (some ⟨q,0,none⟩),cv] H fun v H'=>∃a' b' s',v=.tuple ⟨[vi a',vi b']⟩∧(a'=a∧b'=b∨a'=b∧b'=a)∧Rg r ty n H0 H' ((q,3,[vi s'])::L):=by
 refine ce [0,1,2,3,4,10,11] ?_;refine tl ?_
 repeat(first|(simp only[PP,Nat.reduceBEq,aj hB.wf])|(with_reducible refine PU.of (aI (by omega) (by omega)) ?_)|(with_reducible refine hB.xO (by omega) (by omega) fun za zb=>?_)|(with_reducible refine hcm.call hB fun zc Hn hB wE=>?_)|((with_reducible refine And.intro ?_ ?_);focus ((simp only[aA,aC,az wE]);kernel_rfl)))
 refine aB (fun hc=>?_) (fun hc=>?_)
 ·refine hB.ld 0 rfl rfl ?_
  refine PU.of EG ?_
  refine hB.st 0 rfl rfl (Nat.le_of_ble_eq_true rfl) rfl fun Hn hB=>?_
  refine rr ?_;exact⟨_,_,_,rfl,.inr ⟨rfl,rfl⟩,hB⟩
 ·refine rr ?_;exact⟨_,_,_,rfl,.inl ⟨rfl,rfl⟩,hB⟩
theorem xY(hcm:mG cv){q:Nat}{s:Int}(hB:Rg r ty n H0 H ((q,3,[vi s])::L))(x y z:Int)(hx:0≤x∧x<n)(hy:0≤y∧y<n)(hz:0≤z∧z<n):
 ak Pg X 226 [sl r n c,vi x,vi y,vi z,.pointer (some ⟨q,0,none⟩),cv] H fun v H'=>∃m s',v=vi m∧(m=x∨m=y∨m=z)∧Rg r ty n H0 H' ((q,3,[vi s'])::L):=by
 refine ce [0,1,2,3,4,5,12] ?_;refine tl ?_
 refine ak.mono (qY hcm hB x y hx hy) ?_
 rintro _ H1 ⟨a,b,s1,rfl,h1,hB⟩
 simp only[PP,Nat.reduceBEq,aj hB.wf]
 refine ak.mono (qY hcm hB b z (by omega) hz) ?_
 rintro _ H2 ⟨b',c',s2,rfl,h2,hB⟩
 simp only[PP,Nat.reduceBEq,aj hB.wf]
 refine ak.mono (qY hcm hB a b' (by omega) (by omega)) ?_
 rintro _ H3 ⟨a3,b3,s3,rfl,h3,hB⟩
 simp only[PP,Nat.reduceBEq,aj hB.wf]
 refine rr ?_;exact⟨_,_,rfl,by omega,hB⟩
theorem mM(hcm:mG cv){q:Nat}{s:Int}(hn:n≤16777216)(hB:Rg r ty n H0 H ((q,3,[vi s])::L))(x:Int)(hx:1≤x∧x +1<n):
 ak Pg X 225 [sl r n c,vi x,.pointer (some ⟨q,0,none⟩),cv] H fun v H'=>∃m s',v=vi m∧x -1≤m∧m≤x +1∧Rg r ty n H0 H' ((q,3,[vi s'])::L):=by
 refine ce [0,1,2,3,8] ?_;refine tl ?_
 with_reducible refine PU.of (ax (by omega) (by omega)) ?_;with_reducible refine PU.of (au (by omega) (by omega)) ?_
 refine ak.mono (xY hcm hB _ _ _ (by omega) (by omega) (by omega)) ?_
 rintro _ H1 ⟨m,s1,rfl,h1,hB⟩
 refine rr ?_;exact⟨_,_,rfl,by omega,by omega,hB⟩
theorem um(hcm:mG cv)(hn:n≤16777216)(hB:Rg r ty n H0 H L)(lo hi first:Int)(h1:0≤lo)(h2:0≤first)(h3:first +hi≤n)(h4:lo≤16777216)(h5:0≤hi):
 ak Pg X 224 [sl r n c,vi lo,vi hi,vi first,cv] H fun v H'=>Rg r ty n H0 H' L:=by
 refine ce [0,1,2,3,4,10,11] ?_;refine tl ?_
 refine lp2 10 11 (I:=fun m x8 x9 H'=>∃root:Int,x8=vi root∧0≤root∧root≤16777216∧m=(hi -root).toNat∧Rg r ty n H0 H' L) ?_ _ ⟨lo,rfl,h1,h4,rfl,hB⟩
 rintro m x8 x9 rg H' ⟨root,rfl,h6,h7,hm,hB⟩
 refine aS.kH fun K hK=>?_
 have fin:∀(ch:Int)(rg)(H2:aa),root<ch→ch<hi→Rg r ty n H0 H2 L→aS Pg X (sub oh [1,0,0,0,1,1,1]) (nE (sl r n c) (vi lo) (vi hi) (vi first) cv (vi root) (vi ch) rg H2) (iq 1 K):=by
  intro ch rg H2 h8 h9 hB
  subst hK
  refine tl ?_
  repeat(first|(simp only[PP,Nat.reduceBEq,aj hB.wf])|(with_reducible refine PU.of (au (by omega) (by omega)) ?_)|(with_reducible refine PU.of (aI (by omega) (by omega)) ?_)|(with_reducible refine hB.xO (by omega) (by omega) fun za zb=>?_)|(with_reducible refine hcm.call hB fun zc Hn hB wE=>?_)|((with_reducible refine And.intro ?_ ?_);focus ((simp only[aA,aC,az wE]);kernel_rfl)))
  refine aB (fun hb=>?_) (fun hb=>?_)
  ·refine rr ?_;exact hB
  ·repeat(first|(simp only[PP,Nat.reduceBEq,aj hB.wf])|(with_reducible refine PU.of (au (by omega) (by omega)) ?_)|(with_reducible refine PU.of (aI (by omega) (by omega)) ?_)|(with_reducible refine hB.xO (by omega) (by omega) fun za zb=>?_)|(with_reducible refine hB.KE (by omega) (by omega) fun Hn hB=>?_)|((with_reducible refine And.intro ?_ ?_);focus ((simp only[aA,aC,az wE]);kernel_rfl)))
   exact⟨(hi -ch).toNat,by omega,_,_,_,_,rfl,ch,rfl,by omega,by omega,rfl,hB⟩
 refine tl ?_
 with_reducible refine PU.of (my (by omega) (by omega)) ?_;with_reducible refine PU.of (au (by omega) (by omega)) ?_;simp only[PP,Nat.reduceBEq,aj hB.wf]
 refine ah (fun hc=>?_) (fun hc=>?_)
 ·subst hK
  simp only[PP,Nat.reduceBEq,aj hB.wf]
  refine rn ?_;exact hB
 with_reducible refine PU.of (au (by omega) (by omega)) ?_;simp only[PP,Nat.reduceBEq,aj hB.wf]
 refine ah (fun hd=>?_) (fun hd=>?_)
 ·repeat(first|(simp only[PP,Nat.reduceBEq,aj hB.wf])|(with_reducible refine PU.of (au (by omega) (by omega)) ?_)|(with_reducible refine PU.of (aI (by omega) (by omega)) ?_)|(with_reducible refine hB.xO (by omega) (by omega) fun za zb=>?_)|(with_reducible refine hcm.call hB fun zc Hn hB wE=>?_)|((with_reducible refine And.intro ?_ ?_);focus ((simp only[aA,aC,az wE]);kernel_rfl)))
  refine aB (fun hb=>?_) (fun hb=>?_)
  ·with_reducible refine PU.of (au (by omega) (by omega)) ?_
   exact fin _ _ _ (by omega) (by omega) hB
  ·exact fin _ _ _ (by omega) (by omega) hB
 ·refine⟨by kernel_rfl,?_⟩
  exact fin _ _ _ (by omega) (by omega) hB
theorem Ap(hcm:mG cv)(hn:n≤16777216)(hB:Rg r ty n H0 H L)(a b:Int)(h1:0≤a)(h2:b≤n)(h3:a≤16777216):
 ak Pg X 216 [sl r n c,vi a,vi b,cv] H fun v H'=>Rg r ty n H0 H' L:=by
 refine ce [0,1,2,3,8,9] ?_;refine tl ?_
 with_reducible refine PU.of (au (by omega) (by omega)) ?_
 refine lp2 8 9 (I:=fun m x6 x7 H'=>∃i:Int,x6=vi i∧a<i∧i≤16777218∧m=(b -i).toNat∧Rg r ty n H0 H' L) ?_ _ ⟨a +1,rfl,by omega,by omega,rfl,hB⟩
 rintro m x6 x7 rg H' ⟨i,rfl,h4,h5,hm,hB⟩
 refine aS.kH fun K hK=>?_
 refine tl ?_
 simp only[PP,Nat.reduceBEq,aj hB.wf]
 refine ah (fun hc=>?_) (fun hc=>?_)
 rotate_left
 ·subst hK
  simp only[PP,Nat.reduceBEq,aj hB.wf]
  refine rn ?_;exact hB
 refine xQ 9 (I:=fun m x7 H'=>∃j:Int,x7=vi j∧a≤j∧j≤i∧m=(j -a).toNat∧Rg r ty n H0 H' L) ?_ _ ⟨i,rfl,by omega,by omega,rfl,hB⟩
 rintro m2 x7 rg H2 ⟨j,rfl,h6,h7,hm2,hB⟩
 have fin:∀rg H3,Rg r ty n H0 H3 L→aS Pg X (sub kV [1,0,0,1,1]) (kK (sl r n c) (vi a) (vi b) cv (vi i) (vi j) rg H3) K:=by
  intro rg H3 hB
  subst hK
  refine tl ?_
  simp only[PP,Nat.reduceBEq,aj hB.wf];with_reducible refine PU.of (au (by omega) (by omega)) ?_
  exact⟨(b -(i +1)).toNat,by omega,_,_,_,_,rfl,i +1,rfl,by omega,by omega,rfl,hB⟩
 refine tl ?_
 simp only[PP,Nat.reduceBEq,aj hB.wf]
 refine ah (fun hd=>?_) (fun hd=>?_)
 rotate_left
 ·refine⟨by kernel_rfl,?_⟩
  exact fin _ _ hB
 repeat(first|(simp only[PP,Nat.reduceBEq,aj hB.wf])|(with_reducible refine PU.of (ax (by omega) (by omega)) ?_)|(with_reducible refine PU.of (aI (by omega) (by omega)) ?_)|(with_reducible refine hB.xO (by omega) (by omega) fun za zb=>?_)|(with_reducible refine hcm.call hB fun zc Hn hB wE=>?_)|((with_reducible refine And.intro ?_ ?_);focus ((simp only[aA,aC,az wE]);kernel_rfl)))
 refine aB (fun hb=>?_) (fun hb=>?_)
 rotate_left
 ·exact fin _ _ hB
 refine tl ?_
 repeat(first|(simp only[PP,Nat.reduceBEq,aj hB.wf])|(with_reducible refine PU.of (ax (by omega) (by omega)) ?_)|(with_reducible refine PU.of (aI (by omega) (by omega)) ?_)|(with_reducible refine hB.xO (by omega) (by omega) fun za zb=>?_)|(with_reducible refine hB.KE (by omega) (by omega) fun Hn hB=>?_)|((with_reducible refine And.intro ?_ ?_);focus ((simp only[aA,aC,az wE]);kernel_rfl)))
 exact⟨(j -1 -a).toNat,by omega,_,_,_,rfl,j -1,rfl,by omega,by omega,rfl,hB⟩
theorem KV(hcm:mG cv)(hn:n≤16777216)(hB:Rg r ty n H0 H L)(a b:Int)(h1:0≤a)(h2:b≤n)(h3:a<b):
 ak Pg X 217 [sl r n c,vi a,vi b,cv] H fun v H'=>Rg r ty n H0 H' L:=by
 refine ce [0,1,2,3,8,9,10,11,12] ?_;refine tl ?_
 repeat(first|(with_reducible refine PU.of (ax (by omega) (by omega)) ?_)|(with_reducible refine PU.quo (by omega) (by omega) (by omega) fun qd hd1 hd2 hd3=>?_))
 refine xQ 11 (I:=fun m x9 H'=>∃i:Int,x9=vi i∧-1≤i∧i≤16777216∧m=(i +1).toNat∧Rg r ty n H0 H' L) ?_ _ ⟨_,rfl,by omega,by omega,rfl,hB⟩
 rintro m x9 rg H' ⟨i,rfl,h4,h5,hm,hB⟩
 refine tl ?_
 simp only[PP,Nat.reduceBEq,aj hB.wf]
 refine ah (fun hc=>?_) (fun hc=>?_)
 ·refine ak.mono (um hcm hn hB i (b -a) a (by omega) (by omega) (by omega) (by omega) (by omega)) ?_
  rintro v H2 hB
  with_reducible refine PU.of (ax (by omega) (by omega)) ?_
  exact⟨i.toNat,by omega,_,_,_,rfl,i -1,rfl,by omega,by omega,by omega,hB⟩
 refine tl ?_
 with_reducible refine PU.of (ax (by omega) (by omega)) ?_
 refine xQ 12 (I:=fun m aW H'=>∃i:Int,aW=vi i∧-1≤i∧i<b -a∧m=(i +1).toNat∧Rg r ty n H0 H' L) ?_ _ ⟨_,rfl,by omega,by omega,rfl,hB⟩
 rintro m aW rg H' ⟨i,rfl,h4,h5,hm,hB⟩
 refine tl ?_
 simp only[PP,Nat.reduceBEq,aj hB.wf]
 refine ah (fun hc=>?_) (fun hc=>?_)
 ·repeat(first|(simp only[PP,Nat.reduceBEq,aj hB.wf])|(with_reducible refine PU.of (au (by omega) (by omega)) ?_)|(with_reducible refine PU.of (aI (by omega) (by omega)) ?_)|(with_reducible refine hB.xO (by omega) (by omega) fun za zb=>?_)|(with_reducible refine hB.KE (by omega) (by omega) fun Hn hB=>?_)|((with_reducible refine And.intro ?_ ?_);focus ((try simp only[aA,aC,az (Ext.refl (hN _))]);kernel_rfl)))
  refine ak.mono (um hcm hn hB 0 i a (by omega) (by omega) (by omega) (by omega) (by omega)) ?_
  rintro v H2 hB
  with_reducible refine PU.of (ax (by omega) (by omega)) ?_
  exact⟨i.toNat,by omega,_,_,_,rfl,i -1,rfl,by omega,by omega,by omega,hB⟩
 ·refine rn ?_;exact hB
theorem DC(hcm:mG cv)(hn:n≤16777216)(hB:Rg r ty n H0 H L)(a b:Int)(h1:0≤a)(h2:b≤n)(h3:a≤b):
 ak Pg X 220 [sl r n c,vi a,vi b,cv] H fun v H'=>Rg r ty n H0 H' L:=by
 refine ce [0,1,2,8,9] ?_;refine tl ?_
 with_reducible refine PU.of (ax (by omega) (by omega)) ?_
 refine lp2 8 9 (I:=fun m x6 x7 H'=>∃i j:Int,x6=vi i∧x7=vi j∧a≤i∧j<b∧i≤16777218∧-2≤j∧m=(j -i).toNat∧Rg r ty n H0 H' L) ?_ _ ⟨_,_,rfl,rfl,by omega,by omega,by omega,by omega,rfl,hB⟩
 rintro m x6 x7 rg H' ⟨i,j,rfl,rfl,h4,h5,h6,h7,hm,hB⟩
 refine tl ?_
 simp only[PP,Nat.reduceBEq,aj hB.wf]
 refine ah (fun hc=>?_) (fun hc=>?_)
 ·repeat(first|(simp only[PP,Nat.reduceBEq,aj hB.wf])|(with_reducible refine PU.of (au (by omega) (by omega)) ?_)|(with_reducible refine PU.of (ax (by omega) (by omega)) ?_)|(with_reducible refine PU.of (aI (by omega) (by omega)) ?_)|(with_reducible refine hB.xO (by omega) (by omega) fun za zb=>?_)|(with_reducible refine hB.KE (by omega) (by omega) fun Hn hB=>?_)|((with_reducible refine And.intro ?_ ?_);focus ((try simp only[aA,aC,az (Ext.refl (hN _))]);kernel_rfl)))
  exact⟨(j -1 -(i +1)).toNat,by omega,_,_,_,_,rfl,i +1,j -1,rfl,rfl,by omega,by omega,by omega,by omega,rfl,hB⟩
 ·refine rn ?_;exact hB
theorem F6(hcm:mG cv)(hn:n≤16777216)(hB:Rg r ty n H0 H L)(a b:Int)(h1:0≤a)(h2:b≤n)(h3:a +12<b):
 ak Pg X 219 [sl r n c,vi a,vi b,cv] H fun v H'=>∃p h:Int,v=.tuple ⟨[vi p,vi h]⟩∧a<p∧p +1<b∧Rg r ty n H0 H' L:=by
 refine ce [0,1,2,3,8,9,10,11,12,13,14,55] ?_;refine tl ?_
 with_reducible refine PU.of (ax (by omega) (by omega)) ?_;simp only[PP,Nat.reduceBEq,aj hB.wf]
 refine hB.new fun H1 q hB=>?_
 repeat(first|(with_reducible refine PU.of (au (by omega) (by omega)) ?_)|(with_reducible refine PU.of (my (by omega) (by omega)) ?_)|(with_reducible refine PU.quo (by omega) (by omega) (by omega) fun qd hd1 hd2 hd3=>?_))
 rw[decide_eq_true (by omega)]
 simp only[PP,Nat.reduceBEq,aj hB.wf]
 have fin:∀(i j k s:Int) H2,(a<i∧i +1<b)→(a<j∧j +1<b)→(a<k∧k +1<b)→Rg r ty n H0 H2 ((q,3,[vi s])::L)→
  ak Pg X 226 [sl r n c,vi i,vi j,vi k,.pointer (some ⟨q,0,none⟩),cv] H2 fun v H'=>∃m s',v=vi m∧(a<m∧m +1<b)∧Rg r ty n H0 H' ((q,3,[vi s'])::L):=by
  intro i j k s H2 hi hj hk hB
  refine ak.mono (xY hcm hB i j k (by omega) (by omega) (by omega)) ?_
  rintro _ H3 ⟨m,s',rfl,hm,hB⟩
  exact⟨m,s',rfl,by omega,hB⟩
 refine ah (fun hc=>?_) (fun hc=>?_)
 ·refine ak.mono (mM hcm hn hB _ (by omega)) ?_
  rintro _ H2 ⟨m1,s1,rfl,h4,h5,hB⟩
  refine ak.mono (mM hcm hn hB _ (by omega)) ?_
  rintro _ H3 ⟨m2,s2,rfl,h6,h7,hB⟩
  refine ak.mono (mM hcm hn hB _ (by omega)) ?_
  rintro _ H4 ⟨m3,s3,rfl,h8,h9,hB⟩
  refine tl ?_
  refine ak.mono (fin _ _ _ _ _ (by omega) (by omega) (by omega) hB) ?_
  clear hc h4 h5 h6 h7 h8 h9 fin
  rintro _ H3 ⟨m,s',rfl,hm,hB⟩
  simp only[PP,Nat.reduceBEq,aj hB.wf]
  refine tl ?_
  refine hB.ld 0 rfl rfl ?_
  have hB2:=hB.drop
  simp only[PP,Nat.reduceBEq,aj hB.wf]
  refine ah (fun hc=>?_) (fun hc=>?_)
  ·refine rr ?_;exact⟨_,_,rfl,by omega,by omega,hB2⟩
  refine ah (fun hc=>?_) (fun hc=>?_)
  ·refine rr ?_;exact⟨_,_,rfl,by omega,by omega,hB2⟩
  ·refine rr ?_;exact⟨_,_,rfl,by omega,by omega,hB2⟩
 ·refine tl ?_
  refine ak.mono (fin _ _ _ _ _ (by omega) (by omega) (by omega) hB) ?_
  clear hc fin
  rintro _ H3 ⟨m,s',rfl,hm,hB⟩
  simp only[PP,Nat.reduceBEq,aj hB.wf]
  refine tl ?_
  refine hB.ld 0 rfl rfl ?_
  have hB2:=hB.drop
  simp only[PP,Nat.reduceBEq,aj hB.wf]
  refine ah (fun hc=>?_) (fun hc=>?_)
  ·refine rr ?_;exact⟨_,_,rfl,by omega,by omega,hB2⟩
  refine ah (fun hc=>?_) (fun hc=>?_)
  ·refine rr ?_;exact⟨_,_,rfl,by omega,by omega,hB2⟩
  ·refine rr ?_;exact⟨_,_,rfl,by omega,by omega,hB2⟩
end Go.Proofs.Lu
set_option maxRecDepth 100000
set_option maxHeartbeats 4000000
namespace Go.Proofs.Lu
open Go.Ae Go.Ae.M
variable{H0 H:aa}{L:List aL}{r:Nat}{ty:TypeId}{n c:Nat}{cv:Value}
theorem DD(hcm:mG cv)(hn:n≤16777216)(hB:Rg r ty n H0 H L)(a b:Int)(h1:0≤a)(h2:b≤n)(h3:a<b):
 ak Pg X 221 [sl r n c,vi a,vi b,cv] H fun v H'=>Zx v∧Rg r ty n H0 H' L:=by
 refine ce [0,1,2,3,8,9,10,11,12] ?_;refine tl ?_
 with_reducible refine PU.of (au (by omega) (by omega)) ?_
 refine TB 8 9 10 11 12 (I:=fun m x6 x7 x8 x9 aW H'=>∃i j:Int,x7=vi i∧x8=vi j∧a<i∧i≤b∧j≤5∧0≤j∧m=(5 -j).toNat∧Rg r ty n H0 H' L) ?_ _ ⟨_,_,rfl,rfl,by omega,by omega,by omega,by omega,rfl,hB⟩
 rintro m x6 x7 x8 x9 aW rg H' ⟨i,j,rfl,rfl,h4,h5,h6,h6',hm,hB⟩
 refine aS.kH fun K hK=>?_
 refine tl ?_
 simp only[PP,Nat.reduceBEq,aj hB.wf]
 refine ah (fun hc=>?_) (fun hc=>?_)
 rotate_left
 ·subst hK
  simp only[PP,Nat.reduceBEq,aj hB.wf]
  refine tl ?_
  refine rr ?_;exact⟨⟨_,rfl⟩,hB⟩
 refine xQ 9 (I:=fun m x7 H'=>∃i:Int,x7=vi i∧a<i∧i≤b∧m=(b -i).toNat∧Rg r ty n H0 H' L) ?_ _ ⟨_,rfl,by omega,by omega,rfl,hB⟩
 rintro m2 x7 rg H2 ⟨i,rfl,h7,h8,hm2,hB⟩
 clear h4 h5
 have fin:∀x9 aW rg H3,i<b→Rg r ty n H0 H3 L→aS Pg X (sub aN [1,1,0,1,0,0,1,1]) (bC (sl r n c) (vi a) (vi b) cv x6 (vi i) (vi j) x9 aW rg H3) K:=by
  intro x9 aW rg H3 hib hB
  subst hK
  refine tl ?_
  simp only[PP,Nat.reduceBEq,aj hB.wf];with_reducible refine PU.of (au (by omega) (by omega)) ?_
  exact⟨(5 -(j +1)).toNat,by omega,_,_,_,_,_,_,_,rfl,i,j +1,rfl,rfl,by omega,by omega,by omega,by omega,rfl,hB⟩
 have lp2:∀x9 rg H3,i<b→Rg r ty n H0 H3 L→aS Pg X (.loop (sub aN [1,1,0,1,0,0,1,0,0,1,1,1,1,1,1,0,1,0,0])) (bC (sl r n c) (vi a) (vi b) cv x6 (vi i) (vi j) x9 (vi (i +1)) rg H3) (iq 6 (iq 1 (kP Pg X (sub aN [1,1,0,1,0,0,1,1]) K))):=by
  intro x9 rg H3 hib hB
  refine xQ 12 (I:=fun m aW H'=>∃k:Int,aW=vi k∧i<k∧k≤b∧m=(b -k).toNat∧Rg r ty n H0 H' L) ?_ _ ⟨_,rfl,by omega,by omega,rfl,hB⟩
  rintro m3 aW rg H4 ⟨k,rfl,h9,h10,I_,hB⟩
  refine tl ?_
  simp only[PP,Nat.reduceBEq,aj hB.wf]
  refine ah (fun he=>?_) (fun he=>?_)
  rotate_left
  ·exact fin _ _ _ _ hib hB
  repeat(first|(simp only[PP,Nat.reduceBEq,aj hB.wf])|(with_reducible refine PU.of (ax (by omega) (by omega)) ?_)|(with_reducible refine PU.of (aI (by omega) (by omega)) ?_)|(with_reducible refine hB.xO (by omega) (by omega) fun za zb=>?_)|(with_reducible refine hcm.call hB fun zc Hn hB wE=>?_)|((with_reducible refine And.intro ?_ ?_);focus ((simp only[aA,aC,az wE]);kernel_rfl)))
  refine aB (fun hb=>?_) (fun hb=>?_)
  ·exact fin _ _ _ _ hib hB
  repeat(first|(simp only[PP,Nat.reduceBEq,aj hB.wf])|(with_reducible refine PU.of (au (by omega) (by omega)) ?_)|(with_reducible refine PU.of (ax (by omega) (by omega)) ?_)|(with_reducible refine PU.of (aI (by omega) (by omega)) ?_)|(with_reducible refine hB.xO (by omega) (by omega) fun za zb=>?_)|(with_reducible refine hB.KE (by omega) (by omega) fun Hn hB=>?_)|((with_reducible refine And.intro ?_ ?_);focus ((simp only[aA,aC,az wE]);kernel_rfl)))
  exact⟨(b -(k +1)).toNat,by omega,_,_,_,rfl,k +1,rfl,by omega,by omega,rfl,hB⟩
 have kM:∀x9 rg H3,i<b→Rg r ty n H0 H3 L→aS Pg X (sub aN [1,1,0,1,0,0,1,0,0,1,1,1,1,1]) (bC (sl r n c) (vi a) (vi b) cv x6 (vi i) (vi j) x9 aW rg H3) (iq 1 (kP Pg X (sub aN [1,1,0,1,0,0,1,1]) K)):=by
  intro x9 rg H3 hib hB
  refine tl ?_
  repeat(first|(simp only[PP,Nat.reduceBEq,aj hB.wf])|(with_reducible refine PU.of (ax (by omega) (by omega)) ?_))
  refine ah (fun hd=>?_) (fun hd=>?_)
  rotate_left
  ·exact fin _ _ _ _ hib hB
  with_reducible refine PU.of (au (by omega) (by omega)) ?_
  exact lp2 _ _ _ hib hB
 have qo:∀rg H3,Rg r ty n H0 H3 L→aS Pg X (sub aN [1,1,0,1,0,0,1,0,0,1]) (bC (sl r n c) (vi a) (vi b) cv x6 (vi i) (vi j) x9 aW rg H3) (iq 1 (kP Pg X (sub aN [1,1,0,1,0,0,1,1]) K)):=by
  intro rg H3 hB
  refine tl ?_
  simp only[PP,Nat.reduceBEq,aj hB.wf]
  refine ah (fun hd=>?_) (fun hd=>?_)
  ·subst hK
   simp only[PP,Nat.reduceBEq,aj hB.wf]
   refine rr ?_;exact⟨⟨_,rfl⟩,hB⟩
  with_reducible refine PU.of (ax (by omega) (by omega)) ?_;simp only[PP,Nat.reduceBEq,aj hB.wf]
  refine ah (fun he=>?_) (fun he=>?_)
  ·subst hK
   simp only[PP,Nat.reduceBEq,aj hB.wf]
   refine rr ?_;exact⟨⟨_,rfl⟩,hB⟩
  repeat(first|(simp only[PP,Nat.reduceBEq,aj hB.wf])|(with_reducible refine PU.of (ax (by omega) (by omega)) ?_)|(with_reducible refine PU.of (aI (by omega) (by omega)) ?_)|(with_reducible refine hB.xO (by omega) (by omega) fun za zb=>?_)|(with_reducible refine hB.KE (by omega) (by omega) fun Hn hB=>?_)|((with_reducible refine And.intro ?_ ?_);focus ((try simp only[aA,aC,az (Ext.refl (hN _))]);kernel_rfl)))
  refine ah (fun hg=>?_) (fun hg=>?_)
  rotate_left
  ·with_reducible refine PU.of (ax (by omega) (by omega)) ?_;simp only[PP,Nat.reduceBEq,aj hB.wf]
   refine ah (fun hd=>?_) (fun hd=>?_)
   rotate_left
   ·exact fin _ _ _ _ (by omega) hB
   with_reducible refine PU.of (au (by omega) (by omega)) ?_
   exact lp2 _ _ _ (by omega) hB
  with_reducible refine PU.of (ax (by omega) (by omega)) ?_
  refine xQ 11 (I:=fun m x9 H'=>∃k:Int,x9=vi k∧0≤k∧k<i∧m=k.toNat∧Rg r ty n H0 H' L) ?_ _ ⟨_,rfl,by omega,by omega,rfl,hB⟩
  rintro m3 x9 rg H4 ⟨k,rfl,h9,h10,I_,hB⟩
  refine tl ?_
  simp only[PP,Nat.reduceBEq,aj hB.wf]
  refine ah (fun he=>?_) (fun he=>?_)
  rotate_left
  ·exact kM _ _ _ (by omega) hB
  repeat(first|(simp only[PP,Nat.reduceBEq,aj hB.wf])|(with_reducible refine PU.of (ax (by omega) (by omega)) ?_)|(with_reducible refine PU.of (aI (by omega) (by omega)) ?_)|(with_reducible refine hB.xO (by omega) (by omega) fun za zb=>?_)|(with_reducible refine hcm.call hB fun zc Hn hB wE=>?_)|((with_reducible refine And.intro ?_ ?_);focus ((simp only[aA,aC,az wE]);kernel_rfl)))
  refine aB (fun hb=>?_) (fun hb=>?_)
  ·exact kM _ _ _ (by omega) hB
  repeat(first|(simp only[PP,Nat.reduceBEq,aj hB.wf])|(with_reducible refine PU.of (ax (by omega) (by omega)) ?_)|(with_reducible refine PU.of (aI (by omega) (by omega)) ?_)|(with_reducible refine hB.xO (by omega) (by omega) fun za zb=>?_)|(with_reducible refine hB.KE (by omega) (by omega) fun Hn hB=>?_)|((with_reducible refine And.intro ?_ ?_);focus ((simp only[aA,aC,az wE]);kernel_rfl)))
  exact⟨(k -1).toNat,by omega,_,_,_,rfl,k -1,rfl,by omega,by omega,rfl,hB⟩
 refine tl ?_
 simp only[PP,Nat.reduceBEq,aj hB.wf]
 refine ah (fun hd=>?_) (fun hd=>?_)
 rotate_left
 ·refine⟨by kernel_rfl,?_⟩
  exact qo _ _ hB
 repeat(first|(simp only[PP,Nat.reduceBEq,aj hB.wf])|(with_reducible refine PU.of (ax (by omega) (by omega)) ?_)|(with_reducible refine PU.of (aI (by omega) (by omega)) ?_)|(with_reducible refine hB.xO (by omega) (by omega) fun za zb=>?_)|(with_reducible refine hcm.call hB fun zc Hn hB wE=>?_)|((with_reducible refine And.intro ?_ ?_);focus ((simp only[aA,aC,az wE]);kernel_rfl)))
 refine aB (fun hb=>?_) (fun hb=>?_)
 rotate_left
 ·exact qo _ _ hB
 with_reducible refine PU.of (au (by omega) (by omega)) ?_
 exact⟨(b -(i +1)).toNat,by omega,_,_,_,rfl,i +1,rfl,by omega,by omega,rfl,hB⟩
theorem F7(hcm:mG cv)(hn:n≤16777216)(hB:Rg r ty n H0 H L)(a b p:Int)(h1:0≤a)(h2:b≤n)(h3:a<b)(hp:a≤p∧p<b):
 ak Pg X 222 [sl r n c,vi a,vi b,vi p,cv] H fun v H'=>∃i:Int,v=vi i∧a<i∧i≤b +1∧Rg r ty n H0 H' L:=by
 refine ce [0,1,2,3,4,10,11,12] ?_;refine tl ?_
 repeat(first|(simp only[PP,Nat.reduceBEq,aj hB.wf])|(with_reducible refine PU.of (au (by omega) (by omega)) ?_)|(with_reducible refine PU.of (ax (by omega) (by omega)) ?_)|(with_reducible refine PU.of (aI (by omega) (by omega)) ?_)|(with_reducible refine hB.xO (by omega) (by omega) fun za zb=>?_)|(with_reducible refine hB.KE (by omega) (by omega) fun Hn hB=>?_)|((with_reducible refine And.intro ?_ ?_);focus ((try simp only[aA,aC,az (Ext.refl (hN _))]);kernel_rfl)))
 refine lp2 11 12 (I:=fun m x9 aW H'=>∃i j:Int,x9=vi i∧aW=vi j∧a<i∧i≤b +1∧j<b∧i -2≤j∧m=(j +2 -i).toNat∧Rg r ty n H0 H' L) ?_ _ ⟨_,_,rfl,rfl,by omega,by omega,by omega,by omega,rfl,hB⟩
 rintro m x9 aW rg H1 ⟨i,j,rfl,rfl,h4,h5,h6,h7,hm,hB⟩
 refine aS.kH fun K hK=>?_
 have kM:∀(i2 j2:Int) rg H3,i≤i2→j2≤j→i2 -2≤j2→i2≤b +1→Rg r ty n H0 H3 L→aS Pg X (sub gP [1,1,1,0,0,0,0,1,1]) (gF (sl r n c) (vi a) (vi b) (vi p) cv (vi 0) (vi i2) (vi j2) rg H3) (iq 1 K):=by
  intro i2 j2 rg H3 g1 g2 g3 g4 hB
  subst hK
  refine tl ?_
  simp only[PP,Nat.reduceBEq,aj hB.wf]
  refine ah (fun hd=>?_) (fun hd=>?_)
  ·refine tl ?_
   refine rr ?_;exact⟨_,rfl,by omega,by omega,hB⟩
  repeat(first|(simp only[PP,Nat.reduceBEq,aj hB.wf])|(with_reducible refine PU.of (au (by omega) (by omega)) ?_)|(with_reducible refine PU.of (ax (by omega) (by omega)) ?_)|(with_reducible refine PU.of (aI (by omega) (by omega)) ?_)|(with_reducible refine hB.xO (by omega) (by omega) fun za zb=>?_)|(with_reducible refine hB.KE (by omega) (by omega) fun Hn hB=>?_)|((with_reducible refine And.intro ?_ ?_);focus ((try simp only[aA,aC,az (Ext.refl (hN _))]);kernel_rfl)))
  exact⟨(j2 -1 +2 -(i2 +1)).toNat,by omega,_,_,_,_,rfl,i2 +1,j2 -1,rfl,rfl,by omega,by omega,by omega,by omega,rfl,hB⟩
 have qo:∀(i2:Int) rg H3,i≤i2→i2 -2≤j→i2≤b +1→Rg r ty n H0 H3 L→aS Pg X (sub gP [1,1,1,0,0,0,0,1]) (gF (sl r n c) (vi a) (vi b) (vi p) cv (vi 0) (vi i2) (vi j) rg H3) (iq 1 K):=by
  intro i2 rg H3 g1 g2 g3 hB
  refine tl ?_
  refine xQ 12 (I:=fun m aW H'=>∃j2:Int,aW=vi j2∧j2≤j∧i2 -2≤j2∧m=(j2 +2 -i2).toNat∧Rg r ty n H0 H' L) ?_ _ ⟨_,rfl,by omega,by omega,rfl,hB⟩
  rintro m3 aW rg H4 ⟨j2,rfl,h9,h10,I_,hB⟩
  refine tl ?_
  simp only[PP,Nat.reduceBEq,aj hB.wf]
  refine ah (fun he=>?_) (fun he=>?_)
  rotate_left
  ·refine⟨by kernel_rfl,?_⟩
   exact kM _ _ _ _ (by omega) (by omega) (by omega) (by omega) hB
  repeat(first|(simp only[PP,Nat.reduceBEq,aj hB.wf])|(with_reducible refine PU.of (aI (by omega) (by omega)) ?_)|(with_reducible refine hB.xO (by omega) (by omega) fun za zb=>?_)|(with_reducible refine hcm.call hB fun zc Hn hB wE=>?_)|((with_reducible refine And.intro ?_ ?_);focus ((simp only[aA,aC,az wE]);kernel_rfl)))
  refine aB (fun hb=>?_) (fun hb=>?_)
  rotate_left
  ·exact kM _ _ _ _ (by omega) (by omega) (by omega) (by omega) hB
  with_reducible refine PU.of (ax (by omega) (by omega)) ?_
  exact⟨(j2 -1 +2 -i2).toNat,by omega,_,_,_,rfl,j2 -1,rfl,by omega,by omega,rfl,hB⟩
 refine tl ?_
 refine xQ 11 (I:=fun m x9 H'=>∃i2:Int,x9=vi i2∧i≤i2∧i2 -2≤j∧i2≤b +1∧m=(j +2 -i2).toNat∧Rg r ty n H0 H' L) ?_ _ ⟨_,rfl,by omega,by omega,by omega,rfl,hB⟩
 rintro m3 x9 rg H4 ⟨i2,rfl,h9,h10,h11,I_,hB⟩
 refine tl ?_
 simp only[PP,Nat.reduceBEq,aj hB.wf]
 refine ah (fun he=>?_) (fun he=>?_)
 rotate_left
 ·refine⟨by kernel_rfl,?_⟩
  exact qo _ _ _ (by omega) (by omega) (by omega) hB
 repeat(first|(simp only[PP,Nat.reduceBEq,aj hB.wf])|(with_reducible refine PU.of (aI (by omega) (by omega)) ?_)|(with_reducible refine hB.xO (by omega) (by omega) fun za zb=>?_)|(with_reducible refine hcm.call hB fun zc Hn hB wE=>?_)|((with_reducible refine And.intro ?_ ?_);focus ((simp only[aA,aC,az wE]);kernel_rfl)))
 refine aB (fun hb=>?_) (fun hb=>?_)
 rotate_left
 ·exact qo _ _ _ (by omega) (by omega) (by omega) hB
 with_reducible refine PU.of (au (by omega) (by omega)) ?_
 exact⟨(j +2 -(i2 +1)).toNat,by omega,_,_,_,rfl,i2 +1,rfl,by omega,by omega,by omega,rfl,hB⟩
theorem KW(hcm:mG cv)(hn:n≤16777216)(hB:Rg r ty n H0 H L)(a b p:Int)(h1:0≤a)(h2:b≤n)(h3:a<b)(hp:a≤p∧p<b):
 ak Pg X 223 [sl r n c,vi a,vi b,vi p,cv] H fun v H'=>∃(i:Int)(f:Bool),v=.tuple ⟨[vi i,.bool f]⟩∧a≤i∧i<b∧Rg r ty n H0 H' L:=by
 refine ce [0,1,2,3,4,10,11,12,13] ?_;refine tl ?_
 repeat(first|(simp only[PP,Nat.reduceBEq,aj hB.wf])|(with_reducible refine PU.of (au (by omega) (by omega)) ?_)|(with_reducible refine PU.of (ax (by omega) (by omega)) ?_)|(with_reducible refine PU.of (aI (by omega) (by omega)) ?_)|(with_reducible refine hB.xO (by omega) (by omega) fun za zb=>?_)|(with_reducible refine hB.KE (by omega) (by omega) fun Hn hB=>?_)|((with_reducible refine And.intro ?_ ?_);focus ((try simp only[aA,aC,az (Ext.refl (hN _))]);kernel_rfl)))
 refine aS.kH fun K hK=>?_
 have out:∀(i j:Int) x8 x9 rg H3,a≤j→j<b→Rg r ty n H0 H3 L→aS Pg X (sub bn [1,1,1,1,1,1,1,1,1,1]) (bE (sl r n c) (vi a) (vi b) (vi p) cv x8 x9 (vi i) (vi j) rg H3) (cB Pg [.tmp 10,.tmp 11] fun v H'=>∃(i:Int)(f:Bool),v=.tuple ⟨[vi i,.bool f]⟩∧a≤i∧i<b∧Rg r ty n H0 H' L):=by
  intro i j x8 x9 rg H3 g1 g2 hB
  refine tl ?_
  repeat(first|(simp only[PP,Nat.reduceBEq,aj hB.wf])|(with_reducible refine PU.of (aI (by omega) (by omega)) ?_)|(with_reducible refine hB.xO (by omega) (by omega) fun za zb=>?_)|(with_reducible refine hB.KE (by omega) (by omega) fun Hn hB=>?_)|((with_reducible refine And.intro ?_ ?_);focus ((try simp only[aA,aC,az (Ext.refl (hN _))]);kernel_rfl)))
  refine rr ?_;exact⟨_,_,rfl,by omega,by omega,hB⟩
 have lp:∀(i j:Int) x8 x9 rg H3,a<i→j<b→a≤j→i -2≤j→Rg r ty n H0 H3 L→aS Pg X (.loop (sub bn [1,1,1,1,1,1,1,1,1,0,0,0])) (bE (sl r n c) (vi a) (vi b) (vi p) cv x8 x9 (vi i) (vi j) rg H3) (iq 4 (kP Pg X (sub bn [1,1,1,1,1,1,1,1,1,1]) (cB Pg [.tmp 10,.tmp 11] fun v H'=>∃(i:Int)(f:Bool),v=.tuple ⟨[vi i,.bool f]⟩∧a≤i∧i<b∧Rg r ty n H0 H' L))):=by
  intro i j x8 x9 rg H3 g1 g2 g3 g4 hB
  refine lp2 12 13 (I:=fun m aW a_ H'=>∃i j:Int,aW=vi i∧a_=vi j∧a<i∧j<b∧a≤j∧i -2≤j∧m=(j +2 -i).toNat∧Rg r ty n H0 H' L) ?_ _ ⟨_,_,rfl,rfl,g1,g2,g3,g4,rfl,hB⟩
  clear g1 g2 g3 g4 hB i j
  rintro m aW a_ rg H1 ⟨i,j,rfl,rfl,h4,h5,h6,h7,hm,hB⟩
  refine aS.kH fun K hK=>?_
  have kM:∀(i2 j2:Int) rg H3,i≤i2→j2≤j→i2 -2≤j2→a≤j2→Rg r ty n H0 H3 L→aS Pg X (sub bn [1,1,1,1,1,1,1,1,1,0,0,0,0,1,1]) (bE (sl r n c) (vi a) (vi b) (vi p) cv x8 x9 (vi i2) (vi j2) rg H3) (iq 5 K):=by
   intro i2 j2 rg H3 g1 g2 g3 g4 hB
   subst hK
   refine tl ?_
   simp only[PP,Nat.reduceBEq,aj hB.wf]
   refine ah (fun hd=>?_) (fun hd=>?_)
   ·exact out _ _ _ _ _ _ (by omega) (by omega) hB
   repeat(first|(simp only[PP,Nat.reduceBEq,aj hB.wf])|(with_reducible refine PU.of (au (by omega) (by omega)) ?_)|(with_reducible refine PU.of (ax (by omega) (by omega)) ?_)|(with_reducible refine PU.of (aI (by omega) (by omega)) ?_)|(with_reducible refine hB.xO (by omega) (by omega) fun za zb=>?_)|(with_reducible refine hB.KE (by omega) (by omega) fun Hn hB=>?_)|((with_reducible refine And.intro ?_ ?_);focus ((try simp only[aA,aC,az (Ext.refl (hN _))]);kernel_rfl)))
   exact⟨(j2 -1 +2 -(i2 +1)).toNat,by omega,_,_,_,_,rfl,i2 +1,j2 -1,rfl,rfl,by omega,by omega,by omega,by omega,rfl,hB⟩
  have qo:∀(i2:Int) rg H3,i≤i2→i2 -2≤j→Rg r ty n H0 H3 L→aS Pg X (sub bn [1,1,1,1,1,1,1,1,1,0,0,0,0,1]) (bE (sl r n c) (vi a) (vi b) (vi p) cv x8 x9 (vi i2) (vi j) rg H3) (iq 5 K):=by
   intro i2 rg H3 g1 g2 hB
   refine tl ?_
   refine xQ 13 (I:=fun m aW H'=>∃j2:Int,aW=vi j2∧j2≤j∧i2 -2≤j2∧a≤j2∧m=(j2 +2 -i2).toNat∧Rg r ty n H0 H' L) ?_ _ ⟨_,rfl,by omega,by omega,by omega,rfl,hB⟩
   rintro m3 aW rg H4 ⟨j2,rfl,h9,h10,h11,I_,hB⟩
   refine tl ?_
   simp only[PP,Nat.reduceBEq,aj hB.wf]
   refine ah (fun he=>?_) (fun he=>?_)
   rotate_left
   ·refine⟨by kernel_rfl,?_⟩
    exact kM _ _ _ _ (by omega) (by omega) (by omega) (by omega) hB
   repeat(first|(simp only[PP,Nat.reduceBEq,aj hB.wf])|(with_reducible refine PU.of (aI (by omega) (by omega)) ?_)|(with_reducible refine hB.xO (by omega) (by omega) fun za zb=>?_)|(with_reducible refine hcm.call hB fun zc Hn hB wE=>?_)|((with_reducible refine And.intro ?_ ?_);focus ((simp only[aA,aC,az wE]);kernel_rfl)))
   refine aB (fun hb=>?_) (fun hb=>?_)
   rotate_left
   ·exact kM _ _ _ _ (by omega) (by omega) (by omega) (by omega) hB
   with_reducible refine PU.of (ax (by omega) (by omega)) ?_
   exact⟨(j2 -1 +2 -i2).toNat,by omega,_,_,_,rfl,j2 -1,rfl,by omega,by omega,by omega,rfl,hB⟩
  refine tl ?_
  refine xQ 12 (I:=fun m x9 H'=>∃i2:Int,x9=vi i2∧i≤i2∧i2 -2≤j∧m=(j +2 -i2).toNat∧Rg r ty n H0 H' L) ?_ _ ⟨_,rfl,by omega,by omega,rfl,hB⟩
  rintro m3 x9 rg H4 ⟨i2,rfl,h9,h10,I_,hB⟩
  refine tl ?_
  simp only[PP,Nat.reduceBEq,aj hB.wf]
  refine ah (fun he=>?_) (fun he=>?_)
  rotate_left
  ·refine⟨by kernel_rfl,?_⟩
   exact qo _ _ _ (by omega) (by omega) hB
  repeat(first|(simp only[PP,Nat.reduceBEq,aj hB.wf])|(with_reducible refine PU.of (aI (by omega) (by omega)) ?_)|(with_reducible refine hB.xO (by omega) (by omega) fun za zb=>?_)|(with_reducible refine hcm.call hB fun zc Hn hB wE=>?_)|((with_reducible refine And.intro ?_ ?_);focus ((simp only[aA,aC,az wE]);kernel_rfl)))
  refine aB (fun hb=>?_) (fun hb=>?_)
  rotate_left
  ·exact qo _ _ _ (by omega) (by omega) hB
  with_reducible refine PU.of (au (by omega) (by omega)) ?_
  exact⟨(j +2 -(i2 +1)).toNat,by omega,_,_,_,rfl,i2 +1,rfl,by omega,by omega,rfl,hB⟩
 subst hK
 have TP:∀(i j:Int) x8 x9 rg H3,a<i→j<b→a≤j→i -2≤j→Rg r ty n H0 H3 L→aS Pg X (sub bn [1,1,1,1,1]) (bE (sl r n c) (vi a) (vi b) (vi p) cv x8 x9 (vi i) (vi j) rg H3) (cB Pg [.tmp 10,.tmp 11] fun v H'=>∃(i:Int)(f:Bool),v=.tuple ⟨[vi i,.bool f]⟩∧a≤i∧i<b∧Rg r ty n H0 H' L):=by
  intro i j x8 x9 rg H3 g1 g2 g3 g4 hB
  refine tl ?_
  simp only[PP,Nat.reduceBEq,aj hB.wf]
  refine ah (fun he=>?_) (fun he=>?_)
  ·repeat(first|(simp only[PP,Nat.reduceBEq,aj hB.wf])|(with_reducible refine PU.of (aI (by omega) (by omega)) ?_)|(with_reducible refine hB.xO (by omega) (by omega) fun za zb=>?_)|(with_reducible refine hB.KE (by omega) (by omega) fun Hn hB=>?_)|((with_reducible refine And.intro ?_ ?_);focus ((try simp only[aA,aC,az (Ext.refl (hN _))]);kernel_rfl)))
   refine rr ?_;exact⟨_,_,rfl,by omega,by omega,hB⟩
  repeat(first|(simp only[PP,Nat.reduceBEq,aj hB.wf])|(with_reducible refine PU.of (au (by omega) (by omega)) ?_)|(with_reducible refine PU.of (ax (by omega) (by omega)) ?_)|(with_reducible refine PU.of (aI (by omega) (by omega)) ?_)|(with_reducible refine hB.xO (by omega) (by omega) fun za zb=>?_)|(with_reducible refine hB.KE (by omega) (by omega) fun Hn hB=>?_)|((with_reducible refine And.intro ?_ ?_);focus ((try simp only[aA,aC,az (Ext.refl (hN _))]);kernel_rfl)))
  exact lp (i +1) (j -1) _ _ _ _ (by omega) (by omega) (by omega) (by omega) hB
 have TQ:∀(i:Int) x8 x9 rg H3,a<i→i≤b→Rg r ty n H0 H3 L→aS Pg X (sub bn [1,1,1,1]) (bE (sl r n c) (vi a) (vi b) (vi p) cv x8 x9 (vi i) (vi (b -1)) rg H3) (cB Pg [.tmp 10,.tmp 11] fun v H'=>∃(i:Int)(f:Bool),v=.tuple ⟨[vi i,.bool f]⟩∧a≤i∧i<b∧Rg r ty n H0 H' L):=by
  intro i x8 x9 rg H3 g1 g2 hB
  refine tl ?_
  refine xQ 13 (I:=fun m aW H'=>∃j2:Int,aW=vi j2∧j2<b∧i -2≤j2∧a≤j2∧m=(j2 +2 -i).toNat∧Rg r ty n H0 H' L) ?_ _ ⟨_,rfl,by omega,by omega,by omega,rfl,hB⟩
  rintro m3 aW rg H4 ⟨j2,rfl,h9,h10,h11,I_,hB⟩
  refine tl ?_
  simp only[PP,Nat.reduceBEq,aj hB.wf]
  refine ah (fun he=>?_) (fun he=>?_)
  rotate_left
  ·refine⟨by kernel_rfl,?_⟩
   exact TP _ _ _ _ _ _ (by omega) (by omega) (by omega) (by omega) hB
  repeat(first|(simp only[PP,Nat.reduceBEq,aj hB.wf])|(with_reducible refine PU.of (aI (by omega) (by omega)) ?_)|(with_reducible refine hB.xO (by omega) (by omega) fun za zb=>?_)|(with_reducible refine hcm.call hB fun zc Hn hB wE=>?_)|((with_reducible refine And.intro ?_ ?_);focus ((simp only[aA,aC,az wE]);kernel_rfl)))
  refine aB (fun hb=>?_) (fun hb=>?_)
  rotate_left
  ·exact TP _ _ _ _ _ _ (by omega) (by omega) (by omega) (by omega) hB
  with_reducible refine PU.of (ax (by omega) (by omega)) ?_
  exact⟨(j2 -1 +2 -i).toNat,by omega,_,_,_,rfl,j2 -1,rfl,by omega,by omega,by omega,rfl,hB⟩
 refine xQ 12 (I:=fun m x9 H'=>∃i2:Int,x9=vi i2∧a<i2∧i2≤b∧m=(b -i2).toNat∧Rg r ty n H0 H' L) ?_ _ ⟨_,rfl,by omega,by omega,rfl,hB⟩
 rintro m3 x9 rg H4 ⟨i2,rfl,h9,h10,I_,hB⟩
 refine tl ?_
 simp only[PP,Nat.reduceBEq,aj hB.wf]
 refine ah (fun he=>?_) (fun he=>?_)
 rotate_left
 ·refine⟨by kernel_rfl,?_⟩
  exact TQ _ _ _ _ _ (by omega) (by omega) hB
 repeat(first|(simp only[PP,Nat.reduceBEq,aj hB.wf])|(with_reducible refine PU.of (aI (by omega) (by omega)) ?_)|(with_reducible refine hB.xO (by omega) (by omega) fun za zb=>?_)|(with_reducible refine hcm.call hB fun zc Hn hB wE=>?_)|((with_reducible refine And.intro ?_ ?_);focus ((simp only[aA,aC,az wE]);kernel_rfl)))
 refine aB (fun hb=>?_) (fun hb=>?_)
 rotate_left
 ·exact TQ _ _ _ _ _ (by omega) (by omega) hB
 with_reducible refine PU.of (au (by omega) (by omega)) ?_
 exact⟨(b -(i2 +1)).toNat,by omega,_,_,_,rfl,i2 +1,rfl,by omega,by omega,rfl,hB⟩
end Go.Proofs.Lu
set_option maxRecDepth 100000
set_option maxHeartbeats 4000000
namespace Go.Proofs.Lu
open Go.Ae Go.Ae.M
variable{H0 H:aa}{L:List aL}{r:Nat}{ty:TypeId}{n c:Nat}{cv:Value}
theorem CB{q:Nat}{s:Int}(hB:Rg r ty n H0 H ((q,232,[.int .u64 s])::L)):
 ak Pg X 168 [.pointer (some ⟨q,0,none⟩)] H fun v H'=>∃z,v=.int .u64 z∧Rg r ty n H0 H' ((q,232,[.int .u64 z])::L):=by
 refine ce [0,2] ?_;refine tl ?_
 simp only[PP,Nat.reduceBEq]
 refine hB.xM 0 rfl rfl ?_
 (try simp only[aj hB.wf,dI,dZ])
 refine hB.xM 0 rfl rfl ?_
 refine PU.of (p_ (by omega)) ?_
 refine PU.of nN ?_
 (try simp only[aj hB.wf,dI,dZ])
 refine hB.Qb 0 rfl rfl (Nat.le_of_ble_eq_true rfl) rfl fun Hn hB=>?_
 refine And.intro (by simp only[aA,aC];kernel_rfl) ?_
 (try simp only[aj hB.wf,dI,dZ])
 refine hB.xM 0 rfl rfl ?_
 (try simp only[aj hB.wf,dI,dZ])
 refine hB.xM 0 rfl rfl ?_
 refine PU.of (iZ (by omega)) ?_
 refine PU.of nN ?_
 (try simp only[aj hB.wf,dI,dZ])
 refine hB.Qb 0 rfl rfl (Nat.le_of_ble_eq_true rfl) rfl fun Hn hB=>?_
 refine And.intro (by simp only[aA,aC];kernel_rfl) ?_
 (try simp only[aj hB.wf,dI,dZ])
 refine hB.xM 0 rfl rfl ?_
 (try simp only[aj hB.wf,dI,dZ])
 refine hB.xM 0 rfl rfl ?_
 refine PU.of (p_ (by omega)) ?_
 refine PU.of nN ?_
 (try simp only[aj hB.wf,dI,dZ])
 refine hB.Qb 0 rfl rfl (Nat.le_of_ble_eq_true rfl) rfl fun Hn hB=>?_
 refine And.intro (by simp only[aA,aC];kernel_rfl) ?_
 (try simp only[aj hB.wf,dI,dZ])
 refine hB.ld 0 rfl rfl ?_
 refine rr ?_;exact⟨_,rfl,hB⟩
theorem F8(hcm:mG cv)(hn:n≤1000000)(hB:Rg r ty n H0 H L)(a b:Int)(h1:0≤a)(h2:b≤n)(h3:a +12<b):
 ak Pg X 218 [sl r n c,vi a,vi b,cv] H fun v H'=>Rg r ty n H0 H' L:=by
 refine ce [0,1,2,8,9,10,11,12] ?_;refine tl ?_
 refine PU.of (ax (by omega) (by omega)) ?_
 refine PU.of iU ?_
 rw[decide_eq_true (by omega)]
 rw[nC,mD (u64_in (by omega))]
 simp only[PP,Nat.reduceBEq]
 refine hB.new fun H1 q hB=>?_
 refine hB.st 0 rfl rfl (Nat.le_of_ble_eq_true rfl) rfl fun Hn hB=>?_
 refine ak.mono (xX (b -a) (by omega) (by omega)) ?_
 rintro _ _ ⟨⟨m,rfl,h4,h5⟩,rfl⟩
 refine PU.quo (by omega) (by omega) (by omega) fun qd hd1 hd2 hd3=>?_
 refine PU.of (my (by omega) (by omega)) ?_
 refine PU.of (au (by omega) (by omega)) ?_
 refine PU.of (ax (by omega) (by omega)) ?_
 refine lp2 11 12 (I:=fun k x9 aW H'=>∃i s:Int,x9=vi i∧a<i∧i≤b∧k=(b -i).toNat∧Rg r ty n H0 H' ((q,232,[.int .u64 s])::L)) ?_ _ ⟨_,_,rfl,by omega,by omega,rfl,hB⟩
 clear hB hd1 hd2 hd3 qd
 rintro k x9 aW rg H3 ⟨i,s,rfl,h6,h7,hk,hB⟩
 refine aS.kH fun K hK=>?_
 refine tl ?_
 refine PU.quo (by omega) (by omega) (by omega) fun qd hd1 hd2 hd3=>?_
 refine PU.of (my (by omega) (by omega)) ?_
 refine PU.of (au (by omega) (by omega)) ?_
 refine PU.of (au (by omega) (by omega)) ?_
 refine PU.of xH ?_
 refine ah (fun hc=>?_) (fun hc=>?_)
 rotate_left
 ·subst hK
  simp only[PP,Nat.reduceBEq]
  refine rn ?_;exact hB.drop
 have hib:i<b -1:=by omega
 clear hc hd1 hd2 hd3 qd
 refine ak.mono (CB hB) ?_
 rintro _ H4 ⟨z,rfl,hB⟩
 refine PU.of (B6 (u64_in (by omega))) ?_
 refine PU.of uO ?_
 obtain⟨g1,g2⟩:=MV (a:=z) (b:=m -1) (by omega)
 generalize KB .u64 z (m -1)=y at g1 g2
 rw[nC,nM (by omega) (by omega)]
 simp only[PP,Nat.reduceBEq]
 have fin:∀(w:Int) rg,0≤w→w<b -a→aS Pg X (sub iB [1,1,0,1,1,1,0,0,1,0,0,1,1]) (kL (sl r n c) (vi a) (vi b) cv (vi (b -a)) (.pointer (some ⟨q,0,none⟩)) (.int .u64 m) (vi i) (vi w) rg H4) (iq 1 (kP Pg X (sub iB [1,1,0,1,1,1,0,0,1,1]) K)):=by
  intro w rg g3 g4
  subst hK
  refine tl ?_
  repeat(first|(simp only[PP,Nat.reduceBEq,aj hB.wf])|(with_reducible refine PU.of (au (by omega) (by omega)) ?_)|(with_reducible refine PU.of (aI (by omega) (by omega)) ?_)|(with_reducible refine hB.xO (by omega) (by omega) fun za zb=>?_)|(with_reducible refine hB.KE (by omega) (by omega) fun Hn hB=>?_)|((with_reducible refine And.intro ?_ ?_);focus ((try simp only[aA,aC,az (Ext.refl (hN _))]);kernel_rfl)))
  refine tl ?_
  simp only[PP,Nat.reduceBEq,aj hB.wf];with_reducible refine PU.of (au (by omega) (by omega)) ?_
  exact⟨(b -(i +1)).toNat,by omega,_,_,_,_,rfl,i +1,_,rfl,by omega,by omega,rfl,hB⟩
 refine ah (fun hc=>?_) (fun hc=>?_)
 ·with_reducible refine PU.of (ax (by omega) (by omega)) ?_
  exact fin _ _ (by omega) (by omega)
 ·exact fin _ _ (by omega) (by omega)
theorem Pj(hcm:mG cv)(hn:n≤1000000):∀(d:Nat)(H0 H:aa)(L:List aL)(hB:Rg r ty n H0 H L)(a b l:Int)(h1:0≤a)(h2:b≤n)(h3:a≤b +1)(h4:0≤l)(h5:l≤64)(hd:(b -a).toNat≤d),
 ak Pg X 214 [sl r n c,vi a,vi b,vi l,cv] H fun v H'=>Rg r ty n H0 H' L:=by
 intro d
 induction d using Nat.strongRecOn with
 |_ d ih=>
 intro H0 H L hB a b l h1 h2 h3 h4 h5 hd
 refine ce [0,1,2,3,4,10,11,12,13,14,15,16,17,18,19,20] ?_;refine tl ?_
 refine V8 1 2 3 10 11 12 13 14 15 16 17 18 19 20 (I:=fun k x1 x2 x3 x8 x9 aW a_ bP bA dL bI cr gQ fP H'=>∃(a' b' l:Int)(w q:Bool),x1=vi a'∧x2=vi b'∧x3=vi l∧x8=.bool w∧x9=.bool q∧a≤a'∧b'≤b∧a'≤b' +1∧0≤l∧l≤64∧k=(b' +1 -a').toNat∧Rg r ty n H0 H' L) ?_ _
  ⟨a,b,l,true,true,rfl,rfl,rfl,rfl,rfl,by omega,by omega,by omega,by omega,by omega,rfl,hB⟩
 clear hB h4 h5 l H
 rintro k x1 x2 x3 x8 x9 aW a_ bP bA dL bI cr gQ fP rg H1 ⟨a',b',l,w,q,rfl,rfl,rfl,rfl,rfl,h4,h5,h6,h7,h8,hk,hB⟩
 refine aS.kH fun K hK=>?_
 have t3:∀(p l:Int)(w q:Bool) bP bA dL bI cr gQ fP rg H3,0≤l→l≤64→a' +12<b'→a'≤p→p<b'→Rg r ty n H0 H3 L→aS Pg X (sub eB [1,1,0,0,0,1,1,1,1,1,1,1,1])
  (dS (sl r n c) (vi a') (vi b') (vi l) cv (.bool w) (.bool q) (vi (b' -a')) (vi p) bP bA dL bI cr gQ fP rg H3) (iq 1 K):=by
  intro p l w q bP bA dL bI cr gQ fP rg H3 g1 g2 g3 g4 g5 hB
  subst hK
  refine tl ?_
  refine ak.mono (KW hcm (by omega) hB a' b' p (by omega) (by omega) (by omega) (by omega)) ?_
  rintro _ H4 ⟨mid,f,rfl,g6,g7,hB⟩
  simp only[PP,Nat.reduceBEq]
  refine PU.of (ax (by omega) (by omega)) ?_
  refine PU.of (ax (by omega) (by omega)) ?_
  refine PU.quo (by omega) (by omega) (by omega) fun qd hd1 hd2 hd3=>?_
  clear hd1 hd2 hd3
  refine PU.of xG ?_
  refine ah (fun hc=>?_) (fun hc=>?_)
  ·refine PU.of iU ?_
   refine ak.mono (ih (mid -a').toNat (by omega) H0 H4 L hB a' mid l (by omega) (by omega) (by omega) g1 g2 (Nat.le_refl _)) ?_
   rintro _ H5 hB
   refine PU.of (au (by omega) (by omega)) ?_
   exact⟨(b' +1 -(mid +1)).toNat,by omega,_,_,_,_,_,_,_,_,_,_,_,_,_,_,_,_,rfl,mid +1,b',l,_,_,rfl,rfl,rfl,rfl,rfl,by omega,by omega,by omega,g1,g2,rfl,hB⟩
  ·refine PU.of iU ?_
   refine PU.of (au (by omega) (by omega)) ?_
   refine ak.mono (ih (b' -(mid +1)).toNat (by omega) H0 H4 L hB (mid +1) b' l (by omega) (by omega) (by omega) g1 g2 (Nat.le_refl _)) ?_
   rintro _ H5 hB
   exact⟨(mid +1 -a').toNat,by omega,_,_,_,_,_,_,_,_,_,_,_,_,_,_,_,_,rfl,a',mid,l,_,_,rfl,rfl,rfl,rfl,rfl,by omega,by omega,by omega,g1,g2,rfl,hB⟩
 have t2:∀(p l:Int)(w q:Bool) bP bA dL bI cr gQ fP rg H3,0≤l→l≤64→a' +12<b'→a'≤p→p<b'→Rg r ty n H0 H3 L→aS Pg X (sub eB [1,1,0,0,0,1,1,1,1,1,1,1])
  (dS (sl r n c) (vi a') (vi b') (vi l) cv (.bool w) (.bool q) (vi (b' -a')) (vi p) bP bA dL bI cr gQ fP rg H3) (iq 1 K):=by
  intro p l w q bP bA dL bI cr gQ fP rg H3 g1 g2 g3 g4 g5 hB
  refine tl ?_
  simp only[PP,Nat.reduceBEq,aj hB.wf]
  refine ah (fun hc=>?_) (fun hc=>?_)
  ·repeat(first|(simp only[PP,Nat.reduceBEq,aj hB.wf])|(with_reducible refine PU.of (ax (by omega) (by omega)) ?_)|(with_reducible refine PU.of (aI (by omega) (by omega)) ?_)|(with_reducible refine hB.xO (by omega) (by omega) fun za zb=>?_)|(with_reducible refine hcm.call hB fun zc Hn hB wE=>?_)|((with_reducible refine And.intro ?_ ?_);focus ((simp only[aA,aC,az wE]);kernel_rfl)))
   refine tl ?_
   simp only[PP,Nat.reduceBEq,aj hB.wf]
   refine aB (fun hb=>?_) (fun hb=>?_)
   ·refine ak.mono (F7 hcm (by omega) hB a' b' p (by omega) (by omega) (by omega) (by omega)) ?_
    rintro _ H4 ⟨i,rfl,g6,g7,hB⟩
    subst hK
    simp only[PP,Nat.reduceBEq,aj hB.wf]
    exact⟨(b' +1 -i).toNat,by omega,_,_,_,_,_,_,_,_,_,_,_,_,_,_,_,_,rfl,i,b',l,_,_,rfl,rfl,rfl,rfl,rfl,by omega,by omega,by omega,g1,g2,rfl,hB⟩
   ·exact t3 _ _ _ _ _ _ _ _ _ _ _ _ _ g1 g2 g3 g4 g5 hB
  ·refine⟨by kernel_rfl,?_⟩
   refine tl ?_
   simp only[PP,Nat.reduceBEq,aj hB.wf]
   exact t3 _ _ _ _ _ _ _ _ _ _ _ _ _ g1 g2 g3 g4 g5 hB
 have t1:∀(p h l:Int)(w q:Bool) bA dL bI cr gQ fP rg H3,0≤l→l≤64→a' +12<b'→a'≤p→p<b'→Rg r ty n H0 H3 L→aS Pg X (sub eB [1,1,0,0,0,1,1,1,1,1,1])
  (dS (sl r n c) (vi a') (vi b') (vi l) cv (.bool w) (.bool q) (vi (b' -a')) (vi p) (vi h) bA dL bI cr gQ fP rg H3) (iq 1 K):=by
  intro p h l w q bA dL bI cr gQ fP rg H3 g1 g2 g3 g4 g5 hB
  refine tl ?_
  simp only[PP,Nat.reduceBEq,aj hB.wf]
  refine aB (fun hb=>?_) (fun hb=>?_)
  ·refine aB (fun hb=>?_) (fun hb=>?_)
   ·refine tl ?_
    simp only[PP,Nat.reduceBEq,aj hB.wf]
    refine ah (fun hc=>?_) (fun hc=>?_)
    ·refine ak.mono (DD hcm (by omega) hB a' b' (by omega) (by omega) (by omega)) ?_
     rintro _ H4 ⟨⟨bl,rfl⟩,hB⟩
     simp only[PP,Nat.reduceBEq,aj hB.wf]
     refine aB (fun hb=>?_) (fun hb=>?_)
     ·subst hK
      simp only[PP,Nat.reduceBEq,aj hB.wf]
      refine rr ?_;exact hB
     ·exact t2 _ _ _ _ _ _ _ _ _ _ _ _ _ g1 g2 g3 g4 g5 hB
    ·exact t2 _ _ _ _ _ _ _ _ _ _ _ _ _ g1 g2 g3 g4 g5 hB
   ·refine tl ?_
    simp only[PP,Nat.reduceBEq,aj hB.wf]
    exact t2 _ _ _ _ _ _ _ _ _ _ _ _ _ g1 g2 g3 g4 g5 hB
  ·refine tl ?_
   simp only[PP,Nat.reduceBEq,aj hB.wf]
   exact t2 _ _ _ _ _ _ _ _ _ _ _ _ _ g1 g2 g3 g4 g5 hB
 have t0:∀(l:Int)(w q:Bool) a_ bP bA dL bI cr gQ fP rg H3,0≤l→l≤64→a' +12<b'→Rg r ty n H0 H3 L→aS Pg X (sub eB [1,1,0,0,0,1,1,1,1])
  (dS (sl r n c) (vi a') (vi b') (vi l) cv (.bool w) (.bool q) (vi (b' -a')) a_ bP bA dL bI cr gQ fP rg H3) (iq 1 K):=by
  intro l w q a_ bP bA dL bI cr gQ fP rg H3 g1 g2 g3 hB
  refine tl ?_
  refine ak.mono (F6 hcm (by omega) hB a' b' (by omega) (by omega) (by omega)) ?_
  rintro _ H4 ⟨p,h,rfl,g4,g5,hB⟩
  simp only[PP,Nat.reduceBEq]
  refine ah (fun hc=>?_) (fun hc=>?_)
  ·refine ak.mono (DC hcm (by omega) hB a' b' (by omega) (by omega) (by omega)) ?_
   rintro _ H5 hB
   repeat(with_reducible refine PU.of (ax (by omega) (by omega)) ?_)
   exact t1 _ _ _ _ _ _ _ _ _ _ _ _ _ g1 g2 g3 (by omega) (by omega) hB
  ·exact t1 _ _ _ _ _ _ _ _ _ _ _ _ _ g1 g2 g3 (by omega) (by omega) hB
 refine tl ?_
 repeat(first|(simp only[PP,Nat.reduceBEq,aj hB.wf])|(with_reducible refine PU.of (ax (by omega) (by omega)) ?_))
 refine ah (fun hc=>?_) (fun hc=>?_)
 ·refine ak.mono (Ap hcm (by omega) hB a' b' (by omega) (by omega) (by omega)) ?_
  rintro _ H5 hB
  subst hK
  simp only[PP,Nat.reduceBEq,aj hB.wf]
  refine rr ?_;exact hB
 refine ah (fun he=>?_) (fun he=>?_)
 ·refine ak.mono (KV hcm (by omega) hB a' b' (by omega) (by omega) (by omega)) ?_
  rintro _ H5 hB
  subst hK
  simp only[PP,Nat.reduceBEq,aj hB.wf]
  refine rr ?_;exact hB
 refine aB (fun hb=>?_) (fun hb=>?_)
 ·refine ak.mono (F8 hcm hn hB a' b' (by omega) (by omega) (by omega)) ?_
  rintro _ H5 hB
  with_reducible refine PU.of (ax (by omega) (by omega)) ?_
  exact t0 _ _ _ _ _ _ _ _ _ _ _ _ _ (by omega) (by omega) (by omega) hB
 ·exact t0 _ _ _ _ _ _ _ _ _ _ _ _ _ (by omega) (by omega) (by omega) hB
end Go.Proofs.Lu
set_option maxRecDepth 100000
set_option maxHeartbeats 4000000
namespace Go.Proofs.Lu
open Go.Ae Go.Ae.M
variable{H0 H:aa}{L:List aL}
theorem zX(a:Int):ak Pg X 215 [.int .i32 a] H (Q0 (fun v=>v=.bool false) H):=by
 refine ce [0,2] ?_;refine tl ?_
 simp only[PP,Nat.reduceBEq]
 refine rr ?_;exact⟨by simp,rfl⟩
theorem DF(a b:Int):ak Pg X 209 [.int .i32 a,.int .i32 b] H (Q0 (fun v=>∃z:Int,v=vi z) H):=by
 refine ce [0,1,4,5,6] ?_;refine tl ?_
 refine ak.mono (zX _) ?_
 rintro v H' ⟨rfl,rfl⟩
 refine ak.mono (zX _) ?_
 rintro v H' ⟨rfl,rfl⟩
 simp only[PP,Nat.reduceBEq]
 refine ah (fun hc=>?_) (fun hc=>?_)
 ·refine rr ?_;exact⟨⟨_,rfl⟩,rfl⟩
 refine ah (fun hc=>?_) (fun hc=>?_)
 ·refine rr ?_;exact⟨⟨_,rfl⟩,rfl⟩
 ·refine rr ?_;exact⟨⟨_,rfl⟩,rfl⟩
theorem Wk:mG (.func (.func 208) ⟨[]⟩ ⟨[]⟩):=by
 intro H a b c d hw
 show ak Pg X 208 [.agg ⟨[.int .i32 a,.int .i32 b]⟩,.agg ⟨[.int .i32 c,.int .i32 d]⟩] H _
 have hS:=SH.refl hw
 refine ce [0,1,2,3,4] ?_;refine tl ?_
 refine hS.box rfl fun H1 r hS=>?_
 refine hS.box rfl fun H2 r2 hS=>?_
 simp only[PP,Nat.reduceBEq,aj hS.wf];refine hS.aZ ?_;refine hS.aZ ?_
 refine ak.mono (DF _ _) ?_
 rintro v H' ⟨⟨z,rfl⟩,rfl⟩
 refine rr ?_;exact⟨⟨z,rfl⟩,hS.ext⟩
theorem KX(v cv:Value):ak Pg X 216 [v,vi 0,vi 0,cv] H fun _ H'=>H'=H:=by
 refine ce [0,1,2,3,8,9] ?_;refine tl ?_
 refine PU.of (au (by omega) (by omega)) ?_
 refine lp2 8 9 (I:=fun m x8 x9 H'=>x8=vi 1∧H'=H) ?_ 0 ⟨rfl,rfl⟩
 rintro m x8 x9 rg H' ⟨rfl,rfl⟩
 refine tl ?_
 simp only[PP,Nat.reduceBEq]
 rw[decide_eq_false (by omega)]
 simp only[PP,Nat.reduceBEq]
 refine rn ?_;exact rfl
theorem acU(v cv l:Value):ak Pg X 214 [v,vi 0,vi 0,l,cv] H fun _ H'=>H'=H:=by
 refine ce [0,1,2,3,4,10,11,12,13,14,15,16,17,18,19,20] ?_;refine tl ?_
 refine V8 1 2 3 10 11 12 13 14 15 16 17 18 19 20 (I:=fun k x1 x2 x3 x8 x9 aW a_ bP bA dL bI cr gQ fP H'=>x1=vi 0∧x2=vi 0∧H'=H) ?_ 0 ⟨rfl,rfl,rfl⟩
 rintro k x1 x2 x3 x8 x9 aW a_ bP bA dL bI cr gQ fP rg H' ⟨rfl,rfl,rfl⟩
 refine tl ?_
 refine PU.of (ax (by omega) (by omega)) ?_
 simp only[PP,Nat.reduceBEq]
 rw[decide_eq_true (by omega)]
 simp only[PP,Nat.reduceBEq]
 refine ak.mono (KX _ _) ?_
 rintro _ _ rfl
 refine rr ?_;exact rfl
theorem KY{cv:Value}(hcm:mG cv){r:Nat}{ty:TypeId}{n c:Nat}(hn:n≤1000000)(hB:Rg r ty n H0 H L):ak Pg X 207 [sl r n c,cv] H fun v H'=>Rg r ty n H0 H' L:=by
 refine ce [0,1,4] ?_;refine tl ?_
 simp only[PP,Nat.reduceBEq]
 rw[mD (u64_in (by omega))]
 refine ak.mono (uk _ (by omega) (by omega)) ?_
 rintro v H' ⟨⟨l,rfl,h1,_⟩,rfl⟩
 refine ak.mono (Pj hcm hn _ H0 H' L hB 0 n l (by omega) (by omega) (by omega) (by omega) (by omega) (Nat.le_refl _)) ?_
 intro v H1 hB
 refine rn ?_;exact hB
theorem ZA(cv:Value):ak Pg X 207 [.slice none 0 0,cv] H fun v H'=>H'=H:=by
 refine ce [0,1,4] ?_;refine tl ?_
 simp only[PP,Nat.reduceBEq]
 rw[mD (u64_in (by omega))]
 refine ak.mono (uk _ (by omega) (by omega)) ?_
 rintro v H' ⟨⟨l,rfl,h1,_⟩,rfl⟩
 refine ak.mono (acU _ _ _) ?_
 rintro v H1 rfl
 refine rn ?_;exact rfl
theorem KZ{cs:List Value}{k:Nat}(h:∀i,i<2→∃z:Int,cs[k*2 +i]?=some (.int .i32 z)):GH (El cs 2 k):=by
 obtain⟨a,ha⟩:=h 0 (by omega)
 obtain⟨b,hb⟩:=h 1 (by omega)
 refine⟨a,b,?_⟩
 apply List.ext_getElem?
 intro i
 rw[je]
 match i with
 |0=>rw[if_pos (by omega),ha];rfl
 |1=>rw[if_pos (by omega),hb];rfl
 |i +2=>rw[if_neg (by omega)];rfl
theorem F9{cs:List Value}{k i:Nat}(h:GH (El cs 2 k))(hi:i<2):∃z:Int,cs[k*2 +i]?=some (.int .i32 z):=by
 obtain⟨a,b,e⟩:=h
 have h1:=je cs 2 k i
 rw[if_pos hi,e]at h1
 match i,hi with
 |0,_=>exact⟨a,h1.symm⟩
 |1,_=>exact⟨b,h1.symm⟩
section fields
variable{r:Nat}{ty:TypeId}{n:Nat}{K:Value→aa→Prop}
theorem SB.rf(h:SB GH r ty 2 n H0 H L){z:Int}(h0:0≤z)(hz:z<n){f:Nat}(hf:f<2)(k:∀a,K (.int .i32 a) H):ME (ko none (.pointer (some ⟨r,z.toNat*2 +f,none⟩)) H) K:=by
 obtain⟨cs,hS,hp,hl⟩:=h.row (k:=z.toNat) (by omega)
 obtain⟨a,ha⟩:=F9 hp hf
 exact hS.ld 0 rfl ha (k a)
theorem SB.rfQ(h:SB GH r ty 2 n H0 H L){z:Int}(h0:0≤z)(hz:z<n){f:Nat}(hf:f<2)(k:∀a,K (.int .i32 a) (hN H)):ME (ko none (.pointer (some ⟨r,z.toNat*2 +f,none⟩)) (hN H)) K:=SB.rf h.o6 h0 hz hf k
theorem SB.acV(h:SB GH r ty 2 n H0 H L){z:Int}(h0:0≤z)(hz:z<n){f:Nat}(hf:f<2){a:Int}(k:∀H1,SB GH r ty 2 n H0 (hM H H1) L→K undef H1):ME (Af 1 (.pointer (some ⟨r,z.toNat*2 +f,none⟩)) (.int .i32 a) (hN H)) K:=by
 obtain⟨cs,h1,h2,hS⟩:=h
 have hle:z.toNat*2 +f +1≤cs.length:=by omega
 refine hS.Qb 0 rfl rfl hle rfl fun H1 hS=>k H1 ⟨splice cs (z.toNat*2 +f) [.int .i32 a],?_,fun j hj=>?_,hS⟩
 ·rw[dK (by simpa using hle)];exact h1
 ·refine KZ fun i hi=>?_
  rw[gZ (by simpa using hle)]
  split
  ·next hc=>
   rw[show j*2 +i -(z.toNat*2 +f)=0 by simp at hc;omega]
   exact⟨a,rfl⟩
  ·exact F9 (h2 j hj) hi
end fields
abbrev DI(cs:List Value):Prop:=∀x∈cs,∃z:Int,x=.int .i32 z
theorem Jc{cs:List Value}(h:DI cs){k:Nat}(hk:k*2 +2≤cs.length):GH (El cs 2 k):=by
 have e:El cs 2 k=[cs[k*2],cs[k*2 +1]]:=by
  unfold El
  rw[List.drop_eq_getElem_cons (by omega),List.drop_eq_getElem_cons (by omega)];rfl
 obtain⟨a,ha⟩:=h cs[k*2] (List.getElem_mem _)
 obtain⟨b,hb⟩:=h cs[k*2 +1] (List.getElem_mem _)
 exact⟨a,b,by rw[e,ha,hb]⟩
theorem DI.app{cs:List Value}(h:DI cs)(a b:Int):DI (cs++[.int .i32 a,.int .i32 b]):=by
 intro x hx
 rcases List.mem_append.1 hx with hx|hx
 ·exact h x hx
 ·simp at hx
  rcases hx with rfl|rfl
  ·exact⟨_,rfl⟩
  ·exact⟨_,rfl⟩
theorem F_{cs:List Value}{n:Nat}(hl:cs.length=n*2)(h:∀k,k<n→GH (El cs 2 k)):DI cs:=by
 intro x hx
 obtain⟨i,hi,rfl⟩:=List.getElem_of_mem hx
 obtain⟨a,b,e⟩:=h (i/2) (by omega)
 have h1:=je cs 2 (i/2) (i %2)
 rw[if_pos (Nat.mod_lt _ (by omega)),show i/2*2 +i %2=i by omega,List.getElem?_eq_getElem hi,e]at h1
 have:i %2=0∨i %2=1:=by omega
 rcases this with h2|h2
 ·rw[h2]at h1;exact⟨a,(Option.some.inj h1).symm⟩
 ·rw[h2]at h1;exact⟨b,(Option.some.inj h1).symm⟩
theorem zY(hw:Wf H){K:Nat}(hK:K≤1000000){v:Value}(hv:o7 K H v):ak Pg X 210 [v] H (Q1 (fun v H'=>bf H.next K H' v) H):=by
 obtain⟨a,n,c,cs,rfl,hf,hn,hi⟩:=hv
 have hS:=SH.refl hw
 refine ce [0,2] ?_;refine tl ?_
 rw[tC (by kernel_rfl)]
 simp only[PP,Nat.reduceBEq]
 refine aB (fun hb=>?_) (fun hb=>?_)
 ·refine rr ?_;exact⟨bf.nil _ _ _,Ext.refl _⟩
 ·refine ME.of (Zk (by omega)) ?_
  have hS:=hS.grow 269 []
  have hge:=hS.ext.next
  refine hS.KH (by omega) (.inr ⟨_,rfl⟩) (hf.ex hS.ext) (by omega) fun a' c' H1 L' hf' hS'=>?_
  refine rr ?_;exact⟨⟨a',n,c',cs,rfl,hf'.le hge,hn,hi⟩,hS'.ext⟩
set_option maxHeartbeats 8000000 in
theorem wF(hw:Wf H){KM:Nat}(hKM:KM≤1000000){v:Value}(hv:o7 KM H v):ak Pg X 197 [v] H (Q1 (fun v H'=>bf H.next KM H' v) H):=by
 obtain⟨a,n,c,cs,rfl,hf,hn,hi⟩:=hv
 have hS:=SH.refl hw
 refine ce [0,2,3,5,6,8,9,10,11,35,36,37] ?_;refine tl ?_
 simp only[PP,Nat.reduceBEq]
 refine JE 3 5 11 (I:=fun m x3 x5 a_ H'=>∃(k:Nat)(ds:List Value)(gb:List aL),a_=vn k∧k +m=n∧GB 269 2 x3 ds gb∧ds.length≤2*k∧DI ds∧SH [] H H' (gb++[])) ?_ n ⟨0,[],[],rfl,by omega,GB.nil _ _,by simp,(fun x h=>nomatch h),hS⟩
 rintro m x3 x5 a_ rg H' ⟨k,ds,gb,rfl,hk,hg,hdl,hds,hS⟩
 refine aS.kH fun K hK=>?_
 refine tl ?_
 simp only[PP,Nat.reduceBEq]
 refine ah (fun hc=>?_) (fun hc=>?_)
 ·obtain⟨r,o,e,hr,hrd,hel,_⟩:=hf.read (by omega) (show k<n by omega) c
  rw[e]
  simp only[PP,Nat.reduceBEq]
  obtain⟨z1,z2,ez⟩:=Jc hi (k:=k) (by rw[hf.1];omega)
  rw[ez]at hrd
  refine hS.pY hrd hr ?_
  refine hS.dh fun H1 r1 hS=>?_
  repeat(first|(simp only[PP,Nat.reduceBEq,aj hS.wf])|(refine hS.aZ ?_)|(refine hS.iX fun Hn hS=>?_))
  subst hK
  refine ah (fun hd=>?_) (fun hd=>?_)
  ·simp only[PP,Nat.reduceBEq,aj hS.wf];refine hS.bU ?_
   refine hS.bS rfl rfl rfl (by omega) fun H2 rx hS=>?_
   have hS:SH [] H H2 ((rx,269,[.int .i32 (max z1 0),.int .i32 (min z2 1114111)])::(r1,269,[.int .i32 (max z1 0),.int .i32 (min z2 1114111)])::(gb++[])):=hS
   have hS:SH [] H H2 ((rx,269,[.int .i32 (max z1 0),.int .i32 (min z2 1114111)])::(gb++[(r1,269,[.int .i32 (max z1 0),.int .i32 (min z2 1114111)])])):=hS.perm (List.Perm.cons _ (by simpa using(List.perm_append_comm (l₁:=[_]) (l₂:=gb))))
   refine hg.add hS (by omega) rfl rfl (by omega) fun v' H3 cO hg' hS' hx=>?_
   rw[au (by omega) (by omega)]
   simp only[PP,Nat.reduceBEq]
   refine⟨m -1,by omega,_,_,_,_,_,rfl,k +1,_,cO,rfl,by omega,hg',by simp;omega,hds.app _ _,?_⟩
   exact by simpa using SH.drop (A:=[_]) (hS'.perm (List.perm_append_comm (l₂:=[_])))
  ·rw[au (by omega) (by omega)]
   simp only[PP,Nat.reduceBEq]
   refine⟨m -1,by omega,_,_,_,_,_,rfl,k +1,ds,gb,rfl,by omega,hg,by omega,hds,?_⟩
   exact SH.drop (A:=[_]) hS
 ·subst hK
  simp only[PP,Nat.reduceBEq]
  refine tl ?_
  rcases hg with⟨rfl,rfl,rfl⟩|⟨r,n1,aO,rfl,hn1,rfl⟩
  ·refine ak.mono (ZA _) ?_
   rintro _ H1 e
   have e:=e.symm
   subst e
   simp only[PP,Nat.reduceBEq]
   refine JE 6 8 37 (I:=fun m x6 x8 pI H2=>H2=H'∧x6=vi 0∧pI=vi 0) ?_ 0 ⟨rfl,rfl,rfl⟩
   rintro m x6 x8 pI rg H2 ⟨rfl,rfl,rfl⟩
   refine tl ?_
   simp only[PP,Nat.reduceBEq]
   rw[decide_eq_false (by omega)]
   simp only[PP,Nat.reduceBEq]
   refine tl ?_
   refine PU.of (MX) ?_
   refine ak.mono (zY hS.wf hKM (o7.nil _ _)) ?_
   rintro v H3 ⟨hv,hx⟩
   refine rr ?_;exact⟨hv.le (Nat.le_refl _) hS.ext.next,hS.ext.trans hx⟩
  ·have hB:Rg r 269 n1 H H' []:=⟨ds++aO,by simp;omega,fun k hk=>KZ fun i hi=>?_,hS⟩
   rotate_left
   ·rw[List.getElem?_append_left (by omega),List.getElem?_eq_getElem (by omega)]
    obtain⟨z,hz⟩:=hds ds[k*2 +i] (List.getElem_mem _)
    exact⟨z,by rw[hz]⟩
   have hn2:n1≤KM:=by omega
   refine ak.mono (KY Wk (by omega) hB) ?_
   clear hB hS hds hn1 aO ds hdl
   rintro _ H2 hB
   simp only[PP,Nat.reduceBEq]
   refine JE 6 8 37 (I:=fun m x6 x8 pI H2=>∃(w k:Nat),x6=vn w∧pI=vn k∧w≤k∧k +m=n1∧Rg r 269 n1 H H2 []) ?_ n1 ⟨0,0,rfl,rfl,by omega,by omega,hB⟩
   clear hB
   rintro m2 x6 x8 pI rg H3 ⟨w,k2,rfl,rfl,hw2,hk2,hB⟩
   refine aS.kH fun K hK=>?_
   have nx:∀(w:Nat) x8 rg H4,w≤k2 +1→k2<n1→Rg r 269 n1 H H4 []→aS Pg X (sub eZ [1,1,1,1,1,0,1,0,0,1,1,1]) (j3 (.slice a n c) (.slice none 0 0) (sl r n1 (aQ 2)) x5 (vn w) x8 (.slice a n c) (vn n) (vn k) (sl r n1 (aQ 2)) (vn n1) (vn k2) rg H4) K:=by
    intro w x8 rg H4 h1 h2 hB
    subst hK
    refine tl ?_
    rw[au (by omega) (by omega)]
    simp only[PP,Nat.reduceBEq]
    exact⟨m2 -1,by omega,_,_,_,_,_,rfl,w,k2 +1,rfl,rfl,by omega,by omega,hB⟩
   refine tl ?_
   simp only[PP,Nat.reduceBEq]
   refine ah (fun hc=>?_) (fun hc=>?_)
   rotate_left
   ·subst hK
    simp only[PP,Nat.reduceBEq]
    refine tl ?_
    refine PU.of (wh (show w≤n1 by omega)) ?_
    obtain⟨es,g1,g2,hS⟩:=hB
    have hfw:Fl H3 (some ⟨r,0,none⟩) w 2 (es.take (w*2)):=⟨by simp;omega,fun i x hi=>⟨r,0,rfl,(hS.lo _ (List.mem_cons_self ..)).2,by
     rw[Nat.zero_add]
     refine(hS.get 0 rfl).cell ?_
     rw[List.getElem?_take]at hi
     split at hi
     ·exact hi
     ·cases hi⟩⟩
    have hR:o7 KM H3 (.slice (some ⟨r,0,none⟩) w (aQ 2)):=⟨_,w,_,_,rfl,hfw,by omega,F_ hfw.1 fun k hk=>KZ fun i hi=>by
     rw[List.getElem?_take,if_pos (by omega)]
     exact F9 (g2 k (by omega)) hi⟩
    refine ak.mono (zY hS.wf hKM hR) ?_
    rintro v H4 ⟨hv,hx⟩
    refine rr ?_;exact⟨hv.le (Nat.le_refl _) hS.ext.next,hS.ext.trans hx⟩
   refine PU.of (aI (by omega) (by omega)) ?_
   simp only[Nat.zero_add]
   refine hB.r1 (by omega) (by omega) fun za zb=>?_
   refine hB.new fun H4 r1 hB=>?_
   refine hB.st 0 rfl rfl (Nat.le_of_ble_eq_true rfl) rfl fun H5 hB=>?_
   have hB:SB GH r 269 2 n1 H H5 [(r1,269,[.int .i32 za,.int .i32 zb])]:=hB
   have lay:∀rg H6,SB GH r 269 2 n1 H H6 [(r1,269,[.int .i32 za,.int .i32 zb])]→aS Pg X (sub eZ [1,1,1,1,1,0,1,0,0,1,1,0,0,1,1]) (j3 (.slice a n c) (.slice none 0 0) (sl r n1 (aQ 2)) x5 (vn w) (.pointer (some ⟨r1,0,none⟩)) (.slice a n c) (vn n) (vn k) (sl r n1 (aQ 2)) (vn n1) (vn k2) rg H6) (iq 3 (kP Pg X (sub eZ [1,1,1,1,1,0,1,0,0,1,1,1]) K)):=by
    intro rg H6 hB
    refine tl ?_
    refine ME.of (v:=.agg ⟨[.int .i32 za,.int .i32 zb]⟩) (H:=H6) ?_ ?_
    ·obtain⟨es,g1,g2,hS⟩:=hB
     show(ai (H6.read r1 0 2) fun vs=>some (Value.agg ⟨vs⟩,H6))=_
     rw[(hS.get 1 rfl).read (o:=0) (n:=2) (Nat.le_refl 2)];rfl
    refine PU.of (aI (by omega) (by omega)) ?_
    simp only[Nat.zero_add]
    refine hB.rw' (by omega) (by omega) fun H7 hB=>?_
    rw[au (by omega) (by omega)]
    simp only[PP,Nat.reduceBEq]
    exact nx (w +1) _ _ _ (by omega) (by omega) hB.drop
   have fin:∀rg H6(b:Bool),Ag rg 54=.bool b→(b=true→0<w)→SB GH r 269 2 n1 H H6 [(r1,269,[.int .i32 za,.int .i32 zb])]→aS Pg X (sub eZ [1,1,1,1,1,0,1,0,0,1,1,0,0,1,0,1]) (j3 (.slice a n c) (.slice none 0 0) (sl r n1 (aQ 2)) x5 (vn w) (.pointer (some ⟨r1,0,none⟩)) (.slice a n c) (vn n) (vn k) (sl r n1 (aQ 2)) (vn n1) (vn k2) rg H6) (kP Pg X (sub eZ [1,1,1,1,1,0,1,0,0,1,1,0,0,1,1]) (iq 3 (kP Pg X (sub eZ [1,1,1,1,1,0,1,0,0,1,1,1]) K))):=by
    intro rg H6 b hb hw0 hB
    refine tl ?_
    rw[hb]
    simp only[PP,Nat.reduceBEq]
    refine aB (fun hb=>?_) (fun hb=>?_)
    ·have:=hw0 hb
     refine PU.of (ax (by omega) (by omega)) ?_
     refine PU.of (ax (by omega) (by omega)) ?_
     refine PU.of (aI (by omega) (by omega)) ?_
     simp only[PP,Nat.reduceBEq]
     refine SB.rfQ hB (by omega) (by omega) (by omega) fun zc=>?_
     simp only[aj hB.wf]
     refine hB.xM 0 rfl rfl ?_
     simp only[aj hB.wf]
     simp only[PP,Nat.reduceBEq]
     refine PU.of (aI (by omega) (by omega)) ?_
     simp only[PP,Nat.reduceBEq]
     refine SB.acV hB (by omega) (by omega) (by omega) fun H7 hB2=>?_
     refine⟨by simp only[aA,aC];kernel_rfl,?_⟩
     exact nx w _ _ _ (by omega) (by omega) hB2.drop
    ·exact lay _ _ hB
   simp only[PP,Nat.reduceBEq]
   refine ah (fun hd=>?_) (fun hd=>?_)
   ·refine hB.xM 0 rfl rfl ?_
    simp only[aj hB.wf]
    refine PU.of (ax (by omega) (by omega)) ?_
    refine PU.of (aI (by omega) (by omega)) ?_
    simp only[PP,Nat.reduceBEq]
    refine SB.rfQ hB (by omega) (by omega) (by omega) fun zc=>?_
    simp only[aj hB.wf]
    simp only[PP,Nat.reduceBEq]
    refine⟨by simp only[aA];kernel_rfl,?_⟩
    exact fin _ _ _ (by simp only[lN];rfl) (fun _=>by omega) hB
   ·refine⟨by kernel_rfl,?_⟩
    exact fin _ _ false (by simp only[lN]) (fun h=>by cases h) hB
theorem TS(hw:Wf H):ak Pg X 211 [] H (Q1 (fun v H'=>bf H.next 1 H' v) H):=by
 have hS:=SH.refl hw
 refine ce [0] ?_;refine tl ?_
 refine PU.of (v:=.agg ⟨[_,_]⟩) rfl ?_
 refine hS.bS rfl rfl rfl (by omega) fun H1 r hS=>?_
 have hb:=hS.get 0 rfl
 have hlo:=hS.lo _ (List.mem_cons_self ..)
 refine rr ?_;refine⟨⟨_,1,1,_,rfl,⟨hb.fl hlo.2 rfl,fun r' o e _=>by cases e;exact⟨hS.ym (List.mem_cons_self ..),hlo.2,hb.Qc⟩⟩,by omega,fun x hx=>?_⟩,hS.ext⟩
 have hx:x∈[Value.int .i32 0,Value.int .i32 1114111]:=hx
 simp at hx
 rcases hx with rfl|rfl
 ·exact⟨_,rfl⟩
 ·exact⟨_,rfl⟩
end Go.Proofs.Lu
set_option maxRecDepth 100000
set_option maxHeartbeats 4000000
namespace Go.Proofs.Lu
open Go.Ae Go.Ae.M
variable{H0 H:aa}{L:List aL}
abbrev isRead(b:Nat)(s:ByteArray)(v:Value)(H':aa):Prop:=∃(rs:Value)(cd:Int)(at':Nat),v=.tuple ⟨[rs,.agg ⟨[vi cd,vn at']⟩]⟩∧at'≤s.size +1∧bf b s.size H' rs
theorem Tok.st{S:List Nat}{b b' lo hi:Nat}{H H':aa}{v:Value}(h:Tok b H lo hi v)(hx:kS S H H')(hS:∀q∈S,q<b∨¬qy H q 269)(hb:b'≤b):Tok b' H' lo hi v:=by
 obtain⟨kd,a,e,t,rs,h1,h2,h3,h4,h5,h6⟩:=h
 exact⟨kd,a,e,t,rs,h1,h2,h3,h4,h5,(h6.stay hx hS).le (Nat.le_refl _) hb⟩
theorem Pk(hw:Wf H)(hT:uf H)(s:ByteArray)(hs:s.size≤20000):ak Pg X 180 [.string s] H (Q1 (isRead H.next s) H):=by
 have hS:=SH.refl hw
 refine ce [0,2,3,4,5,6,7,8,9,10] ?_;refine tl ?_
 refine hS.dh fun Hn rs hS=>?_
 simp only[PP,Nat.reduceBEq]
 refine ah (fun hc=>?_) (fun hc=>?_)
 ·refine PU.b2 rfl ?_;simp only[PP,Nat.reduceBEq,aj hS.wf];refine hS.iX fun Hn hS=>?_
  refine rr ?_
  refine hS.bU ?_
  exact⟨⟨_,_,0,rfl,by omega,bf.nil _ _ _⟩,hS.ext⟩
 refine lp8 2 4 5 6 7 8 9 10 (I:=fun m x2 x4 x5 x6 x7 x8 x9 aW H'=>∃(k:Nat)(ds:List Value)(gb:List aL),x2=.slice none 0 0∧x5=vn k∧k +m=s.size∧GB 269 2 x4 ds gb∧ds.length≤2*k∧DI ds∧SH [] H H' ((rs,72,[vi 0,vi 0])::(gb++[]))) ?_ s.size ⟨0,[],[],rfl,rfl,by omega,GB.nil _ _,by simp,(fun x h=>nomatch h),hS⟩
 clear hS
 rintro m x2 x4 x5 x6 x7 x8 x9 aW rg H' ⟨k,ds,gb,rfl,rfl,hk,hg,hdl,hds,hS⟩
 refine aS.kH fun K hK=>?_
 have lay:∀(lo hi:Int)(q:Nat) x7 x8 rg H2,k<q→q≤s.size→SH [] H H2 ((rs,72,[vi 0,vi 0])::(gb++[]))→
  aS Pg X (sub qU [1,1,1,0,1,0,0,1,0,1,1,1,1]) (vC (.string s) (.slice none 0 0) (.pointer (some ⟨rs,0,none⟩)) x4 (vn k) (.int .i32 lo) x7 x8 (.int .i32 hi) (vn q) rg H2) (iq 1 K):=by
  intro lo hi q x7 x8 rg H2 h1 h2 hS
  subst hK
  refine tl ?_
  refine PU.of (v:=.agg ⟨[_,_]⟩) rfl ?_
  refine hS.bS rfl rfl rfl (by omega) fun H3 rx hS=>?_
  have hS:SH [] H H3 ((rx,269,[.int .i32 lo,.int .i32 hi])::(gb++[(rs,72,[vi 0,vi 0])])):=hS.perm (List.Perm.cons _ (Eu _ _))
  refine hg.add hS (by omega) rfl rfl (by omega) fun v' H3 cO hg' hS' hx=>?_
  simp only[PP,Nat.reduceBEq]
  exact⟨s.size -q,by omega,_,_,_,_,_,_,_,_,_,_,rfl,q,_,cO,rfl,rfl,by omega,hg',by simp;omega,hds.app _ _,hS'.perm (Eu _ _).symm⟩
 have mid:∀(lo:Int)(sz q:Nat)(b:Bool) x8 rg H2,Ag rg 44=.bool b→k<q→q≤s.size→(b=true→q +1<s.size)→SH [] H H2 ((rs,72,[vi 0,vi 0])::(gb++[]))→
  aS Pg X (sub qU [1,1,1,0,1,0,0,1,0,1,1,1,0,1]) (vC (.string s) (.slice none 0 0) (.pointer (some ⟨rs,0,none⟩)) x4 (vn k) (.int .i32 lo) (vn sz) x8 (.int .i32 lo) (vn q) rg H2) (kP Pg X (sub qU [1,1,1,0,1,0,0,1,0,1,1,1,1]) (iq 1 K)):=by
  intro lo sz q b x8 rg H2 hb h1 h2 h3 hS
  refine tl ?_
  rw[hb]
  simp only[PP,Nat.reduceBEq]
  refine aB (fun hb=>?_) (fun hb=>?_)
  ·have:=h3 hb
   rw[au (by omega) (by omega)]
   simp only[PP,Nat.reduceBEq]
   rw[EB (show(q:Int) +1=((q +1:Nat):Int) by omega)]
   refine ak.mono (EF hS.wf (hT.ex hS.ext) s (q +1) (by omega) (by omega)) ?_
   rintro v H3 ⟨⟨r,n,e,rfl,h4,h5⟩,hx⟩
   have hS:=hS.call hx
   simp only[PP,Nat.reduceBEq,aj hS.wf]
   refine aG (fun he=>?_) (fun he=>?_)
   ·rw[au (by omega) (by omega)]
    repeat(first|(simp only[PP,Nat.reduceBEq,aj hS.wf])|(refine PU.b2 rfl ?_)|(refine hS.iX fun Hn hS=>?_))
    subst hK
    refine rr ?_
    refine hS.bU ?_
    exact⟨⟨_,_,q +1,rfl,by omega,bf.nil _ _ _⟩,hS.ext⟩
   refine ah (fun hc=>?_) (fun hc=>?_)
   ·refine PU.b2 rfl ?_;simp only[PP,Nat.reduceBEq,aj hS.wf];refine hS.iX fun Hn hS=>?_
    subst hK
    refine rr ?_
    refine hS.bU ?_
    exact⟨⟨_,_,k,rfl,by omega,bf.nil _ _ _⟩,hS.ext⟩
   rw[au (by omega) (by omega)]
   simp only[PP,Nat.reduceBEq,aj hS.wf]
   rw[au (by omega) (by omega)]
   simp only[PP,Nat.reduceBEq,aj hS.wf]
   rw[EB (show(q:Int) +(1 +(n:Int))=((q +1 +n:Nat):Int) by omega)]
   exact lay _ _ _ _ _ _ _ (by omega) (by omega) hS
  ·exact lay _ _ _ _ _ _ _ h1 h2 hS
 refine tl ?_
 simp only[PP,Nat.reduceBEq]
 refine ah (fun hc=>?_) (fun hc=>?_)
 ·refine ak.mono (EF hS.wf (hT.ex hS.ext) s k (by omega) (by omega)) ?_
  rintro v H3 ⟨⟨r,n,e,rfl,h4,h5⟩,hx⟩
  have hS:=hS.call hx
  simp only[PP,Nat.reduceBEq,aj hS.wf]
  refine aG (fun he=>?_) (fun he=>?_)
  ·refine PU.b2 rfl ?_;simp only[PP,Nat.reduceBEq,aj hS.wf];refine hS.iX fun Hn hS=>?_
   subst hK
   refine rr ?_
   refine hS.bU ?_
   exact⟨⟨_,_,k,rfl,by omega,bf.nil _ _ _⟩,hS.ext⟩
  have h6:=h5 (by omega)
  rw[au (by omega) (by omega)]
  simp only[PP,Nat.reduceBEq,aj hS.wf]
  rw[ax (by omega) (by omega)]
  simp only[PP,Nat.reduceBEq,aj hS.wf]
  rw[EB (show(k:Int) +(n:Int)=((k +n:Nat):Int) by omega)]
  refine ah (fun hc=>?_) (fun hc=>?_)
  ·rw[jD (by omega)]
   simp only[PP,Nat.reduceBEq,aj hS.wf]
   exact mid _ _ _ _ _ _ _ (by simp only[lN];rfl) (by omega) (by omega) (fun _=>by omega) hS
  ·exact mid _ _ _ false _ _ _ (by simp only[lN]) (by omega) (by omega) (fun h=>by cases h) hS
 ·subst hK
  simp only[PP,Nat.reduceBEq]
  refine tl ?_
  have hS2:SH [] H H' (gb++[(rs,72,[vi 0,vi 0])]):=hS.perm (Eu _ _)
  obtain⟨a,n,c,rfl,hn,hf⟩:=hg.fl hS2
  have hge:=hS.ext.next
  refine ak.mono (wF (KM:=s.size) hS.wf (by omega) ⟨a,n,c,ds,rfl,hf,by omega,hds⟩) ?_
  rintro v H3 ⟨hv,hx⟩
  have hlt:=hS.lt
  have hS0:=hS.call hx
  have hS:=hS0.base
  refine PU.b2 rfl ?_;refine hS.iX fun Hn hS=>?_
  refine rr ?_
  refine hS.bU ?_
  exact⟨⟨_,0,0,rfl,by omega,(hv.stay hS.ext fun q hq=>.inl (hlt q hq)).le (Nat.le_refl _) hge⟩,(hS0.over hS).ext⟩
theorem K3(hw:Wf H)(hT:uf H)(s:ByteArray)(k:Nat)(hk:k<s.size)(hs:s.size≤20000):ak Pg X 145 [.string s,vn k] H (Q1 (xW H.next s k) H):=by
 have hS:=SH.refl hw
 refine ce [0,1,4,5,6,7,8,19] ?_;refine tl ?_
 refine hS.dh fun Hn rt hS=>?_
 refine hS.dh fun Hn rs hS=>?_
 rw[au (by omega) (by omega)]
 simp only[PP,Nat.reduceBEq]
 refine KL 6 7 8 19 (I:=fun m x6 x7 x8 iI H'=>∃p:Nat,x6=vn p∧p +m=s.size +1∧k +1≤p∧SH [] H H' [(rs,72,[vi 0,vi 0]),(rt,128,[vi 0,vi 0,vi 0,.string (ByteArray.mk #[]),.slice none 0 0])]) ?_ (s.size -k) ⟨k +1,rfl,by omega,by omega,hS⟩
 clear hS
 rintro m x6 x7 x8 iI rg H' ⟨p,rfl,h1,h2,hS⟩
 refine tl ?_
 simp only[PP,Nat.reduceBEq]
 refine ah (fun hc=>?_) (fun hc=>?_)
 rotate_left
 ·refine tl ?_
  repeat(first|(simp only[PP,Nat.reduceBEq,aj hS.wf])|(refine PU.b2 rfl ?_)|(refine PU.b5 rfl ?_)|(refine hS.iX fun Hn hS=>?_))
  refine rr ?_
  repeat(refine hS.bU ?_)
  exact⟨⟨_,_,k,rfl,⟨_,0,0,_,_,rfl,_,_,_,rfl⟩,fun h=>by cases h⟩,hS.ext⟩
 rw[jD (by omega)]
 simp only[PP,Nat.reduceBEq]
 refine ah (fun hd=>?_) (fun hd=>?_)
 ·rw[au (by omega) (by omega)]
  simp only[PP,Nat.reduceBEq]
  rw[au (by omega) (by omega)]
  simp only[PP,Nat.reduceBEq]
  exact⟨m -2,by omega,_,_,_,_,_,_,rfl,p +2,rfl,by omega,by omega,hS⟩
 refine ah (fun he=>?_) (fun he=>?_)
 ·rw[au (by omega) (by omega)]
  simp only[PP,Nat.reduceBEq]
  rw[show Ze (.string s) (some (vi ((k:Int) +1))) (some (vn p)) none=_ from ID (lo:=k +1) (by omega) (by omega)]
  simp only[PP,Nat.reduceBEq]
  have hp:=lM s (lo:=k +1) (hi:=p) (by omega) (by omega)
  refine ak.mono (Pk hS.wf (hT.ex hS.ext) _ (by omega)) ?_
  rintro v H3 ⟨⟨rsv,cd,e,rfl,h3,h4⟩,hx⟩
  have hge:=hS.ext.next
  have hlt:=hS.lt
  have hS0:=hS.call hx
  have hS:=hS0.base
  simp only[PP,Nat.reduceBEq,aj hS.wf]
  refine hS.dh fun Hn rq hS=>?_
  repeat(first|(simp only[PP,Nat.reduceBEq,aj hS.wf])|(refine hS.aZ ?_)|(refine hS.iX fun Hn hS=>?_))
  refine aG (fun hz=>?_) (fun hz=>?_)
  ·refine PU.b5 rfl ?_;refine hS.iW ?_;simp only[PP,Nat.reduceBEq,aj hS.wf]
   rw[au (by omega) (by omega)]
   repeat(first|(simp only[PP,Nat.reduceBEq,aj hS.wf])|(refine hS.iW ?_))
   rw[au (by omega) (by omega)]
   repeat(first|(simp only[PP,Nat.reduceBEq,aj hS.wf])|(refine PU.b2 rfl ?_)|(refine hS.qc fun Hn hS=>?_))
   simp only[aA,aC]
   apply FQ (a:=rq) (b:=rs) (c:=rt) (hS.nq 0 1 rfl rfl (by omega)) (hS.nq 0 2 rfl rfl (by omega)) (hS.nq 1 2 rfl rfl (by omega)) (by intros;rfl) (by kernel_rfl) (by kernel_rfl)
   refine rr ?_
   repeat(refine hS.bU ?_)
   exact⟨⟨_,cd,k +1 +e,rfl,⟨_,0,0,_,_,rfl,_,_,_,rfl⟩,fun h=>absurd h hz⟩,(hS0.over hS).ext⟩
  ·obtain⟨xa,xn,xc,xcs,rfl,h5,h6,h7⟩:=id h4
   rw[au (by omega) (by omega)]
   repeat(first|(simp only[PP,Nat.reduceBEq,aj hS.wf])|(refine PU.b2 rfl ?_)|(refine PU.b5 rfl ?_)|(refine hS.iX fun Hn hS=>?_))
   refine rr ?_
   repeat(refine hS.bU ?_)
   refine⟨⟨_,0,0,rfl,⟨_,_,_,_,_,rfl,_,_,_,rfl⟩,fun _=>⟨4,k,p +1,_,_,rfl,by omega,by omega,by omega,Nat.zero_le _,?_⟩⟩,(hS0.over hS).ext⟩
   exact(h4.stay hS.ext fun q hq=>.inl (hlt q hq)).le (by omega) hge
 ·rw[au (by omega) (by omega)]
  simp only[PP,Nat.reduceBEq]
  exact⟨m -1,by omega,_,_,_,_,_,_,rfl,p +1,rfl,by omega,by omega,hS⟩
theorem TT(hw:Wf H)(hT:uf H)(s:ByteArray)(k:Nat)(hk:k<s.size)(hs:s.size≤20000):ak Pg X 107 [.string s,vn k] H (Q1 (xW H.next s k) H):=by
 have hS:=SH.refl hw
 refine ce [0,1,4,5,6,7,8] ?_;refine tl ?_
 refine hS.dh fun Hn rt hS=>?_
 refine hS.dh fun Hn rs hS=>?_
 rw[jD (by omega)]
 simp only[PP,Nat.reduceBEq]
 refine ak.mono (zT _) ?_
 rintro v H' ⟨⟨b,rfl⟩,rfl⟩
 simp only[PP,Nat.reduceBEq]
 have hge:=hS.ext.next
 have hlt:=hS.lt
 refine aB (fun hb=>?_) (fun hb=>?_)
 ·refine ak.mono (Pd hS.wf s k hk (by omega)) ?_
  rintro v H3 ⟨⟨tok,cd,e,rfl,⟨kd,a,e',t,rsv,rfl,xa,xn,xc,rfl⟩,hto⟩,hx⟩
  have hS0:=hS.call hx
  have hS:=hS0.base
  repeat(first|(simp only[PP,Nat.reduceBEq,aj hS.wf])|(refine hS.iX fun Hn hS=>?_))
  refine rr ?_
  repeat(refine hS.bU ?_)
  exact⟨⟨_,cd,e,rfl,⟨_,_,_,_,_,rfl,_,_,_,rfl⟩,fun h=>(hto h).st hS.ext (fun q hq=>.inl (hlt q hq)) hge⟩,(hS0.over hS).ext⟩
 refine ah (fun hc=>?_) (fun hc=>?_)
 ·refine ak.mono (F3 hS.wf (hT.ex hS.ext) s k hk (by omega)) ?_
  rintro v H3 ⟨⟨tok,cd,e,rfl,⟨kd,a,e',t,rsv,rfl,xa,xn,xc,rfl⟩,hto⟩,hx⟩
  have hS0:=hS.call hx
  have hS:=hS0.base
  repeat(first|(simp only[PP,Nat.reduceBEq,aj hS.wf])|(refine hS.iX fun Hn hS=>?_))
  refine rr ?_
  repeat(refine hS.bU ?_)
  exact⟨⟨_,cd,e,rfl,⟨_,_,_,_,_,rfl,_,_,_,rfl⟩,fun h=>(hto h).st hS.ext (fun q hq=>.inl (hlt q hq)) hge⟩,(hS0.over hS).ext⟩
 refine ah (fun hc=>?_) (fun hc=>?_)
 ·refine ak.mono (K3 hS.wf (hT.ex hS.ext) s k hk (by omega)) ?_
  rintro v H3 ⟨⟨tok,cd,e,rfl,⟨kd,a,e',t,rsv,rfl,xa,xn,xc,rfl⟩,hto⟩,hx⟩
  have hS0:=hS.call hx
  have hS:=hS0.base
  repeat(first|(simp only[PP,Nat.reduceBEq,aj hS.wf])|(refine hS.iX fun Hn hS=>?_))
  refine rr ?_
  repeat(refine hS.bU ?_)
  exact⟨⟨_,cd,e,rfl,⟨_,_,_,_,_,rfl,_,_,_,rfl⟩,fun h=>(hto h).st hS.ext (fun q hq=>.inl (hlt q hq)) hge⟩,(hS0.over hS).ext⟩
 rw[tq (by omega)]
 simp only[PP,Nat.reduceBEq]
 have hp:=lM s (lo:=k) (hi:=s.size) (by omega) (by omega)
 refine ak.mono (t_ _ _) ?_
 rintro v H' ⟨⟨b,rfl,hb2⟩,rfl⟩
 simp only[PP,Nat.reduceBEq]
 refine aB (fun hb=>?_) (fun hb=>?_)
 ·have hl:2≤(Go.Ae.part s k s.size).size:=by
   obtain⟨r,hr⟩:=hb2 hb
   have h:=congrArg List.length hr
   have e1:(Go.Ae.part s k s.size).data.toList.length=(Go.Ae.part s k s.size).size:=rfl
   rw[e1,List.length_append]at h
   have e2:(ByteArray.mk #[45,62]).data.toList.length=2:=rfl
   omega
  rw[au (by omega) (by omega)]
  repeat(first|(simp only[PP,Nat.reduceBEq,aj hS.wf])|(refine PU.b2 rfl ?_)|(refine PU.b5 rfl ?_)|(refine hS.iX fun Hn hS=>?_))
  refine rr ?_
  repeat(refine hS.bU ?_)
  exact⟨⟨_,0,0,rfl,⟨_,_,_,_,_,rfl,_,_,_,rfl⟩,fun _=>⟨15,k,k +2,_,_,rfl,by omega,by omega,by omega,Nat.zero_le _,bf.nil _ _ _⟩⟩,hS.ext⟩
 refine ak.mono (yY _) ?_
 rintro v H' ⟨⟨kd,b,rfl⟩,rfl⟩
 simp only[PP,Nat.reduceBEq,aj hS.wf]
 cases b with
 |false=>
  refine(show∀{A B:Prop},A→vw (some !false) A B from fun h=>h) ?_
  repeat(first|(simp only[PP,Nat.reduceBEq,aj hS.wf])|(refine PU.b2 rfl ?_)|(refine PU.b5 rfl ?_)|(refine hS.iX fun Hn hS=>?_))
  refine rr ?_
  repeat(refine hS.bU ?_)
  exact⟨⟨_,_,k,rfl,⟨_,0,0,_,_,rfl,_,_,_,rfl⟩,fun h=>by cases h⟩,hS.ext⟩
 |true=>
  refine(show∀{A B:Prop},B→vw (some !true) A B from fun h=>h) ?_
  rw[au (by omega) (by omega)]
  repeat(first|(simp only[PP,Nat.reduceBEq,aj hS.wf])|(refine PU.b2 rfl ?_)|(refine PU.b5 rfl ?_)|(refine hS.iX fun Hn hS=>?_))
  refine rr ?_
  repeat(refine hS.bU ?_)
  exact⟨⟨_,0,0,rfl,⟨_,_,_,_,_,rfl,_,_,_,rfl⟩,fun _=>⟨kd,k,k +1,_,_,rfl,by omega,by omega,by omega,Nat.zero_le _,bf.nil _ _ _⟩⟩,hS.ext⟩
def Tk(b:Nat)(H:aa)(l:List Value):Prop:=∃(kd:Int)(a e:Nat)(t:ByteArray)(rs:Value),l=[vi kd,vn a,vn e,.string t,rs]∧a≤20000∧t.size≤1000000∧bf b 20000 H rs
theorem Tk.st{S:List Nat}{b b':Nat}{H H':aa}{l:List Value}(h:Tk b H l)(hx:kS S H H')(hS:∀q∈S,q<b∨¬qy H q 269)(hb:b'≤b):Tk b' H' l:=by
 obtain⟨kd,a,e,t,rs,h1,h2,h3,h4⟩:=h
 exact⟨kd,a,e,t,rs,h1,h2,h3,(h4.stay hx hS).le (Nat.le_refl _) hb⟩
def K4(b:Nat)(H:aa)(a:Option Addr)(n:Nat)(cs:List Value):Prop:=eX (b≤·) 128 H a n 5 cs∧1≤n∧n≤20001∧(∀i,i<n→Tk b H (El cs 5 i))∧cs[(n -1)*5]?=some (vi 0)
theorem K4.st{S:List Nat}{b b':Nat}{H H':aa}{a:Option Addr}{n:Nat}{cs:List Value}(h:K4 b H a n cs)(hx:kS S H H')(hS:∀q∈S,q<b∨¬qy H q 269∧¬qy H q 128)(hb:b'≤b):K4 b' H' a n cs:=
 ⟨(h.1.stay hx fun q hq=>(hS q hq).imp Nat.not_le_of_lt (·.2)).le hb,h.2.1,h.2.2.1,fun i hi=>(h.2.2.2.1 i hi).st hx (fun q hq=>(hS q hq).imp_right (·.1)) hb,h.2.2.2.2⟩
abbrev ZB(b:Nat)(v:Value)(H':aa):Prop:=∃(ts:Value)(cd e:Int),v=.tuple ⟨[ts,.agg ⟨[vi cd,vi e]⟩]⟩∧(ts=.slice none 0 0∨∃a n c,ts=.slice (some a) n c)∧(cd=0→∃a n c cs,ts=.slice a n c∧K4 b H' a n cs)
theorem y_{cs xs:List Value}{es n:Nat}(hl:cs.length=n*es)(hx:xs.length=es):(∀i,i<n→El (cs++xs) es i=El cs es i)∧El (cs++xs) es n=xs:=by
 constructor
 ·intro i hi
  have h1:(i +1)*es≤n*es:=Nat.mul_le_mul_right es hi
  rw[Nat.add_mul]at h1
  apply List.ext_getElem?
  intro j
  rw[je,je]
  split
  ·rw[List.getElem?_append_left (by omega)]
  ·rfl
 ·unfold El
  rw[←hl,List.drop_left,List.take_of_length_le (by omega)]
theorem Jd(hw:Wf H)(hT:uf H)(s:ByteArray):ak Pg X 70 [.string s] H (Q1 (ZB H.next) H):=by
 have hS:=SH.refl hw
 refine ce [0,2,3,4,5,6,7] ?_;refine tl ?_
 refine hS.dh fun Hn rs hS=>?_
 simp only[PP,Nat.reduceBEq]
 refine ah (fun hc=>?_) (fun hc=>?_)
 ·refine PU.b2 rfl ?_;simp only[PP,Nat.reduceBEq,aj hS.wf];refine hS.iX fun Hn hS=>?_
  refine rr ?_
  refine hS.bU ?_
  exact⟨⟨_,3,0,rfl,.inl rfl,fun h=>by cases h⟩,hS.ext⟩
 have hs:s.size≤20000:=by omega
 refine ak.mono (qj s 0 (by omega) (by omega)) ?_
 rintro v H' ⟨⟨k,rfl,hk0,hk1⟩,rfl⟩
 refine TB 2 4 5 6 7 (I:=fun m x2 x4 x5 x6 x7 H'=>∃(k n:Nat)(cs:List Value)(gb:List aL),x2=.slice none 0 0∧x5=vn k∧k +m=s.size∧GB 128 5 x4 cs gb∧cs.length=n*5∧n≤k∧(∀i,i<n→Tk H.next H' (El cs 5 i))∧SH [] H H' ((rs,72,[vi 0,vi 0])::(gb++[]))) ?_ (s.size -k) ⟨k,0,[],[],rfl,rfl,by omega,GB.nil _ _,rfl,by omega,(fun i h=>absurd h (by omega)),hS⟩
 clear hS
 rintro m x2 x4 x5 x6 x7 rg H' ⟨k,n,cs,gb,rfl,rfl,hk,hg,hcl,hnk,htk,hS⟩
 refine tl ?_
 simp only[PP,Nat.reduceBEq]
 have hge:=hS.ext.next
 refine ah (fun hc=>?_) (fun hc=>?_)
 rotate_left
 ·refine tl ?_
  simp only[PP,Nat.reduceBEq]
  refine PU.b5 rfl ?_
  have htn:=hS.O3 (ty:=269) (by simp[hg.all])
  have hS0:=hS
  have hS:=hS0.base
  refine hS.bS rfl rfl rfl (by omega) fun H1 rx hS=>?_
  have hS:SH _ H' H1 ((rx,128,[vi 0,vn s.size,vn s.size,.string (ByteArray.mk #[]),.slice none 0 0])::(gb++[(rs,72,[vi 0,vi 0])])):=hS.perm (List.Perm.cons _ (Eu _ _))
  refine hg.add hS (by omega) rfl rfl (by omega) fun v' H3 cO hg' hS' hx=>?_
  have hE:=y_ (es:=5) (n:=n) hcl (xs:=[vi 0,vn s.size,vn s.size,.string (ByteArray.mk #[]),.slice none 0 0]) rfl
  have hS:=hS'.perm (List.perm_append_comm (l₂:=[_]))
  simp only[List.cons_append,List.nil_append]at hS
  simp only[PP,Nat.reduceBEq,aj hS.wf];refine PU.b2 rfl ?_;refine hS.iX fun Hn hS=>?_
  have hS2:=(hS0.over hS).perm (List.Perm.symm (List.perm_append_comm (l₂:=[_])))
  obtain⟨a,n',c,rfl,hn',hf⟩:=hg'.Sl hS2
  have hn1:n'=n +1:=by rw[List.length_append,hcl]at hn';simp at hn';omega
  subst hn1
  refine rr ?_
  refine hS.bU ?_
  refine⟨⟨_,0,0,rfl,?_,fun _=>⟨a,n +1,c,_,rfl,hf,by omega,by omega,?_,?_⟩⟩,hS2.ext⟩
  ·cases a with
   |none=>
    obtain⟨_,_,h,_⟩:=hf.1.2 0 _ (List.getElem?_eq_getElem (by rw[hf.1.1];omega))
    cases h
   |some a=>exact .inr ⟨a,_,_,rfl⟩
  ·intro i hi
   rcases Nat.lt_or_ge i n with h|h
   ·rw[hE.1 i h]
    exact(htk i h).st hS.ext (fun q hq=>.inr (htn q hq)) (Nat.le_refl _)
   ·have:i=n:=by omega
    subst this
    rw[hE.2]
    exact⟨0,s.size,s.size,_,_,rfl,hs,Nat.zero_le _,bf.nil _ _ _⟩
  ·rw[Nat.add_sub_cancel,←hcl,List.getElem?_append_right (Nat.le_refl _),Nat.sub_self];rfl
 refine ak.mono (TT hS.wf (hT.ex hS.ext) s k (by omega) hs) ?_
 rintro v H3 ⟨⟨tok,cd,e,rfl,⟨kd,a,e',t,rsv,rfl,xa,xn,xc,rfl⟩,hto⟩,hx⟩
 have htn:=hS.O3 (ty:=269) (by simp[hg.all])
 have hlt:=hS.lt
 have hS0:=hS.call hx
 have hS:=hS0.base
 simp only[PP,Nat.reduceBEq,aj hS.wf]
 refine hS.dh fun Hn r8 hS=>?_
 refine hS.dh fun Hn r10 hS=>?_
 repeat(first|(simp only[PP,Nat.reduceBEq,aj hS.wf])|(refine hS.aZ ?_)|(refine hS.iX fun Hn hS=>?_))
 refine aG (fun hz=>?_) (fun hz=>?_)
 ·refine hS.mQ ?_;simp only[PP,Nat.reduceBEq,aj hS.wf];refine hS.qc fun Hn hS=>?_
  simp only[aA,aC]
  apply nZ (a:=r10) (b:=rs) (hS.nq 0 2 rfl rfl (by omega)) (by intros;rfl) (by kernel_rfl) (by kernel_rfl)
  refine rr ?_
  refine hS.bU ?_
  exact⟨⟨_,cd,e,rfl,.inl rfl,fun h=>absurd h hz⟩,(hS0.over hS).ext⟩
 obtain⟨kd',a',e2,t',rs',he,h3,h4,h5,h6,h7⟩:=hto hz
 simp only[Value.agg.injEq,Array.mk.injEq,List.cons.injEq,and_true]at he
 obtain⟨e_1,e_2,e_3,e_4,e_5⟩:=he
 have:e'=e2:=by injection e_3 with _ h;omega
 subst this
 have:a=a':=by injection e_2 with _ h;omega
 subst this
 have:t=t':=by injection e_4
 subst this
 subst e_5
 refine hS.bU ?_
 refine hS.bS rfl rfl rfl (by omega) fun H4 rx hS=>?_
 have hS:=hS.to (cs':=[vi kd,vn a,vn e',.string t,.slice xa xn xc]) rfl
 have hS:=hS.perm (L':=(rx,128,[vi kd,vn a,vn e',.string t,.slice xa xn xc])::(gb++[_,_,_])) (List.Perm.cons _ (aaM _ _ _ _))
 refine hg.add hS (by omega) rfl rfl (by omega) fun v' H5 cO hg' hS' hx'=>?_
 have hE:=y_ (es:=5) (n:=n) hcl (xs:=[vi kd,vn a,vn e',.string t,.slice xa xn xc]) rfl
 have hS:=hS'.perm (List.perm_append_comm (l₂:=[_,_,_]))
 simp only[List.cons_append,List.nil_append]at hS
 refine hS.aZ ?_
 refine ak.mono (qj s e' (by omega) (by omega)) ?_
 rintro v H' ⟨⟨k2,rfl,hk2,hk3⟩,rfl⟩
 have hS2:=(hS0.over hS)
 refine⟨s.size -k2,by omega,_,_,_,_,_,_,_,rfl,k2,n +1,_,cO,rfl,rfl,by omega,hg',by rw[List.length_append,hcl];simp;omega,by omega,?_,?_⟩
 ·intro i hi
  rcases Nat.lt_or_ge i n with h|h
  ·rw[hE.1 i h]
   exact((htk i h).st hx (fun q h=>nomatch h) (Nat.le_refl _)).st hS.ext (fun q hq=>.inr fun ht=>htn q hq (ht.f_ (hx.obj q (hlt q hq) (by simp)).symm)) (Nat.le_refl _)
  ·have:i=n:=by omega
   subst this
   rw[hE.2]
   exact⟨kd,a,e',t,_,rfl,by omega,h6,(h7.stay hS.ext fun q hq=>.inl (hlt q hq)).le (Nat.le_refl _) hge⟩
 ·exact SH.drop (A:=[_,_]) (by simpa using hS2)
end Go.Proofs.Lu
set_option maxRecDepth 100000
set_option maxHeartbeats 4000000
namespace Go.Proofs.Lu
open Go.Ae Go.Ae.M
variable{H0 H:aa}{L M:List aL}{S:List Nat}{F:Nat→Prop}
abbrev pr(r:Nat):Value:=.pointer (some ⟨r,0,none⟩)
structure RC where
 (rt ra rp rr:Nat)(a:Option Addr)(n c:Nat)(cs:List Value)(nu:Nat)
abbrev gz(rt ra:Nat):Value:=.func (.func 71) ⟨[]⟩ ⟨[pr rt,pr ra]⟩
abbrev mU(rp ra rt:Nat):Value:=.func (.func 72) ⟨[]⟩ ⟨[pr rp,pr ra,pr rt]⟩
def RuC(l:List Value):Prop:=∃(nm:ByteArray)(u f w:Bool)(ch root at':Int),l=[.string nm,.bool u,.bool f,.bool w,vi ch,vi root,vi at']∧nm.size≤1000000
def U6(F:Nat→Prop)(H:aa)(l:List Value):Prop:=∃(kd:Int)(a:Option Addr)(n c:Nat)(ks:List Value)(t:ByteArray)(rs:Value)(at':Int),l=[vi kd,.slice a n c,.string t,rs,vi at']∧eX F 3 H a n 1 ks∧n≤20001∧(∀x∈ks,∃z:Int,x=vi z)∧t.size≤1000000∧bf 0 20001 H rs
theorem U6.st{S:List Nat}{F:Nat→Prop}{H H':aa}{l:List Value}(h:U6 F H l)(hx:kS S H H')(hS:∀q∈S,(¬F q∨¬qy H q 3)∧¬qy H q 269):U6 F H' l:=by
 obtain⟨kd,a,n,c,ks,t,rs,at',h1,h2,h3,h4,h5,h6⟩:=h
 exact⟨kd,a,n,c,ks,t,rs,at',h1,h2.stay hx (fun q hq=>(hS q hq).1),h3,h4,h5,h6.stay hx fun q hq=>.inr (hS q hq).2⟩
def Rd(F:Nat→Prop)(q:RC)(k:Nat)(H:aa)(M:List aL):Prop:=∃rv rcs gr nv bV gn sc sa nr nn,
 M=(q.rt,122,[.slice q.a q.n q.c])::(q.ra,3,[vn k])::(q.rp,129,[gz q.rt q.ra])::(q.rr,133,[gz q.rt q.ra,mU q.rp q.ra q.rt,rv,nv,vi sc,vi sa])::(gr++gn)∧
 k<q.n∧K4 0 H q.a q.n q.cs∧GB 141 7 rv rcs gr∧rcs.length=nr*7∧nr=q.nu∧(∀i,i<nr→RuC (El rcs 7 i))∧GB 145 5 nv bV gn∧bV.length=nn*5∧nn≤4000∧(∀i,i<nn→U6 F H (El bV 5 i))∧¬F q.ra
theorem Rd.le{q:RC}{k:Nat}(h:Rd F q k H M):k<q.n∧q.n≤20001:=by
 obtain⟨rv,rcs,gr,nv,bV,gn,sc,sa,nr,nn,_,h1,h2,_⟩:=h
 exact⟨h1,h2.2.2.1⟩
theorem U6.wk{F':Nat→Prop}{l:List Value}(h:U6 F H l)(hF:∀r,r<H.next→F r→F' r):U6 F' H l:=by
 obtain⟨kd,a,n,c,ks,t,rs,at',h1,h2,h3⟩:=h
 exact⟨kd,a,n,c,ks,t,rs,at',h1,⟨h2.1,fun r o e hn=>by obtain⟨g1,g2,g3⟩:=h2.2 r o e hn;exact⟨hF r g2 g1,g2,g3⟩⟩,h3⟩
theorem Rd.wk{F':Nat→Prop}{q:RC}{k:Nat}(h:Rd F q k H M)(hF:∀r,r<H.next→F r→F' r)(ha:¬F' q.ra):Rd F' q k H M:=by
 obtain⟨rv,rcs,gr,nv,bV,gn,sc,sa,nr,nn,h0,h1,h2,h3,h4,h5,h6,h7,h8,h9,h10,rT⟩:=h
 exact⟨rv,rcs,gr,nv,bV,gn,sc,sa,nr,nn,h0,h1,h2,h3,h4,h5,h6,h7,h8,h9,fun i hi=>(h10 i hi).wk hF,ha⟩
theorem Rd.ex{q:RC}{k:Nat}{H':aa}(h:Rd F q k H M)(hx:Ext H H'):Rd F q k H' M:=by
 obtain⟨rv,rcs,gr,nv,bV,gn,sc,sa,nr,nn,h0,h1,h2,h3,h4,h5,h6,h7,h8,h9,h10,rT⟩:=h
 exact⟨rv,rcs,gr,nv,bV,gn,sc,sa,nr,nn,h0,h1,h2.st hx (fun _ h=>nomatch h) (Nat.le_refl _),h3,h4,h5,h6,h7,h8,h9,fun i hi=>(h10 i hi).st hx (fun _ h=>nomatch h),rT⟩
theorem Rd.ty{q:RC}{k:Nat}(h:Rd F q k H M)(hS:SH S H0 H (M++L)):∀r∈M.map (·.1),(r=q.ra∨¬qy H r 3)∧¬qy H r 269∧¬qy H r 128:=by
 obtain⟨rv,rcs,gr,nv,bV,gn,sc,sa,nr,nn,rfl,h1,h2,h3,h4,h5,h6,h7,h8,h9,h10,rT⟩:=h
 intro r hr
 obtain⟨e,he,rfl⟩:=List.mem_map.1 hr
 have hb:=(hS.bk e (List.mem_append_left _ he)).Qc
 have key:e.1=q.ra∨(e.2.1≠3∧e.2.1≠269∧e.2.1≠128)∨e.2.1=3∧e.1=q.ra:=by
  simp only[List.mem_cons,List.mem_append]at he
  rcases he with rfl|rfl|rfl|rfl|he|he
  ·exact .inr (.inl ⟨(show(122:Nat)≠3 by decide),(show(122:Nat)≠269 by decide),(show(122:Nat)≠128 by decide)⟩)
  ·exact .inl rfl
  ·exact .inr (.inl ⟨(show(129:Nat)≠3 by decide),(show(129:Nat)≠269 by decide),(show(129:Nat)≠128 by decide)⟩)
  ·exact .inr (.inl ⟨(show(133:Nat)≠3 by decide),(show(133:Nat)≠269 by decide),(show(133:Nat)≠128 by decide)⟩)
  ·refine .inr (.inl ?_)
   rcases h3 with⟨_,_,rfl⟩|⟨_,_,_,_,_,rfl⟩
   ·cases he
   ·rw[List.mem_singleton]at he;subst he;exact⟨(show(141:Nat)≠3 by decide),(show(141:Nat)≠269 by decide),(show(141:Nat)≠128 by decide)⟩
  ·refine .inr (.inl ?_)
   rcases h7 with⟨_,_,rfl⟩|⟨_,_,_,_,_,rfl⟩
   ·cases he
   ·rw[List.mem_singleton]at he;subst he;exact⟨(show(145:Nat)≠3 by decide),(show(145:Nat)≠269 by decide),(show(145:Nat)≠128 by decide)⟩
 have ra3:e.1=q.ra→e.2.1=3:=by
  intro e1
  have hra:qy H q.ra 3:=(hS.bk (q.ra,3,[vn k]) (List.mem_append_left _ (by simp))).Qc
  rw[e1]at hb
  exact hb.one hra
 have far:e.1=q.ra→¬qy H e.1 269∧¬qy H e.1 128:=fun h=>by
  rw[ra3 h]at hb
  exact⟨fun ht=>(by have:=hb.one ht;cases this),fun ht=>(by have:=hb.one ht;cases this)⟩
 rcases key with h|⟨h,h',h''⟩|⟨_,h⟩
 ·exact⟨.inl h,far h⟩
 ·exact⟨.inr fun ht=>h (hb.one ht),fun ht=>h' (hb.one ht),fun ht=>h'' (hb.one ht)⟩
 ·exact⟨.inl h,far h⟩
theorem Rd.on{q:RC}{k:Nat}{H':aa}(h:Rd F q k H M)(hS:SH S H0 H (M++L))(hx:kS (M.map (·.1)) H H'):Rd F q k H' M:=by
 have hty:=h.ty hS
 obtain⟨rv,rcs,gr,nv,bV,gn,sc,sa,nr,nn,h0,h1,h2,h3,h4,h5,h6,h7,h8,h9,h10,rT⟩:=h
 exact⟨rv,rcs,gr,nv,bV,gn,sc,sa,nr,nn,h0,h1,h2.st hx (fun r hr=>.inr (hty r hr).2) (Nat.le_refl _),h3,h4,h5,h6,h7,h8,h9,fun i hi=>(h10 i hi).st hx fun r hr=>⟨(hty r hr).1.imp_left (fun e=>by rw[e];exact rT),(hty r hr).2.1⟩,rT⟩
theorem K4.get{b:Nat}{a:Option Addr}{n:Nat}{cs:List Value}(h:K4 b H a n cs){i:Nat}(hi:i<n):∃(kd:Int)(at' e:Nat)(t:ByteArray)(xa:Option Addr)(xn xc:Nat),El cs 5 i=[vi kd,vn at',vn e,.string t,.slice xa xn xc]∧at'≤20000∧t.size≤1000000∧bf b 20000 H (.slice xa xn xc)∧(i=n -1→kd=0):=by
 obtain⟨kd,at',e,t,rs,h1,h2,h3,h4⟩:=h.2.2.2.1 i hi
 obtain⟨xa,xn,xc,xcs,rfl,h5⟩:=id h4
 refine⟨kd,at',e,t,xa,xn,xc,h1,h2,h3,h4,fun e'=>?_⟩
 subst e'
 have h6:=h.2.2.2.2
 have h7:=je cs 5 (n -1) 0
 rw[if_pos (by omega),h1,Nat.add_zero,h6]at h7
 simpa using Option.some.inj h7
theorem TU{q:RC}{k:Nat}(hR:Rd F q k H M)(hS:SH S H0 H (M++L))(j:Nat)(hj:j≤1000):ak Pg X 71 [vn j,pr q.rt,pr q.ra] H (Q1 (fun v _=>v=.agg ⟨El q.cs 5 (min (k +j) (q.n -1))⟩) H):=by
 have hkn:=hR.le
 obtain⟨rv,rcs,gr,nv,bV,gn,sc,sa,nr,nn,rfl,h1,h2,_⟩:=hR
 have bt:=hS.get 0 rfl
 have ba:=hS.get 1 rfl
 have lt:=(hS.lo _ (List.mem_of_getElem? (i:=0) rfl)).2
 have la:=(hS.lo _ (List.mem_of_getElem? (i:=1) rfl)).2
 have hS:=SH.refl hS.wf
 refine ce [0,1,2,4] ?_;refine tl ?_
 refine hS.dh fun Hn rb hS=>?_
 refine hS.Em (bt.cell (o:=0) rfl) lt ?_
 refine hS.Em (ba.cell (o:=0) rfl) la ?_
 refine PU.of (au (by omega) (by omega)) ?_
 refine hS.Em (bt.cell (o:=0) rfl) lt ?_
 simp only[PP,Nat.reduceBEq]
 refine PU.of (ax (by omega) (by omega)) ?_
 simp only[PP,Nat.reduceBEq]
 rw[show min ((k:Int) +(j:Int)) ((q.n:Int) -1)=((min (k +j) (q.n -1):Nat):Int) by omega]
 obtain⟨r,o,e,hr,hrd,hel,o0,_⟩:=h2.1.1.read (by omega) (show min (k +j) (q.n -1)<q.n by omega) q.c
 rw[e]
 simp only[PP,Nat.reduceBEq]
 obtain⟨kd,at',e',t,xa,xn,xc,he,_⟩:=h2.get (i:=min (k +j) (q.n -1)) (by omega)
 rw[he]at hrd
 rw[he]
 refine hS.pY hrd hr ?_
 refine hS.iX fun Hn hS=>?_
 refine rr ?_
 refine hS.bU ?_
 exact⟨rfl,hS.ext⟩
theorem Rd.Ga{q:RC}{k:Nat}(hR:Rd F q k H M)(hS:SH S H0 H (M++L))(j:Nat)(hj:j≤1000){K:Value→Value→aa→Prop}
 (h:∀H',Rd F q k H' M→SH S H0 H' (M++L)→Ext H H'→K (gz q.rt q.ra) (.agg ⟨El q.cs 5 (min (k +j) (q.n -1))⟩) H'):ME (ko none (.pointer (some ⟨q.rr,0,none⟩)) H) fun v H1=>eY Pg X (Db v) [vn j] H1 (K v):=by
 have hR0:=hR
 obtain⟨rv,rcs,gr,nv,bV,gn,sc,sa,nr,nn,rfl,_⟩:=hR
 refine hS.ld 3 rfl rfl ?_
 show ak Pg X 71 [vn j,pr q.rt,pr q.ra] H (K _)
 refine ak.mono (TU hR0 hS j hj) ?_
 rintro v H' ⟨rfl,hx⟩
 exact h H' (hR0.ex hx) (hS.call hx) hx
theorem abO{q:RC}{k:Nat}(hR:Rd F q k H M)(hS:SH S H0 H (M++L)):ak Pg X 72 [pr q.rp,pr q.ra,pr q.rt] H fun v H'=>v=.agg ⟨El q.cs 5 k⟩∧∃M',Rd F q (min (k +1) (q.n -1)) H' M'∧SH (M.map (·.1)) H H' M':=by
 have hkn:=hR.le
 have hR0:=hR
 have hS0:=hS
 have hS:=hS.own
 obtain⟨rv,rcs,gr,nv,bV,gn,sc,sa,nr,nn,rfl,h1,h2,h3,h4,h5,h6,h7,h8,h9,h10,rT⟩:=hR
 obtain⟨kd,at',e',t,xa,xn,xc,he,_⟩:=h2.get (i:=k) h1
 refine ce [0,1,2,3,4] ?_;refine tl ?_
 refine hS.dh fun H1 rb hS=>?_
 refine hS.aZ ?_
 show ak Pg X 71 [vn 0,pr q.rt,pr q.ra] H1 _
 have hS':=hS.perm (List.perm_append_comm (l₁:=[_]))
 refine ak.mono (TU (hR0.on hS0 hS.ext) hS' 0 (by omega)) ?_
 rintro v H2 ⟨rfl,hx⟩
 rw[show min (k +0) (q.n -1)=k by omega,he]
 have hS:=hS.call hx
 refine hS.dh fun H1 r8 hS=>?_
 refine hS.iX fun Hn hS=>?_;refine hS.aZ ?_
 rw[au (by omega) (by omega)]
 repeat(first|(simp only[PP,Nat.reduceBEq,aj hS.wf])|(refine hS.aZ ?_))
 rw[ax (by omega) (by omega)]
 repeat(first|(simp only[PP,Nat.reduceBEq,aj hS.wf])|(refine hS.bU ?_)|(refine hS.iX fun Hn hS=>?_))
 rw[show min ((k:Int) +1) ((q.n:Int) -1)=((min (k +1) (q.n -1):Nat):Int) by omega]at hS
 refine rr ?_
 simp only[PP,Nat.reduceBEq,aj hS.wf];refine hS.bU ?_
 refine⟨rfl,(q.rt,122,[.slice q.a q.n q.c])::(q.ra,3,[vn (min (k +1) (q.n -1))])::(q.rp,129,[gz q.rt q.ra])::(q.rr,133,[gz q.rt q.ra,mU q.rp q.ra q.rt,rv,nv,vi sc,vi sa])::(gr++gn),?_,SH.drop (A:=[_,_]) hS⟩
 have o8:=hR0.on hS0 hS.ext
 obtain⟨rv',abP,gr',nv',abQ,ZC,sc',sa',nr',nn',e0,g1,g2,_⟩:=o8
 refine⟨rv,rcs,gr,nv,bV,gn,sc,sa,nr,nn,rfl,by omega,g2,h3,h4,h5,h6,h7,h8,h9,fun i hi=>(h10 i hi).st hS.ext fun r hr=>?_,rT⟩
 have:=hR0.ty hS0 r hr
 exact⟨this.1.imp_left (fun e=>by rw[e];exact rT),this.2.1⟩
theorem Rd.next{q:RC}{k:Nat}(hR:Rd F q k H M)(hS:SH S H0 H (M++L)){K:Value→Value→aa→Prop}
 (h:∀H' M',Rd F q (min (k +1) (q.n -1)) H' M'→SH S H0 H' (M'++L)→SH (M.map (·.1)) H H' M'→K (mU q.rp q.ra q.rt) (.agg ⟨El q.cs 5 k⟩) H'):ME (ko none (.pointer (some ⟨q.rr,1,none⟩)) H) fun v H1=>eY Pg X (Db v) [] H1 (K v):=by
 have hR0:=hR
 obtain⟨rv,rcs,gr,nv,bV,gn,sc,sa,nr,nn,rfl,_⟩:=hR
 refine hS.ld 3 rfl rfl ?_
 show ak Pg X 72 [pr q.rp,pr q.ra,pr q.rt] H (K _)
 refine ak.mono (abO hR0 hS) ?_
 rintro v H' ⟨rfl,M',hR',hS'⟩
 exact h H' M' hR' (hS.frame hS') hS'
theorem qp{q:RC}{k:Nat}(hR:Rd F q k H M)(hS:SH S H0 H (M++L))(cd at':Int):ak Pg X 110 [pr q.rr,vi cd,vi at'] H fun v H'=>v=.bool false∧∃M',Rd F q k H' M'∧SH (M.map (·.1)) H H' M':=by
 have hR0:=hR
 have hS0:=hS
 have hS:=hS.own
 obtain⟨rv,rcs,gr,nv,bV,gn,sc,sa,nr,nn,rfl,h1,h2,h3,h4,h5,h6,h7,h8,h9,h10,rT⟩:=hR
 refine ce [0,1,2,6] ?_;refine tl ?_
 repeat(first|(simp only[PP,Nat.reduceBEq,aj hS.wf])|(refine PU.b2 rfl ?_)|(refine hS.iX fun Hn hS=>?_))
 refine rr ?_;refine⟨rfl,(q.rt,122,[.slice q.a q.n q.c])::(q.ra,3,[vn k])::(q.rp,129,[gz q.rt q.ra])::(q.rr,133,[gz q.rt q.ra,mU q.rp q.ra q.rt,rv,nv,vi cd,vi at'])::(gr++gn),?_,hS⟩
 have o8:=hR0.on hS0 hS.ext
 obtain⟨rv',abP,gr',nv',abQ,ZC,sc',sa',nr',nn',e0,g1,g2,_⟩:=o8
 refine⟨rv,rcs,gr,nv,bV,gn,cd,at',nr,nn,rfl,h1,g2,h3,h4,h5,h6,h7,h8,h9,fun i hi=>(h10 i hi).st hS.ext fun r hr=>?_,rT⟩
 have:=hR0.ty hS0 r hr
 exact⟨this.1.imp_left (fun e=>by rw[e];exact rT),this.2.1⟩
theorem CE{q:RC}{k:Nat}(hR:Rd F q k H M)(hS:SH S H0 H (M++L)):ak Pg X 109 [pr q.rr] H fun v H'=>v=.bool false∧∃M',Rd F q k H' M'∧SH (M.map (·.1)) H H' M':=by
 have hkn:=hR.le
 have hS0:=hS
 have hS:=hS.own
 refine ce [0,2,3] ?_;refine tl ?_
 simp only[PP,Nat.reduceBEq]
 have hS1:SH (M.map (·.1)) H H (M++[]):=by rw[List.append_nil];exact hS
 refine hR.Ga hS1 0 (by omega) fun H1 o8 hS1 hx1=>?_
 obtain⟨kd,at',e',t,xa,xn,xc,he,_⟩:∃(kd:Int)(at' e:Nat)(t:ByteArray)(xa:Option Addr)(xn xc:Nat),El q.cs 5 (min (k +0) (q.n -1))=[vi kd,vn at',vn e,.string t,.slice xa xn xc]∧True:=by
  obtain⟨_,_,_,_,_,_,_,_,_,_,_,_,h2,_⟩:=hR
  obtain⟨kd,at',e',t,xa,xn,xc,he,_⟩:=h2.get (i:=min (k +0) (q.n -1)) (by omega)
  exact⟨kd,at',e',t,xa,xn,xc,he,trivial⟩
 rw[he]
 have hS:=hS1.perm List.perm_append_comm
 simp only[List.nil_append]at hS
 refine hS.dh fun H2 rb hS=>?_
 repeat(first|(simp only[PP,Nat.reduceBEq,aj hS.wf])|(refine hS.aZ ?_)|(refine hS.iX fun Hn hS=>?_))
 have hx2:=hS.ext
 have hS2:=hS.perm (List.perm_append_comm (l₁:=[_]))
 have hR2:=hR.on hS0 hx2
 refine ah (fun hc=>?_) (fun hc=>?_)
 ·refine hS.aZ ?_
  refine ak.mono (qp hR2 hS2 _ _) ?_
  rintro v H3 ⟨rfl,M',wG,kT⟩
  refine rr ?_;refine⟨rfl,M',wG,?_⟩
  exact SH.drop (A:=[_]) ((hS2.frame kT).perm List.perm_append_comm)
 ·refine hS.aZ ?_
  refine ak.mono (qp hR2 hS2 _ _) ?_
  rintro v H3 ⟨rfl,M',wG,kT⟩
  refine rr ?_;refine⟨rfl,M',wG,?_⟩
  exact SH.drop (A:=[_]) ((hS2.frame kT).perm List.perm_append_comm)
end Go.Proofs.Lu
set_option maxRecDepth 100000
set_option maxHeartbeats 4000000
namespace Go.Proofs.Lu
open Go.Ae Go.Ae.M
variable{H0 H:aa}{L M:List aL}{S:List Nat}{F:Nat→Prop}
theorem Rd.tok{q:RC}{k i:Nat}(hR:Rd F q k H M)(hi:i<q.n):∃(kd:Int)(at' e:Nat)(t:ByteArray)(xa:Option Addr)(xn xc:Nat),El q.cs 5 i=[vi kd,vn at',vn e,.string t,.slice xa xn xc]∧at'≤20000∧t.size≤1000000∧bf 0 20000 H (.slice xa xn xc)∧(i=q.n -1→kd=0):=by
 obtain⟨_,_,_,_,_,_,_,_,_,_,_,_,h2,_⟩:=hR
 exact h2.get hi
theorem wH(x:Value)(l:List Value):Zc none 0 (.agg ⟨x::l⟩)=some x:=rfl
theorem K5(x y:Value)(l:List Value):Zc none 1 (.agg ⟨x::y::l⟩)=some y:=rfl
theorem ze{q:RC}{k:Nat}(hR:Rd F q k H M)(hS:SH S H0 H (M++L))(kd:Int)(hkd:kd≠0):ak Pg X 111 [pr q.rr,vi kd] H fun v H'=>∃(b:Bool)(k':Nat)(M':List aL),v=.bool b∧Rd F q k' H' M'∧SH (M.map (·.1)) H H' M'∧k≤k'∧(b=true→k'=k +1):=by
 have hkn:=hR.le
 have hS0:=hS
 have hS:=hS.own
 refine ce [0,1,4] ?_;refine tl ?_
 simp only[PP,Nat.reduceBEq]
 have hS1:SH (M.map (·.1)) H H (M++[]):=by rw[List.append_nil];exact hS
 refine hR.Ga hS1 0 (by omega) fun H1 o8 hS1 hx1=>?_
 rw[show min (k +0) (q.n -1)=k by omega]
 obtain⟨kd',at',e',t,xa,xn,xc,he,_,_,_,hz⟩:=o8.tok hkn.1
 rw[he,wH]
 simp only[PP,Nat.reduceBEq]
 refine aG (fun hc=>?_) (fun hc=>?_)
 ·refine ak.mono (CE o8 hS1) ?_
  rintro v H3 ⟨rfl,M',wG,kT⟩
  refine rr ?_;refine⟨false,k,M',rfl,wG,?_,Nat.le_refl _,fun h=>by cases h⟩
  have:=hS1.frame kT
  rwa [List.append_nil]at this
 ·refine o8.next hS1 fun H2 M' hR2 hS2 hx2=>?_
  refine rr ?_;refine⟨true,_,M',rfl,hR2,?_,by omega,fun _=>?_⟩
  ·rwa [List.append_nil]at hS2
  ·have:k≠q.n -1:=fun h=>hkd (by rw[←hc];exact hz h)
   omega
theorem wI(hw:Wf H)(kd:Int)(a e:Value)(t x:Value)(h:k_ (.agg ⟨[vi kd,a,e,t,x]⟩)=true):ak Pg X 108 [.agg ⟨[vi kd,a,e,t,x]⟩] H (Q1 (fun v _=>v=.bool (decide (kd=1)||decide (kd=2))) H):=by
 have hS:=SH.refl hw
 refine ce [0,1,2] ?_;refine tl ?_
 refine hS.box h fun H1 r hS=>?_
 repeat(first|(simp only[PP,Nat.reduceBEq,aj hS.wf])|(refine hS.aZ ?_))
 refine ah (fun hc=>?_) (fun hc=>?_)
 ·refine rr ?_;refine⟨?_,hS.ext⟩
  rw[decide_eq_true hc];rfl
 ·refine hS.aZ ?_;simp only[PP,Nat.reduceBEq,aj hS.wf]
  refine rr ?_;refine⟨?_,hS.ext⟩
  rw[decide_eq_false hc];rfl
theorem Je(hw:Wf H)(kd:Int)(a e:Value)(t x:Value)(h:k_ (.agg ⟨[vi kd,a,e,t,x]⟩)=true):ak Pg X 181 [.agg ⟨[vi kd,a,e,t,x]⟩] H (Q1 (fun v _=>∃b:Bool,v=.bool b∧(b=true→kd≠0)) H):=by
 have hS:=SH.refl hw
 refine ce [0,1,2,4] ?_;refine tl ?_
 refine hS.box h fun H1 r hS=>?_
 repeat(first|(simp only[PP,Nat.reduceBEq,aj hS.wf])|(refine hS.aZ ?_))
 refine ah (fun hc=>?_) (fun hc=>?_)
 ·rw[decide_eq_true hc]
  simp only[PP,Nat.reduceBEq,aj hS.wf]
  refine rr ?_;exact⟨⟨true,rfl,fun _=>by omega⟩,hS.ext⟩
 refine ah (fun hc=>?_) (fun hc=>?_)
 ·rw[decide_eq_true hc]
  simp only[PP,Nat.reduceBEq,aj hS.wf]
  refine rr ?_;exact⟨⟨true,rfl,fun _=>by omega⟩,hS.ext⟩
 refine ah (fun hc=>?_) (fun hc=>?_)
 ·rw[decide_eq_true hc]
  simp only[PP,Nat.reduceBEq,aj hS.wf]
  refine rr ?_;exact⟨⟨true,rfl,fun _=>by omega⟩,hS.ext⟩
 refine ah (fun hc=>?_) (fun hc=>?_)
 ·rw[decide_eq_true hc]
  simp only[PP,Nat.reduceBEq,aj hS.wf]
  refine rr ?_;exact⟨⟨true,rfl,fun _=>by omega⟩,hS.ext⟩
 refine ah (fun hc=>?_) (fun hc=>?_)
 ·rw[decide_eq_true hc]
  simp only[PP,Nat.reduceBEq,aj hS.wf]
  refine rr ?_;exact⟨⟨true,rfl,fun _=>by omega⟩,hS.ext⟩
 refine ah (fun hc=>?_) (fun hc=>?_)
 ·rw[decide_eq_true hc]
  simp only[PP,Nat.reduceBEq,aj hS.wf]
  refine rr ?_;exact⟨⟨true,rfl,fun _=>by omega⟩,hS.ext⟩
 refine ah (fun hc=>?_) (fun hc=>?_)
 ·refine rr ?_;exact⟨⟨true,rfl,fun _=>by omega⟩,hS.ext⟩
 ·refine rr ?_;exact⟨⟨false,rfl,fun h=>by cases h⟩,hS.ext⟩
def Ym(F:Nat→Prop)(H:aa)(v:Value):Prop:=∃l,v=.agg ⟨l⟩∧U6 F H l
theorem uq{q:RC}{k:Nat}(hR:Rd F q k H M)(hS:SH S H0 H (M++L)){v:Value}(hv:Ym F H v)(at':Int):ak Pg X 148 [pr q.rr,v,vi at'] H fun w H'=>∃(i:Nat)(b:Bool)(M':List aL),w=.tuple ⟨[vn i,.bool b]⟩∧i<4000∧Rd F q k H' M'∧SH (M.map (·.1)) H H' M':=by
 have hR0:=hR
 have hS0:=hS
 have hS:=hS.own
 have hty:=hR.ty hS0
 obtain⟨rv,rcs,gr,nv,bV,gn,sc,sa,nr,nn,rfl,h1,h2,h3,h4,h5,h6,h7,h8,h9,h10,rT⟩:=hR
 obtain⟨l,rfl,hno⟩:=hv
 obtain⟨kd,ka,kn,kc,ks,t,rs,na,rfl,hk1,hk2,hk3,hk4,hk5⟩:=id hno
 obtain⟨xa,xn,xc,xcs,rfl,Yn⟩:=id hk5
 obtain⟨na',nc,cc,rfl,hnl,hnf⟩:∃a n c,nv=.slice a n c∧bV.length=n*5∧True:=by
  rcases h7 with⟨rfl,rfl,_⟩|⟨r,n,aO,rfl,hn,_⟩
  ·exact⟨_,_,_,rfl,by simp,trivial⟩
  ·exact⟨_,_,_,rfl,hn,trivial⟩
 have hnn:nc=nn:=by omega
 subst hnn
 refine ce [0,1,2,4,6,7] ?_;refine tl ?_
 refine hS.box rfl fun H1 rb hS=>?_
 repeat(first|(simp only[PP,Nat.reduceBEq,aj hS.wf])|(refine hS.aZ ?_))
 refine ah (fun hc=>?_) (fun hc=>?_)
 ·have hS2:=hS.perm (List.perm_append_comm (l₁:=[_]))
  refine ak.mono (qp (hR0.on hS0 hS.ext) hS2 _ _) ?_
  rintro v H3 ⟨rfl,M',wG,kT⟩
  refine rr ?_;refine⟨0,false,M',rfl,by omega,wG,?_⟩
  exact SH.drop (A:=[_]) ((hS2.frame kT).perm List.perm_append_comm)
 ·have hlt:nc<4000:=by omega
  repeat(first|(simp only[PP,Nat.reduceBEq,aj hS.wf])|(refine hS.iW ?_)|(refine hS.mQ ?_))
  refine hS.U1 rfl rfl rfl (by omega) fun H2 rx hS jE=>?_
  have hS:=hS.to (cs':=[vi kd,.slice ka kn kc,.string t,.slice xa xn xc,vi na]) rfl
  have hS:=hS.perm (L':=(rx,145,[vi kd,.slice ka kn kc,.string t,.slice xa xn xc,vi na])::(gn++((rb,145,[vi kd,.slice ka kn kc,.string t,.slice xa xn xc,vi na])::(q.rt,122,[.slice q.a q.n q.c])::(q.ra,3,[vn k])::(q.rp,129,[gz q.rt q.ra])::(q.rr,133,[gz q.rt q.ra,mU q.rp q.ra q.rt,rv,.slice na' nc cc,vi sc,vi sa])::gr))) (List.Perm.cons _ (List.perm_append_comm (l₁:=_::_::_::_::_::gr)))
  refine h7.FN hS (by omega) rfl rfl (by omega) fun v' H3 ZC hg' hS hx' OO mH=>?_
  have hS:=hS.perm (List.perm_append_comm (l₂:=_::_::_::_::_::gr))
  simp only[List.cons_append]at hS
  obtain⟨va,Wl,vc,rfl,hvl,_⟩:∃a n c,v'=.slice a n c∧(bV++[vi kd,.slice ka kn kc,.string t,.slice xa xn xc,vi na]).length=n*5∧True:=by
   rcases hg' with⟨_,h,_⟩|⟨r,n,aO,rfl,hn,_⟩
   ·exact absurd h (by simp)
   ·exact⟨_,_,_,rfl,hn,trivial⟩
  have hvn:Wl=nc +1:=by rw[List.length_append,hnl]at hvl;simp at hvl;omega
  subst hvn
  refine hS.qc fun Hn hS=>?_
  have hne:q.rr≠rb:=(hS.nq 0 4 rfl rfl (by omega)).symm
  have hgo:∀K:Prop,K→bY (opsOf (sub xS [1,1,0])) [clS (.pointer (some ⟨q.rr,2 +1,none⟩)) (.slice va (nc +1) vc) (hM (hM H1 H2) H3) Hn,cl 0,cl 0,cl 0,FL (hM H1 H2) H3,OX H1 H2,Xx 5 (.pointer (some ⟨rb,0,none⟩)) H1 (hN H1),Xx 1 (.pointer (some ⟨q.rr,2 +1,none⟩)) H1 (hN H1),cl 0,cl 0,cl 0,cl 0,cl 0]=true∧K:=by
   intro K hK
   simp only[jE,aA,aC]
   generalize q.rr=rr at hne
   rcases mH with e|e<;>rw[e]<;>apply nZ (a:=rr) (b:=rb) hne (by intros;rfl) (by kernel_rfl) (by kernel_rfl) hK
  refine hgo _ ?_
  refine hS.aZ ?_;simp only[PP,Nat.reduceBEq,aj hS.wf]
  rw[ax (by omega) (by omega)]
  simp only[PP,Nat.reduceBEq,aj hS.wf]
  have hx:=hS.ext
  refine rr ?_;refine⟨nc,true,(q.rt,122,[.slice q.a q.n q.c])::(q.ra,3,[vn k])::(q.rp,129,[gz q.rt q.ra])::(q.rr,133,[gz q.rt q.ra,mU q.rp q.ra q.rt,rv,.slice va (nc +1) vc,vi sc,vi sa])::(gr++ZC),?_,hlt,?_,SH.drop (A:=[_]) hS⟩
  ·rw[show((nc +1:Nat):Int) -1=((nc:Nat):Int) by omega]
  ·have o8:=hR0.on hS0 hx
   obtain⟨rv',abP,gr',nv',abQ,adz,sc',sa',nr',nn',e0,g1,g2,_⟩:=o8
   have hE:=y_ (es:=5) (n:=nc) hnl (xs:=[vi kd,.slice ka kn kc,.string t,.slice xa xn xc,vi na]) rfl
   refine⟨rv,rcs,gr,_,_,ZC,sc,sa,nr,nc +1,rfl,h1,g2,h3,h4,h5,h6,hg',hvl,by omega,fun i hi=>?_,rT⟩
   have hst:∀r∈((q.rt,122,[.slice q.a q.n q.c])::(q.ra,3,[vn k])::(q.rp,129,[gz q.rt q.ra])::(q.rr,133,[gz q.rt q.ra,mU q.rp q.ra q.rt,rv,.slice na' nc cc,vi sc,vi sa])::(gr++gn)).map (fun e:aL=>e.1),(¬F r∨¬qy H r 3)∧¬qy H r 269:=fun r hr=>⟨(hty r hr).1.imp_left (fun e=>by rw[e];exact rT),(hty r hr).2.1⟩
   rcases Nat.lt_or_ge i nc with h|h
   ·rw[hE.1 i h]
    exact(h10 i h).st hx hst
   ·obtain rfl:i=nc:=by omega
    rw[hE.2]
    exact hno.st hx hst
end Go.Proofs.Lu
set_option maxRecDepth 100000
set_option maxHeartbeats 4000000
namespace Go.Proofs.Lu
open Go.Ae Go.Ae.M
variable{H0 H:aa}{L M:List aL}{S:List Nat}
theorem TV(hw:Wf H){m:Nat}(hm:m≤900000){v:Value}(hv:o7 m H v):ak Pg X 212 [v] H (Q1 (fun v H'=>bf H.next (m +1) H' v) H):=by
 refine ce [0,2,3,4,6,8,9,10] ?_;refine tl ?_
 refine ak.mono (wF hw (by omega) hv) ?_
 rintro v H2 ⟨hv2,hx⟩
 obtain⟨a,n,c,cs,rfl,hf,hn,hi⟩:=hv2
 have hw2:=hx.wf hw
 have hS:=SH.refl hw2
 have hnx:H.next≤H2.next:=hx.next
 simp only[PP,Nat.reduceBEq]
 refine KL 3 4 6 10 (I:=fun m x3 x4 x6 aW H'=>∃(k:Nat)(ds:List Value)(gb:List aL)(z:Int),x4=.int .i32 z∧aW=vn k∧k +m=n∧GB 269 2 x3 ds gb∧ds.length≤2*k∧DI ds∧SH [] H2 H' (gb++[])) ?_ n ⟨0,[],[],0,rfl,rfl,by omega,GB.nil _ _,by simp,(fun x h=>nomatch h),hS⟩
 clear hS
 rintro m' x3 x4 x6 aW rg H' ⟨k,ds,gb,z,rfl,rfl,hk,hg,hdl,hds,hS⟩
 refine aS.kH fun K hK=>?_
 refine tl ?_
 simp only[PP,Nat.reduceBEq]
 refine ah (fun hc=>?_) (fun hc=>?_)
 ·obtain⟨r,o,e,hr,hrd,hel,_⟩:=hf.1.read (by omega) (show k<n by omega) c
  rw[e]
  simp only[PP,Nat.reduceBEq]
  obtain⟨z1,z2,ez⟩:=Jc hi (k:=k) (by rw[hf.1.1];omega)
  rw[ez]at hrd
  refine hS.pY hrd hr ?_
  refine hS.dh fun H1 r1 hS=>?_
  repeat(first|(simp only[PP,Nat.reduceBEq,aj hS.wf])|(refine hS.aZ ?_)|(refine hS.iX fun Hn hS=>?_))
  have nx:∀x3 ds gb rg H4,GB 269 2 x3 ds gb→ds.length≤2*(k +1)→DI ds→SH [] H2 H4 ((r1,269,[.int .i32 z1,.int .i32 z2])::(gb++[]))→
   aS Pg X (sub rC [1,1,1,0,1,0,0,1,1,0,0,1,1]) (yX v (.slice none 0 0) x3 (.int .i32 z) (.pointer (some ⟨r1,0,none⟩)) (.slice a n c) (vn n) (vn k) rg H4) (iq 1 (kP Pg X (sub rC [1,1,1,0,1,0,0,1,1,1]) K)):=by
   intro x3 ds gb rg H4 hg hdl hds hS
   subst hK
   refine tl ?_
   repeat(first|(simp only[PP,Nat.reduceBEq,aj hS.wf])|(refine hS.aZ ?_))
   refine tl ?_
   refine PU.of (au (by omega) (by omega)) ?_
   simp only[PP,Nat.reduceBEq]
   exact⟨m' -1,by omega,_,_,_,_,_,_,rfl,k +1,ds,gb,_,rfl,rfl,by omega,hg,by omega,hds,SH.drop (A:=[_]) hS⟩
  refine ah (fun hd=>?_) (fun hd=>?_)
  ·repeat(first|(simp only[PP,Nat.reduceBEq,aj hS.wf])|(refine PU.b2 rfl ?_)|(refine hS.aZ ?_))
   refine hS.bS rfl rfl rfl (by omega) fun H3 rx hS=>?_
   have hS:=hS.perm (L':=(rx,269,ay (.agg ⟨[.int .i32 z,.int .i32 (fM .i32 (z1 -1))]⟩))::(gb++[(r1,269,[.int .i32 z1,.int .i32 z2])])) (List.Perm.cons _ (Eu _ _))
   refine hg.add hS (by omega) rfl rfl (by omega) fun v' H4 cO hg' hS hx'=>?_
   exact nx _ _ _ _ _ hg' (by rw[List.length_append];show ds.length +2≤_;omega) (hds.app _ _) (hS.perm (Eu _ _).symm)
  ·exact nx _ _ _ _ _ hg (by omega) hds hS
 ·have fin:∀v' ds gb H4,GB 269 2 v' ds gb→ds.length≤2*(n +1)→DI ds→SH [] H2 H4 (gb++[])→∀K:Value→aa→Prop,(∀w H5,bf H.next (m +1) H5 w→Ext H H5→K w H5)→ak Pg X 197 [v'] H4 K:=by
   intro v' ds gb H4 hg hdl hds hS K hk
   obtain⟨a',n',c',rfl,hn',hf'⟩:=hg.fl hS
   refine ak.mono (wF (KM:=m +1) hS.wf (by omega) ⟨a',n',c',ds,rfl,hf',by omega,hds⟩) ?_
   rintro w H5 ⟨hw5,hx5⟩
   have:=hS.ext.next
   exact hk w H5 (hw5.le (Nat.le_refl _) (by omega)) ((hx.trans hS.ext).trans hx5)
  obtain rfl:k=n:=by omega
  subst hK
  simp only[PP,Nat.reduceBEq]
  refine tl ?_
  simp only[PP,Nat.reduceBEq]
  refine ah (fun hd=>?_) (fun hd=>?_)
  ·refine PU.b2 rfl ?_;simp only[PP,Nat.reduceBEq,aj hS.wf]
   refine hS.bS rfl rfl rfl (by omega) fun H3 rx hS=>?_
   obtain⟨v',H4,cO,e,hg',hS,_⟩:=hg.app (m:=0) (cx:=1) hS (by omega) rfl rfl (by omega) (by omega)
   refine ME.of e ?_
   refine fin _ _ _ _ hg' (by rw[List.length_append];show ds.length +2≤_;omega) (hds.app _ _) hS _ fun w H5 h1 h2=>?_
   refine rr ?_;exact⟨h1,h2⟩
  ·refine fin _ _ _ _ hg (by omega) hds hS _ fun w H5 h1 h2=>?_
   refine rr ?_;exact⟨h1,h2⟩
end Go.Proofs.Lu
set_option maxRecDepth 100000
set_option maxHeartbeats 4000000
namespace Go.Proofs.Lu
open Go.Ae Go.Ae.M
variable{H0 H:aa}{L M:List aL}{S:List Nat}{F:Nat→Prop}
def Jf(F:Nat→Prop)(q:RC)(M:List aL)(H:aa)(k:Nat)(strict:Bool)(w:Value)(H':aa):Prop:=∃(i:Int)(b:Bool)(k':Nat)(M':List aL),w=.tuple ⟨[vi i,.bool b]⟩∧Rd F q k' H' M'∧SH (M.map (·.1)) H H' M'∧k≤k'∧(b=true→strict=true→k<k')
def Wm(q:RC)(k:Nat):Prop:=∀(F:Nat→Prop) H M d,(∀r,H.next≤r→F r)→Rd F q k H M→SH (M.map (·.1)) H H M→d≤40→ak Pg X 112 [pr q.rr,vn d] H (Jf F q M H k false)
def Wn(q:RC)(k:Nat):Prop:=∀(F:Nat→Prop) H M d,(∀r,H.next≤r→F r)→Rd F q k H M→SH (M.map (·.1)) H H M→d≤40→ak Pg X 147 [pr q.rr,vn d] H (Jf F q M H k false)
def Wo(q:RC)(k:Nat):Prop:=∃(kd:Int)(l:List Value),El q.cs 5 k=vi kd::l∧kd≠0
def Wp(q:RC)(k:Nat):Prop:=∀(F:Nat→Prop) H M d,(∀r,H.next≤r→F r)→Rd F q k H M→SH (M.map (·.1)) H H M→d≤40→Wo q k→ak Pg X 182 [pr q.rr,vn d] H (Jf F q M H k true)
def abR(q:RC)(k:Nat):Prop:=∀(F:Nat→Prop) H M d,(∀r,H.next≤r→F r)→Rd F q k H M→SH (M.map (·.1)) H H M→d≤40→Wo q k→ak Pg X 198 [pr q.rr,vn d] H (Jf F q M H k true)
theorem Wo.lt{q:RC}{k:Nat}(h:Wo q k)(hR:Rd F q k H M):k +1<q.n:=by
 obtain⟨kd,l,h1,h2⟩:=h
 have hk:=hR.le
 obtain⟨kd',at',e,t,xa,xn,xc,h3,_,_,_,hz⟩:=hR.tok hk.1
 rw[h1]at h3
 have:kd=kd':=by
  have:=(List.cons.inj h3).1
  injection this
 have:k≠q.n -1:=fun e=>h2 (by rw[this];exact hz e)
 omega
theorem xZ{kd:Int}{t:ByteArray}{rs:Value}{at':Int}(ht:t.size≤1000000)(hr:bf 0 20001 H rs):Ym F H (.agg ⟨[vi kd,.slice none 0 0,.string t,rs,vi at']⟩):=
 ⟨_,rfl,kd,none,0,0,[],t,rs,at',rfl,eX.nil _ _ _ _ _,by omega,(fun x h=>nomatch h),ht,hr⟩
theorem Rd.n{q:RC}{k:Nat}(h:Rd F q k H M):Rd F q k (hN H) M:=h
theorem SH.nn{S:List Nat}{M:List aL}(h:SH S H H M):SH S (hN H) (hN H) M:=h.o6
theorem ZD{q:RC}{M Mb Lx:List aL}{H Hb Hc:aa}{k kb:Nat}(hRb:Rd F q kb Hb Mb)(hSb:SH (M.map (·.1)) H Hb Mb)(hk:k<kb)(hS:SH (Mb.map (·.1)) Hb Hc (Lx++Mb)){v:Value}(hv:Ym F Hc v)(z:Int):
 ak Pg X 148 [pr q.rr,v,vi z] Hc fun w H'=>∃(i:Int)(b:Bool),w=.tuple ⟨[vi i,.bool b]⟩∧Jf F q M H k true w H':=by
 have hS2:=hS.perm (List.perm_append_comm (l₁:=Lx))
 have ZE:SH (M.map (·.1)) H Hb (Mb++[]):=by rw[List.append_nil];exact hSb
 refine ak.mono (uq (hRb.on ZE hS.ext) hS2 hv z) ?_
 rintro w H4 ⟨i,b,M3,rfl,_,wG,kT⟩
 refine⟨i,b,rfl,i,b,kb,M3,rfl,wG,?_,by omega,fun _ _=>hk⟩
 exact hSb.over (by simpa using SH.drop (A:=Lx) ((hS2.frame kT).perm List.perm_append_comm))
theorem Yo{q:RC}{M Mb Lx:List aL}{H Hb Hc:aa}{k kb:Nat}(hRb:Rd F q kb Hb Mb)(hSb:SH (M.map (·.1)) H Hb Mb)(hk:k<kb)(hS:SH (Mb.map (·.1)) Hb Hc (Lx++Mb)){v:Value}(hv:Ym F Hc v)(z:Int):
 ak Pg X 148 [pr q.rr,v,vi z] (hN Hc) fun w H'=>∃(i:Int)(b:Bool),w=.tuple ⟨[vi i,.bool b]⟩∧Jf F q M H k true w (hM Hc H'):=by
 have hS2:=hS.perm (List.perm_append_comm (l₁:=Lx))
 have ZE:SH (M.map (·.1)) H Hb (Mb++[]):=by rw[List.append_nil];exact hSb
 refine ak.mono (uq (hRb.on ZE hS.ext).n hS2.o6 (v:=v) hv z) ?_
 rintro w H4 ⟨i,b,M3,rfl,_,wG,kT⟩
 refine⟨i,b,rfl,i,b,kb,M3,rfl,wG,?_,by omega,fun _ _=>hk⟩
 exact hSb.over (by simpa using SH.drop (A:=Lx) ((hS2.Sn kT).perm List.perm_append_comm))
theorem Ym.n{v:Value}(h:Ym F H v):Ym F (hN H) v:=h
theorem Wq{q:RC}{k:Nat}(ih:∀k',k<k'→Wm q k'):abR q k:=by
 intro F H M d hF hR hS hd hkd
 have hlt:=hkd.lt hR
 have hkn:=hR.le
 obtain⟨kd,at',e',t,xa,xn,xc,he,ha2,ht,hrs,hz⟩:=hR.tok hkn.1
 have adA:kd≠0:=by
  obtain⟨kd',l,h1,h2⟩:=hkd
  rw[he]at h1
  have:=(List.cons.inj h1).1
  injection this with _ h3
  omega
 have hty:=hR.ty (L:=[]) (by rw[List.append_nil];exact hS)
 have acW:SH (M.map (·.1)) H H (M++[]):=by rw[List.append_nil];exact hS
 refine ce [0,1,4,5,6,7,8,9,16] ?_;refine tl ?_
 simp only[PP,Nat.reduceBEq]
 refine hR.next acW fun H1 M1 o8 hS1 hx1=>?_
 rw[show min (k +1) (q.n -1)=k +1 by omega]at o8
 rw[he]
 have acX:bf 0 20000 H1 (.slice xa xn xc):=hrs.stay hx1.ext fun r hr=>.inr (hty r hr).2.1
 have adB:=hx1
 have acY:=o8.ty (L:=[]) hS1
 have hS:=hS1.own
 refine hS.dh fun H2 rb hS=>?_
 refine hS.iX fun H3 hS=>?_
 have hS:SH (M1.map (·.1)) H1 H3 ((rb,128,[vi kd,vn at',vn e',.string t,.slice xa xn xc])::M1):=hS
 have drs:∀H3,kS (M1.map (·.1)) H1 H3→bf 0 20000 H3 (.slice xa xn xc):=fun H3 hx=>acX.stay hx fun r hr=>.inr (acY r hr).2.1
 repeat(first|(simp only[PP,Nat.reduceBEq,aj hS.wf])|(refine hS.aZ ?_))
 have kM:∀(b:Bool) rg,Ag rg 17=.bool b→aS Pg X (sub og [1,1,0,1,0,1]) (uU (pr q.rr) (vn d) (.int .i64 0) (.bool false) (.pointer (some ⟨rb,0,none⟩)) top top top (vi kd) rg H3) (iq 0 (kP Pg X (sub og [1,1,1]) (cB Pg [.tmp 4,.tmp 5] (Jf F q M H k true)))):=by
  intro b rg hb
  refine tl ?_
  rw[hb]
  simp only[PP,Nat.reduceBEq]
  refine aB (fun hb=>?_) (fun hb=>?_)
  ·repeat(first|(simp only[PP,Nat.reduceBEq,aj hS.wf])|(refine PU.b5 rfl ?_)|(refine hS.aZ ?_))
   refine ak.mono (ZD (Lx:=[_]) o8 hx1 (Nat.lt_succ_self k) hS (xZ ht (bf.nil _ _ _)) _) ?_
   rintro w H4 ⟨i,b,rfl,hw⟩
   simp only[PP,Nat.reduceBEq]
   refine rr ?_;exact hw
  refine ah (fun hc=>?_) (fun hc=>?_)
  ·repeat(first|(simp only[PP,Nat.reduceBEq,aj hS.wf])|(refine PU.b5 rfl ?_)|(refine hS.aZ ?_))
   refine ak.mono (ZD (Lx:=[_]) o8 hx1 (Nat.lt_succ_self k) hS (xZ ht (bf.nil _ _ _)) _) ?_
   rintro w H4 ⟨i,b,rfl,hw⟩
   simp only[PP,Nat.reduceBEq]
   refine rr ?_;exact hw
  refine ah (fun hc=>?_) (fun hc=>?_)
  ·repeat(first|(simp only[PP,Nat.reduceBEq,aj hS.wf])|(refine PU.b5 rfl ?_)|(refine hS.aZ ?_))
   refine ak.mono (ZD (Lx:=[_]) o8 hx1 (Nat.lt_succ_self k) hS (xZ (t:=⟨#[]⟩) (Nat.zero_le _) ((drs _ hS.ext).le (by omega) (Nat.le_refl _))) _) ?_
   rintro w H4 ⟨i,b,rfl,hw⟩
   simp only[PP,Nat.reduceBEq]
   refine rr ?_;exact hw
  refine ah (fun hc=>?_) (fun hc=>?_)
  ·refine ak.mono (TS (jJ _)) ?_
   rintro v H4 ⟨hv,hx4⟩
   obtain⟨ya,yn,yc,ycs,rfl,hv2⟩:=id hv
   have hS:=hS.iK hx4
   repeat(first|(simp only[PP,Nat.reduceBEq,aj hS.wf])|(refine PU.b5 rfl ?_)|(refine hS.iW ?_))
   refine ak.mono (Yo (Lx:=[_]) o8 hx1 (Nat.lt_succ_self k) hS (xZ (t:=⟨#[]⟩) (Nat.zero_le _) (hv.le (by omega) (Nat.zero_le _))) _) ?_
   rintro w H5 ⟨i,b,rfl,hw⟩
   simp only[PP,Nat.reduceBEq,aj hS.wf]
   simp only[az hx4,aA]
   rcases tK (hM H3 H4) H5 with e|e<;>rw[e]<;>apply KI (a:=rb) (by intros;rfl) (by kernel_rfl) (by kernel_rfl)<;>(refine rr ?_;exact hw)
  refine ah (fun hc=>?_) (fun hc=>?_)
  ·have oI:=hS.perm (List.perm_append_comm (l₁:=[_]))
   refine(o8.on hS1 hS.ext).Ga oI 0 (by omega) fun H4 yt oI hx4=>?_
   rw[show min (k +1 +0) (q.n -1)=k +1 by omega]
   obtain⟨Yp,at2,e2,t2,ya,yn,yc,he2,_,_,_,_⟩:=yt.tok (i:=k +1) (by omega)
   rw[he2]
   have hS:=oI
   refine hS.dh fun H5 rc hS=>?_
   refine hS.iX fun H6 hS=>?_
   have hS:SH (M1.map (·.1)) H1 H6 ((rc,128,[vi Yp,vn at2,vn e2,.string t2,.slice ya yn yc])::(M1++[(rb,128,[vi kd,vn at',vn e',.string t,.slice xa xn xc])])):=hS
   have lQ:SH (M1.map (·.1)) H1 H6 (M1++[(rb,128,[vi kd,vn at',vn e',.string t,.slice xa xn xc]),(rc,128,[vi Yp,vn at2,vn e2,.string t2,.slice ya yn yc])]):=by
    have:=hS.perm (List.perm_append_comm (l₁:=[_]))
    have e:=List.append_assoc M1 [((rb,128,[vi kd,vn at',vn e',.string t,.slice xa xn xc]):aL)] [((rc,128,[vi Yp,vn at2,vn e2,.string t2,.slice ya yn yc]):aL)]
    exact this.cast e
   refine ak.mono (ze (o8.on hS1 hS.ext) lQ 4 (by decide)) ?_
   rintro v H7 ⟨b,k2,M2,rfl,NA,Aq,hk2,hb2⟩
   have Pm:=lQ.frame Aq
   have hSo:=Pm.own
   have hSb:SH (M.map (·.1)) H H7 M2:=hx1.over (SH.drop (A:=[_,_]) (Pm.perm List.perm_append_comm))
   cases b with
   |false=>
    simp only[PP,Nat.reduceBEq]
    refine(show∀{A B:Prop},A→vw (some !false) A B from fun h=>h) ?_
    refine rr ?_;exact⟨0,false,k2,M2,rfl,NA,hSb,by omega,fun h=>by cases h⟩
   |true=>
    have hk3:k2=k +1 +1:=hb2 rfl
    simp only[PP,Nat.reduceBEq]
    refine(show∀{A B:Prop},B→vw (some !true) A B from fun h=>h) ?_
    have bc:=Pm.bk (rc,128,[vi Yp,vn at2,vn e2,.string t2,.slice ya yn yc]) (by simp)
    have bb:=Pm.bk (rb,128,[vi kd,vn at',vn e',.string t,.slice xa xn xc]) (by simp)
    have lc:=(Pm.lo (rc,128,[vi Yp,vn at2,vn e2,.string t2,.slice ya yn yc]) (by simp)).2
    have lb:=(Pm.lo (rb,128,[vi kd,vn at',vn e',.string t,.slice xa xn xc]) (by simp)).2
    have hbc:rb≠rc:=by
     have:=hS.apart (A:=[_]) (x:=(rc,128,[vi Yp,vn at2,vn e2,.string t2,.slice ya yn yc])) (y:=(rb,128,[vi kd,vn at',vn e',.string t,.slice xa xn xc])) (List.mem_cons_self ..) (by simp)
     exact this.symm
    obtain⟨_,_,_,_,_,_,_,he3,_,_,abS,_⟩:=NA.tok (i:=k +1) (by omega)
    rw[he2]at he3
    have he4:=(List.cons.inj (List.cons.inj (List.cons.inj (List.cons.inj (List.cons.inj he3).2).2).2).2).1
    rw[←he4]at abS
    have hS:=SH.refl hSo.wf
    refine hS.yS (bc.cell (o:=4) rfl) lc ?_
    simp only[PP,Nat.reduceBEq,aj hS.wf]
    refine ak.mono (TV (jJ _) (m:=20000) (by omega) abS.i) ?_
    rintro v H8 ⟨hv,DJ⟩
    obtain⟨za,zn,zc,zcs,rfl,hv2⟩:=id hv
    have hS:=hS.iK DJ
    refine hS.yS (bb.cell (o:=1) rfl) lb ?_
    repeat(first|(simp only[PP,Nat.reduceBEq,aj hS.wf])|(refine PU.b5 rfl ?_))
    refine hS.yS (bc.cell (o:=1) rfl) lc ?_
    simp only[PP,Nat.reduceBEq,aj hS.wf]
    refine ak.mono (Yo (Lx:=[]) NA hSb (show k<k2 by omega) (hSo.iK DJ) (xZ (t:=⟨#[]⟩) (Nat.zero_le _) (hv.le (by omega) (Nat.zero_le _))) _) ?_
    rintro w H9 ⟨i,b,rfl,hw⟩
    simp only[PP,Nat.reduceBEq,aj hS.wf]
    simp only[az DJ,aA]
    rcases tK (hM H7 H8) H9 with e|e<;>rw[e]<;>apply nZ (a:=rb) (b:=rc) hbc (by intros;rfl) (by kernel_rfl) (by kernel_rfl)<;>(refine rr ?_;exact hw)
  ·refine tl ?_
   have oI:=hS.perm (List.perm_append_comm (l₁:=[_]))
   simp only[PP,Nat.reduceBEq,aj hS.wf]
   refine ah (fun hd2=>?_) (fun hd2=>?_)
   ·refine hS.aZ ?_
    refine ak.mono (qp (o8.on hS1 hS.ext) oI _ _) ?_
    rintro w H5 ⟨rfl,M2,DK,hS5⟩
    refine rr ?_;exact⟨0,false,k +1,M2,rfl,DK,hx1.over (SH.drop (A:=[_]) ((oI.frame hS5).perm List.perm_append_comm)),by omega,fun h=>by cases h⟩
   ·rw[au (by omega) (by omega)]
    simp only[PP,Nat.reduceBEq]
    refine ak.mono (ih (k +1) (by omega) F H3 M1 (d +1) (fun r hr=>hF r (by have:=hx1.ext.next;have:=hS.ext.next;omega)) (o8.on hS1 hS.ext) oI.own (by omega)) ?_
    rintro w H5 ⟨i,b,k2,M2,rfl,DK,hS5,hk2,_⟩
    have ZF:=oI.frame hS5
    simp only[PP,Nat.reduceBEq]
    cases b with
    |false=>
     refine(show∀{A B:Prop},B→vw (some false) A B from fun h=>h) ?_
     refine rr ?_;exact⟨i,false,k2,M2,rfl,DK,hx1.over (SH.drop (A:=[_]) (ZF.perm List.perm_append_comm)),by omega,fun h=>by cases h⟩
    |true=>
     refine(show∀{A B:Prop},A→vw (some true) A B from fun h=>h) ?_
     refine ak.mono (ze DK ZF 9 (by decide)) ?_
     rintro w H6 ⟨b,k3,M3,rfl,uu,lQ,hk3,_⟩
     refine rr ?_;exact⟨i,b,k3,M3,rfl,uu,hx1.over (SH.drop (A:=[_]) ((ZF.frame lQ).perm List.perm_append_comm)),by omega,fun _ _=>by omega⟩
 refine ah (fun hc=>?_) (fun hc=>?_)
 ·exact kM _ _ (by simp only[lN];rfl)
 ·exact kM _ _ (by simp only[lN];rfl)
end Go.Proofs.Lu
set_option maxRecDepth 100000
set_option maxHeartbeats 4000000
namespace Go.Proofs.Lu
open Go.Ae Go.Ae.M
variable{H0 H:aa}{L M:List aL}{S:List Nat}{F:Nat→Prop}
theorem Rd.mem{q:RC}{k:Nat}(h:Rd F q k H M):(q.ra,3,[vn k])∈M:=by
 obtain⟨rv,rcs,gr,nv,bV,gn,sc,sa,nr,nn,rfl,_⟩:=h
 simp
theorem Gb{kd:Int}{a:Option Addr}{n c:Nat}{ks:List Value}{at':Int}(hf:eX F 3 H a n 1 ks)(hn:n≤20001)(hk:∀x∈ks,∃z:Int,x=vi z):Ym F H (.agg ⟨[vi kd,.slice a n c,.string ⟨#[]⟩,.slice none 0 0,vi at']⟩):=
 ⟨_,rfl,kd,a,n,c,ks,⟨#[]⟩,_,at',rfl,hf,hn,hk,Nat.zero_le _,bf.nil _ _ _⟩
theorem K6{q:RC}{k:Nat}(ha:abR q k):Wp q k:=by
 intro F H M d hF hR hS hd hkd
 have hlt:=hkd.lt hR
 refine ce [0,1,4,5,6,7,8,22] ?_;refine tl ?_
 refine ak.mono (ha F H M d hF hR hS hd hkd) ?_
 rintro w H1 ⟨i,b,k1,M1,rfl,o8,hS1,hk1,hb1⟩
 simp only[PP,Nat.reduceBEq]
 cases b with
 |false=>
  refine(show∀{A B:Prop},A→vw (some !false) A B from fun h=>h) ?_
  refine rr ?_;exact⟨0,false,k1,M1,rfl,o8,hS1,hk1,fun h=>by cases h⟩
 |true=>
  have hk2:=hb1 rfl rfl
  refine(show∀{A B:Prop},B→vw (some !true) A B from fun h=>h) ?_
  have acZ:SH (M.map (·.1)) H H1 (M1++[]):=by rw[List.append_nil];exact hS1
  refine o8.Ga acZ 0 (by omega) fun H2 hR2 hS2 hx2=>?_
  have hkn:=hR2.le
  rw[show min (k1 +0) (q.n -1)=k1 by omega]
  obtain⟨kd,at',e',t,xa,xn,xc,he,_⟩:=hR2.tok hkn.1
  rw[he,wH]
  have fin:∀(z:Int) rg,aS Pg X (sub rQ [1,1,1,1,1]) (qW (pr q.rr) (vn d) (.int .i64 0) (.bool false) (vi i) (.bool true) (vi z) (vi kd) rg H2) (cB Pg [.tmp 4,.tmp 5] (Jf F q M H k true)):=by
   intro z rg
   have Ws:SH (M.map (·.1)) H H2 M1:=by rw[←List.append_nil M1];exact hS2
   have hS:=hS2.own
   refine tl ?_
   refine hS.bS rfl rfl rfl (by omega) fun H3 rk hS=>?_
   have hS:SH (M1.map (·.1)) H2 H3 ((rk,3,[vi i])::M1):=hS
   have hge:H.next≤rk:=by
    rcases(hS.lo (rk,3,[vi i]) (List.mem_cons_self ..)).1 with h|h
    ·exfalso
     obtain⟨e,he,e1⟩:=List.mem_map.1 h
     exact hS.apart (A:=[_]) (List.mem_cons_self ..) he e1.symm
    ·have:=Ws.ext.next
     omega
   simp only[PP,Nat.reduceBEq]
   refine PU.b5 rfl ?_
   simp only[PP,Nat.reduceBEq]
   have kT:=hS.perm (List.perm_append_comm (l₁:=[_]))
   have wG:=hR2.on hS2 hS.ext
   refine wG.next kT fun H4 M4 yt oI hx4=>?_
   rw[he,K5]
   simp only[PP,Nat.reduceBEq]
   have hrk:F rk:=hF rk hge
   have hfl:eX F 3 H4 (some ⟨rk,0,none⟩) 1 1 [vi i]:=eX.one oI (List.mem_append_right _ (List.mem_singleton.2 rfl)) rfl hrk
   refine ak.mono (uq yt oI (Gb hfl (by omega) (fun x hx=>⟨i,by simpa using hx⟩)) _) ?_
   rintro w H5 ⟨j,b,M5,rfl,_,DK,hS5⟩
   simp only[PP,Nat.reduceBEq]
   refine rr ?_;refine⟨j,b,_,M5,rfl,DK,?_,by omega,fun _ _=>by omega⟩
   exact Ws.over (SH.drop (A:=[_]) ((oI.frame hS5).perm List.perm_append_comm))
  simp only[PP,Nat.reduceBEq]
  refine ah (fun hc=>?_) (fun hc=>?_)
  ·exact fin _ _
  refine ah (fun hc=>?_) (fun hc=>?_)
  ·exact fin _ _
  refine ah (fun hc=>?_) (fun hc=>?_)
  ·exact fin _ _
  refine rr ?_;refine⟨i,true,k1,M1,rfl,hR2,?_,hk1,fun _ _=>hk2⟩
  rwa [List.append_nil]at hS2
theorem Rd.stay{S':List Nat}{q:RC}{k:Nat}{H':aa}(h:Rd F q k H M)(hx:kS S' H H')(hk:∀r∈S',(¬F r∨¬qy H r 3)∧¬qy H r 269∧¬qy H r 128):Rd F q k H' M:=by
 obtain⟨rv,rcs,gr,nv,bV,gn,sc,sa,nr,nn,h0,h1,h2,h3,h4,h5,h6,h7,h8,h9,h10,rT⟩:=h
 exact⟨rv,rcs,gr,nv,bV,gn,sc,sa,nr,nn,h0,h1,h2.st hx (fun r hr=>.inr (hk r hr).2) (Nat.le_refl _),h3,h4,h5,h6,h7,h8,h9,fun i hi=>(h10 i hi).st hx fun r hr=>⟨(hk r hr).1,(hk r hr).2.1⟩,rT⟩
abbrev Fo(F:Nat→Prop)(gb:List aL):Nat→Prop:=fun r=>F r∧r∉gb.map (·.1)
theorem TW{q:RC}{k:Nat}{x:Value}{ks:List Value}{gb:List aL}(rT:¬F q.ra)(hg:GB 3 1 x ks gb)(hS:SH S H0 H (M++gb))(hR:Rd (Fo F gb) q k H M)(hl:ks.length≤1000000)(z:Int){K:Value→Value→aa→Prop}
 (kk:∀w v' H6 cO,GB 3 1 v' (ks++[vi z]) cO→SH S H0 H6 (M++cO)→Rd (Fo F cO) q k H6 M→(∀e∈cO,e.1∈gb.map (·.1)∨H.next≤e.1)→K w v' H6):
 ME (bS 3 [.int .i64 0] 1 1 [(0,vi z)] H) fun w H5=>ME (wR 3 1 x w H5) (K w):=by
 have hP:=hS.perm (List.perm_append_comm (l₁:=M))
 have hO:SH (gb.map (·.1)) H H (gb++[]):=by rw[List.append_nil];exact hP.own
 have hne:∀ty:TypeId,((3:Nat)==ty)=false→∀r∈gb.map (·.1),¬qy H r ty:=fun ty ht=>hP.own.O3 (hg.all ht)
 refine hO.bS rfl rfl rfl (by omega) fun H5 rx hS5=>?_
 obtain⟨v',H6,cO,e1,hg',lQ,_⟩:=hg.app (m:=0) (cx:=1) hS5 (by omega) rfl rfl (by omega) (by omega)
 refine ME.of e1 ?_
 rw[List.append_nil]at lQ
 have o8:Rd (fun r=>Fo F gb r∧r<H.next) q k H M:=hR.wk (fun r hr h=>⟨h,hr⟩) (fun h=>rT h.1.1)
 have hR2:=o8.stay lQ.ext fun r hr=>⟨.inl fun h=>h.1.2 hr,hne 269 rfl r hr,hne 128 rfl r hr⟩
 refine kk _ v' H6 cO hg' ((hP.frame lQ).perm List.perm_append_comm) (hR2.wk (fun r _ h=>⟨h.1.1,fun hm=>?_⟩) fun h=>rT h.1) (fun e he=>(lQ.lo e he).1)
 obtain⟨e,he,e1⟩:=List.mem_map.1 hm
 rcases(lQ.lo e he).1 with h3|h3
 ·exact h.1.2 (by rw[←e1];exact h3)
 ·have:=h.2;omega
theorem row_of{q:RC}{k:Nat}(he:∀k',k≤k'→Wp q k'):Wn q k:=by
 intro F H M d hF hR hS hd
 have hkn:=hR.le
 have rT:¬F q.ra:=by
  obtain⟨_,_,_,_,_,_,_,_,_,_,_,_,_,_,_,_,_,_,_,_,_,h⟩:=hR
  exact h
 refine ce [0,1,4,5,6,7,8] ?_;refine tl ?_
 refine TB 4 5 6 7 8 (I:=fun m x4 x5 x6 x7 x8 H'=>∃(k':Nat)(M':List aL)(ks:List Value)(gb:List aL),x4=vi 0∧x5=.bool false∧k' +m=q.n∧k≤k'∧Rd (Fo F gb) q k' H' M'∧SH (M.map (·.1)) H H' (M'++gb)∧GB 3 1 x6 ks gb∧ks.length≤k' -k∧(∀x∈ks,∃z:Int,x=vi z)∧∀e∈gb,H.next≤e.1) ?_ (q.n -k) ⟨k,M,[],[],rfl,rfl,by omega,Nat.le_refl _,hR.wk (fun r _ h=>⟨h,by simp⟩) (fun h=>rT h.1),by rw[List.append_nil];exact hS,GB.nil _ _,Nat.zero_le _,(fun x h=>nomatch h),fun e h=>nomatch h⟩
 clear hR hS
 rintro m x4 x5 x6 x7 x8 rg H' ⟨k1,M1,ks,gb,rfl,rfl,hkm,hk1,o8,hS1,hg,hkl,hks,hgb⟩
 have abT:=o8.le
 refine tl ?_
 simp only[PP,Nat.reduceBEq]
 refine o8.Ga hS1 0 (by omega) fun H2 hR2 hS2 hx2=>?_
 rw[show min (k1 +0) (q.n -1)=k1 by omega]
 obtain⟨kd,at',e',t,xa,xn,xc,hel,_⟩:=hR2.tok abT.1
 rw[hel]
 refine ak.mono (Je hS2.wf kd _ _ _ _ rfl) ?_
 rintro w H3 ⟨⟨b,rfl,hb⟩,hx3⟩
 have wG:=hR2.ex hx3
 have kT:=hS2.call hx3
 simp only[PP,Nat.reduceBEq]
 refine aB (fun hbt=>?_) (fun hbt=>?_)
 ·have hF3:∀r,H3.next≤r→Fo F gb r:=fun r hr=>⟨hF r (by have:=kT.ext.next;omega),fun hm=>by
   obtain⟨e,he,e1⟩:=List.mem_map.1 hm
   have:=(kT.lo e (List.mem_append_right _ he)).2
   omega⟩
  refine ak.mono (he k1 hk1 _ H3 M1 d hF3 wG kT.own hd ⟨kd,_,hel,hb hbt⟩) ?_
  rintro w H4 ⟨i,b,k2,M2,rfl,yt,oI,hk2,hb2⟩
  have K7:=kT.frame oI
  simp only[PP,Nat.reduceBEq]
  cases b with
  |false=>
   refine(show∀{A B:Prop},A→vw (some !false) A B from fun h=>h) ?_
   refine rr ?_;exact⟨0,false,k2,M2,rfl,yt.wk (fun r _ h=>h.1) rT,SH.drop (A:=gb) (K7.perm List.perm_append_comm),by omega,fun h=>by cases h⟩
  |true=>
   have hk3:=hb2 rfl rfl
   have hkn2:=yt.le
   refine(show∀{A B:Prop},B→vw (some !true) A B from fun h=>h) ?_
   refine TW rT hg K7 yt (by omega) i fun w v' H6 cO hg' lQ uu hgn=>?_
   refine⟨q.n -k2,by omega,_,_,_,_,_,_,_,rfl,k2,M2,ks++[vi i],cO,rfl,rfl,by omega,by omega,uu,lQ,hg',by rw[List.length_append];show ks.length +1≤_;omega,fun x hx=>?_,fun e he'=>?_⟩
   ·rcases List.mem_append.1 hx with h|h
    ·exact hks x h
    ·exact⟨i,by simpa using h⟩
   ·rcases hgn e he' with h|h
    ·obtain⟨e2,h2,h3⟩:=List.mem_map.1 h
     rw[←h3];exact hgb e2 h2
    ·have:=K7.ext.next;omega
 ·refine tl ?_
  obtain⟨a,n,c,rfl,hn,hfl⟩:=hg.Xy (F:=F) (kT.perm (List.perm_append_comm (l₁:=M1))) (fun e he'=>hF _ (hgb e he'))
  refine PU.b5 rfl ?_
  simp only[PP,Nat.reduceBEq]
  refine wG.Ga kT 0 (by omega) fun H4 yt oI hx4=>?_
  rw[show min (k1 +0) (q.n -1)=k1 by omega,hel,K5]
  simp only[PP,Nat.reduceBEq]
  have DK:Rd F q k1 H4 M1:=yt.wk (fun r _ h=>h.1) rT
  refine ak.mono (uq DK oI (Gb (hfl.ex hx4) (by omega) hks) _) ?_
  rintro w H5 ⟨j,b,M5,rfl,_,uu,lQ⟩
  simp only[PP,Nat.reduceBEq]
  refine rr ?_;exact⟨j,b,k1,M5,rfl,uu,SH.drop (A:=gb) ((oI.frame lQ).perm List.perm_append_comm),by omega,fun _ h=>by cases h⟩
theorem K8{q:RC}{k:Nat}(he:∀k',k≤k'→Wn q k'):Wm q k:=by
 intro F H M d hF hR hS hd
 have hkn:=hR.le
 have rT:¬F q.ra:=by
  obtain⟨_,_,_,_,_,_,_,_,_,_,_,_,_,_,_,_,_,_,_,_,_,h⟩:=hR
  exact h
 refine ce [0,1,4,5,6,7,8] ?_;refine tl ?_
 refine TB 4 5 6 7 8 (I:=fun m x4 x5 x6 x7 x8 H'=>∃(k':Nat)(M':List aL)(ks:List Value)(gb:List aL),x4=vi 0∧x5=.bool false∧k' +m=q.n∧k≤k'∧Rd (Fo F gb) q k' H' M'∧SH (M.map (·.1)) H H' (M'++gb)∧GB 3 1 x6 ks gb∧ks.length≤k' -k∧(∀x∈ks,∃z:Int,x=vi z)∧∀e∈gb,H.next≤e.1) ?_ (q.n -k) ⟨k,M,[],[],rfl,rfl,by omega,Nat.le_refl _,hR.wk (fun r _ h=>⟨h,by simp⟩) (fun h=>rT h.1),by rw[List.append_nil];exact hS,GB.nil _ _,Nat.zero_le _,(fun x h=>nomatch h),fun e h=>nomatch h⟩
 clear hR hS
 rintro m x4 x5 x6 x7 x8 rg H' ⟨k1,M1,ks,gb,rfl,rfl,hkm,hk1,o8,hS1,hg,hkl,hks,hgb⟩
 have abT:=o8.le
 have hF3:∀r,H'.next≤r→Fo F gb r:=fun r hr=>⟨hF r (by have:=hS1.ext.next;omega),fun hm=>by
  obtain⟨e,he,e1⟩:=List.mem_map.1 hm
  have:=(hS1.lo e (List.mem_append_right _ he)).2
  omega⟩
 refine tl ?_
 refine ak.mono (he k1 hk1 _ H' M1 d hF3 o8 hS1.own hd) ?_
 rintro w H4 ⟨i,b,k2,M2,rfl,yt,oI,hk2,hb2⟩
 have K7:=hS1.frame oI
 have hkn2:=yt.le
 simp only[PP,Nat.reduceBEq]
 cases b with
 |false=>
  refine(show∀{A B:Prop},A→vw (some !false) A B from fun h=>h) ?_
  refine rr ?_;exact⟨0,false,k2,M2,rfl,yt.wk (fun r _ h=>h.1) rT,SH.drop (A:=gb) (K7.perm List.perm_append_comm),by omega,fun h=>by cases h⟩
 |true=>
  refine(show∀{A B:Prop},B→vw (some !true) A B from fun h=>h) ?_
  refine TW rT hg K7 yt (by omega) i fun w v' H6 cO hg' lQ uu hgn=>?_
  have hgb':∀e∈cO,H.next≤e.1:=fun e he'=>by
   rcases hgn e he' with h|h
   ·obtain⟨e2,h2,h3⟩:=List.mem_map.1 h
    rw[←h3];exact hgb e2 h2
   ·have:=K7.ext.next;omega
  have ZG:∀x∈ks++[vi i],∃z:Int,x=vi z:=fun x hx=>by
   rcases List.mem_append.1 hx with h|h
   ·exact hks x h
   ·exact⟨i,by simpa using h⟩
  have hkl':(ks++[vi i]).length=ks.length +1:=by simp
  refine uu.Ga lQ 0 (by omega) fun H7 NA Aq hx7=>?_
  rw[show min (k2 +0) (q.n -1)=k2 by omega]
  obtain⟨kd,at',e',t,xa,xn,xc,hel,_,_,_,hz⟩:=NA.tok hkn2.1
  rw[hel,wH]
  simp only[PP,Nat.reduceBEq]
  refine aG (fun hc=>?_) (fun hc=>?_)
  ·refine tl ?_
   obtain⟨a,n,c,rfl,hn,hfl⟩:=hg'.Xy (F:=F) (Aq.perm (List.perm_append_comm (l₁:=M2))) (fun e he'=>hF _ (hgb' e he'))
   simp only[PP,Nat.reduceBEq]
   refine ah (fun h1=>?_) (fun h1=>?_)
   ·have h1:n=1:=by omega
    subst h1
    obtain⟨r,o,e,hr,hrd,_⟩:=hfl.1.idx (c:=c) (by omega) (show 0<1 by omega)
    obtain⟨z,hz'⟩:=ZG (ks++[vi i])[0] (List.getElem_mem _)
    have e:sU 1 (.slice a 1 c) (.int .i64 0)=_:=e
    rw[e]
    simp only[PP,Nat.reduceBEq]
    refine ME.ld (hrd 0 (vi z) (by omega) (by rw[List.getElem?_eq_getElem (by omega),←hz'])) ?_
    refine rr ?_;exact⟨z,true,k2,M2,rfl,NA.wk (fun r _ h=>h.1) rT,SH.drop (A:=cO) (Aq.perm List.perm_append_comm),by omega,fun _ h=>by cases h⟩
   ·refine PU.b5 rfl ?_
    simp only[PP,Nat.reduceBEq]
    refine NA.Ga Aq 0 (by omega) fun H8 hR8 Qf DJ=>?_
    rw[show min (k2 +0) (q.n -1)=k2 by omega,hel,K5]
    simp only[PP,Nat.reduceBEq]
    have hR9:Rd F q k2 H8 M2:=hR8.wk (fun r _ h=>h.1) rT
    refine ak.mono (uq hR9 Qf (Gb (hfl.ex DJ) (by omega) ZG) _) ?_
    rintro w H9 ⟨j,b,M5,rfl,_,ac0,ZH⟩
    simp only[PP,Nat.reduceBEq]
    refine rr ?_;exact⟨j,b,k2,M5,rfl,ac0,SH.drop (A:=cO) ((Qf.frame ZH).perm List.perm_append_comm),by omega,fun _ h=>by cases h⟩
  ·have hk3:k2≠q.n -1:=fun e=>by have:=hz e;omega
   refine NA.next Aq fun H8 M8 hR8 Qf DJ=>?_
   rw[show min (k2 +1) (q.n -1)=k2 +1 by omega]at hR8
   refine⟨q.n -(k2 +1),by omega,_,_,_,_,_,_,_,rfl,k2 +1,M8,ks++[vi i],cO,rfl,rfl,by omega,by omega,hR8,Qf,hg',by rw[hkl'];omega,ZG,hgb'⟩
theorem ZI{q:RC}:∀(n k:Nat),q.n≤k +n→Wm q k∧Wn q k∧Wp q k:=by
 intro n
 induction n with
 |zero=>
  intro k hk
  have hno:∀k',k≤k'→∀(F:Nat→Prop) H M,¬Rd F q k' H M:=fun k' h F H M hR=>by have:=hR.le;omega
  exact⟨fun F H M d _ hR=>absurd hR (hno k (Nat.le_refl _) _ _ _),fun F H M d _ hR=>absurd hR (hno k (Nat.le_refl _) _ _ _),fun F H M d _ hR=>absurd hR (hno k (Nat.le_refl _) _ _ _)⟩
 |succ n ih=>
  intro k hk
  have hel:Wp q k:=K6 (Wq fun k' h=>(ih k' (by omega)).1)
  have hro:Wn q k:=row_of fun k' h=>by
   rcases Nat.eq_or_lt_of_le h with rfl|h
   ·exact hel
   ·exact(ih k' (by omega)).2.2
  refine⟨K8 fun k' h=>?_,hro,hel⟩
  rcases Nat.eq_or_lt_of_le h with rfl|h
  ·exact hro
  ·exact(ih k' (by omega)).2.1
theorem K9(q:RC)(k:Nat):Wm q k:=(ZI (q.n) k (by omega)).1
end Go.Proofs.Lu
set_option maxRecDepth 100000
set_option maxHeartbeats 4000000
namespace Go.Proofs.Lu
open Go.Ae Go.Ae.M
variable{H0 H:aa}{L M:List aL}{S:List Nat}{F:Nat→Prop}
theorem _root_.Go.Ae.SH.jK{S:List Nat}{H0 H:aa}{L:List aL}{ty:TypeId}{z:List Value}{v:Value}{n:Nat}{K:Value→Value→aa→Prop}(hS:SH S H0 H L)(hl:(ay v).length=n)(hz:z.length=n)(hk:all' aT (ay v)=true)
 (k:∀H2 r,SH S H0 H2 ((r,ty,ay v)::L)→Ext H H2→K (.pointer (some ⟨r,0,none⟩)) undef H2):ME (Go.Ae.dh ty z H) fun p H1=>ME (Go.Ae.Af n p v H1) fun u H2=>K p u H2:=by
 have hO:=SH.refl hS.wf
 refine hO.dh fun H1 r hO=>?_
 refine hO.st 0 rfl hl (by omega) hk fun H2 hO=>?_
 have hO:SH [] H H2 [(r,ty,splice z 0 (ay v))]:=hO
 rw[nA _ _ (by omega)]at hO
 exact k H2 r (SH.frame (M:=[]) (L:=L) hS hO) hO.ext
theorem Rd.st{q:RC}{k:Nat}(hR:Rd F q k H M){b:Nat}{ty:TypeId}{cs:List Value}(hS:SH S H0 H ((b,ty,cs)::(M++L)))(h3:(ty==3)=false)(ac1:(ty==269)=false)(h128:(ty==128)=false){o n:Nat}{v:Value}(hl:(ay v).length=n)(hn:o +n≤cs.length)(hk:all' aT (ay v)=true){K:Value→aa→Prop}
 (kk:∀H1,Rd F q k H1 M→SH S H0 H1 ((b,ty,splice cs o (ay v))::(M++L))→H.next≤H1.next→K undef H1):ME (Af n (.pointer (some ⟨b,o,none⟩)) v H) K:=by
 have hO:SH [b] H H [(b,ty,cs)]:=SH.own (M:=[(b,ty,cs)]) hS
 have hty:qy H b ty:=(hO.bk (b,ty,cs) (List.mem_singleton.2 rfl)).Qc
 have hne:∀t:TypeId,(ty==t)=false→¬qy H b t:=fun t ht h=>by rw[hty.one h]at ht;simp at ht
 refine hO.st 0 rfl hl hn hk fun H1 hO=>?_
 have hO:SH [b] H H1 [(b,ty,splice cs o (ay v))]:=hO
 refine kk H1 (hR.stay hO.ext fun r hr=>?_) (SH.frame (M:=[(b,ty,cs)]) hS hO) hO.ext.next
 rw[List.mem_singleton]at hr
 subst hr
 exact⟨.inr (hne 3 h3),hne 269 ac1,hne 128 h128⟩
theorem Rd.rules{q:RC}{k:Nat}(hR:Rd F q k H M)(hS:SH S H0 H (M++L)):(∃a c,H.cell q.rr 2=some (.slice a q.nu c))∧q.rr<H.next:=by
 obtain⟨rv,rcs,gr,nv,bV,gn,sc,sa,nr,nn,rfl,h1,h2,h3,h4,h5,h6,h7,h8,h9,h10,rT⟩:=hR
 have hb:=hS.get 3 rfl
 refine⟨?_,(hS.lo _ (List.mem_of_getElem? (i:=3) rfl)).2⟩
 subst h5
 rcases h3 with⟨rfl,rfl,_⟩|⟨r,n,aO,rfl,hn,_⟩
 ·have:q.nu=0:=by simp at h4;omega
  rw[this]
  exact⟨none,0,hb.cell rfl⟩
 ·have:n=q.nu:=by omega
  subst this
  exact⟨_,_,hb.cell rfl⟩
theorem _root_.Go.Ae.SH.TX{S:List Nat}{H0 H:aa}{P M L:List aL}(hS:SH S H0 H (P++(M++L))):SH S H0 H (M++(P++L)):=hS.perm (by
 rw[←List.append_assoc,←List.append_assoc];exact List.Perm.append_right _ List.perm_append_comm)
theorem _root_.Go.Ae.SH.Gc{S:List Nat}{H0 H H':aa}{P M M' L:List aL}(hS:SH S H0 H (P++(M++L)))(h:SH (M.map (·.1)) H H' M'):SH S H0 H' (P++(M'++L)):=(hS.TX.frame h).TX
theorem Rd.Jg{q:RC}{k:Nat}{P:List aL}(hR:Rd F q k H M)(hS:SH S H0 H (P++(M++L)))(j:Nat)(hj:j≤1000){K:Value→Value→aa→Prop}
 (h:∀H',Rd F q k H' M→SH S H0 H' (P++(M++L))→Ext H H'→K (gz q.rt q.ra) (.agg ⟨El q.cs 5 (min (k +j) (q.n -1))⟩) H'):ME (ko none (.pointer (some ⟨q.rr,0,none⟩)) H) fun v H1=>eY Pg X (Db v) [vn j] H1 (K v):=
 hR.Ga hS.TX j hj fun H' hR' hS' hx=>h H' hR' hS'.TX hx
theorem Rd.NB{q:RC}{k:Nat}{P:List aL}(hR:Rd F q k H M)(hS:SH S H0 H (P++(M++L))){K:Value→Value→aa→Prop}
 (h:∀H' M',Rd F q (min (k +1) (q.n -1)) H' M'→SH S H0 H' (P++(M'++L))→H.next≤H'.next→K (mU q.rp q.ra q.rt) (.agg ⟨El q.cs 5 k⟩) H'):ME (ko none (.pointer (some ⟨q.rr,1,none⟩)) H) fun v H1=>eY Pg X (Db v) [] H1 (K v):=
 hR.next hS.TX fun H' M' hR' hS' hx=>h H' M' hR' hS'.TX hx.ext.next
theorem TY{q:RC}{k:Nat}{P:List aL}(hR:Rd F q k H M)(hS:SH S H0 H (P++(M++L)))(cd at':Int):ak Pg X 110 [pr q.rr,vi cd,vi at'] H fun v H'=>v=.bool false∧∃M',Rd F q k H' M'∧SH S H0 H' (P++(M'++L)):=
 ak.mono (qp hR hS.TX cd at') fun v H' ⟨e,M',hR',hS'⟩=>⟨e,M',hR',hS.Gc hS'⟩
theorem TZ{q:RC}{k:Nat}{P:List aL}(hR:Rd F q k H M)(hS:SH S H0 H (P++(M++L))):ak Pg X 109 [pr q.rr] H fun v H'=>v=.bool false∧∃M',Rd F q k H' M'∧SH S H0 H' (P++(M'++L)):=
 ak.mono (CE hR hS.TX) fun v H' ⟨e,M',hR',hS'⟩=>⟨e,M',hR',hS.Gc hS'⟩
theorem Yq{q:RC}{k:Nat}{P:List aL}(hR:Rd F q k H M)(hS:SH S H0 H (P++(M++L)))(kd:Int)(hkd:kd≠0):ak Pg X 111 [pr q.rr,vi kd] H fun v H'=>∃(b:Bool)(k':Nat)(M':List aL),v=.bool b∧Rd F q k' H' M'∧SH S H0 H' (P++(M'++L))∧k≤k'∧(b=true→k'=k +1)∧H.next≤H'.next:=
 ak.mono (ze hR hS.TX kd hkd) fun v H' ⟨b,k',M',e,hR',hS',h1,h2⟩=>⟨b,k',M',e,hR',hS.Gc hS',h1,h2,hS'.ext.next⟩
abbrev kQ(nm:ByteArray)(u f w:Bool)(ch root at':Int):List Value:=[.string nm,.bool u,.bool f,.bool w,vi ch,vi root,vi at']
theorem K_{q:RC}{k ru:Nat}{nm:ByteArray}{u f w:Bool}{ch root at':Int}(hR:Rd F q k H M)(hS:SH S H0 H ((ru,141,kQ nm u f w ch root at')::(M++L))):
 ak Pg X 113 [pr q.rr,pr ru] H fun v H'=>∃(b w':Bool)(ch':Int)(k':Nat)(M':List aL),v=.bool b∧Rd F q k' H' M'∧k≤k'∧SH S H0 H' ((ru,141,kQ nm u f w' ch' root at')::(M'++L)):=by
 have hkn:=hR.le
 refine ce [0,1,4,5,40] ?_;refine tl ?_
 simp only[PP,Nat.reduceBEq]
 refine hR.Jg (P:=[_]) hS 0 (by omega) fun H1 o8 hS1 hx1=>?_
 rw[show min (k +0) (q.n -1)=k by omega]
 obtain⟨kd,Pn,e1,t1,xa,xn,xc,he,_,_,_,hz⟩:=o8.tok hkn.1
 rw[he,wH]
 simp only[PP,Nat.reduceBEq]
 refine aG (fun hc=>?_) (fun hc=>?_)
 ·refine rr ?_;exact⟨true,w,ch,k,M,rfl,o8,Nat.le_refl _,hS1⟩
 refine o8.NB (P:=[_]) hS1 fun H2 M2 hR2 hS2 _=>?_
 have hk2:=hR2.le
 refine hR2.Jg (P:=[_]) hS2 0 (by omega) fun H3 wG kT hx3=>?_
 obtain⟨Yp,at2,e2,t2,ya,yn,yc,he2,_,ht2,_,_⟩:=wG.tok (i:=min (min (k +1) (q.n -1) +0) (q.n -1)) (by omega)
 rw[he2]
 refine kT.jK rfl rfl rfl fun H4 rt oI hx4=>?_
 have yt:=wG.ex hx4
 have hS:SH S H0 H4 ((rt,128,[vi Yp,vn at2,vn e2,.string t2,.slice ya yn yc])::(ru,141,kQ nm u f w ch root at')::(M2++L)):=oI
 simp only[PP,Nat.reduceBEq,aj hS.wf];refine hS.bU ?_
 refine ak.mono (wI hS.wf _ _ _ _ _ rfl) ?_
 rintro v H5 ⟨rfl,hx5⟩
 have DK:=yt.ex hx5
 have hS:=hS.call hx5
 simp only[PP,Nat.reduceBEq,aj hS.wf]
 refine aB (fun hb=>?_) (fun hb=>?_)
 ·refine ak.mono (TZ (P:=[_,_]) DK hS) ?_
  rintro v H6 ⟨rfl,M6,uu,lQ⟩
  refine rr ?_;exact⟨false,w,ch,_,M6,rfl,uu,by omega,SH.drop (A:=[_]) lQ⟩
 have Yr:∀cd p:Int,ak Pg X 110 [pr q.rr,vi cd,vi p] H5 fun v H'=>v=.bool false∧∃M',Rd F q (min (k +1) (q.n -1)) H' M'∧SH S H0 H' ((ru,141,kQ nm u f w ch root at')::(M'++L)):=fun cd p=>by
  refine ak.mono (TY (P:=[_,_]) DK hS cd p) ?_
  rintro v H6 ⟨rfl,M6,uu,lQ⟩
  exact⟨rfl,M6,uu,SH.drop (A:=[_]) lQ⟩
 have last:∀(H6:aa)(w':Bool)(ch':Int) y,Rd F q (min (k +1) (q.n -1)) H6 M2→SH S H0 H6 ((ru,141,kQ nm u f w' ch' root at')::(M2++L))→aS Pg X (sub uT [1,1,1,1,1,1,1]) (tV (pr q.rr) (pr ru) (.bool false) (pr rt) (.string t2) y H6) (cB Pg [.tmp 4] fun v H'=>∃(b w':Bool)(ch':Int)(k':Nat)(M':List aL),v=.bool b∧Rd F q k' H' M'∧k≤k'∧SH S H0 H' ((ru,141,kQ nm u f w' ch' root at')::(M'++L))):=by
  intro H6 w' ch' y uu lQ
  refine tl ?_
  simp only[PP,Nat.reduceBEq]
  refine uu.NB (P:=[_]) lQ fun H7 M7 NA Aq _=>?_
  refine rr ?_;exact⟨true,w',ch',_,M7,rfl,NA,by omega,Aq⟩
 refine hS.aZ ?_;simp only[PP,Nat.reduceBEq,aj hS.wf]
 refine aB (fun hb2=>?_) (fun hb2=>?_)
 ·refine hS.aZ ?_
  refine ak.mono (Yr _ _) ?_
  rintro v H6 ⟨rfl,M6,uu,lQ⟩
  refine rr ?_;exact⟨false,w,ch,_,M6,rfl,uu,by omega,lQ⟩
 refine hS.aZ ?_;simp only[PP,Nat.reduceBEq,aj hS.wf]
 refine aB (fun hb3=>?_) (fun hb3=>?_)
 ·refine DK.st (SH.drop (A:=[_]) hS) rfl rfl rfl rfl (Nat.le_of_ble_eq_true rfl) rfl fun H6 uu lQ _=>?_
  exact last _ _ _ _ uu lQ
 refine aB (fun hb4=>?_) (fun hb4=>?_)
 ·refine DK.st (SH.drop (A:=[_]) hS) rfl rfl rfl rfl (Nat.le_of_ble_eq_true rfl) rfl fun H6 uu lQ _=>?_
  exact last _ _ _ _ uu lQ
 refine aB (fun hb5=>?_) (fun hb5=>?_)
 ·refine DK.st (SH.drop (A:=[_]) hS) rfl rfl rfl rfl (Nat.le_of_ble_eq_true rfl) rfl fun H6 uu lQ _=>?_
  exact last _ _ _ _ uu lQ
 refine hS.aZ ?_
 refine ak.mono (Yr _ _) ?_
 rintro v H6 ⟨rfl,M6,uu,lQ⟩
 refine rr ?_;exact⟨false,w,ch,_,M6,rfl,uu,by omega,lQ⟩
end Go.Proofs.Lu
