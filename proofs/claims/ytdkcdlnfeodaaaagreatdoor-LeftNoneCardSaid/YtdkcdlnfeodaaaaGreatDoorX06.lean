/-
  Part 6 of the proof. No condition.
-/
import Derived.Test.YtdkcdlnfeodaaaaGreatDoorX05
set_option linter.unusedVariables false
set_option linter.unusedSimpArgs false
set_option maxRecDepth 100000
set_option maxHeartbeats 4000000
noncomputable section
namespace Go.Proofs.Lu
open Go.Ae Go.Ae.M
section
variable{H0 H:ae}{L:List aC}{Q:List Int}{r:Nat}{ty:TypeId}{n c:Nat}
theorem D8{q:Nat}{s:Int}(hB:Np (Pn Q) r ty n H0 H ((q,232,[.int .u64 s])::L)):
 ak Pg X 168 [.pointer (some ⟨q,0,none⟩)] H fun v H'=>∃z,v=.int .u64 z∧Np (Pn Q) r ty n H0 H' ((q,232,[.int .u64 z])::L):=by
 refine ce [0,2] ?_;refine tl ?_
 refine au ?_
 refine hB.vC 0 rfl rfl ?_
 (try simp only[aZ hB.wf,dH,dY])
 refine hB.vC 0 rfl rfl ?_
 refine PU.of (qc aa) ?_
 refine PU.of nS ?_
 (try simp only[aZ hB.wf,dH,dY])
 refine hB.Lm 0 rfl rfl (Nat.le_of_ble_eq_true rfl) rfl fun Hn hB=>?_
 refine And.intro (by simp only[aN,aQ];kernel_rfl) ?_
 (try simp only[aZ hB.wf,dH,dY])
 refine hB.vC 0 rfl rfl ?_
 (try simp only[aZ hB.wf,dH,dY])
 refine hB.vC 0 rfl rfl ?_
 refine PU.of (jb aa) ?_
 refine PU.of nS ?_
 (try simp only[aZ hB.wf,dH,dY])
 refine hB.Lm 0 rfl rfl (Nat.le_of_ble_eq_true rfl) rfl fun Hn hB=>?_
 refine And.intro (by simp only[aN,aQ];kernel_rfl) ?_
 (try simp only[aZ hB.wf,dH,dY])
 refine hB.vC 0 rfl rfl ?_
 (try simp only[aZ hB.wf,dH,dY])
 refine hB.vC 0 rfl rfl ?_
 refine PU.of (qc aa) ?_
 refine PU.of nS ?_
 (try simp only[aZ hB.wf,dH,dY])
 refine hB.Lm 0 rfl rfl (Nat.le_of_ble_eq_true rfl) rfl fun Hn hB=>?_
 refine And.intro (by simp only[aN,aQ];kernel_rfl) ?_
 (try simp only[aZ hB.wf,dH,dY])
 refine hB.ld 0 rfl rfl ?_
 refine rr ?_;exact⟨_,rfl,hB.bk⟩
theorem JA(hn:n≤1000000)(hB:Np (Pn Q) r ty n H0 H L)(a b:Int)(h1:0≤a)(h2:b≤n)(h3:a +12<b):
 ak Pg X 131 [sl r n c,vi a,vi b] H fun v H'=>Np (Pn Q) r ty n H0 H' L:=by
 refine ce [0,1,2,6,7,8,9,10] ?_;refine tl ?_
 refine aH ?_
 refine PU.of iZ ?_
 rw[decide_eq_true aa]
 rw[nH,mE (u64_in aa)]
 refine au ?_
 refine hB.new fun H1 q hB=>?_
 refine hB.st 0 rfl rfl (Nat.le_of_ble_eq_true rfl) rfl fun Hn hB=>?_
 refine ak.mono (x_ (b -a) aa aa) ?_
 rintro _ _ ⟨⟨m,rfl,h4,h5⟩,rfl⟩
 refine PU.quo aa aa aa fun qd hd1 hd2 hd3=>?_
 refine z8 ?_
 refine ay ?_
 refine aH ?_
 refine lp2 9 10 (I:=fun k x9 aW H'=>∃i s:Int,x9=vi i∧a<i∧i≤b∧k=(b -i).toNat∧Np (Pn Q) r ty n H0 H' ((q,232,[.int .u64 s])::L)) ?_ _ ⟨_,_,rfl,aa,aa,rfl,hB.bk⟩
 clear hB hd1 hd2 hd3 qd
 rintro k x9 aW rg H3 ⟨i,s,rfl,h6,h7,hk,hB⟩
 refine aT.i_ fun K hK=>?_
 refine tl ?_
 refine PU.quo aa aa aa fun qd hd1 hd2 hd3=>?_
 refine z8 ?_
 refine ay ?_
 refine ay ?_
 refine PU.of xL ?_
 refine ah (fun hc=>?_) (fun hc=>?_)
 rotate_left
 ·subst hK
  refine au ?_
  refine rn ?_;exact hB.drop
 have hib:i<b -1:=by omega
 clear hc hd1 hd2 hd3 qd
 refine ak.mono (D8 hB.bk) ?_
 rintro _ H4 ⟨z,rfl,hB⟩
 refine PU.of (Cx (u64_in aa)) ?_
 refine PU.of uQ ?_
 obtain⟨g1,g2⟩:=NJ (a:=z) (b:=m -1) aa
 generalize Ll .u64 z (m -1)=y at g1 g2
 rw[nH,nR aa aa]
 refine au ?_
 have fin:∀(w:Int) rg,0≤w→w<b -a→aT Pg X (sub iD [1,1,0,1,1,1,0,0,1,0,0,1,1]) (kI (sl r n c) (vi a) (vi b) (vi (b -a)) (.pointer (some ⟨q,0,none⟩)) (.int .u64 m) (vi i) (vi w) rg H4) (iA 1 (kN Pg X (sub iD [1,1,0,1,1,1,0,0,1,1]) K)):=by
  intro w rg g3 g4
  subst hK
  refine tl ?_
  repeat(first|(refine hB.az ?_)|(with_reducible refine ay ?_)|(with_reducible refine bC ?_)|(with_reducible refine hB.wu aa aa fun z hB=>?_)|(with_reducible refine hB.Kc aa aa fun Hn hB=>?_)|(refine iL ?_))
  refine tl ?_
  refine hB.az ?_;with_reducible refine ay ?_
  exact⟨(b -(i +1)).toNat,aa,_,_,_,_,rfl,i +1,_,rfl,aa,aa,rfl,hB.bk⟩
 refine ah (fun hc=>?_) (fun hc=>?_)
 ·with_reducible refine aH ?_
  exact fin _ _ aa aa
 ·exact fin _ _ aa aa
theorem Uw(hn:n≤1000000):∀(d:Nat)(H0 H:ae)(L:List aC)(hB:Np (Pn Q) r ty n H0 H L)(a b l:Int)(h1:0≤a)(h2:b≤n)(h3:a≤b +1)(h4:0≤l)(h5:l≤64)(hd:(b -a).toNat≤d),
 ak Pg X 95 [sl r n c,vi a,vi b,vi l] H fun v H'=>Np (Pn Q) r ty n H0 H' L:=by
 intro d
 induction d using Nat.strongRecOn with
 |_ d ih=>
 intro H0 H L hB a b l h1 h2 h3 h4 h5 hd
 refine ce [0,1,2,3,8,9,10,11,12,13,14,15,16,17,18] ?_;refine tl ?_
 refine Xg 1 2 3 8 9 10 11 12 13 14 15 16 17 18 (I:=fun k x1 x2 x3 x8 x9 aW bg b_ bQ fU bU dJ jc jK H'=>∃(a' b' l:Int)(w q:Bool),x1=vi a'∧x2=vi b'∧x3=vi l∧x8=.bool w∧x9=.bool q∧a≤a'∧b'≤b∧a'≤b' +1∧0≤l∧l≤64∧k=(b' +1 -a').toNat∧Np (Pn Q) r ty n H0 H' L) ?_ _
  ⟨a,b,l,true,true,rfl,rfl,rfl,rfl,rfl,aa,aa,aa,aa,aa,rfl,hB.bk⟩
 clear hB h4 h5 l H
 rintro k x1 x2 x3 x8 x9 aW bg b_ bQ fU bU dJ jc jK rg H1 ⟨a',b',l,w,q,rfl,rfl,rfl,rfl,rfl,h4,h5,h6,h7,h8,hk,hB⟩
 refine aT.i_ fun K hK=>?_
 have t3:∀(p l:Int)(w q:Bool) b_ bQ fU bU dJ jc jK rg H3,0≤l→l≤64→a' +12<b'→a'≤p→p<b'→Np (Pn Q) r ty n H0 H3 L→aT Pg X (sub eB [1,1,0,0,0,1,1,1,1,1,1,1,1])
  (dP (sl r n c) (vi a') (vi b') (vi l) (.bool w) (.bool q) (vi (b' -a')) (vi p) b_ bQ fU bU dJ jc jK rg H3) (iA 1 K):=by
  intro p l w q b_ bQ fU bU dJ jc jK rg H3 g1 g2 g3 g4 g5 hB
  subst hK
  refine tl ?_
  refine ak.mono (P8 aa hB.bk a' b' p aa aa aa aa) ?_
  rintro _ H4 ⟨mid,f,rfl,g6,g7,hB⟩
  refine au ?_
  refine aH ?_
  refine aH ?_
  refine PU.quo aa aa aa fun qd hd1 hd2 hd3=>?_
  clear hd1 hd2 hd3
  refine PU.of xK ?_
  refine ah (fun hc=>?_) (fun hc=>?_)
  ·refine PU.of iZ ?_
   refine ak.mono (ih (mid -a').toNat aa H0 H4 L hB.bk a' mid l aa aa aa g1 g2 (Nat.le_refl _)) ?_
   rintro _ H5 hB
   refine ay ?_
   exact⟨(b' +1 -(mid +1)).toNat,aa,_,_,_,_,_,_,_,_,_,_,_,_,_,_,_,_,rfl,mid +1,b',l,_,_,rfl,rfl,rfl,rfl,rfl,aa,aa,aa,g1,g2,rfl,hB.bk⟩
  ·refine PU.of iZ ?_
   refine ay ?_
   refine ak.mono (ih (b' -(mid +1)).toNat aa H0 H4 L hB.bk (mid +1) b' l aa aa aa g1 g2 (Nat.le_refl _)) ?_
   rintro _ H5 hB
   exact⟨(mid +1 -a').toNat,aa,_,_,_,_,_,_,_,_,_,_,_,_,_,_,_,_,rfl,a',mid,l,_,_,rfl,rfl,rfl,rfl,rfl,aa,aa,aa,g1,g2,rfl,hB.bk⟩
 have t2:∀(p l:Int)(w q:Bool) b_ bQ fU bU dJ jc jK rg H3,0≤l→l≤64→a' +12<b'→a'≤p→p<b'→Np (Pn Q) r ty n H0 H3 L→aT Pg X (sub eB [1,1,0,0,0,1,1,1,1,1,1,1])
  (dP (sl r n c) (vi a') (vi b') (vi l) (.bool w) (.bool q) (vi (b' -a')) (vi p) b_ bQ fU bU dJ jc jK rg H3) (iA 1 K):=by
  intro p l w q b_ bQ fU bU dJ jc jK rg H3 g1 g2 g3 g4 g5 hB
  refine tl ?_
  refine hB.az ?_
  refine ah (fun hc=>?_) (fun hc=>?_)
  ·repeat(first|(refine hB.az ?_)|(with_reducible refine aH ?_)|(with_reducible refine bC ?_)|(with_reducible refine hB.wu aa aa fun z hB=>?_)|(refine iL ?_)|((with_reducible refine ak.mono (fB _ _) ?_);rintro _ _ ⟨⟨bl,rfl⟩,rfl⟩))
   refine tl ?_
   refine hB.az ?_
   refine aA (fun hb=>?_) (fun hb=>?_)
   ·refine ak.mono (Jz aa hB.bk a' b' p aa aa aa aa) ?_
    rintro _ H4 ⟨i,rfl,g6,g7,hB⟩
    subst hK
    refine hB.az ?_
    exact⟨(b' +1 -i).toNat,aa,_,_,_,_,_,_,_,_,_,_,_,_,_,_,_,_,rfl,i,b',l,_,_,rfl,rfl,rfl,rfl,rfl,aa,aa,aa,g1,g2,rfl,hB.bk⟩
   ·exact t3 _ _ _ _ _ _ _ _ _ _ _ _ _ g1 g2 g3 g4 g5 hB.bk
  ·refine⟨by kernel_rfl,?_⟩
   refine tl ?_
   refine hB.az ?_
   exact t3 _ _ _ _ _ _ _ _ _ _ _ _ _ g1 g2 g3 g4 g5 hB.bk
 have t1:∀(p h l:Int)(w q:Bool) bQ fU bU dJ jc jK rg H3,0≤l→l≤64→a' +12<b'→a'≤p→p<b'→Np (Pn Q) r ty n H0 H3 L→aT Pg X (sub eB [1,1,0,0,0,1,1,1,1,1,1])
  (dP (sl r n c) (vi a') (vi b') (vi l) (.bool w) (.bool q) (vi (b' -a')) (vi p) (vi h) bQ fU bU dJ jc jK rg H3) (iA 1 K):=by
  intro p h l w q bQ fU bU dJ jc jK rg H3 g1 g2 g3 g4 g5 hB
  refine tl ?_
  refine hB.az ?_
  refine aA (fun hb=>?_) (fun hb=>?_)
  ·refine aA (fun hb=>?_) (fun hb=>?_)
   ·refine tl ?_
    refine hB.az ?_
    refine ah (fun hc=>?_) (fun hc=>?_)
    ·refine ak.mono (Gv aa hB.bk a' b' aa aa aa) ?_
     rintro _ H4 ⟨⟨bl,rfl⟩,hB⟩
     refine hB.az ?_
     refine aA (fun hb=>?_) (fun hb=>?_)
     ·subst hK
      refine hB.az ?_
      refine rr ?_;exact hB.bk
     ·exact t2 _ _ _ _ _ _ _ _ _ _ _ _ _ g1 g2 g3 g4 g5 hB.bk
    ·exact t2 _ _ _ _ _ _ _ _ _ _ _ _ _ g1 g2 g3 g4 g5 hB.bk
   ·refine tl ?_
    refine hB.az ?_
    exact t2 _ _ _ _ _ _ _ _ _ _ _ _ _ g1 g2 g3 g4 g5 hB.bk
  ·refine tl ?_
   refine hB.az ?_
   exact t2 _ _ _ _ _ _ _ _ _ _ _ _ _ g1 g2 g3 g4 g5 hB.bk
 have t0:∀(l:Int)(w q:Bool) bg b_ bQ fU bU dJ jc jK rg H3,0≤l→l≤64→a' +12<b'→Np (Pn Q) r ty n H0 H3 L→aT Pg X (sub eB [1,1,0,0,0,1,1,1,1])
  (dP (sl r n c) (vi a') (vi b') (vi l) (.bool w) (.bool q) (vi (b' -a')) bg b_ bQ fU bU dJ jc jK rg H3) (iA 1 K):=by
  intro l w q bg b_ bQ fU bU dJ jc jK rg H3 g1 g2 g3 hB
  refine tl ?_
  refine ak.mono (choose_spec aa hB.bk a' b' aa aa aa) ?_
  rintro _ H4 ⟨p,h,rfl,g4,g5,hB⟩
  refine au ?_
  refine ah (fun hc=>?_) (fun hc=>?_)
  ·refine ak.mono (Gu aa hB.bk a' b' aa aa aa) ?_
   rintro _ H5 hB
   repeat(with_reducible refine aH ?_)
   exact t1 _ _ _ _ _ _ _ _ _ _ _ _ _ g1 g2 g3 aa aa hB.bk
  ·exact t1 _ _ _ _ _ _ _ _ _ _ _ _ _ g1 g2 g3 aa aa hB.bk
 refine tl ?_
 repeat(first|(refine hB.az ?_)|(with_reducible refine aH ?_))
 refine ah (fun hc=>?_) (fun hc=>?_)
 ·refine ak.mono (C9 aa hB.bk a' b' aa aa aa) ?_
  rintro _ H5 hB
  subst hK
  refine hB.az ?_
  refine rr ?_;exact hB.bk
 refine ah (fun he=>?_) (fun he=>?_)
 ·refine ak.mono (P7 aa hB.bk a' b' aa aa aa) ?_
  rintro _ H5 hB
  subst hK
  refine hB.az ?_
  refine rr ?_;exact hB.bk
 refine aA (fun hb=>?_) (fun hb=>?_)
 ·refine ak.mono (JA hn hB.bk a' b' aa aa aa) ?_
  rintro _ H5 hB
  with_reducible refine aH ?_
  exact t0 _ _ _ _ _ _ _ _ _ _ _ _ _ aa aa aa hB.bk
 ·exact t0 _ _ _ _ _ _ _ _ _ _ _ _ _ aa aa aa hB.bk
end
section
variable{H0 H:ae}{L:List aC}{r:Nat}{ty:TypeId}{n c:Nat}{cv:Value}
abbrev Rg(r:Nat)(ty:TypeId)(n:Nat):=SB Hr r ty 2 n
def mH(cv:Value):Prop:=∀(H:ae)(a b c d:Int),Wf H→eG Pg X (Dy cv) [.agg ⟨[.int .i32 a,.int .i32 b]⟩,.agg ⟨[.int .i32 c,.int .i32 d]⟩] H (fun v H'=>(∃z:Int,v=vi z)∧Ext H H')
theorem mH.call(hc:mH cv)(hB:Rg r ty n H0 H L){a b c d:Int}{K:Value→ae→Prop}(k:∀z H1,Rg r ty n H0 (hM H H1) L→Ext (hN H) H1→K (vi z) H1):eG Pg X (Dy cv) [.agg ⟨[.int .i32 a,.int .i32 b]⟩,.agg ⟨[.int .i32 c,.int .i32 d]⟩] (hN H) K:=by
 refine eG.mono (hc (hN H) a b c d (oC H)) ?_
 rintro v H1 ⟨⟨z,rfl⟩,hx⟩
 exact k z H1 (hB.kX hx) hx
theorem q8(hcm:mH cv){q:Nat}{s:Int}(hB:Rg r ty n H0 H ((q,3,[vi s])::L))(a b:Int)(ha:0≤a∧a<n)(hb:0≤b∧b<n):
 ak Pg X 227 [sl r n c,vi a,vi b,.pointer (some ⟨q,0,none⟩),cv] H fun v H'=>∃a' b' s',v=.tuple ⟨[vi a',vi b']⟩∧(a'=a∧b'=b∨a'=b∧b'=a)∧Rg r ty n H0 H' ((q,3,[vi s'])::L):=by
 refine ce [0,1,2,3,4,10,11] ?_;refine tl ?_
 repeat(first|(refine hB.az ?_)|(with_reducible refine bC ?_)|(with_reducible refine hB.xR aa aa fun za zb=>?_)|(with_reducible refine hcm.call hB fun zc Hn hB wH=>?_)|((with_reducible refine And.intro ?_ ?_);focus ((simp only[aN,aQ,bn wH]);kernel_rfl)))
 refine aA (fun hc=>?_) (fun hc=>?_)
 ·refine hB.ld 0 rfl rfl ?_
  refine PU.of E_ ?_
  refine hB.st 0 rfl rfl (Nat.le_of_ble_eq_true rfl) rfl fun Hn hB=>?_
  refine rr ?_;exact⟨_,_,_,rfl,.inr ⟨rfl,rfl⟩,hB⟩
 ·refine rr ?_;exact⟨_,_,_,rfl,.inl ⟨rfl,rfl⟩,hB⟩
theorem yf(hcm:mH cv){q:Nat}{s:Int}(hB:Rg r ty n H0 H ((q,3,[vi s])::L))(x y z:Int)(hx:0≤x∧x<n)(hy:0≤y∧y<n)(hz:0≤z∧z<n):
 ak Pg X 226 [sl r n c,vi x,vi y,vi z,.pointer (some ⟨q,0,none⟩),cv] H fun v H'=>∃m s',v=vi m∧(m=x∨m=y∨m=z)∧Rg r ty n H0 H' ((q,3,[vi s'])::L):=by
 refine ce [0,1,2,3,4,5,12] ?_;refine tl ?_
 refine ak.mono (q8 hcm hB x y hx hy) ?_
 rintro _ H1 ⟨a,b,s1,rfl,h1,hB⟩
 refine hB.az ?_
 refine ak.mono (q8 hcm hB b z aa hz) ?_
 rintro _ H2 ⟨b',c',s2,rfl,h2,hB⟩
 refine hB.az ?_
 refine ak.mono (q8 hcm hB a b' aa aa) ?_
 rintro _ H3 ⟨a3,b3,s3,rfl,h3,hB⟩
 refine hB.az ?_
 refine rr ?_;exact⟨_,_,rfl,aa,hB⟩
theorem mP(hcm:mH cv){q:Nat}{s:Int}(hn:n≤16777216)(hB:Rg r ty n H0 H ((q,3,[vi s])::L))(x:Int)(hx:1≤x∧x +1<n):
 ak Pg X 225 [sl r n c,vi x,.pointer (some ⟨q,0,none⟩),cv] H fun v H'=>∃m s',v=vi m∧x -1≤m∧m≤x +1∧Rg r ty n H0 H' ((q,3,[vi s'])::L):=by
 refine ce [0,1,2,3,8] ?_;refine tl ?_
 with_reducible refine aH ?_;with_reducible refine ay ?_
 refine ak.mono (yf hcm hB _ _ _ aa aa aa) ?_
 rintro _ H1 ⟨m,s1,rfl,h1,hB⟩
 refine rr ?_;exact⟨_,_,rfl,aa,aa,hB⟩
theorem uh(hcm:mH cv)(hn:n≤16777216)(hB:Rg r ty n H0 H L)(lo hi first:Int)(h1:0≤lo)(h2:0≤first)(h3:first +hi≤n)(h4:lo≤16777216)(h5:0≤hi):
 ak Pg X 224 [sl r n c,vi lo,vi hi,vi first,cv] H fun v H'=>Rg r ty n H0 H' L:=by
 refine ce [0,1,2,3,4,10,11] ?_;refine tl ?_
 refine lp2 10 11 (I:=fun m x8 x9 H'=>∃root:Int,x8=vi root∧0≤root∧root≤16777216∧m=(hi -root).toNat∧Rg r ty n H0 H' L) ?_ _ ⟨lo,rfl,h1,h4,rfl,hB⟩
 rintro m x8 x9 rg H' ⟨root,rfl,h6,h7,hm,hB⟩
 refine aT.i_ fun K hK=>?_
 have fin:∀(ch:Int)(rg)(H2:ae),root<ch→ch<hi→Rg r ty n H0 H2 L→aT Pg X (sub oJ [1,0,0,0,1,1,1]) (nI (sl r n c) (vi lo) (vi hi) (vi first) cv (vi root) (vi ch) rg H2) (iA 1 K):=by
  intro ch rg H2 h8 h9 hB
  subst hK
  refine tl ?_
  repeat(first|(refine hB.az ?_)|(with_reducible refine ay ?_)|(with_reducible refine bC ?_)|(with_reducible refine hB.xR aa aa fun za zb=>?_)|(with_reducible refine hcm.call hB fun zc Hn hB wH=>?_)|((with_reducible refine And.intro ?_ ?_);focus ((simp only[aN,aQ,bn wH]);kernel_rfl)))
  refine aA (fun hb=>?_) (fun hb=>?_)
  ·refine rr ?_;exact hB
  ·repeat(first|(refine hB.az ?_)|(with_reducible refine ay ?_)|(with_reducible refine bC ?_)|(with_reducible refine hB.xR aa aa fun za zb=>?_)|(with_reducible refine hB.Lp aa aa fun Hn hB=>?_)|((with_reducible refine And.intro ?_ ?_);focus ((simp only[aN,aQ,bn wH]);kernel_rfl)))
   exact⟨(hi -ch).toNat,aa,_,_,_,_,rfl,ch,rfl,aa,aa,rfl,hB⟩
 refine tl ?_
 with_reducible refine z8 ?_;with_reducible refine ay ?_;refine hB.az ?_
 refine ah (fun hc=>?_) (fun hc=>?_)
 ·subst hK
  refine hB.az ?_
  refine rn ?_;exact hB
 with_reducible refine ay ?_;refine hB.az ?_
 refine ah (fun hd=>?_) (fun hd=>?_)
 ·repeat(first|(refine hB.az ?_)|(with_reducible refine ay ?_)|(with_reducible refine bC ?_)|(with_reducible refine hB.xR aa aa fun za zb=>?_)|(with_reducible refine hcm.call hB fun zc Hn hB wH=>?_)|((with_reducible refine And.intro ?_ ?_);focus ((simp only[aN,aQ,bn wH]);kernel_rfl)))
  refine aA (fun hb=>?_) (fun hb=>?_)
  ·with_reducible refine ay ?_
   exact fin _ _ _ aa aa hB
  ·exact fin _ _ _ aa aa hB
 ·refine⟨by kernel_rfl,?_⟩
  exact fin _ _ _ aa aa hB
theorem AP(hcm:mH cv)(hn:n≤16777216)(hB:Rg r ty n H0 H L)(a b:Int)(h1:0≤a)(h2:b≤n)(h3:a≤16777216):
 ak Pg X 216 [sl r n c,vi a,vi b,cv] H fun v H'=>Rg r ty n H0 H' L:=by
 refine ce [0,1,2,3,8,9] ?_;refine tl ?_
 with_reducible refine ay ?_
 refine lp2 8 9 (I:=fun m x6 x7 H'=>∃i:Int,x6=vi i∧a<i∧i≤16777218∧m=(b -i).toNat∧Rg r ty n H0 H' L) ?_ _ ⟨a +1,rfl,aa,aa,rfl,hB⟩
 rintro m x6 x7 rg H' ⟨i,rfl,h4,h5,hm,hB⟩
 refine aT.i_ fun K hK=>?_
 refine tl ?_
 refine hB.az ?_
 refine ah (fun hc=>?_) (fun hc=>?_)
 rotate_left
 ·subst hK
  refine hB.az ?_
  refine rn ?_;exact hB
 refine yD 9 (I:=fun m x7 H'=>∃j:Int,x7=vi j∧a≤j∧j≤i∧m=(j -a).toNat∧Rg r ty n H0 H' L) ?_ _ ⟨i,rfl,aa,aa,rfl,hB⟩
 rintro m2 x7 rg H2 ⟨j,rfl,h6,h7,hm2,hB⟩
 have fin:∀rg H3,Rg r ty n H0 H3 L→aT Pg X (sub kT [1,0,0,1,1]) (kJ (sl r n c) (vi a) (vi b) cv (vi i) (vi j) rg H3) K:=by
  intro rg H3 hB
  subst hK
  refine tl ?_
  refine hB.az ?_;with_reducible refine ay ?_
  exact⟨(b -(i +1)).toNat,aa,_,_,_,_,rfl,i +1,rfl,aa,aa,rfl,hB⟩
 refine tl ?_
 refine hB.az ?_
 refine ah (fun hd=>?_) (fun hd=>?_)
 rotate_left
 ·refine⟨by kernel_rfl,?_⟩
  exact fin _ _ hB
 repeat(first|(refine hB.az ?_)|(with_reducible refine aH ?_)|(with_reducible refine bC ?_)|(with_reducible refine hB.xR aa aa fun za zb=>?_)|(with_reducible refine hcm.call hB fun zc Hn hB wH=>?_)|((with_reducible refine And.intro ?_ ?_);focus ((simp only[aN,aQ,bn wH]);kernel_rfl)))
 refine aA (fun hb=>?_) (fun hb=>?_)
 rotate_left
 ·exact fin _ _ hB
 refine tl ?_
 repeat(first|(refine hB.az ?_)|(with_reducible refine aH ?_)|(with_reducible refine bC ?_)|(with_reducible refine hB.xR aa aa fun za zb=>?_)|(with_reducible refine hB.Lp aa aa fun Hn hB=>?_)|((with_reducible refine And.intro ?_ ?_);focus ((simp only[aN,aQ,bn wH]);kernel_rfl)))
 exact⟨(j -1 -a).toNat,aa,_,_,_,rfl,j -1,rfl,aa,aa,rfl,hB⟩
theorem LK(hcm:mH cv)(hn:n≤16777216)(hB:Rg r ty n H0 H L)(a b:Int)(h1:0≤a)(h2:b≤n)(h3:a<b):
 ak Pg X 217 [sl r n c,vi a,vi b,cv] H fun v H'=>Rg r ty n H0 H' L:=by
 refine ce [0,1,2,3,8,9,10,11,12] ?_;refine tl ?_
 repeat(first|(with_reducible refine aH ?_)|(with_reducible refine PU.quo aa aa aa fun qd hd1 hd2 hd3=>?_))
 refine yD 11 (I:=fun m x9 H'=>∃i:Int,x9=vi i∧-1≤i∧i≤16777216∧m=(i +1).toNat∧Rg r ty n H0 H' L) ?_ _ ⟨_,rfl,aa,aa,rfl,hB⟩
 rintro m x9 rg H' ⟨i,rfl,h4,h5,hm,hB⟩
 refine tl ?_
 refine hB.az ?_
 refine ah (fun hc=>?_) (fun hc=>?_)
 ·refine ak.mono (uh hcm hn hB i (b -a) a aa aa aa aa aa) ?_
  rintro v H2 hB
  with_reducible refine aH ?_
  exact⟨i.toNat,aa,_,_,_,rfl,i -1,rfl,aa,aa,aa,hB⟩
 refine tl ?_
 with_reducible refine aH ?_
 refine yD 12 (I:=fun m aW H'=>∃i:Int,aW=vi i∧-1≤i∧i<b -a∧m=(i +1).toNat∧Rg r ty n H0 H' L) ?_ _ ⟨_,rfl,aa,aa,rfl,hB⟩
 rintro m aW rg H' ⟨i,rfl,h4,h5,hm,hB⟩
 refine tl ?_
 refine hB.az ?_
 refine ah (fun hc=>?_) (fun hc=>?_)
 ·repeat(first|(refine hB.az ?_)|(with_reducible refine ay ?_)|(with_reducible refine bC ?_)|(with_reducible refine hB.xR aa aa fun za zb=>?_)|(with_reducible refine hB.Lp aa aa fun Hn hB=>?_)|(refine iL ?_))
  refine ak.mono (uh hcm hn hB 0 i a aa aa aa aa aa) ?_
  rintro v H2 hB
  with_reducible refine aH ?_
  exact⟨i.toNat,aa,_,_,_,rfl,i -1,rfl,aa,aa,aa,hB⟩
 ·refine rn ?_;exact hB
theorem D9(hcm:mH cv)(hn:n≤16777216)(hB:Rg r ty n H0 H L)(a b:Int)(h1:0≤a)(h2:b≤n)(h3:a≤b):
 ak Pg X 220 [sl r n c,vi a,vi b,cv] H fun v H'=>Rg r ty n H0 H' L:=by
 refine ce [0,1,2,8,9] ?_;refine tl ?_
 with_reducible refine aH ?_
 refine lp2 8 9 (I:=fun m x6 x7 H'=>∃i j:Int,x6=vi i∧x7=vi j∧a≤i∧j<b∧i≤16777218∧-2≤j∧m=(j -i).toNat∧Rg r ty n H0 H' L) ?_ _ ⟨_,_,rfl,rfl,aa,aa,aa,aa,rfl,hB⟩
 rintro m x6 x7 rg H' ⟨i,j,rfl,rfl,h4,h5,h6,h7,hm,hB⟩
 refine tl ?_
 refine hB.az ?_
 refine ah (fun hc=>?_) (fun hc=>?_)
 ·repeat(first|(refine hB.az ?_)|(with_reducible refine ay ?_)|(with_reducible refine aH ?_)|(with_reducible refine bC ?_)|(with_reducible refine hB.xR aa aa fun za zb=>?_)|(with_reducible refine hB.Lp aa aa fun Hn hB=>?_)|(refine iL ?_))
  exact⟨(j -1 -(i +1)).toNat,aa,_,_,_,_,rfl,i +1,j -1,rfl,rfl,aa,aa,aa,aa,rfl,hB⟩
 ·refine rn ?_;exact hB
theorem Gx(hcm:mH cv)(hn:n≤16777216)(hB:Rg r ty n H0 H L)(a b:Int)(h1:0≤a)(h2:b≤n)(h3:a +12<b):
 ak Pg X 219 [sl r n c,vi a,vi b,cv] H fun v H'=>∃p h:Int,v=.tuple ⟨[vi p,vi h]⟩∧a<p∧p +1<b∧Rg r ty n H0 H' L:=by
 refine ce [0,1,2,3,8,9,10,11,12,13,14,55] ?_;refine tl ?_
 with_reducible refine aH ?_;refine hB.az ?_
 refine hB.new fun H1 q hB=>?_
 repeat(first|(with_reducible refine ay ?_)|(with_reducible refine z8 ?_)|(with_reducible refine PU.quo aa aa aa fun qd hd1 hd2 hd3=>?_))
 rw[decide_eq_true aa]
 refine hB.az ?_
 have fin:∀(i j k s:Int) H2,(a<i∧i +1<b)→(a<j∧j +1<b)→(a<k∧k +1<b)→Rg r ty n H0 H2 ((q,3,[vi s])::L)→
  ak Pg X 226 [sl r n c,vi i,vi j,vi k,.pointer (some ⟨q,0,none⟩),cv] H2 fun v H'=>∃m s',v=vi m∧(a<m∧m +1<b)∧Rg r ty n H0 H' ((q,3,[vi s'])::L):=by
  intro i j k s H2 hi hj hk hB
  refine ak.mono (yf hcm hB i j k aa aa aa) ?_
  rintro _ H3 ⟨m,s',rfl,hm,hB⟩
  exact⟨m,s',rfl,aa,hB⟩
 refine ah (fun hc=>?_) (fun hc=>?_)
 ·refine ak.mono (mP hcm hn hB _ aa) ?_
  rintro _ H2 ⟨m1,s1,rfl,h4,h5,hB⟩
  refine ak.mono (mP hcm hn hB _ aa) ?_
  rintro _ H3 ⟨m2,s2,rfl,h6,h7,hB⟩
  refine ak.mono (mP hcm hn hB _ aa) ?_
  rintro _ H4 ⟨m3,s3,rfl,h8,h9,hB⟩
  refine tl ?_
  refine ak.mono (fin _ _ _ _ _ aa aa aa hB) ?_
  clear hc h4 h5 h6 h7 h8 h9 fin
  rintro _ H3 ⟨m,s',rfl,hm,hB⟩
  refine hB.az ?_
  refine tl ?_
  refine hB.ld 0 rfl rfl ?_
  have hB2:=hB.drop
  refine hB.az ?_
  refine ah (fun hc=>?_) (fun hc=>?_)
  ·refine rr ?_;exact⟨_,_,rfl,aa,aa,hB2⟩
  refine ah (fun hc=>?_) (fun hc=>?_)
  ·refine rr ?_;exact⟨_,_,rfl,aa,aa,hB2⟩
  ·refine rr ?_;exact⟨_,_,rfl,aa,aa,hB2⟩
 ·refine tl ?_
  refine ak.mono (fin _ _ _ _ _ aa aa aa hB) ?_
  clear hc fin
  rintro _ H3 ⟨m,s',rfl,hm,hB⟩
  refine hB.az ?_
  refine tl ?_
  refine hB.ld 0 rfl rfl ?_
  have hB2:=hB.drop
  refine hB.az ?_
  refine ah (fun hc=>?_) (fun hc=>?_)
  ·refine rr ?_;exact⟨_,_,rfl,aa,aa,hB2⟩
  refine ah (fun hc=>?_) (fun hc=>?_)
  ·refine rr ?_;exact⟨_,_,rfl,aa,aa,hB2⟩
  ·refine rr ?_;exact⟨_,_,rfl,aa,aa,hB2⟩
end
section
variable{H0 H:ae}{L:List aC}{r:Nat}{ty:TypeId}{n c:Nat}{cv:Value}
theorem D_(hcm:mH cv)(hn:n≤16777216)(hB:Rg r ty n H0 H L)(a b:Int)(h1:0≤a)(h2:b≤n)(h3:a<b):
 ak Pg X 221 [sl r n c,vi a,vi b,cv] H fun v H'=>isB v∧Rg r ty n H0 H' L:=by
 refine ce [0,1,2,3,8,9,10,11,12] ?_;refine tl ?_
 with_reducible refine ay ?_
 refine VP 8 9 10 11 12 (I:=fun m x6 x7 x8 x9 aW H'=>∃i j:Int,x7=vi i∧x8=vi j∧a<i∧i≤b∧j≤5∧0≤j∧m=(5 -j).toNat∧Rg r ty n H0 H' L) ?_ _ ⟨_,_,rfl,rfl,aa,aa,aa,aa,rfl,hB⟩
 rintro m x6 x7 x8 x9 aW rg H' ⟨i,j,rfl,rfl,h4,h5,h6,h6',hm,hB⟩
 refine aT.i_ fun K hK=>?_
 refine tl ?_
 refine hB.az ?_
 refine ah (fun hc=>?_) (fun hc=>?_)
 rotate_left
 ·subst hK
  refine hB.az ?_
  refine tl ?_
  refine rr ?_;exact⟨⟨_,rfl⟩,hB⟩
 refine yD 9 (I:=fun m x7 H'=>∃i:Int,x7=vi i∧a<i∧i≤b∧m=(b -i).toNat∧Rg r ty n H0 H' L) ?_ _ ⟨_,rfl,aa,aa,rfl,hB⟩
 rintro m2 x7 rg H2 ⟨i,rfl,h7,h8,hm2,hB⟩
 clear h4 h5
 have fin:∀x9 aW rg H3,i<b→Rg r ty n H0 H3 L→aT Pg X (sub aJ [1,1,0,1,0,0,1,1]) (bE (sl r n c) (vi a) (vi b) cv x6 (vi i) (vi j) x9 aW rg H3) K:=by
  intro x9 aW rg H3 hib hB
  subst hK
  refine tl ?_
  refine hB.az ?_;with_reducible refine ay ?_
  exact⟨(5 -(j +1)).toNat,aa,_,_,_,_,_,_,_,rfl,i,j +1,rfl,rfl,aa,aa,aa,aa,rfl,hB⟩
 have lp2:∀x9 rg H3,i<b→Rg r ty n H0 H3 L→aT Pg X (.loop (sub aJ [1,1,0,1,0,0,1,0,0,1,1,1,1,1,1,0,1,0,0])) (bE (sl r n c) (vi a) (vi b) cv x6 (vi i) (vi j) x9 (vi (i +1)) rg H3) (iA 6 (iA 1 (kN Pg X (sub aJ [1,1,0,1,0,0,1,1]) K))):=by
  intro x9 rg H3 hib hB
  refine yD 12 (I:=fun m aW H'=>∃k:Int,aW=vi k∧i<k∧k≤b∧m=(b -k).toNat∧Rg r ty n H0 H' L) ?_ _ ⟨_,rfl,aa,aa,rfl,hB⟩
  rintro m3 aW rg H4 ⟨k,rfl,h9,h10,Jy,hB⟩
  refine tl ?_
  refine hB.az ?_
  refine ah (fun he=>?_) (fun he=>?_)
  rotate_left
  ·exact fin _ _ _ _ hib hB
  repeat(first|(refine hB.az ?_)|(with_reducible refine aH ?_)|(with_reducible refine bC ?_)|(with_reducible refine hB.xR aa aa fun za zb=>?_)|(with_reducible refine hcm.call hB fun zc Hn hB wH=>?_)|((with_reducible refine And.intro ?_ ?_);focus ((simp only[aN,aQ,bn wH]);kernel_rfl)))
  refine aA (fun hb=>?_) (fun hb=>?_)
  ·exact fin _ _ _ _ hib hB
  repeat(first|(refine hB.az ?_)|(with_reducible refine ay ?_)|(with_reducible refine aH ?_)|(with_reducible refine bC ?_)|(with_reducible refine hB.xR aa aa fun za zb=>?_)|(with_reducible refine hB.Lp aa aa fun Hn hB=>?_)|((with_reducible refine And.intro ?_ ?_);focus ((simp only[aN,aQ,bn wH]);kernel_rfl)))
  exact⟨(b -(k +1)).toNat,aa,_,_,_,rfl,k +1,rfl,aa,aa,rfl,hB⟩
 have kL:∀x9 rg H3,i<b→Rg r ty n H0 H3 L→aT Pg X (sub aJ [1,1,0,1,0,0,1,0,0,1,1,1,1,1]) (bE (sl r n c) (vi a) (vi b) cv x6 (vi i) (vi j) x9 aW rg H3) (iA 1 (kN Pg X (sub aJ [1,1,0,1,0,0,1,1]) K)):=by
  intro x9 rg H3 hib hB
  refine tl ?_
  repeat(first|(refine hB.az ?_)|(with_reducible refine aH ?_))
  refine ah (fun hd=>?_) (fun hd=>?_)
  rotate_left
  ·exact fin _ _ _ _ hib hB
  with_reducible refine ay ?_
  exact lp2 _ _ _ hib hB
 have qp:∀rg H3,Rg r ty n H0 H3 L→aT Pg X (sub aJ [1,1,0,1,0,0,1,0,0,1]) (bE (sl r n c) (vi a) (vi b) cv x6 (vi i) (vi j) x9 aW rg H3) (iA 1 (kN Pg X (sub aJ [1,1,0,1,0,0,1,1]) K)):=by
  intro rg H3 hB
  refine tl ?_
  refine hB.az ?_
  refine ah (fun hd=>?_) (fun hd=>?_)
  ·subst hK
   refine hB.az ?_
   refine rr ?_;exact⟨⟨_,rfl⟩,hB⟩
  with_reducible refine aH ?_;refine hB.az ?_
  refine ah (fun he=>?_) (fun he=>?_)
  ·subst hK
   refine hB.az ?_
   refine rr ?_;exact⟨⟨_,rfl⟩,hB⟩
  repeat(first|(refine hB.az ?_)|(with_reducible refine aH ?_)|(with_reducible refine bC ?_)|(with_reducible refine hB.xR aa aa fun za zb=>?_)|(with_reducible refine hB.Lp aa aa fun Hn hB=>?_)|(refine iL ?_))
  refine ah (fun hg=>?_) (fun hg=>?_)
  rotate_left
  ·with_reducible refine aH ?_;refine hB.az ?_
   refine ah (fun hd=>?_) (fun hd=>?_)
   rotate_left
   ·exact fin _ _ _ _ aa hB
   with_reducible refine ay ?_
   exact lp2 _ _ _ aa hB
  with_reducible refine aH ?_
  refine yD 11 (I:=fun m x9 H'=>∃k:Int,x9=vi k∧0≤k∧k<i∧m=k.toNat∧Rg r ty n H0 H' L) ?_ _ ⟨_,rfl,aa,aa,rfl,hB⟩
  rintro m3 x9 rg H4 ⟨k,rfl,h9,h10,Jy,hB⟩
  refine tl ?_
  refine hB.az ?_
  refine ah (fun he=>?_) (fun he=>?_)
  rotate_left
  ·exact kL _ _ _ aa hB
  repeat(first|(refine hB.az ?_)|(with_reducible refine aH ?_)|(with_reducible refine bC ?_)|(with_reducible refine hB.xR aa aa fun za zb=>?_)|(with_reducible refine hcm.call hB fun zc Hn hB wH=>?_)|((with_reducible refine And.intro ?_ ?_);focus ((simp only[aN,aQ,bn wH]);kernel_rfl)))
  refine aA (fun hb=>?_) (fun hb=>?_)
  ·exact kL _ _ _ aa hB
  repeat(first|(refine hB.az ?_)|(with_reducible refine aH ?_)|(with_reducible refine bC ?_)|(with_reducible refine hB.xR aa aa fun za zb=>?_)|(with_reducible refine hB.Lp aa aa fun Hn hB=>?_)|((with_reducible refine And.intro ?_ ?_);focus ((simp only[aN,aQ,bn wH]);kernel_rfl)))
  exact⟨(k -1).toNat,aa,_,_,_,rfl,k -1,rfl,aa,aa,rfl,hB⟩
 refine tl ?_
 refine hB.az ?_
 refine ah (fun hd=>?_) (fun hd=>?_)
 rotate_left
 ·refine⟨by kernel_rfl,?_⟩
  exact qp _ _ hB
 repeat(first|(refine hB.az ?_)|(with_reducible refine aH ?_)|(with_reducible refine bC ?_)|(with_reducible refine hB.xR aa aa fun za zb=>?_)|(with_reducible refine hcm.call hB fun zc Hn hB wH=>?_)|((with_reducible refine And.intro ?_ ?_);focus ((simp only[aN,aQ,bn wH]);kernel_rfl)))
 refine aA (fun hb=>?_) (fun hb=>?_)
 rotate_left
 ·exact qp _ _ hB
 with_reducible refine ay ?_
 exact⟨(b -(i +1)).toNat,aa,_,_,_,rfl,i +1,rfl,aa,aa,rfl,hB⟩
theorem Gy(hcm:mH cv)(hn:n≤16777216)(hB:Rg r ty n H0 H L)(a b p:Int)(h1:0≤a)(h2:b≤n)(h3:a<b)(hp:a≤p∧p<b):
 ak Pg X 222 [sl r n c,vi a,vi b,vi p,cv] H fun v H'=>∃i:Int,v=vi i∧a<i∧i≤b +1∧Rg r ty n H0 H' L:=by
 refine ce [0,1,2,3,4,10,11,12] ?_;refine tl ?_
 repeat(first|(refine hB.az ?_)|(with_reducible refine ay ?_)|(with_reducible refine aH ?_)|(with_reducible refine bC ?_)|(with_reducible refine hB.xR aa aa fun za zb=>?_)|(with_reducible refine hB.Lp aa aa fun Hn hB=>?_)|(refine iL ?_))
 refine lp2 11 12 (I:=fun m x9 aW H'=>∃i j:Int,x9=vi i∧aW=vi j∧a<i∧i≤b +1∧j<b∧i -2≤j∧m=(j +2 -i).toNat∧Rg r ty n H0 H' L) ?_ _ ⟨_,_,rfl,rfl,aa,aa,aa,aa,rfl,hB⟩
 rintro m x9 aW rg H1 ⟨i,j,rfl,rfl,h4,h5,h6,h7,hm,hB⟩
 refine aT.i_ fun K hK=>?_
 have kL:∀(i2 j2:Int) rg H3,i≤i2→j2≤j→i2 -2≤j2→i2≤b +1→Rg r ty n H0 H3 L→aT Pg X (sub gY [1,1,1,0,0,0,0,1,1]) (gP (sl r n c) (vi a) (vi b) (vi p) cv (vi 0) (vi i2) (vi j2) rg H3) (iA 1 K):=by
  intro i2 j2 rg H3 g1 g2 g3 g4 hB
  subst hK
  refine tl ?_
  refine hB.az ?_
  refine ah (fun hd=>?_) (fun hd=>?_)
  ·refine tl ?_
   refine rr ?_;exact⟨_,rfl,aa,aa,hB⟩
  repeat(first|(refine hB.az ?_)|(with_reducible refine ay ?_)|(with_reducible refine aH ?_)|(with_reducible refine bC ?_)|(with_reducible refine hB.xR aa aa fun za zb=>?_)|(with_reducible refine hB.Lp aa aa fun Hn hB=>?_)|(refine iL ?_))
  exact⟨(j2 -1 +2 -(i2 +1)).toNat,aa,_,_,_,_,rfl,i2 +1,j2 -1,rfl,rfl,aa,aa,aa,aa,rfl,hB⟩
 have qp:∀(i2:Int) rg H3,i≤i2→i2 -2≤j→i2≤b +1→Rg r ty n H0 H3 L→aT Pg X (sub gY [1,1,1,0,0,0,0,1]) (gP (sl r n c) (vi a) (vi b) (vi p) cv (vi 0) (vi i2) (vi j) rg H3) (iA 1 K):=by
  intro i2 rg H3 g1 g2 g3 hB
  refine tl ?_
  refine yD 12 (I:=fun m aW H'=>∃j2:Int,aW=vi j2∧j2≤j∧i2 -2≤j2∧m=(j2 +2 -i2).toNat∧Rg r ty n H0 H' L) ?_ _ ⟨_,rfl,aa,aa,rfl,hB⟩
  rintro m3 aW rg H4 ⟨j2,rfl,h9,h10,Jy,hB⟩
  refine tl ?_
  refine hB.az ?_
  refine ah (fun he=>?_) (fun he=>?_)
  rotate_left
  ·refine⟨by kernel_rfl,?_⟩
   exact kL _ _ _ _ aa aa aa aa hB
  repeat(first|(refine hB.az ?_)|(with_reducible refine bC ?_)|(with_reducible refine hB.xR aa aa fun za zb=>?_)|(with_reducible refine hcm.call hB fun zc Hn hB wH=>?_)|((with_reducible refine And.intro ?_ ?_);focus ((simp only[aN,aQ,bn wH]);kernel_rfl)))
  refine aA (fun hb=>?_) (fun hb=>?_)
  rotate_left
  ·exact kL _ _ _ _ aa aa aa aa hB
  with_reducible refine aH ?_
  exact⟨(j2 -1 +2 -i2).toNat,aa,_,_,_,rfl,j2 -1,rfl,aa,aa,rfl,hB⟩
 refine tl ?_
 refine yD 11 (I:=fun m x9 H'=>∃i2:Int,x9=vi i2∧i≤i2∧i2 -2≤j∧i2≤b +1∧m=(j +2 -i2).toNat∧Rg r ty n H0 H' L) ?_ _ ⟨_,rfl,aa,aa,aa,rfl,hB⟩
 rintro m3 x9 rg H4 ⟨i2,rfl,h9,h10,h11,Jy,hB⟩
 refine tl ?_
 refine hB.az ?_
 refine ah (fun he=>?_) (fun he=>?_)
 rotate_left
 ·refine⟨by kernel_rfl,?_⟩
  exact qp _ _ _ aa aa aa hB
 repeat(first|(refine hB.az ?_)|(with_reducible refine bC ?_)|(with_reducible refine hB.xR aa aa fun za zb=>?_)|(with_reducible refine hcm.call hB fun zc Hn hB wH=>?_)|((with_reducible refine And.intro ?_ ?_);focus ((simp only[aN,aQ,bn wH]);kernel_rfl)))
 refine aA (fun hb=>?_) (fun hb=>?_)
 rotate_left
 ·exact qp _ _ _ aa aa aa hB
 with_reducible refine ay ?_
 exact⟨(j +2 -(i2 +1)).toNat,aa,_,_,_,rfl,i2 +1,rfl,aa,aa,aa,rfl,hB⟩
theorem LM(hcm:mH cv)(hn:n≤16777216)(hB:Rg r ty n H0 H L)(a b p:Int)(h1:0≤a)(h2:b≤n)(h3:a<b)(hp:a≤p∧p<b):
 ak Pg X 223 [sl r n c,vi a,vi b,vi p,cv] H fun v H'=>∃(i:Int)(f:Bool),v=.tuple ⟨[vi i,.bool f]⟩∧a≤i∧i<b∧Rg r ty n H0 H' L:=by
 refine ce [0,1,2,3,4,10,11,12,13] ?_;refine tl ?_
 repeat(first|(refine hB.az ?_)|(with_reducible refine ay ?_)|(with_reducible refine aH ?_)|(with_reducible refine bC ?_)|(with_reducible refine hB.xR aa aa fun za zb=>?_)|(with_reducible refine hB.Lp aa aa fun Hn hB=>?_)|(refine iL ?_))
 refine aT.i_ fun K hK=>?_
 have out:∀(i j:Int) x8 x9 rg H3,a≤j→j<b→Rg r ty n H0 H3 L→aT Pg X (sub bA [1,1,1,1,1,1,1,1,1,1]) (bG (sl r n c) (vi a) (vi b) (vi p) cv x8 x9 (vi i) (vi j) rg H3) (cK Pg [.tmp 10,.tmp 11] fun v H'=>∃(i:Int)(f:Bool),v=.tuple ⟨[vi i,.bool f]⟩∧a≤i∧i<b∧Rg r ty n H0 H' L):=by
  intro i j x8 x9 rg H3 g1 g2 hB
  refine tl ?_
  repeat(first|(refine hB.az ?_)|(with_reducible refine bC ?_)|(with_reducible refine hB.xR aa aa fun za zb=>?_)|(with_reducible refine hB.Lp aa aa fun Hn hB=>?_)|(refine iL ?_))
  refine rr ?_;exact⟨_,_,rfl,aa,aa,hB⟩
 have lp:∀(i j:Int) x8 x9 rg H3,a<i→j<b→a≤j→i -2≤j→Rg r ty n H0 H3 L→aT Pg X (.loop (sub bA [1,1,1,1,1,1,1,1,1,0,0,0])) (bG (sl r n c) (vi a) (vi b) (vi p) cv x8 x9 (vi i) (vi j) rg H3) (iA 4 (kN Pg X (sub bA [1,1,1,1,1,1,1,1,1,1]) (cK Pg [.tmp 10,.tmp 11] fun v H'=>∃(i:Int)(f:Bool),v=.tuple ⟨[vi i,.bool f]⟩∧a≤i∧i<b∧Rg r ty n H0 H' L))):=by
  intro i j x8 x9 rg H3 g1 g2 g3 g4 hB
  refine lp2 12 13 (I:=fun m aW bg H'=>∃i j:Int,aW=vi i∧bg=vi j∧a<i∧j<b∧a≤j∧i -2≤j∧m=(j +2 -i).toNat∧Rg r ty n H0 H' L) ?_ _ ⟨_,_,rfl,rfl,g1,g2,g3,g4,rfl,hB⟩
  clear g1 g2 g3 g4 hB i j
  rintro m aW bg rg H1 ⟨i,j,rfl,rfl,h4,h5,h6,h7,hm,hB⟩
  refine aT.i_ fun K hK=>?_
  have kL:∀(i2 j2:Int) rg H3,i≤i2→j2≤j→i2 -2≤j2→a≤j2→Rg r ty n H0 H3 L→aT Pg X (sub bA [1,1,1,1,1,1,1,1,1,0,0,0,0,1,1]) (bG (sl r n c) (vi a) (vi b) (vi p) cv x8 x9 (vi i2) (vi j2) rg H3) (iA 5 K):=by
   intro i2 j2 rg H3 g1 g2 g3 g4 hB
   subst hK
   refine tl ?_
   refine hB.az ?_
   refine ah (fun hd=>?_) (fun hd=>?_)
   ·exact out _ _ _ _ _ _ aa aa hB
   repeat(first|(refine hB.az ?_)|(with_reducible refine ay ?_)|(with_reducible refine aH ?_)|(with_reducible refine bC ?_)|(with_reducible refine hB.xR aa aa fun za zb=>?_)|(with_reducible refine hB.Lp aa aa fun Hn hB=>?_)|(refine iL ?_))
   exact⟨(j2 -1 +2 -(i2 +1)).toNat,aa,_,_,_,_,rfl,i2 +1,j2 -1,rfl,rfl,aa,aa,aa,aa,rfl,hB⟩
  have qp:∀(i2:Int) rg H3,i≤i2→i2 -2≤j→Rg r ty n H0 H3 L→aT Pg X (sub bA [1,1,1,1,1,1,1,1,1,0,0,0,0,1]) (bG (sl r n c) (vi a) (vi b) (vi p) cv x8 x9 (vi i2) (vi j) rg H3) (iA 5 K):=by
   intro i2 rg H3 g1 g2 hB
   refine tl ?_
   refine yD 13 (I:=fun m aW H'=>∃j2:Int,aW=vi j2∧j2≤j∧i2 -2≤j2∧a≤j2∧m=(j2 +2 -i2).toNat∧Rg r ty n H0 H' L) ?_ _ ⟨_,rfl,aa,aa,aa,rfl,hB⟩
   rintro m3 aW rg H4 ⟨j2,rfl,h9,h10,h11,Jy,hB⟩
   refine tl ?_
   refine hB.az ?_
   refine ah (fun he=>?_) (fun he=>?_)
   rotate_left
   ·refine⟨by kernel_rfl,?_⟩
    exact kL _ _ _ _ aa aa aa aa hB
   repeat(first|(refine hB.az ?_)|(with_reducible refine bC ?_)|(with_reducible refine hB.xR aa aa fun za zb=>?_)|(with_reducible refine hcm.call hB fun zc Hn hB wH=>?_)|((with_reducible refine And.intro ?_ ?_);focus ((simp only[aN,aQ,bn wH]);kernel_rfl)))
   refine aA (fun hb=>?_) (fun hb=>?_)
   rotate_left
   ·exact kL _ _ _ _ aa aa aa aa hB
   with_reducible refine aH ?_
   exact⟨(j2 -1 +2 -i2).toNat,aa,_,_,_,rfl,j2 -1,rfl,aa,aa,aa,rfl,hB⟩
  refine tl ?_
  refine yD 12 (I:=fun m x9 H'=>∃i2:Int,x9=vi i2∧i≤i2∧i2 -2≤j∧m=(j +2 -i2).toNat∧Rg r ty n H0 H' L) ?_ _ ⟨_,rfl,aa,aa,rfl,hB⟩
  rintro m3 x9 rg H4 ⟨i2,rfl,h9,h10,Jy,hB⟩
  refine tl ?_
  refine hB.az ?_
  refine ah (fun he=>?_) (fun he=>?_)
  rotate_left
  ·refine⟨by kernel_rfl,?_⟩
   exact qp _ _ _ aa aa hB
  repeat(first|(refine hB.az ?_)|(with_reducible refine bC ?_)|(with_reducible refine hB.xR aa aa fun za zb=>?_)|(with_reducible refine hcm.call hB fun zc Hn hB wH=>?_)|((with_reducible refine And.intro ?_ ?_);focus ((simp only[aN,aQ,bn wH]);kernel_rfl)))
  refine aA (fun hb=>?_) (fun hb=>?_)
  rotate_left
  ·exact qp _ _ _ aa aa hB
  with_reducible refine ay ?_
  exact⟨(j +2 -(i2 +1)).toNat,aa,_,_,_,rfl,i2 +1,rfl,aa,aa,rfl,hB⟩
 subst hK
 have Uu:∀(i j:Int) x8 x9 rg H3,a<i→j<b→a≤j→i -2≤j→Rg r ty n H0 H3 L→aT Pg X (sub bA [1,1,1,1,1]) (bG (sl r n c) (vi a) (vi b) (vi p) cv x8 x9 (vi i) (vi j) rg H3) (cK Pg [.tmp 10,.tmp 11] fun v H'=>∃(i:Int)(f:Bool),v=.tuple ⟨[vi i,.bool f]⟩∧a≤i∧i<b∧Rg r ty n H0 H' L):=by
  intro i j x8 x9 rg H3 g1 g2 g3 g4 hB
  refine tl ?_
  refine hB.az ?_
  refine ah (fun he=>?_) (fun he=>?_)
  ·repeat(first|(refine hB.az ?_)|(with_reducible refine bC ?_)|(with_reducible refine hB.xR aa aa fun za zb=>?_)|(with_reducible refine hB.Lp aa aa fun Hn hB=>?_)|(refine iL ?_))
   refine rr ?_;exact⟨_,_,rfl,aa,aa,hB⟩
  repeat(first|(refine hB.az ?_)|(with_reducible refine ay ?_)|(with_reducible refine aH ?_)|(with_reducible refine bC ?_)|(with_reducible refine hB.xR aa aa fun za zb=>?_)|(with_reducible refine hB.Lp aa aa fun Hn hB=>?_)|(refine iL ?_))
  exact lp (i +1) (j -1) _ _ _ _ aa aa aa aa hB
 have Uv:∀(i:Int) x8 x9 rg H3,a<i→i≤b→Rg r ty n H0 H3 L→aT Pg X (sub bA [1,1,1,1]) (bG (sl r n c) (vi a) (vi b) (vi p) cv x8 x9 (vi i) (vi (b -1)) rg H3) (cK Pg [.tmp 10,.tmp 11] fun v H'=>∃(i:Int)(f:Bool),v=.tuple ⟨[vi i,.bool f]⟩∧a≤i∧i<b∧Rg r ty n H0 H' L):=by
  intro i x8 x9 rg H3 g1 g2 hB
  refine tl ?_
  refine yD 13 (I:=fun m aW H'=>∃j2:Int,aW=vi j2∧j2<b∧i -2≤j2∧a≤j2∧m=(j2 +2 -i).toNat∧Rg r ty n H0 H' L) ?_ _ ⟨_,rfl,aa,aa,aa,rfl,hB⟩
  rintro m3 aW rg H4 ⟨j2,rfl,h9,h10,h11,Jy,hB⟩
  refine tl ?_
  refine hB.az ?_
  refine ah (fun he=>?_) (fun he=>?_)
  rotate_left
  ·refine⟨by kernel_rfl,?_⟩
   exact Uu _ _ _ _ _ _ aa aa aa aa hB
  repeat(first|(refine hB.az ?_)|(with_reducible refine bC ?_)|(with_reducible refine hB.xR aa aa fun za zb=>?_)|(with_reducible refine hcm.call hB fun zc Hn hB wH=>?_)|((with_reducible refine And.intro ?_ ?_);focus ((simp only[aN,aQ,bn wH]);kernel_rfl)))
  refine aA (fun hb=>?_) (fun hb=>?_)
  rotate_left
  ·exact Uu _ _ _ _ _ _ aa aa aa aa hB
  with_reducible refine aH ?_
  exact⟨(j2 -1 +2 -i).toNat,aa,_,_,_,rfl,j2 -1,rfl,aa,aa,aa,rfl,hB⟩
 refine yD 12 (I:=fun m x9 H'=>∃i2:Int,x9=vi i2∧a<i2∧i2≤b∧m=(b -i2).toNat∧Rg r ty n H0 H' L) ?_ _ ⟨_,rfl,aa,aa,rfl,hB⟩
 rintro m3 x9 rg H4 ⟨i2,rfl,h9,h10,Jy,hB⟩
 refine tl ?_
 refine hB.az ?_
 refine ah (fun he=>?_) (fun he=>?_)
 rotate_left
 ·refine⟨by kernel_rfl,?_⟩
  exact Uv _ _ _ _ _ aa aa hB
 repeat(first|(refine hB.az ?_)|(with_reducible refine bC ?_)|(with_reducible refine hB.xR aa aa fun za zb=>?_)|(with_reducible refine hcm.call hB fun zc Hn hB wH=>?_)|((with_reducible refine And.intro ?_ ?_);focus ((simp only[aN,aQ,bn wH]);kernel_rfl)))
 refine aA (fun hb=>?_) (fun hb=>?_)
 rotate_left
 ·exact Uv _ _ _ _ _ aa aa hB
 with_reducible refine ay ?_
 exact⟨(b -(i2 +1)).toNat,aa,_,_,_,rfl,i2 +1,rfl,aa,aa,rfl,hB⟩
end
section
variable{H0 H:ae}{L:List aC}{r:Nat}{ty:TypeId}{n c:Nat}{cv:Value}
theorem C_{q:Nat}{s:Int}(hB:Rg r ty n H0 H ((q,232,[.int .u64 s])::L)):
 ak Pg X 168 [.pointer (some ⟨q,0,none⟩)] H fun v H'=>∃z,v=.int .u64 z∧Rg r ty n H0 H' ((q,232,[.int .u64 z])::L):=by
 refine ce [0,2] ?_;refine tl ?_
 refine au ?_
 refine hB.vC 0 rfl rfl ?_
 (try simp only[aZ hB.wf,dH,dY])
 refine hB.vC 0 rfl rfl ?_
 refine PU.of (qc aa) ?_
 refine PU.of nS ?_
 (try simp only[aZ hB.wf,dH,dY])
 refine hB.Lm 0 rfl rfl (Nat.le_of_ble_eq_true rfl) rfl fun Hn hB=>?_
 refine And.intro (by simp only[aN,aQ];kernel_rfl) ?_
 (try simp only[aZ hB.wf,dH,dY])
 refine hB.vC 0 rfl rfl ?_
 (try simp only[aZ hB.wf,dH,dY])
 refine hB.vC 0 rfl rfl ?_
 refine PU.of (jb aa) ?_
 refine PU.of nS ?_
 (try simp only[aZ hB.wf,dH,dY])
 refine hB.Lm 0 rfl rfl (Nat.le_of_ble_eq_true rfl) rfl fun Hn hB=>?_
 refine And.intro (by simp only[aN,aQ];kernel_rfl) ?_
 (try simp only[aZ hB.wf,dH,dY])
 refine hB.vC 0 rfl rfl ?_
 (try simp only[aZ hB.wf,dH,dY])
 refine hB.vC 0 rfl rfl ?_
 refine PU.of (qc aa) ?_
 refine PU.of nS ?_
 (try simp only[aZ hB.wf,dH,dY])
 refine hB.Lm 0 rfl rfl (Nat.le_of_ble_eq_true rfl) rfl fun Hn hB=>?_
 refine And.intro (by simp only[aN,aQ];kernel_rfl) ?_
 (try simp only[aZ hB.wf,dH,dY])
 refine hB.ld 0 rfl rfl ?_
 refine rr ?_;exact⟨_,rfl,hB⟩
theorem Gz(hcm:mH cv)(hn:n≤1000000)(hB:Rg r ty n H0 H L)(a b:Int)(h1:0≤a)(h2:b≤n)(h3:a +12<b):
 ak Pg X 218 [sl r n c,vi a,vi b,cv] H fun v H'=>Rg r ty n H0 H' L:=by
 refine ce [0,1,2,8,9,10,11,12] ?_;refine tl ?_
 refine aH ?_
 refine PU.of iZ ?_
 rw[decide_eq_true aa]
 rw[nH,mE (u64_in aa)]
 refine au ?_
 refine hB.new fun H1 q hB=>?_
 refine hB.st 0 rfl rfl (Nat.le_of_ble_eq_true rfl) rfl fun Hn hB=>?_
 refine ak.mono (x_ (b -a) aa aa) ?_
 rintro _ _ ⟨⟨m,rfl,h4,h5⟩,rfl⟩
 refine PU.quo aa aa aa fun qd hd1 hd2 hd3=>?_
 refine z8 ?_
 refine ay ?_
 refine aH ?_
 refine lp2 11 12 (I:=fun k x9 aW H'=>∃i s:Int,x9=vi i∧a<i∧i≤b∧k=(b -i).toNat∧Rg r ty n H0 H' ((q,232,[.int .u64 s])::L)) ?_ _ ⟨_,_,rfl,aa,aa,rfl,hB⟩
 clear hB hd1 hd2 hd3 qd
 rintro k x9 aW rg H3 ⟨i,s,rfl,h6,h7,hk,hB⟩
 refine aT.i_ fun K hK=>?_
 refine tl ?_
 refine PU.quo aa aa aa fun qd hd1 hd2 hd3=>?_
 refine z8 ?_
 refine ay ?_
 refine ay ?_
 refine PU.of xL ?_
 refine ah (fun hc=>?_) (fun hc=>?_)
 rotate_left
 ·subst hK
  refine au ?_
  refine rn ?_;exact hB.drop
 have hib:i<b -1:=by omega
 clear hc hd1 hd2 hd3 qd
 refine ak.mono (C_ hB) ?_
 rintro _ H4 ⟨z,rfl,hB⟩
 refine PU.of (Cx (u64_in aa)) ?_
 refine PU.of uQ ?_
 obtain⟨g1,g2⟩:=NJ (a:=z) (b:=m -1) aa
 generalize Ll .u64 z (m -1)=y at g1 g2
 rw[nH,nR aa aa]
 refine au ?_
 have fin:∀(w:Int) rg,0≤w→w<b -a→aT Pg X (sub iE [1,1,0,1,1,1,0,0,1,0,0,1,1]) (kK (sl r n c) (vi a) (vi b) cv (vi (b -a)) (.pointer (some ⟨q,0,none⟩)) (.int .u64 m) (vi i) (vi w) rg H4) (iA 1 (kN Pg X (sub iE [1,1,0,1,1,1,0,0,1,1]) K)):=by
  intro w rg g3 g4
  subst hK
  refine tl ?_
  repeat(first|(refine hB.az ?_)|(with_reducible refine ay ?_)|(with_reducible refine bC ?_)|(with_reducible refine hB.xR aa aa fun za zb=>?_)|(with_reducible refine hB.Lp aa aa fun Hn hB=>?_)|(refine iL ?_))
  refine tl ?_
  refine hB.az ?_;with_reducible refine ay ?_
  exact⟨(b -(i +1)).toNat,aa,_,_,_,_,rfl,i +1,_,rfl,aa,aa,rfl,hB⟩
 refine ah (fun hc=>?_) (fun hc=>?_)
 ·with_reducible refine aH ?_
  exact fin _ _ aa aa
 ·exact fin _ _ aa aa
theorem P9(hcm:mH cv)(hn:n≤1000000):∀(d:Nat)(H0 H:ae)(L:List aC)(hB:Rg r ty n H0 H L)(a b l:Int)(h1:0≤a)(h2:b≤n)(h3:a≤b +1)(h4:0≤l)(h5:l≤64)(hd:(b -a).toNat≤d),
 ak Pg X 214 [sl r n c,vi a,vi b,vi l,cv] H fun v H'=>Rg r ty n H0 H' L:=by
 intro d
 induction d using Nat.strongRecOn with
 |_ d ih=>
 intro H0 H L hB a b l h1 h2 h3 h4 h5 hd
 refine ce [0,1,2,3,4,10,11,12,13,14,15,16,17,18,19,20] ?_;refine tl ?_
 refine Xg 1 2 3 10 11 12 13 14 15 16 17 18 19 20 (I:=fun k x1 x2 x3 x8 x9 aW bg b_ bQ fU bU dJ jc jK H'=>∃(a' b' l:Int)(w q:Bool),x1=vi a'∧x2=vi b'∧x3=vi l∧x8=.bool w∧x9=.bool q∧a≤a'∧b'≤b∧a'≤b' +1∧0≤l∧l≤64∧k=(b' +1 -a').toNat∧Rg r ty n H0 H' L) ?_ _
  ⟨a,b,l,true,true,rfl,rfl,rfl,rfl,rfl,aa,aa,aa,aa,aa,rfl,hB⟩
 clear hB h4 h5 l H
 rintro k x1 x2 x3 x8 x9 aW bg b_ bQ fU bU dJ jc jK rg H1 ⟨a',b',l,w,q,rfl,rfl,rfl,rfl,rfl,h4,h5,h6,h7,h8,hk,hB⟩
 refine aT.i_ fun K hK=>?_
 have t3:∀(p l:Int)(w q:Bool) b_ bQ fU bU dJ jc jK rg H3,0≤l→l≤64→a' +12<b'→a'≤p→p<b'→Rg r ty n H0 H3 L→aT Pg X (sub eD [1,1,0,0,0,1,1,1,1,1,1,1,1])
  (dQ (sl r n c) (vi a') (vi b') (vi l) cv (.bool w) (.bool q) (vi (b' -a')) (vi p) b_ bQ fU bU dJ jc jK rg H3) (iA 1 K):=by
  intro p l w q b_ bQ fU bU dJ jc jK rg H3 g1 g2 g3 g4 g5 hB
  subst hK
  refine tl ?_
  refine ak.mono (LM hcm aa hB a' b' p aa aa aa aa) ?_
  rintro _ H4 ⟨mid,f,rfl,g6,g7,hB⟩
  refine au ?_
  refine aH ?_
  refine aH ?_
  refine PU.quo aa aa aa fun qd hd1 hd2 hd3=>?_
  clear hd1 hd2 hd3
  refine PU.of xK ?_
  refine ah (fun hc=>?_) (fun hc=>?_)
  ·refine PU.of iZ ?_
   refine ak.mono (ih (mid -a').toNat aa H0 H4 L hB a' mid l aa aa aa g1 g2 (Nat.le_refl _)) ?_
   rintro _ H5 hB
   refine ay ?_
   exact⟨(b' +1 -(mid +1)).toNat,aa,_,_,_,_,_,_,_,_,_,_,_,_,_,_,_,_,rfl,mid +1,b',l,_,_,rfl,rfl,rfl,rfl,rfl,aa,aa,aa,g1,g2,rfl,hB⟩
  ·refine PU.of iZ ?_
   refine ay ?_
   refine ak.mono (ih (b' -(mid +1)).toNat aa H0 H4 L hB (mid +1) b' l aa aa aa g1 g2 (Nat.le_refl _)) ?_
   rintro _ H5 hB
   exact⟨(mid +1 -a').toNat,aa,_,_,_,_,_,_,_,_,_,_,_,_,_,_,_,_,rfl,a',mid,l,_,_,rfl,rfl,rfl,rfl,rfl,aa,aa,aa,g1,g2,rfl,hB⟩
 have t2:∀(p l:Int)(w q:Bool) b_ bQ fU bU dJ jc jK rg H3,0≤l→l≤64→a' +12<b'→a'≤p→p<b'→Rg r ty n H0 H3 L→aT Pg X (sub eD [1,1,0,0,0,1,1,1,1,1,1,1])
  (dQ (sl r n c) (vi a') (vi b') (vi l) cv (.bool w) (.bool q) (vi (b' -a')) (vi p) b_ bQ fU bU dJ jc jK rg H3) (iA 1 K):=by
  intro p l w q b_ bQ fU bU dJ jc jK rg H3 g1 g2 g3 g4 g5 hB
  refine tl ?_
  refine hB.az ?_
  refine ah (fun hc=>?_) (fun hc=>?_)
  ·repeat(first|(refine hB.az ?_)|(with_reducible refine aH ?_)|(with_reducible refine bC ?_)|(with_reducible refine hB.xR aa aa fun za zb=>?_)|(with_reducible refine hcm.call hB fun zc Hn hB wH=>?_)|((with_reducible refine And.intro ?_ ?_);focus ((simp only[aN,aQ,bn wH]);kernel_rfl)))
   refine tl ?_
   refine hB.az ?_
   refine aA (fun hb=>?_) (fun hb=>?_)
   ·refine ak.mono (Gy hcm aa hB a' b' p aa aa aa aa) ?_
    rintro _ H4 ⟨i,rfl,g6,g7,hB⟩
    subst hK
    refine hB.az ?_
    exact⟨(b' +1 -i).toNat,aa,_,_,_,_,_,_,_,_,_,_,_,_,_,_,_,_,rfl,i,b',l,_,_,rfl,rfl,rfl,rfl,rfl,aa,aa,aa,g1,g2,rfl,hB⟩
   ·exact t3 _ _ _ _ _ _ _ _ _ _ _ _ _ g1 g2 g3 g4 g5 hB
  ·refine⟨by kernel_rfl,?_⟩
   refine tl ?_
   refine hB.az ?_
   exact t3 _ _ _ _ _ _ _ _ _ _ _ _ _ g1 g2 g3 g4 g5 hB
 have t1:∀(p h l:Int)(w q:Bool) bQ fU bU dJ jc jK rg H3,0≤l→l≤64→a' +12<b'→a'≤p→p<b'→Rg r ty n H0 H3 L→aT Pg X (sub eD [1,1,0,0,0,1,1,1,1,1,1])
  (dQ (sl r n c) (vi a') (vi b') (vi l) cv (.bool w) (.bool q) (vi (b' -a')) (vi p) (vi h) bQ fU bU dJ jc jK rg H3) (iA 1 K):=by
  intro p h l w q bQ fU bU dJ jc jK rg H3 g1 g2 g3 g4 g5 hB
  refine tl ?_
  refine hB.az ?_
  refine aA (fun hb=>?_) (fun hb=>?_)
  ·refine aA (fun hb=>?_) (fun hb=>?_)
   ·refine tl ?_
    refine hB.az ?_
    refine ah (fun hc=>?_) (fun hc=>?_)
    ·refine ak.mono (D_ hcm aa hB a' b' aa aa aa) ?_
     rintro _ H4 ⟨⟨bl,rfl⟩,hB⟩
     refine hB.az ?_
     refine aA (fun hb=>?_) (fun hb=>?_)
     ·subst hK
      refine hB.az ?_
      refine rr ?_;exact hB
     ·exact t2 _ _ _ _ _ _ _ _ _ _ _ _ _ g1 g2 g3 g4 g5 hB
    ·exact t2 _ _ _ _ _ _ _ _ _ _ _ _ _ g1 g2 g3 g4 g5 hB
   ·refine tl ?_
    refine hB.az ?_
    exact t2 _ _ _ _ _ _ _ _ _ _ _ _ _ g1 g2 g3 g4 g5 hB
  ·refine tl ?_
   refine hB.az ?_
   exact t2 _ _ _ _ _ _ _ _ _ _ _ _ _ g1 g2 g3 g4 g5 hB
 have t0:∀(l:Int)(w q:Bool) bg b_ bQ fU bU dJ jc jK rg H3,0≤l→l≤64→a' +12<b'→Rg r ty n H0 H3 L→aT Pg X (sub eD [1,1,0,0,0,1,1,1,1])
  (dQ (sl r n c) (vi a') (vi b') (vi l) cv (.bool w) (.bool q) (vi (b' -a')) bg b_ bQ fU bU dJ jc jK rg H3) (iA 1 K):=by
  intro l w q bg b_ bQ fU bU dJ jc jK rg H3 g1 g2 g3 hB
  refine tl ?_
  refine ak.mono (Gx hcm aa hB a' b' aa aa aa) ?_
  rintro _ H4 ⟨p,h,rfl,g4,g5,hB⟩
  refine au ?_
  refine ah (fun hc=>?_) (fun hc=>?_)
  ·refine ak.mono (D9 hcm aa hB a' b' aa aa aa) ?_
   rintro _ H5 hB
   repeat(with_reducible refine aH ?_)
   exact t1 _ _ _ _ _ _ _ _ _ _ _ _ _ g1 g2 g3 aa aa hB
  ·exact t1 _ _ _ _ _ _ _ _ _ _ _ _ _ g1 g2 g3 aa aa hB
 refine tl ?_
 repeat(first|(refine hB.az ?_)|(with_reducible refine aH ?_))
 refine ah (fun hc=>?_) (fun hc=>?_)
 ·refine ak.mono (AP hcm aa hB a' b' aa aa aa) ?_
  rintro _ H5 hB
  subst hK
  refine hB.az ?_
  refine rr ?_;exact hB
 refine ah (fun he=>?_) (fun he=>?_)
 ·refine ak.mono (LK hcm aa hB a' b' aa aa aa) ?_
  rintro _ H5 hB
  subst hK
  refine hB.az ?_
  refine rr ?_;exact hB
 refine aA (fun hb=>?_) (fun hb=>?_)
 ·refine ak.mono (Gz hcm hn hB a' b' aa aa aa) ?_
  rintro _ H5 hB
  with_reducible refine aH ?_
  exact t0 _ _ _ _ _ _ _ _ _ _ _ _ _ aa aa aa hB
 ·exact t0 _ _ _ _ _ _ _ _ _ _ _ _ _ aa aa aa hB
end
section
variable{H0 H:ae}{L:List aC}
theorem Al(a:Int):ak Pg X 215 [.int .i32 a] H (Q0 (fun v=>v=.bool false) H):=by
 refine ce [0,2] ?_;refine tl ?_
 refine au ?_
 refine rr ?_;exact⟨by simp,rfl⟩
theorem Ea(a b:Int):ak Pg X 209 [.int .i32 a,.int .i32 b] H (Q0 (fun v=>∃z:Int,v=vi z) H):=by
 refine ce [0,1,4,5,6] ?_;refine tl ?_
 refine ak.mono (Al _) ?_
 rintro v H' ⟨rfl,rfl⟩
 refine ak.mono (Al _) ?_
 rintro v H' ⟨rfl,rfl⟩
 refine au ?_
 refine ah (fun hc=>?_) (fun hc=>?_)
 ·refine rr ?_;exact⟨⟨_,rfl⟩,rfl⟩
 refine ah (fun hc=>?_) (fun hc=>?_)
 ·refine rr ?_;exact⟨⟨_,rfl⟩,rfl⟩
 ·refine rr ?_;exact⟨⟨_,rfl⟩,rfl⟩
theorem Xp:mH (.func (.func 208) ⟨[]⟩ ⟨[]⟩):=by
 intro H a b c d hw
 show ak Pg X 208 [.agg ⟨[.int .i32 a,.int .i32 b]⟩,.agg ⟨[.int .i32 c,.int .i32 d]⟩] H _
 have hS:=SH.refl hw
 refine ce [0,1,2,3,4] ?_;refine tl ?_
 refine hS.box rfl fun H1 r hS=>?_
 refine hS.box rfl fun H2 r2 hS=>?_
 refine hS.az ?_;refine hS.a_ ?_;refine hS.a_ ?_
 refine ak.mono (Ea _ _) ?_
 rintro v H' ⟨⟨z,rfl⟩,rfl⟩
 refine rr ?_;exact⟨⟨z,rfl⟩,hS.ext⟩
theorem LP(v cv:Value):ak Pg X 216 [v,vi 0,vi 0,cv] H fun _ H'=>H'=H:=by
 refine ce [0,1,2,3,8,9] ?_;refine tl ?_
 refine ay ?_
 refine lp2 8 9 (I:=fun m x8 x9 H'=>x8=vi 1∧H'=H) ?_ 0 ⟨rfl,rfl⟩
 rintro m x8 x9 rg H' ⟨rfl,rfl⟩
 refine tl ?_
 refine au ?_
 rw[decide_eq_false aa]
 refine au ?_
 refine rn ?_;exact rfl
theorem adR(v cv l:Value):ak Pg X 214 [v,vi 0,vi 0,l,cv] H fun _ H'=>H'=H:=by
 refine ce [0,1,2,3,4,10,11,12,13,14,15,16,17,18,19,20] ?_;refine tl ?_
 refine Xg 1 2 3 10 11 12 13 14 15 16 17 18 19 20 (I:=fun k x1 x2 x3 x8 x9 aW bg b_ bQ fU bU dJ jc jK H'=>x1=vi 0∧x2=vi 0∧H'=H) ?_ 0 ⟨rfl,rfl,rfl⟩
 rintro k x1 x2 x3 x8 x9 aW bg b_ bQ fU bU dJ jc jK rg H' ⟨rfl,rfl,rfl⟩
 refine tl ?_
 refine aH ?_
 refine au ?_
 rw[decide_eq_true aa]
 refine au ?_
 refine ak.mono (LP _ _) ?_
 rintro _ _ rfl
 refine rr ?_;exact rfl
theorem LQ{cv:Value}(hcm:mH cv){r:Nat}{ty:TypeId}{n c:Nat}(hn:n≤1000000)(hB:Rg r ty n H0 H L):ak Pg X 207 [sl r n c,cv] H fun v H'=>Rg r ty n H0 H' L:=by
 refine ce [0,1,4] ?_;refine tl ?_
 refine au ?_
 rw[mE (u64_in aa)]
 refine ak.mono (ug _ aa aa) ?_
 rintro v H' ⟨⟨l,rfl,h1,_⟩,rfl⟩
 refine ak.mono (P9 hcm hn _ H0 H' L hB 0 n l aa aa aa aa aa (Nat.le_refl _)) ?_
 intro v H1 hB
 refine rn ?_;exact hB
theorem aas(cv:Value):ak Pg X 207 [.slice none 0 0,cv] H fun v H'=>H'=H:=by
 refine ce [0,1,4] ?_;refine tl ?_
 refine au ?_
 rw[mE (u64_in aa)]
 refine ak.mono (ug _ aa aa) ?_
 rintro v H' ⟨⟨l,rfl,h1,_⟩,rfl⟩
 refine ak.mono (adR _ _ _) ?_
 rintro v H1 rfl
 refine rn ?_;exact rfl
theorem LU{cs:List Value}{k:Nat}(h:∀i,i<2→∃z:Int,cs[k*2 +i]?=some (.int .i32 z)):Hr (El cs 2 k):=by
 obtain⟨a,ha⟩:=h 0 aa
 obtain⟨b,hb⟩:=h 1 aa
 refine⟨a,b,?_⟩
 apply List.ext_getElem?
 intro i
 rw[jv]
 match i with
 |0=>rw[if_pos aa,ha];rfl
 |1=>rw[if_pos aa,hb];rfl
 |i +2=>rw[if_neg aa];rfl
theorem GA{cs:List Value}{k i:Nat}(h:Hr (El cs 2 k))(hi:i<2):∃z:Int,cs[k*2 +i]?=some (.int .i32 z):=by
 obtain⟨a,b,e⟩:=h
 have h1:=jv cs 2 k i
 rw[if_pos hi,e]at h1
 match i,hi with
 |0,_=>exact⟨a,h1.symm⟩
 |1,_=>exact⟨b,h1.symm⟩
section fields
variable{r:Nat}{ty:TypeId}{n:Nat}{K:Value→ae→Prop}
theorem SB.rf(h:SB Hr r ty 2 n H0 H L){z:Int}(h0:0≤z)(hz:z<n){f:Nat}(hf:f<2)(k:∀a,K (.int .i32 a) H):ME (lM none (.pointer (some ⟨r,z.toNat*2 +f,none⟩)) H) K:=by
 obtain⟨cs,hS,hp,hl⟩:=h.row (k:=z.toNat) aa
 obtain⟨a,ha⟩:=GA hp hf
 exact hS.ld 0 rfl ha (k a)
theorem SB.rfQ(h:SB Hr r ty 2 n H0 H L){z:Int}(h0:0≤z)(hz:z<n){f:Nat}(hf:f<2)(k:∀a,K (.int .i32 a) (hN H)):ME (lM none (.pointer (some ⟨r,z.toNat*2 +f,none⟩)) (hN H)) K:=SB.rf h.mV h0 hz hf k
theorem SB.adS(h:SB Hr r ty 2 n H0 H L){z:Int}(h0:0≤z)(hz:z<n){f:Nat}(hf:f<2){a:Int}(k:∀H1,SB Hr r ty 2 n H0 (hM H H1) L→K undef H1):ME (yB 1 (.pointer (some ⟨r,z.toNat*2 +f,none⟩)) (.int .i32 a) (hN H)) K:=by
 obtain⟨cs,h1,h2,hS⟩:=h
 have hle:z.toNat*2 +f +1≤cs.length:=by omega
 refine hS.Lm 0 rfl rfl hle rfl fun H1 hS=>k H1 ⟨splice cs (z.toNat*2 +f) [.int .i32 a],?_,fun j hj=>?_,hS⟩
 ·rw[eH (by simpa using hle)];exact h1
 ·refine LU fun i hi=>?_
  rw[iU (by simpa using hle)]
  split
  ·next hc=>
   rw[show j*2 +i -(z.toNat*2 +f)=0 by simp at hc;omega]
   exact⟨a,rfl⟩
  ·exact GA (h2 j hj) hi
end fields
abbrev Eb(cs:List Value):Prop:=∀x∈cs,∃z:Int,x=.int .i32 z
theorem JB{cs:List Value}(h:Eb cs){k:Nat}(hk:k*2 +2≤cs.length):Hr (El cs 2 k):=by
 have e:El cs 2 k=[cs[k*2],cs[k*2 +1]]:=by
  unfold El
  rw[List.drop_eq_getElem_cons aa,List.drop_eq_getElem_cons aa];rfl
 obtain⟨a,ha⟩:=h cs[k*2] (List.getElem_mem _)
 obtain⟨b,hb⟩:=h cs[k*2 +1] (List.getElem_mem _)
 exact⟨a,b,by rw[e,ha,hb]⟩
theorem Eb.app{cs:List Value}(h:Eb cs)(a b:Int):Eb (cs++[.int .i32 a,.int .i32 b]):=by
 intro x hx
 rcases List.mem_append.1 hx with hx|hx
 ·exact h x hx
 ·simp at hx
  rcases hx with rfl|rfl
  ·exact⟨_,rfl⟩
  ·exact⟨_,rfl⟩
theorem GD{cs:List Value}{n:Nat}(hl:cs.length=n*2)(h:∀k,k<n→Hr (El cs 2 k)):Eb cs:=by
 intro x hx
 obtain⟨i,hi,rfl⟩:=List.getElem_of_mem hx
 obtain⟨a,b,e⟩:=h (i/2) aa
 have h1:=jv cs 2 (i/2) (i %2)
 rw[if_pos (Nat.mod_lt _ aa),show i/2*2 +i %2=i by omega,List.getElem?_eq_getElem hi,e]at h1
 have:i %2=0∨i %2=1:=by omega
 rcases this with h2|h2
 ·rw[h2]at h1;exact⟨a,(Option.some.inj h1).symm⟩
 ·rw[h2]at h1;exact⟨b,(Option.some.inj h1).symm⟩
theorem Am(hw:Wf H){K:Nat}(hK:K≤1000000){v:Value}(hv:pg K H v):ak Pg X 210 [v] H (Q1 (fun v H'=>bf H.next K H' v) H):=by
 obtain⟨a,n,c,cs,rfl,hf,hn,hi⟩:=hv
 have hS:=SH.refl hw
 refine ce [0,2] ?_;refine tl ?_
 rw[tu (by kernel_rfl)]
 refine au ?_
 refine aA (fun hb=>?_) (fun hb=>?_)
 ·refine rr ?_;exact⟨bf.nil _ _ _,Ext.refl _⟩
 ·refine ME.of (aag aa) ?_
  have hS:=hS.grow 269 []
  have hge:=hS.ext.next
  refine hS.Ls aa (.inr ⟨_,rfl⟩) (hf.ex hS.ext) aa fun a' c' H1 L' hf' hS'=>?_
  refine rr ?_;exact⟨⟨a',n,c',cs,rfl,hf'.le hge,hn,hi⟩,hS'.ext⟩
set_option maxHeartbeats 8000000 in
theorem wI(hw:Wf H){KM:Nat}(hKM:KM≤1000000){v:Value}(hv:pg KM H v):ak Pg X 197 [v] H (Q1 (fun v H'=>bf H.next KM H' v) H):=by
 obtain⟨a,n,c,cs,rfl,hf,hn,hi⟩:=hv
 have hS:=SH.refl hw
 refine ce [0,2,3,5,6,8,9,10,11,35,36,37] ?_;refine tl ?_
 refine au ?_
 refine Oc 3 5 11 (I:=fun m x3 x5 bg H'=>∃(k:Nat)(ds:List Value)(gb:List aC),bg=vn k∧k +m=n∧GB 269 2 x3 ds gb∧ds.length≤2*k∧Eb ds∧SH [] H H' (gb++[])) ?_ n ⟨0,[],[],rfl,aa,GB.nil _ _,by simp,(fun x h=>nomatch h),hS⟩
 rintro m x3 x5 bg rg H' ⟨k,ds,gb,rfl,hk,hg,hdl,hds,hS⟩
 refine aT.i_ fun K hK=>?_
 refine tl ?_
 refine au ?_
 refine ah (fun hc=>?_) (fun hc=>?_)
 ·obtain⟨r,o,e,hr,hrd,hel,_⟩:=hf.read aa (show k<n by omega) c
  rw[e]
  refine au ?_
  obtain⟨z1,z2,ez⟩:=JB hi (k:=k) (by rw[hf.1];omega)
  rw[ez]at hrd
  refine hS.mM hrd hr ?_
  refine hS.bZ fun H1 r1 hS=>?_
  repeat(first|(refine hS.az ?_)|(refine hS.a_ ?_)|(refine hS.iB fun Hn hS=>?_))
  subst hK
  refine ah (fun hd=>?_) (fun hd=>?_)
  ·refine hS.az ?_;refine hS.bL ?_
   refine hS.bS rfl rfl rfl aa fun H2 rx hS=>?_
   have hS:SH [] H H2 ((rx,269,[.int .i32 (max z1 0),.int .i32 (min z2 1114111)])::(r1,269,[.int .i32 (max z1 0),.int .i32 (min z2 1114111)])::(gb++[])):=hS
   have hS:SH [] H H2 ((rx,269,[.int .i32 (max z1 0),.int .i32 (min z2 1114111)])::(gb++[(r1,269,[.int .i32 (max z1 0),.int .i32 (min z2 1114111)])])):=hS.perm (List.Perm.cons _ (by simpa using(List.perm_append_comm (l₁:=[_]) (l₂:=gb))))
   refine hg.add hS aa rfl rfl aa fun v' H3 bJ hg' hS' hx=>?_
   rw[aL aa aa]
   refine au ?_
   refine⟨m -1,aa,_,_,_,_,_,rfl,k +1,_,bJ,rfl,aa,hg',by simp;omega,hds.app _ _,?_⟩
   exact by simpa using SH.drop (A:=[_]) (hS'.perm (List.perm_append_comm (l₂:=[_])))
  ·rw[aL aa aa]
   refine au ?_
   refine⟨m -1,aa,_,_,_,_,_,rfl,k +1,ds,gb,rfl,aa,hg,aa,hds,?_⟩
   exact SH.drop (A:=[_]) hS
 ·subst hK
  refine au ?_
  refine tl ?_
  rcases hg with⟨rfl,rfl,rfl⟩|⟨r,n1,aF,rfl,hn1,rfl⟩
  ·refine ak.mono (aas _) ?_
   rintro _ H1 e
   have e:=e.symm
   subst e
   refine au ?_
   refine Oc 6 8 37 (I:=fun m x6 x8 pN H2=>H2=H'∧x6=vi 0∧pN=vi 0) ?_ 0 ⟨rfl,rfl,rfl⟩
   rintro m x6 x8 pN rg H2 ⟨rfl,rfl,rfl⟩
   refine tl ?_
   refine au ?_
   rw[decide_eq_false aa]
   refine au ?_
   refine tl ?_
   refine PU.of (NL) ?_
   refine ak.mono (Am hS.wf hKM (pg.nil _ _)) ?_
   rintro v H3 ⟨hv,hx⟩
   refine rr ?_;exact⟨hv.le (Nat.le_refl _) hS.ext.next,hS.ext.trans hx⟩
  ·have hB:Rg r 269 n1 H H' []:=⟨ds++aF,by simp;omega,fun k hk=>LU fun i hi=>?_,hS⟩
   rotate_left
   ·rw[List.getElem?_append_left aa,List.getElem?_eq_getElem aa]
    obtain⟨z,hz⟩:=hds ds[k*2 +i] (List.getElem_mem _)
    exact⟨z,by rw[hz]⟩
   have hn2:n1≤KM:=by omega
   refine ak.mono (LQ Xp aa hB) ?_
   clear hB hS hds hn1 aF ds hdl
   rintro _ H2 hB
   refine au ?_
   refine Oc 6 8 37 (I:=fun m x6 x8 pN H2=>∃(w k:Nat),x6=vn w∧pN=vn k∧w≤k∧k +m=n1∧Rg r 269 n1 H H2 []) ?_ n1 ⟨0,0,rfl,rfl,aa,aa,hB⟩
   clear hB
   rintro m2 x6 x8 pN rg H3 ⟨w,k2,rfl,rfl,hw2,hk2,hB⟩
   refine aT.i_ fun K hK=>?_
   have nx:∀(w:Nat) x8 rg H4,w≤k2 +1→k2<n1→Rg r 269 n1 H H4 []→aT Pg X (sub fu [1,1,1,1,1,0,1,0,0,1,1,1]) (jY (.slice a n c) (.slice none 0 0) (sl r n1 (aK 2)) x5 (vn w) x8 (.slice a n c) (vn n) (vn k) (sl r n1 (aK 2)) (vn n1) (vn k2) rg H4) K:=by
    intro w x8 rg H4 h1 h2 hB
    subst hK
    refine tl ?_
    rw[aL aa aa]
    refine au ?_
    exact⟨m2 -1,aa,_,_,_,_,_,rfl,w,k2 +1,rfl,rfl,aa,aa,hB⟩
   refine tl ?_
   refine au ?_
   refine ah (fun hc=>?_) (fun hc=>?_)
   rotate_left
   ·subst hK
    refine au ?_
    refine tl ?_
    refine PU.of (tq (show w≤n1 by omega)) ?_
    obtain⟨es,g1,g2,hS⟩:=hB
    have hfw:Fl H3 (some ⟨r,0,none⟩) w 2 (es.take (w*2)):=⟨by simp;omega,fun i x hi=>⟨r,0,rfl,(hS.lo _ (List.mem_cons_self ..)).2,by
     rw[Nat.zero_add]
     refine(hS.get 0 rfl).cell ?_
     rw[List.getElem?_take]at hi
     split at hi
     ·exact hi
     ·cases hi⟩⟩
    have hR:pg KM H3 (.slice (some ⟨r,0,none⟩) w (aK 2)):=⟨_,w,_,_,rfl,hfw,aa,GD hfw.1 fun k hk=>LU fun i hi=>by
     rw[List.getElem?_take,if_pos aa]
     exact GA (g2 k aa) hi⟩
    refine ak.mono (Am hS.wf hKM hR) ?_
    rintro v H4 ⟨hv,hx⟩
    refine rr ?_;exact⟨hv.le (Nat.le_refl _) hS.ext.next,hS.ext.trans hx⟩
   refine bC ?_
   simp only[Nat.zero_add]
   refine hB.r1 aa aa fun za zb=>?_
   refine hB.new fun H4 r1 hB=>?_
   refine hB.st 0 rfl rfl (Nat.le_of_ble_eq_true rfl) rfl fun H5 hB=>?_
   have hB:SB Hr r 269 2 n1 H H5 [(r1,269,[.int .i32 za,.int .i32 zb])]:=hB
   have lay:∀rg H6,SB Hr r 269 2 n1 H H6 [(r1,269,[.int .i32 za,.int .i32 zb])]→aT Pg X (sub fu [1,1,1,1,1,0,1,0,0,1,1,0,0,1,1]) (jY (.slice a n c) (.slice none 0 0) (sl r n1 (aK 2)) x5 (vn w) (.pointer (some ⟨r1,0,none⟩)) (.slice a n c) (vn n) (vn k) (sl r n1 (aK 2)) (vn n1) (vn k2) rg H6) (iA 3 (kN Pg X (sub fu [1,1,1,1,1,0,1,0,0,1,1,1]) K)):=by
    intro rg H6 hB
    refine tl ?_
    refine ME.of (v:=.agg ⟨[.int .i32 za,.int .i32 zb]⟩) (H:=H6) ?_ ?_
    ·obtain⟨es,g1,g2,hS⟩:=hB
     show(aj (H6.read r1 0 2) fun vs=>some (Value.agg ⟨vs⟩,H6))=_
     rw[(hS.get 1 rfl).read (o:=0) (n:=2) (Nat.le_refl 2)];rfl
    refine bC ?_
    simp only[Nat.zero_add]
    refine hB.rw' aa aa fun H7 hB=>?_
    rw[aL aa aa]
    refine au ?_
    exact nx (w +1) _ _ _ aa aa hB.drop
   have fin:∀rg H6(b:Bool),Az rg 54=.bool b→(b=true→0<w)→SB Hr r 269 2 n1 H H6 [(r1,269,[.int .i32 za,.int .i32 zb])]→aT Pg X (sub fu [1,1,1,1,1,0,1,0,0,1,1,0,0,1,0,1]) (jY (.slice a n c) (.slice none 0 0) (sl r n1 (aK 2)) x5 (vn w) (.pointer (some ⟨r1,0,none⟩)) (.slice a n c) (vn n) (vn k) (sl r n1 (aK 2)) (vn n1) (vn k2) rg H6) (kN Pg X (sub fu [1,1,1,1,1,0,1,0,0,1,1,0,0,1,1]) (iA 3 (kN Pg X (sub fu [1,1,1,1,1,0,1,0,0,1,1,1]) K))):=by
    intro rg H6 b hb hw0 hB
    refine tl ?_
    rw[hb]
    refine au ?_
    refine aA (fun hb=>?_) (fun hb=>?_)
    ·have:=hw0 hb
     refine aH ?_
     refine aH ?_
     refine bC ?_
     refine au ?_
     refine SB.rfQ hB aa aa aa fun zc=>?_
     simp only[aZ hB.wf]
     refine hB.vC 0 rfl rfl ?_
     simp only[aZ hB.wf]
     refine au ?_
     refine bC ?_
     refine au ?_
     refine SB.adS hB aa aa aa fun H7 hB2=>?_
     refine⟨by simp only[aN,aQ];kernel_rfl,?_⟩
     exact nx w _ _ _ aa aa hB2.drop
    ·exact lay _ _ hB
   refine au ?_
   refine ah (fun hd=>?_) (fun hd=>?_)
   ·refine hB.vC 0 rfl rfl ?_
    simp only[aZ hB.wf]
    refine aH ?_
    refine bC ?_
    refine au ?_
    refine SB.rfQ hB aa aa aa fun zc=>?_
    simp only[aZ hB.wf]
    refine au ?_
    refine⟨by simp only[aN];kernel_rfl,?_⟩
    exact fin _ _ _ (by simp only[lQ];rfl) (fun _=>by omega) hB
   ·refine⟨by kernel_rfl,?_⟩
    exact fin _ _ false (by simp only[lQ]) (fun h=>by cases h) hB
theorem Ux(hw:Wf H):ak Pg X 211 [] H (Q1 (fun v H'=>bf H.next 1 H' v) H):=by
 have hS:=SH.refl hw
 refine ce [0] ?_;refine tl ?_
 refine PU.of (v:=.agg ⟨[_,_]⟩) rfl ?_
 refine hS.bS rfl rfl rfl aa fun H1 r hS=>?_
 have hb:=hS.get 0 rfl
 have hlo:=hS.lo _ (List.mem_cons_self ..)
 refine rr ?_;refine⟨⟨_,1,1,_,rfl,⟨hb.fl hlo.2 rfl,fun r' o e _=>by cases e;exact⟨hS.wm (List.mem_cons_self ..),hlo.2,hb.QS⟩⟩,aa,fun x hx=>?_⟩,hS.ext⟩
 have hx:x∈[Value.int .i32 0,Value.int .i32 1114111]:=hx
 simp at hx
 rcases hx with rfl|rfl
 ·exact⟨_,rfl⟩
 ·exact⟨_,rfl⟩
end
section
variable{H0 H:ae}{L:List aC}
abbrev isRead(b:Nat)(s:ByteArray)(v:Value)(H':ae):Prop:=∃(rs:Value)(cd:Int)(at':Nat),v=.tuple ⟨[rs,.agg ⟨[vi cd,vn at']⟩]⟩∧at'≤s.size +1∧bf b s.size H' rs
theorem Tok.st{S:List Nat}{b b' lo hi:Nat}{H H':ae}{v:Value}(h:Tok b H lo hi v)(hx:kP S H H')(hS:∀q∈S,q<b∨¬qA H q 269)(hb:b'≤b):Tok b' H' lo hi v:=by
 obtain⟨kd,a,e,t,rs,h1,h2,h3,h4,h5,h6⟩:=h
 exact⟨kd,a,e,t,rs,h1,h2,h3,h4,h5,(h6.stay hx hS).le (Nat.le_refl _) hb⟩
theorem P_(hw:Wf H)(hT:rX H)(s:ByteArray)(hs:s.size≤20000):ak Pg X 180 [.string s] H (Q1 (isRead H.next s) H):=by
 have hS:=SH.refl hw
 refine ce [0,2,3,4,5,6,7,8,9,10] ?_;refine tl ?_
 refine hS.bZ fun Hn rs hS=>?_
 refine au ?_
 refine ah (fun hc=>?_) (fun hc=>?_)
 ·refine PU.b2 rfl ?_;refine hS.az ?_;refine hS.iB fun Hn hS=>?_
  refine rr ?_
  refine hS.bL ?_
  exact⟨⟨_,_,0,rfl,aa,bf.nil _ _ _⟩,hS.ext⟩
 refine lp8 2 4 5 6 7 8 9 10 (I:=fun m x2 x4 x5 x6 x7 x8 x9 aW H'=>∃(k:Nat)(ds:List Value)(gb:List aC),x2=.slice none 0 0∧x5=vn k∧k +m=s.size∧GB 269 2 x4 ds gb∧ds.length≤2*k∧Eb ds∧SH [] H H' ((rs,72,[vi 0,vi 0])::(gb++[]))) ?_ s.size ⟨0,[],[],rfl,rfl,aa,GB.nil _ _,by simp,(fun x h=>nomatch h),hS⟩
 clear hS
 rintro m x2 x4 x5 x6 x7 x8 x9 aW rg H' ⟨k,ds,gb,rfl,rfl,hk,hg,hdl,hds,hS⟩
 refine aT.i_ fun K hK=>?_
 have lay:∀(lo hi:Int)(q:Nat) x7 x8 rg H2,k<q→q≤s.size→SH [] H H2 ((rs,72,[vi 0,vi 0])::(gb++[]))→
  aT Pg X (sub qW [1,1,1,0,1,0,0,1,0,1,1,1,1]) (vF (.string s) (.slice none 0 0) (.pointer (some ⟨rs,0,none⟩)) x4 (vn k) (.int .i32 lo) x7 x8 (.int .i32 hi) (vn q) rg H2) (iA 1 K):=by
  intro lo hi q x7 x8 rg H2 h1 h2 hS
  subst hK
  refine tl ?_
  refine PU.of (v:=.agg ⟨[_,_]⟩) rfl ?_
  refine hS.bS rfl rfl rfl aa fun H3 rx hS=>?_
  have hS:SH [] H H3 ((rx,269,[.int .i32 lo,.int .i32 hi])::(gb++[(rs,72,[vi 0,vi 0])])):=hS.perm (List.Perm.cons _ (ET _ _))
  refine hg.add hS aa rfl rfl aa fun v' H3 bJ hg' hS' hx=>?_
  refine au ?_
  exact⟨s.size -q,aa,_,_,_,_,_,_,_,_,_,_,rfl,q,_,bJ,rfl,rfl,aa,hg',by simp;omega,hds.app _ _,hS'.perm (ET _ _).symm⟩
 have mid:∀(lo:Int)(sz q:Nat)(b:Bool) x8 rg H2,Az rg 44=.bool b→k<q→q≤s.size→(b=true→q +1<s.size)→SH [] H H2 ((rs,72,[vi 0,vi 0])::(gb++[]))→
  aT Pg X (sub qW [1,1,1,0,1,0,0,1,0,1,1,1,0,1]) (vF (.string s) (.slice none 0 0) (.pointer (some ⟨rs,0,none⟩)) x4 (vn k) (.int .i32 lo) (vn sz) x8 (.int .i32 lo) (vn q) rg H2) (kN Pg X (sub qW [1,1,1,0,1,0,0,1,0,1,1,1,1]) (iA 1 K)):=by
  intro lo sz q b x8 rg H2 hb h1 h2 h3 hS
  refine tl ?_
  rw[hb]
  refine au ?_
  refine aA (fun hb=>?_) (fun hb=>?_)
  ·have:=h3 hb
   rw[aL aa aa]
   refine au ?_
   rw[E7 (show(q:Int) +1=((q +1:Nat):Int) by omega)]
   refine ak.mono (E9 hS.wf (hT.ex hS.ext) s (q +1) aa aa) ?_
   rintro v H3 ⟨⟨r,n,e,rfl,h4,h5⟩,hx⟩
   have hS:=hS.call hx
   refine hS.az ?_
   refine aO (fun he=>?_) (fun he=>?_)
   ·rw[aL aa aa]
    repeat(first|(refine hS.az ?_)|(refine PU.b2 rfl ?_)|(refine hS.iB fun Hn hS=>?_))
    subst hK
    refine rr ?_
    refine hS.bL ?_
    exact⟨⟨_,_,q +1,rfl,aa,bf.nil _ _ _⟩,hS.ext⟩
   refine ah (fun hc=>?_) (fun hc=>?_)
   ·refine PU.b2 rfl ?_;refine hS.az ?_;refine hS.iB fun Hn hS=>?_
    subst hK
    refine rr ?_
    refine hS.bL ?_
    exact⟨⟨_,_,k,rfl,aa,bf.nil _ _ _⟩,hS.ext⟩
   rw[aL aa aa]
   refine hS.az ?_
   rw[aL aa aa]
   refine hS.az ?_
   rw[E7 (show(q:Int) +(1 +(n:Int))=((q +1 +n:Nat):Int) by omega)]
   exact lay _ _ _ _ _ _ _ aa aa hS
  ·exact lay _ _ _ _ _ _ _ h1 h2 hS
 refine tl ?_
 refine au ?_
 refine ah (fun hc=>?_) (fun hc=>?_)
 ·refine ak.mono (E9 hS.wf (hT.ex hS.ext) s k aa aa) ?_
  rintro v H3 ⟨⟨r,n,e,rfl,h4,h5⟩,hx⟩
  have hS:=hS.call hx
  refine hS.az ?_
  refine aO (fun he=>?_) (fun he=>?_)
  ·refine PU.b2 rfl ?_;refine hS.az ?_;refine hS.iB fun Hn hS=>?_
   subst hK
   refine rr ?_
   refine hS.bL ?_
   exact⟨⟨_,_,k,rfl,aa,bf.nil _ _ _⟩,hS.ext⟩
  have h6:=h5 aa
  rw[aL aa aa]
  refine hS.az ?_
  rw[oD aa aa]
  refine hS.az ?_
  rw[E7 (show(k:Int) +(n:Int)=((k +n:Nat):Int) by omega)]
  refine ah (fun hc=>?_) (fun hc=>?_)
  ·rw[jF aa]
   refine hS.az ?_
   exact mid _ _ _ _ _ _ _ (by simp only[lQ];rfl) aa aa (fun _=>by omega) hS
  ·exact mid _ _ _ false _ _ _ (by simp only[lQ]) aa aa (fun h=>by cases h) hS
 ·subst hK
  refine au ?_
  refine tl ?_
  have hS2:SH [] H H' (gb++[(rs,72,[vi 0,vi 0])]):=hS.perm (ET _ _)
  obtain⟨a,n,c,rfl,hn,hf⟩:=hg.fl hS2
  have hge:=hS.ext.next
  refine ak.mono (wI (KM:=s.size) hS.wf aa ⟨a,n,c,ds,rfl,hf,aa,hds⟩) ?_
  rintro v H3 ⟨hv,hx⟩
  have hlt:=hS.lt
  have hS0:=hS.call hx
  have hS:=hS0.base
  refine PU.b2 rfl ?_;refine hS.iB fun Hn hS=>?_
  refine rr ?_
  refine hS.bL ?_
  exact⟨⟨_,0,0,rfl,aa,(hv.stay hS.ext fun q hq=>.inl (hlt q hq)).le (Nat.le_refl _) hge⟩,(hS0.over hS).ext⟩
theorem LV(hw:Wf H)(hT:rX H)(s:ByteArray)(k:Nat)(hk:k<s.size)(hs:s.size≤20000):ak Pg X 145 [.string s,vn k] H (Q1 (xZ H.next s k) H):=by
 have hS:=SH.refl hw
 refine ce [0,1,4,5,6,7,8,19] ?_;refine tl ?_
 refine hS.bZ fun Hn rt hS=>?_
 refine hS.bZ fun Hn rs hS=>?_
 rw[aL aa aa]
 refine au ?_
 refine Ht 6 7 8 19 (I:=fun m x6 x7 x8 nT H'=>∃p:Nat,x6=vn p∧p +m=s.size +1∧k +1≤p∧SH [] H H' [(rs,72,[vi 0,vi 0]),(rt,128,[vi 0,vi 0,vi 0,.string (ByteArray.mk #[]),.slice none 0 0])]) ?_ (s.size -k) ⟨k +1,rfl,aa,aa,hS⟩
 clear hS
 rintro m x6 x7 x8 nT rg H' ⟨p,rfl,h1,h2,hS⟩
 refine tl ?_
 refine au ?_
 refine ah (fun hc=>?_) (fun hc=>?_)
 rotate_left
 ·refine tl ?_
  repeat(first|(refine hS.az ?_)|(refine PU.b2 rfl ?_)|(refine PU.b5 rfl ?_)|(refine hS.iB fun Hn hS=>?_))
  refine rr ?_
  repeat(refine hS.bL ?_)
  exact⟨⟨_,_,k,rfl,⟨_,0,0,_,_,rfl,_,_,_,rfl⟩,fun h=>by cases h⟩,hS.ext⟩
 rw[jF aa]
 refine au ?_
 refine ah (fun hd=>?_) (fun hd=>?_)
 ·rw[aL aa aa]
  refine au ?_
  rw[aL aa aa]
  refine au ?_
  exact⟨m -2,aa,_,_,_,_,_,_,rfl,p +2,rfl,aa,aa,hS⟩
 refine ah (fun he=>?_) (fun he=>?_)
 ·rw[aL aa aa]
  refine au ?_
  rw[show slT (.string s) (some (vi ((k:Int) +1))) (some (vn p)) none=_ from I_ (lo:=k +1) aa aa]
  refine au ?_
  have hp:=lN s (lo:=k +1) (hi:=p) aa aa
  refine ak.mono (P_ hS.wf (hT.ex hS.ext) _ aa) ?_
  rintro v H3 ⟨⟨rsv,cd,e,rfl,h3,h4⟩,hx⟩
  have hge:=hS.ext.next
  have hlt:=hS.lt
  have hS0:=hS.call hx
  have hS:=hS0.base
  refine hS.az ?_
  refine hS.bZ fun Hn rq hS=>?_
  repeat(first|(refine hS.az ?_)|(refine hS.a_ ?_)|(refine hS.iB fun Hn hS=>?_))
  refine aO (fun hz=>?_) (fun hz=>?_)
  ·refine PU.b5 rfl ?_;refine hS.iG ?_;refine hS.az ?_
   rw[aL aa aa]
   repeat(first|(refine hS.az ?_)|(refine hS.iG ?_))
   rw[aL aa aa]
   repeat(first|(refine hS.az ?_)|(refine PU.b2 rfl ?_)|(refine hS.qf fun Hn hS=>?_))
   simp only[aN,aQ]
   apply Gf (a:=rq) (b:=rs) (c:=rt) (hS.nq 0 1 rfl rfl aa) (hS.nq 0 2 rfl rfl aa) (hS.nq 1 2 rfl rfl aa) (by intros;rfl) (by kernel_rfl) (by kernel_rfl)
   refine rr ?_
   repeat(refine hS.bL ?_)
   exact⟨⟨_,cd,k +1 +e,rfl,⟨_,0,0,_,_,rfl,_,_,_,rfl⟩,fun h=>absurd h hz⟩,(hS0.over hS).ext⟩
  ·obtain⟨xa,xn,xc,xcs,rfl,h5,h6,h7⟩:=id h4
   rw[aL aa aa]
   repeat(first|(refine hS.az ?_)|(refine PU.b2 rfl ?_)|(refine PU.b5 rfl ?_)|(refine hS.iB fun Hn hS=>?_))
   refine rr ?_
   repeat(refine hS.bL ?_)
   refine⟨⟨_,0,0,rfl,⟨_,_,_,_,_,rfl,_,_,_,rfl⟩,fun _=>⟨4,k,p +1,_,_,rfl,aa,aa,aa,Nat.zero_le _,?_⟩⟩,(hS0.over hS).ext⟩
   exact(h4.stay hS.ext fun q hq=>.inl (hlt q hq)).le aa hge
 ·rw[aL aa aa]
  refine au ?_
  exact⟨m -1,aa,_,_,_,_,_,_,rfl,p +1,rfl,aa,aa,hS⟩
theorem Uy(hw:Wf H)(hT:rX H)(s:ByteArray)(k:Nat)(hk:k<s.size)(hs:s.size≤20000):ak Pg X 107 [.string s,vn k] H (Q1 (xZ H.next s k) H):=by
 have hS:=SH.refl hw
 refine ce [0,1,4,5,6,7,8] ?_;refine tl ?_
 refine hS.bZ fun Hn rt hS=>?_
 refine hS.bZ fun Hn rs hS=>?_
 rw[jF aa]
 refine au ?_
 refine ak.mono (Ah _) ?_
 rintro v H' ⟨⟨b,rfl⟩,rfl⟩
 refine au ?_
 have hge:=hS.ext.next
 have hlt:=hS.lt
 refine aA (fun hb=>?_) (fun hb=>?_)
 ·refine ak.mono (P6 hS.wf s k hk aa) ?_
  rintro v H3 ⟨⟨tok,cd,e,rfl,⟨kd,a,e',t,rsv,rfl,xa,xn,xc,rfl⟩,hto⟩,hx⟩
  have hS0:=hS.call hx
  have hS:=hS0.base
  repeat(first|(refine hS.az ?_)|(refine hS.iB fun Hn hS=>?_))
  refine rr ?_
  repeat(refine hS.bL ?_)
  exact⟨⟨_,cd,e,rfl,⟨_,_,_,_,_,rfl,_,_,_,rfl⟩,fun h=>(hto h).st hS.ext (fun q hq=>.inl (hlt q hq)) hge⟩,(hS0.over hS).ext⟩
 refine ah (fun hc=>?_) (fun hc=>?_)
 ·refine ak.mono (Gt hS.wf (hT.ex hS.ext) s k hk aa) ?_
  rintro v H3 ⟨⟨tok,cd,e,rfl,⟨kd,a,e',t,rsv,rfl,xa,xn,xc,rfl⟩,hto⟩,hx⟩
  have hS0:=hS.call hx
  have hS:=hS0.base
  repeat(first|(refine hS.az ?_)|(refine hS.iB fun Hn hS=>?_))
  refine rr ?_
  repeat(refine hS.bL ?_)
  exact⟨⟨_,cd,e,rfl,⟨_,_,_,_,_,rfl,_,_,_,rfl⟩,fun h=>(hto h).st hS.ext (fun q hq=>.inl (hlt q hq)) hge⟩,(hS0.over hS).ext⟩
 refine ah (fun hc=>?_) (fun hc=>?_)
 ·refine ak.mono (LV hS.wf (hT.ex hS.ext) s k hk aa) ?_
  rintro v H3 ⟨⟨tok,cd,e,rfl,⟨kd,a,e',t,rsv,rfl,xa,xn,xc,rfl⟩,hto⟩,hx⟩
  have hS0:=hS.call hx
  have hS:=hS0.base
  repeat(first|(refine hS.az ?_)|(refine hS.iB fun Hn hS=>?_))
  refine rr ?_
  repeat(refine hS.bL ?_)
  exact⟨⟨_,cd,e,rfl,⟨_,_,_,_,_,rfl,_,_,_,rfl⟩,fun h=>(hto h).st hS.ext (fun q hq=>.inl (hlt q hq)) hge⟩,(hS0.over hS).ext⟩
 rw[sW aa]
 refine au ?_
 have hp:=lN s (lo:=k) (hi:=s.size) aa aa
 refine ak.mono (tY _ _) ?_
 rintro v H' ⟨⟨b,rfl,hb2⟩,rfl⟩
 refine au ?_
 refine aA (fun hb=>?_) (fun hb=>?_)
 ·have hl:2≤(Go.Ae.part s k s.size).size:=by
   obtain⟨r,hr⟩:=hb2 hb
   have h:=congrArg List.length hr
   have e1:(Go.Ae.part s k s.size).data.toList.length=(Go.Ae.part s k s.size).size:=rfl
   rw[e1,List.length_append]at h
   have e2:(ByteArray.mk #[45,62]).data.toList.length=2:=rfl
   omega
  rw[aL aa aa]
  repeat(first|(refine hS.az ?_)|(refine PU.b2 rfl ?_)|(refine PU.b5 rfl ?_)|(refine hS.iB fun Hn hS=>?_))
  refine rr ?_
  repeat(refine hS.bL ?_)
  exact⟨⟨_,0,0,rfl,⟨_,_,_,_,_,rfl,_,_,_,rfl⟩,fun _=>⟨15,k,k +2,_,_,rfl,aa,aa,aa,Nat.zero_le _,bf.nil _ _ _⟩⟩,hS.ext⟩
 refine ak.mono (zl _) ?_
 rintro v H' ⟨⟨kd,b,rfl⟩,rfl⟩
 refine hS.az ?_
 cases b with
 |false=>
  refine(show∀{A B:Prop},A→vB (some !false) A B from fun h=>h) ?_
  repeat(first|(refine hS.az ?_)|(refine PU.b2 rfl ?_)|(refine PU.b5 rfl ?_)|(refine hS.iB fun Hn hS=>?_))
  refine rr ?_
  repeat(refine hS.bL ?_)
  exact⟨⟨_,_,k,rfl,⟨_,0,0,_,_,rfl,_,_,_,rfl⟩,fun h=>by cases h⟩,hS.ext⟩
 |true=>
  refine(show∀{A B:Prop},B→vB (some !true) A B from fun h=>h) ?_
  rw[aL aa aa]
  repeat(first|(refine hS.az ?_)|(refine PU.b2 rfl ?_)|(refine PU.b5 rfl ?_)|(refine hS.iB fun Hn hS=>?_))
  refine rr ?_
  repeat(refine hS.bL ?_)
  exact⟨⟨_,0,0,rfl,⟨_,_,_,_,_,rfl,_,_,_,rfl⟩,fun _=>⟨kd,k,k +1,_,_,rfl,aa,aa,aa,Nat.zero_le _,bf.nil _ _ _⟩⟩,hS.ext⟩
def Tk(b:Nat)(H:ae)(l:List Value):Prop:=∃(kd:Int)(a e:Nat)(t:ByteArray)(rs:Value),l=[vi kd,vn a,vn e,.string t,rs]∧a≤20000∧t.size≤1000000∧bf b 20000 H rs
theorem Tk.st{S:List Nat}{b b':Nat}{H H':ae}{l:List Value}(h:Tk b H l)(hx:kP S H H')(hS:∀q∈S,q<b∨¬qA H q 269)(hb:b'≤b):Tk b' H' l:=by
 obtain⟨kd,a,e,t,rs,h1,h2,h3,h4⟩:=h
 exact⟨kd,a,e,t,rs,h1,h2,h3,(h4.stay hx hS).le (Nat.le_refl _) hb⟩
def LW(b:Nat)(H:ae)(a:Option Addr)(n:Nat)(cs:List Value):Prop:=eO (b≤·) 128 H a n 5 cs∧1≤n∧n≤20001∧(∀i,i<n→Tk b H (El cs 5 i))∧cs[(n -1)*5]?=some (vi 0)
theorem LW.st{S:List Nat}{b b':Nat}{H H':ae}{a:Option Addr}{n:Nat}{cs:List Value}(h:LW b H a n cs)(hx:kP S H H')(hS:∀q∈S,q<b∨¬qA H q 269∧¬qA H q 128)(hb:b'≤b):LW b' H' a n cs:=
 ⟨(h.1.stay hx fun q hq=>(hS q hq).imp Nat.not_le_of_lt (·.2)).le hb,h.2.1,h.2.2.1,fun i hi=>(h.2.2.2.1 i hi).st hx (fun q hq=>(hS q hq).imp_right (·.1)) hb,h.2.2.2.2⟩
abbrev aat(b:Nat)(v:Value)(H':ae):Prop:=∃(ts:Value)(cd e:Int),v=.tuple ⟨[ts,.agg ⟨[vi cd,vi e]⟩]⟩∧(ts=.slice none 0 0∨∃a n c,ts=.slice (some a) n c)∧(cd=0→∃a n c cs,ts=.slice a n c∧LW b H' a n cs)
theorem zo{cs xs:List Value}{es n:Nat}(hl:cs.length=n*es)(hx:xs.length=es):(∀i,i<n→El (cs++xs) es i=El cs es i)∧El (cs++xs) es n=xs:=by
 constructor
 ·intro i hi
  have h1:(i +1)*es≤n*es:=Nat.mul_le_mul_right es hi
  rw[Nat.add_mul]at h1
  apply List.ext_getElem?
  intro j
  rw[jv,jv]
  split
  ·rw[List.getElem?_append_left aa]
  ·rfl
 ·unfold El
  rw[←hl,List.drop_left,List.take_of_length_le aa]
theorem JC(hw:Wf H)(hT:rX H)(s:ByteArray):ak Pg X 70 [.string s] H (Q1 (aat H.next) H):=by
 have hS:=SH.refl hw
 refine ce [0,2,3,4,5,6,7] ?_;refine tl ?_
 refine hS.bZ fun Hn rs hS=>?_
 refine au ?_
 refine ah (fun hc=>?_) (fun hc=>?_)
 ·refine PU.b2 rfl ?_;refine hS.az ?_;refine hS.iB fun Hn hS=>?_
  refine rr ?_
  refine hS.bL ?_
  exact⟨⟨_,3,0,rfl,.inl rfl,fun h=>by cases h⟩,hS.ext⟩
 have hs:s.size≤20000:=by omega
 refine ak.mono (qo s 0 aa aa) ?_
 rintro v H' ⟨⟨k,rfl,hk0,hk1⟩,rfl⟩
 refine VP 2 4 5 6 7 (I:=fun m x2 x4 x5 x6 x7 H'=>∃(k n:Nat)(cs:List Value)(gb:List aC),x2=.slice none 0 0∧x5=vn k∧k +m=s.size∧GB 128 5 x4 cs gb∧cs.length=n*5∧n≤k∧(∀i,i<n→Tk H.next H' (El cs 5 i))∧SH [] H H' ((rs,72,[vi 0,vi 0])::(gb++[]))) ?_ (s.size -k) ⟨k,0,[],[],rfl,rfl,aa,GB.nil _ _,rfl,aa,(fun i h=>absurd h aa),hS⟩
 clear hS
 rintro m x2 x4 x5 x6 x7 rg H' ⟨k,n,cs,gb,rfl,rfl,hk,hg,hcl,hnk,htk,hS⟩
 refine tl ?_
 refine au ?_
 have hge:=hS.ext.next
 refine ah (fun hc=>?_) (fun hc=>?_)
 rotate_left
 ·refine tl ?_
  refine au ?_
  refine PU.b5 rfl ?_
  have htn:=hS.PR (ty:=269) (by simp[hg.all])
  have hS0:=hS
  have hS:=hS0.base
  refine hS.bS rfl rfl rfl aa fun H1 rx hS=>?_
  have hS:SH _ H' H1 ((rx,128,[vi 0,vn s.size,vn s.size,.string (ByteArray.mk #[]),.slice none 0 0])::(gb++[(rs,72,[vi 0,vi 0])])):=hS.perm (List.Perm.cons _ (ET _ _))
  refine hg.add hS aa rfl rfl aa fun v' H3 bJ hg' hS' hx=>?_
  have hE:=zo (es:=5) (n:=n) hcl (xs:=[vi 0,vn s.size,vn s.size,.string (ByteArray.mk #[]),.slice none 0 0]) rfl
  have hS:=hS'.perm (List.perm_append_comm (l₂:=[_]))
  simp only[List.cons_append,List.nil_append]at hS
  refine hS.az ?_;refine PU.b2 rfl ?_;refine hS.iB fun Hn hS=>?_
  have hS2:=(hS0.over hS).perm (List.Perm.symm (List.perm_append_comm (l₂:=[_])))
  obtain⟨a,n',c,rfl,hn',hf⟩:=hg'.QT hS2
  have hn1:n'=n +1:=by rw[List.length_append,hcl]at hn';simp at hn';omega
  subst hn1
  refine rr ?_
  refine hS.bL ?_
  refine⟨⟨_,0,0,rfl,?_,fun _=>⟨a,n +1,c,_,rfl,hf,aa,aa,?_,?_⟩⟩,hS2.ext⟩
  ·cases a with
   |none=>
    obtain⟨_,_,h,_⟩:=hf.1.2 0 _ (List.getElem?_eq_getElem (by rw[hf.1.1];omega))
    cases h
   |some a=>exact .inr ⟨a,_,_,rfl⟩
  ·intro i hi
   rcases Nat.lt_or_ge i n with h|h
   ·rw[hE.1 i h]
    exact(htk i h).st hS.ext (fun q hq=>.inr (htn q hq)) (Nat.le_refl _)
   ·have:i=n:=by omega
    subst this
    rw[hE.2]
    exact⟨0,s.size,s.size,_,_,rfl,hs,Nat.zero_le _,bf.nil _ _ _⟩
  ·rw[Nat.add_sub_cancel,←hcl,List.getElem?_append_right (Nat.le_refl _),Nat.sub_self];rfl
 refine ak.mono (Uy hS.wf (hT.ex hS.ext) s k aa hs) ?_
 rintro v H3 ⟨⟨tok,cd,e,rfl,⟨kd,a,e',t,rsv,rfl,xa,xn,xc,rfl⟩,hto⟩,hx⟩
 have htn:=hS.PR (ty:=269) (by simp[hg.all])
 have hlt:=hS.lt
 have hS0:=hS.call hx
 have hS:=hS0.base
 refine hS.az ?_
 refine hS.bZ fun Hn r8 hS=>?_
 refine hS.bZ fun Hn r10 hS=>?_
 repeat(first|(refine hS.az ?_)|(refine hS.a_ ?_)|(refine hS.iB fun Hn hS=>?_))
 refine aO (fun hz=>?_) (fun hz=>?_)
 ·refine hS.mW ?_;refine hS.az ?_;refine hS.qf fun Hn hS=>?_
  simp only[aN,aQ]
  apply oG (a:=r10) (b:=rs) (hS.nq 0 2 rfl rfl aa) (by intros;rfl) (by kernel_rfl) (by kernel_rfl)
  refine rr ?_
  refine hS.bL ?_
  exact⟨⟨_,cd,e,rfl,.inl rfl,fun h=>absurd h hz⟩,(hS0.over hS).ext⟩
 obtain⟨kd',a',e2,t',rs',he,h3,h4,h5,h6,h7⟩:=hto hz
 simp only[Value.agg.injEq,Array.mk.injEq,List.cons.injEq,and_true]at he
 obtain⟨e_1,e_2,e_3,e_4,e_5⟩:=he
 have:e'=e2:=by injection e_3 with _ h;omega
 subst this
 have:a=a':=by injection e_2 with _ h;omega
 subst this
 have:t=t':=by injection e_4
 subst this
 subst e_5
 refine hS.bL ?_
 refine hS.bS rfl rfl rfl aa fun H4 rx hS=>?_
 have hS:=hS.to (cs':=[vi kd,vn a,vn e',.string t,.slice xa xn xc]) rfl
 have hS:=hS.perm (L':=(rx,128,[vi kd,vn a,vn e',.string t,.slice xa xn xc])::(gb++[_,_,_])) (List.Perm.cons _ (abD _ _ _ _))
 refine hg.add hS aa rfl rfl aa fun v' H5 bJ hg' hS' hx'=>?_
 have hE:=zo (es:=5) (n:=n) hcl (xs:=[vi kd,vn a,vn e',.string t,.slice xa xn xc]) rfl
 have hS:=hS'.perm (List.perm_append_comm (l₂:=[_,_,_]))
 simp only[List.cons_append,List.nil_append]at hS
 refine hS.a_ ?_
 refine ak.mono (qo s e' aa aa) ?_
 rintro v H' ⟨⟨k2,rfl,hk2,hk3⟩,rfl⟩
 have hS2:=(hS0.over hS)
 refine⟨s.size -k2,aa,_,_,_,_,_,_,_,rfl,k2,n +1,_,bJ,rfl,rfl,aa,hg',by rw[List.length_append,hcl];simp;omega,aa,?_,?_⟩
 ·intro i hi
  rcases Nat.lt_or_ge i n with h|h
  ·rw[hE.1 i h]
   exact((htk i h).st hx (fun q h=>nomatch h) (Nat.le_refl _)).st hS.ext (fun q hq=>.inr fun ht=>htn q hq (ht.dL (hx.obj q (hlt q hq) (by simp)).symm)) (Nat.le_refl _)
  ·have:i=n:=by omega
   subst this
   rw[hE.2]
   exact⟨kd,a,e',t,_,rfl,aa,h6,(h7.stay hS.ext fun q hq=>.inl (hlt q hq)).le (Nat.le_refl _) hge⟩
 ·exact SH.drop (A:=[_,_]) (by simpa using hS2)
end
section
variable{H0 H:ae}{L M:List aC}{S:List Nat}{F:Nat→Prop}
abbrev pr(r:Nat):Value:=.pointer (some ⟨r,0,none⟩)
structure RC where
 (rt ra rp rr:Nat)(a:Option Addr)(n c:Nat)(cs:List Value)(nu:Nat)
abbrev gJ(rt ra:Nat):Value:=.func (.func 71) ⟨[]⟩ ⟨[pr rt,pr ra]⟩
abbrev mY(rp ra rt:Nat):Value:=.func (.func 72) ⟨[]⟩ ⟨[pr rp,pr ra,pr rt]⟩
def RuC(l:List Value):Prop:=∃(nm:ByteArray)(u f w:Bool)(ch root at':Int),l=[.string nm,.bool u,.bool f,.bool w,vi ch,vi root,vi at']∧nm.size≤1000000
def VU(F:Nat→Prop)(H:ae)(l:List Value):Prop:=∃(kd:Int)(a:Option Addr)(n c:Nat)(ks:List Value)(t:ByteArray)(rs:Value)(at':Int),l=[vi kd,.slice a n c,.string t,rs,vi at']∧eO F 3 H a n 1 ks∧n≤20001∧(∀x∈ks,∃z:Int,x=vi z)∧t.size≤1000000∧bf 0 20001 H rs
theorem VU.st{S:List Nat}{F:Nat→Prop}{H H':ae}{l:List Value}(h:VU F H l)(hx:kP S H H')(hS:∀q∈S,(¬F q∨¬qA H q 3)∧¬qA H q 269):VU F H' l:=by
 obtain⟨kd,a,n,c,ks,t,rs,at',h1,h2,h3,h4,h5,h6⟩:=h
 exact⟨kd,a,n,c,ks,t,rs,at',h1,h2.stay hx (fun q hq=>(hS q hq).1),h3,h4,h5,h6.stay hx fun q hq=>.inr (hS q hq).2⟩
def Rd(F:Nat→Prop)(q:RC)(k:Nat)(H:ae)(M:List aC):Prop:=∃rv rcs gr nv bY gn sc sa nr nn,
 M=(q.rt,122,[.slice q.a q.n q.c])::(q.ra,3,[vn k])::(q.rp,129,[gJ q.rt q.ra])::(q.rr,133,[gJ q.rt q.ra,mY q.rp q.ra q.rt,rv,nv,vi sc,vi sa])::(gr++gn)∧
 k<q.n∧LW 0 H q.a q.n q.cs∧GB 141 7 rv rcs gr∧rcs.length=nr*7∧nr=q.nu∧(∀i,i<nr→RuC (El rcs 7 i))∧GB 145 5 nv bY gn∧bY.length=nn*5∧nn≤4000∧(∀i,i<nn→VU F H (El bY 5 i))∧¬F q.ra
theorem Rd.le{q:RC}{k:Nat}(h:Rd F q k H M):k<q.n∧q.n≤20001:=by
 obtain⟨rv,rcs,gr,nv,bY,gn,sc,sa,nr,nn,_,h1,h2,_⟩:=h
 exact⟨h1,h2.2.2.1⟩
theorem VU.wk{F':Nat→Prop}{l:List Value}(h:VU F H l)(hF:∀r,r<H.next→F r→F' r):VU F' H l:=by
 obtain⟨kd,a,n,c,ks,t,rs,at',h1,h2,h3⟩:=h
 exact⟨kd,a,n,c,ks,t,rs,at',h1,⟨h2.1,fun r o e hn=>by obtain⟨g1,g2,g3⟩:=h2.2 r o e hn;exact⟨hF r g2 g1,g2,g3⟩⟩,h3⟩
theorem Rd.wk{F':Nat→Prop}{q:RC}{k:Nat}(h:Rd F q k H M)(hF:∀r,r<H.next→F r→F' r)(ha:¬F' q.ra):Rd F' q k H M:=by
 obtain⟨rv,rcs,gr,nv,bY,gn,sc,sa,nr,nn,h0,h1,h2,h3,h4,h5,h6,h7,h8,h9,h10,rY⟩:=h
 exact⟨rv,rcs,gr,nv,bY,gn,sc,sa,nr,nn,h0,h1,h2,h3,h4,h5,h6,h7,h8,h9,fun i hi=>(h10 i hi).wk hF,ha⟩
theorem Rd.ex{q:RC}{k:Nat}{H':ae}(h:Rd F q k H M)(hx:Ext H H'):Rd F q k H' M:=by
 obtain⟨rv,rcs,gr,nv,bY,gn,sc,sa,nr,nn,h0,h1,h2,h3,h4,h5,h6,h7,h8,h9,h10,rY⟩:=h
 exact⟨rv,rcs,gr,nv,bY,gn,sc,sa,nr,nn,h0,h1,h2.st hx (fun _ h=>nomatch h) (Nat.le_refl _),h3,h4,h5,h6,h7,h8,h9,fun i hi=>(h10 i hi).st hx (fun _ h=>nomatch h),rY⟩
theorem Rd.ty{q:RC}{k:Nat}(h:Rd F q k H M)(hS:SH S H0 H (M++L)):∀r∈M.map (·.1),(r=q.ra∨¬qA H r 3)∧¬qA H r 269∧¬qA H r 128:=by
 obtain⟨rv,rcs,gr,nv,bY,gn,sc,sa,nr,nn,rfl,h1,h2,h3,h4,h5,h6,h7,h8,h9,h10,rY⟩:=h
 intro r hr
 obtain⟨e,he,rfl⟩:=List.mem_map.1 hr
 have hb:=(hS.bk e (List.mem_append_left _ he)).QS
 have key:e.1=q.ra∨(e.2.1≠3∧e.2.1≠269∧e.2.1≠128)∨e.2.1=3∧e.1=q.ra:=by
  simp only[List.mem_cons,List.mem_append]at he
  rcases he with rfl|rfl|rfl|rfl|he|he
  ·exact .inr (.inl ⟨(show(122:Nat)≠3 by decide),(show(122:Nat)≠269 by decide),(show(122:Nat)≠128 by decide)⟩)
  ·exact .inl rfl
  ·exact .inr (.inl ⟨(show(129:Nat)≠3 by decide),(show(129:Nat)≠269 by decide),(show(129:Nat)≠128 by decide)⟩)
  ·exact .inr (.inl ⟨(show(133:Nat)≠3 by decide),(show(133:Nat)≠269 by decide),(show(133:Nat)≠128 by decide)⟩)
  ·refine .inr (.inl ?_)
   rcases h3 with⟨_,_,rfl⟩|⟨_,_,_,_,_,rfl⟩
   ·cases he
   ·rw[List.mem_singleton]at he;subst he;exact⟨(show(141:Nat)≠3 by decide),(show(141:Nat)≠269 by decide),(show(141:Nat)≠128 by decide)⟩
  ·refine .inr (.inl ?_)
   rcases h7 with⟨_,_,rfl⟩|⟨_,_,_,_,_,rfl⟩
   ·cases he
   ·rw[List.mem_singleton]at he;subst he;exact⟨(show(145:Nat)≠3 by decide),(show(145:Nat)≠269 by decide),(show(145:Nat)≠128 by decide)⟩
 have ra3:e.1=q.ra→e.2.1=3:=by
  intro e1
  have hra:qA H q.ra 3:=(hS.bk (q.ra,3,[vn k]) (List.mem_append_left _ (by simp))).QS
  rw[e1]at hb
  exact hb.one hra
 have far:e.1=q.ra→¬qA H e.1 269∧¬qA H e.1 128:=fun h=>by
  rw[ra3 h]at hb
  exact⟨fun ht=>(by have:=hb.one ht;cases this),fun ht=>(by have:=hb.one ht;cases this)⟩
 rcases key with h|⟨h,h',h''⟩|⟨_,h⟩
 ·exact⟨.inl h,far h⟩
 ·exact⟨.inr fun ht=>h (hb.one ht),fun ht=>h' (hb.one ht),fun ht=>h'' (hb.one ht)⟩
 ·exact⟨.inl h,far h⟩
theorem Rd.on{q:RC}{k:Nat}{H':ae}(h:Rd F q k H M)(hS:SH S H0 H (M++L))(hx:kP (M.map (·.1)) H H'):Rd F q k H' M:=by
 have hty:=h.ty hS
 obtain⟨rv,rcs,gr,nv,bY,gn,sc,sa,nr,nn,h0,h1,h2,h3,h4,h5,h6,h7,h8,h9,h10,rY⟩:=h
 exact⟨rv,rcs,gr,nv,bY,gn,sc,sa,nr,nn,h0,h1,h2.st hx (fun r hr=>.inr (hty r hr).2) (Nat.le_refl _),h3,h4,h5,h6,h7,h8,h9,fun i hi=>(h10 i hi).st hx fun r hr=>⟨(hty r hr).1.imp_left (fun e=>by rw[e];exact rY),(hty r hr).2.1⟩,rY⟩
theorem LW.get{b:Nat}{a:Option Addr}{n:Nat}{cs:List Value}(h:LW b H a n cs){i:Nat}(hi:i<n):∃(kd:Int)(at' e:Nat)(t:ByteArray)(xa:Option Addr)(xn xc:Nat),El cs 5 i=[vi kd,vn at',vn e,.string t,.slice xa xn xc]∧at'≤20000∧t.size≤1000000∧bf b 20000 H (.slice xa xn xc)∧(i=n -1→kd=0):=by
 obtain⟨kd,at',e,t,rs,h1,h2,h3,h4⟩:=h.2.2.2.1 i hi
 obtain⟨xa,xn,xc,xcs,rfl,h5⟩:=id h4
 refine⟨kd,at',e,t,xa,xn,xc,h1,h2,h3,h4,fun e'=>?_⟩
 subst e'
 have h6:=h.2.2.2.2
 have h7:=jv cs 5 (n -1) 0
 rw[if_pos aa,h1,Nat.add_zero,h6]at h7
 simpa using Option.some.inj h7
theorem Uz{q:RC}{k:Nat}(hR:Rd F q k H M)(hS:SH S H0 H (M++L))(j:Nat)(hj:j≤1000):ak Pg X 71 [vn j,pr q.rt,pr q.ra] H (Q1 (fun v _=>v=.agg ⟨El q.cs 5 (min (k +j) (q.n -1))⟩) H):=by
 have hkn:=hR.le
 obtain⟨rv,rcs,gr,nv,bY,gn,sc,sa,nr,nn,rfl,h1,h2,_⟩:=hR
 have bt:=hS.get 0 rfl
 have ba:=hS.get 1 rfl
 have lt:=(hS.lo _ (List.mem_of_getElem? (i:=0) rfl)).2
 have la:=(hS.lo _ (List.mem_of_getElem? (i:=1) rfl)).2
 have hS:=SH.refl hS.wf
 refine ce [0,1,2,4] ?_;refine tl ?_
 refine hS.bZ fun Hn rb hS=>?_
 refine hS.wo (bt.cell (o:=0) rfl) lt ?_
 refine hS.wo (ba.cell (o:=0) rfl) la ?_
 refine ay ?_
 refine hS.wo (bt.cell (o:=0) rfl) lt ?_
 refine au ?_
 refine aH ?_
 refine au ?_
 rw[show min ((k:Int) +(j:Int)) ((q.n:Int) -1)=((min (k +j) (q.n -1):Nat):Int) by omega]
 obtain⟨r,o,e,hr,hrd,hel,o0,_⟩:=h2.1.1.read aa (show min (k +j) (q.n -1)<q.n by omega) q.c
 rw[e]
 refine au ?_
 obtain⟨kd,at',e',t,xa,xn,xc,he,_⟩:=h2.get (i:=min (k +j) (q.n -1)) aa
 rw[he]at hrd
 rw[he]
 refine hS.mM hrd hr ?_
 refine hS.iB fun Hn hS=>?_
 refine rr ?_
 refine hS.bL ?_
 exact⟨rfl,hS.ext⟩
theorem Rd.GG{q:RC}{k:Nat}(hR:Rd F q k H M)(hS:SH S H0 H (M++L))(j:Nat)(hj:j≤1000){K:Value→Value→ae→Prop}
 (h:∀H',Rd F q k H' M→SH S H0 H' (M++L)→Ext H H'→K (gJ q.rt q.ra) (.agg ⟨El q.cs 5 (min (k +j) (q.n -1))⟩) H'):ME (lM none (.pointer (some ⟨q.rr,0,none⟩)) H) fun v H1=>eG Pg X (Dy v) [vn j] H1 (K v):=by
 have hR0:=hR
 obtain⟨rv,rcs,gr,nv,bY,gn,sc,sa,nr,nn,rfl,_⟩:=hR
 refine hS.ld 3 rfl rfl ?_
 show ak Pg X 71 [vn j,pr q.rt,pr q.ra] H (K _)
 refine ak.mono (Uz hR0 hS j hj) ?_
 rintro v H' ⟨rfl,hx⟩
 exact h H' (hR0.ex hx) (hS.call hx) hx
theorem acK{q:RC}{k:Nat}(hR:Rd F q k H M)(hS:SH S H0 H (M++L)):ak Pg X 72 [pr q.rp,pr q.ra,pr q.rt] H fun v H'=>v=.agg ⟨El q.cs 5 k⟩∧∃M',Rd F q (min (k +1) (q.n -1)) H' M'∧SH (M.map (·.1)) H H' M':=by
 have hkn:=hR.le
 have hR0:=hR
 have hS0:=hS
 have hS:=hS.own
 obtain⟨rv,rcs,gr,nv,bY,gn,sc,sa,nr,nn,rfl,h1,h2,h3,h4,h5,h6,h7,h8,h9,h10,rY⟩:=hR
 obtain⟨kd,at',e',t,xa,xn,xc,he,_⟩:=h2.get (i:=k) h1
 refine ce [0,1,2,3,4] ?_;refine tl ?_
 refine hS.bZ fun H1 rb hS=>?_
 refine hS.a_ ?_
 show ak Pg X 71 [vn 0,pr q.rt,pr q.ra] H1 _
 have hS':=hS.perm (List.perm_append_comm (l₁:=[_]))
 refine ak.mono (Uz (hR0.on hS0 hS.ext) hS' 0 aa) ?_
 rintro v H2 ⟨rfl,hx⟩
 rw[show min (k +0) (q.n -1)=k by omega,he]
 have hS:=hS.call hx
 refine hS.bZ fun H1 r8 hS=>?_
 refine hS.iB fun Hn hS=>?_;refine hS.a_ ?_
 rw[aL aa aa]
 repeat(first|(refine hS.az ?_)|(refine hS.a_ ?_))
 rw[oD aa aa]
 repeat(first|(refine hS.az ?_)|(refine hS.bL ?_)|(refine hS.iB fun Hn hS=>?_))
 rw[show min ((k:Int) +1) ((q.n:Int) -1)=((min (k +1) (q.n -1):Nat):Int) by omega]at hS
 refine rr ?_
 refine hS.az ?_;refine hS.bL ?_
 refine⟨rfl,(q.rt,122,[.slice q.a q.n q.c])::(q.ra,3,[vn (min (k +1) (q.n -1))])::(q.rp,129,[gJ q.rt q.ra])::(q.rr,133,[gJ q.rt q.ra,mY q.rp q.ra q.rt,rv,nv,vi sc,vi sa])::(gr++gn),?_,SH.drop (A:=[_,_]) hS⟩
 have pq:=hR0.on hS0 hS.ext
 obtain⟨rv',acL,gr',nv',acM,gn',sc',sa',nr',nn',e0,g1,g2,_⟩:=pq
 refine⟨rv,rcs,gr,nv,bY,gn,sc,sa,nr,nn,rfl,aa,g2,h3,h4,h5,h6,h7,h8,h9,fun i hi=>(h10 i hi).st hS.ext fun r hr=>?_,rY⟩
 have:=hR0.ty hS0 r hr
 exact⟨this.1.imp_left (fun e=>by rw[e];exact rY),this.2.1⟩
theorem Rd.next{q:RC}{k:Nat}(hR:Rd F q k H M)(hS:SH S H0 H (M++L)){K:Value→Value→ae→Prop}
 (h:∀H' M',Rd F q (min (k +1) (q.n -1)) H' M'→SH S H0 H' (M'++L)→SH (M.map (·.1)) H H' M'→K (mY q.rp q.ra q.rt) (.agg ⟨El q.cs 5 k⟩) H'):ME (lM none (.pointer (some ⟨q.rr,1,none⟩)) H) fun v H1=>eG Pg X (Dy v) [] H1 (K v):=by
 have hR0:=hR
 obtain⟨rv,rcs,gr,nv,bY,gn,sc,sa,nr,nn,rfl,_⟩:=hR
 refine hS.ld 3 rfl rfl ?_
 show ak Pg X 72 [pr q.rp,pr q.ra,pr q.rt] H (K _)
 refine ak.mono (acK hR0 hS) ?_
 rintro v H' ⟨rfl,M',hR',hS'⟩
 exact h H' M' hR' (hS.frame hS') hS'
theorem qw{q:RC}{k:Nat}(hR:Rd F q k H M)(hS:SH S H0 H (M++L))(cd at':Int):ak Pg X 110 [pr q.rr,vi cd,vi at'] H fun v H'=>v=.bool false∧∃M',Rd F q k H' M'∧SH (M.map (·.1)) H H' M':=by
 have hR0:=hR
 have hS0:=hS
 have hS:=hS.own
 obtain⟨rv,rcs,gr,nv,bY,gn,sc,sa,nr,nn,rfl,h1,h2,h3,h4,h5,h6,h7,h8,h9,h10,rY⟩:=hR
 refine ce [0,1,2,6] ?_;refine tl ?_
 repeat(first|(refine hS.az ?_)|(refine PU.b2 rfl ?_)|(refine hS.iB fun Hn hS=>?_))
 refine rr ?_;refine⟨rfl,(q.rt,122,[.slice q.a q.n q.c])::(q.ra,3,[vn k])::(q.rp,129,[gJ q.rt q.ra])::(q.rr,133,[gJ q.rt q.ra,mY q.rp q.ra q.rt,rv,nv,vi cd,vi at'])::(gr++gn),?_,hS⟩
 have pq:=hR0.on hS0 hS.ext
 obtain⟨rv',acL,gr',nv',acM,gn',sc',sa',nr',nn',e0,g1,g2,_⟩:=pq
 refine⟨rv,rcs,gr,nv,bY,gn,cd,at',nr,nn,rfl,h1,g2,h3,h4,h5,h6,h7,h8,h9,fun i hi=>(h10 i hi).st hS.ext fun r hr=>?_,rY⟩
 have:=hR0.ty hS0 r hr
 exact⟨this.1.imp_left (fun e=>by rw[e];exact rY),this.2.1⟩
theorem Da{q:RC}{k:Nat}(hR:Rd F q k H M)(hS:SH S H0 H (M++L)):ak Pg X 109 [pr q.rr] H fun v H'=>v=.bool false∧∃M',Rd F q k H' M'∧SH (M.map (·.1)) H H' M':=by
 have hkn:=hR.le
 have hS0:=hS
 have hS:=hS.own
 refine ce [0,2,3] ?_;refine tl ?_
 refine au ?_
 have hS1:SH (M.map (·.1)) H H (M++[]):=by rw[List.append_nil];exact hS
 refine hR.GG hS1 0 aa fun H1 pq hS1 hx1=>?_
 obtain⟨kd,at',e',t,xa,xn,xc,he,_⟩:∃(kd:Int)(at' e:Nat)(t:ByteArray)(xa:Option Addr)(xn xc:Nat),El q.cs 5 (min (k +0) (q.n -1))=[vi kd,vn at',vn e,.string t,.slice xa xn xc]∧True:=by
  obtain⟨_,_,_,_,_,_,_,_,_,_,_,_,h2,_⟩:=hR
  obtain⟨kd,at',e',t,xa,xn,xc,he,_⟩:=h2.get (i:=min (k +0) (q.n -1)) aa
  exact⟨kd,at',e',t,xa,xn,xc,he,trivial⟩
 rw[he]
 have hS:=hS1.perm List.perm_append_comm
 simp only[List.nil_append]at hS
 refine hS.bZ fun H2 rb hS=>?_
 repeat(first|(refine hS.az ?_)|(refine hS.a_ ?_)|(refine hS.iB fun Hn hS=>?_))
 have hx2:=hS.ext
 have hS2:=hS.perm (List.perm_append_comm (l₁:=[_]))
 have hR2:=hR.on hS0 hx2
 refine ah (fun hc=>?_) (fun hc=>?_)
 ·refine hS.a_ ?_
  refine ak.mono (qw hR2 hS2 _ _) ?_
  rintro v H3 ⟨rfl,M',wJ,kH⟩
  refine rr ?_;refine⟨rfl,M',wJ,?_⟩
  exact SH.drop (A:=[_]) ((hS2.frame kH).perm List.perm_append_comm)
 ·refine hS.a_ ?_
  refine ak.mono (qw hR2 hS2 _ _) ?_
  rintro v H3 ⟨rfl,M',wJ,kH⟩
  refine rr ?_;refine⟨rfl,M',wJ,?_⟩
  exact SH.drop (A:=[_]) ((hS2.frame kH).perm List.perm_append_comm)
end
section
variable{H0 H:ae}{L M:List aC}{S:List Nat}{F:Nat→Prop}
theorem Rd.tok{q:RC}{k i:Nat}(hR:Rd F q k H M)(hi:i<q.n):∃(kd:Int)(at' e:Nat)(t:ByteArray)(xa:Option Addr)(xn xc:Nat),El q.cs 5 i=[vi kd,vn at',vn e,.string t,.slice xa xn xc]∧at'≤20000∧t.size≤1000000∧bf 0 20000 H (.slice xa xn xc)∧(i=q.n -1→kd=0):=by
 obtain⟨_,_,_,_,_,_,_,_,_,_,_,_,h2,_⟩:=hR
 exact h2.get hi
theorem wK(x:Value)(l:List Value):aab none 0 (.agg ⟨x::l⟩)=some x:=rfl
theorem LX(x y:Value)(l:List Value):aab none 1 (.agg ⟨x::y::l⟩)=some y:=rfl
theorem zq{q:RC}{k:Nat}(hR:Rd F q k H M)(hS:SH S H0 H (M++L))(kd:Int)(hkd:kd≠0):ak Pg X 111 [pr q.rr,vi kd] H fun v H'=>∃(b:Bool)(k':Nat)(M':List aC),v=.bool b∧Rd F q k' H' M'∧SH (M.map (·.1)) H H' M'∧k≤k'∧(b=true→k'=k +1):=by
 have hkn:=hR.le
 have hS0:=hS
 have hS:=hS.own
 refine ce [0,1,4] ?_;refine tl ?_
 refine au ?_
 have hS1:SH (M.map (·.1)) H H (M++[]):=by rw[List.append_nil];exact hS
 refine hR.GG hS1 0 aa fun H1 pq hS1 hx1=>?_
 rw[show min (k +0) (q.n -1)=k by omega]
 obtain⟨kd',at',e',t,xa,xn,xc,he,_,_,_,hz⟩:=pq.tok hkn.1
 rw[he,wK]
 refine au ?_
 refine aO (fun hc=>?_) (fun hc=>?_)
 ·refine ak.mono (Da pq hS1) ?_
  rintro v H3 ⟨rfl,M',wJ,kH⟩
  refine rr ?_;refine⟨false,k,M',rfl,wJ,?_,Nat.le_refl _,fun h=>by cases h⟩
  have:=hS1.frame kH
  rwa [List.append_nil]at this
 ·refine pq.next hS1 fun H2 M' hR2 hS2 hx2=>?_
  refine rr ?_;refine⟨true,_,M',rfl,hR2,?_,aa,fun _=>?_⟩
  ·rwa [List.append_nil]at hS2
  ·have:k≠q.n -1:=fun h=>hkd (by rw[←hc];exact hz h)
   omega
theorem wL(hw:Wf H)(kd:Int)(a e:Value)(t x:Value)(h:ko (.agg ⟨[vi kd,a,e,t,x]⟩)=true):ak Pg X 108 [.agg ⟨[vi kd,a,e,t,x]⟩] H (Q1 (fun v _=>v=.bool (decide (kd=1)||decide (kd=2))) H):=by
 have hS:=SH.refl hw
 refine ce [0,1,2] ?_;refine tl ?_
 refine hS.box h fun H1 r hS=>?_
 repeat(first|(refine hS.az ?_)|(refine hS.a_ ?_))
 refine ah (fun hc=>?_) (fun hc=>?_)
 ·refine rr ?_;refine⟨?_,hS.ext⟩
  rw[decide_eq_true hc];rfl
 ·refine hS.a_ ?_;refine hS.az ?_
  refine rr ?_;refine⟨?_,hS.ext⟩
  rw[decide_eq_false hc];rfl
theorem JD(hw:Wf H)(kd:Int)(a e:Value)(t x:Value)(h:ko (.agg ⟨[vi kd,a,e,t,x]⟩)=true):ak Pg X 181 [.agg ⟨[vi kd,a,e,t,x]⟩] H (Q1 (fun v _=>∃b:Bool,v=.bool b∧(b=true→kd≠0)) H):=by
 have hS:=SH.refl hw
 refine ce [0,1,2,4] ?_;refine tl ?_
 refine hS.box h fun H1 r hS=>?_
 repeat(first|(refine hS.az ?_)|(refine hS.a_ ?_))
 refine ah (fun hc=>?_) (fun hc=>?_)
 ·rw[decide_eq_true hc]
  refine hS.az ?_
  refine rr ?_;exact⟨⟨true,rfl,fun _=>by omega⟩,hS.ext⟩
 refine ah (fun hc=>?_) (fun hc=>?_)
 ·rw[decide_eq_true hc]
  refine hS.az ?_
  refine rr ?_;exact⟨⟨true,rfl,fun _=>by omega⟩,hS.ext⟩
 refine ah (fun hc=>?_) (fun hc=>?_)
 ·rw[decide_eq_true hc]
  refine hS.az ?_
  refine rr ?_;exact⟨⟨true,rfl,fun _=>by omega⟩,hS.ext⟩
 refine ah (fun hc=>?_) (fun hc=>?_)
 ·rw[decide_eq_true hc]
  refine hS.az ?_
  refine rr ?_;exact⟨⟨true,rfl,fun _=>by omega⟩,hS.ext⟩
 refine ah (fun hc=>?_) (fun hc=>?_)
 ·rw[decide_eq_true hc]
  refine hS.az ?_
  refine rr ?_;exact⟨⟨true,rfl,fun _=>by omega⟩,hS.ext⟩
 refine ah (fun hc=>?_) (fun hc=>?_)
 ·rw[decide_eq_true hc]
  refine hS.az ?_
  refine rr ?_;exact⟨⟨true,rfl,fun _=>by omega⟩,hS.ext⟩
 refine ah (fun hc=>?_) (fun hc=>?_)
 ·refine rr ?_;exact⟨⟨true,rfl,fun _=>by omega⟩,hS.ext⟩
 ·refine rr ?_;exact⟨⟨false,rfl,fun h=>by cases h⟩,hS.ext⟩
def Zf(F:Nat→Prop)(H:ae)(v:Value):Prop:=∃l,v=.agg ⟨l⟩∧VU F H l
theorem uj{q:RC}{k:Nat}(hR:Rd F q k H M)(hS:SH S H0 H (M++L)){v:Value}(hv:Zf F H v)(at':Int):ak Pg X 148 [pr q.rr,v,vi at'] H fun w H'=>∃(i:Nat)(b:Bool)(M':List aC),w=.tuple ⟨[vn i,.bool b]⟩∧i<4000∧Rd F q k H' M'∧SH (M.map (·.1)) H H' M':=by
 have hR0:=hR
 have hS0:=hS
 have hS:=hS.own
 have hty:=hR.ty hS0
 obtain⟨rv,rcs,gr,nv,bY,gn,sc,sa,nr,nn,rfl,h1,h2,h3,h4,h5,h6,h7,h8,h9,h10,rY⟩:=hR
 obtain⟨l,rfl,hno⟩:=hv
 obtain⟨kd,ka,kn,kc,ks,t,rs,na,rfl,hk1,hk2,hk3,hk4,hk5⟩:=id hno
 obtain⟨xa,xn,xc,xcs,rfl,Qa⟩:=id hk5
 obtain⟨na',nc,cc,rfl,hnl,hnf⟩:∃a n c,nv=.slice a n c∧bY.length=n*5∧True:=by
  rcases h7 with⟨rfl,rfl,_⟩|⟨r,n,aF,rfl,hn,_⟩
  ·exact⟨_,_,_,rfl,by simp,trivial⟩
  ·exact⟨_,_,_,rfl,hn,trivial⟩
 have hnn:nc=nn:=by omega
 subst hnn
 refine ce [0,1,2,4,6,7] ?_;refine tl ?_
 refine hS.box rfl fun H1 rb hS=>?_
 repeat(first|(refine hS.az ?_)|(refine hS.a_ ?_))
 refine ah (fun hc=>?_) (fun hc=>?_)
 ·have hS2:=hS.perm (List.perm_append_comm (l₁:=[_]))
  refine ak.mono (qw (hR0.on hS0 hS.ext) hS2 _ _) ?_
  rintro v H3 ⟨rfl,M',wJ,kH⟩
  refine rr ?_;refine⟨0,false,M',rfl,aa,wJ,?_⟩
  exact SH.drop (A:=[_]) ((hS2.frame kH).perm List.perm_append_comm)
 ·have hlt:nc<4000:=by omega
  repeat(first|(refine hS.az ?_)|(refine hS.iG ?_)|(refine hS.mW ?_))
  refine hS.S8 rfl rfl rfl aa fun H2 rx hS ji=>?_
  have hS:=hS.to (cs':=[vi kd,.slice ka kn kc,.string t,.slice xa xn xc,vi na]) rfl
  have hS:=hS.perm (L':=(rx,145,[vi kd,.slice ka kn kc,.string t,.slice xa xn xc,vi na])::(gn++((rb,145,[vi kd,.slice ka kn kc,.string t,.slice xa xn xc,vi na])::(q.rt,122,[.slice q.a q.n q.c])::(q.ra,3,[vn k])::(q.rp,129,[gJ q.rt q.ra])::(q.rr,133,[gJ q.rt q.ra,mY q.rp q.ra q.rt,rv,.slice na' nc cc,vi sc,vi sa])::gr))) (List.Perm.cons _ (List.perm_append_comm (l₁:=_::_::_::_::_::gr)))
  refine h7.Co hS aa rfl rfl aa fun v' H3 gn' hg' hS hx' K_ kV=>?_
  have hS:=hS.perm (List.perm_append_comm (l₂:=_::_::_::_::_::gr))
  simp only[List.cons_append]at hS
  obtain⟨va,Xq,vc,rfl,hvl,_⟩:∃a n c,v'=.slice a n c∧(bY++[vi kd,.slice ka kn kc,.string t,.slice xa xn xc,vi na]).length=n*5∧True:=by
   rcases hg' with⟨_,h,_⟩|⟨r,n,aF,rfl,hn,_⟩
   ·exact absurd h (by simp)
   ·exact⟨_,_,_,rfl,hn,trivial⟩
  have hvn:Xq=nc +1:=by rw[List.length_append,hnl]at hvl;simp at hvl;omega
  subst hvn
  refine hS.qf fun Hn hS=>?_
  have hne:q.rr≠rb:=(hS.nq 0 4 rfl rfl aa).symm
  have hgo:∀K:Prop,K→bO (opsOf (sub xV [1,1,0])) [clS (.pointer (some ⟨q.rr,2 +1,none⟩)) (.slice va (nc +1) vc) (hM (hM H1 H2) H3) Hn,cl 0,cl 0,cl 0,DZ (hM H1 H2) H3,PI H1 H2,Yu 5 (.pointer (some ⟨rb,0,none⟩)) H1 (hN H1),Yu 1 (.pointer (some ⟨q.rr,2 +1,none⟩)) H1 (hN H1),cl 0,cl 0,cl 0,cl 0,cl 0]=true∧K:=by
   intro K hK
   simp only[ji,aN,aQ]
   generalize q.rr=rr at hne
   rcases kV with e|e<;>rw[e]<;>apply oG (a:=rr) (b:=rb) hne (by intros;rfl) (by kernel_rfl) (by kernel_rfl) hK
  refine hgo _ ?_
  refine hS.a_ ?_;refine hS.az ?_
  rw[oD aa aa]
  refine hS.az ?_
  have hx:=hS.ext
  refine rr ?_;refine⟨nc,true,(q.rt,122,[.slice q.a q.n q.c])::(q.ra,3,[vn k])::(q.rp,129,[gJ q.rt q.ra])::(q.rr,133,[gJ q.rt q.ra,mY q.rp q.ra q.rt,rv,.slice va (nc +1) vc,vi sc,vi sa])::(gr++gn'),?_,hlt,?_,SH.drop (A:=[_]) hS⟩
  ·rw[show((nc +1:Nat):Int) -1=((nc:Nat):Int) by omega]
  ·have pq:=hR0.on hS0 hx
   obtain⟨rv',acL,gr',nv',acM,aeD,sc',sa',nr',nn',e0,g1,g2,_⟩:=pq
   have hE:=zo (es:=5) (n:=nc) hnl (xs:=[vi kd,.slice ka kn kc,.string t,.slice xa xn xc,vi na]) rfl
   refine⟨rv,rcs,gr,_,_,gn',sc,sa,nr,nc +1,rfl,h1,g2,h3,h4,h5,h6,hg',hvl,aa,fun i hi=>?_,rY⟩
   have hst:∀r∈((q.rt,122,[.slice q.a q.n q.c])::(q.ra,3,[vn k])::(q.rp,129,[gJ q.rt q.ra])::(q.rr,133,[gJ q.rt q.ra,mY q.rp q.ra q.rt,rv,.slice na' nc cc,vi sc,vi sa])::(gr++gn)).map (fun e:aC=>e.1),(¬F r∨¬qA H r 3)∧¬qA H r 269:=fun r hr=>⟨(hty r hr).1.imp_left (fun e=>by rw[e];exact rY),(hty r hr).2.1⟩
   rcases Nat.lt_or_ge i nc with h|h
   ·rw[hE.1 i h]
    exact(h10 i h).st hx hst
   ·obtain rfl:i=nc:=by omega
    rw[hE.2]
    exact hno.st hx hst
end
section
variable{H0 H:ae}{L M:List aC}{S:List Nat}
theorem UA(hw:Wf H){m:Nat}(hm:m≤900000){v:Value}(hv:pg m H v):ak Pg X 212 [v] H (Q1 (fun v H'=>bf H.next (m +1) H' v) H):=by
 refine ce [0,2,3,4,6,8,9,10] ?_;refine tl ?_
 refine ak.mono (wI hw aa hv) ?_
 rintro v H2 ⟨hv2,hx⟩
 obtain⟨a,n,c,cs,rfl,hf,hn,hi⟩:=hv2
 have hw2:=hx.wf hw
 have hS:=SH.refl hw2
 have hnx:H.next≤H2.next:=hx.next
 refine au ?_
 refine Ht 3 4 6 10 (I:=fun m x3 x4 x6 aW H'=>∃(k:Nat)(ds:List Value)(gb:List aC)(z:Int),x4=.int .i32 z∧aW=vn k∧k +m=n∧GB 269 2 x3 ds gb∧ds.length≤2*k∧Eb ds∧SH [] H2 H' (gb++[])) ?_ n ⟨0,[],[],0,rfl,rfl,aa,GB.nil _ _,by simp,(fun x h=>nomatch h),hS⟩
 clear hS
 rintro m' x3 x4 x6 aW rg H' ⟨k,ds,gb,z,rfl,rfl,hk,hg,hdl,hds,hS⟩
 refine aT.i_ fun K hK=>?_
 refine tl ?_
 refine au ?_
 refine ah (fun hc=>?_) (fun hc=>?_)
 ·obtain⟨r,o,e,hr,hrd,hel,_⟩:=hf.1.read aa (show k<n by omega) c
  rw[e]
  refine au ?_
  obtain⟨z1,z2,ez⟩:=JB hi (k:=k) (by rw[hf.1.1];omega)
  rw[ez]at hrd
  refine hS.mM hrd hr ?_
  refine hS.bZ fun H1 r1 hS=>?_
  repeat(first|(refine hS.az ?_)|(refine hS.a_ ?_)|(refine hS.iB fun Hn hS=>?_))
  have nx:∀x3 ds gb rg H4,GB 269 2 x3 ds gb→ds.length≤2*(k +1)→Eb ds→SH [] H2 H4 ((r1,269,[.int .i32 z1,.int .i32 z2])::(gb++[]))→
   aT Pg X (sub rG [1,1,1,0,1,0,0,1,1,0,0,1,1]) (zk v (.slice none 0 0) x3 (.int .i32 z) (.pointer (some ⟨r1,0,none⟩)) (.slice a n c) (vn n) (vn k) rg H4) (iA 1 (kN Pg X (sub rG [1,1,1,0,1,0,0,1,1,1]) K)):=by
   intro x3 ds gb rg H4 hg hdl hds hS
   subst hK
   refine tl ?_
   repeat(first|(refine hS.az ?_)|(refine hS.a_ ?_))
   refine tl ?_
   refine ay ?_
   refine au ?_
   exact⟨m' -1,aa,_,_,_,_,_,_,rfl,k +1,ds,gb,_,rfl,rfl,aa,hg,aa,hds,SH.drop (A:=[_]) hS⟩
  refine ah (fun hd=>?_) (fun hd=>?_)
  ·repeat(first|(refine hS.az ?_)|(refine PU.b2 rfl ?_)|(refine hS.a_ ?_))
   refine hS.bS rfl rfl rfl aa fun H3 rx hS=>?_
   have hS:=hS.perm (L':=(rx,269,ax (.agg ⟨[.int .i32 z,.int .i32 (fO .i32 (z1 -1))]⟩))::(gb++[(r1,269,[.int .i32 z1,.int .i32 z2])])) (List.Perm.cons _ (ET _ _))
   refine hg.add hS aa rfl rfl aa fun v' H4 bJ hg' hS hx'=>?_
   exact nx _ _ _ _ _ hg' (by rw[List.length_append];show ds.length +2≤_;omega) (hds.app _ _) (hS.perm (ET _ _).symm)
  ·exact nx _ _ _ _ _ hg aa hds hS
 ·have fin:∀v' ds gb H4,GB 269 2 v' ds gb→ds.length≤2*(n +1)→Eb ds→SH [] H2 H4 (gb++[])→∀K:Value→ae→Prop,(∀w H5,bf H.next (m +1) H5 w→Ext H H5→K w H5)→ak Pg X 197 [v'] H4 K:=by
   intro v' ds gb H4 hg hdl hds hS K hk
   obtain⟨a',n',c',rfl,hn',hf'⟩:=hg.fl hS
   refine ak.mono (wI (KM:=m +1) hS.wf aa ⟨a',n',c',ds,rfl,hf',aa,hds⟩) ?_
   rintro w H5 ⟨hw5,hx5⟩
   have:=hS.ext.next
   exact hk w H5 (hw5.le (Nat.le_refl _) aa) ((hx.trans hS.ext).trans hx5)
  obtain rfl:k=n:=by omega
  subst hK
  refine au ?_
  refine tl ?_
  refine au ?_
  refine ah (fun hd=>?_) (fun hd=>?_)
  ·refine PU.b2 rfl ?_;refine hS.az ?_
   refine hS.bS rfl rfl rfl aa fun H3 rx hS=>?_
   obtain⟨v',H4,bJ,e,hg',hS,_⟩:=hg.app (m:=0) (cx:=1) hS aa rfl rfl aa aa
   refine ME.of e ?_
   refine fin _ _ _ _ hg' (by rw[List.length_append];show ds.length +2≤_;omega) (hds.app _ _) hS _ fun w H5 h1 h2=>?_
   refine rr ?_;exact⟨h1,h2⟩
  ·refine fin _ _ _ _ hg aa hds hS _ fun w H5 h1 h2=>?_
   refine rr ?_;exact⟨h1,h2⟩
end
section
variable{H0 H:ae}{L M:List aC}{S:List Nat}{F:Nat→Prop}
def JE(F:Nat→Prop)(q:RC)(M:List aC)(H:ae)(k:Nat)(strict:Bool)(w:Value)(H':ae):Prop:=∃(i:Int)(b:Bool)(k':Nat)(M':List aC),w=.tuple ⟨[vi i,.bool b]⟩∧Rd F q k' H' M'∧SH (M.map (·.1)) H H' M'∧k≤k'∧(b=true→strict=true→k<k')
def Xr(q:RC)(k:Nat):Prop:=∀(F:Nat→Prop) H M d,(∀r,H.next≤r→F r)→Rd F q k H M→SH (M.map (·.1)) H H M→d≤40→ak Pg X 112 [pr q.rr,vn d] H (JE F q M H k false)
def Xu(q:RC)(k:Nat):Prop:=∀(F:Nat→Prop) H M d,(∀r,H.next≤r→F r)→Rd F q k H M→SH (M.map (·.1)) H H M→d≤40→ak Pg X 147 [pr q.rr,vn d] H (JE F q M H k false)
def Xv(q:RC)(k:Nat):Prop:=∃(kd:Int)(l:List Value),El q.cs 5 k=vi kd::l∧kd≠0
def Xw(q:RC)(k:Nat):Prop:=∀(F:Nat→Prop) H M d,(∀r,H.next≤r→F r)→Rd F q k H M→SH (M.map (·.1)) H H M→d≤40→Xv q k→ak Pg X 182 [pr q.rr,vn d] H (JE F q M H k true)
def acN(q:RC)(k:Nat):Prop:=∀(F:Nat→Prop) H M d,(∀r,H.next≤r→F r)→Rd F q k H M→SH (M.map (·.1)) H H M→d≤40→Xv q k→ak Pg X 198 [pr q.rr,vn d] H (JE F q M H k true)
theorem Xv.lt{q:RC}{k:Nat}(h:Xv q k)(hR:Rd F q k H M):k +1<q.n:=by
 obtain⟨kd,l,h1,h2⟩:=h
 have hk:=hR.le
 obtain⟨kd',at',e,t,xa,xn,xc,h3,_,_,_,hz⟩:=hR.tok hk.1
 rw[h1]at h3
 have:kd=kd':=by
  have:=(List.cons.inj h3).1
  injection this
 have:k≠q.n -1:=fun e=>h2 (by rw[this];exact hz e)
 omega
theorem yg{kd:Int}{t:ByteArray}{rs:Value}{at':Int}(ht:t.size≤1000000)(hr:bf 0 20001 H rs):Zf F H (.agg ⟨[vi kd,.slice none 0 0,.string t,rs,vi at']⟩):=
 ⟨_,rfl,kd,none,0,0,[],t,rs,at',rfl,eO.nil _ _ _ _ _,aa,(fun x h=>nomatch h),ht,hr⟩
theorem Rd.n{q:RC}{k:Nat}(h:Rd F q k H M):Rd F q k (hN H) M:=h
theorem SH.nn{S:List Nat}{M:List aC}(h:SH S H H M):SH S (hN H) (hN H) M:=h.mV
theorem aau{q:RC}{M Mb Lx:List aC}{H Hb Hc:ae}{k kb:Nat}(hRb:Rd F q kb Hb Mb)(hSb:SH (M.map (·.1)) H Hb Mb)(hk:k<kb)(hS:SH (Mb.map (·.1)) Hb Hc (Lx++Mb)){v:Value}(hv:Zf F Hc v)(z:Int):
 ak Pg X 148 [pr q.rr,v,vi z] Hc fun w H'=>∃(i:Int)(b:Bool),w=.tuple ⟨[vi i,.bool b]⟩∧JE F q M H k true w H':=by
 have hS2:=hS.perm (List.perm_append_comm (l₁:=Lx))
 have aav:SH (M.map (·.1)) H Hb (Mb++[]):=by rw[List.append_nil];exact hSb
 refine ak.mono (uj (hRb.on aav hS.ext) hS2 hv z) ?_
 rintro w H4 ⟨i,b,M3,rfl,_,wJ,kH⟩
 refine⟨i,b,rfl,i,b,kb,M3,rfl,wJ,?_,aa,fun _ _=>hk⟩
 exact hSb.over (by simpa using SH.drop (A:=Lx) ((hS2.frame kH).perm List.perm_append_comm))
theorem Zg{q:RC}{M Mb Lx:List aC}{H Hb Hc:ae}{k kb:Nat}(hRb:Rd F q kb Hb Mb)(hSb:SH (M.map (·.1)) H Hb Mb)(hk:k<kb)(hS:SH (Mb.map (·.1)) Hb Hc (Lx++Mb)){v:Value}(hv:Zf F Hc v)(z:Int):
 ak Pg X 148 [pr q.rr,v,vi z] (hN Hc) fun w H'=>∃(i:Int)(b:Bool),w=.tuple ⟨[vi i,.bool b]⟩∧JE F q M H k true w (hM Hc H'):=by
 have hS2:=hS.perm (List.perm_append_comm (l₁:=Lx))
 have aav:SH (M.map (·.1)) H Hb (Mb++[]):=by rw[List.append_nil];exact hSb
 refine ak.mono (uj (hRb.on aav hS.ext).n hS2.mV (v:=v) hv z) ?_
 rintro w H4 ⟨i,b,M3,rfl,_,wJ,kH⟩
 refine⟨i,b,rfl,i,b,kb,M3,rfl,wJ,?_,aa,fun _ _=>hk⟩
 exact hSb.over (by simpa using SH.drop (A:=Lx) ((hS2.Tq kH).perm List.perm_append_comm))
theorem Zf.n{v:Value}(h:Zf F H v):Zf F (hN H) v:=h
theorem Xx{q:RC}{k:Nat}(ih:∀k',k<k'→Xr q k'):acN q k:=by
 intro F H M d hF hR hS hd hkd
 have hlt:=hkd.lt hR
 have hkn:=hR.le
 obtain⟨kd,at',e',t,xa,xn,xc,he,ha2,ht,hrs,hz⟩:=hR.tok hkn.1
 have aeE:kd≠0:=by
  obtain⟨kd',l,h1,h2⟩:=hkd
  rw[he]at h1
  have:=(List.cons.inj h1).1
  injection this with _ h3
  omega
 have hty:=hR.ty (L:=[]) (by rw[List.append_nil];exact hS)
 have adT:SH (M.map (·.1)) H H (M++[]):=by rw[List.append_nil];exact hS
 refine ce [0,1,4,5,6,7,8,9,16] ?_;refine tl ?_
 refine au ?_
 refine hR.next adT fun H1 M1 pq hS1 hx1=>?_
 rw[show min (k +1) (q.n -1)=k +1 by omega]at pq
 rw[he]
 have adU:bf 0 20000 H1 (.slice xa xn xc):=hrs.stay hx1.ext fun r hr=>.inr (hty r hr).2.1
 have aeF:=hx1
 have adV:=pq.ty (L:=[]) hS1
 have hS:=hS1.own
 refine hS.bZ fun H2 rb hS=>?_
 refine hS.iB fun H3 hS=>?_
 have hS:SH (M1.map (·.1)) H1 H3 ((rb,128,[vi kd,vn at',vn e',.string t,.slice xa xn xc])::M1):=hS
 have drs:∀H3,kP (M1.map (·.1)) H1 H3→bf 0 20000 H3 (.slice xa xn xc):=fun H3 hx=>adU.stay hx fun r hr=>.inr (adV r hr).2.1
 repeat(first|(refine hS.az ?_)|(refine hS.a_ ?_))
 have kL:∀(b:Bool) rg,Az rg 17=.bool b→aT Pg X (sub oI [1,1,0,1,0,1]) (uW (pr q.rr) (vn d) (.int .i64 0) (.bool false) (.pointer (some ⟨rb,0,none⟩)) top top top (vi kd) rg H3) (iA 0 (kN Pg X (sub oI [1,1,1]) (cK Pg [.tmp 4,.tmp 5] (JE F q M H k true)))):=by
  intro b rg hb
  refine tl ?_
  rw[hb]
  refine au ?_
  refine aA (fun hb=>?_) (fun hb=>?_)
  ·repeat(first|(refine hS.az ?_)|(refine PU.b5 rfl ?_)|(refine hS.a_ ?_))
   refine ak.mono (aau (Lx:=[_]) pq hx1 (Nat.lt_succ_self k) hS (yg ht (bf.nil _ _ _)) _) ?_
   rintro w H4 ⟨i,b,rfl,hw⟩
   refine au ?_
   refine rr ?_;exact hw
  refine ah (fun hc=>?_) (fun hc=>?_)
  ·repeat(first|(refine hS.az ?_)|(refine PU.b5 rfl ?_)|(refine hS.a_ ?_))
   refine ak.mono (aau (Lx:=[_]) pq hx1 (Nat.lt_succ_self k) hS (yg ht (bf.nil _ _ _)) _) ?_
   rintro w H4 ⟨i,b,rfl,hw⟩
   refine au ?_
   refine rr ?_;exact hw
  refine ah (fun hc=>?_) (fun hc=>?_)
  ·repeat(first|(refine hS.az ?_)|(refine PU.b5 rfl ?_)|(refine hS.a_ ?_))
   refine ak.mono (aau (Lx:=[_]) pq hx1 (Nat.lt_succ_self k) hS (yg (t:=⟨#[]⟩) (Nat.zero_le _) ((drs _ hS.ext).le aa (Nat.le_refl _))) _) ?_
   rintro w H4 ⟨i,b,rfl,hw⟩
   refine au ?_
   refine rr ?_;exact hw
  refine ah (fun hc=>?_) (fun hc=>?_)
  ·refine ak.mono (Ux (oC _)) ?_
   rintro v H4 ⟨hv,hx4⟩
   obtain⟨ya,yn,yc,ycs,rfl,hv2⟩:=id hv
   have hS:=hS.kX hx4
   repeat(first|(refine hS.az ?_)|(refine PU.b5 rfl ?_)|(refine hS.iG ?_))
   refine ak.mono (Zg (Lx:=[_]) pq hx1 (Nat.lt_succ_self k) hS (yg (t:=⟨#[]⟩) (Nat.zero_le _) (hv.le aa (Nat.zero_le _))) _) ?_
   rintro w H5 ⟨i,b,rfl,hw⟩
   refine hS.az ?_
   simp only[bn hx4,aN]
   rcases qU (hM H3 H4) H5 with e|e<;>rw[e]<;>apply Lt (a:=rb) (by intros;rfl) (by kernel_rfl) (by kernel_rfl)<;>(refine rr ?_;exact hw)
  refine ah (fun hc=>?_) (fun hc=>?_)
  ·have nK:=hS.perm (List.perm_append_comm (l₁:=[_]))
   refine(pq.on hS1 hS.ext).GG nK 0 aa fun H4 yE nK hx4=>?_
   rw[show min (k +1 +0) (q.n -1)=k +1 by omega]
   obtain⟨Zh,at2,e2,t2,ya,yn,yc,he2,_,_,_,_⟩:=yE.tok (i:=k +1) aa
   rw[he2]
   have hS:=nK
   refine hS.bZ fun H5 rc hS=>?_
   refine hS.iB fun H6 hS=>?_
   have hS:SH (M1.map (·.1)) H1 H6 ((rc,128,[vi Zh,vn at2,vn e2,.string t2,.slice ya yn yc])::(M1++[(rb,128,[vi kd,vn at',vn e',.string t,.slice xa xn xc])])):=hS
   have kY:SH (M1.map (·.1)) H1 H6 (M1++[(rb,128,[vi kd,vn at',vn e',.string t,.slice xa xn xc]),(rc,128,[vi Zh,vn at2,vn e2,.string t2,.slice ya yn yc])]):=by
    have:=hS.perm (List.perm_append_comm (l₁:=[_]))
    have e:=List.append_assoc M1 [((rb,128,[vi kd,vn at',vn e',.string t,.slice xa xn xc]):aC)] [((rc,128,[vi Zh,vn at2,vn e2,.string t2,.slice ya yn yc]):aC)]
    exact this.cast e
   refine ak.mono (zq (pq.on hS1 hS.ext) kY 4 (by decide)) ?_
   rintro v H7 ⟨b,k2,M2,rfl,Oh,Db,hk2,hb2⟩
   have Qb:=kY.frame Db
   have hSo:=Qb.own
   have hSb:SH (M.map (·.1)) H H7 M2:=hx1.over (SH.drop (A:=[_,_]) (Qb.perm List.perm_append_comm))
   cases b with
   |false=>
    refine au ?_
    refine(show∀{A B:Prop},A→vB (some !false) A B from fun h=>h) ?_
    refine rr ?_;exact⟨0,false,k2,M2,rfl,Oh,hSb,aa,fun h=>by cases h⟩
   |true=>
    have hk3:k2=k +1 +1:=hb2 rfl
    refine au ?_
    refine(show∀{A B:Prop},B→vB (some !true) A B from fun h=>h) ?_
    have bc:=Qb.bk (rc,128,[vi Zh,vn at2,vn e2,.string t2,.slice ya yn yc]) (by simp)
    have bb:=Qb.bk (rb,128,[vi kd,vn at',vn e',.string t,.slice xa xn xc]) (by simp)
    have lc:=(Qb.lo (rc,128,[vi Zh,vn at2,vn e2,.string t2,.slice ya yn yc]) (by simp)).2
    have lb:=(Qb.lo (rb,128,[vi kd,vn at',vn e',.string t,.slice xa xn xc]) (by simp)).2
    have hbc:rb≠rc:=by
     have:=hS.apart (A:=[_]) (x:=(rc,128,[vi Zh,vn at2,vn e2,.string t2,.slice ya yn yc])) (y:=(rb,128,[vi kd,vn at',vn e',.string t,.slice xa xn xc])) (List.mem_cons_self ..) (by simp)
     exact this.symm
    obtain⟨_,_,_,_,_,_,_,he3,_,_,acO,_⟩:=Oh.tok (i:=k +1) aa
    rw[he2]at he3
    have he4:=(List.cons.inj (List.cons.inj (List.cons.inj (List.cons.inj (List.cons.inj he3).2).2).2).2).1
    rw[←he4]at acO
    have hS:=SH.refl hSo.wf
    refine hS.zf (bc.cell (o:=4) rfl) lc ?_
    refine hS.az ?_
    refine ak.mono (UA (oC _) (m:=20000) aa acO.i) ?_
    rintro v H8 ⟨hv,DD⟩
    obtain⟨za,zn,zc,zcs,rfl,hv2⟩:=id hv
    have hS:=hS.kX DD
    refine hS.zf (bb.cell (o:=1) rfl) lb ?_
    repeat(first|(refine hS.az ?_)|(refine PU.b5 rfl ?_))
    refine hS.zf (bc.cell (o:=1) rfl) lc ?_
    refine hS.az ?_
    refine ak.mono (Zg (Lx:=[]) Oh hSb (show k<k2 by omega) (hSo.kX DD) (yg (t:=⟨#[]⟩) (Nat.zero_le _) (hv.le aa (Nat.zero_le _))) _) ?_
    rintro w H9 ⟨i,b,rfl,hw⟩
    refine hS.az ?_
    simp only[bn DD,aN]
    rcases qU (hM H7 H8) H9 with e|e<;>rw[e]<;>apply oG (a:=rb) (b:=rc) hbc (by intros;rfl) (by kernel_rfl) (by kernel_rfl)<;>(refine rr ?_;exact hw)
  ·refine tl ?_
   have nK:=hS.perm (List.perm_append_comm (l₁:=[_]))
   refine hS.az ?_
   refine ah (fun hd2=>?_) (fun hd2=>?_)
   ·refine hS.a_ ?_
    refine ak.mono (qw (pq.on hS1 hS.ext) nK _ _) ?_
    rintro w H5 ⟨rfl,M2,Ec,hS5⟩
    refine rr ?_;exact⟨0,false,k +1,M2,rfl,Ec,hx1.over (SH.drop (A:=[_]) ((nK.frame hS5).perm List.perm_append_comm)),aa,fun h=>by cases h⟩
   ·rw[aL aa aa]
    refine au ?_
    refine ak.mono (ih (k +1) aa F H3 M1 (d +1) (fun r hr=>hF r (by have:=hx1.ext.next;have:=hS.ext.next;omega)) (pq.on hS1 hS.ext) nK.own aa) ?_
    rintro w H5 ⟨i,b,k2,M2,rfl,Ec,hS5,hk2,_⟩
    have aaw:=nK.frame hS5
    refine au ?_
    cases b with
    |false=>
     refine(show∀{A B:Prop},B→vB (some false) A B from fun h=>h) ?_
     refine rr ?_;exact⟨i,false,k2,M2,rfl,Ec,hx1.over (SH.drop (A:=[_]) (aaw.perm List.perm_append_comm)),aa,fun h=>by cases h⟩
    |true=>
     refine(show∀{A B:Prop},A→vB (some true) A B from fun h=>h) ?_
     refine ak.mono (zq Ec aaw 9 (by decide)) ?_
     rintro w H6 ⟨b,k3,M3,rfl,uk,kY,hk3,_⟩
     refine rr ?_;exact⟨i,b,k3,M3,rfl,uk,hx1.over (SH.drop (A:=[_]) ((aaw.frame kY).perm List.perm_append_comm)),aa,fun _ _=>by omega⟩
 refine ah (fun hc=>?_) (fun hc=>?_)
 ·exact kL _ _ (by simp only[lQ];rfl)
 ·exact kL _ _ (by simp only[lQ];rfl)
end
section
variable{H0 H:ae}{L M:List aC}{S:List Nat}{F:Nat→Prop}
theorem Rd.mem{q:RC}{k:Nat}(h:Rd F q k H M):(q.ra,3,[vn k])∈M:=by
 obtain⟨rv,rcs,gr,nv,bY,gn,sc,sa,nr,nn,rfl,_⟩:=h
 simp
theorem GH{kd:Int}{a:Option Addr}{n c:Nat}{ks:List Value}{at':Int}(hf:eO F 3 H a n 1 ks)(hn:n≤20001)(hk:∀x∈ks,∃z:Int,x=vi z):Zf F H (.agg ⟨[vi kd,.slice a n c,.string ⟨#[]⟩,.slice none 0 0,vi at']⟩):=
 ⟨_,rfl,kd,a,n,c,ks,⟨#[]⟩,_,at',rfl,hf,hn,hk,Nat.zero_le _,bf.nil _ _ _⟩
theorem LY{q:RC}{k:Nat}(ha:acN q k):Xw q k:=by
 intro F H M d hF hR hS hd hkd
 have hlt:=hkd.lt hR
 refine ce [0,1,4,5,6,7,8,22] ?_;refine tl ?_
 refine ak.mono (ha F H M d hF hR hS hd hkd) ?_
 rintro w H1 ⟨i,b,k1,M1,rfl,pq,hS1,hk1,hb1⟩
 refine au ?_
 cases b with
 |false=>
  refine(show∀{A B:Prop},A→vB (some !false) A B from fun h=>h) ?_
  refine rr ?_;exact⟨0,false,k1,M1,rfl,pq,hS1,hk1,fun h=>by cases h⟩
 |true=>
  have hk2:=hb1 rfl rfl
  refine(show∀{A B:Prop},B→vB (some !true) A B from fun h=>h) ?_
  have adW:SH (M.map (·.1)) H H1 (M1++[]):=by rw[List.append_nil];exact hS1
  refine pq.GG adW 0 aa fun H2 hR2 hS2 hx2=>?_
  have hkn:=hR2.le
  rw[show min (k1 +0) (q.n -1)=k1 by omega]
  obtain⟨kd,at',e',t,xa,xn,xc,he,_⟩:=hR2.tok hkn.1
  rw[he,wK]
  have fin:∀(z:Int) rg,aT Pg X (sub rV [1,1,1,1,1]) (qY (pr q.rr) (vn d) (.int .i64 0) (.bool false) (vi i) (.bool true) (vi z) (vi kd) rg H2) (cK Pg [.tmp 4,.tmp 5] (JE F q M H k true)):=by
   intro z rg
   have Xy:SH (M.map (·.1)) H H2 M1:=by rw[←List.append_nil M1];exact hS2
   have hS:=hS2.own
   refine tl ?_
   refine hS.bS rfl rfl rfl aa fun H3 rk hS=>?_
   have hS:SH (M1.map (·.1)) H2 H3 ((rk,3,[vi i])::M1):=hS
   have hge:H.next≤rk:=by
    rcases(hS.lo (rk,3,[vi i]) (List.mem_cons_self ..)).1 with h|h
    ·exfalso
     obtain⟨e,he,e1⟩:=List.mem_map.1 h
     exact hS.apart (A:=[_]) (List.mem_cons_self ..) he e1.symm
    ·have:=Xy.ext.next
     omega
   refine au ?_
   refine PU.b5 rfl ?_
   refine au ?_
   have kH:=hS.perm (List.perm_append_comm (l₁:=[_]))
   have wJ:=hR2.on hS2 hS.ext
   refine wJ.next kH fun H4 M4 yE nK hx4=>?_
   rw[he,LX]
   refine au ?_
   have Yo:F rk:=hF rk hge
   have hfl:eO F 3 H4 (some ⟨rk,0,none⟩) 1 1 [vi i]:=eO.one nK (List.mem_append_right _ (List.mem_singleton.2 rfl)) rfl Yo
   refine ak.mono (uj yE nK (GH hfl aa (fun x hx=>⟨i,by simpa using hx⟩)) _) ?_
   rintro w H5 ⟨j,b,M5,rfl,_,Ec,hS5⟩
   refine au ?_
   refine rr ?_;refine⟨j,b,_,M5,rfl,Ec,?_,aa,fun _ _=>by omega⟩
   exact Xy.over (SH.drop (A:=[_]) ((nK.frame hS5).perm List.perm_append_comm))
  refine au ?_
  refine ah (fun hc=>?_) (fun hc=>?_)
  ·exact fin _ _
  refine ah (fun hc=>?_) (fun hc=>?_)
  ·exact fin _ _
  refine ah (fun hc=>?_) (fun hc=>?_)
  ·exact fin _ _
  refine rr ?_;refine⟨i,true,k1,M1,rfl,hR2,?_,hk1,fun _ _=>hk2⟩
  rwa [List.append_nil]at hS2
theorem Rd.stay{S':List Nat}{q:RC}{k:Nat}{H':ae}(h:Rd F q k H M)(hx:kP S' H H')(hk:∀r∈S',(¬F r∨¬qA H r 3)∧¬qA H r 269∧¬qA H r 128):Rd F q k H' M:=by
 obtain⟨rv,rcs,gr,nv,bY,gn,sc,sa,nr,nn,h0,h1,h2,h3,h4,h5,h6,h7,h8,h9,h10,rY⟩:=h
 exact⟨rv,rcs,gr,nv,bY,gn,sc,sa,nr,nn,h0,h1,h2.st hx (fun r hr=>.inr (hk r hr).2) (Nat.le_refl _),h3,h4,h5,h6,h7,h8,h9,fun i hi=>(h10 i hi).st hx fun r hr=>⟨(hk r hr).1,(hk r hr).2.1⟩,rY⟩
abbrev Fo(F:Nat→Prop)(gb:List aC):Nat→Prop:=fun r=>F r∧r∉gb.map (·.1)
theorem UB{q:RC}{k:Nat}{x:Value}{ks:List Value}{gb:List aC}(rY:¬F q.ra)(hg:GB 3 1 x ks gb)(hS:SH S H0 H (M++gb))(hR:Rd (Fo F gb) q k H M)(hl:ks.length≤1000000)(z:Int){K:Value→Value→ae→Prop}
 (kk:∀w v' H6 bJ,GB 3 1 v' (ks++[vi z]) bJ→SH S H0 H6 (M++bJ)→Rd (Fo F bJ) q k H6 M→(∀e∈bJ,e.1∈gb.map (·.1)∨H.next≤e.1)→K w v' H6):
 ME (bS 3 [.int .i64 0] 1 1 [(0,vi z)] H) fun w H5=>ME (wh 3 1 x w H5) (K w):=by
 have hP:=hS.perm (List.perm_append_comm (l₁:=M))
 have hO:SH (gb.map (·.1)) H H (gb++[]):=by rw[List.append_nil];exact hP.own
 have hne:∀ty:TypeId,((3:Nat)==ty)=false→∀r∈gb.map (·.1),¬qA H r ty:=fun ty ht=>hP.own.PR (hg.all ht)
 refine hO.bS rfl rfl rfl aa fun H5 rx hS5=>?_
 obtain⟨v',H6,bJ,e1,hg',kY,_⟩:=hg.app (m:=0) (cx:=1) hS5 aa rfl rfl aa aa
 refine ME.of e1 ?_
 rw[List.append_nil]at kY
 have pq:Rd (fun r=>Fo F gb r∧r<H.next) q k H M:=hR.wk (fun r hr h=>⟨h,hr⟩) (fun h=>rY h.1.1)
 have hR2:=pq.stay kY.ext fun r hr=>⟨.inl fun h=>h.1.2 hr,hne 269 rfl r hr,hne 128 rfl r hr⟩
 refine kk _ v' H6 bJ hg' ((hP.frame kY).perm List.perm_append_comm) (hR2.wk (fun r _ h=>⟨h.1.1,fun hm=>?_⟩) fun h=>rY h.1) (fun e he=>(kY.lo e he).1)
 obtain⟨e,he,e1⟩:=List.mem_map.1 hm
 rcases(kY.lo e he).1 with h3|h3
 ·exact h.1.2 (by rw[←e1];exact h3)
 ·have:=h.2;omega
theorem row_of{q:RC}{k:Nat}(he:∀k',k≤k'→Xw q k'):Xu q k:=by
 intro F H M d hF hR hS hd
 have hkn:=hR.le
 have rY:¬F q.ra:=by
  obtain⟨_,_,_,_,_,_,_,_,_,_,_,_,_,_,_,_,_,_,_,_,_,h⟩:=hR
  exact h
 refine ce [0,1,4,5,6,7,8] ?_;refine tl ?_
 refine VP 4 5 6 7 8 (I:=fun m x4 x5 x6 x7 x8 H'=>∃(k':Nat)(M':List aC)(ks:List Value)(gb:List aC),x4=vi 0∧x5=.bool false∧k' +m=q.n∧k≤k'∧Rd (Fo F gb) q k' H' M'∧SH (M.map (·.1)) H H' (M'++gb)∧GB 3 1 x6 ks gb∧ks.length≤k' -k∧(∀x∈ks,∃z:Int,x=vi z)∧∀e∈gb,H.next≤e.1) ?_ (q.n -k) ⟨k,M,[],[],rfl,rfl,aa,Nat.le_refl _,hR.wk (fun r _ h=>⟨h,by simp⟩) (fun h=>rY h.1),by rw[List.append_nil];exact hS,GB.nil _ _,Nat.zero_le _,(fun x h=>nomatch h),fun e h=>nomatch h⟩
 clear hR hS
 rintro m x4 x5 x6 x7 x8 rg H' ⟨k1,M1,ks,gb,rfl,rfl,hkm,hk1,pq,hS1,hg,hkl,hks,hgb⟩
 have acP:=pq.le
 refine tl ?_
 refine au ?_
 refine pq.GG hS1 0 aa fun H2 hR2 hS2 hx2=>?_
 rw[show min (k1 +0) (q.n -1)=k1 by omega]
 obtain⟨kd,at',e',t,xa,xn,xc,hel,_⟩:=hR2.tok acP.1
 rw[hel]
 refine ak.mono (JD hS2.wf kd _ _ _ _ rfl) ?_
 rintro w H3 ⟨⟨b,rfl,hb⟩,hx3⟩
 have wJ:=hR2.ex hx3
 have kH:=hS2.call hx3
 refine au ?_
 refine aA (fun hbt=>?_) (fun hbt=>?_)
 ·have hF3:∀r,H3.next≤r→Fo F gb r:=fun r hr=>⟨hF r (by have:=kH.ext.next;omega),fun hm=>by
   obtain⟨e,he,e1⟩:=List.mem_map.1 hm
   have:=(kH.lo e (List.mem_append_right _ he)).2
   omega⟩
  refine ak.mono (he k1 hk1 _ H3 M1 d hF3 wJ kH.own hd ⟨kd,_,hel,hb hbt⟩) ?_
  rintro w H4 ⟨i,b,k2,M2,rfl,yE,nK,hk2,hb2⟩
  have LZ:=kH.frame nK
  refine au ?_
  cases b with
  |false=>
   refine(show∀{A B:Prop},A→vB (some !false) A B from fun h=>h) ?_
   refine rr ?_;exact⟨0,false,k2,M2,rfl,yE.wk (fun r _ h=>h.1) rY,SH.drop (A:=gb) (LZ.perm List.perm_append_comm),aa,fun h=>by cases h⟩
  |true=>
   have hk3:=hb2 rfl rfl
   have hkn2:=yE.le
   refine(show∀{A B:Prop},B→vB (some !true) A B from fun h=>h) ?_
   refine UB rY hg LZ yE aa i fun w v' H6 bJ hg' kY uk hgn=>?_
   refine⟨q.n -k2,aa,_,_,_,_,_,_,_,rfl,k2,M2,ks++[vi i],bJ,rfl,rfl,aa,aa,uk,kY,hg',by rw[List.length_append];show ks.length +1≤_;omega,fun x hx=>?_,fun e he'=>?_⟩
   ·rcases List.mem_append.1 hx with h|h
    ·exact hks x h
    ·exact⟨i,by simpa using h⟩
   ·rcases hgn e he' with h|h
    ·obtain⟨e2,h2,h3⟩:=List.mem_map.1 h
     rw[←h3];exact hgb e2 h2
    ·have:=LZ.ext.next;omega
 ·refine tl ?_
  obtain⟨a,n,c,rfl,hn,hfl⟩:=hg.W9 (F:=F) (kH.perm (List.perm_append_comm (l₁:=M1))) (fun e he'=>hF _ (hgb e he'))
  refine PU.b5 rfl ?_
  refine au ?_
  refine wJ.GG kH 0 aa fun H4 yE nK hx4=>?_
  rw[show min (k1 +0) (q.n -1)=k1 by omega,hel,LX]
  refine au ?_
  have Ec:Rd F q k1 H4 M1:=yE.wk (fun r _ h=>h.1) rY
  refine ak.mono (uj Ec nK (GH (hfl.ex hx4) aa hks) _) ?_
  rintro w H5 ⟨j,b,M5,rfl,_,uk,kY⟩
  refine au ?_
  refine rr ?_;exact⟨j,b,k1,M5,rfl,uk,SH.drop (A:=gb) ((nK.frame kY).perm List.perm_append_comm),aa,fun _ h=>by cases h⟩
theorem L5{q:RC}{k:Nat}(he:∀k',k≤k'→Xu q k'):Xr q k:=by
 intro F H M d hF hR hS hd
 have hkn:=hR.le
 have rY:¬F q.ra:=by
  obtain⟨_,_,_,_,_,_,_,_,_,_,_,_,_,_,_,_,_,_,_,_,_,h⟩:=hR
  exact h
 refine ce [0,1,4,5,6,7,8] ?_;refine tl ?_
 refine VP 4 5 6 7 8 (I:=fun m x4 x5 x6 x7 x8 H'=>∃(k':Nat)(M':List aC)(ks:List Value)(gb:List aC),x4=vi 0∧x5=.bool false∧k' +m=q.n∧k≤k'∧Rd (Fo F gb) q k' H' M'∧SH (M.map (·.1)) H H' (M'++gb)∧GB 3 1 x6 ks gb∧ks.length≤k' -k∧(∀x∈ks,∃z:Int,x=vi z)∧∀e∈gb,H.next≤e.1) ?_ (q.n -k) ⟨k,M,[],[],rfl,rfl,aa,Nat.le_refl _,hR.wk (fun r _ h=>⟨h,by simp⟩) (fun h=>rY h.1),by rw[List.append_nil];exact hS,GB.nil _ _,Nat.zero_le _,(fun x h=>nomatch h),fun e h=>nomatch h⟩
 clear hR hS
 rintro m x4 x5 x6 x7 x8 rg H' ⟨k1,M1,ks,gb,rfl,rfl,hkm,hk1,pq,hS1,hg,hkl,hks,hgb⟩
 have acP:=pq.le
 have hF3:∀r,H'.next≤r→Fo F gb r:=fun r hr=>⟨hF r (by have:=hS1.ext.next;omega),fun hm=>by
  obtain⟨e,he,e1⟩:=List.mem_map.1 hm
  have:=(hS1.lo e (List.mem_append_right _ he)).2
  omega⟩
 refine tl ?_
 refine ak.mono (he k1 hk1 _ H' M1 d hF3 pq hS1.own hd) ?_
 rintro w H4 ⟨i,b,k2,M2,rfl,yE,nK,hk2,hb2⟩
 have LZ:=hS1.frame nK
 have hkn2:=yE.le
 refine au ?_
 cases b with
 |false=>
  refine(show∀{A B:Prop},A→vB (some !false) A B from fun h=>h) ?_
  refine rr ?_;exact⟨0,false,k2,M2,rfl,yE.wk (fun r _ h=>h.1) rY,SH.drop (A:=gb) (LZ.perm List.perm_append_comm),aa,fun h=>by cases h⟩
 |true=>
  refine(show∀{A B:Prop},B→vB (some !true) A B from fun h=>h) ?_
  refine UB rY hg LZ yE aa i fun w v' H6 bJ hg' kY uk hgn=>?_
  have hgb':∀e∈bJ,H.next≤e.1:=fun e he'=>by
   rcases hgn e he' with h|h
   ·obtain⟨e2,h2,h3⟩:=List.mem_map.1 h
    rw[←h3];exact hgb e2 h2
   ·have:=LZ.ext.next;omega
  have aax:∀x∈ks++[vi i],∃z:Int,x=vi z:=fun x hx=>by
   rcases List.mem_append.1 hx with h|h
   ·exact hks x h
   ·exact⟨i,by simpa using h⟩
  have hkl':(ks++[vi i]).length=ks.length +1:=by simp
  refine uk.GG kY 0 aa fun H7 Oh Db hx7=>?_
  rw[show min (k2 +0) (q.n -1)=k2 by omega]
  obtain⟨kd,at',e',t,xa,xn,xc,hel,_,_,_,hz⟩:=Oh.tok hkn2.1
  rw[hel,wK]
  refine au ?_
  refine aO (fun hc=>?_) (fun hc=>?_)
  ·refine tl ?_
   obtain⟨a,n,c,rfl,hn,hfl⟩:=hg'.W9 (F:=F) (Db.perm (List.perm_append_comm (l₁:=M2))) (fun e he'=>hF _ (hgb' e he'))
   refine au ?_
   refine ah (fun h1=>?_) (fun h1=>?_)
   ·have h1:n=1:=by omega
    subst h1
    obtain⟨r,o,e,hr,hrd,_⟩:=hfl.1.idx (c:=c) aa (show 0<1 by omega)
    obtain⟨z,hz'⟩:=aax (ks++[vi i])[0] (List.getElem_mem _)
    have e:sS 1 (.slice a 1 c) (.int .i64 0)=_:=e
    rw[e]
    refine au ?_
    refine ME.ld (hrd 0 (vi z) aa (by rw[List.getElem?_eq_getElem aa,←hz'])) ?_
    refine rr ?_;exact⟨z,true,k2,M2,rfl,Oh.wk (fun r _ h=>h.1) rY,SH.drop (A:=bJ) (Db.perm List.perm_append_comm),aa,fun _ h=>by cases h⟩
   ·refine PU.b5 rfl ?_
    refine au ?_
    refine Oh.GG Db 0 aa fun H8 hR8 VV DD=>?_
    rw[show min (k2 +0) (q.n -1)=k2 by omega,hel,LX]
    refine au ?_
    have hR9:Rd F q k2 H8 M2:=hR8.wk (fun r _ h=>h.1) rY
    refine ak.mono (uj hR9 VV (GH (hfl.ex DD) aa aax) _) ?_
    rintro w H9 ⟨j,b,M5,rfl,_,adX,aay⟩
    refine au ?_
    refine rr ?_;exact⟨j,b,k2,M5,rfl,adX,SH.drop (A:=bJ) ((VV.frame aay).perm List.perm_append_comm),aa,fun _ h=>by cases h⟩
  ·have hk3:k2≠q.n -1:=fun e=>by have:=hz e;omega
   refine Oh.next Db fun H8 M8 hR8 VV DD=>?_
   rw[show min (k2 +1) (q.n -1)=k2 +1 by omega]at hR8
   refine⟨q.n -(k2 +1),aa,_,_,_,_,_,_,_,rfl,k2 +1,M8,ks++[vi i],bJ,rfl,rfl,aa,aa,hR8,VV,hg',by rw[hkl'];omega,aax,hgb'⟩
theorem aaz{q:RC}:∀(n k:Nat),q.n≤k +n→Xr q k∧Xu q k∧Xw q k:=by
 intro n
 induction n with
 |zero=>
  intro k hk
  have hno:∀k',k≤k'→∀(F:Nat→Prop) H M,¬Rd F q k' H M:=fun k' h F H M hR=>by have:=hR.le;omega
  exact⟨fun F H M d _ hR=>absurd hR (hno k (Nat.le_refl _) _ _ _),fun F H M d _ hR=>absurd hR (hno k (Nat.le_refl _) _ _ _),fun F H M d _ hR=>absurd hR (hno k (Nat.le_refl _) _ _ _)⟩
 |succ n ih=>
  intro k hk
  have hel:Xw q k:=LY (Xx fun k' h=>(ih k' aa).1)
  have hro:Xu q k:=row_of fun k' h=>by
   rcases Nat.eq_or_lt_of_le h with rfl|h
   ·exact hel
   ·exact(ih k' aa).2.2
  refine⟨L5 fun k' h=>?_,hro,hel⟩
  rcases Nat.eq_or_lt_of_le h with rfl|h
  ·exact hro
  ·exact(ih k' aa).2.1
theorem L6(q:RC)(k:Nat):Xr q k:=(aaz (q.n) k aa).1
end
section
variable{H0 H:ae}{L M:List aC}{S:List Nat}{F:Nat→Prop}
theorem _root_.Go.Ae.SH.jI{S:List Nat}{H0 H:ae}{L:List aC}{ty:TypeId}{z:List Value}{v:Value}{n:Nat}{K:Value→Value→ae→Prop}(hS:SH S H0 H L)(hl:(ax v).length=n)(hz:z.length=n)(hk:all' aR (ax v)=true)
 (k:∀H2 r,SH S H0 H2 ((r,ty,ax v)::L)→Ext H H2→K (.pointer (some ⟨r,0,none⟩)) undef H2):ME (Go.Ae.bZ ty z H) fun p H1=>ME (Go.Ae.yB n p v H1) fun u H2=>K p u H2:=by
 have hO:=SH.refl hS.wf
 refine hO.bZ fun H1 r hO=>?_
 refine hO.st 0 rfl hl aa hk fun H2 hO=>?_
 have hO:SH [] H H2 [(r,ty,splice z 0 (ax v))]:=hO
 rw[nG _ _ aa]at hO
 exact k H2 r (SH.frame (M:=[]) (L:=L) hS hO) hO.ext
theorem Rd.st{q:RC}{k:Nat}(hR:Rd F q k H M){b:Nat}{ty:TypeId}{cs:List Value}(hS:SH S H0 H ((b,ty,cs)::(M++L)))(h3:(ty==3)=false)(adY:(ty==269)=false)(h128:(ty==128)=false){o n:Nat}{v:Value}(hl:(ax v).length=n)(hn:o +n≤cs.length)(hk:all' aR (ax v)=true){K:Value→ae→Prop}
 (kk:∀H1,Rd F q k H1 M→SH S H0 H1 ((b,ty,splice cs o (ax v))::(M++L))→H.next≤H1.next→K undef H1):ME (yB n (.pointer (some ⟨b,o,none⟩)) v H) K:=by
 have hO:SH [b] H H [(b,ty,cs)]:=SH.own (M:=[(b,ty,cs)]) hS
 have hty:qA H b ty:=(hO.bk (b,ty,cs) (List.mem_singleton.2 rfl)).QS
 have hne:∀t:TypeId,(ty==t)=false→¬qA H b t:=fun t ht h=>by rw[hty.one h]at ht;simp at ht
 refine hO.st 0 rfl hl hn hk fun H1 hO=>?_
 have hO:SH [b] H H1 [(b,ty,splice cs o (ax v))]:=hO
 refine kk H1 (hR.stay hO.ext fun r hr=>?_) (SH.frame (M:=[(b,ty,cs)]) hS hO) hO.ext.next
 rw[List.mem_singleton]at hr
 subst hr
 exact⟨.inr (hne 3 h3),hne 269 adY,hne 128 h128⟩
theorem Rd.rules{q:RC}{k:Nat}(hR:Rd F q k H M)(hS:SH S H0 H (M++L)):(∃a c,H.cell q.rr 2=some (.slice a q.nu c))∧q.rr<H.next:=by
 obtain⟨rv,rcs,gr,nv,bY,gn,sc,sa,nr,nn,rfl,h1,h2,h3,h4,h5,h6,h7,h8,h9,h10,rY⟩:=hR
 have hb:=hS.get 3 rfl
 refine⟨?_,(hS.lo _ (List.mem_of_getElem? (i:=3) rfl)).2⟩
 subst h5
 rcases h3 with⟨rfl,rfl,_⟩|⟨r,n,aF,rfl,hn,_⟩
 ·have:q.nu=0:=by simp at h4;omega
  rw[this]
  exact⟨none,0,hb.cell rfl⟩
 ·have:n=q.nu:=by omega
  subst this
  exact⟨_,_,hb.cell rfl⟩
theorem _root_.Go.Ae.SH.UC{S:List Nat}{H0 H:ae}{P M L:List aC}(hS:SH S H0 H (P++(M++L))):SH S H0 H (M++(P++L)):=hS.perm (by
 rw[←List.append_assoc,←List.append_assoc];exact List.Perm.append_right _ List.perm_append_comm)
theorem _root_.Go.Ae.SH.GI{S:List Nat}{H0 H H':ae}{P M M' L:List aC}(hS:SH S H0 H (P++(M++L)))(h:SH (M.map (·.1)) H H' M'):SH S H0 H' (P++(M'++L)):=(hS.UC.frame h).UC
theorem Rd.JF{q:RC}{k:Nat}{P:List aC}(hR:Rd F q k H M)(hS:SH S H0 H (P++(M++L)))(j:Nat)(hj:j≤1000){K:Value→Value→ae→Prop}
 (h:∀H',Rd F q k H' M→SH S H0 H' (P++(M++L))→Ext H H'→K (gJ q.rt q.ra) (.agg ⟨El q.cs 5 (min (k +j) (q.n -1))⟩) H'):ME (lM none (.pointer (some ⟨q.rr,0,none⟩)) H) fun v H1=>eG Pg X (Dy v) [vn j] H1 (K v):=
 hR.GG hS.UC j hj fun H' hR' hS' hx=>h H' hR' hS'.UC hx
theorem Rd.Oi{q:RC}{k:Nat}{P:List aC}(hR:Rd F q k H M)(hS:SH S H0 H (P++(M++L))){K:Value→Value→ae→Prop}
 (h:∀H' M',Rd F q (min (k +1) (q.n -1)) H' M'→SH S H0 H' (P++(M'++L))→H.next≤H'.next→K (mY q.rp q.ra q.rt) (.agg ⟨El q.cs 5 k⟩) H'):ME (lM none (.pointer (some ⟨q.rr,1,none⟩)) H) fun v H1=>eG Pg X (Dy v) [] H1 (K v):=
 hR.next hS.UC fun H' M' hR' hS' hx=>h H' M' hR' hS'.UC hx.ext.next
theorem UD{q:RC}{k:Nat}{P:List aC}(hR:Rd F q k H M)(hS:SH S H0 H (P++(M++L)))(cd at':Int):ak Pg X 110 [pr q.rr,vi cd,vi at'] H fun v H'=>v=.bool false∧∃M',Rd F q k H' M'∧SH S H0 H' (P++(M'++L)):=
 ak.mono (qw hR hS.UC cd at') fun v H' ⟨e,M',hR',hS'⟩=>⟨e,M',hR',hS.GI hS'⟩
theorem UE{q:RC}{k:Nat}{P:List aC}(hR:Rd F q k H M)(hS:SH S H0 H (P++(M++L))):ak Pg X 109 [pr q.rr] H fun v H'=>v=.bool false∧∃M',Rd F q k H' M'∧SH S H0 H' (P++(M'++L)):=
 ak.mono (Da hR hS.UC) fun v H' ⟨e,M',hR',hS'⟩=>⟨e,M',hR',hS.GI hS'⟩
theorem Zi{q:RC}{k:Nat}{P:List aC}(hR:Rd F q k H M)(hS:SH S H0 H (P++(M++L)))(kd:Int)(hkd:kd≠0):ak Pg X 111 [pr q.rr,vi kd] H fun v H'=>∃(b:Bool)(k':Nat)(M':List aC),v=.bool b∧Rd F q k' H' M'∧SH S H0 H' (P++(M'++L))∧k≤k'∧(b=true→k'=k +1)∧H.next≤H'.next:=
 ak.mono (zq hR hS.UC kd hkd) fun v H' ⟨b,k',M',e,hR',hS',h1,h2⟩=>⟨b,k',M',e,hR',hS.GI hS',h1,h2,hS'.ext.next⟩
abbrev kQ(nm:ByteArray)(u f w:Bool)(ch root at':Int):List Value:=[.string nm,.bool u,.bool f,.bool w,vi ch,vi root,vi at']
theorem L8{q:RC}{k ru:Nat}{nm:ByteArray}{u f w:Bool}{ch root at':Int}(hR:Rd F q k H M)(hS:SH S H0 H ((ru,141,kQ nm u f w ch root at')::(M++L))):
 ak Pg X 113 [pr q.rr,pr ru] H fun v H'=>∃(b w':Bool)(ch':Int)(k':Nat)(M':List aC),v=.bool b∧Rd F q k' H' M'∧k≤k'∧SH S H0 H' ((ru,141,kQ nm u f w' ch' root at')::(M'++L)):=by
 have hkn:=hR.le
 refine ce [0,1,4,5,40] ?_;refine tl ?_
 refine au ?_
 refine hR.JF (P:=[_]) hS 0 aa fun H1 pq hS1 hx1=>?_
 rw[show min (k +0) (q.n -1)=k by omega]
 obtain⟨kd,Qc,e1,t1,xa,xn,xc,he,_,_,_,hz⟩:=pq.tok hkn.1
 rw[he,wK]
 refine au ?_
 refine aO (fun hc=>?_) (fun hc=>?_)
 ·refine rr ?_;exact⟨true,w,ch,k,M,rfl,pq,Nat.le_refl _,hS1⟩
 refine pq.Oi (P:=[_]) hS1 fun H2 M2 hR2 hS2 _=>?_
 have hk2:=hR2.le
 refine hR2.JF (P:=[_]) hS2 0 aa fun H3 wJ kH hx3=>?_
 obtain⟨Zh,at2,e2,t2,ya,yn,yc,he2,_,ht2,_,_⟩:=wJ.tok (i:=min (min (k +1) (q.n -1) +0) (q.n -1)) aa
 rw[he2]
 refine kH.jI rfl rfl rfl fun H4 rt nK hx4=>?_
 have yE:=wJ.ex hx4
 have hS:SH S H0 H4 ((rt,128,[vi Zh,vn at2,vn e2,.string t2,.slice ya yn yc])::(ru,141,kQ nm u f w ch root at')::(M2++L)):=nK
 refine hS.az ?_;refine hS.bL ?_
 refine ak.mono (wL hS.wf _ _ _ _ _ rfl) ?_
 rintro v H5 ⟨rfl,hx5⟩
 have Ec:=yE.ex hx5
 have hS:=hS.call hx5
 refine hS.az ?_
 refine aA (fun hb=>?_) (fun hb=>?_)
 ·refine ak.mono (UE (P:=[_,_]) Ec hS) ?_
  rintro v H6 ⟨rfl,M6,uk,kY⟩
  refine rr ?_;exact⟨false,w,ch,_,M6,rfl,uk,aa,SH.drop (A:=[_]) kY⟩
 have Zj:∀cd p:Int,ak Pg X 110 [pr q.rr,vi cd,vi p] H5 fun v H'=>v=.bool false∧∃M',Rd F q (min (k +1) (q.n -1)) H' M'∧SH S H0 H' ((ru,141,kQ nm u f w ch root at')::(M'++L)):=fun cd p=>by
  refine ak.mono (UD (P:=[_,_]) Ec hS cd p) ?_
  rintro v H6 ⟨rfl,M6,uk,kY⟩
  exact⟨rfl,M6,uk,SH.drop (A:=[_]) kY⟩
 have last:∀(H6:ae)(w':Bool)(ch':Int) y,Rd F q (min (k +1) (q.n -1)) H6 M2→SH S H0 H6 ((ru,141,kQ nm u f w' ch' root at')::(M2++L))→aT Pg X (sub uV [1,1,1,1,1,1,1]) (tQ (pr q.rr) (pr ru) (.bool false) (pr rt) (.string t2) y H6) (cK Pg [.tmp 4] fun v H'=>∃(b w':Bool)(ch':Int)(k':Nat)(M':List aC),v=.bool b∧Rd F q k' H' M'∧k≤k'∧SH S H0 H' ((ru,141,kQ nm u f w' ch' root at')::(M'++L))):=by
  intro H6 w' ch' y uk kY
  refine tl ?_
  refine au ?_
  refine uk.Oi (P:=[_]) kY fun H7 M7 Oh Db _=>?_
  refine rr ?_;exact⟨true,w',ch',_,M7,rfl,Oh,aa,Db⟩
 refine hS.a_ ?_;refine hS.az ?_
 refine aA (fun hb2=>?_) (fun hb2=>?_)
 ·refine hS.a_ ?_
  refine ak.mono (Zj _ _) ?_
  rintro v H6 ⟨rfl,M6,uk,kY⟩
  refine rr ?_;exact⟨false,w,ch,_,M6,rfl,uk,aa,kY⟩
 refine hS.a_ ?_;refine hS.az ?_
 refine aA (fun hb3=>?_) (fun hb3=>?_)
 ·refine Ec.st (SH.drop (A:=[_]) hS) rfl rfl rfl rfl (Nat.le_of_ble_eq_true rfl) rfl fun H6 uk kY _=>?_
  exact last _ _ _ _ uk kY
 refine aA (fun hb4=>?_) (fun hb4=>?_)
 ·refine Ec.st (SH.drop (A:=[_]) hS) rfl rfl rfl rfl (Nat.le_of_ble_eq_true rfl) rfl fun H6 uk kY _=>?_
  exact last _ _ _ _ uk kY
 refine aA (fun hb5=>?_) (fun hb5=>?_)
 ·refine Ec.st (SH.drop (A:=[_]) hS) rfl rfl rfl rfl (Nat.le_of_ble_eq_true rfl) rfl fun H6 uk kY _=>?_
  exact last _ _ _ _ uk kY
 refine hS.a_ ?_
 refine ak.mono (Zj _ _) ?_
 rintro v H6 ⟨rfl,M6,uk,kY⟩
 refine rr ?_;exact⟨false,w,ch,_,M6,rfl,uk,aa,kY⟩
end
section
variable{H0 H:ae}{L M:List aC}{S:List Nat}{F:Nat→Prop}
theorem _root_.Go.Ae.SH.adZ{S:List Nat}{H0 H:ae}{L:List aC}{ty:TypeId}{z:List Value}{K:Value→ae→Prop}(hS:SH S H0 H L)
 (k:∀H2 r,SH S H0 H2 ((r,ty,z)::L)→Ext H H2→K (.pointer (some ⟨r,0,none⟩)) H2):ME (Go.Ae.bZ ty z H) K:=by
 have hO:=SH.refl hS.wf
 refine hO.bZ fun H1 r hO=>?_
 exact k H1 r (SH.frame (M:=[]) (L:=L) hS hO) hO.ext
theorem rO(P M L:List aC):(P++(M++L)).Perm (M++(P++L)):=by
 rw[←List.append_assoc,←List.append_assoc];exact List.Perm.append_right _ List.perm_append_comm
abbrev RC.up(q:RC)(b:Bool):RC:={q with nu:=if b then q.nu +1 else q.nu}
def Ao(F:Nat→Prop)(q:RC)(k:Nat)(S:List Nat)(H0:ae)(L:List aC)(v:Value)(H':ae):Prop:=∃(b:Bool)(k':Nat)(M':List aC),v=.bool b∧Rd F (q.up b) k' H' M'∧SH S H0 H' (M'++L)∧k≤k'∧(b=true→k<k'∧q.nu<120)
theorem Ao.no{q:RC}{k k':Nat}{M':List aC}{ru:Nat}{l:List Value}(hk:k≤k')(hR:Rd F q k' H M')(hS:SH S H0 H ((ru,141,l)::(M'++L))):Ao F q k S H0 L (.bool false) H:=
 ⟨false,k',M',rfl,hR,SH.drop (A:=[_]) hS,hk,fun h=>by cases h⟩
theorem UF{q:RC}{k k0 ru:Nat}{nm:ByteArray}{u f w:Bool}{ch root at':Int}(hnm:nm.size≤1000000)(hk:k0<k)(hnu:q.nu<120)(hR:Rd F q k H M)(hS:SH S H0 H ((ru,141,kQ nm u f w ch root at')::(M++L)))(x4 x5 x6 x7:Value)(rg):
 aT Pg X (sub dG [1,1,1,1,1,1,1,1,1,1,1,1,1,1]) (fG (pr q.rr) (.bool false) (pr ru) x4 x5 x6 x7 rg H) (cK Pg [.tmp 2] (Ao F q k0 S H0 L)):=by
 have hty:=hR.ty (SH.drop (A:=[_]) hS)
 have JG:¬qA H ru 3∧¬qA H ru 269∧¬qA H ru 128:=by
  have h:=(hS.bk _ (List.mem_cons_self ..)).QS
  exact⟨fun ht=>(by have:=h.one ht;cases this),fun ht=>(by have:=h.one ht;cases this),fun ht=>(by have:=h.one ht;cases this)⟩
 have hR0:=hR
 have hS0:=hS
 obtain⟨rv,rcs,gr,nv,bY,gn,sc,sa,nr,nn,rfl,h1,h2,h3,h4,h5,h6,h7,h8,h9,h10,rY⟩:=hR
 obtain⟨na',nc,cc,rfl,hnl,_⟩:∃a n c,rv=.slice a n c∧rcs.length=n*7∧True:=by
  rcases h3 with⟨rfl,rfl,_⟩|⟨r,n,aF,rfl,hn,_⟩
  ·exact⟨_,_,_,rfl,by simp,trivial⟩
  ·exact⟨_,_,_,rfl,hn,trivial⟩
 have hnn:nc=nr:=by omega
 subst hnn
 subst h5
 have hS:=SH.own (M:=(ru,141,kQ nm u f w ch root at')::(q.rt,122,[.slice q.a q.n q.c])::(q.ra,3,[vn k])::(q.rp,129,[gJ q.rt q.ra])::(q.rr,133,[gJ q.rt q.ra,mY q.rp q.ra q.rt,.slice na' q.nu cc,nv,vi sc,vi sa])::(gr++gn)) (L:=L) hS0
 refine tl ?_
 repeat(first|(refine hS.az ?_)|(refine hS.iG ?_)|(refine hS.mW ?_))
 refine hS.S8 rfl rfl rfl aa fun H2 rx hS ji=>?_
 have hS:=hS.to (cs':=kQ nm u f w ch root at') rfl
 have hS:=hS.perm (L':=(rx,141,kQ nm u f w ch root at')::(gr++((ru,141,kQ nm u f w ch root at')::(q.rt,122,[.slice q.a q.n q.c])::(q.ra,3,[vn k])::(q.rp,129,[gJ q.rt q.ra])::(q.rr,133,[gJ q.rt q.ra,mY q.rp q.ra q.rt,.slice na' q.nu cc,nv,vi sc,vi sa])::gn))) (List.Perm.cons _ (rO [_,_,_,_,_] gr gn))
 refine h3.Co hS aa rfl rfl aa fun v' H3 gr' hg' hS hx' K_ kV=>?_
 have hS:=hS.perm (rO gr' [_,_,_,_,_] gn)
 simp only[List.cons_append,List.nil_append]at hS
 obtain⟨va,Xq,vc,rfl,hvl,_⟩:∃a n c,v'=.slice a n c∧(rcs++kQ nm u f w ch root at').length=n*7∧True:=by
  rcases hg' with⟨_,h,_⟩|⟨r,n,aF,rfl,hn,_⟩
  ·exact absurd h (by simp)
  ·exact⟨_,_,_,rfl,hn,trivial⟩
 have hvn:Xq=q.nu +1:=by rw[List.length_append,h4]at hvl;simp at hvl;omega
 subst hvn
 refine hS.qf fun Hn hS=>?_
 have hne:q.rr≠ru:=(hS.nq 0 4 rfl rfl aa).symm
 refine splitK (fun K hK=>?_) ?_
 ·simp only[ji,aN,aQ]
  generalize q.rr=rr at hne
  rcases kV with e|e<;>rw[e]<;>apply oG (a:=rr) (b:=ru) hne (by intros;rfl) (by kernel_rfl) (by kernel_rfl) hK
 have hx:=hS.ext
 have hE:=zo (es:=7) (n:=q.nu) h4 (xs:=kQ nm u f w ch root at') rfl
 refine rr ?_;refine⟨true,k,(q.rt,122,[.slice q.a q.n q.c])::(q.ra,3,[vn k])::(q.rp,129,[gJ q.rt q.ra])::(q.rr,133,[gJ q.rt q.ra,mY q.rp q.ra q.rt,.slice va (q.nu +1) vc,nv,vi sc,vi sa])::(gr'++gn),rfl,?_,?_,aa,fun _=>⟨hk,hnu⟩⟩
 ·refine⟨.slice va (q.nu +1) vc,rcs++kQ nm u f w ch root at',gr',nv,bY,gn,sc,sa,q.nu +1,nn,rfl,h1,?_,hg',hvl,rfl,fun i hi=>?_,h7,h8,h9,fun i hi=>?_,rY⟩
  ·refine h2.st hx (fun r hr=>.inr ?_) (Nat.le_refl _)
   rcases List.mem_cons.1 hr with rfl|hr
   ·exact JG.2
   ·exact(hty r hr).2
  ·rcases Nat.lt_or_ge i q.nu with h|h
   ·rw[hE.1 i h]
    exact h6 i h
   ·obtain rfl:i=q.nu:=by omega
    rw[hE.2]
    exact⟨nm,u,f,w,ch,root,at',rfl,hnm⟩
  ·have hst:∀r∈((ru,141,kQ nm u f w ch root at')::(q.rt,122,[.slice q.a q.n q.c])::(q.ra,3,[vn k])::(q.rp,129,[gJ q.rt q.ra])::(q.rr,133,[gJ q.rt q.ra,mY q.rp q.ra q.rt,.slice na' q.nu cc,nv,vi sc,vi sa])::(gr++gn)).map (fun e:aC=>e.1),(¬F r∨¬qA H r 3)∧¬qA H r 269:=fun r hr=>by
    rcases List.mem_cons.1 hr with rfl|hr
    ·exact⟨.inr JG.1,JG.2.1⟩
    ·exact⟨(hty r hr).1.imp_left (fun e=>by rw[e];exact rY),(hty r hr).2.1⟩
   exact(h10 i hi).st hx hst
 ·have hF:=SH.frame (M:=(ru,141,kQ nm u f w ch root at')::(q.rt,122,[.slice q.a q.n q.c])::(q.ra,3,[vn k])::(q.rp,129,[gJ q.rt q.ra])::(q.rr,133,[gJ q.rt q.ra,mY q.rp q.ra q.rt,.slice na' q.nu cc,nv,vi sc,vi sa])::(gr++gn)) hS0 hS
  exact SH.drop (A:=[_]) hF
theorem aaA{q:RC}{k k0 ru:Nat}{nm:ByteArray}{u f w:Bool}{ch root at':Int}(hF:∀r,H.next≤r→F r)(hnm:nm.size≤1000000)(hk:k0≤k)(hnu:q.nu<120)(hR:Rd F q k H M)(hS:SH S H0 H ((ru,141,kQ nm u f w ch root at')::(M++L)))(x4 x5 x6 x7:Value)(rg):
 aT Pg X (sub dG [1,1,1,1,1,1,1,1]) (fG (pr q.rr) (.bool false) (pr ru) x4 x5 x6 x7 rg H) (cK Pg [.tmp 2] (Ao F q k0 S H0 L)):=by
 have hkn:=hR.le
 refine tl ?_
 refine au ?_
 refine hR.Oi (P:=[_]) hS fun H1 M1 pq hS1 hn1=>?_
 refine ak.mono (Zi (P:=[_]) pq hS1 5 (by decide)) ?_
 rintro v H2 ⟨b,k2,M2,rfl,hR2,hS2,hk2,hb2,hn1'⟩
 refine au ?_
 refine aA (fun hb=>?_) (fun hb=>?_)
 ·refine rr ?_;exact(.no aa hR2 hS2)
 have hb':b=true:=by cases b with
  |true=>rfl
  |false=>cases hb
 have aeG:=hb2 hb'
 have hkn2:=hR2.le
 have hn2:H.next≤H2.next:=by omega
 refine ak.mono (L6 q k2 F H2 M2 0 (fun r hr=>hF r aa) hR2 hS2.UC.own aa) ?_
 rintro v H3 ⟨i,b3,k3,M3,rfl,wJ,ad1,hk3,_⟩
 have kH:=hS2.GI ad1
 refine au ?_
 refine aA (fun hb=>?_) (fun hb=>?_)
 ·refine rr ?_;exact(.no aa wJ kH)
 refine wJ.st kH rfl rfl rfl rfl (Nat.le_of_ble_eq_true rfl) rfl fun H4 yE nK _=>?_
 have nK:SH S H0 H4 ((ru,141,kQ nm u f w ch i at')::(M3++L)):=nK
 refine ak.mono (L8 yE nK) ?_
 rintro v H5 ⟨b5,w5,ch5,k5,M5,rfl,Ec,hk5,hS5⟩
 refine au ?_
 refine aA (fun hb=>?_) (fun hb=>?_)
 ·refine rr ?_;exact(.no aa Ec hS5)
 refine ak.mono (Zi (P:=[_]) Ec hS5 7 (by decide)) ?_
 rintro v H6 ⟨b6,k6,M6,rfl,uk,kY,Qa,hb6,_⟩
 refine au ?_
 refine aA (fun hb=>?_) (fun hb=>?_)
 ·refine rr ?_;exact(.no aa uk kY)
 exact UF hnm aa hnu uk kY _ _ _ _ _
theorem UG{q:RC}{k k0 ru:Nat}{f:Bool}(hF:∀r,H.next≤r→F r)(hnu:q.nu≤120)(hk0:k0≤k)(hR:Rd F q k H M)(hS:SH S H0 H ((ru,141,kQ ⟨#[]⟩ false f false 0 0 0)::(M++L)))(x4 x5 x6 x7:Value)(rg):
 aT Pg X (sub dG [1,1,1]) (fG (pr q.rr) (.bool false) (pr ru) x4 x5 x6 x7 rg H) (cK Pg [.tmp 2] (Ao F q k0 S H0 L)):=by
 have hkn:=hR.le
 refine tl ?_
 refine au ?_
 refine hR.JF (P:=[_]) hS 0 aa fun H1 pq hS1 hx1=>?_
 rw[show min (k +0) (q.n -1)=k by omega]
 obtain⟨kd,Qc,e1,t1,xa,xn,xc,he,_,ht1,_,hz⟩:=pq.tok hkn.1
 rw[he]
 have JG:¬qA H1 ru 3∧¬qA H1 ru 269∧¬qA H1 ru 128:=by
  have h:=(hS1.bk _ (List.mem_cons_self ..)).QS
  exact⟨fun ht=>(by have:=h.one ht;cases this),fun ht=>(by have:=h.one ht;cases this),fun ht=>(by have:=h.one ht;cases this)⟩
 have hS1:SH S H0 H1 ([(ru,141,kQ ⟨#[]⟩ false f false 0 0 0)]++(M++L)):=hS1
 refine hS1.own.jI rfl rfl rfl fun H4 rt nK hx4=>?_
 have hS:SH [ru] H1 H4 [(rt,128,[vi kd,vn Qc,vn e1,.string t1,.slice xa xn xc]),(ru,141,kQ ⟨#[]⟩ false f false 0 0 0)]:=nK
 refine hS.az ?_;refine hS.bL ?_
 refine ak.mono (wL hS.wf _ _ _ _ _ rfl) ?_
 rintro v H5 ⟨rfl,hx5⟩
 have hS:=hS.call hx5
 refine hS.az ?_
 refine aA (fun hb=>?_) (fun hb=>?_)
 ·have hf:=hS1.frame (M:=[_]) hS
  have Ec:=pq.stay hS.ext fun r hr=>by
   rw[List.mem_singleton]at hr;subst hr
   exact⟨.inr JG.1,JG.2⟩
  refine ak.mono (UE (P:=[_,_]) Ec hf) ?_
  rintro v H6 ⟨rfl,M6,uk,kY⟩
  refine rr ?_;exact(.no hk0 uk (SH.drop (A:=[_]) kY))
 repeat(first|(refine hS.az ?_)|(refine hS.iG ?_)|(refine hS.qf fun Hn hS=>?_))
 have hne:rt≠ru:=hS.nq 0 1 rfl rfl aa
 refine splitK (fun K hK=>?_) ?_
 ·simp only[aN,aQ]
  apply oG (a:=rt) (b:=ru) hne (by intros;rfl) (by kernel_rfl) (by kernel_rfl) hK
 have hx:=hS.ext
 generalize hM (hM (hM H5 _) _) Hn=H6 at*
 have Zk:=hS1.frame (M:=[_]) hS
 have Zk:SH S H0 H6 ((ru,141,kQ t1 (decide (kd=1)) f false 0 0 Qc)::(M++L)):=SH.drop (A:=[_]) Zk
 have hn6:H.next≤H6.next:=by have:=hx.next;have:=hx1.next;omega
 have uk:Rd F q k H6 M:=pq.stay hx fun r hr=>by
  have hr:r∈[ru]:=hr
  rw[List.mem_singleton]at hr;subst hr
  exact⟨.inr JG.1,JG.2⟩
 clear hS
 obtain⟨⟨ra,rc,hrc⟩,hrl⟩:=uk.rules (L:=[_]++L) (SH.UC (P:=[_]) Zk)
 have hS:=Zk
 refine ME.ld hrc ?_
 refine au ?_
 refine ah (fun hc=>?_) (fun hc=>?_)
 ·refine hS.a_ ?_
  refine ak.mono (UD (P:=[_]) uk hS 3 _) ?_
  rintro v H7 ⟨rfl,M7,Oh,Db⟩
  refine rr ?_;exact(.no hk0 Oh Db)
 refine hS.a_ ?_;refine hS.az ?_
 have kL:∀(b:Bool) rg,Az rg 72=.bool b→aT Pg X (sub dG [1,1,1,1,1,1,1,0,1]) (fG (pr q.rr) (.bool false) (pr ru) x4 (pr rt) x6 x7 rg H6) (kN Pg X (sub dG [1,1,1,1,1,1,1,1]) (cK Pg [.tmp 2] (Ao F q k0 S H0 L))):=by
  intro b rg hb
  refine tl ?_
  rw[hb]
  refine au ?_
  refine aA (fun hb=>?_) (fun hb=>?_)
  ·refine hS.a_ ?_
   refine ak.mono (UD (P:=[_]) uk hS 18 _) ?_
   rintro v H7 ⟨rfl,M7,Oh,Db⟩
   refine rr ?_;exact(.no hk0 Oh Db)
  ·exact aaA (fun r hr=>hF r aa) ht1 hk0 aa uk hS _ _ _ _ _
 refine aA (fun hb=>?_) (fun hb=>?_)
 ·refine hS.a_ ?_;refine hS.az ?_
  exact kL _ _ rfl
 ·exact kL _ _ rfl
theorem Qd{q:RC}{k:Nat}(hF:∀r,H.next≤r→F r)(hnu:q.nu≤120)(hR:Rd F q k H M)(hS:SH S H0 H (M++L)):ak Pg X 73 [pr q.rr] H (Ao F q k S H0 L):=by
 have hkn:=hR.le
 refine ce [0,2,3,4,5,6,7] ?_;refine tl ?_
 refine hS.adZ fun H1 ru hS1 hx1=>?_
 have pq:=hR.ex hx1
 have hS1:SH S H0 H1 ((ru,141,kQ ⟨#[]⟩ false false false 0 0 0)::(M++L)):=hS1
 refine au ?_
 refine pq.JF (P:=[_]) hS1 0 aa fun H2 hR2 hS2 hx2=>?_
 rw[show min (k +0) (q.n -1)=k by omega]
 obtain⟨kd,Qc,e1,t1,xa,xn,xc,he,_⟩:=hR2.tok hkn.1
 rw[he]
 refine hS2.jI rfl rfl rfl fun H3 rt kH hx3=>?_
 have wJ:=hR2.ex hx3
 have hS:SH S H0 H3 ((rt,128,[vi kd,vn Qc,vn e1,.string t1,.slice xa xn xc])::(ru,141,kQ ⟨#[]⟩ false false false 0 0 0)::(M++L)):=kH
 have hn3:H.next≤H3.next:=by have:=hx1.next;have:=hx2.next;have:=hx3.next;omega
 have mid:∀(b:Bool) x5 x6 x7 rg H4,Az rg 28=.bool b→Rd F q k H4 M→H3.next≤H4.next→SH S H0 H4 ((ru,141,kQ ⟨#[]⟩ false false false 0 0 0)::(M++L))→aT Pg X (sub dG [1,1,0,1,1]) (fG (pr q.rr) (.bool false) (pr ru) (pr rt) x5 x6 x7 rg H4) (kN Pg X (sub dG [1,1,1]) (cK Pg [.tmp 2] (Ao F q k S H0 L))):=by
  intro b x5 x6 x7 rg H4 hb yE hn4 nK
  refine tl ?_
  rw[hb]
  refine au ?_
  refine aA (fun hb=>?_) (fun hb=>?_)
  ·refine yE.Oi (P:=[_]) nK fun H5 M5 Ec hS5 hn5=>?_
   refine Ec.st hS5 rfl rfl rfl rfl (Nat.le_of_ble_eq_true rfl) rfl fun H6 uk kY hn6=>?_
   exact UG (fun r hr=>hF r aa) hnu aa uk kY _ _ _ _ _
  ·exact UG (fun r hr=>hF r aa) hnu (Nat.le_refl _) yE nK _ _ _ _ _
 repeat(first|(refine hS.az ?_)|(refine hS.a_ ?_))
 refine ah (fun hc=>?_) (fun hc=>?_)
 ·refine hS.a_ ?_;refine hS.az ?_
  refine aA (fun hb=>?_) (fun hb=>?_)
  ·refine wJ.JF (P:=[_,_]) hS 1 aa fun H4 yE nK hx4=>?_
   obtain⟨kd,Qc,e1,t1,xa,xn,xc,he,_⟩:=yE.tok (i:=min (k +1) (q.n -1)) aa
   rw[he]
   refine ak.mono (wL nK.wf _ _ _ _ _ rfl) ?_
   rintro v H5 ⟨rfl,hx5⟩
   exact mid _ _ _ _ _ _ rfl (yE.ex hx5) (by have:=hx4.next;have:=hx5.next;omega) (SH.drop (A:=[_]) (nK.call hx5))
  ·exact mid _ _ _ _ _ _ rfl wJ (Nat.le_refl _) (SH.drop (A:=[_]) hS)
 ·exact mid _ _ _ _ _ _ rfl wJ (Nat.le_refl _) (SH.drop (A:=[_]) hS)
end
section
variable{H0 H:ae}{L M:List aC}{S:List Nat}{F:Nat→Prop}
def Gr(b:Nat)(H:ae)(ra:Option Addr)(rn:Nat)(rcs:List Value)(na:Option Addr)(nn:Nat)(bY:List Value):Prop:=
 eO (b≤·) 141 H ra rn 7 rcs∧rn≤120∧(∀i,i<rn→RuC (El rcs 7 i))∧eO (b≤·) 145 H na nn 5 bY∧nn≤4000∧∀i,i<nn→VU (b≤·) H (El bY 5 i)
def UH(b:Nat)(v:Value)(H:ae):Prop:=∃ra rn rc rcs na nn nc bY,∃(cd e:Int),v=.tuple ⟨[.agg ⟨[.slice ra rn rc,.slice na nn nc]⟩,.agg ⟨[vi cd,vi e]⟩]⟩∧Gr b H ra rn rcs na nn bY∧(na=none∨nc=aK 5)
theorem Gr.nil(b:Nat)(H:ae):Gr b H none 0 [] none 0 []:=
 ⟨eO.nil _ _ _ _ _,aa,fun i h=>absurd h aa,eO.nil _ _ _ _ _,aa,fun i h=>absurd h aa⟩
theorem Rd.acQ{q:RC}{k:Nat}(hR:Rd F q k H M)(hS:SH S H0 H (M++L))(j:Nat)(hj:j≤1000){K:Value→Value→ae→Prop}
 (h:∀H',Rd F q k H' M→SH S H0 H' (M++L)→Ext H H'→K (gJ q.rt q.ra) (.agg ⟨El q.cs 5 (min (k +j) (q.n -1))⟩) H'):ME (lM none (.pointer (some ⟨q.rp,0,none⟩)) H) fun v H1=>eG Pg X (Dy v) [vn j] H1 (K v):=by
 have hR0:=hR
 obtain⟨rv,rcs,gr,nv,bY,gn,sc,sa,nr,nn,rfl,_⟩:=hR
 refine hS.ld 2 rfl rfl ?_
 show ak Pg X 71 [vn j,pr q.rt,pr q.ra] H (K _)
 refine ak.mono (Uz hR0 hS j hj) ?_
 rintro v H' ⟨rfl,hx⟩
 exact h H' (hR0.ex hx) (hS.call hx) hx
theorem ja{α:Type}{x:α}(A B:List α){C:List α}(h:(A++B).Perm C):(A++x::B).Perm (x::C):=List.perm_middle.trans (h.cons x)
theorem Qf(hw:Wf H)(x0:Value)(q0:RC)(rs rg re rf:Nat)(f8:Value)(H1:ae){M:List aC}(hge:H.next≤q0.ra∧q0.ra<H1.next)(hR:Rd (fun r=>H.next≤r∧r≠q0.ra) {q0 with nu:=0} 0 H1 M)(xe:List Value)
 (hS:SH [] H H1 (M++[(re,72,xe),(rs,72,[vi 0,vi 0]),(rg,69,[.slice none 0 0,.slice none 0 0])]))(x4 x6:Value)(eP):
 aT Pg X (.loop (sub Ad [1,1,1,1,1,1,1,0,1,0,0])) (Gm x0 (pr rg) (pr rs) x4 (pr re) x6 (pr q0.rp) f8 (pr q0.rr) (.bool true) eP H1) (iA 0 (kN Pg X (sub Ad [1,1,1,1,1,1,1,1]) (cK Pg [.cell 2 69,.cell 3 72] (Q1 (UH H.next) H)))):=by
 refine yD 10 (I:=fun m aW H'=>∃(b:Bool)(j k:Nat)(M:List aC),aW=.bool b∧Rd (fun r=>H.next≤r∧r≠q0.ra) {q0 with nu:=j} k H' M∧k +m=q0.n∧j≤120∧q0.ra<H'.next∧SH [] H H' (M++[(re,72,xe),(rs,72,[vi 0,vi 0]),(rg,69,[.slice none 0 0,.slice none 0 0])])) ?_ q0.n ⟨true,0,0,M,rfl,hR,aa,aa,hge.2,hS⟩
 clear hR hS
 rintro m aW eP H2 ⟨b,j,k,M2,rfl,hR,hkm,hj,hra,hS⟩
 refine tl ?_
 refine au ?_
 refine aA (fun hb=>?_) (fun hb=>?_)
 rotate_left
 ·refine tl ?_
  obtain⟨rv,rcs,gr,nv,bY,gn,sc,sa,nr,nn,rfl,h1,h2,h3,h4,h5,h6,h7,h8,h9,h10,rY⟩:=hR
  have h5:nr=j:=h5
  subst h5
  have hS:=hS.perm (rO _ [_,_,_] [])
  simp only[List.cons_append,List.nil_append,List.append_nil]at hS
  obtain⟨va,Xq,vc,rfl⟩:∃a n c,rv=.slice a n c:=by rcases h3 with⟨rfl,_⟩|⟨r,n,aF,rfl,_⟩<;>exact⟨_,_,_,rfl⟩
  obtain⟨wa,wn,wc,rfl⟩:∃a n c,nv=.slice a n c:=by rcases h7 with⟨rfl,_⟩|⟨r,n,aF,rfl,_⟩<;>exact⟨_,_,_,rfl⟩
  refine au ?_
  refine hS.bL ?_
  have hS0:=hS
  have hS:=SH.own (M:=[(re,72,xe),(rs,72,[vi 0,vi 0]),(rg,69,[.slice none 0 0,.slice none 0 0])]) hS0
  repeat(first|(refine PU.b2 rfl ?_)|(refine hS.iB fun Hn hS=>?_))
  refine rr ?_
  repeat(refine hS.bL ?_)
  have hx:=hS.ext
  have hS:=hS0.frame (M:=[_,_,_]) hS
  have hxH:Ext H Hn:=hS.ext
  have hf:∀e:aC,e∈gr++gn→H.next≤e.1:=fun e he=>hS.wm (List.mem_append_right [_,_,_,_,_,_,_] he)
  obtain⟨a1,n1,c1,e1,hl1,hf1⟩:=h3.W9 (F:=(H.next≤·)) (hS.perm (rO [_,_,_,_,_,_,_] gr gn)) fun e he=>hf e (List.mem_append_left _ he)
  obtain⟨a2,n2,c2,e2,hl2,hf2⟩:=h7.W9 (F:=(H.next≤·)) (hS.perm ((List.Perm.append_left [_,_,_,_,_,_,_] List.perm_append_comm).trans (rO [_,_,_,_,_,_,_] gn gr))) fun e he=>hf e (List.mem_append_right _ he)
  cases e1
  cases e2
  obtain rfl:Xq=nr:=by omega
  obtain rfl:wn=nn:=by omega
  have hO:=SH.own (M:=[(re,72,xe),(rs,72,[vi 0,vi 0]),(rg,69,[.slice none 0 0,.slice none 0 0])]) hS0
  have hty:=hO.PR (ty:=3) rfl
  have ad2:=hO.PR (ty:=269) rfl
  have hcap:wa=none∨wc=aK 5:=by
   rcases h7 with⟨e,_,_⟩|⟨r,n,aF,e,_,_⟩<;>cases e
   ·exact .inl rfl
   ·exact .inr rfl
  refine⟨⟨va,Xq,vc,rcs,wa,wn,wc,bY,0,0,rfl,⟨hf1,hj,h6,hf2,h9,fun i hi=>?_⟩,hcap⟩,hxH⟩
  refine((h10 i hi).wk fun r _ h=>h.1).st hx fun r hr=>⟨.inr (hty r hr),ad2 r hr⟩
 refine ak.mono (Qd (F:=fun r=>H.next≤r∧r≠q0.ra) (q:={q0 with nu:=j}) (fun r hr=>⟨?_,?_⟩) hj hR hS) ?_
 ·have:=hS.ext.next;omega
 ·omega
 rintro v H3 ⟨b,k3,M3,rfl,wJ,kH,hk3,hb3⟩
 refine au ?_
 refine aA (fun hb=>?_) (fun hb=>?_)
 ·have hb':b=false:=by cases b with
   |false=>rfl
   |true=>cases hb
  subst hb'
  obtain⟨rv,rcs,gr,nv,bY,gn,sc,sa,nr,nn,rfl,h1,h2,h3,h4,h5,h6,h7,h8,h9,h10,rY⟩:=wJ
  have hS:=kH.perm (rO _ [_,_,_] [])
  simp only[List.cons_append,List.nil_append,List.append_nil]at hS
  repeat(first|(refine hS.az ?_)|(refine PU.b2 rfl ?_)|(refine hS.mW ?_)|(refine hS.qf fun Hn hS=>?_))
  refine splitK (fun K hK=>?_) ?_
  ·simp only[aN,aQ]
   have n1:=hS.nq 1 2 rfl rfl aa
   have n2:=hS.nq 1 6 rfl rfl aa
   have n3:=hS.nq 2 6 rfl rfl aa
   generalize q0.rr=rr at n2 n3⊢
   apply Gf (a:=rs) (b:=rg) (c:=rr) n1 n2 n3 (by intros;rfl) (by kernel_rfl) (by kernel_rfl) hK
  refine rr ?_
  repeat(refine hS.bL ?_)
  exact⟨⟨none,0,0,[],none,0,0,[],sc,sa,rfl,Gr.nil _ _,.inl rfl⟩,hS.ext⟩
 have hb':b=true:=by cases b with
  |true=>rfl
  |false=>cases hb
 subst hb'
 have hk4:=hb3 rfl
 have wJ:Rd (fun r=>H.next≤r∧r≠q0.ra) {q0 with nu:=j +1} k3 H3 M3:=wJ
 refine wJ.acQ kH 0 aa fun H4 yE nK hx4=>?_
 have hkn:=yE.le
 rw[show min (k3 +0) (q0.n -1)=k3 by have:k3<q0.n:=hkn.1;omega]
 obtain⟨kd,Qc,e1,t1,xa,xn,xc,he,_⟩:=yE.tok hkn.1
 have he:El q0.cs 5 k3=_:=he
 rw[he,wK]
 refine au ?_
 refine⟨q0.n -k3,by have:k3<q0.n:=hkn.1;omega,_,_,_,rfl,_,j +1,k3,M3,rfl,yE,by have:k3<q0.n:=hkn.1;omega,by have h2:j<120:=hk4.2;omega,(nK.lo _ (List.mem_append_left _ yE.mem)).2,nK⟩
theorem Ee(hw:Wf H)(hT:rX H)(s:ByteArray):ak Pg X 29 [.string s] H (Q1 (UH H.next) H):=by
 have hS:=SH.refl hw
 refine ce [0,2,3,4,5,6,7,8,9,10] ?_;refine tl ?_
 refine hS.bZ fun Hn rg hS=>?_
 refine hS.bZ fun Hn rs hS=>?_
 refine ak.mono (JC hS.wf (hT.ex hS.ext) s) ?_
 rintro v H1 ⟨⟨ts,cd,e,rfl,hts,hT1⟩,hx⟩
 have hlt:=hS.lt
 have hS1:=hS.call hx
 have hS:=hS1.base
 refine au ?_
 refine hS.bZ fun Hn rt hS=>?_
 refine hS.bZ fun Hn re hS=>?_
 have key:ax ts=[ts]∧aR ts=true:=by rcases hts with rfl|⟨a,n,c,rfl⟩<;>exact⟨rfl,rfl⟩
 refine hS.st 1 rfl (by rw[key.1];rfl) (Nat.le_refl 1) (by rw[key.1];show av (aR ts) _ _=_;rw[key.2];rfl) fun Hn hS=>?_
 rw[key.1]at hS
 have hS:SH [rs,rg] H1 Hn [(re,72,[vi 0,vi 0]),(rt,122,[ts]),(rs,72,[vi 0,vi 0]),(rg,69,[.slice none 0 0,.slice none 0 0])]:=hS
 repeat(first|(refine hS.az ?_)|(refine hS.a_ ?_)|(refine hS.iB fun Hn hS=>?_))
 refine aO (fun hc=>?_) (fun hc=>?_)
 ·repeat(first|(refine hS.az ?_)|(refine PU.b2 rfl ?_)|(refine hS.mW ?_)|(refine hS.qf fun Hn hS=>?_))
  refine splitK (fun K hK=>?_) ?_
  ·simp only[aN,aQ]
   apply Gf (a:=rs) (b:=rg) (c:=re) (hS.nq 2 3 rfl rfl aa) (hS.nq 0 2 rfl rfl aa).symm (hS.nq 0 3 rfl rfl aa).symm (by intros;rfl) (by kernel_rfl) (by kernel_rfl) hK
  refine rr ?_
  repeat(refine hS.bL ?_)
  exact⟨⟨none,0,0,[],none,0,0,[],cd,e,rfl,Gr.nil _ _,.inl rfl⟩,(hS1.over hS).ext⟩
 refine hS.bZ fun Hn ra hS=>?_
 refine hS.iB fun Hn hS=>?_
 refine hS.bZ fun Hn rp hS=>?_
 refine hS.iB fun Hn hS=>?_;refine hS.a_ ?_;refine PU.b6 rfl ?_;refine hS.az ?_
 obtain⟨ta,tn,tc,tcs,rfl,hTk⟩:=hT1 hc
 refine hS.box rfl fun H2 rr hS=>?_
 have hS:SH [rs,rg] H1 H2 [(rr,133,[gJ rt ra,mY rp ra rt,.slice none 0 0,.slice none 0 0,vi 0,vi 0]),(rp,129,[gJ rt ra]),(ra,3,[vn 0]),(re,72,[vi cd,vi e]),(rt,122,[.slice ta tn tc]),(rs,72,[vi 0,vi 0]),(rg,69,[.slice none 0 0,.slice none 0 0])]:=hS
 have hS:=hS.perm (L':=[(rt,122,[.slice ta tn tc]),(ra,3,[vn 0]),(rp,129,[gJ rt ra]),(rr,133,[gJ rt ra,mY rp ra rt,.slice none 0 0,.slice none 0 0,vi 0,vi 0]),(re,72,[vi cd,vi e]),(rs,72,[vi 0,vi 0]),(rg,69,[.slice none 0 0,.slice none 0 0])]) (ja [_,_,_,_] [_,_] (ja [_,_] [_,_,_] (ja [_] [_,_,_] (List.Perm.refl _))))
 have hx2:=hS.ext
 have hS:=hS1.over hS
 have hra:=hS.lo _ (List.mem_of_getElem? (i:=1) rfl)
 refine Qf hw (.string s) ⟨rt,ra,rp,rr,ta,tn,tc,tcs,0⟩ rs rg re rp _ H2 (M:=[(rt,122,[.slice ta tn tc]),(ra,3,[vn 0]),(rp,129,[gJ rt ra]),(rr,133,[gJ rt ra,mY rp ra rt,.slice none 0 0,.slice none 0 0,vi 0,vi 0])]) ⟨hS.wm (List.mem_of_getElem? (i:=1) rfl),hra.2⟩ ?_ [vi cd,vi e] hS _ _ _
 refine⟨.slice none 0 0,[],[],.slice none 0 0,[],[],0,0,0,0,rfl,?_,?_,GB.nil _ _,rfl,rfl,fun i h=>absurd h aa,GB.nil _ _,rfl,aa,fun i h=>absurd h aa,fun h=>h.2 rfl⟩
 ·have:=hTk.2.1
  show 0<tn
  omega
 ·exact hTk.st hx2 (fun r hr=>.inl (hlt r hr)) (Nat.zero_le _)
end
section
variable{H0 H:ae}{L M:List aC}{S:List Nat}{F:Nat→Prop}
def Dc(kd:Int)(n:Nat):Prop:=(kd=0∧2≤n)∨kd=1∨((kd=2∨kd=3∨kd=4)∧n=1)∨((kd=5∨kd=6∨kd=7)∧n=0)
theorem Qg(kd:Int)(n:Nat):ak Pg X 199 [vi kd,vn n] H (Q0 (fun v=>∃b:Bool,v=.bool b∧(b=true→Dc kd n)) H):=by
 have fin:∀(b:Bool) rg,Az rg 12=.bool b→(b=true→kd=2∨kd=3∨kd=4)→aT Pg X (sub tN [1,0,1,0,1,1,1,1,1]) (xX (vi kd) (vn n) (.bool false) (vi kd) rg H) (iA 0 (kN Pg X (sub tN [1,1]) (cK Pg [.tmp 4] (Q0 (fun v=>∃b:Bool,v=.bool b∧(b=true→Dc kd n)) H)))):=by
  intro b rg hb hk
  have ad3:∀rg,aT Pg X (sub tN [1,1]) (xX (vi kd) (vn n) (.bool false) (vi kd) rg H) (cK Pg [.tmp 4] (Q0 (fun v=>∃b:Bool,v=.bool b∧(b=true→Dc kd n)) H)):=fun rg=>
   by refine tl ?_;refine rr ?_;exact⟨⟨false,rfl,fun h=>by cases h⟩,rfl⟩
  refine tl ?_
  rw[hb]
  refine aA (fun hb=>?_) (fun hb=>?_)
  ·refine au ?_
   refine rr ?_;exact⟨⟨_,rfl,fun h=>.inr (.inr (.inl ⟨hk hb,by have:=of_decide_eq_true h;omega⟩))⟩,rfl⟩
  refine au ?_
  refine ah (fun hc=>?_) (fun hc=>?_)
  ·rw[decide_eq_true hc]
   refine au ?_
   refine rr ?_;exact⟨⟨_,rfl,fun h=>.inr (.inr (.inr ⟨.inl hc,by have:=of_decide_eq_true h;omega⟩))⟩,rfl⟩
  refine ah (fun hc=>?_) (fun hc=>?_)
  ·rw[decide_eq_true hc]
   refine au ?_
   refine rr ?_;exact⟨⟨_,rfl,fun h=>.inr (.inr (.inr ⟨.inr (.inl hc),by have:=of_decide_eq_true h;omega⟩))⟩,rfl⟩
  refine ah (fun hc=>?_) (fun hc=>?_)
  ·refine rr ?_;exact⟨⟨_,rfl,fun h=>.inr (.inr (.inr ⟨.inr (.inr hc),by have:=of_decide_eq_true h;omega⟩))⟩,rfl⟩
  exact ad3 _
 refine ce [0,1,4,5] ?_;refine tl ?_
 refine au ?_
 refine ah (fun hc=>?_) (fun hc=>?_)
 ·refine rr ?_;exact⟨⟨_,rfl,fun h=>.inl ⟨hc,by have:=of_decide_eq_true h;omega⟩⟩,rfl⟩
 refine ah (fun hc=>?_) (fun hc=>?_)
 ·refine rr ?_;exact⟨⟨_,rfl,fun h=>.inr (.inl hc)⟩,rfl⟩
 refine ah (fun hc=>?_) (fun hc=>?_)
 ·exact fin _ _ rfl fun _=>.inl hc
 refine ah (fun hc=>?_) (fun hc=>?_)
 ·exact fin _ _ rfl fun _=>.inr (.inl hc)
 exact fin _ _ rfl fun h=>.inr (.inr (by have:=of_decide_eq_true h;omega))
theorem _root_.Go.Ae.Fl.Qc{H:ae}{a:Option Addr}{n k:Nat}{cs:List Value}(h:Fl H a n 1 cs)(hk:k<n)(c:Nat):∃r o,∃hl:k<cs.length,sS 1 (.slice a n c) (vn k)=some (.pointer (some ⟨r,o,none⟩))∧r<H.next∧H.cell r o=some cs[k]:=by
 have hl:k<cs.length:=by have:=h.1;omega
 obtain⟨r,o,h1,h2,h3,_⟩:=h.idx (c:=c) (Nat.lt_succ_self 0) hk
 exact⟨r,o,hl,h1,h2,h3 0 _ (Nat.lt_succ_self 0) (by rw[Nat.mul_one,Nat.add_zero];exact List.getElem?_eq_getElem hl)⟩
def UI(F:Nat→Prop)(H:ae)(i:Nat)(l:List Value):Prop:=∃(kd:Int)(a:Option Addr)(n c:Nat)(ks:List Value)(t:ByteArray)(xa:Option Addr)(xn xc:Nat)(at':Int),l=[vi kd,.slice a n c,.string t,.slice xa xn xc,vi at']∧n≤20001∧t.size≤1000000∧eO F 3 H a n 1 ks∧Dc kd n∧(∀x∈ks,∃z:Nat,x=vn z∧z<i)
def intOf(v:Value):Int:=match v with
 |.int _ z=>z
 |_=>0
def rootOf(rcs:List Value)(i:Nat):Int:=intOf ((El rcs 7 i)[5]?.getD (.int .i64 0))
theorem Fb{rcs:List Value}{i:Nat}{a b c d e f:Value}{z:Int}(h:El rcs 7 i=[a,b,c,d,e,vi z,f]):rootOf rcs i=z:=by unfold rootOf;rw[h];rfl
abbrev gV(ra:Option Addr)(rn rc:Nat)(na:Option Addr)(nn nc:Nat):Value:=.agg ⟨[.slice ra rn rc,.slice na nn nc]⟩
def q9(F:Nat→Prop)(H:ae)(rn:Nat)(rcs:List Value)(nn:Nat)(bY:List Value):Prop:=(∀i,i<nn→UI F H i (El bY 5 i))∧∀i,i<rn→0≤rootOf rcs i∧rootOf rcs i<nn
theorem De(hw:Wf H){b:Nat}{ra na:Option Addr}{rn rc nn nc:Nat}{rcs bY:List Value}(hG:Gr b H ra rn rcs na nn bY):ak Pg X 183 [gV ra rn rc na nn nc] H (Q1 (fun v _=>∃t:Bool,v=.bool t∧(t=true→q9 (b≤·) H rn rcs nn bY)) H):=by
 obtain⟨g1,g2,g3,g4,g5,g6⟩:=hG
 have hS:=SH.refl hw
 refine ce [0,1,2,3,4,6,8,10,11,12,25,26,27,41,42,43] ?_;refine tl ?_
 refine hS.box rfl fun H1 rg hS=>?_
 repeat(first|(refine hS.az ?_)|(refine hS.a_ ?_))
 refine lp8 2 3 4 6 12 25 26 27 (I:=fun m x2 x3 x4 x6 b_ x25 Ul x27 H'=>∃i:Nat,x2=.bool false∧b_=vn i∧i +m=nn∧(∀j,j<i→UI (b≤·) H j (El bY 5 j))∧SH [] H H' [(rg,69,[.slice ra rn rc,.slice na nn nc])]) ?_ nn ⟨0,rfl,rfl,aa,fun j h=>absurd h aa,hS⟩
 clear hS
 rintro m x2 x3 x4 x6 b_ x25 Ul x27 eP H2 ⟨i,rfl,rfl,him,hdone,hS⟩
 refine tl ?_
 refine au ?_
 refine ah (fun hc=>?_) (fun hc=>?_)
 ·have hin:i<nn:=by omega
  obtain⟨r,o,e,hr,hrd,hel,o0,_⟩:=g4.1.read aa hin nc
  rw[e]
  refine au ?_
  obtain⟨kd,ka,kn,kc,ks,t,rs,at',he,hk1,hk2,hk3,hk4,hk5⟩:=g6 i hin
  obtain⟨xa,xn,xc,xcs,rfl,Qa⟩:=id hk5
  rw[he]at hrd
  refine hS.mM hrd hr ?_
  refine hS.jI rfl rfl rfl fun H3 rn' hS hx3=>?_
  have hS:SH [] H H3 [(rn',145,[vi kd,.slice ka kn kc,.string t,.slice xa xn xc,vi at']),(rg,69,[.slice ra rn rc,.slice na nn nc])]:=hS
  repeat(first|(refine hS.az ?_)|(refine hS.a_ ?_))
  refine ak.mono (Qg kd kn) ?_
  rintro v H4 ⟨⟨t1,rfl,ht1⟩,rfl⟩
  refine hS.az ?_
  refine aA (fun hb=>?_) (fun hb=>?_)
  ·refine rr ?_;refine⟨⟨false,rfl,fun h=>by cases h⟩,hS.ext⟩
  have hfit:=ht1 (by cases t1 with
   |true=>rfl
   |false=>cases hb)
  refine hS.a_ ?_;refine hS.az ?_
  refine Oc 2 6 27 (I:=fun m x2 x6 x27 H'=>∃k:Nat,x2=.bool false∧x27=vn k∧k +m=kn∧(∀j(h:j<ks.length),j<k→∃z:Nat,ks[j]=vn z∧z<i)∧SH [] H H' [(rn',145,[vi kd,.slice ka kn kc,.string t,.slice xa xn xc,vi at']),(rg,69,[.slice ra rn rc,.slice na nn nc])]) ?_ kn ⟨0,rfl,rfl,aa,fun j h h'=>absurd h' aa,hS⟩
  clear hS
  rintro m' x2 x6 x27 eP H5 ⟨k,rfl,rfl,hkm,hkd,hS⟩
  refine tl ?_
  refine au ?_
  refine ah (fun hc=>?_) (fun hc=>?_)
  ·have hkn:k<kn:=by omega
   obtain⟨r',o',hl,e',hr',Df⟩:=hk1.1.Qc hkn kc
   rw[e']
   refine au ?_
   obtain⟨z,hz⟩:=hk3 _ (List.getElem_mem hl)
   rw[hz]at Df
   refine hS.wo Df hr' ?_
   refine au ?_
   refine ah (fun hc2=>?_) (fun hc2=>?_)
   ·refine rr ?_;exact⟨⟨false,rfl,fun h=>by cases h⟩,hS.ext⟩
   refine ah (fun hc3=>?_) (fun hc3=>?_)
   ·refine rr ?_;exact⟨⟨false,rfl,fun h=>by cases h⟩,hS.ext⟩
   refine ay ?_
   refine⟨kn -(k +1),aa,_,_,_,_,_,rfl,k +1,rfl,iC,aa,fun j hj hjk=>?_,hS⟩
   rcases Nat.lt_or_ge j k with h|h
   ·exact hkd j hj h
   ·obtain rfl:j=k:=by omega
    exact⟨z.toNat,by rw[hz];congr 1;omega,aa⟩
  refine tl ?_
  refine au ?_
  refine ay ?_
  refine⟨nn -(i +1),aa,_,_,_,_,_,_,_,_,_,_,rfl,i +1,rfl,iC,aa,fun j hj=>?_,SH.drop (A:=[_]) hS⟩
  rcases Nat.lt_or_ge j i with h|h
  ·exact hdone j h
  ·obtain rfl:j=i:=by omega
   refine⟨kd,ka,kn,kc,ks,t,xa,xn,xc,at',he,hk2,hk4,hk1,hfit,fun x hx=>?_⟩
   obtain⟨j',hj',rfl⟩:=List.getElem_of_mem hx
   exact hkd j' hj' (by have:=hk1.1.1;omega)
 have hin:i=nn:=by omega
 subst hin
 refine tl ?_
 repeat(first|(refine hS.az ?_)|(refine hS.a_ ?_))
 refine Oc 2 8 43 (I:=fun m x2 x8 x43 H'=>∃k:Nat,x2=.bool false∧x43=vn k∧k +m=rn∧(∀j,j<k→0≤rootOf rcs j∧rootOf rcs j<i)∧SH [] H H' [(rg,69,[.slice ra rn rc,.slice na i nc])]) ?_ rn ⟨0,rfl,rfl,aa,fun j h=>absurd h aa,hS⟩
 clear hS
 rintro m' x2 x8 x43 eP H5 ⟨k,rfl,rfl,hkm,hkd,hS⟩
 refine tl ?_
 refine au ?_
 refine ah (fun hc=>?_) (fun hc=>?_)
 ·have hkn:k<rn:=by omega
  obtain⟨r,o,e,hr,hrd,hel,o0,_⟩:=g1.1.read aa hkn rc
  rw[e]
  refine au ?_
  obtain⟨nm,u,f,w,ch,root,at',he,hnm⟩:=g3 k hkn
  rw[he]at hrd
  refine hS.mM hrd hr ?_
  refine hS.jI rfl rfl rfl fun H3 ru hS hx3=>?_
  have hS:SH [] H H3 [(ru,141,kQ nm u f w ch root at'),(rg,69,[.slice ra rn rc,.slice na i nc])]:=hS
  repeat(first|(refine hS.az ?_)|(refine hS.a_ ?_))
  refine ah (fun hc2=>?_) (fun hc2=>?_)
  ·refine rr ?_;exact⟨⟨false,rfl,fun h=>by cases h⟩,hS.ext⟩
  refine hS.a_ ?_;refine hS.a_ ?_;refine hS.az ?_
  refine ah (fun hc3=>?_) (fun hc3=>?_)
  ·refine rr ?_;exact⟨⟨false,rfl,fun h=>by cases h⟩,hS.ext⟩
  refine ay ?_
  refine⟨rn -(k +1),aa,_,_,_,_,_,rfl,k +1,rfl,iC,aa,fun j hjk=>?_,SH.drop (A:=[_]) hS⟩
  rcases Nat.lt_or_ge j k with h|h
  ·exact hkd j h
  ·obtain rfl:j=k:=by omega
   rw[Fb he]
   omega
 refine tl ?_
 refine rr ?_;exact⟨⟨true,rfl,fun _=>⟨fun j hj=>hdone j hj,fun j hj=>hkd j aa⟩⟩,hS.ext⟩
theorem Gr.ru{b:Nat}{ra na:Option Addr}{rn nn:Nat}{rcs bY:List Value}(hG:Gr b H ra rn rcs na nn bY){i:Nat}(hi:i<rn)(c:Nat):∃(r o:Nat)(nm:ByteArray)(u f w:Bool)(ch at':Int),sS 7 (.slice ra rn c) (vn i)=some (.pointer (some ⟨r,o,none⟩))∧r<H.next∧H.read r o 7=some (kQ nm u f w ch (rootOf rcs i) at')∧(∀f' x,f'<7→(kQ nm u f w ch (rootOf rcs i) at')[f']?=some x→H.cell r (o +f')=some x)∧nm.size≤1000000∧El rcs 7 i=kQ nm u f w ch (rootOf rcs i) at':=by
 obtain⟨g1,g2,g3,g4,g5,g6⟩:=hG
 obtain⟨r,o,e,hr,hrd,hel,o0,e0,ho⟩:=g1.1.read aa hi c
 obtain⟨r',o',e',hr',hcl,_⟩:=g1.1.idx (c:=c) aa hi
 rw[e]at e'
 cases e'
 obtain⟨nm,u,f,w,ch,root,at',he,hnm⟩:=g3 i hi
 rw[Fb he]
 have he:El rcs 7 i=kQ nm u f w ch root at':=he
 refine⟨r,o,nm,u,f,w,ch,at',e,hr,he▸hrd,fun f' x hf hx=>hcl f' x hf ?_,hnm,he⟩
 rw[←he,jv,if_pos hf]at hx
 exact hx
theorem Gr.no{b:Nat}{ra na:Option Addr}{rn nn:Nat}{rcs bY:List Value}(hG:Gr b H ra rn rcs na nn bY){i:Nat}(hi:i<nn)(c:Nat){l:List Value}(hl:El bY 5 i=l):∃(r o:Nat),sS 5 (.slice na nn c) (vn i)=some (.pointer (some ⟨r,o,none⟩))∧r<H.next∧H.read r o 5=some l∧∀f' x,f'<5→l[f']?=some x→H.cell r (o +f')=some x:=by
 obtain⟨g1,g2,g3,g4,g5,g6⟩:=hG
 obtain⟨r,o,e,hr,hrd,hel,o0,e0,ho⟩:=g4.1.read aa hi c
 obtain⟨r',o',e',hr',hcl,_⟩:=g4.1.idx (c:=c) aa hi
 rw[e]at e'
 cases e'
 refine⟨r,o,e,hr,hl▸hrd,fun f' x hf hx=>hcl f' x hf ?_⟩
 rw[←hl,jv,if_pos hf]at hx
 exact hx
theorem Fl.uniq{a:Option Addr}{n es:Nat}{cs cs':List Value}(h:Fl H a n es cs)(h':Fl H a n es cs'):cs=cs':=by
 apply List.ext_getElem (h.1.trans h'.1.symm)
 intro i h1 h2
 obtain⟨r,o,e,_,hc⟩:=h.2 i _ (List.getElem?_eq_getElem h1)
 obtain⟨r',o',e',_,hc'⟩:=h'.2 i _ (List.getElem?_eq_getElem h2)
 rw[e]at e'
 cases e'
 rw[hc]at hc'
 exact Option.some.inj hc'
theorem UI.back{F:Nat→Prop}{H H':ae}{i:Nat}{l:List Value}(hn:VU F H l)(hx:Ext H H')(h:UI F H' i l):UI F H i l:=by
 obtain⟨kd,a,n,c,ks,t,rs,at',e,h1,h2,h3,h4,h5⟩:=hn
 obtain⟨kd',a',n',c',ks',t',xa,xn,xc,acR,e',g1,g2,g3,g4,g5⟩:=h
 rw[e]at e'
 cases e'
 have:=Fl.uniq (h1.ex hx).1 g3.1
 subst this
 exact⟨kd,a,n,c,ks,t,xa,xn,xc,at',e,g1,g2,h1,g4,g5⟩
theorem UI.ex{F:Nat→Prop}{H H':ae}{i:Nat}{l:List Value}(hx:Ext H H')(h:UI F H i l):UI F H' i l:=by
 obtain⟨kd',a',n',c',ks',t',xa,xn,xc,acR,e',g1,g2,g3,g4,g5⟩:=h
 exact⟨kd',a',n',c',ks',t',xa,xn,xc,acR,e',g1,g2,g3.ex hx,g4,g5⟩
theorem Gr.ex{b:Nat}{H':ae}{ra na:Option Addr}{rn nn:Nat}{rcs bY:List Value}(hG:Gr b H ra rn rcs na nn bY)(hx:Ext H H'):Gr b H' ra rn rcs na nn bY:=by
 obtain⟨g1,g2,g3,g4,g5,g6⟩:=hG
 exact⟨g1.ex hx,g2,g3,g4.ex hx,g5,fun i hi=>(g6 i hi).st hx fun _ h=>nomatch h⟩
theorem q9.back{b:Nat}{H':ae}{ra na:Option Addr}{rn nn:Nat}{rcs bY:List Value}(hG:Gr b H ra rn rcs na nn bY)(hx:Ext H H')(h:q9 (b≤·) H' rn rcs nn bY):q9 (b≤·) H rn rcs nn bY:=
 ⟨fun i hi=>(h.1 i hi).back (hG.2.2.2.2.2 i hi) hx,h.2⟩
def Dg(F:Nat→Prop)(H:ae)(rn:Nat)(rcs:List Value)(nn:Nat)(bY:List Value):Prop:=q9 F H rn rcs nn bY∧1≤rn∧∀i,i +1<rn→rootOf rcs i<rootOf rcs (i +1)
theorem L9(hw:Wf H){b:Nat}{ra na:Option Addr}{rn rc nn nc:Nat}{rcs bY:List Value}(hG:Gr b H ra rn rcs na nn bY):ak Pg X 149 [gV ra rn rc na nn nc] H (Q1 (fun v _=>∃t:Bool,v=.bool t∧(t=true→Dg (b≤·) H rn rcs nn bY)) H):=by
 have hS:=SH.refl hw
 have g2:=hG.2.1
 refine ce [0,1,2,3] ?_;refine tl ?_
 refine hS.box rfl fun H1 rg hS=>?_
 repeat(first|(refine hS.az ?_)|(refine hS.a_ ?_))
 refine ah (fun hc=>?_) (fun hc=>?_)
 ·refine rr ?_;exact⟨⟨false,rfl,fun h=>by cases h⟩,hS.ext⟩
 refine hS.bL ?_
 have hx1:=hS.ext
 refine ak.mono (De hS.wf (hG.ex hx1)) ?_
 rintro v H2 ⟨⟨t,rfl,ht⟩,hx⟩
 have hS:=hS.call hx
 refine au ?_
 refine aA (fun hb=>?_) (fun hb=>?_)
 ·refine rr ?_;exact⟨⟨false,rfl,fun h=>by cases h⟩,hS.ext⟩
 have hR:=q9.back hG hx1 (ht (by cases t with
  |true=>rfl
  |false=>cases hb))
 refine tl ?_
 refine lp2 2 3 (I:=fun m x2 x3 H'=>∃i:Nat,x2=.bool false∧x3=vn i∧1≤i∧i +m=rn∧(∀j,j +1<i→rootOf rcs j<rootOf rcs (j +1))∧SH [] H H' [(rg,69,[.slice ra rn rc,.slice na nn nc])]) ?_ (rn -1) ⟨1,rfl,rfl,aa,aa,fun j h=>absurd h aa,hS⟩
 clear hS
 rintro m x2 x3 eP H2 ⟨i,rfl,rfl,hi1,him,hr,hS⟩
 refine tl ?_
 repeat(first|(refine hS.az ?_)|(refine hS.a_ ?_))
 refine ah (fun hc=>?_) (fun hc=>?_)
 ·obtain⟨r1,o1,mZ,u1,f1,w1,c1,a1,e1,hl1,o7,ji,_,_⟩:=hG.ru (i:=i) aa rc
  obtain⟨r2,o2,nm2,u2,f2,w2,c2,a2,e2,hl2,Qh,kV,_,_⟩:=hG.ru (i:=i -1) aa rc
  refine hS.iG ?_;refine hS.az ?_
  rw[e1]
  refine hS.az ?_
  refine hS.zf (ji 5 _ aa rfl) hl1 ?_
  repeat(first|(refine hS.az ?_)|(refine hS.iG ?_))
  refine aH ?_
  rw[show((i:Int) -1)=((i -1:Nat):Int) by omega,e2]
  refine hS.az ?_
  refine hS.zf (kV 5 _ aa rfl) hl2 ?_
  refine hS.az ?_;refine pK ?_
  refine ah (fun hc2=>?_) (fun hc2=>?_)
  ·refine rr ?_;exact⟨⟨false,rfl,fun h=>by cases h⟩,hS.ext⟩
  refine ay ?_
  refine⟨rn -(i +1),aa,_,_,_,_,rfl,i +1,rfl,iC,aa,aa,fun j hj=>?_,hS⟩
  rcases Nat.lt_or_ge (j +1) i with h|h
  ·exact hr j h
  ·obtain rfl:i=j +1:=by omega
   rw[Nat.add_sub_cancel]at hc2
   omega
 refine tl ?_
 refine rr ?_;exact⟨⟨true,rfl,fun _=>⟨hR,aa,fun j hj=>hr j aa⟩⟩,hS.ext⟩
theorem Fe(hw:Wf H){b:Nat}{ra na:Option Addr}{rn rc nn nc i:Nat}{rcs bY:List Value}(hG:Gr b H ra rn rcs na nn bY)(hi:i<rn)(hB:∀j,j<rn→0≤rootOf rcs j∧rootOf rcs j<nn):ak Pg X 151 [gV ra rn rc na nn nc,vn i] H (Q1 (fun v _=>∃k:Nat,v=vn k∧k≤nn) H):=by
 have hS:=SH.refl hw
 have g2:=hG.2.1
 have g5:=hG.2.2.2.2.1
 refine ce [0,1,2,4] ?_;refine tl ?_
 refine hS.box rfl fun H1 rg hS=>?_
 refine hS.az ?_
 refine ah (fun hc=>?_) (fun hc=>?_)
 ·refine rr ?_;exact⟨⟨0,rfl,aa⟩,hS.ext⟩
 refine hS.a_ ?_
 obtain⟨r2,o2,nm2,u2,f2,w2,c2,a2,e2,hl2,Qh,kV,_,_⟩:=hG.ru (i:=i -1) aa rc
 refine aH ?_
 rw[show((i:Int) -1)=((i -1:Nat):Int) by omega,e2]
 refine hS.az ?_
 refine hS.wo (kV 5 _ aa rfl) hl2 ?_
 have hb:=hB (i -1) aa
 refine ay ?_
 refine rr ?_;exact⟨⟨(rootOf rcs (i -1) +1).toNat,by show vi _=vi (((rootOf rcs (i -1) +1).toNat:Nat):Int);rw[Int.toNat_of_nonneg aa],aa⟩,hS.ext⟩
end
section
variable{H0 H:ae}{L M:List aC}{S:List Nat}{F:Nat→Prop}
abbrev Qi(m:List (ByteArray×Value)):List (Value×Value):=m.map fun p=>(.string p.1,p.2)
def jJ(H:ae)(r:Nat)(m:List (ByteArray×Value)):Prop:=r<H.next∧H.obj r=.map (Qi m)
theorem jJ.ex{H H':ae}{S:List Nat}{r:Nat}{m:List (ByteArray×Value)}(h:jJ H r m)(hx:kP S H H')(hr:r∉S):jJ H' r m:=⟨Nat.lt_of_lt_of_le h.1 hx.next,(hx.obj r h.1 hr).trans h.2⟩
theorem _root_.Go.Ae.SH.wM{r:Nat}{m:List (ByteArray×Value)}(hS:SH S H0 H L)(h:jJ H r m):r∉L.map (·.1):=fun hr=>by
 obtain⟨e,he,rfl⟩:=List.mem_map.1 hr
 obtain⟨R,h1,_⟩:=hS.bk e he
 rw[h.2]at h1
 cases h1
theorem UJ{a b:ByteArray}(h:iM a b=true):a=b:=by
 rw[oh]at h
 have h:=eq_of_beq h
 rw[ByteArray.toList_eq,ByteArray.toList_eq]at h
 exact ByteArray.ext (Array.toList_inj.1 h)
theorem wN(a:ByteArray):iM a a=true:=by rw[oh];exact beq_self_eq_true _
theorem Ff{t:TypeId}(ht:∀a b,iq Pg t (.string a) (.string b)=some (iM a b))(k:ByteArray):∀(m:List (ByteArray×Value))(i:Nat),∃f:Option (Nat×Value),l_ Pg t (.string k) (Qi m) i=some f∧(∀j v,f=some (j,v)→i≤j∧m[j -i]?=some (k,v))∧(f=none→∀p∈m,p.1≠k):=by
 intro m
 induction m with
 |nil=>exact fun i=>⟨none,rfl,fun j v h=>by(cases h),fun _ p h=>nomatch h⟩
 |cons p m ih=>
  intro i
  show∃f,(aj (iq Pg t (.string k) (.string p.1)) fun b=>av b (some (some (i,p.2))) (l_ Pg t (.string k) (Qi m) (Nat.succ i)))=some f∧_
  rw[ht]
  cases hb:iM k p.1 with
  |true=>
   have:=UJ hb
   refine⟨some (i,p.2),rfl,fun j v h=>?_,fun h=>by cases h⟩
   cases h
   exact⟨Nat.le_refl _,by rw[Nat.sub_self,this];rfl⟩
  |false=>
   obtain⟨f,h1,h2,h3⟩:=ih (Nat.succ i)
   refine⟨f,h1,fun j v h=>?_,fun h q hq=>?_⟩
   ·obtain⟨g1,g2⟩:=h2 j v h
    refine⟨aa,?_⟩
    rw[show j -i=(j -i.succ) +1 by omega]
    exact g2
   ·rcases List.mem_cons.1 hq with rfl|hq
    ·intro e;rw[←e,wN]at hb;cases hb
    ·exact h3 h q hq
theorem ME.look{t kt vt:TypeId}{z:Value}{r:Nat}{m:List (ByteArray×Value)}{k:ByteArray}{ok:Bool}{K:Value→ae→Prop}(hm:jJ H r m)(h1:rR Pg t=some (kt,vt))(h2:vg Pg vt=some z)(h3:∀a b,iq Pg kt (.string a) (.string b)=some (iM a b))
 (kk:∀f:Option Value,(∀v,f=some v→(k,v)∈m)→(f=none→∀p∈m,p.1≠k)→K (okd ok (f.getD z) f.isSome H).1 H):ME (lX Pg t (.map (some r)) (.string k) ok H) K:=by
 obtain⟨f,e,g1,g2⟩:=Ff h3 k m 0
 have hk:xu Pg kt (.string k)=some ():=by
  show aj (iq Pg kt (.string k) (.string k)) _=_
  rw[h3,wN];rfl
 have hmo:mapOf H (.map (some r))=some (Qi m):=by
  show HY (H.obj r)=_
  rw[hm.2];rfl
 have:lX Pg t (.map (some r)) (.string k) ok H=some (okd ok ((f.map (·.2)).getD z) (f.map (·.2)).isSome H):=by
  show(aj (rR Pg t) fun q=>aj (vg Pg q.2) fun z=>aj (mapOf H (.map (some r))) fun es=>aj (xu Pg q.1 (.string k)) fun _=>aj (l_ Pg q.1 (.string k) es 0) fun f=>_)=_
  rw[h1]
  show(aj (vg Pg vt) fun z=>aj (mapOf H (.map (some r))) fun es=>aj (xu Pg kt (.string k)) fun _=>aj (l_ Pg kt (.string k) es 0) fun f=>_)=_
  rw[h2,hmo,hk]
  show aj (l_ Pg kt (.string k) (Qi m) 0) _=_
  rw[e]
  cases f<;>rfl
 have hK:=kk (f.map (·.2)) (fun v h=>?_) (fun h=>?_)
 ·rw[this]
  cases ok<;>exact ME.of rfl hK
 ·cases f with
  |none=>cases h
  |some p=>cases h;exact List.mem_of_getElem? (g1 p.1 p.2 rfl).2
 ·cases f with
  |none=>exact g2 rfl
  |some p=>cases h
theorem _root_.Go.Ae.SH.upd{t kt vt:TypeId}{r:Nat}{m:List (ByteArray×Value)}{k:ByteArray}{v:Value}{K:Value→ae→Prop}(hS:SH S H0 H L)(hr:r∈S∨H0.next≤r)(hm:jJ H r m)(h1:rR Pg t=some (kt,vt))(h3:∀a b,iq Pg kt (.string a) (.string b)=some (iM a b))
 (kk:∀H' m',jJ H' r m'→(∀p∈m',p∈m∨p=(k,v))→SH S H0 H' L→K undef H'):ME (jg Pg t (.map (some r)) (.string k) v H) K:=by
 obtain⟨f,e,g1,g2⟩:=Ff h3 k m 0
 have hk:xu Pg kt (.string k)=some ():=by
  show aj (iq Pg kt (.string k) (.string k)) _=_
  rw[h3,wN];rfl
 have key:∃m',(∀p∈m',p∈m∨p=(k,v))∧jg Pg t (.map (some r)) (.string k) v H=some (undef,H.put r (.map (Qi m'))):=by
  have:jg Pg t (.map (some r)) (.string k) v H=@Option.rec (Nat×Value) (fun _=>Option (Value×ae)) (some (undef,H.put r (.map (app (Qi m) [(.string k,v)])))) (fun p=>some (undef,H.put r (.map (setAt (.string k,v) p.1 (Qi m))))) f:=by
   show(aj (rR Pg t) fun q=>aj (HY (H.obj r)) fun es=>aj (xu Pg q.1 (.string k)) fun _=>aj (l_ Pg q.1 (.string k) es 0) fun f=>_)=_
   rw[h1]
   show(aj (HY (H.obj r)) fun es=>aj (xu Pg kt (.string k)) fun _=>aj (l_ Pg kt (.string k) es 0) fun f=>_)=_
   rw[hm.2,hk]
   show aj (l_ Pg kt (.string k) (Qi m) 0) _=_
   rw[e];rfl
  rw[this]
  cases f with
  |none=>
   refine⟨m++[(k,v)],fun p hp=>?_,?_⟩
   ·rcases List.mem_append.1 hp with h|h
    ·exact .inl h
    ·exact .inr (by simpa using h)
   ·show some (undef,H.put r (.map (app (Qi m) [(.string k,v)])))=_
    rw[jd];simp[Qi]
  |some q=>
   refine⟨m.set q.1 (k,v),fun p hp=>?_,?_⟩
   ·rcases List.mem_or_eq_of_mem_set hp with h|h
    ·exact .inl h
    ·exact .inr h
   ·show some (undef,H.put r (.map (setAt (.string k,v) q.1 (Qi m))))=_
    rw[sF];simp[Qi,List.map_set]
 obtain⟨m',hm',e'⟩:=key
 refine ME.of e' (kk _ m' ⟨hm.1,by rw[p8,if_pos rfl]⟩ hm' ?_)
 have hn:=SH.wM hS hm
 refine⟨kP.later hS.ext (kP.put H r _) (fun q hq=>by rw[List.mem_singleton]at hq;subst hq;exact hr),fun e he=>(hS.bk e he).dL ?_,hS.lo,hS.ne,?_⟩
 ·rw[p8,if_neg fun h=>hn (by rw[←h];exact List.mem_map.2 ⟨e,he,rfl⟩)]
 ·rw[kG]
  have:=hS.wf
  show min H.low r≤H.next
  omega
theorem ME.mkMap{t:TypeId}{q:TypeId×TypeId}{n:Int}{K:Value→ae→Prop}(hS:SH S H0 H L)(h1:rR Pg t=some q)(kk:∀H' r,jJ H' r []→Ext H H'→H.next≤r→SH S H0 H' L→K (.map (some r)) H'):ME (kD Pg t (some (vi n)) H) K:=by
 refine ME.of (v:=.map (some H.next)) (H:=H.new (.map [])) ?_ (kk _ _ ⟨Nat.lt_succ_self _,by rw[oz,if_pos rfl];rfl⟩ (Ext.new _ _) (Nat.le_refl _) (hS.call (Ext.new _ _)))
 show aj (rR Pg t) _=_
 rw[h1];rfl
theorem ME.JH{t kt vt:TypeId}{z:Value}{r:Nat}{m:List (ByteArray×Value)}{k:ByteArray}{K:Value→ae→Prop}(hm:jJ H r m)(h1:rR Pg t=some (kt,vt))(h2:vg Pg vt=some z)(h3:∀a b,iq Pg kt (.string a) (.string b)=some (iM a b))
 (kk:∀f:Option Value,(∀v,f=some v→(k,v)∈m)→(f=none→∀p∈m,p.1≠k)→K (.tuple ⟨[f.getD z,.bool f.isSome]⟩) H):ME (lX Pg t (.map (some r)) (.string k) true H) K:=ME.look hm h1 h2 h3 kk
theorem ME.Zl{t kt vt:TypeId}{z:Value}{r:Nat}{m:List (ByteArray×Value)}{k:ByteArray}{K:Value→ae→Prop}(hm:jJ H r m)(h1:rR Pg t=some (kt,vt))(h2:vg Pg vt=some z)(h3:∀a b,iq Pg kt (.string a) (.string b)=some (iM a b))
 (kk:∀f:Option Value,(∀v,f=some v→(k,v)∈m)→(f=none→∀p∈m,p.1≠k)→K (f.getD z) H):ME (lX Pg t (.map (some r)) (.string k) false H) K:=ME.look hm h1 h2 h3 kk
theorem q_:rR Pg 143=some (9,3):=by kernel_rfl
theorem JI:vg Pg 3=some (vi 0):=by kernel_rfl
theorem VW(a b:ByteArray):iq Pg 9 (.string a) (.string b)=some (iM a b):=by kernel_rfl
def GJ(rn:Nat)(m:List (ByteArray×Value)):Prop:=∀p∈m,∃i:Nat,i<rn∧p.2=vn i
theorem L_(hw:Wf H){b:Nat}{ra na:Option Addr}{rn rc nn nc:Nat}{rcs bY:List Value}(hG:Gr b H ra rn rcs na nn bY):ak Pg X 150 [gV ra rn rc na nn nc] H fun v H'=>∃r m,v=.map (some r)∧jJ H' r m∧GJ rn m∧Ext H H'∧H.next≤r:=by
 have hS:=SH.refl hw
 have g2:=hG.2.1
 refine ce [0,1,2,3,4,5,7,13,14,15] ?_;refine tl ?_
 refine hS.box rfl fun H1 rg hS=>?_
 repeat(first|(refine hS.az ?_)|(refine hS.a_ ?_))
 have hge:=hS.ext.next
 refine ME.mkMap hS q_ fun H2 r hm hx hr hS=>?_
 refine hS.a_ ?_;refine hS.az ?_
 refine Ht 4 5 7 15 (I:=fun m x4 x5 x7 bU H'=>∃(i:Nat)(mm:List (ByteArray×Value)),bU=vn i∧i +m=rn∧jJ H' r mm∧GJ rn mm∧SH [] H H' [(rg,69,[.slice ra rn rc,.slice na nn nc])]) ?_ rn ⟨0,[],rfl,aa,hm,(fun p h=>nomatch h),hS⟩
 have hrn:H.next≤r:=by omega
 clear hS hm
 rintro m x4 x5 x7 bU eP H3 ⟨i,mm,rfl,him,hm,hnm,hS⟩
 refine tl ?_
 refine au ?_
 refine ah (fun hc=>?_) (fun hc=>?_)
 ·obtain⟨r1,o1,mZ,u1,f1,w1,c1,a1,e1,hl1,o7,ji,hsz,_⟩:=hG.ru (i:=i) aa rc
  rw[e1]
  refine au ?_
  refine hS.mM o7 hl1 ?_
  refine hS.jI rfl rfl rfl fun H4 ru hS hx4=>?_
  have hm:=hm.ex hx4 (fun h=>nomatch h)
  have hS:SH [] H H4 [(ru,141,kQ mZ u1 f1 w1 c1 (rootOf rcs i) a1),(rg,69,[.slice ra rn rc,.slice na nn nc])]:=hS
  refine hS.az ?_;refine hS.a_ ?_
  refine ME.JH hm q_ JI VW fun f hf hn=>?_
  refine hS.az ?_
  have next:∀x(H5:ae) QV pO,jJ H5 r QV→GJ rn QV→SH [] H H5 [(ru,141,kQ mZ u1 f1 w1 c1 (rootOf rcs i) a1),(rg,69,[.slice ra rn rc,.slice na nn nc])]→∃m_1,m_1<m∧tV (gV ra rn rc na nn nc) (.pointer (some ⟨rg,0,none⟩)) (.map none) (.map (some r)) (.slice ra rn rc) (vn rn) (fun m x4 x5 x7 bU H'=>∃(i:Nat)(mm:List (ByteArray×Value)),bU=vn i∧i +m=rn∧jJ H' r mm∧GJ rn mm∧SH [] H H' [(rg,69,[.slice ra rn rc,.slice na nn nc])]) m_1 (tT (gV ra rn rc na nn nc) (.pointer (some ⟨rg,0,none⟩)) (.map none) (.map (some r)) (vn i) (.pointer (some ⟨ru,0,none⟩)) x (.slice ra rn rc) (vn rn) (vi ((i:Int) +1)) pO H5):=by
   intro x H5 QV pO h1 h2 h3
   exact⟨rn -(i +1),aa,_,_,_,_,_,_,rfl,i +1,QV,iC,aa,h1,h2,SH.drop (A:=[_]) h3⟩
  refine aA (fun hb=>?_) (fun hb=>?_)
  ·refine hS.a_ ?_
   refine hS.upd (.inr hrn) hm q_ VW fun H5 QV hm' hmm hS=>?_
   refine ay ?_
   refine next _ _ _ _ hm' (fun p hp=>?_) hS
   rcases hmm p hp with h|rfl
   ·exact hnm p h
   ·exact⟨i,aa,rfl⟩
  ·refine ay ?_
   exact next _ _ _ _ hm hnm hS
 refine tl ?_
 refine rr ?_;exact⟨r,mm,rfl,hm,hnm,hS.ext,hrn⟩
end
section
variable{H0 H:ae}{L M:List aC}{S:List Nat}{F:Nat→Prop}
theorem Ma(hw:Wf H){b:Nat}{ra na:Option Addr}{rn rc nn nc r:Nat}{rcs bY:List Value}{m:List (ByteArray×Value)}(hG:Gr b H ra rn rcs na nn bY)(hm:jJ H r m)(hnm:GJ rn m){nm:ByteArray}{u f w:Bool}{ch root at' kd at2:Int}{a a2:Option Addr}{n c n2 c2:Nat}{t:ByteArray}:
 ak Pg X 152 [gV ra rn rc na nn nc,.map (some r),.agg ⟨kQ nm u f w ch root at'⟩,.agg ⟨[vi kd,.slice a n c,.string t,.slice a2 n2 c2,vi at2]⟩] H (Q1 (fun v _=>∃z:Int,v=vi z) H):=by
 have hS:=SH.refl hw
 have g2:=hG.2.1
 refine ce [0,1,2,3,4,6,7,8,9,10,11,13] ?_;refine tl ?_
 refine hS.box rfl fun H1 rg hS=>?_
 refine hS.box rfl fun H1 rr hS=>?_
 refine hS.box rfl fun H1 rn' hS=>?_
 repeat(first|(refine hS.az ?_)|(refine hS.a_ ?_))
 refine ah (fun hc=>?_) (fun hc=>?_)
 ·refine hS.a_ ?_;refine hS.az ?_
  refine aA (fun hb=>?_) (fun hb=>?_)
  ·refine Lu.rr ?_;exact⟨⟨_,rfl⟩,hS.ext⟩
  ·refine Lu.rr ?_;exact⟨⟨_,rfl⟩,hS.ext⟩
 refine ah (fun hc=>?_) (fun hc=>?_)
 rotate_left
 ·refine Lu.rr ?_;exact⟨⟨_,rfl⟩,hS.ext⟩
 refine hS.a_ ?_
 have hm1:=hm.ex hS.ext (fun h=>nomatch h)
 refine ME.JH hm1 q_ JI VW fun f' hf hn=>?_
 refine hS.az ?_
 refine aA (fun hb=>?_) (fun hb=>?_)
 ·refine Lu.rr ?_;exact⟨⟨_,rfl⟩,hS.ext⟩
 cases f' with
 |none=>cases hb
 |some v=>
  obtain⟨i,hi,hv⟩:=hnm _ (hf v rfl)
  have hv:v=vn i:=hv
  subst hv
  obtain⟨r1,o1,mZ,u1,f1,w1,c1,a1,e1,hl1,o7,ji,hsz,_⟩:=hG.ru (i:=i) hi rc
  simp only[Option.getD_some]
  refine hS.a_ ?_
  rw[e1]
  refine hS.az ?_
  refine hS.mM o7 hl1 ?_
  refine hS.jI rfl rfl rfl fun H4 ru hS hx4=>?_
  have hS:SH [] H H4 [(ru,141,kQ mZ u1 f1 w1 c1 (rootOf rcs i) a1),(rn',145,[vi kd,.slice a n c,.string t,.slice a2 n2 c2,vi at2]),(rr,141,kQ nm u f w ch root at'),(rg,69,[.slice ra rn rc,.slice na nn nc])]:=hS
  repeat' (first|(refine Lu.rr ?_;exact⟨⟨_,rfl⟩,hS.ext⟩)|(refine ah (fun hc=>?_) (fun hc=>?_))|(refine aA (fun hb=>?_) (fun hb=>?_))|first|(refine hS.az ?_)|(refine PU.b1 rfl ?_)|(refine PU.b2 rfl ?_)|(refine PU.b3 rfl ?_)|(refine PU.b4 rfl ?_)|(refine PU.b5 rfl ?_)|(refine PU.b6 rfl ?_)|(refine PU.b7 rfl ?_)|(refine PU.b8 rfl ?_)|(refine PU.b9 rfl ?_)|(refine hS.a_ ?_)|(refine hS.bL ?_)|(refine hS.iG ?_)|(refine hS.mW ?_)|(refine hS.iB fun Hn hS=>?_)|(refine hS.qf fun Hn hS=>?_)|(refine pK ?_))
end
section
variable{H0 H:ae}{L M:List aC}{S:List Nat}{F:Nat→Prop}{Q:Int→Prop}{r n c:Nat}{ty:TypeId}
theorem Dh{c0:List Int}(hn:n≤1000000)(hB:Np (Pn c0) r ty n H0 H L):ak Pg X 55 [sl r n c] H fun v H'=>Np (Pn c0) r ty n H0 H' L:=by
 refine ce [0,2] ?_;refine tl ?_
 refine au ?_
 rw[mE (u64_in aa)]
 refine ak.mono (ug _ aa aa) ?_
 rintro v H' ⟨⟨l,rfl,h1,_⟩,rfl⟩
 refine ak.mono (Uw hn _ H0 H' L hB 0 n l aa aa aa aa aa (Nat.le_refl _)) ?_
 intro v H1 hB
 refine rn ?_;exact hB
theorem Nm.np(hB:Nm Q r ty n H0 H L):∃c0:List Int,(∀x∈c0,Q x)∧Np (Pn c0) r ty n H0 H L:=by
 obtain⟨cs,h1,h2,hS⟩:=hB
 have:∀m,m≤n→∃c0:List Int,c0.length=m∧(∀x∈c0,Q x)∧cs.take m=c0.map vi:=by
  intro m
  induction m with
  |zero=>exact fun _=>⟨[],rfl,(fun x hx=>by cases hx),rfl⟩
  |succ m ih=>
   intro hm
   obtain⟨c0,g1,g2,g3⟩:=ih aa
   obtain⟨z,hz,hq⟩:=h2 m aa
   have hc:cs[m]?=some (vi z):=by
    have:=jv cs 1 m 0
    rw[hz,if_pos aa,Nat.mul_one]at this
    exact this.symm
   refine⟨c0++[z],by simp[g1],fun x hx=>?_,?_⟩
   ·rcases List.mem_append.1 hx with h|h
    ·exact g2 x h
    ·rw[List.mem_singleton]at h;subst h;exact hq
   ·rw[List.take_add_one,hc,g3,List.map_append];rfl
 obtain⟨c0,g1,g2,g3⟩:=this n (Nat.le_refl _)
 exact⟨c0,g2,c0,cs.drop n,g1,List.Perm.refl _,by rw[←g3,List.take_append_drop];exact hS⟩
theorem Np.nm{R:List Int→Prop}(hB:Np R r ty n H0 H L)(h:∀c,R c→∀x∈c,Q x):Nm Q r ty n H0 H L:=by
 obtain⟨cs,vs,h1,h2,hS⟩:=hB
 refine⟨_,by rw[List.length_append,List.length_map];omega,fun k hk=>⟨cs[k],?_,h _ h2 _ (List.getElem_mem _)⟩,hS⟩
 apply List.ext_getElem?
 intro i
 rw[jv]
 by_cases hi:i<1
 ·obtain rfl:i=0:=by omega
  rw[if_pos hi,Nat.mul_one,List.getElem?_append_left (by rw[List.length_map];omega),List.getElem?_map,Nat.add_zero,List.getElem?_eq_getElem aa];rfl
 ·rw[if_neg hi,List.getElem?_eq_none (by show 1≤i;omega)]
theorem Mc(hn:n≤1000000)(hB:Nm Q r ty n H0 H L):ak Pg X 55 [sl r n c] H fun v H'=>Nm Q r ty n H0 H' L:=by
 obtain⟨c0,hq,hB⟩:=hB.np
 exact ak.mono (Dh hn hB) fun v H' hB=>Np.nm hB fun c h x hx=>hq x (h.mem_iff.1 hx)
theorem JJ(v:Value):ak Pg X 129 [v,vi 0,vi 0] H fun _ H'=>H'=H:=by
 refine ce [0,1,2,6,7] ?_;refine tl ?_
 refine ay ?_
 refine lp2 6 7 (I:=fun m x8 x9 H'=>x8=vi 1∧H'=H) ?_ 0 ⟨rfl,rfl⟩
 rintro m x8 x9 rg H' ⟨rfl,rfl⟩
 refine tl ?_
 refine au ?_
 rw[decide_eq_false aa]
 refine au ?_
 refine rn ?_;exact rfl
theorem acS(v l:Value):ak Pg X 95 [v,vi 0,vi 0,l] H fun _ H'=>H'=H:=by
 refine ce [0,1,2,3,8,9,10,11,12,13,14,15,16,17,18] ?_;refine tl ?_
 refine Xg 1 2 3 8 9 10 11 12 13 14 15 16 17 18 (I:=fun k x1 x2 x3 x8 x9 aW bg b_ bQ fU bU dJ jc jK H'=>x1=vi 0∧x2=vi 0∧H'=H) ?_ 0 ⟨rfl,rfl,rfl⟩
 rintro k x1 x2 x3 x8 x9 aW bg b_ bQ fU bU dJ jc jK rg H' ⟨rfl,rfl,rfl⟩
 refine tl ?_
 refine aH ?_
 refine au ?_
 rw[decide_eq_true aa]
 refine au ?_
 refine ak.mono (JJ _) ?_
 rintro _ _ rfl
 refine rr ?_;exact rfl
theorem UK:ak Pg X 55 [.slice none 0 0] H fun v H'=>H'=H:=by
 refine ce [0,2] ?_;refine tl ?_
 refine au ?_
 rw[mE (u64_in aa)]
 refine ak.mono (ug _ aa aa) ?_
 rintro v H' ⟨⟨l,rfl,h1,_⟩,rfl⟩
 refine ak.mono (acS _ _) ?_
 rintro v H1 rfl
 refine rn ?_;exact rfl
theorem iF{r o n c k:Nat}(h:k<n):sS 1 (.slice (some ⟨r,o,none⟩) n c) (vn k)=some (.pointer (some ⟨r,o +k,none⟩)):=by rw[oF h,Nat.mul_one]
theorem Me{r o n w:Nat}(h:w≤n):WT 1 (.slice (some ⟨r,o,none⟩) n (aK 1)) (some (vn w)) none none=some (.slice (some ⟨r,o +w,none⟩) (n -w) (aK 1)):=by rw[Tm h,Nat.mul_one]
theorem _root_.Go.Ae.Np.clr{R:List Int→Prop}(h:Np R r ty n H0 H L){w:Nat}(hw:w≤n){K:Value→ae→Prop}(k:∀H1,Np (fun c=>∃c',c'.length=n∧R c'∧c=c'.take w) r ty w H0 H1 L→K (.tuple ⟨[]⟩) H1):ME (clA [.int .i64 0] (.slice (some ⟨r,w,none⟩) (n -w) (aK 1)) H) K:=by
 obtain⟨cs,vs,h1,h2,hS⟩:=h
 have hl:(gQ [.int .i64 0] (n -w)).length=n -w:=by rw[Il];simp
 obtain⟨H1,e,hS1,_⟩:=hS.qP 0 (r:=r) (o:=w) (vs:=gQ [.int .i64 0] (n -w)) rfl (by rw[List.length_append,List.length_map];omega) (by
  rw[gD]
  induction n -w with
  |zero=>rfl
  |succ d ih=>exact ih)
 have:clA [.int .i64 0] (.slice (some ⟨r,w,none⟩) (n -w) (aK 1)) H=some (.tuple ⟨[]⟩,H1):=by
  show(aj (H.write r w (gQ [.int .i64 0] (n -w))) fun H'=>some (Value.tuple #[],H'))=_
  rw[e];rfl
 refine ME.of this (k H1 ⟨cs.take w,gQ [.int .i64 0] (n -w)++vs,by rw[List.length_take];omega,⟨cs,h1,h2,rfl⟩,?_⟩)
 have e2:splice (cs.map vi++vs) w (gQ [.int .i64 0] (n -w))=(cs.take w).map vi++(gQ [.int .i64 0] (n -w)++vs):=by
  unfold splice
  rw[hl,List.take_append_of_le_length (by rw[List.length_map];omega),←List.map_take,List.append_assoc,show w +(n -w)=(cs.map vi).length by rw[List.length_map];omega,List.drop_left]
 rw[←e2];exact hS1
def Qj(c0:List Int)(w j:Nat)(c:List Int):Prop:=(∀x,x∈c0↔x∈c.take w∨x∈c.drop j)∧∃y,y∈c.take w∧c[j -1]?=some y
theorem zu{c:List Int}{j:Nat}{x:Int}(h:c[j]?=some x)(y:Int):y∈c.drop j↔y=x∨y∈c.drop (j +1):=by
 obtain⟨hj,rfl⟩:=List.getElem?_eq_some_iff.1 h
 rw[List.drop_eq_getElem_cons hj,List.mem_cons]
theorem Fg{c:List Int}{j:Nat}{x:Int}(h:c[j]?=some x)(y:Int):y∈c.take (j +1)↔y∈c.take j∨y=x:=by
 rw[List.take_add_one,h];simp
theorem Qj.init{c0 c:List Int}{k:Nat}{x:Int}(h:c.Perm c0)(h1:c[k]?=some x)(h2:c[k -1]?=some x)(hk:1≤k):Qj c0 k (k +1) c:=by
 have hx:x∈c.take k:=by
  rw[List.mem_iff_getElem?]
  exact⟨k -1,by rw[List.getElem?_take,if_pos aa];exact h2⟩
 refine⟨fun y=>?_,x,hx,h1⟩
 rw[←h.mem_iff,←List.take_append_drop k c,List.mem_append,List.take_append_drop,zu h1]
 constructor
 ·rintro(h|h|h)
  ·exact .inl h
  ·subst h;exact .inl hx
  ·exact .inr h
 ·rintro(h|h)
  ·exact .inl h
  ·exact .inr (.inr h)
theorem Qj.skip{c0 c:List Int}{w j:Nat}{x:Int}(h:Qj c0 w j c)(h1:c[j]?=some x)(h2:c[j -1]?=some x):Qj c0 w (j +1) c:=by
 obtain⟨h,y,hy,hj⟩:=h
 obtain rfl:x=y:=Option.some.inj (h2.symm.trans hj)
 refine⟨fun z=>?_,x,hy,h1⟩
 rw[h,zu h1]
 constructor
 ·rintro(h|h|h)
  ·exact .inl h
  ·subst h;exact .inl hy
  ·exact .inr h
 ·rintro(h|h)
  ·exact .inl h
  ·exact .inr (.inr h)
theorem Qj.put{c0 c:List Int}{w j:Nat}{x:Int}(h:Qj c0 w j c)(h1:c[j]?=some x)(hw:w<j):Qj c0 (w +1) (j +1) (c.set w x):=by
 have hj:=(List.getElem?_eq_some_iff.1 h1).1
 have e1:(c.set w x)[w]?=some x:=by rw[List.getElem?_set,if_pos rfl,if_pos aa]
 have e2:(c.set w x).drop (j +1)=c.drop (j +1):=List.drop_set_of_lt aa
 have e3:(c.set w x).take w=c.take w:=List.take_set_of_le (Nat.le_refl _)
 refine⟨fun z=>?_,x,?_,by rw[Nat.add_sub_cancel,List.getElem?_set,if_neg aa];exact h1⟩
 ·rw[Fg e1,e2,e3,h.1,zu h1,or_assoc]
 ·rw[Fg e1];exact .inr rfl
theorem vI{c0:List Int}(hn:n≤1000000)(hB:Np (Pn c0) r ty n H0 H L):ak Pg X 57 [sl r n (aK 1)] H fun v H'=>∃n',n'≤n∧v=sl r n' (aK 1)∧Np (fun c=>∀x,x∈c0↔x∈c) r ty n' H0 H' L:=by
 refine ce [0,2,3,4,5] ?_;refine tl ?_
 refine au ?_
 refine ah (fun hc=>?_) (fun hc=>?_)
 ·refine rr ?_;exact⟨n,Nat.le_refl _,rfl,hB.mono fun c _ h x=>h.mem_iff.symm⟩
 refine Ht 2 3 4 5 (I:=fun m x2 x3 x4 x5 H'=>∃k:Nat,x3=vn k∧1≤k∧k +m=n∧Np (Pn c0) r ty n H0 H' L) ?_ (n -1) ⟨1,rfl,aa,aa,hB⟩
 clear hB
 rintro m x2 x3 x4 x5 rg H1 ⟨k,rfl,hk1,hkm,hB⟩
 refine tl ?_
 refine au ?_
 refine ah (fun hc2=>?_) (fun hc2=>?_)
 rotate_left
 ·refine tl ?_
  refine rr ?_;exact⟨n,Nat.le_refl _,rfl,hB.mono fun c _ h x=>h.mem_iff.symm⟩
 refine PU.of (iF aa) ?_
 refine hB.W_ aa fun x hB=>?_
 repeat(first|(refine hB.az ?_)|(with_reducible refine aH ?_)|(with_reducible refine bC ?_)|(with_reducible refine hB.wu aa aa fun z hB=>?_)|(refine iL ?_))
 refine ah (fun hc3=>?_) (fun hc3=>?_)
 rotate_left
 ·refine ay ?_
  exact⟨n -(k +1),aa,_,_,_,_,_,_,rfl,k +1,iC,aa,aa,hB.bk⟩
 have hB:Np (Qj c0 k (k +1)) r ty n H0 _ L:=hB.mono fun c hc h=>Qj.init h.1.1 (x:=x) (by have:=h.1.2;rwa [show((0 +k:Nat):Int).toNat=k by omega]at this) (by have:=h.2;rw[hc3,show((k:Int) -1).toNat=k -1 by omega]at*;exact this) hk1
 refine PU.of (Me aa) ?_
 refine lp2 3 5 (I:=fun m' x3 x5 H'=>∃k' k2:Nat,x3=vn k'∧x5=vn k2∧1≤k2∧k'≤k +k2∧k +k2≤n∧k' +1≤k +k2∧k +k2 +m'=n∧Np (Qj c0 k' (k +k2)) r ty n H0 H' L) ?_ (n -k -1) ⟨k,1,rfl,rfl,aa,aa,aa,aa,aa,hB⟩
 clear hB
 rintro m' x3 x5 rg H2 ⟨k',k2,rfl,rfl,h1,h2,h3,h4,h5,hB⟩
 refine tl ?_
 refine au ?_
 refine ah (fun hc4=>?_) (fun hc4=>?_)
 rotate_left
 ·refine tl ?_
  refine PU.of (Me aa) ?_
  rw[Nat.zero_add]
  refine hB.clr aa fun H3 hB=>?_
  refine PU.of (tq aa) ?_
  refine au ?_
  refine rr ?_;exact⟨k',aa,rfl,hB.mono fun c hc ⟨c',hl,h,e⟩ x=>by
   rw[h.1,e,List.drop_of_length_le aa]
   simp⟩
 refine PU.of (iF aa) ?_
 refine hB.W_ aa fun x hB=>?_
 refine aH ?_
 rw[show((k2:Int) -1)=((k2 -1:Nat):Int) by omega]
 refine PU.of (iF aa) ?_
 simp only[aZ hB.wf]
 refine hB.W_ aa fun y hB=>?_
 refine au ?_
 refine jw (by simp only[aN];rfl) ?_
 simp only[aZ hB.wf]
 refine aO (fun Py=>?_) (fun Py=>?_)
 ·refine PU.of (iF aa) ?_
  refine hB.i1N aa fun z hB=>?_
  refine PU.of (iF aa) ?_
  rw[Nat.zero_add]
  refine hB.iwN aa fun H3 hB=>?_
  refine ay ?_
  refine ay ?_
  refine⟨m' -1,aa,_,_,_,_,rfl,k' +1,k2 +1,by rw[show((k':Int) +1)=((k' +1:Nat):Int) by omega],iC,aa,aa,aa,aa,aa,hB.mono fun c hc ⟨c',h,e⟩=>?_⟩
  subst e
  exact Qj.put (j:=k +k2) h.1.1.1 (x:=z) h.2 aa
 ·refine ay ?_
  refine⟨m' -1,aa,_,_,_,_,rfl,k',k2 +1,rfl,iC,aa,aa,aa,aa,aa,hB.mono fun c hc h=>?_⟩
  exact Qj.skip (j:=k +k2) h.1.1 (x:=x) h.1.2 (by rw[Py,show k +k2 -1=k +(k2 -1) by omega];exact h.2)
theorem GL(hn:n≤1000000)(hB:Nm Q r ty n H0 H L):ak Pg X 57 [sl r n (aK 1)] H fun v H'=>∃n',n'≤n∧v=sl r n' (aK 1)∧Nm Q r ty n' H0 H' L:=by
 obtain⟨c0,hq,hB⟩:=hB.np
 refine ak.mono (vI hn hB) ?_
 rintro v H' ⟨n',h1,h2,hB⟩
 exact⟨n',h1,h2,Np.nm hB fun c h x hx=>hq x ((h x).2 hx)⟩
theorem JK:ak Pg X 57 [.slice none 0 0] H fun v H'=>v=.slice none 0 0∧H'=H:=by
 refine ce [0,2,3,4,5] ?_;refine tl ?_
 refine au ?_
 rw[decide_eq_true aa]
 refine au ?_
 refine rr ?_;exact⟨rfl,rfl⟩
end
section
variable{H0 H:ae}{L M:List aC}{S:List Nat}{F:Nat→Prop}{Q:Int→Prop}{r n c:Nat}{ty:TypeId}
def Zm(K:Nat)(Q:Int→Prop)(H:ae)(v:Value):Prop:=∃a n c cs,v=.slice a n c∧Fl H a n 1 cs∧n≤K∧∀x∈cs,∃z:Int,x=vi z∧Q z
def Di(b K:Nat)(Q:Int→Prop)(H:ae)(v:Value):Prop:=∃a n c cs,v=.slice a n c∧eO (b≤·) 3 H a n 1 cs∧n≤K∧∀x∈cs,∃z:Int,x=vi z∧Q z
theorem Di.nil(b K:Nat)(Q:Int→Prop)(H:ae):Di b K Q H (.slice none 0 0):=⟨none,0,0,[],rfl,eO.nil _ _ _ _ _,Nat.zero_le _,fun x h=>nomatch h⟩
theorem Ap(hw:Wf H){K:Nat}(hK:K≤1000000){v:Value}(hv:Zm K Q H v):ak Pg X 200 [v] H (Q1 (fun v H'=>Di H.next K Q H' v) H):=by
 obtain⟨a,n,c,cs,rfl,hf,hn,hi⟩:=hv
 have hS:=SH.refl hw
 refine ce [0,2] ?_;refine tl ?_
 rw[tu (by kernel_rfl)]
 refine au ?_
 refine aA (fun hb=>?_) (fun hb=>?_)
 ·refine rr ?_;exact⟨Di.nil _ _ _ _,Ext.refl _⟩
 ·refine ME.of (aag aa) ?_
  have hS:=hS.grow 3 []
  have hge:=hS.ext.next
  refine hS.Ls aa (.inr ⟨_,rfl⟩) (hf.ex hS.ext) aa fun a' c' H1 L' hf' hS'=>?_
  refine rr ?_;exact⟨⟨a',n,c',cs,rfl,hf'.le hge,hn,hi⟩,hS'.ext⟩
theorem Nm.nums{K:Nat}(hB:Nm Q r ty n H0 H L)(hn:n≤K)(c:Nat):Zm K Q H (sl r n c):=by
 obtain⟨cs,h1,h2,hS⟩:=hB
 have hr:=(hS.lo _ (List.mem_cons_self ..)).2
 refine⟨_,n,c,cs.take n,rfl,⟨by rw[List.length_take];omega,fun i x hi=>⟨r,0,rfl,hr,?_⟩⟩,hn,fun x hx=>?_⟩
 ·have hi':i<n:=by
   have:=(List.getElem?_eq_some_iff.1 hi).1
   rw[List.length_take]at this
   omega
  rw[List.getElem?_take,if_pos hi']at hi
  have:=(hS.get 0 rfl).cell hi
  rwa [Nat.zero_add]
 ·obtain⟨i,hi,rfl⟩:=List.getElem_of_mem hx
  have hi0:=hi
  rw[List.length_take,Nat.min_eq_left aa]at hi
  obtain⟨z,e,hq⟩:=h2 i aa
  have h1':=jv cs 1 i 0
  rw[if_pos (Nat.lt_succ_self 0),e,Nat.mul_one,Nat.add_zero,List.getElem?_eq_getElem (show i<cs.length by omega)]at h1'
  refine⟨z,?_,hq⟩
  rw[List.getElem_take]
  exact(Option.some.inj h1').symm
theorem Qk{x:Value}{ks:List Value}{gb:List aC}{K:Nat}(hK:K≤1000000)(hg:GB 3 1 x ks gb)(hS:SH [] H0 H (gb++L))(hl:ks.length≤K)(hk:∀x∈ks,∃z:Int,x=vi z∧Q z){Kp:Value→Value→ae→Prop}
 (kk:∀v2 v H',Di H0.next K Q H' v→Ext H0 H'→Kp v2 v H'):ak Pg X 55 [x] H fun v1 H1=>ak Pg X 57 [x] H1 fun v2 H2=>ak Pg X 200 [v2] H2 (Kp v2):=by
 rcases hg with⟨rfl,rfl,rfl⟩|⟨r,n,aF,rfl,hn,rfl⟩
 ·refine ak.mono UK ?_
  rintro _ _ rfl
  refine ak.mono JK ?_
  rintro _ _ ⟨rfl,rfl⟩
  refine ak.mono (Ap (Q:=Q) (K:=K) hS.wf hK ⟨none,0,0,[],rfl,Fl.nil _ _ _,Nat.zero_le _,fun x h=>nomatch h⟩) ?_
  rintro v H1 ⟨⟨a,n,c,cs,rfl,h1,h2⟩,hx⟩
  exact kk _ _ _ ⟨a,n,c,cs,rfl,h1.le hS.ext.next,h2⟩ (hS.call hx).ext
 ·have hB:Nm Q r 3 n H0 H L:=by
   refine⟨ks++aF,by rw[List.length_append];omega,fun k hk'=>?_,hS⟩
   have hkl:k<ks.length:=by omega
   obtain⟨z,e,hq⟩:=hk _ (List.getElem_mem hkl)
   refine⟨z,?_,hq⟩
   rw[←e]
   unfold El
   rw[Nat.mul_one,List.drop_eq_getElem_cons (by rw[List.length_append];omega),List.getElem_append_left hkl];rfl
  refine ak.mono (Mc aa hB) ?_
  intro v1 H1 hB
  refine ak.mono (GL aa hB) ?_
  rintro v2 H2 ⟨n',hn',rfl,hB⟩
  refine ak.mono (Ap hB.wf hK (Nm.nums hB aa _)) ?_
  rintro v H3 ⟨⟨a,n,c,cs,rfl,h1,h2⟩,hx⟩
  exact kk _ _ _ ⟨a,n,c,cs,rfl,h1.le hB.ext.next,h2⟩ (hB.call hx).ext
abbrev VX(n:Nat)(z:Int):Prop:=0≤z∧z<n
theorem Ql(hw:Wf H){b:Nat}{ra na:Option Addr}{rn rc nn nc i r:Nat}{rcs bY:List Value}{m:List (ByteArray×Value)}(hG:Gr b H ra rn rcs na nn bY)(hm:jJ H r m)(hnm:GJ rn m)(hi:i<rn)(hB:∀j,j<rn→0≤rootOf rcs j∧rootOf rcs j<nn):
 ak Pg X 186 [gV ra rn rc na nn nc,.map (some r),vn i] H (Q1 (fun v H'=>Di H.next 4001 (VX rn) H' v) H):=by
 have hS:=SH.refl hw
 have g2:=hG.2.1
 have g5:=hG.2.2.2.2.1
 refine ce [0,1,2,3,6,7,8,9,10,11] ?_;refine tl ?_
 refine hS.box rfl fun H1 rg hS=>?_
 refine hS.bL ?_
 have hx1:=hS.ext
 refine ak.mono (Fe hS.wf (hG.ex hx1) hi hB) ?_
 rintro v H2 ⟨⟨k0,rfl,hk0⟩,hx⟩
 have hS:=hS.call hx
 refine VP 7 8 9 10 11 (I:=fun m' x7 x8 x9 aW bg H'=>∃(k:Nat)(ks:List Value)(gb:List aC),x8=vn k∧k +m'=4001∧ks.length≤k∧GB 3 1 x7 ks gb∧(∀x∈ks,∃z:Int,x=vi z∧VX rn z)∧SH [] H H' (gb++[(rg,69,[.slice ra rn rc,.slice na nn nc])])) ?_ (4001 -k0) ⟨k0,[],[],rfl,aa,Nat.zero_le _,GB.nil _ _,(fun x h=>nomatch h),hS⟩
 clear hS
 rintro m' x7 x8 x9 aW bg eP H3 ⟨k,ks,gb,rfl,hkm,hkl,hg,hks,hS⟩
 refine tl ?_
 have hS:=hS.perm List.perm_append_comm
 simp only[List.cons_append,List.nil_append]at hS
 refine hS.az ?_;refine hS.a_ ?_
 obtain⟨r1,o1,mZ,u1,f1,w1,c1,a1,e1,hl1,o7,ji,hsz,_⟩:=hG.ru (i:=i) hi rc
 rw[e1]
 refine hS.az ?_
 refine hS.wo (ji 5 _ aa rfl) hl1 ?_
 have hb:=hB i hi
 refine au ?_
 refine ah (fun hc=>?_) (fun hc=>?_)
 rotate_left
 ·refine tl ?_
  refine Qk (K:=4001) aa hg (hS.perm (List.perm_append_comm (l₁:=[_]))) aa hks fun v2 v H4 hv hx4=>?_
  refine rr ?_;exact⟨hv,hx4⟩
 have hkn:k<nn:=by omega
 refine hS.a_ ?_
 obtain⟨kd,ka,kn,kc,ks',t,rs,at',he,hk1,hk2,hk3,hk4,hk5⟩:=hG.2.2.2.2.2 k hkn
 obtain⟨xa,xn,xc,xcs,rfl,Qa⟩:=id hk5
 obtain⟨r2,o2,e2,hl2,Qh,kV⟩:=hG.no hkn nc he
 rw[e2]
 refine hS.az ?_
 refine hS.mM Qh hl2 ?_
 refine hS.jI rfl rfl rfl fun H4 rn' hS hx4=>?_
 have hS:SH [] H H4 ((rn',145,[vi kd,.slice ka kn kc,.string t,.slice xa xn xc,vi at'])::(rg,69,[.slice ra rn rc,.slice na nn nc])::gb):=hS
 repeat(first|(refine hS.az ?_)|(refine hS.a_ ?_))
 have uY:∀x7 x9 aW bg ks gb pO H5,ks.length≤k +1→GB 3 1 x7 ks gb→(∀x∈ks,∃z:Int,x=vi z∧VX rn z)→SH [] H H5 ((rn',145,[vi kd,.slice ka kn kc,.string t,.slice xa xn xc,vi at'])::(rg,69,[.slice ra rn rc,.slice na nn nc])::gb)→∃m_1,m_1<m'∧uX (gV ra rn rc na nn nc) (.map (some r)) (vn i) (.pointer (some ⟨rg,0,none⟩)) (.slice none 0 0) (fun m' x7 x8 x9 aW bg H'=>∃(k:Nat)(ks:List Value)(gb:List aC),x8=vn k∧k +m'=4001∧ks.length≤k∧GB 3 1 x7 ks gb∧(∀x∈ks,∃z:Int,x=vi z∧VX rn z)∧SH [] H H' (gb++[(rg,69,[.slice ra rn rc,.slice na nn nc])])) m_1 (vG (gV ra rn rc na nn nc) (.map (some r)) (vn i) (.pointer (some ⟨rg,0,none⟩)) (.slice none 0 0) x7 (vi ((k:Int) +1)) x9 aW bg pO H5):=by
  intro x7 x9 aW bg ks gb pO H5 h1 h2 h3 h4
  exact⟨4001 -(k +1),aa,_,_,_,_,_,_,_,rfl,k +1,ks,gb,iC,aa,h1,h2,h3,(SH.drop (A:=[_]) h4).perm (List.perm_append_comm (l₁:=[_]))⟩
 refine ah (fun hc2=>?_) (fun hc2=>?_)
 rotate_left
 ·refine ay ?_
  exact uY _ _ _ _ ks gb _ _ aa hg hks hS
 refine hS.a_ ?_
 have hm1:=hm.ex hS.ext (fun h=>nomatch h)
 refine ME.JH hm1 q_ JI VW fun f' hf hn=>?_
 refine hS.az ?_
 refine aA (fun hb=>?_) (fun hb=>?_)
 rotate_left
 ·refine ay ?_
  exact uY _ _ _ _ ks gb _ _ aa hg hks hS
 cases f' with
 |none=>cases hb
 |some v=>
  obtain⟨z,hz,hv⟩:=hnm _ (hf v rfl)
  have hv:v=vn z:=hv
  subst hv
  simp only[Option.getD_some]
  have hO:=hS.perm (List.perm_append_comm (l₁:=[_,_]))
  have hO:=hO.own
  refine hO.bS rfl rfl rfl aa fun H5 rx hS5=>?_
  obtain⟨v',H6,bJ,e1,hg',kY,_⟩:=hg.app (m:=0) (cx:=1) (L:=[]) (by rw[List.append_nil];exact hS5) aa rfl rfl aa aa
  refine ME.of e1 ?_
  rw[List.append_nil]at kY
  refine ay ?_
  refine uY _ _ _ _ _ bJ _ _ ?_ hg' (fun x hx=>?_) ?_
  ·rw[List.length_append];show ks.length +1≤_;omega
  ·rcases List.mem_append.1 hx with h|h
   ·exact hks x h
   ·have h:x∈[vn z]:=h
    exact⟨z,List.mem_singleton.1 h,aa,aa⟩
  ·exact((hS.perm (List.perm_append_comm (l₁:=[_,_]))).frame kY).perm (List.perm_append_comm (l₂:=[_,_]))
end
end Go.Proofs.Lu
