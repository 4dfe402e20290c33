/-
  Part 09c of the proof. No condition.
-/
import Derived.Test.YtcpdfamjhehgiaaGreatDoorS09b
set_option linter.unusedVariables false
set_option linter.unusedSimpArgs false
set_option maxRecDepth 100000
set_option maxHeartbeats 8000000
noncomputable section
namespace Go.Proofs.Lu
open Go.Ae Go.Ae.M
section
variable{H0 H:ag}{L:List bF}{r:Nat}{ty:TypeId}{n c:Nat}{cv:Value}
theorem zx{q:Nat}{s:Int}(hB:Rg r ty n H0 H ((q,574,[.int .u64 s])::L)):
 aj Pg X 453 [.pointer (some ⟨q,0,none⟩)] H fun v H'=>∃z,v=.int .u64 z∧Rg r ty n H0 H' ((q,574,[.int .u64 z])::L):=by
 refine ce [0,2] ?_;refine tl ?_
 refine ak ?_
 refine hB.uZ 0 rfl rfl ?_
 (try simp only[cr hB.wf,iA,fJ])
 refine hB.uZ 0 rfl rfl ?_
 refine PU.of (u7 aa) ?_
 refine PU.of u6 ?_
 (try simp only[cr hB.wf,iA,fJ])
 refine hB.MM 0 rfl rfl (Nat.le_of_ble_eq_true rfl) rfl fun Hn hB=>?_
 refine And.intro (by simp only[az,ay];kernel_rfl) ?_
 (try simp only[cr hB.wf,iA,fJ])
 refine hB.uZ 0 rfl rfl ?_
 (try simp only[cr hB.wf,iA,fJ])
 refine hB.uZ 0 rfl rfl ?_
 refine PU.of (dZ aa) ?_
 refine PU.of u6 ?_
 (try simp only[cr hB.wf,iA,fJ])
 refine hB.MM 0 rfl rfl (Nat.le_of_ble_eq_true rfl) rfl fun Hn hB=>?_
 refine And.intro (by simp only[az,ay];kernel_rfl) ?_
 (try simp only[cr hB.wf,iA,fJ])
 refine hB.uZ 0 rfl rfl ?_
 (try simp only[cr hB.wf,iA,fJ])
 refine hB.uZ 0 rfl rfl ?_
 refine PU.of (u7 aa) ?_
 refine PU.of u6 ?_
 (try simp only[cr hB.wf,iA,fJ])
 refine hB.MM 0 rfl rfl (Nat.le_of_ble_eq_true rfl) rfl fun Hn hB=>?_
 refine And.intro (by simp only[az,ay];kernel_rfl) ?_
 (try simp only[cr hB.wf,iA,fJ])
 refine hB.ld 0 rfl rfl ?_
 refine rr ?_;exact⟨_,rfl,hB⟩
theorem Cy(hcm:ku cv)(hn:n≤1000000)(hB:Rg r ty n H0 H L)(a b:Int)(h1:0≤a)(h2:b≤n)(h3:a +12<b):
 aj Pg X 445 [sl r n c,vi a,vi b,cv] H fun v H'=>Rg r ty n H0 H' L:=by
 refine ce [0,1,2,8,9,10,11,12] ?_;refine tl ?_
 refine aG ?_
 refine PU.of fP ?_
 rw[decide_eq_true aa]
 rw[dL,eG (u64_in aa)]
 refine ak ?_
 refine hB.new fun H1 q hB=>?_
 refine hB.st 0 rfl rfl (Nat.le_of_ble_eq_true rfl) rfl fun Hn hB=>?_
 refine aj.mono (Cv (b -a) aa aa) ?_
 rintro _ _ ⟨⟨m,rfl,h4,h5⟩,rfl⟩
 refine PU.quo aa aa aa fun qd hd1 hd2 hd3=>?_
 refine aL ?_
 refine aC ?_
 refine aG ?_
 refine lp2 11 12 (I:=fun k x9 eZ H'=>∃i s:Int,x9=vi i∧a<i∧i≤b∧k=(b -i).toNat∧Rg r ty n H0 H' ((q,574,[.int .u64 s])::L)) ?_ _ ⟨_,_,rfl,aa,aa,rfl,hB⟩
 clear hB hd1 hd2 hd3 qd
 rintro k x9 eZ rg H3 ⟨i,s,rfl,h6,h7,hk,hB⟩
 refine bC.l6 fun K hK=>?_
 refine tl ?_
 refine PU.quo aa aa aa fun qd hd1 hd2 hd3=>?_
 refine aL ?_
 refine aC ?_
 refine aC ?_
 refine PU.of yB ?_
 refine ai (fun hc=>?_) (fun hc=>?_)
 rotate_left
 ·subst hK
  refine ak ?_
  refine rn ?_;exact hB.drop
 have hib:i<b -1:=by omega
 clear hc hd1 hd2 hd3 qd
 refine aj.mono (zx hB) ?_
 rintro _ H4 ⟨z,rfl,hB⟩
 refine PU.of (FK (u64_in aa)) ?_
 refine PU.of qA ?_
 obtain⟨g1,g2⟩:=Qa (a:=z) (b:=m -1) aa
 generalize gq .u64 z (m -1)=y at g1 g2
 rw[dL,fo aa aa]
 refine ak ?_
 have fin:∀(w:Int) rg,0≤w→w<b -a→bC Pg X (sub eX [1,1,0,1,1,1,0,0,1,0,0,1,1]) (iZ (sl r n c) (vi a) (vi b) cv (vi (b -a)) (.pointer (some ⟨q,0,none⟩)) (.int .u64 m) (vi i) (vi w) rg H4) (nL 1 (pG Pg X (sub eX [1,1,0,1,1,1,0,0,1,1]) K)):=by
  intro w rg g3 g4
  subst hK
  refine tl ?_
  repeat(first|(refine hB.aX ?_)|(with_reducible refine aC ?_)|(with_reducible refine aI ?_)|(with_reducible refine hB.fQ aa aa fun za zb=>?_)|(with_reducible refine hB.gD aa aa fun Hn hB=>?_)|(refine bJ ?_))
  refine tl ?_
  refine hB.aX ?_;with_reducible refine aC ?_
  exact⟨(b -(i +1)).toNat,aa,_,_,_,_,rfl,i +1,_,rfl,aa,aa,rfl,hB⟩
 refine ai (fun hc=>?_) (fun hc=>?_)
 ·with_reducible refine aG ?_
  exact fin _ _ aa aa
 ·exact fin _ _ aa aa
theorem Kj(hcm:ku cv)(hn:n≤1000000):∀(d:Nat)(H0 H:ag)(L:List bF)(hB:Rg r ty n H0 H L)(a b l:Int)(h1:0≤a)(h2:b≤n)(h3:a≤b +1)(h4:0≤l)(h5:l≤64)(hd:(b -a).toNat≤d),
 aj Pg X 413 [sl r n c,vi a,vi b,vi l,cv] H fun v H'=>Rg r ty n H0 H' L:=by
 intro d
 induction d using Nat.strongRecOn with
 |_ d ih=>
 intro H0 H L hB a b l h1 h2 h3 h4 h5 hd
 refine ce [0,1,2,3,4,10,11,12,13,14,15,16,17,18,19,20] ?_;refine tl ?_
 refine WQ 1 2 3 10 11 12 13 14 15 16 17 18 19 20 (I:=fun k x1 x2 x3 x8 x9 eZ jK nD mQ AX B_ Cb Cc D9 H'=>∃(a' b' l:Int)(w q:Bool),x1=vi a'∧x2=vi b'∧x3=vi l∧x8=.bool w∧x9=.bool q∧a≤a'∧b'≤b∧a'≤b' +1∧0≤l∧l≤64∧k=(b' +1 -a').toNat∧Rg r ty n H0 H' L) ?_ _
  ⟨a,b,l,true,true,rfl,rfl,rfl,rfl,rfl,aa,aa,aa,aa,aa,rfl,hB⟩
 clear hB h4 h5 l H
 rintro k x1 x2 x3 x8 x9 eZ jK nD mQ AX B_ Cb Cc D9 rg H1 ⟨a',b',l,w,q,rfl,rfl,rfl,rfl,rfl,h4,h5,h6,h7,h8,hk,hB⟩
 refine bC.l6 fun K hK=>?_
 have t3:∀(p l:Int)(w q:Bool) nD mQ AX B_ Cb Cc D9 rg H3,0≤l→l≤64→a' +12<b'→a'≤p→p<b'→Rg r ty n H0 H3 L→bC Pg X (sub b_ [1,1,0,0,0,1,1,1,1,1,1,1,1])
  (bY (sl r n c) (vi a') (vi b') (vi l) cv (.bool w) (.bool q) (vi (b' -a')) (vi p) nD mQ AX B_ Cb Cc D9 rg H3) (nL 1 K):=by
  intro p l w q nD mQ AX B_ Cb Cc D9 rg H3 g1 g2 g3 g4 g5 hB
  subst hK
  refine tl ?_
  refine aj.mono (Gb hcm aa hB a' b' p aa aa aa aa) ?_
  rintro _ H4 ⟨mid,f,rfl,g6,g7,hB⟩
  refine ak ?_
  refine aG ?_
  refine aG ?_
  refine PU.quo aa aa aa fun qd hd1 hd2 hd3=>?_
  clear hd1 hd2 hd3
  refine PU.of yA ?_
  refine ai (fun hc=>?_) (fun hc=>?_)
  ·refine PU.of fP ?_
   refine aj.mono (ih (mid -a').toNat aa H0 H4 L hB a' mid l aa aa aa g1 g2 (Nat.le_refl _)) ?_
   rintro _ H5 hB
   refine aC ?_
   exact⟨(b' +1 -(mid +1)).toNat,aa,_,_,_,_,_,_,_,_,_,_,_,_,_,_,_,_,rfl,mid +1,b',l,_,_,rfl,rfl,rfl,rfl,rfl,aa,aa,aa,g1,g2,rfl,hB⟩
  ·refine PU.of fP ?_
   refine aC ?_
   refine aj.mono (ih (b' -(mid +1)).toNat aa H0 H4 L hB (mid +1) b' l aa aa aa g1 g2 (Nat.le_refl _)) ?_
   rintro _ H5 hB
   exact⟨(mid +1 -a').toNat,aa,_,_,_,_,_,_,_,_,_,_,_,_,_,_,_,_,rfl,a',mid,l,_,_,rfl,rfl,rfl,rfl,rfl,aa,aa,aa,g1,g2,rfl,hB⟩
 have t2:∀(p l:Int)(w q:Bool) nD mQ AX B_ Cb Cc D9 rg H3,0≤l→l≤64→a' +12<b'→a'≤p→p<b'→Rg r ty n H0 H3 L→bC Pg X (sub b_ [1,1,0,0,0,1,1,1,1,1,1,1])
  (bY (sl r n c) (vi a') (vi b') (vi l) cv (.bool w) (.bool q) (vi (b' -a')) (vi p) nD mQ AX B_ Cb Cc D9 rg H3) (nL 1 K):=by
  intro p l w q nD mQ AX B_ Cb Cc D9 rg H3 g1 g2 g3 g4 g5 hB
  refine tl ?_
  refine hB.aX ?_
  refine ai (fun hc=>?_) (fun hc=>?_)
  ·repeat(first|(refine hB.aX ?_)|(with_reducible refine aG ?_)|(with_reducible refine aI ?_)|(with_reducible refine hB.fQ aa aa fun za zb=>?_)|(with_reducible refine hcm.call hB fun zc Hn hB bI=>?_)|((with_reducible refine And.intro ?_ ?_);focus ((simp only[az,ay,av bI]);kernel_rfl)))
   refine tl ?_
   refine hB.aX ?_
   refine aU (fun hb=>?_) (fun hb=>?_)
   ·refine aj.mono (Cx hcm aa hB a' b' p aa aa aa aa) ?_
    rintro _ H4 ⟨i,rfl,g6,g7,hB⟩
    subst hK
    refine hB.aX ?_
    exact⟨(b' +1 -i).toNat,aa,_,_,_,_,_,_,_,_,_,_,_,_,_,_,_,_,rfl,i,b',l,_,_,rfl,rfl,rfl,rfl,rfl,aa,aa,aa,g1,g2,rfl,hB⟩
   ·exact t3 _ _ _ _ _ _ _ _ _ _ _ _ _ g1 g2 g3 g4 g5 hB
  ·refine⟨by kernel_rfl,?_⟩
   refine tl ?_
   refine hB.aX ?_
   exact t3 _ _ _ _ _ _ _ _ _ _ _ _ _ g1 g2 g3 g4 g5 hB
 have t1:∀(p h l:Int)(w q:Bool) mQ AX B_ Cb Cc D9 rg H3,0≤l→l≤64→a' +12<b'→a'≤p→p<b'→Rg r ty n H0 H3 L→bC Pg X (sub b_ [1,1,0,0,0,1,1,1,1,1,1])
  (bY (sl r n c) (vi a') (vi b') (vi l) cv (.bool w) (.bool q) (vi (b' -a')) (vi p) (vi h) mQ AX B_ Cb Cc D9 rg H3) (nL 1 K):=by
  intro p h l w q mQ AX B_ Cb Cc D9 rg H3 g1 g2 g3 g4 g5 hB
  refine tl ?_
  refine hB.aX ?_
  refine aU (fun hb=>?_) (fun hb=>?_)
  ·refine aU (fun hb=>?_) (fun hb=>?_)
   ·refine tl ?_
    refine hB.aX ?_
    refine ai (fun hc=>?_) (fun hc=>?_)
    ·refine aj.mono (zX hcm aa hB a' b' aa aa aa) ?_
     rintro _ H4 ⟨⟨bl,rfl⟩,hB⟩
     refine hB.aX ?_
     refine aU (fun hb=>?_) (fun hb=>?_)
     ·subst hK
      refine hB.aX ?_
      refine rr ?_;exact hB
     ·exact t2 _ _ _ _ _ _ _ _ _ _ _ _ _ g1 g2 g3 g4 g5 hB
    ·exact t2 _ _ _ _ _ _ _ _ _ _ _ _ _ g1 g2 g3 g4 g5 hB
   ·refine tl ?_
    refine hB.aX ?_
    exact t2 _ _ _ _ _ _ _ _ _ _ _ _ _ g1 g2 g3 g4 g5 hB
  ·refine tl ?_
   refine hB.aX ?_
   exact t2 _ _ _ _ _ _ _ _ _ _ _ _ _ g1 g2 g3 g4 g5 hB
 have t0:∀(l:Int)(w q:Bool) jK nD mQ AX B_ Cb Cc D9 rg H3,0≤l→l≤64→a' +12<b'→Rg r ty n H0 H3 L→bC Pg X (sub b_ [1,1,0,0,0,1,1,1,1])
  (bY (sl r n c) (vi a') (vi b') (vi l) cv (.bool w) (.bool q) (vi (b' -a')) jK nD mQ AX B_ Cb Cc D9 rg H3) (nL 1 K):=by
  intro l w q jK nD mQ AX B_ Cb Cc D9 rg H3 g1 g2 g3 hB
  refine tl ?_
  refine aj.mono (Cw hcm aa hB a' b' aa aa aa) ?_
  rintro _ H4 ⟨p,h,rfl,g4,g5,hB⟩
  refine ak ?_
  refine ai (fun hc=>?_) (fun hc=>?_)
  ·refine aj.mono (zW hcm aa hB a' b' aa aa aa) ?_
   rintro _ H5 hB
   repeat(with_reducible refine aG ?_)
   exact t1 _ _ _ _ _ _ _ _ _ _ _ _ _ g1 g2 g3 aa aa hB
  ·exact t1 _ _ _ _ _ _ _ _ _ _ _ _ _ g1 g2 g3 aa aa hB
 refine tl ?_
 repeat(first|(refine hB.aX ?_)|(with_reducible refine aG ?_))
 refine ai (fun hc=>?_) (fun hc=>?_)
 ·refine aj.mono (wV hcm aa hB a' b' aa aa aa) ?_
  rintro _ H5 hB
  subst hK
  refine hB.aX ?_
  refine rr ?_;exact hB
 refine ai (fun he=>?_) (fun he=>?_)
 ·refine aj.mono (Ga hcm aa hB a' b' aa aa aa) ?_
  rintro _ H5 hB
  subst hK
  refine hB.aX ?_
  refine rr ?_;exact hB
 refine aU (fun hb=>?_) (fun hb=>?_)
 ·refine aj.mono (Cy hcm hn hB a' b' aa aa aa) ?_
  rintro _ H5 hB
  with_reducible refine aG ?_
  exact t0 _ _ _ _ _ _ _ _ _ _ _ _ _ aa aa aa hB
 ·exact t0 _ _ _ _ _ _ _ _ _ _ _ _ _ aa aa aa hB
end
end Go.Proofs.Lu
