/-
  Part 17 of the proof. No condition.
-/
import Derived.Test.YtcpdfamjhehgiaaGreatDoorS16
set_option linter.unusedVariables false
set_option linter.unusedSimpArgs false
set_option maxRecDepth 100000
set_option maxHeartbeats 8000000
noncomputable section
namespace Go.Proofs.Lu
open Go.Ae Go.Ae.M Go.Ae.si
section
variable{H0 H:ag}{L:List bF}
theorem or_u8{a b:Nat}(ha:a<256)(hb:b<256):FJ .u8 (a:Int) (b:Int)=((a|||b:Nat):Int):=by
 unfold FJ
 rw[show(IntKind.u8).bits=8 from rfl,BitVec.toNat_or,gJ (by omega),gJ (by omega)]
 exact t_ (Nat.or_lt_two_pow (n:=8) ha hb)
theorem wrap_u8m(a:Nat):aT .u8 (a:Int)=((a %256:Nat):Int):=by
 have h:IntKind.wrap .u8 (a:Int)=((a %256:Nat):Int):=by simp[IntKind.wrap,IntKind.bits,IntKind.signed]
 rw[←h];exact sK _ _
theorem shr_i32{a j:Nat}(hj:j<32):lI .i32 (a:Int) (j:Int)=((a/2^j:Nat):Int):=by
 unfold lI
 rw[Int.toNat_natCast,show min j (IntKind.i32).bits=j from Nat.min_eq_left (by show j≤32;omega)]
 rw[Int.fdiv_eq_ediv_of_nonneg _ (by exact Int.le_of_lt (by exact_mod_cast Nat.two_pow_pos j))]
 push_cast;rfl
theorem lead{r j a i:Nat}(hj:j<32)(ha:a*2^i<256)(hb:r/2^j<2^i)(h:r/2^j<256):FJ .u8 ((a*2^i:Nat):Int) (aT .u8 (lI .i32 (r:Int) (j:Int)))=((a*2^i +r/2^j:Nat):Int):=by
 rw[shr_i32 hj,wrap_u8m,Nat.mod_eq_of_lt h,or_u8 ha h,ve hb]
theorem next{r j:Nat}(hj:j<32):FJ .u8 128 (gq .u8 (aT .u8 (lI .i32 (r:Int) (j:Int))) 63)=((128 +r/2^j %64:Nat):Int):=by
 rw[shr_i32 hj,wrap_u8m]
 have e:=om (a:=r/2^j %256) (j:=6) (Nat.mod_lt _ (by decide)) (by decide)
 rw[show(63:Int)=((2^6 -1:Nat):Int)from rfl,e,Nat.mod_mod_of_dvd _ (by decide)]
 have h64:r/2^j %2^6<2^6:=Nat.mod_lt _ (by decide)
 have:=or_u8 (a:=2*2^6) (b:=r/2^j %2^6) (by decide) (by omega)
 rw[show(128:Int)=((2*2^6:Nat):Int)from rfl,this,ve h64]
theorem next0{r:Nat}:FJ .u8 128 (gq .u8 (aT .u8 (r:Int)) 63)=((128 +r %64:Nat):Int):=by
 rw[wrap_u8m]
 have e:=om (a:=r %256) (j:=6) (Nat.mod_lt _ (by decide)) (by decide)
 rw[show(63:Int)=((2^6 -1:Nat):Int)from rfl,e,Nat.mod_mod_of_dvd _ (by decide)]
 have h64:r %2^6<2^6:=Nat.mod_lt _ (by decide)
 have:=or_u8 (a:=2*2^6) (b:=r %2^6) (by decide) (by omega)
 rw[show(128:Int)=((2*2^6:Nat):Int)from rfl,this,ve h64]
def AddE(H0:ag)(L:List bF)(l:List Nat)(v':Value)(H':ag):Prop:=∃iF,GB 5 1 v' (l.map iK) iF∧SH [] H0 H' (iF++L)
theorem addE{v:Value}{l:List Nat}{gb:List bF}{K:Value→ag→Prop}(hg:GB 5 1 v (l.map iK) gb)(hS:SH [] H0 H (gb++L))(hl:l.length≤1000000){xs:List Value}{m:Nat}(l2:List Nat)(e:xs=l2.map iK)(h2:l2.length=m +1)(hm:m≤3)(hb:∀x∈l2,x<256)
 (k:∀v' H',AddE H0 L (l++l2) v' H'→K v' H'):ME (zB 5 1 v (.slice (some ⟨H.next,0,none⟩) (m +1) (m +1)) (H.new (rowOf 5 xs))) K:=by
 subst e
 have hS2:=hS.grow 5 (l2.map iK)
 obtain⟨v',H1,iF,h1,h2,h3,_⟩:=hg.app (m:=m) (cx:=m +1) hS2 (by decide) (by rw[List.length_map];omega) (Cf _ (IG hb)) (by omega) (by simpa using(by omega:l.length≤16777216))
 rw[h1]
 exact k v' H1 ⟨iF,by rw[List.map_append];exact h2,h3⟩
theorem appendNonE{v:Value}{l:List Nat}{gb:List bF}(hg:GB 5 1 v (l.map iK) gb)(hS:SH [] H0 H (gb++L))(hl:l.length≤1000000)(r:Nat)(hr:tY r)(h128:128≤r):
 aj Pg X 409 [v,.int .i32 (r:Int)] H (AddE H0 L (l++enc r)):=by
 have hmax:r≤1114111:=by unfold tY at hr;omega
 have hu:aT .u32 (r:Int)=(r:Int):=eG (wrap_u32 (by omega))
 refine ce [0,1,4,5] ?_;refine tl ?_
 (try simp only[PP,Nat.reduceBEq])
 rw[hu]
 with_reducible refine ai (fun h1=>?_) (fun h1=>?_)
 ·refine ME.of Si ?_
  have e:enc r=[192 +r/64,128 +r %64]:=by unfold enc;rw[if_neg (by omega),if_pos (by omega)]
  rw[e]
  refine addE hg hS hl [192 +r/64,128 +r %64] ?_ rfl (by omega) (by simp;omega) fun v' H' h=>?_
  ·rw[next0]
   have:=lead (r:=r) (j:=6) (a:=3) (i:=6) (by omega) (by decide) (by show r/64<64;omega) (by show r/64<256;omega)
   rw[show FJ .u8 192 (aT .u8 (lI .i32 (r:Int) 6))=((192 +r/64:Nat):Int)from this]
   rfl
  refine rr ?_;exact h
 have fin:∀c rg,Az rg 25=.bool c→(c=decide (r<65536))→bC Pg X (sub eU [1,1,0,1,1,1]) (eP v (.int .i32 (r:Int)) (.slice none 0 0) (.int .u32 (r:Int)) rg H) (nL 0 (fD Pg [.tmp 4] (AddE H0 L (l++enc r)))):=by
  intro c rg hc hce
  refine tl ?_
  rw[hc]
  (try simp only[PP,Nat.reduceBEq])
  refine aU (fun h2=>?_) (fun h2=>?_)
  ·have h2:r<65536:=of_decide_eq_true (hce.symm.trans h2)
   refine ME.of NN ?_
   have e:enc r=[224 +r/4096,128 +r/64 %64,128 +r %64]:=by unfold enc;rw[if_neg (by omega),if_neg (by omega),if_pos (by omega)]
   rw[e]
   refine addE hg hS hl [224 +r/4096,128 +r/64 %64,128 +r %64] ?_ rfl (by omega) (by simp;omega) fun v' H' h=>?_
   ·rw[next0]
    have a:=lead (r:=r) (j:=12) (a:=7) (i:=5) (by omega) (by decide) (by show r/4096<32;omega) (by show r/4096<256;omega)
    have b:=next (r:=r) (j:=6) (by omega)
    rw[show FJ .u8 224 (aT .u8 (lI .i32 (r:Int) 12))=((224 +r/4096:Nat):Int)from a,show FJ .u8 128 (gq .u8 (aT .u8 (lI .i32 (r:Int) 6)) 63)=((128 +r/64 %64:Nat):Int)from b]
    rfl
   refine rr ?_;exact h
  have h2:¬r<65536:=of_decide_eq_false (hce.symm.trans h2)
  have uh:∀c rg,Az rg 50=.bool c→c=true→bC Pg X (sub eU [1,1,0,1,1,1,1,1]) (eP v (.int .i32 (r:Int)) (.slice none 0 0) (.int .u32 (r:Int)) rg H) (nL 0 (fD Pg [.tmp 4] (AddE H0 L (l++enc r)))):=by
   intro c rg hc hct
   subst hct
   refine tl ?_
   rw[hc]
   (try simp only[PP,Nat.reduceBEq])
   refine ME.of Sj ?_
   have e:enc r=[240 +r/262144,128 +r/4096 %64,128 +r/64 %64,128 +r %64]:=by unfold enc;rw[if_neg (by omega),if_neg (by omega),if_neg (by omega)]
   rw[e]
   refine addE hg hS hl [240 +r/262144,128 +r/4096 %64,128 +r/64 %64,128 +r %64] ?_ rfl (by omega) (by simp;omega) fun v' H' h=>?_
   ·rw[next0]
    have a:=lead (r:=r) (j:=18) (a:=15) (i:=4) (by omega) (by decide) (by show r/262144<16;omega) (by show r/262144<256;omega)
    have b:=next (r:=r) (j:=12) (by omega)
    have c:=next (r:=r) (j:=6) (by omega)
    rw[show FJ .u8 240 (aT .u8 (lI .i32 (r:Int) 18))=((240 +r/262144:Nat):Int)from a,show FJ .u8 128 (gq .u8 (aT .u8 (lI .i32 (r:Int) 12)) 63)=((128 +r/4096 %64:Nat):Int)from b,show FJ .u8 128 (gq .u8 (aT .u8 (lI .i32 (r:Int) 6)) 63)=((128 +r/64 %64:Nat):Int)from c]
    rfl
   refine rr ?_;exact h
  with_reducible refine ai (fun h3=>?_) (fun h3=>absurd (by omega) h3)
  refine uh _ _ (by simp only[lJ,nX];rfl) ?_
  exact decide_eq_true (by omega)
 with_reducible refine ai (fun h2=>?_) (fun h2=>?_)
 ·exact fin _ _ (by simp only[lJ,nX];rfl) (by rw[decide_eq_true h2,decide_eq_true (by omega)])
 with_reducible refine ai (fun h3=>?_) (fun h3=>?_)
 ·exact fin _ _ (by simp only[lJ,nX];rfl) (by congr 1;exact propext ⟨fun h=>by omega,fun h=>by omega⟩)
 ·unfold tY at hr;omega
theorem appendRuneE{v:Value}{l:List Nat}{gb:List bF}(hg:GB 5 1 v (l.map iK) gb)(hS:SH [] H0 H (gb++L))(hl:l.length≤1000000)(r:Nat)(hr:tY r):
 aj Pg X 344 [v,.int .i32 (r:Int)] H (AddE H0 L (l++enc r)):=by
 have hmax:r≤1114111:=by unfold tY at hr;omega
 have hu:aT .u32 (r:Int)=(r:Int):=eG (wrap_u32 (by omega))
 refine ce [0,1,4] ?_;refine tl ?_
 (try simp only[PP,Nat.reduceBEq])
 rw[hu]
 refine ai (fun h1=>?_) (fun h1=>?_)
 ·refine ME.of NM ?_
  have e:enc r=[r]:=by unfold enc;rw[if_pos (by omega)]
  rw[e]
  refine addE hg hS hl [r] ?_ rfl (by omega) (by simp;omega) fun v' H' h=>?_
  ·rw[wrap_u8m,Nat.mod_eq_of_lt (by omega)];rfl
  refine rr ?_;exact h
 ·refine aj.mono (appendNonE hg hS hl r hr (by omega)) fun v' H' h=>?_
  refine rr ?_;exact h
theorem enc_lt{r:Nat}(h:tY r):∀x∈enc r,x<256:=by
 have hmax:r≤1114111:=by unfold tY at h;omega
 intro x hx
 unfold enc at hx
 split at hx
 ·simp at hx;omega
 split at hx
 ·simp at hx;omega
 split at hx
 ·simp at hx;omega
 ·simp at hx;omega
theorem writeRuneE{rb:Nat}{l:List Nat}{A:List bF}(hb:N5 rb l A)(hS:SH [] H0 H (A++L))(hl:l.length≤1000000)(r:Nat)(hr:tY r):
 aj Pg X 239 [.pointer (some ⟨rb,0,none⟩),.int .i32 (r:Int)] H fun w H'=>(∃x y,w=.tuple ⟨[x,y]⟩)∧∃A',N5 rb (l++enc r) A'∧SH [] H0 H' (A'++L):=by
 obtain⟨p,v,gb,hp,hg,rfl,hby⟩:=hb
 refine ce [0,1,4,5,6] ?_;refine tl ?_
 refine aj.mono (jm (L:=gb++L) hp hS) ?_
 intro w H1 hS
 obtain⟨a,n,c,rfl,hn,_⟩:=hg.fl (SH.drop (A:=[bu rb (some ⟨rb,0,none⟩) v]) hS)
 rw[List.length_map]at hn
 (try simp only[PP,Nat.reduceBEq])
 refine hS.ld 0 rfl rfl ?_
 (try simp only[PP,Nat.reduceBEq])
 refine hS.ld 0 rfl rfl ?_
 have hS2:SH [] H0 H1 (gb++(bu rb (some ⟨rb,0,none⟩) (.slice a n c)::L)):=hS.perm List.perm_middle.symm
 refine aj.mono (appendRuneE hg hS2 hl r hr) ?_
 rintro v' H2 ⟨iF,hg',VG⟩
 have hS4:SH [] H0 H2 (bu rb (some ⟨rb,0,none⟩) (.slice a n c)::(iF++L)):=VG.perm List.perm_middle
 (try simp only[PP,Nat.reduceBEq])
 refine hS4.st 0 rfl hg'.aN.2.1 (by show 1 +1≤2;omega) hg'.aN.1 fun H3 hS5=>?_
 have hS5:SH [] H0 H3 (bu rb (some ⟨rb,0,none⟩) v'::(iF++L)):=by rw[hg'.aN.2.2]at hS5;exact hS5
 refine hS5.ld 0 rfl rfl ?_
 obtain⟨a',n',c',rfl,hn',_⟩:=hg'.fl (SH.drop (A:=[bu rb (some ⟨rb,0,none⟩) _]) hS5)
 have hel:=(oh r).2
 have hnl:n'=n +(enc r).length:=by rw[List.length_map,List.length_append]at hn';omega
 (try simp only[PP,Nat.reduceBEq])
 rw[iL (by omega) (by omega)]
 (try simp only[PP,Nat.reduceBEq])
 refine rr ?_;refine⟨⟨_,_,rfl⟩,_,⟨_,_,iF,.inr rfl,hg',rfl,?_⟩,hS5⟩
 intro x hx
 rcases List.mem_append.1 hx with h|h
 ·exact hby x h
 ·exact enc_lt hr x h
end
section
variable{H0 H:ag}{L:List bF}
theorem digitE{k:Nat}(hk:k<16):aj Pg X 408 [.int .u8 ((wS k:Nat):Int)] H (Q0 (fun v=>v=.tuple ⟨[.int .i32 (k:Int),.bool true]⟩) H):=by
 have:k=0∨k=1∨k=2∨k=3∨k=4∨k=5∨k=6∨k=7∨k=8∨k=9∨k=10∨k=11∨k=12∨k=13∨k=14∨k=15:=by omega
 rcases this with rfl|rfl|rfl|rfl|rfl|rfl|rfl|rfl|rfl|rfl|rfl|rfl|rfl|rfl|rfl|rfl
 ·exact⟨.tuple ⟨[.int .i32 0,.bool true]⟩,H,⟨60,by kernel_rfl⟩,rfl,rfl⟩
 ·exact⟨.tuple ⟨[.int .i32 1,.bool true]⟩,H,⟨60,by kernel_rfl⟩,rfl,rfl⟩
 ·exact⟨.tuple ⟨[.int .i32 2,.bool true]⟩,H,⟨60,by kernel_rfl⟩,rfl,rfl⟩
 ·exact⟨.tuple ⟨[.int .i32 3,.bool true]⟩,H,⟨60,by kernel_rfl⟩,rfl,rfl⟩
 ·exact⟨.tuple ⟨[.int .i32 4,.bool true]⟩,H,⟨60,by kernel_rfl⟩,rfl,rfl⟩
 ·exact⟨.tuple ⟨[.int .i32 5,.bool true]⟩,H,⟨60,by kernel_rfl⟩,rfl,rfl⟩
 ·exact⟨.tuple ⟨[.int .i32 6,.bool true]⟩,H,⟨60,by kernel_rfl⟩,rfl,rfl⟩
 ·exact⟨.tuple ⟨[.int .i32 7,.bool true]⟩,H,⟨60,by kernel_rfl⟩,rfl,rfl⟩
 ·exact⟨.tuple ⟨[.int .i32 8,.bool true]⟩,H,⟨60,by kernel_rfl⟩,rfl,rfl⟩
 ·exact⟨.tuple ⟨[.int .i32 9,.bool true]⟩,H,⟨60,by kernel_rfl⟩,rfl,rfl⟩
 ·exact⟨.tuple ⟨[.int .i32 10,.bool true]⟩,H,⟨60,by kernel_rfl⟩,rfl,rfl⟩
 ·exact⟨.tuple ⟨[.int .i32 11,.bool true]⟩,H,⟨60,by kernel_rfl⟩,rfl,rfl⟩
 ·exact⟨.tuple ⟨[.int .i32 12,.bool true]⟩,H,⟨60,by kernel_rfl⟩,rfl,rfl⟩
 ·exact⟨.tuple ⟨[.int .i32 13,.bool true]⟩,H,⟨60,by kernel_rfl⟩,rfl,rfl⟩
 ·exact⟨.tuple ⟨[.int .i32 14,.bool true]⟩,H,⟨60,by kernel_rfl⟩,rfl,rfl⟩
 ·exact⟨.tuple ⟨[.int .i32 15,.bool true]⟩,H,⟨60,by kernel_rfl⟩,rfl,rfl⟩
theorem digitNo:aj Pg X 408 [.int .u8 ((125:Nat):Int)] H (Q0 (fun v=>v=.tuple ⟨[.int .i32 0,.bool false]⟩) H):=
 ⟨.tuple ⟨[.int .i32 0,.bool false]⟩,H,⟨60,by kernel_rfl⟩,rfl,rfl⟩
theorem mul16{a d:Nat}(h:a*16 +d<2147483648):aT .i32 (aT .i32 ((a:Int)*16) +(d:Int))=((a*16 +d:Nat):Int):=by
 rw[show(a:Int)*16=((a*16:Nat):Int) by push_cast;rfl,eG (wrap_i32 (by omega)),show((a*16:Nat):Int) +(d:Int)=((a*16 +d:Nat):Int) by push_cast;rfl]
 exact eG (wrap_i32 h)
theorem hex_at{r:Nat}(hr:r<128){s t:List Nat}(hs:s=[117,123]++hex r++125::t):
 ∃m,(hex r).length=m∧1≤m∧m≤2∧r/16^m=0∧s.getD (2 +m) 0=125∧∀j,j<m→∃d,d<16∧s.getD (2 +j) 0=wS d∧r/16^(m -j)*16 +d=r/16^(m -(j +1)):=by
 subst hs
 unfold hex
 by_cases h:r<16
 ·rw[if_pos h]
  refine⟨1,rfl,by omega,by omega,by omega,rfl,fun j hj=>?_⟩
  obtain rfl:j=0:=by omega
  exact⟨r,h,rfl,by show r/16^1*16 +r=r/16^0;simp;omega⟩
 ·rw[if_neg h]
  refine⟨2,rfl,by omega,by omega,by show r/256=0;omega,rfl,fun j hj=>?_⟩
  have hj:j=0∨j=1:=by omega
  rcases hj with rfl|rfl
  ·exact⟨r/16,by omega,rfl,by show r/256*16 +r/16=r/16;omega⟩
  ·exact⟨r %16,by omega,rfl,by show r/16*16 +r %16=r/1;omega⟩
theorem numberE(s:ByteArray){r:Nat}(hr:r<128){t:List Nat}(hs:tx s=[117,123]++hex r++125::t):
 aj Pg X 343 [.string s] H (Q0 (fun v=>v=.tuple ⟨[.int .i32 (r:Int),vn (3 +(hex r).length),.bool true]⟩) H):=by
 have hsz:s.size=2 +(hex r).length +1 +t.length:=by rw[←aW,hs];simp;omega
 have h1:(tx s).getD 1 0=123:=by rw[hs];rfl
 obtain⟨m,hm,hm1,hm2,hz,he,hd⟩:=hex_at hr hs
 rw[hm]at hsz⊢
 refine ce [0,2,3,4,5,6,7,8,10] ?_;refine tl ?_
 (try simp only[PP,Nat.reduceBEq])
 refine ai (fun hc=>absurd hc (by omega)) (fun hc=>?_)
 have hi1:=(kr (s:=s) (z:=1) 1 rfl (by omega)).1
 rw[h1]at hi1
 rw[hi1]
 (try simp only[PP,Nat.reduceBEq])
 refine bz (fun hc=>absurd hc (by decide)) (fun hc=>?_)
 refine tl ?_
 refine XV 5 6 7 8 (I:=fun n x5 x6 x7 x8 H'=>H'=H∧∃j:Nat,x5=.int .i32 ((r/16^(m -j):Nat):Int)∧x6=vn (2 +j)∧j +n=m) ?_ m ⟨rfl,0,by rw[Nat.sub_zero,hz];rfl,rfl,by omega⟩
 rintro n x5 x6 x7 x8 rg H' ⟨rfl,j,rfl,rfl,hj⟩
 refine tl ?_
 (try simp only[PP,Nat.reduceBEq])
 refine ai (fun hc=>?_) (fun hc=>absurd (by omega) hc)
 refine ai (fun h8=>?_) (fun hc=>absurd (by omega) hc)
 refine tl ?_
 rw[(kr (2 +j) rfl (by omega)).1]
 (try simp only[PP,Nat.reduceBEq])
 by_cases hjm:j=m
 ·subst hjm
  rw[he]
  refine aj.mono digitNo ?_
  rintro v H' ⟨rfl,rfl⟩
  (try simp only[PP,Nat.reduceBEq])
  refine aU (fun hb=>?_) (fun hb=>by cases hb)
  refine tl ?_
  (try simp only[PP,Nat.reduceBEq])
  refine ai (fun hc=>absurd hc (by omega)) (fun hc=>?_)
  refine ai (fun hc=>absurd hc (by omega)) (fun hc=>?_)
  rw[(kr (2 +j) rfl (by omega)).1,he]
  (try simp only[PP,Nat.reduceBEq])
  refine bz (fun hc=>absurd hc (by decide)) (fun hc=>?_)
  refine tl ?_
  rw[Nat.sub_self,Nat.pow_zero,Nat.div_one]
  refine aj.mono (Qs r (.inl (by omega))) ?_
  rintro v H' ⟨⟨t',rfl,_⟩,rfl⟩
  (try simp only[PP,Nat.reduceBEq])
  refine aU (fun hb=>by cases hb) (fun hb=>?_)
  rw[aH (by omega) (by omega)]
  (try simp only[PP,Nat.reduceBEq])
  refine rr ?_
  refine⟨?_,rfl⟩
  rw[AY (show((2 +j:Nat):Int) +1=((3 +j:Nat):Int) by omega)]
 ·obtain⟨d,hd16,hg,hv⟩:=hd j (by omega)
  rw[hg]
  refine aj.mono (digitE hd16) ?_
  rintro v H' ⟨rfl,rfl⟩
  (try simp only[PP,Nat.reduceBEq])
  refine aU (fun hb=>by cases hb) (fun hb=>?_)
  rw[aH (by omega) (by omega)]
  (try simp only[PP,Nat.reduceBEq])
  have hle:r/16^(m -(j +1))≤r:=Nat.div_le_self _ _
  refine⟨n -1,by omega,_,_,_,_,_,_,rfl,rfl,j +1,?_,?_,by omega⟩
  ·rw[mul16 (by omega),hv]
  ·exact AY (by omega)
theorem escapeE(s:ByteArray){r:Nat}(hq:r=10∨r=9∨r=13∨r=39∨r=92∨r<32∨r=127){e t:List Nat}(he:xm r=92::e)(hs:tx s=e++t):
 aj Pg X 238 [.string s] H (Q0 (fun v=>v=.tuple ⟨[.int .i32 (r:Int),vn e.length,.bool true]⟩) H):=by
 have key:∃c e',e=c::e'∧c<256∧(r=10∧c=110∧e'=[]∨r=9∧c=116∧e'=[]∨r=13∧c=114∧e'=[]∨r=39∧c=39∧e'=[]∨r=92∧c=92∧e'=[]∨c=117∧r<128∧e'=[123]++hex r++[125]):=by
  unfold xm at he
  split at he
  ·cases he;exact⟨_,_,rfl,by omega,.inl ⟨by omega,rfl,rfl⟩⟩
  split at he
  ·cases he;exact⟨_,_,rfl,by omega,.inr (.inl ⟨by omega,rfl,rfl⟩)⟩
  split at he
  ·cases he;exact⟨_,_,rfl,by omega,.inr (.inr (.inl ⟨by omega,rfl,rfl⟩))⟩
  split at he
  ·cases he;exact⟨_,_,rfl,by omega,.inr (.inr (.inr (.inl ⟨by omega,rfl,rfl⟩)))⟩
  split at he
  ·cases he;exact⟨_,_,rfl,by omega,.inr (.inr (.inr (.inr (.inl ⟨by omega,rfl,rfl⟩))))⟩
  split at he
  ·have he:117::([123]++hex r++[125])=e:=(List.cons.inj he).2
   exact⟨_,_,he.symm,by omega,.inr (.inr (.inr (.inr (.inr ⟨rfl,by omega,rfl⟩))))⟩
  ·omega
 obtain⟨c,e',rfl,hc256,key⟩:=key
 have h0:0<s.size:=by rw[←aW,hs];simp
 have hc0:(tx s).getD 0 0=c:=by rw[hs];rfl
 have hi:=(kr (s:=s) (z:=0) 0 rfl h0).1
 rw[hc0]at hi
 refine ce [0,2,3,4,8] ?_;refine tl ?_
 (try simp only[PP,Nat.reduceBEq])
 refine ai (fun h=>?_) (fun h=>?_)
 ·exfalso;subst h;exact absurd h0 (by decide)
 rw[hi]
 (try simp only[PP,Nat.reduceBEq])
 have fin:∀rg,Az rg 15=.bool true→c=r→e'=[]→bC Pg X (sub pM [1,1,0,1,0,1,1,1,1,1,1,1]) (wN (.string s) (.int .i32 0) (.int .i64 0) (.bool false) (.int .u8 (c:Int)) rg H) (nL 0 (pG Pg X (sub pM [1,1,1]) (fD Pg [.tmp 2,.tmp 3,.tmp 4] (Q0 (fun v=>v=.tuple ⟨[.int .i32 (r:Int),vn (c::e').length,.bool true]⟩) H)))):=by
  intro rg hb hcr he'
  subst hcr he'
  refine tl ?_
  rw[hb]
  (try simp only[PP,Nat.reduceBEq])
  rw[hi]
  (try simp only[PP,Nat.reduceBEq])
  refine rr ?_
  refine⟨?_,rfl⟩
  rw[eG (wrap_i32 (by omega))]
  rfl
 rcases key with⟨rfl,rfl,rfl⟩|⟨rfl,rfl,rfl⟩|⟨rfl,rfl,rfl⟩|⟨rfl,rfl,rfl⟩|⟨rfl,rfl,rfl⟩|⟨rfl,hr,rfl⟩
 ·refine ai (fun h=>?_) (fun h=>absurd rfl h)
  refine rr ?_;exact⟨rfl,rfl⟩
 ·refine ai (fun h=>absurd h (by decide)) (fun h=>?_)
  refine ai (fun h=>?_) (fun h=>absurd rfl h)
  refine rr ?_;exact⟨rfl,rfl⟩
 ·refine ai (fun h=>absurd h (by decide)) (fun h=>?_)
  refine ai (fun h=>absurd h (by decide)) (fun h=>?_)
  refine ai (fun h=>?_) (fun h=>absurd rfl h)
  refine rr ?_;exact⟨rfl,rfl⟩
 ·refine ai (fun h=>absurd h (by decide)) (fun h=>?_)
  refine ai (fun h=>absurd h (by decide)) (fun h=>?_)
  refine ai (fun h=>absurd h (by decide)) (fun h=>?_)
  refine ai (fun h=>absurd h (by decide)) (fun h=>?_)
  refine ai (fun h=>?_) (fun h=>absurd rfl h)
  exact fin _ (by(try simp only[PP,Nat.reduceBEq]);rfl) rfl rfl
 ·refine ai (fun h=>absurd h (by decide)) (fun h=>?_)
  refine ai (fun h=>absurd h (by decide)) (fun h=>?_)
  refine ai (fun h=>absurd h (by decide)) (fun h=>?_)
  refine ai (fun h=>?_) (fun h=>absurd rfl h)
  exact fin _ (by(try simp only[PP,Nat.reduceBEq]);rfl) rfl rfl
 ·refine ai (fun h=>absurd h (by decide)) (fun h=>?_)
  refine ai (fun h=>absurd h (by decide)) (fun h=>?_)
  refine ai (fun h=>absurd h (by decide)) (fun h=>?_)
  refine ai (fun h=>absurd h (by decide)) (fun h=>?_)
  refine ai (fun h=>absurd h (by decide)) (fun h=>?_)
  refine ai (fun h=>absurd h (by decide)) (fun h=>?_)
  refine ai (fun h=>absurd h (by decide)) (fun h=>?_)
  refine tl ?_
  (try simp only[PP,Nat.reduceBEq])
  refine aU (fun hb=>absurd (of_decide_eq_true hb) (by decide)) (fun hb=>?_)
  refine ai (fun h=>?_) (fun h=>absurd rfl h)
  refine aj.mono (numberE s hr (t:=t) (by rw[hs];simp)) ?_
  rintro v H' ⟨rfl,rfl⟩
  (try simp only[PP,Nat.reduceBEq])
  refine rr ?_
  refine⟨?_,rfl⟩
  have:(117::([123]++hex r++[125])).length=3 +(hex r).length:=by simp;omega
  rw[this]
end
section
variable{H0 H:ag}{L:List bF}
def isLit(s:ByteArray)(rs:List Nat)(v:Value)(_:ag):Prop:=∃t,tx t=rs.flatMap enc∧v=.tuple ⟨[.agg ⟨[vi 3,vn 0,vn s.size,.string t,.slice none 0 0]⟩,.agg ⟨[vi 0,vi 0]⟩]⟩
def LitI(s:ByteArray)(rs:List Nat)(rt rsx rb:Nat)(H0:ag)(n:Nat)(x7:Value)(H':ag):Prop:=∃p rs1 rs2 A,x7=vn p∧p +n=s.size∧rs=rs1++rs2∧p=1 +(rs1.flatMap xm).length∧N5 rb (rs1.flatMap enc) A∧SH [] H0 H' ((rsx,92,[.int .i64 0,.int .i64 0])::(rt,98,[.int .i64 0,.int .i64 0,.int .i64 0,.string (ByteArray.mk #[]),.slice none 0 0])::A)
theorem sgn_two{q:Nat}:(∃e,xm q=92::e∧(q=10∨q=9∨q=13∨q=39∨q=92∨q<32∨q=127))∨(xm q=enc q∧q≠10∧q≠39∧q≠92):=by
 unfold xm
 split
 ·exact .inl ⟨_,rfl,by omega⟩
 split
 ·exact .inl ⟨_,rfl,by omega⟩
 split
 ·exact .inl ⟨_,rfl,by omega⟩
 split
 ·exact .inl ⟨_,rfl,by omega⟩
 split
 ·exact .inl ⟨_,rfl,by omega⟩
 split
 ·exact .inl ⟨_,rfl,by omega⟩
 ·exact .inr ⟨rfl,by omega,by omega,by omega⟩
theorem flat_ne{rs:List Nat}(h:rs≠[]):rs.flatMap enc≠[]:=by
 cases rs with
 |nil=>exact absurd rfl h
 |cons a l=>rw[List.flatMap_cons];exact fun e=>T9 a (List.append_eq_nil_iff.1 e).1
theorem literalE(hw:Wf H)(hT:Tb H)(s:ByteArray){rs:List Nat}(hne:rs≠[])(hok:∀r∈rs,tY r)(hs:tx s=quot rs)(hsz:s.size≤20000)(hl:(rs.flatMap enc).length≤1000000):
 aj Pg X 146 [.string s,vn 0] H (Q1 (isLit s rs) H):=by
 have hS:=SH.refl hw
 have h1s:1≤s.size:=by rw[←aW,hs];unfold quot;simp
 refine ce [0,1,4,5,6,7,8,9,10,11] ?_;refine tl ?_
 refine hS.fE fun Hn rt hS=>?_
 refine hS.fE fun Hn rsx hS=>?_
 refine hS.fE fun Hn rb hS=>?_
 rw[aH (by omega) (by omega)]
 repeat(first|(simp only[PP,Nat.reduceBEq,cr hS.wf])|(refine PU.b1 rfl ?_)|(refine PU.b2 rfl ?_)|(refine PU.b3 rfl ?_)|(refine PU.b4 rfl ?_)|(refine PU.b5 rfl ?_)|(refine PU.b6 rfl ?_)|(refine PU.b7 rfl ?_)|(refine PU.b8 rfl ?_)|(refine PU.b9 rfl ?_)|(refine hS.FO ?_)|(refine hS.iW ?_)|(refine hS.TJ ?_)|(refine hS.VJ ?_)|(refine hS.qR fun Hn hS=>?_)|(refine hS.VL fun Hn hS=>?_)|(refine MQ (by simp only[az,av (Ext.refl (hN _))];rfl) ?_))
 refine XW 7 8 9 10 11 (I:=(fun n x7 x8 x9 eZ jK H'=>LitI s rs rt rsx rb H n x7 H')) ?_ (s.size -1) ⟨1,[],rs,_,rfl,by omega,rfl,rfl,N5.new rb,hS.perm ((List.Perm.swap _ _ _).trans (List.Perm.cons _ (List.Perm.swap _ _ _)))⟩
 rintro n x7 x8 x9 eZ jK rg H' ⟨p,rs1,rs2,A,rfl,hpn,hrs,hp,hbu,hS⟩
 have hdrop:(tx s).drop p=rs2.flatMap xm++[39]:=by
  rw[hs,hp,hrs]
  unfold quot
  rw[List.flatMap_append,show 39::(rs1.flatMap xm++rs2.flatMap xm)++[39]=(39::rs1.flatMap xm)++(rs2.flatMap xm++[39]) by simp]
  exact List.drop_left' (by simp;omega)
 have hlen:s.size=p +(rs2.flatMap xm).length +1:=by
  have h:=congrArg List.length hdrop
  rw[List.length_drop,aW,List.length_append,List.length_singleton]at h
  omega
 have hl1:(rs1.flatMap enc).length≤1000000:=by
  rw[hrs,List.flatMap_append,List.length_append]at hl;omega
 refine tl ?_
 (try simp only[PP,Nat.reduceBEq])
 refine ai (fun hc=>?_) (fun hc=>absurd (by omega) hc)
 refine aj.mono (ZM hS.wf (hT.ex hS.ext) s p (by omega)) ?_
 rintro v H' ⟨hv,hx⟩
 have hS:=hS.call hx
 have hcase:∃r m:Nat,um ((tx s).drop p) p=.agg ⟨[vn p,vn m,.int .i32 (r:Int),.bool true]⟩∧r≠10∧(r=39∧rs2=[]∨(∃q e rs3,r=92∧rs2=q::rs3∧xm q=92::e∧(q=10∨q=9∨q=13∨q=39∨q=92∨q<32∨q=127))∨(r≠39∧r≠92∧m=(xm r).length∧∃rs3,rs2=r::rs3)):=by
  cases rs2 with
  |nil=>
   refine⟨39,1,zh ?_,by omega,.inl ⟨rfl,rfl⟩⟩
   rw[hdrop]
   exact l9 (r:=39) (.inl (by omega)) []
  |cons q rs3=>
   have hq:tY q:=hok q (by rw[hrs];simp)
   rcases sgn_two (q:=q)with⟨e,he,hsp⟩|⟨he,h10,ZN,h92⟩
   ·refine⟨92,1,zh ?_,by omega,.inr (.inl ⟨q,e,rs3,rfl,rfl,he,hsp⟩)⟩
    rw[hdrop,List.flatMap_cons,he]
    exact l9 (r:=92) (.inl (by omega)) _
   ·refine⟨q,(enc q).length,zh ?_,h10,.inr (.inr ⟨ZN,h92,by rw[he],rs3,rfl⟩)⟩
    rw[hdrop,List.flatMap_cons,he,List.append_assoc]
    exact l9 hq _
 obtain⟨r,m,hitem,h10,hcase⟩:=hcase
 rw[hitem]at hv
 subst hv
 refine hS.fE fun Hn ri hS=>?_
 repeat(first|(simp only[PP,Nat.reduceBEq,cr hS.wf])|(refine PU.b1 rfl ?_)|(refine PU.b2 rfl ?_)|(refine PU.b3 rfl ?_)|(refine PU.b4 rfl ?_)|(refine PU.b5 rfl ?_)|(refine PU.b6 rfl ?_)|(refine PU.b7 rfl ?_)|(refine PU.b8 rfl ?_)|(refine PU.b9 rfl ?_)|(refine hS.FO ?_)|(refine hS.iW ?_)|(refine hS.TJ ?_)|(refine hS.VJ ?_)|(refine hS.qR fun Hn hS=>?_)|(refine hS.VL fun Hn hS=>?_)|(refine MQ (by simp only[az,av (Ext.refl (hN _))];rfl) ?_))
 have back:∀{H2:ag}{rs1' rs3 A'}{q:Nat},rs=rs1'++rs3→q=1 +(rs1'.flatMap xm).length→p<q→q≤s.size→N5 rb (rs1'.flatMap enc) A'→SH [] H H2 (A'++(ri,113,[vn p,vn m,.int .i32 (r:Int),.bool true])::(rsx,92,[.int .i64 0,.int .i64 0])::[(rt,98,[.int .i64 0,.int .i64 0,.int .i64 0,.string (ByteArray.mk #[]),.slice none 0 0])])→∃n',n'<n∧LitI s rs rt rsx rb H n' (vn q) H2:=fun{H2 rs1' rs3 A' q} h1 h2 h3 h4 hb' hS=>
  ⟨s.size -q,by omega,q,rs1',rs3,A',rfl,by omega,h1,h2,hb',SH.drop (A:=[_]) (hS.perm List.perm_append_comm)⟩
 have uh:∀rg,Az rg 40=.bool false→bC Pg X (sub jT [1,1,0,1,0,0,1,0,1,0,1,1,1]) (lK (.string s) (vn 0) (.pointer (some ⟨rt,0,none⟩)) (.pointer (some ⟨rsx,0,none⟩)) (.pointer (some ⟨rb,0,none⟩)) (vn p) (.pointer (some ⟨ri,0,none⟩)) x9 eZ jK rg Hn)
  (nL 2 (nL 1 (EI (ko (.string s) (vn 0) (.pointer (some ⟨rt,0,none⟩)) (.pointer (some ⟨rsx,0,none⟩)) (.pointer (some ⟨rb,0,none⟩)) (fun n x7 x8 x9 eZ jK H'=>LitI s rs rt rsx rb H n x7 H')) n (nL 0 (pG Pg X (sub jT [1,1,1]) (fD Pg [.cell 4 98,.cell 5 92] (Q1 (isLit s rs) H))))))):=by
  intro rg hb
  have hb0:N5 rb (rs1.flatMap enc) A:=hbu
  have hS2:SH [] H Hn (A++(ri,113,[vn p,vn m,.int .i32 (r:Int),.bool true])::(rsx,92,[.int .i64 0,.int .i64 0])::[(rt,98,[.int .i64 0,.int .i64 0,.int .i64 0,.string (ByteArray.mk #[]),.slice none 0 0])]):=hS.perm (List.perm_append_comm (l₁:=[_,_,_]))
  refine tl ?_
  rw[hb]
  repeat(first|(simp only[PP,Nat.reduceBEq,cr hS.wf])|(refine PU.b1 rfl ?_)|(refine PU.b2 rfl ?_)|(refine PU.b3 rfl ?_)|(refine PU.b4 rfl ?_)|(refine PU.b5 rfl ?_)|(refine PU.b6 rfl ?_)|(refine PU.b7 rfl ?_)|(refine PU.b8 rfl ?_)|(refine PU.b9 rfl ?_)|(refine hS.FO ?_)|(refine hS.iW ?_)|(refine hS.TJ ?_)|(refine hS.VJ ?_)|(refine hS.qR fun Hn hS=>?_)|(refine hS.VL fun Hn hS=>?_)|(refine MQ (by simp only[az,av (Ext.refl (hN _))];rfl) ?_))
  refine ai (fun hc=>?_) (fun hc=>?_)
  ·have ZN:r=39:=by omega
   have hnil:rs2=[]:=by
    rcases hcase with⟨_,h⟩|⟨q,e,rs3,h,_⟩|⟨h,_⟩
    ·exact h
    ·omega
    ·omega
   subst hnil
   rw[List.append_nil]at hrs
   subst hrs
   rw[List.flatMap_nil,List.length_nil]at hlen
   rw[aH (by omega) (by omega)]
   repeat(first|(simp only[PP,Nat.reduceBEq,cr hS.wf])|(refine PU.b1 rfl ?_)|(refine PU.b2 rfl ?_)|(refine PU.b3 rfl ?_)|(refine PU.b4 rfl ?_)|(refine PU.b5 rfl ?_)|(refine PU.b6 rfl ?_)|(refine PU.b7 rfl ?_)|(refine PU.b8 rfl ?_)|(refine PU.b9 rfl ?_)|(refine hS.FO ?_)|(refine hS.iW ?_)|(refine hS.TJ ?_)|(refine hS.VJ ?_)|(refine hS.qR fun Hn hS=>?_)|(refine hS.VL fun Hn hS=>?_)|(refine MQ (by simp only[az,av (Ext.refl (hN _))];rfl) ?_))
   refine aj.mono (II hb0 hS2 hl1 (flat_ne hne)) ?_
   rintro v H' ⟨⟨t,rfl,ht⟩,hS⟩
   repeat(first|(simp only[PP,Nat.reduceBEq,cr hS.wf])|(refine PU.b1 rfl ?_)|(refine PU.b2 rfl ?_)|(refine PU.b3 rfl ?_)|(refine PU.b4 rfl ?_)|(refine PU.b5 rfl ?_)|(refine PU.b6 rfl ?_)|(refine PU.b7 rfl ?_)|(refine PU.b8 rfl ?_)|(refine PU.b9 rfl ?_)|(refine hS.FO ?_)|(refine hS.iW ?_)|(refine hS.TJ ?_)|(refine hS.VJ ?_)|(refine hS.qR fun Hn hS=>?_)|(refine hS.VL fun Hn hS=>?_)|(refine MQ (by simp only[az,av (Ext.refl (hN _))];rfl) ?_))
   refine rr ?_
   repeat(first|(simp only[PP,Nat.reduceBEq,cr hS.wf])|(refine PU.b1 rfl ?_)|(refine PU.b2 rfl ?_)|(refine PU.b3 rfl ?_)|(refine PU.b4 rfl ?_)|(refine PU.b5 rfl ?_)|(refine PU.b6 rfl ?_)|(refine PU.b7 rfl ?_)|(refine PU.b8 rfl ?_)|(refine PU.b9 rfl ?_)|(refine hS.FO ?_)|(refine hS.iW ?_)|(refine hS.TJ ?_)|(refine hS.VJ ?_)|(refine hS.qR fun Hn hS=>?_)|(refine hS.VL fun Hn hS=>?_)|(refine MQ (by simp only[az,av (Ext.refl (hN _))];rfl) ?_))
   refine⟨⟨t,ht,?_⟩,hS.ext⟩
   rw[AY (show(p:Int) +1=((s.size:Nat):Int) by omega)]
   rfl
  repeat(first|(simp only[PP,Nat.reduceBEq,cr hS.wf])|(refine PU.b1 rfl ?_)|(refine PU.b2 rfl ?_)|(refine PU.b3 rfl ?_)|(refine PU.b4 rfl ?_)|(refine PU.b5 rfl ?_)|(refine PU.b6 rfl ?_)|(refine PU.b7 rfl ?_)|(refine PU.b8 rfl ?_)|(refine PU.b9 rfl ?_)|(refine hS.FO ?_)|(refine hS.iW ?_)|(refine hS.TJ ?_)|(refine hS.VJ ?_)|(refine hS.qR fun Hn hS=>?_)|(refine hS.VL fun Hn hS=>?_)|(refine MQ (by simp only[az,av (Ext.refl (hN _))];rfl) ?_))
  refine ai (fun hc=>?_) (fun hc=>?_)
  ·have h92:r=92:=by omega
   obtain⟨q,e,rs3,rfl,he,hsp⟩:∃q e rs3,rs2=q::rs3∧xm q=92::e∧(q=10∨q=9∨q=13∨q=39∨q=92∨q<32∨q=127):=by
    rcases hcase with⟨h,_⟩|⟨q,e,rs3,_,h1,h2,h3⟩|⟨_,h,_⟩
    ·omega
    ·exact⟨q,e,rs3,h1,h2,h3⟩
    ·omega
   have hq:tY q:=hok q (by rw[hrs];simp)
   rw[List.flatMap_cons,he]at hdrop hlen
   have hl2:s.size=p +(1 +e.length +(rs3.flatMap xm).length) +1:=by rw[hlen];simp;omega
   rw[aH (by omega) (by omega)]
   repeat(first|(simp only[PP,Nat.reduceBEq,cr hS.wf])|(refine PU.b1 rfl ?_)|(refine PU.b2 rfl ?_)|(refine PU.b3 rfl ?_)|(refine PU.b4 rfl ?_)|(refine PU.b5 rfl ?_)|(refine PU.b6 rfl ?_)|(refine PU.b7 rfl ?_)|(refine PU.b8 rfl ?_)|(refine PU.b9 rfl ?_)|(refine hS.FO ?_)|(refine hS.iW ?_)|(refine hS.TJ ?_)|(refine hS.VJ ?_)|(refine hS.qR fun Hn hS=>?_)|(refine hS.VL fun Hn hS=>?_)|(refine MQ (by simp only[az,av (Ext.refl (hN _))];rfl) ?_))
   rw[show Hq (.string s) (some (vi ((p:Int) +1))) none none=_ from fu (lo:=p +1) (by omega)]
   repeat(first|(simp only[PP,Nat.reduceBEq,cr hS.wf])|(refine PU.b1 rfl ?_)|(refine PU.b2 rfl ?_)|(refine PU.b3 rfl ?_)|(refine PU.b4 rfl ?_)|(refine PU.b5 rfl ?_)|(refine PU.b6 rfl ?_)|(refine PU.b7 rfl ?_)|(refine PU.b8 rfl ?_)|(refine PU.b9 rfl ?_)|(refine hS.FO ?_)|(refine hS.iW ?_)|(refine hS.TJ ?_)|(refine hS.VJ ?_)|(refine hS.qR fun Hn hS=>?_)|(refine hS.VL fun Hn hS=>?_)|(refine MQ (by simp only[az,av (Ext.refl (hN _))];rfl) ?_))
   refine aj.mono (escapeE _ hsp he (t:=rs3.flatMap xm++[39]) ?_) ?_
   ·rw[uk,←List.drop_drop,hdrop];simp
   rintro v H' ⟨rfl,rfl⟩
   repeat(first|(simp only[PP,Nat.reduceBEq,cr hS.wf])|(refine PU.b1 rfl ?_)|(refine PU.b2 rfl ?_)|(refine PU.b3 rfl ?_)|(refine PU.b4 rfl ?_)|(refine PU.b5 rfl ?_)|(refine PU.b6 rfl ?_)|(refine PU.b7 rfl ?_)|(refine PU.b8 rfl ?_)|(refine PU.b9 rfl ?_)|(refine hS.FO ?_)|(refine hS.iW ?_)|(refine hS.TJ ?_)|(refine hS.VJ ?_)|(refine hS.qR fun Hn hS=>?_)|(refine hS.VL fun Hn hS=>?_)|(refine MQ (by simp only[az,av (Ext.refl (hN _))];rfl) ?_))
   refine aU (fun hb=>by cases hb) (fun hb=>?_)
   refine aj.mono (writeRuneE hb0 hS2 hl1 q hq) ?_
   rintro v H' ⟨⟨y,z,rfl⟩,A',hb',hS⟩
   rw[aH (by omega) (by omega)]
   repeat(first|(simp only[PP,Nat.reduceBEq,cr hS.wf])|(refine PU.b1 rfl ?_)|(refine PU.b2 rfl ?_)|(refine PU.b3 rfl ?_)|(refine PU.b4 rfl ?_)|(refine PU.b5 rfl ?_)|(refine PU.b6 rfl ?_)|(refine PU.b7 rfl ?_)|(refine PU.b8 rfl ?_)|(refine PU.b9 rfl ?_)|(refine hS.FO ?_)|(refine hS.iW ?_)|(refine hS.TJ ?_)|(refine hS.VJ ?_)|(refine hS.qR fun Hn hS=>?_)|(refine hS.VL fun Hn hS=>?_)|(refine MQ (by simp only[az,av (Ext.refl (hN _))];rfl) ?_))
   rw[aH (by omega) (by omega)]
   repeat(first|(simp only[PP,Nat.reduceBEq,cr hS.wf])|(refine PU.b1 rfl ?_)|(refine PU.b2 rfl ?_)|(refine PU.b3 rfl ?_)|(refine PU.b4 rfl ?_)|(refine PU.b5 rfl ?_)|(refine PU.b6 rfl ?_)|(refine PU.b7 rfl ?_)|(refine PU.b8 rfl ?_)|(refine PU.b9 rfl ?_)|(refine hS.FO ?_)|(refine hS.iW ?_)|(refine hS.TJ ?_)|(refine hS.VJ ?_)|(refine hS.qR fun Hn hS=>?_)|(refine hS.VL fun Hn hS=>?_)|(refine MQ (by simp only[az,av (Ext.refl (hN _))];rfl) ?_))
   rw[AY (show(p:Int) +(1 +(e.length:Int))=((p +1 +e.length:Nat):Int) by omega)]
   obtain⟨n',h5,h6⟩:=back (rs1':=rs1++[q]) (rs3:=rs3) (q:=p +1 +e.length) (by rw[hrs];simp) (by rw[List.flatMap_append,List.length_append,List.flatMap_cons,List.flatMap_nil,List.append_nil,he,hp];simp;omega) (by omega) (by omega)
    (by rw[List.flatMap_append,List.flatMap_cons,List.flatMap_nil,List.append_nil];exact hb') hS
   exact⟨n',h5,_,_,_,_,_,_,_,rfl,h6⟩
  ·obtain⟨ZN,h92,hm,rs3,rfl⟩:r≠39∧r≠92∧m=(xm r).length∧∃rs3,rs2=r::rs3:=by
    rcases hcase with⟨h,_⟩|⟨q,e,rs3,h,_⟩|h
    ·omega
    ·omega
    ·exact h
   have hq:tY r:=hok r (by rw[hrs];simp)
   rw[List.flatMap_cons,List.length_append,←hm]at hlen
   have hm0:0<m:=by
    rcases sgn_two (q:=r)with⟨e,he,_⟩|⟨he,_⟩
    ·rw[hm,he];simp
    ·rw[hm,he];have:=(oh r).1;omega
   repeat(first|(simp only[PP,Nat.reduceBEq,cr hS.wf])|(refine PU.b1 rfl ?_)|(refine PU.b2 rfl ?_)|(refine PU.b3 rfl ?_)|(refine PU.b4 rfl ?_)|(refine PU.b5 rfl ?_)|(refine PU.b6 rfl ?_)|(refine PU.b7 rfl ?_)|(refine PU.b8 rfl ?_)|(refine PU.b9 rfl ?_)|(refine hS.FO ?_)|(refine hS.iW ?_)|(refine hS.TJ ?_)|(refine hS.VJ ?_)|(refine hS.qR fun Hn hS=>?_)|(refine hS.VL fun Hn hS=>?_)|(refine MQ (by simp only[az,av (Ext.refl (hN _))];rfl) ?_))
   refine aj.mono (writeRuneE hb0 hS2 hl1 r hq) ?_
   rintro v H' ⟨⟨y,z,rfl⟩,A',hb',hS⟩
   have VG:=hS
   have hS:=hS.perm (List.perm_append_comm (l₂:=[_,_,_]))
   simp only[List.cons_append,List.nil_append]at hS
   repeat(first|(simp only[PP,Nat.reduceBEq,cr hS.wf])|(refine PU.b1 rfl ?_)|(refine PU.b2 rfl ?_)|(refine PU.b3 rfl ?_)|(refine PU.b4 rfl ?_)|(refine PU.b5 rfl ?_)|(refine PU.b6 rfl ?_)|(refine PU.b7 rfl ?_)|(refine PU.b8 rfl ?_)|(refine PU.b9 rfl ?_)|(refine hS.FO ?_)|(refine hS.iW ?_)|(refine hS.TJ ?_)|(refine hS.VJ ?_)|(refine hS.qR fun Hn hS=>?_)|(refine hS.VL fun Hn hS=>?_)|(refine MQ (by simp only[az,av (Ext.refl (hN _))];rfl) ?_))
   rw[aH (by omega) (by omega)]
   repeat(first|(simp only[PP,Nat.reduceBEq,cr hS.wf])|(refine PU.b1 rfl ?_)|(refine PU.b2 rfl ?_)|(refine PU.b3 rfl ?_)|(refine PU.b4 rfl ?_)|(refine PU.b5 rfl ?_)|(refine PU.b6 rfl ?_)|(refine PU.b7 rfl ?_)|(refine PU.b8 rfl ?_)|(refine PU.b9 rfl ?_)|(refine hS.FO ?_)|(refine hS.iW ?_)|(refine hS.TJ ?_)|(refine hS.VJ ?_)|(refine hS.qR fun Hn hS=>?_)|(refine hS.VL fun Hn hS=>?_)|(refine MQ (by simp only[az,av (Ext.refl (hN _))];rfl) ?_))
   rw[AY (show(p:Int) +(m:Int)=((p +m:Nat):Int) by omega)]
   obtain⟨n',h5,h6⟩:=back (rs1':=rs1++[r]) (rs3:=rs3) (q:=p +m) (by rw[hrs];simp) (by rw[List.flatMap_append,List.length_append,List.flatMap_cons,List.flatMap_nil,List.append_nil,hp,←hm];omega) (by omega) (by omega)
    (by rw[List.flatMap_append,List.flatMap_cons,List.flatMap_nil,List.append_nil];exact hb') VG
   exact⟨n',h5,_,_,_,_,_,_,_,rfl,h6⟩
 have ze:∀rg,Az rg 28=.bool false→bC Pg X (sub jT [1,1,0,1,0,0,1,0,1,0,1]) (lK (.string s) (vn 0) (.pointer (some ⟨rt,0,none⟩)) (.pointer (some ⟨rsx,0,none⟩)) (.pointer (some ⟨rb,0,none⟩)) (vn p) (.pointer (some ⟨ri,0,none⟩)) x9 eZ jK rg Hn)
  (nL 2 (nL 1 (EI (ko (.string s) (vn 0) (.pointer (some ⟨rt,0,none⟩)) (.pointer (some ⟨rsx,0,none⟩)) (.pointer (some ⟨rb,0,none⟩)) (fun n x7 x8 x9 eZ jK H'=>LitI s rs rt rsx rb H n x7 H')) n (nL 0 (pG Pg X (sub jT [1,1,1]) (fD Pg [.cell 4 98,.cell 5 92] (Q1 (isLit s rs) H))))))):=by
  intro rg hb
  refine tl ?_
  rw[hb]
  repeat(first|(simp only[PP,Nat.reduceBEq,cr hS.wf])|(refine PU.b1 rfl ?_)|(refine PU.b2 rfl ?_)|(refine PU.b3 rfl ?_)|(refine PU.b4 rfl ?_)|(refine PU.b5 rfl ?_)|(refine PU.b6 rfl ?_)|(refine PU.b7 rfl ?_)|(refine PU.b8 rfl ?_)|(refine PU.b9 rfl ?_)|(refine hS.FO ?_)|(refine hS.iW ?_)|(refine hS.TJ ?_)|(refine hS.VJ ?_)|(refine hS.qR fun Hn hS=>?_)|(refine hS.VL fun Hn hS=>?_)|(refine MQ (by simp only[az,av (Ext.refl (hN _))];rfl) ?_))
  refine ai (fun hc=>?_) (fun hc=>?_)
  ·rw[aH (by omega) (by omega)]
   repeat(first|(simp only[PP,Nat.reduceBEq,cr hS.wf])|(refine PU.b1 rfl ?_)|(refine PU.b2 rfl ?_)|(refine PU.b3 rfl ?_)|(refine PU.b4 rfl ?_)|(refine PU.b5 rfl ?_)|(refine PU.b6 rfl ?_)|(refine PU.b7 rfl ?_)|(refine PU.b8 rfl ?_)|(refine PU.b9 rfl ?_)|(refine hS.FO ?_)|(refine hS.iW ?_)|(refine hS.TJ ?_)|(refine hS.VJ ?_)|(refine hS.qR fun Hn hS=>?_)|(refine hS.VL fun Hn hS=>?_)|(refine MQ (by simp only[az,av (Ext.refl (hN _))];rfl) ?_))
   have hp1:p≠1:=by
    intro e
    have ZN:r=39:=by omega
    rcases hcase with⟨_,h⟩|⟨q,e,rs3,h,_⟩|⟨h,_⟩
    ·subst h
     cases rs1 with
     |nil=>exact hne hrs
     |cons a l=>
      rw[List.flatMap_cons,List.length_append]at hp
      have:0<(xm a).length:=by
       rcases sgn_two (q:=a)with⟨e,he,_⟩|⟨he,_⟩
       ·rw[he];simp
       ·rw[he];have:=(oh a).1;omega
      omega
    ·omega
    ·omega
   exact uh _ (by simp only[lJ,nX];rw[decide_eq_false (by omega)])
  ·exact uh _ (by simp only[lJ,nX];first|done|rw[decide_eq_false (by omega)])
 refine aU (fun hb=>by cases hb) (fun hb=>?_)
 repeat(first|(simp only[PP,Nat.reduceBEq,cr hS.wf])|(refine PU.b1 rfl ?_)|(refine PU.b2 rfl ?_)|(refine PU.b3 rfl ?_)|(refine PU.b4 rfl ?_)|(refine PU.b5 rfl ?_)|(refine PU.b6 rfl ?_)|(refine PU.b7 rfl ?_)|(refine PU.b8 rfl ?_)|(refine PU.b9 rfl ?_)|(refine hS.FO ?_)|(refine hS.iW ?_)|(refine hS.TJ ?_)|(refine hS.VJ ?_)|(refine hS.qR fun Hn hS=>?_)|(refine hS.VL fun Hn hS=>?_)|(refine MQ (by simp only[az,av (Ext.refl (hN _))];rfl) ?_))
 exact ze _ (by simp only[lJ,nX];first|done|rw[decide_eq_false (by omega)])
end
section
variable{H0 H:ag}{L:List bF}
theorem beg_no{s:ByteArray}(h:0<s.size→(tx s).getD 0 0=39):¬∃r,s.data.toList=(ByteArray.mk #[47,47]).data.toList++r:=by
 rintro⟨r,hr⟩
 have e:tx s=47::47::r.map UInt8.toNat:=by unfold tx;rw[hr];rfl
 have h0:0<s.size:=by rw[←aW,e];simp
 have:=h h0
 rw[e]at this
 cases this
theorem blank0E(s:ByteArray)(h0:0<s.size)(ZN:(tx s).getD 0 0=39):aj Pg X 79 [.string s,vn 0] H (Q0 (fun v=>v=vn 0) H):=by
 have hi:=(kr (s:=s) (z:=((0:Nat):Int)) 0 rfl h0).1
 rw[ZN]at hi
 refine ce [0,1,4,5] ?_;refine tl ?_
 refine bC.scope (fun _ _ _=>False) (fun _ _ _ _ h=>h.elim) 0 ?_
 refine tl ?_
 (try simp only[PP,Nat.reduceBEq])
 refine ai (fun hc=>?_) (fun hc=>absurd (by omega) hc)
 rw[hi]
 (try simp only[PP,Nat.reduceBEq])
 refine aU (fun hb=>absurd (of_decide_eq_true hb) (by decide)) (fun hb=>?_)
 refine aU (fun hb=>absurd (of_decide_eq_true hb) (by decide)) (fun hb=>?_)
 refine aU (fun hb=>absurd (of_decide_eq_true hb) (by decide)) (fun hb=>?_)
 refine aU (fun hb=>absurd (of_decide_eq_true hb) (by decide)) (fun hb=>?_)
 refine tl ?_
 rw[fu (by omega)]
 (try simp only[PP,Nat.reduceBEq])
 refine aj.mono (pN _ _) ?_
 rintro v H' ⟨⟨b,rfl,YY⟩,rfl⟩
 (try simp only[PP,Nat.reduceBEq])
 refine aU (fun hb=>?_) (fun hb=>?_)
 ·refine absurd (YY hb) (beg_no fun _=>?_)
  rw[uk];exact ZN
 ·simp only[H_]
  refine rr ?_;exact⟨rfl,rfl⟩
theorem letterNo:aj Pg X 144 [.int .u8 ((39:Nat):Int)] H (Q0 (fun v=>v=.bool false) H):=
 ⟨.bool false,H,⟨60,by kernel_rfl⟩,rfl,rfl⟩
theorem oneE(hw:Wf H)(hT:Tb H)(s:ByteArray){rs:List Nat}(hne:rs≠[])(hok:∀r∈rs,tY r)(hs:tx s=quot rs)(hsz:s.size≤20000)(hl:(rs.flatMap enc).length≤1000000):
 aj Pg X 80 [.string s,vn 0] H (Q1 (isLit s rs) H):=by
 have hS:=SH.refl hw
 have h0:0<s.size:=by rw[←aW,hs];unfold quot;simp
 have ZN:(tx s).getD 0 0=39:=by rw[hs];rfl
 have hi:=(kr (s:=s) (z:=((0:Nat):Int)) 0 rfl h0).1
 rw[ZN]at hi
 refine ce [0,1,4,5,6,7,8] ?_;refine tl ?_
 refine hS.fE fun Hn rt hS=>?_
 refine hS.fE fun Hn rsx hS=>?_
 rw[hi]
 (try simp only[PP,Nat.reduceBEq])
 refine aj.mono letterNo ?_
 rintro v H' ⟨rfl,rfl⟩
 (try simp only[PP,Nat.reduceBEq])
 refine ai (fun hc=>?_) (fun hc=>absurd rfl hc)
 refine aj.mono (literalE hS.wf (hT.ex hS.ext) s hne hok hs hsz hl) ?_
 rintro v H3 ⟨⟨t,ht,rfl⟩,hx⟩
 have hS0:=hS.call hx
 have hS:=hS0.base
 repeat(first|(simp only[PP,Nat.reduceBEq,cr hS.wf])|(refine PU.b1 rfl ?_)|(refine PU.b2 rfl ?_)|(refine PU.b3 rfl ?_)|(refine PU.b4 rfl ?_)|(refine PU.b5 rfl ?_)|(refine PU.b6 rfl ?_)|(refine PU.b7 rfl ?_)|(refine PU.b8 rfl ?_)|(refine PU.b9 rfl ?_)|(refine hS.FO ?_)|(refine hS.iW ?_)|(refine hS.TJ ?_)|(refine hS.VJ ?_)|(refine hS.qR fun Hn hS=>?_)|(refine hS.VL fun Hn hS=>?_)|(refine MQ (by simp only[az,av (Ext.refl (hN _))];rfl) ?_))
 refine rr ?_
 repeat(first|(simp only[PP,Nat.reduceBEq,cr hS.wf])|(refine PU.b1 rfl ?_)|(refine PU.b2 rfl ?_)|(refine PU.b3 rfl ?_)|(refine PU.b4 rfl ?_)|(refine PU.b5 rfl ?_)|(refine PU.b6 rfl ?_)|(refine PU.b7 rfl ?_)|(refine PU.b8 rfl ?_)|(refine PU.b9 rfl ?_)|(refine hS.FO ?_)|(refine hS.iW ?_)|(refine hS.TJ ?_)|(refine hS.VJ ?_)|(refine hS.qR fun Hn hS=>?_)|(refine hS.VL fun Hn hS=>?_)|(refine MQ (by simp only[az,av (Ext.refl (hN _))];rfl) ?_))
 exact⟨⟨t,ht,rfl⟩,(hS0.over hS).ext⟩
def isAll(s:ByteArray)(rs:List Nat)(v:Value)(H':ag):Prop:=∃t a n c cs,tx t=rs.flatMap enc∧v=.tuple ⟨[.slice a n c,.agg ⟨[vi 0,vi 0]⟩]⟩∧Fl H' a n 5 cs∧1≤n∧El cs 5 0=[vi 3,vn 0,vn s.size,.string t,.slice none 0 0]
theorem allE(hw:Wf H)(hT:Tb H)(s:ByteArray){rs:List Nat}(hne:rs≠[])(hok:∀r∈rs,tY r)(hs:tx s=quot rs)(hsz:s.size≤20000)(hl:(rs.flatMap enc).length≤1000000):
 aj Pg X 43 [.string s] H (Q1 (isAll s rs) H):=by
 have hS:=SH.refl hw
 have h0:0<s.size:=by rw[←aW,hs];unfold quot;simp
 have ZN:(tx s).getD 0 0=39:=by rw[hs];rfl
 refine ce [0,2,3,4,5,6,7] ?_;refine tl ?_
 refine hS.fE fun Hn r0 hS=>?_
 (try simp only[PP,Nat.reduceBEq])
 refine ai (fun hc=>absurd hc (by omega)) (fun hc=>?_)
 refine aj.mono (blank0E s h0 ZN) ?_
 rintro v H' ⟨rfl,rfl⟩
 refine XW 2 4 5 6 7 (I:=fun m x2 x4 x5 x6 x7 H'=>x2=.slice none 0 0∧(m=1∧x5=vn 0∧x4=.slice none 0 0∧SH [] H H' ((r0,92,[vi 0,vi 0])::[])∨m=0∧x5=vn s.size∧∃t gb,tx t=rs.flatMap enc∧GB 98 5 x4 [vi 3,vn 0,vn s.size,.string t,.slice none 0 0] gb∧SH [] H H' ((r0,92,[vi 0,vi 0])::(gb++[])))) ?_ 1 ⟨rfl,.inl ⟨rfl,rfl,rfl,hS⟩⟩
 clear hS
 rintro m x2 x4 x5 x6 x7 rg H' ⟨rfl,⟨rfl,rfl,rfl,hS⟩|⟨rfl,rfl,t,gb,ht,hg,hS⟩⟩
 rotate_left
 ·refine tl ?_
  (try simp only[PP,Nat.reduceBEq])
  refine ai (fun hc=>absurd hc (by omega)) (fun hc=>?_)
  refine tl ?_
  (try simp only[PP,Nat.reduceBEq])
  refine PU.b5 rfl ?_
  have hS0:=hS
  have hS:=hS0.base
  refine hS.bS rfl rfl rfl (by omega) fun H1 rx hS=>?_
  have hS:SH _ H' H1 ((rx,98,[vi 0,vn s.size,vn s.size,.string (ByteArray.mk #[]),.slice none 0 0])::(gb++[(r0,92,[vi 0,vi 0])])):=hS.perm (List.Perm.cons _ (Ic _ _))
  refine hg.add hS (by omega) rfl rfl (by simp) fun v' H3 iF hg' hS' hx=>?_
  have hS:=hS'.perm (List.perm_append_comm (l₂:=[_]))
  simp only[List.cons_append,List.nil_append]at hS
  repeat(first|(simp only[PP,Nat.reduceBEq,cr hS.wf])|(refine PU.b1 rfl ?_)|(refine PU.b2 rfl ?_)|(refine PU.b3 rfl ?_)|(refine PU.b4 rfl ?_)|(refine PU.b5 rfl ?_)|(refine PU.b6 rfl ?_)|(refine PU.b7 rfl ?_)|(refine PU.b8 rfl ?_)|(refine PU.b9 rfl ?_)|(refine hS.FO ?_)|(refine hS.iW ?_)|(refine hS.TJ ?_)|(refine hS.VJ ?_)|(refine hS.qR fun Hn hS=>?_)|(refine hS.VL fun Hn hS=>?_)|(refine MQ (by simp only[az,av (Ext.refl (hN _))];rfl) ?_))
  have hS2:=(hS0.over hS).perm (List.Perm.symm (List.perm_append_comm (l₂:=[_])))
  obtain⟨a,n',c,rfl,hn',hf⟩:=hg'.fl hS2
  refine rr ?_
  repeat(first|(simp only[PP,Nat.reduceBEq,cr hS.wf])|(refine PU.b1 rfl ?_)|(refine PU.b2 rfl ?_)|(refine PU.b3 rfl ?_)|(refine PU.b4 rfl ?_)|(refine PU.b5 rfl ?_)|(refine PU.b6 rfl ?_)|(refine PU.b7 rfl ?_)|(refine PU.b8 rfl ?_)|(refine PU.b9 rfl ?_)|(refine hS.FO ?_)|(refine hS.iW ?_)|(refine hS.TJ ?_)|(refine hS.VJ ?_)|(refine hS.qR fun Hn hS=>?_)|(refine hS.VL fun Hn hS=>?_)|(refine MQ (by simp only[az,av (Ext.refl (hN _))];rfl) ?_))
  exact⟨⟨t,a,n',c,_,ht,rfl,hf,by simp at hn';omega,rfl⟩,hS2.ext⟩
 refine tl ?_
 (try simp only[PP,Nat.reduceBEq])
 refine ai (fun hc=>?_) (fun hc=>absurd (by omega) hc)
 refine aj.mono (oneE hS.wf (hT.ex hS.ext) s hne hok hs hsz hl) ?_
 rintro v H3 ⟨⟨t,ht,rfl⟩,hx⟩
 have hS0:=hS.call hx
 have hS:=hS0.base
 repeat(first|(simp only[PP,Nat.reduceBEq,cr hS.wf])|(refine PU.b1 rfl ?_)|(refine PU.b2 rfl ?_)|(refine PU.b3 rfl ?_)|(refine PU.b4 rfl ?_)|(refine PU.b5 rfl ?_)|(refine PU.b6 rfl ?_)|(refine PU.b7 rfl ?_)|(refine PU.b8 rfl ?_)|(refine PU.b9 rfl ?_)|(refine hS.FO ?_)|(refine hS.iW ?_)|(refine hS.TJ ?_)|(refine hS.VJ ?_)|(refine hS.qR fun Hn hS=>?_)|(refine hS.VL fun Hn hS=>?_)|(refine MQ (by simp only[az,av (Ext.refl (hN _))];rfl) ?_))
 refine hS.fE fun Hn r8 hS=>?_
 refine hS.fE fun Hn r10 hS=>?_
 repeat(first|(simp only[PP,Nat.reduceBEq,cr hS.wf])|(refine PU.b1 rfl ?_)|(refine PU.b2 rfl ?_)|(refine PU.b3 rfl ?_)|(refine PU.b4 rfl ?_)|(refine PU.b5 rfl ?_)|(refine PU.b6 rfl ?_)|(refine PU.b7 rfl ?_)|(refine PU.b8 rfl ?_)|(refine PU.b9 rfl ?_)|(refine hS.FO ?_)|(refine hS.iW ?_)|(refine hS.TJ ?_)|(refine hS.VJ ?_)|(refine hS.qR fun Hn hS=>?_)|(refine hS.VL fun Hn hS=>?_)|(refine MQ (by simp only[az,av (Ext.refl (hN _))];rfl) ?_))
 refine(show∀{A B:Prop},B→yu (some !decide True) A B from fun h=>h) ?_
 repeat(first|(simp only[PP,Nat.reduceBEq,cr hS.wf])|(refine PU.b1 rfl ?_)|(refine PU.b2 rfl ?_)|(refine PU.b3 rfl ?_)|(refine PU.b4 rfl ?_)|(refine PU.b5 rfl ?_)|(refine PU.b6 rfl ?_)|(refine PU.b7 rfl ?_)|(refine PU.b8 rfl ?_)|(refine PU.b9 rfl ?_)|(refine hS.FO ?_)|(refine hS.iW ?_)|(refine hS.TJ ?_)|(refine hS.VJ ?_)|(refine hS.qR fun Hn hS=>?_)|(refine hS.VL fun Hn hS=>?_)|(refine MQ (by simp only[az,av (Ext.refl (hN _))];rfl) ?_))
 refine hS.bS rfl rfl rfl (by omega) fun H4 rx hS=>?_
 have hS:=hS.to (cs':=[vi 3,vn 0,vn s.size,.string t,.slice none 0 0]) rfl
 have hS:=hS.perm (L':=(rx,98,[vi 3,vn 0,vn s.size,.string t,.slice none 0 0])::([]++[_,_,_])) (List.Perm.cons _ (List.Perm.refl _))
 refine(GB.nil 98 5).add hS (by omega) rfl rfl (by simp) fun v' H5 iF hg' hS' hx'=>?_
 have hS:=hS'.perm (List.perm_append_comm (l₂:=[_,_,_]))
 simp only[List.cons_append,List.nil_append]at hS
 repeat(first|(simp only[PP,Nat.reduceBEq,cr hS.wf])|(refine PU.b1 rfl ?_)|(refine PU.b2 rfl ?_)|(refine PU.b3 rfl ?_)|(refine PU.b4 rfl ?_)|(refine PU.b5 rfl ?_)|(refine PU.b6 rfl ?_)|(refine PU.b7 rfl ?_)|(refine PU.b8 rfl ?_)|(refine PU.b9 rfl ?_)|(refine hS.FO ?_)|(refine hS.iW ?_)|(refine hS.TJ ?_)|(refine hS.VJ ?_)|(refine hS.qR fun Hn hS=>?_)|(refine hS.VL fun Hn hS=>?_)|(refine MQ (by simp only[az,av (Ext.refl (hN _))];rfl) ?_))
 refine aj.mono (nI s s.size (by omega) (by omega)) ?_
 rintro v H' ⟨⟨k2,rfl,hk2,hk3⟩,rfl⟩
 obtain rfl:k2=s.size:=by omega
 (try simp only[PP,Nat.reduceBEq])
 have hS2:=(hS0.over hS)
 refine⟨0,by omega,_,_,_,_,_,_,_,rfl,rfl,.inr ⟨rfl,rfl,t,iF,ht,hg',?_⟩⟩
 exact SH.drop (A:=[_,_]) (by simpa using hS2)
end
end Go.Proofs.Lu
