/-
  Part 08 of the proof. No condition.
-/
import Derived.Test.YtcpdfamjhehgiaaGreatDoorS06
import Derived.Test.YtcpdfamjhehgiaaGreatDoorS07
set_option linter.unusedVariables false
set_option linter.unusedSimpArgs false
set_option maxRecDepth 100000
set_option maxHeartbeats 8000000
noncomputable section
namespace Go.Proofs.Lu
open Go.Ae Go.Ae.M Go.Ae.si
section
variable{H:ag}
def tx(s:ByteArray):List Nat:=s.data.toList.map UInt8.toNat
theorem aW(s:ByteArray):(tx s).length=s.size:=by simp[tx]
structure Tb(H:ag):Prop where
 first:∀c:Nat,c<256→H.cell 0 c=some (.int .u8 ((mO.getD c 0:Nat):Int))
 Sg:∀q:Nat,q<16→H.read 1 (q*2) 2=some [.int .u8 ((gN.getD (2*q) 0:Nat):Int),.int .u8 ((gN.getD (2*q +1) 0:Nat):Int)]
 lt:8≤H.next
theorem Tb.ex{H H':ag}(h:Tb H)(hx:Ext H H'):Tb H':=
 ⟨fun i hi=>(fq (hx.obj 0 (by have:=h.lt;omega) (by simp)) _).trans (h.first i hi),
  fun i hi=>(pI (hx.obj 1 (by have:=h.lt;omega) (by simp)) _ _).trans (h.Sg i hi),
  Nat.le_trans h.lt hx.next⟩
def ug(l:List Nat):Value:=match dec l with
 |some (r,n)=>.tuple ⟨[.int .i32 (r:Int),vn n]⟩
 |none=>.tuple ⟨[.int .i32 65533,vn (if l=[]then 0 else 1)]⟩
theorem kr{s:ByteArray}{z:Int}(k:Nat)(hz:z=(k:Int))(h:k<s.size):BV (.string s) (.int .i64 z)=some (.int .u8 (((tx s).getD k 0:Nat):Int))∧(tx s).getD k 0<256:=by
 subst hz
 have h1:k<s.data.toList.length:=by simpa using h
 have e:(tx s).getD k 0=(s.data.toList[k]).toNat:=by
  unfold tx
  rw[List.getD_eq_getElem?_getD,List.getElem?_map,List.getElem?_eq_getElem h1];rfl
 rw[e]
 exact⟨gV h,UInt8.toNat_lt _⟩
theorem Ee{l:List Nat}(hl:l≠[])(h:jM (l.getD 0 0) (l.getD 1 0) (l.getD 2 0) (l.getD 3 0)=none):ug l=.tuple ⟨[.int .i32 65533,vn 1]⟩:=by
 cases l with
 |nil=>exact absurd rfl hl
 |cons b l=>
  have:dec (b::l)=none:=h
  unfold ug;rw[this];simp
theorem pO{l:List Nat}{r n:Nat}(hl:l≠[])(h:jM (l.getD 0 0) (l.getD 1 0) (l.getD 2 0) (l.getD 3 0)=some (r,n)):ug l=.tuple ⟨[.int .i32 (r:Int),vn n]⟩:=by
 cases l with
 |nil=>exact absurd rfl hl
 |cons b l=>
  have:dec (b::l)=some (r,n):=h
  unfold ug;rw[this]
theorem TZ:∀c:Nat,c<256→FJ .i32 (B5 .i32 (aT .i32 (c:Int)) (lI .i32 (iV .i32 (aT .i32 ((240:Nat):Int)) 31) 31)) (gq .i32 65533 (lI .i32 (iV .i32 (aT .i32 ((240:Nat):Int)) 31) 31))=(c:Int):=by decide +kernel
theorem T3:∀c:Nat,c<256→FJ .i32 (B5 .i32 (aT .i32 (c:Int)) (lI .i32 (iV .i32 (aT .i32 ((241:Nat):Int)) 31) 31)) (gq .i32 65533 (lI .i32 (iV .i32 (aT .i32 ((241:Nat):Int)) 31) 31))=65533:=by decide +kernel
theorem Ef{c:Nat}(h0:128≤c)(h1:194≤c)(h2:c≤244)(hc:c<256):mO.getD c 0<240∧∃z q:Nat,aT .i64 (gq .u8 ((mO.getD c 0:Nat):Int) 7)=(z:Int)∧lI .u8 ((mO.getD c 0:Nat):Int) 4=(q:Int)∧q<16∧
 (∀d,(gN.getD (2*q) 0≤d∧d≤gN.getD (2*q +1) 0)↔kQ c d)∧(z=2∧c≤223∨z=3∧224≤c∧c≤239∨z=4∧240≤c):=by
 rcases(uf c hc).2 with⟨g,ht⟩|⟨g,ht⟩|⟨g,g',ht⟩|⟨g,ht⟩|⟨g,g',g'',ht⟩|⟨g,ht⟩|⟨g,ht⟩|⟨g,g',ht⟩|⟨g,ht⟩
 ·omega
 ·omega
 ·rw[ht];refine⟨by decide,2,0,by decide +kernel,by decide +kernel,by decide,fun d=>?_,aa⟩
  rw[show gN.getD (2*0) 0=128 from by decide,show gN.getD (2*0 +1) 0=191 from by decide];unfold kQ;omega
 ·rw[ht];refine⟨by decide,3,1,by decide +kernel,by decide +kernel,by decide,fun d=>?_,aa⟩
  rw[show gN.getD (2*1) 0=160 from by decide,show gN.getD (2*1 +1) 0=191 from by decide];unfold kQ;omega
 ·by_cases e:c=240
  ·omega
  rw[ht];refine⟨by decide,3,0,by decide +kernel,by decide +kernel,by decide,fun d=>?_,aa⟩
  rw[show gN.getD (2*0) 0=128 from by decide,show gN.getD (2*0 +1) 0=191 from by decide];unfold kQ;omega
 ·rw[ht];refine⟨by decide,3,2,by decide +kernel,by decide +kernel,by decide,fun d=>?_,aa⟩
  rw[show gN.getD (2*2) 0=128 from by decide,show gN.getD (2*2 +1) 0=159 from by decide];unfold kQ;omega
 ·rw[ht];refine⟨by decide,4,3,by decide +kernel,by decide +kernel,by decide,fun d=>?_,aa⟩
  rw[show gN.getD (2*3) 0=144 from by decide,show gN.getD (2*3 +1) 0=191 from by decide];unfold kQ;omega
 ·rw[ht];refine⟨by decide,4,0,by decide +kernel,by decide +kernel,by decide,fun d=>?_,aa⟩
  rw[show gN.getD (2*0) 0=128 from by decide,show gN.getD (2*0 +1) 0=191 from by decide];unfold kQ;omega
 ·rw[ht];refine⟨by decide,4,4,by decide +kernel,by decide +kernel,by decide,fun d=>?_,aa⟩
  rw[show gN.getD (2*4) 0=128 from by decide,show gN.getD (2*4 +1) 0=143 from by decide];unfold kQ;omega
theorem nH{l:List Nat}{k:Nat}(h:l.length≤k):l.getD k 0=0:=by
 rw[List.getD_eq_getElem?_getD,List.getElem?_eq_none h];rfl
theorem NK{c d:Nat}(hc:194≤c∧c≤223)(hd:128≤d∧d≤191):FJ .i32 (iV .i32 (aT .i32 (gq .u8 (c:Int) 31)) 6) (aT .i32 (gq .u8 (d:Int) 63))=(((c -192)*64 +(d -128):Nat):Int):=by
 have e1:gq .u8 (c:Int) 31=((c %32:Nat):Int):=om (j:=5) aa (by decide)
 have e2:gq .u8 (d:Int) 63=((d %64:Nat):Int):=om (j:=6) aa (by decide)
 have w:∀n:Nat,n<2147483648→aT .i32 (n:Int)=(n:Int):=fun n hn=>wrap_i32 hn
 rw[e1,e2,w _ aa,w _ aa]
 have e3:iV .i32 ((c %32:Nat):Int) 6=((c %32*2^6:Nat):Int):=qC (j:=6) aa aa
 rw[e3,vg aa aa,ve (i:=6) aa]
 congr 1;omega
theorem FX{c d e:Nat}(hc:224≤c∧c≤239)(hd:128≤d∧d≤191)(he:128≤e∧e≤191):
 FJ .i32 (FJ .i32 (iV .i32 (aT .i32 (gq .u8 (c:Int) 15)) 12) (iV .i32 (aT .i32 (gq .u8 (d:Int) 63)) 6)) (aT .i32 (gq .u8 (e:Int) 63))=(((c -224)*4096 +(d -128)*64 +(e -128):Nat):Int):=by
 have e1:gq .u8 (c:Int) 15=((c %16:Nat):Int):=om (j:=4) aa (by decide)
 have e2:gq .u8 (d:Int) 63=((d %64:Nat):Int):=om (j:=6) aa (by decide)
 have e4:gq .u8 (e:Int) 63=((e %64:Nat):Int):=om (j:=6) aa (by decide)
 have w:∀n:Nat,n<2147483648→aT .i32 (n:Int)=(n:Int):=fun n hn=>wrap_i32 hn
 rw[e1,e2,e4,w _ aa,w _ aa,w _ aa]
 have e3:iV .i32 ((c %16:Nat):Int) 12=((c %16*2^12:Nat):Int):=qC (j:=12) aa aa
 have e5:iV .i32 ((d %64:Nat):Int) 6=((d %64*2^6:Nat):Int):=qC (j:=6) aa aa
 rw[e3,e5,vg aa aa,ve (i:=12) aa,vg aa aa,show c %16*2^12 +d %64*2^6=(c %16*64 +d %64)*2^6 from by omega,ve (i:=6) aa]
 congr 1;omega
theorem J9{c d e f:Nat}(hc:240≤c∧c≤244)(hd:128≤d∧d≤191)(he:128≤e∧e≤191)(hf:128≤f∧f≤191):
 FJ .i32 (FJ .i32 (FJ .i32 (iV .i32 (aT .i32 (gq .u8 (c:Int) 7)) 18) (iV .i32 (aT .i32 (gq .u8 (d:Int) 63)) 12)) (iV .i32 (aT .i32 (gq .u8 (e:Int) 63)) 6)) (aT .i32 (gq .u8 (f:Int) 63))=(((c -240)*262144 +(d -128)*4096 +(e -128)*64 +(f -128):Nat):Int):=by
 have e1:gq .u8 (c:Int) 7=((c %8:Nat):Int):=om (j:=3) aa (by decide)
 have e2:gq .u8 (d:Int) 63=((d %64:Nat):Int):=om (j:=6) aa (by decide)
 have e4:gq .u8 (e:Int) 63=((e %64:Nat):Int):=om (j:=6) aa (by decide)
 have e6:gq .u8 (f:Int) 63=((f %64:Nat):Int):=om (j:=6) aa (by decide)
 have w:∀n:Nat,n<2147483648→aT .i32 (n:Int)=(n:Int):=fun n hn=>wrap_i32 hn
 rw[e1,e2,e4,e6,w _ aa,w _ aa,w _ aa,w _ aa]
 have e3:iV .i32 ((c %8:Nat):Int) 18=((c %8*2^18:Nat):Int):=qC (j:=18) aa aa
 have e5:iV .i32 ((d %64:Nat):Int) 12=((d %64*2^12:Nat):Int):=qC (j:=12) aa aa
 have e7:iV .i32 ((e %64:Nat):Int) 6=((e %64*2^6:Nat):Int):=qC (j:=6) aa aa
 rw[e3,e5,e7,vg aa aa,ve (i:=18) aa,vg aa aa,show c %8*2^18 +d %64*2^12=(c %8*64 +d %64)*2^12 from by omega,ve (i:=12) aa,vg aa aa,show(c %8*64 +d %64)*2^12 +e %64*2^6=((c %8*64 +d %64)*64 +e %64)*2^6 from by omega,ve (i:=6) aa]
 congr 1;omega
theorem l_{l:List Nat}{c z:Nat}(hne:l≠[])(hcd:l.getD 0 0=c)(hm:194≤c∧c≤244)(hz:z=2∧c≤223∨z=3∧224≤c∧c≤239∨z=4∧240≤c)
 (h:¬kQ c (l.getD 1 0)∨3≤z∧¬on (l.getD 2 0)∨4≤z∧¬on (l.getD 3 0)):ug l=.tuple ⟨[.int .i32 65533,vn 1]⟩:=by
 refine Ee hne ?_
 rw[hcd]
 unfold jM
 generalize l.getD 1 0=d1 at*
 generalize l.getD 2 0=d2 at*
 generalize l.getD 3 0=d3 at*
 rw[if_neg aa,if_neg ?_,if_neg ?_,if_neg ?_]
 ·rintro⟨g1,g2,g3,g4,g5⟩
  rcases h with h|⟨h,h'⟩|⟨h,h'⟩
  ·exact h g3
  ·exact h' g4
  ·exact h' g5
 ·rintro⟨g1,g2,g3,g4⟩
  rcases h with h|⟨h,h'⟩|⟨h,h'⟩
  ·exact h g3
  ·exact h' g4
  ·omega
 ·rintro⟨g1,g2,g3⟩
  rcases h with h|⟨h,h'⟩|⟨h,h'⟩
  ·exact h g3
  ·omega
  ·omega
set_option maxHeartbeats 2000000 in
theorem wo(hw:Wf H)(hT:Tb H)(s:ByteArray):aj Pg X 246 [.string s] H (Q1 (fun v _=>v=ug (tx s)) H):=by
 have hS:=SH.refl hw
 have hlen:=aW s
 refine ce [0,2,3,4,5,6,7,8,9,10,11,12] ?_;refine tl ?_
 refine ak ?_
 refine ai (fun h1=>?_) (fun h1=>?_)
 ·have:tx s=[]:=List.length_eq_zero_iff.1 aa
  refine rr ?_;exact⟨by rw[this];rfl,hS.ext⟩
 ·have hne:tx s≠[]:=fun e=>by rw[e]at hlen;simp at hlen;omega
  obtain⟨e0,hc⟩:=kr (s:=s) (z:=0) 0 rfl aa
  generalize hcd:(tx s).getD 0 0=c at e0 hc
  simp only[e0,fJ]
  rw[kD hc]
  refine ak ?_
  refine hS.YD (by rw[Nat.mul_one];exact hT.first c hc) (by have:=hT.lt;omega) ?_
  refine ak ?_
  by_cases hm:194≤c∧c≤244
  rotate_left
  ·rcases(uf c hc).2 with⟨g,ht⟩|⟨g,ht⟩|⟨g,g',ht⟩|⟨g,ht⟩|⟨g,g',g'',ht⟩|⟨g,ht⟩|⟨g,ht⟩|⟨g,g',ht⟩|⟨g,ht⟩
   ·rw[ht,decide_eq_true (by decide)]
    refine ak ?_
    refine rr ?_
    refine⟨?_,hS.ext⟩
    rw[pO hne (r:=c) (n:=1) (by rw[hcd];unfold jM;rw[if_pos g]),TZ c hc];rfl
   ·rw[ht,decide_eq_true (by decide)]
    refine ak ?_
    refine rr ?_
    refine⟨?_,hS.ext⟩
    rw[Ee hne (by rw[hcd];unfold jM;rw[if_neg aa,if_neg aa,if_neg aa,if_neg aa]),T3 c hc];rfl
   all_goals exact absurd aa hm
  ·obtain⟨hx,z,q,ez,eq,hq,hab,hz⟩:=Ef (c:=c) aa hm.1 hm.2 hc
   rw[decide_eq_false aa]
   refine ak ?_
   rw[ez,eq,kD hq]
   refine ak ?_
   refine hS.MF (hT.Sg q hq) (by have:=hT.lt;omega) ?_
   refine hS.fE fun H1 r1 hS=>?_
   refine hS.st 0 rfl rfl (by simp) rfl fun H2 hS=>?_
   have hS:SH [] H H2 [(r1,172,[.int .u8 ((gN.getD (2*q) 0:Nat):Int),.int .u8 ((gN.getD (2*q +1) 0:Nat):Int)])]:=hS
   refine ak ?_
   generalize hlo:gN.getD (2*q) 0=lo at hS hab⊢
   generalize hhi:gN.getD (2*q +1) 0=hi at hS hab⊢
   refine ai (fun h4=>?_) (fun h4=>?_)
   ·refine rr ?_;refine⟨?_,hS.ext⟩
    rw[l_ hne hcd hm hz (by
     rcases hz with⟨rfl,_⟩|⟨rfl,_⟩|⟨rfl,_⟩
     ·left;rw[nH aa];unfold kQ;omega
     ·right;left;rw[nH aa];unfold on;omega
     ·right;right;rw[nH (l:=tx s) (k:=3) aa];unfold on;omega)]
    rfl
   ·obtain⟨e1,hd⟩:=kr (s:=s) (z:=1) 1 rfl aa
    generalize wT:(tx s).getD 1 0=d1 at e1 hd
    simp only[e1,fJ]
    refine hS.ld 0 rfl rfl ?_
    refine ak ?_
    refine ai (fun h5=>?_) (fun h5=>?_)
    ·refine rr ?_;refine⟨?_,hS.ext⟩
     rw[l_ hne hcd hm hz (.inl (by rw[wT,←hab];omega))];rfl
    refine hS.ld 0 rfl rfl ?_
    refine ak ?_
    refine ai (fun h6=>?_) (fun h6=>?_)
    ·refine rr ?_;refine⟨?_,hS.ext⟩
     rw[l_ hne hcd hm hz (.inl (by rw[wT,←hab];omega))];rfl
    have hs2:kQ c d1:=(hab d1).1 aa
    have hr1:128≤d1∧d1≤191:=⟨hs2.1,hs2.2.1⟩
    refine tl ?_
    refine ak ?_
    refine ai (fun h7=>?_) (fun h7=>?_)
    ·refine rr ?_;refine⟨?_,hS.ext⟩
     rw[pO hne (r:=(c -192)*64 +(d1 -128)) (n:=2) (by rw[hcd,wT];unfold jM;rw[if_neg aa,if_pos ⟨aa,aa,hs2⟩]),←NK aa hr1];rfl
    obtain⟨e2,hd2⟩:=kr (s:=s) (z:=2) 2 rfl aa
    generalize Qh:(tx s).getD 2 0=d2 at e2 hd2
    simp only[e2]
    refine ak ?_
    refine ai (fun h8=>?_) (fun h8=>?_)
    ·refine rr ?_;refine⟨?_,hS.ext⟩
     rw[l_ hne hcd hm hz (.inr (.inl ⟨aa,by rw[Qh];unfold on;omega⟩))];rfl
    refine ai (fun h9=>?_) (fun h9=>?_)
    ·refine rr ?_;refine⟨?_,hS.ext⟩
     rw[l_ hne hcd hm hz (.inr (.inl ⟨aa,by rw[Qh];unfold on;omega⟩))];rfl
    have hr2:on d2:=by unfold on;omega
    refine tl ?_
    refine ak ?_
    refine ai (fun h10=>?_) (fun h10=>?_)
    ·refine rr ?_;refine⟨?_,hS.ext⟩
     rw[pO hne (r:=(c -224)*4096 +(d1 -128)*64 +(d2 -128)) (n:=3) (by rw[hcd,wT,Qh];unfold jM;rw[if_neg aa,if_neg aa,if_pos ⟨aa,aa,hs2,hr2⟩]),←FX aa hr1 hr2];rfl
    obtain⟨e3,hd3⟩:=kr (s:=s) (z:=3) 3 rfl aa
    generalize T4:(tx s).getD 3 0=d3 at e3 hd3
    simp only[e3]
    refine ak ?_
    refine ai (fun h11=>?_) (fun h11=>?_)
    ·refine rr ?_;refine⟨?_,hS.ext⟩
     rw[l_ hne hcd hm hz (.inr (.inr ⟨aa,by rw[T4];unfold on;omega⟩))];rfl
    refine ai (fun h12=>?_) (fun h12=>?_)
    ·refine rr ?_;refine⟨?_,hS.ext⟩
     rw[l_ hne hcd hm hz (.inr (.inr ⟨aa,by rw[T4];unfold on;omega⟩))];rfl
    have hr3:on d3:=by unfold on;omega
    refine tl ?_
    refine ak ?_
    refine rr ?_;refine⟨?_,hS.ext⟩
    rw[pO hne (r:=(c -240)*262144 +(d1 -128)*4096 +(d2 -128)*64 +(d3 -128)) (n:=4) (by rw[hcd,wT,Qh,T4];unfold jM;rw[if_neg aa,if_neg aa,if_neg aa,if_pos ⟨aa,aa,hs2,hr2,hr3⟩]),←J9 aa hr1 hr2 hr3];rfl
theorem Qi(hw:Wf H)(hT:Tb H)(s:ByteArray):aj Pg X 155 [.string s] H (Q1 (fun v _=>v=ug (tx s)) H):=by
 have hlen:=aW s
 refine ce [0,2,3] ?_;refine tl ?_
 refine ak ?_
 refine bz (fun h1=>?_) (fun h1=>?_)
 ·have hs:0<s.size:=by
   rcases Nat.eq_zero_or_pos s.size with h|h
   ·exfalso;apply h1
    obtain⟨⟨l⟩⟩:=s
    have:l.length=0:=h
    rw[List.length_eq_zero_iff]at this
    subst this;rfl
   ·exact h
  have hne:tx s≠[]:=fun e=>by rw[e]at hlen;simp at hlen;omega
  obtain⟨e0,hc⟩:=kr (s:=s) (z:=0) 0 rfl hs
  generalize hcd:(tx s).getD 0 0=c at e0 hc
  simp only[e0]
  refine ak ?_
  refine tl ?_
  refine ak ?_
  refine ai (fun h2=>?_) (fun h2=>?_)
  ·simp only[e0]
   refine ak ?_
   refine rr ?_;refine⟨?_,Ext.refl _⟩
   rw[pO hne (r:=c) (n:=1) (by rw[hcd];unfold jM;rw[if_pos aa])]
   rw[show aT .i32 (c:Int)=(c:Int)from wrap_i32 aa];rfl
  ·refine aj.mono (wo hw hT s) ?_
   rintro v H' ⟨hv,hx⟩
   obtain⟨r,k,hd⟩:∃(r:Int)(k:Nat),ug (tx s)=.tuple ⟨[.int .i32 r,vn k]⟩:=by
    unfold ug;split
    ·exact⟨_,_,rfl⟩
    ·exact⟨_,_,rfl⟩
   rw[hd]at hv⊢
   subst hv
   simp only[P8]
   refine ak ?_
   refine tl ?_
   refine rr ?_;exact⟨rfl,hx⟩
 ·refine tl ?_
  refine ak ?_
  refine aj.mono (wo hw hT s) ?_
  rintro v H' ⟨hv,hx⟩
  obtain⟨r,k,hd⟩:∃(r:Int)(k:Nat),ug (tx s)=.tuple ⟨[.int .i32 r,vn k]⟩:=by
   unfold ug;split
   ·exact⟨_,_,rfl⟩
   ·exact⟨_,_,rfl⟩
  rw[hd]at hv⊢
  subst hv
  refine ak ?_
  refine tl ?_
  refine rr ?_;exact⟨rfl,hx⟩
end
section
variable{H:ag}
theorem qD(s:ByteArray){lo hi:Nat}:tx (Ae.part s lo hi)=((tx s).drop lo).take (hi -lo):=by
 unfold tx Ae.part
 show((s.data.toList.drop lo).take (hi -lo)).map UInt8.toNat=_
 rw[List.map_take,List.map_drop]
theorem uk(s:ByteArray)(lo:Nat):tx (Ae.part s lo s.size)=(tx s).drop lo:=by
 rw[qD]
 refine List.take_of_length_le ?_
 rw[List.length_drop,aW];exact Nat.le_refl _
def um(l:List Nat)(k:Nat):Value:=match dec l with
 |some (r,n)=>.agg ⟨[vn k,vn n,.int .i32 (r:Int),.bool true]⟩
 |none=>.agg ⟨[vn k,vn 1,.int .i32 65533,.bool false]⟩
theorem ZM(hw:Wf H)(hT:Tb H)(s:ByteArray)(k:Nat)(hk:k<s.size):aj Pg X 88 [.string s,vn k] H (Q1 (fun v _=>v=um ((tx s).drop k) k) H):=by
 have hS:=SH.refl hw
 refine ce [0,1,4,5,6] ?_;refine tl ?_
 refine hS.fE fun Hn r hS=>?_
 refine ak ?_
 rw[decide_eq_false aa]
 refine ak ?_
 refine ai (fun hc=>?_) (fun hc=>?_)
 ·exact absurd hc aa
 ·refine tl ?_
  rw[fu aa]
  refine ak ?_
  refine aj.mono (Qi hS.wf (hT.ex hS.ext) _) ?_
  rintro v H' ⟨hv,hx⟩
  rw[uk]at hv
  have hne:(tx s).drop k≠[]:=fun e=>by
   have:=congrArg List.length e
   rw[List.length_drop,aW]at this;simp at this;omega
  have hS:=hS.call hx
  unfold ug at hv
  have fin:∀(x:Int)(n:Nat) rg,um ((tx s).drop k) k=.agg ⟨[vn k,vn n,.int .i32 x,.bool true]⟩→bC Pg X (sub D8 [1,1,1,1]) (AV (.string s) (vn k) (.pointer (some ⟨r,0,none⟩)) (.int .i32 x) (vn n) rg H') (fD Pg [.cell 4 113] (Q1 (fun v _=>v=um ((tx s).drop k) k) H)):=by
   intro x n rg hi
   refine tl ?_
   refine PU.b4 rfl ?_;refine hS.aX ?_;refine hS.qR fun Hn hS=>?_
   refine rr ?_
   refine hS.iW ?_
   refine⟨?_,hS.ext⟩
   rw[hi];rfl
  cases hd:dec ((tx s).drop k)with
  |some p=>
   obtain⟨x,n⟩:=p
   rw[hd]at hv
   subst hv
   have hi:um ((tx s).drop k) k=.agg ⟨[vn k,vn n,.int .i32 (x:Int),.bool true]⟩:=by unfold um;rw[hd]
   refine ak ?_
   refine ai (fun hc=>?_) (fun hc=>fin _ _ _ hi)
   refine ai (fun hc2=>?_) (fun hc2=>fin _ _ _ hi)
   exfalso
   obtain⟨h1,h2,h3⟩:=xk hd
   have h4:x=65533:=by omega
   rw[h4]at h3
   have:(enc 65533).length=3:=by decide
   omega
  |none=>
   rw[hd]at hv
   subst hv
   rw[if_neg hne]
   refine ak ?_
   have hi:um ((tx s).drop k) k=.agg ⟨[vn k,vn 1,.int .i32 65533,.bool false]⟩:=by unfold um;rw[hd]
   refine ai (fun hc=>?_) (fun hc=>?_)
   rotate_left
   ·exact absurd trivial hc
   refine ai (fun hc2=>?_) (fun hc2=>?_)
   rotate_left
   ·exact absurd (by decide) hc2
   refine PU.b4 rfl ?_;refine hS.aX ?_;refine hS.qR fun Hn hS=>?_
   refine rr ?_
   refine hS.iW ?_
   refine⟨?_,hS.ext⟩
   rw[hi];rfl
end
section
variable{H0 H:ag}{L:List bF}
abbrev iK(n:Nat):Value:=.int .u8 (n:Int)
theorem rX:∀(l:List Nat),(∀x∈l,x<256)→fA (l.map iK)=some (l.map UInt8.ofNat):=by
 intro l
 induction l with
 |nil=>intro _;rfl
 |cons x l ih=>
  intro h
  have hx:=h x (List.mem_cons_self ..)
  show(ah (wG (.ofNat x)) fun n=>gd (wI .u8&&Nat.ble n 255) (ah (fA (l.map iK)) fun bs=>some (UInt8.ofNat n::bs)))=_
  rw[ih fun y hy=>h y (List.mem_cons_of_mem _ hy)]
  show gd (Nat.ble x 255) (some (UInt8.ofNat x::l.map UInt8.ofNat))=_
  rw[Nat.ble_eq_true_of_le aa,lT];rfl
theorem yZ(l:List Nat)(h:∀x∈l,x<256):tx ⟨⟨l.map UInt8.ofNat⟩⟩=l:=by
 unfold tx
 show(l.map UInt8.ofNat).map UInt8.toNat=l
 rw[List.map_map]
 conv=>rhs;rw[←List.map_id l]
 refine List.map_congr_left fun x hx=>?_
 have:=h x hx
 simp[UInt8.toNat_ofNat']
 omega
theorem strOf{l:List Nat}(hl:∀n∈l,n<256)(hn:0<l.length)(hS:SH [] H0 H L){Kp:Value→Prop}{Km:Value→ag→Prop}
 (k:∀t,tx t=l→SH [] H0 (H.new (rowOf 5 (l.map iK))) L→Km (.string t) (H.new (rowOf 5 (l.map iK)))):
 CV (oC Pg 101 9 (.slice (some ⟨H.next,0,none⟩) l.length l.length)) (fK Pg 101 9 (.slice (some ⟨H.next,0,none⟩) l.length l.length) (H.new (rowOf 5 (l.map iK)))) Kp Km:=by
 have hS2:=hS.grow 5 (l.map iK)
 have hb:Bk (H.new (rowOf 5 (l.map iK))) H.next 5 (l.map iK):=hS2.get 0 rfl
 have hr:=hb.read (o:=0) (n:=l.length) (by simp)
 have hq:fK Pg 101 9 (.slice (some ⟨H.next,0,none⟩) l.length l.length) (H.new (rowOf 5 (l.map iK)))=ah ((H.new (rowOf 5 (l.map iK))).read H.next 0 l.length) fun z=>ah (fA z) fun bs=>some (.string ⟨⟨bs⟩⟩,H.new (rowOf 5 (l.map iK))):=by kernel_rfl
 refine CV.me (by kernel_rfl) (v:=.string ⟨⟨l.map UInt8.ofNat⟩⟩) (H1:=H.new (rowOf 5 (l.map iK))) ?_ (k _ (yZ l hl) (SH.drop (A:=[_]) hS2))
 rw[hq,hr,List.drop_zero,List.take_of_length_le (by simp)]
 show(ah (fA (l.map iK)) fun bs=>some (Value.string ⟨⟨bs⟩⟩,_))=_
 rw[rX l hl];rfl
end
section
variable{H0 H:ag}{L:List bF}
theorem T8{a b:Int}{A B:Prop}(h1:a<b→A)(h2:¬a<b→B):yu (some (decide (a<b))) A B:=ai h1 h2
theorem NT{P:Program}{t:TypeId}{ox oy:Operand}{a b:Nat}(hb:0<b)(h:a≤9223372036854775807):bq P .rem t ox oy (vn a) (vn b)=some (vn (a %b)):=aV rfl (by
 show bD (Op.intDiv .rem .i64 a b)=_
 unfold Op.intDiv
 rw[if_neg aa]
 show some (Value.int .i64 ((a:Int).tmod b))=_
 have h1:(a:Int).tmod b=((a %b:Nat):Int):=by rw[Int.tmod_eq_emod_of_nonneg aa];rfl
 have h2:a %b≤a:=Nat.mod_le _ _
 rw[h1])
theorem qW{n:Nat}(h:n<256):aT .u8 (n:Int)=(n:Int):=t_ h
theorem Eo{P:Program}{t:TypeId}{ox oy:Operand}{a:Nat}{z:Int}(b:Nat)(e:z=(b:Int))(hb:0<b)(h:a≤9223372036854775807):bq P .quo t ox oy (vn a) (.int .i64 z)=some (vn (a/b)):=by subst e;exact yK aa aa aa
theorem addN{P:Program}{t:TypeId}{ox oy:Operand}{b:Nat}{z:Int}(a:Nat)(e:z=(a:Int))(h:a +b≤9223372036854775807):bq P .add t ox oy (.int .i64 z) (vn b)=some (vn (a +b)):=by subst e;exact aH aa aa
theorem dW{P:Program}{t:TypeId}{ox oy:Operand}{a:Nat}{z:Int}(b:Nat)(e:z=(b:Int))(hb:0<b)(h:a≤9223372036854775807):bq P .rem t ox oy (vn a) (.int .i64 z)=some (vn (a %b)):=by subst e;exact NT hb h
theorem Sk(hw:Wf H)(r:Nat)(hr:r<2147483648):aj Pg X 84 [vn r] H (Q1 (fun v _=>∃t,v=.string t∧tx t=encR r) H):=by
 have hS:=SH.refl hw
 refine ce [0,2] ?_;refine tl ?_
 refine ak ?_
 refine ai (fun h1=>?_) (fun h1=>?_)
 ·exact absurd h1 aa
 refine ai (fun h2=>?_) (fun h2=>?_)
 ·refine rr ?_;refine⟨⟨_,rfl,?_⟩,hS.ext⟩
  unfold encR;rw[if_neg (by unfold tY;omega)];rfl
 have rest:tY r→∀rg,bC Pg X (sub nE [1,1]) (mR (vn r) (.string ⟨#[]⟩) rg H) (fD Pg [.tmp 2] (Q1 (fun v _=>∃t,v=.string t∧tx t=encR r) H)):=by
  intro ho rg
  have he:encR r=enc r:=by unfold encR;rw[if_pos ho]
  have hr2:r<1114112:=by unfold tY at ho;omega
  refine tl ?_
  refine ak ?_
  refine ai (fun g1=>?_) (fun g1=>?_)
  ·rw[qW aa]
   refine ME.of NM ?_
   refine strOf (l:=[r]) (by intro n hn;simp at hn;omega) (by simp) hS fun t ht hS=>?_
   refine rr ?_;refine⟨⟨t,rfl,?_⟩,hS.ext⟩
   rw[ht,he];unfold enc;rw[if_pos aa]
  refine ai (fun g2=>?_) (fun g2=>?_)
  ·refine PU.of (Eo 64 aa (by decide) aa) ?_
   refine PU.of (addN 192 aa aa) ?_
   refine ak ?_
   refine PU.of (dW 64 aa (by decide) aa) ?_
   refine PU.of (addN 128 aa aa) ?_
   refine ak ?_
   rw[qW aa,qW aa]
   refine ME.of Si ?_
   refine strOf (l:=[192 +r/64,128 +r %64]) (by intro n hn;simp at hn;omega) (by simp) hS fun t ht hS=>?_
   refine rr ?_;refine⟨⟨t,rfl,?_⟩,hS.ext⟩
   rw[ht,he];unfold enc;rw[if_neg aa,if_pos aa]
  with_reducible refine T8 (fun g3=>?_) (fun g3=>?_)
  ·refine PU.of (Eo 4096 aa (by decide) aa) ?_
   refine PU.of (addN 224 aa aa) ?_
   refine ak ?_
   refine PU.of (Eo 64 aa (by decide) aa) ?_
   refine PU.of (dW 64 aa (by decide) aa) ?_
   refine PU.of (addN 128 aa aa) ?_
   refine ak ?_
   refine PU.of (dW 64 aa (by decide) aa) ?_
   refine PU.of (addN 128 aa aa) ?_
   refine ak ?_
   rw[qW aa,qW aa,qW aa]
   refine ME.of NN ?_
   refine strOf (l:=[224 +r/4096,128 +r/64 %64,128 +r %64]) (by intro n hn;simp at hn;omega) (by simp) hS fun t ht hS=>?_
   refine rr ?_;refine⟨⟨t,rfl,?_⟩,hS.ext⟩
   rw[ht,he];unfold enc;rw[if_neg aa,if_neg aa,if_pos aa]
  ·refine PU.of (Eo 262144 aa (by decide) aa) ?_
   refine PU.of (addN 240 aa aa) ?_
   refine ak ?_
   refine PU.of (Eo 4096 aa (by decide) aa) ?_
   refine PU.of (dW 64 aa (by decide) aa) ?_
   refine PU.of (addN 128 aa aa) ?_
   refine ak ?_
   refine PU.of (Eo 64 aa (by decide) aa) ?_
   refine PU.of (dW 64 aa (by decide) aa) ?_
   refine PU.of (addN 128 aa aa) ?_
   refine ak ?_
   refine PU.of (dW 64 aa (by decide) aa) ?_
   refine PU.of (addN 128 aa aa) ?_
   refine ak ?_
   rw[qW aa,qW aa,qW aa,qW aa]
   refine ME.of Sj ?_
   refine strOf (l:=[240 +r/262144,128 +r/4096 %64,128 +r/64 %64,128 +r %64]) (by intro n hn;simp at hn;omega) (by simp) hS fun t ht hS=>?_
   refine rr ?_;refine⟨⟨t,rfl,?_⟩,hS.ext⟩
   rw[ht,he];unfold enc;rw[if_neg aa,if_neg aa,if_neg aa]
 refine ai (fun h3=>?_) (fun h3=>?_)
 ·refine ai (fun h4=>?_) (fun h4=>?_)
  ·refine rr ?_;refine⟨⟨_,rfl,?_⟩,hS.ext⟩
   unfold encR;rw[if_neg (by unfold tY;omega)];rfl
  ·exact rest (by unfold tY;omega) _
 ·exact rest (by unfold tY;omega) _
end
section
variable{H0 H:ag}{L:List bF}
theorem y_{s t:ByteArray}(h:tx s=tx t):s=t:=by
 obtain⟨⟨a⟩⟩:=s
 obtain⟨⟨b⟩⟩:=t
 have h:a.map UInt8.toNat=b.map UInt8.toNat:=h
 have:a=b:=List.map_inj_right (fun x y e=>UInt8.toNat_inj.1 e)|>.1 h
 rw[this]
theorem Sl(s:ByteArray)(i:Nat):(tx s).getD i 0<256:=by
 unfold tx
 rw[List.getD_eq_getElem?_getD,List.getElem?_map]
 cases s.data.toList[i]? with
 |none=>decide
 |some x=>exact UInt8.toNat_lt _
theorem getD_drop(l:List Nat)(k i:Nat):(l.drop k).getD i 0=l.getD (k +i) 0:=by simp only[List.getD_eq_getElem?_getD,List.getElem?_drop]
theorem getD_take{l:List Nat}{k i:Nat}(h:i<k):(l.take k).getD i 0=l.getD i 0:=by simp only[List.getD_eq_getElem?_getD,List.getElem?_take,if_pos h]
def cat(a b:ByteArray):ByteArray:=⟨⟨a.data.toList++b.data.toList⟩⟩
theorem gB(a b:ByteArray):tx (cat a b)=tx a++tx b:=by
 show(a.data.toList++b.data.toList).map UInt8.toNat=_
 rw[List.map_append];rfl
theorem dz{P:Program}{t:TypeId}{ox oy:Operand}{a b:ByteArray}(h:a.size +b.size≤4611686018427387904):bq P .add t ox oy (.string a) (.string b)=some (.string (cat a b)):=by
 show gd (Nat.ble (Nat.add (len a.data.toList) (len b.data.toList)) 4611686018427387904) (some (Value.string ⟨⟨app a.data.toList b.data.toList⟩⟩))=_
 rw[fV,aJ,aJ,Nat.ble_eq_true_of_le (show Nat.add a.data.toList.length b.data.toList.length≤_ from h)];rfl
def Ep(l:List Nat):Value:=match dec l with
 |some (r,n)=>.tuple ⟨[vn r,vn n]⟩
 |none=>.tuple ⟨[vi (-1),vn 1]⟩
def acc(m:Nat)(l:List Nat):Nat→Nat
 |0=>l.getD 0 0 %m
 |i +1=>64*acc m l i +l.getD (i +1) 0 %64
def mo(j:Nat):Nat:=if j=2 then 32 else if j=3 then 16 else if j=4 then 8 else 256
theorem NU{m:Nat}(hm:0<m)(l:List Nat):∀i,acc m l i<m*64^i:=by
 intro i
 induction i with
 |zero=>show _ %m<m*1;rw[Nat.mul_one];exact Nat.mod_lt _ hm
 |succ i ih=>
  show 64*acc m l i +_ %64<m*64^(i +1)
  rw[Nat.pow_succ,←Nat.mul_assoc]
  generalize m*64^i=A at ih⊢
  omega
theorem Ql{l:List Nat}(h0:l.getD 0 0<256){j:Nat}(h1:1≤j)(h4:j≤4):TY j l=acc (mo j) l (j -1)∧acc (mo j) l (j -1)<2147483648:=by
 have hb:acc (mo j) l (j -1)<2147483648:=by
  have:=NU (m:=mo j) (by unfold mo;split;decide;split;decide;split<;>decide) l (j -1)
  refine Nat.lt_of_lt_of_le this ?_
  rcases(by omega:j=1∨j=2∨j=3∨j=4)with rfl|rfl|rfl|rfl<;>decide
 refine⟨?_,hb⟩
 rcases(by omega:j=1∨j=2∨j=3∨j=4)with rfl|rfl|rfl|rfl
 ·show l.getD 0 0=l.getD 0 0 %256;omega
 ·show l.getD 0 0 %32*64 +l.getD 1 0 %64=64*(l.getD 0 0 %32) +l.getD 1 0 %64;omega
 ·show(l.getD 0 0 %16*64 +l.getD 1 0 %64)*64 +l.getD 2 0 %64=64*(64*(l.getD 0 0 %16) +l.getD 1 0 %64) +l.getD 2 0 %64;omega
 ·show((l.getD 0 0 %8*64 +l.getD 1 0 %64)*64 +l.getD 2 0 %64)*64 +l.getD 3 0 %64=64*(64*(64*(l.getD 0 0 %8) +l.getD 1 0 %64) +l.getD 2 0 %64) +l.getD 3 0 %64;omega
theorem wrapN{n:Nat}(h:n≤9223372036854775807):aT .i64 (n:Int)=(n:Int):=fo aa aa
theorem mulN{P:Program}{t:TypeId}{ox oy:Operand}{b:Nat}{z:Int}(a:Nat)(e:z=(a:Int))(h:a*b≤9223372036854775807):bq P .mul t ox oy (.int .i64 z) (vn b)=some (vn (a*b)):=by
 subst e
 have h':(a:Int)*(b:Int)=((a*b:Nat):Int):=by push_cast;rfl
 rw[tF (by rw[h'];omega) (by rw[h'];omega),h']
theorem i_{P:Program}{t:TypeId}{ox oy:Operand}{a:Nat}{z:Int}(b:Nat)(e:z=(b:Int))(h:a +b≤9223372036854775807):bq P .add t ox oy (vn a) (.int .i64 z)=some (vn (a +b)):=by subst e;exact aH aa aa
set_option maxHeartbeats 4000000 in
theorem NV(hw:Wf H)(s:ByteArray)(k:Nat)(hk:k<s.size)(hs:s.size≤1000000000):aj Pg X 49 [.string s,vn k] H (Q1 (fun v _=>v=Ep ((tx s).drop k)) H):=by
 have hlen:((tx s).drop k).length=s.size -k:=by rw[List.length_drop,aW]
 generalize hl:(tx s).drop k=l at hlen⊢
 have hb0:∀i,l.getD i 0<256:=fun i=>by rw[←hl,getD_drop];exact Sl _ _
 refine ce [0,1,4,5,6,7,8,9] ?_;refine tl ?_
 refine ZJ 4 5 6 7 8 9 (I:=fun n x4 x5 x6 x7 x8 x9 H'=>SH [] H H' []∧∃j:Nat,x6=vn j∧1≤j∧n +j=5∧∀r n,dec l=some (r,n)→j≤n) ?_ 4 ⟨SH.refl hw,1,rfl,aa,aa,fun r n h=>(Ed h).1⟩
 rintro n x4 x5 x6 x7 x8 x9 rg H1 ⟨hS,j,rfl,hj1,hjn,hno⟩
 have none:(∀r n,dec l=some (r,n)→False)→Ep l=.tuple ⟨[vi (-1),vn 1]⟩:=fun h=>by
  unfold Ep
  cases hd:dec l with
  |none=>rfl
  |some p=>exact(h p.1 p.2 hd).elim
 refine tl ?_
 refine ak ?_
 refine ai (fun h4=>?_) (fun h4=>?_)
 rotate_left
 ·refine tl ?_
  refine rr ?_
  exact⟨(none fun r n h=>by have:=(Ed h).2.1;have:=hno r n h;omega).symm,hS.ext⟩
 rw[iL aa aa]
 refine ak ?_
 refine ai (fun h5=>?_) (fun h5=>?_)
 rotate_left
 ·refine tl ?_
  refine rr ?_
  exact⟨(none fun r n h=>by have:=(Ed h).2.2.1;have:=hno r n h;omega).symm,hS.ext⟩
 refine tl ?_
 refine PU.of (i_ j rfl aa) ?_
 rw[iM aa aa]
 refine ak ?_
 have hp:=iG s (lo:=k) (hi:=k +j) aa aa
 have htp:tx (Go.Ae.part s k (k +j))=l.take j:=by rw[qD,hl,Nat.add_sub_cancel_left]
 obtain⟨e0,_⟩:=kr (s:=Go.Ae.part s k (k +j)) (z:=0) 0 rfl aa
 rw[htp,getD_take aa]at e0
 simp only[e0]
 refine ak ?_
 rw[wrapN (by have:=hb0 0;omega)]
 have hc0:=hb0 0
 have m0:∀z:Nat,z=acc (mo j) l 0→z≤255:=by
  intro z hz
  rw[hz]
  show l.getD 0 0 %_≤_
  have:=Nat.mod_le (l.getD 0 0) (mo j)
  omega
 have h4':j≤4:=by omega
 repeat' (first
  |(refine ak ?_)
  |(with_reducible refine ai (fun e=>?_) (fun e=>?_))
  |(refine PU.of (dW 32 rfl (by decide) aa) ?_)
  |(refine PU.of (dW 16 rfl (by decide) aa) ?_)
  |(refine PU.of (dW 8 rfl (by decide) aa) ?_)
  |(refine tl ?_))
 all_goals first|(exfalso;omega)|skip
 all_goals
  refine lp2 8 9 (I:=fun m x8 x9 H'=>H'=H1∧∃i:Nat,i +1 +m=j∧x8=vn (acc (mo j) l i)∧x9=vn (i +1)) ?_ (j -1) ⟨rfl,0,aa,?_,rfl⟩
  rotate_left
  ·show vn _=vn (l.getD 0 0 %mo j)
   congr 2
   have:j=1∨j=2∨j=3∨j=4:=by omega
   rcases this with rfl|rfl|rfl|rfl<;>first|rfl|(exfalso;omega)|(show l.getD 0 0=l.getD 0 0 %256;omega)
  rintro m x8 x9 rg H2 ⟨rfl,i,him,rfl,rfl⟩
  refine tl ?_
  (try simp only[PP,Nat.reduceBEq])
  have hai:=NU (m:=mo j) (by unfold mo;split;decide;split;decide;split<;>decide) l i
  have hai2:acc (mo j) l i<134217728:=by
   refine Nat.lt_of_lt_of_le hai ?_
   have:mo j≤256:=by unfold mo;split;decide;split;decide;split<;>decide
   have h2:64^i≤64^3:=Nat.pow_le_pow_right (by decide) aa
   exact Nat.le_trans (Nat.mul_le_mul this h2) (by decide)
  refine ai (fun e=>?_) (fun e=>?_)
  ·refine PU.of (mulN 64 rfl aa) ?_
   obtain⟨e1,_⟩:=kr (s:=Go.Ae.part s k (k +j)) (z:=((i +1:Nat):Int)) (i +1) rfl aa
   rw[htp,getD_take aa]at e1
   simp only[e1]
   (try simp only[PP,Nat.reduceBEq])
   rw[wrapN (by have:=hb0 (i +1);omega)]
   refine PU.of (dW 64 rfl (by decide) (by have:=hb0 (i +1);omega)) ?_
   refine PU.of (i_ _ rfl aa) ?_
   refine PU.of (i_ 1 rfl aa) ?_
   exact⟨m -1,aa,_,_,_,_,rfl,rfl,i +1,aa,rfl,rfl⟩
  ·have hij:i=j -1:=by omega
   obtain⟨hv1,hv2⟩:=Ql (hb0 0) hj1 h4'
   rw[←hij]at hv1 hv2
   refine tl ?_
   refine aj.mono (Sk hS.wf _ hv2) ?_
   rintro v H2 ⟨⟨t,rfl,ht⟩,hx⟩
   have hS:=hS.call hx
   (try simp only[PP,Nat.reduceBEq])
   refine ai (fun g=>?_) (fun g=>?_)
   ·refine rr ?_
    refine⟨?_,hS.ext⟩
    have hd:dec l=some (acc (mo j) l i,j):=WT (by rw[←ht,g,htp]) hj1 aa
    unfold Ep;rw[hd]
   ·refine tl ?_
    refine PU.of (i_ 1 rfl aa) ?_
    (try simp only[PP,Nat.reduceBEq])
    refine⟨n -1,aa,_,_,_,_,_,_,_,_,rfl,hS,j +1,rfl,aa,aa,fun r n h=>?_⟩
    have h6:=hno r n h
    rcases Nat.lt_or_ge j n with h7|h7
    ·exact h7
    ·exfalso
     have h8:n=j:=by omega
     subst h8
     obtain⟨_,_,_,h9,h10⟩:=Ed h
     apply g
     apply y_
     rw[ht,htp,←h10,←h9,hv1]
end
section
variable{H0 H:ag}{L:List bF}
abbrev zV(l:List Nat)(v:Value):Prop:=∃t,v=.string t∧tx t=l
theorem dB{t:ByteArray}{l:List Nat}(h:tx t=l):t.size=l.length:=by rw[←h,aW]
theorem oo{t:ByteArray}:tx t=[]↔t=⟨#[]⟩:=⟨fun h=>y_ (h.trans rfl),fun h=>by rw[h];rfl⟩
theorem Sm:∀k,k<16→((tx ⟨#[48,49,50,51,52,53,54,55,56,57,97,98,99,100,101,102]⟩).drop k).take 1=[wS k]:=by decide
theorem WU:∀k,k<10→((tx ⟨#[48,49,50,51,52,53,54,55,56,57]⟩).drop k).take 1=[48 +k]:=by decide
theorem Ch{s:ByteArray}{k:Nat}:tx (Go.Ae.part s k (k +1))=((tx s).drop k).take 1:=by rw[qD,Nat.add_sub_cancel_left]
theorem Sn(n:Nat)(h:n<16):aj Pg X 85 [vn n] H (Q0 (zV (hex n)) H):=by
 refine ce [0,2,3] ?_;refine tl ?_
 refine PU.of (dW 16 rfl (by decide) aa) ?_
 refine PU.of (dW 16 rfl (by decide) aa) ?_
 refine PU.of (i_ 1 rfl aa) ?_
 rw[iM aa (by show n %16 +1≤16;omega)]
 refine ak ?_
 refine ai (fun e=>?_) (fun e=>absurd aa e)
 refine rr ?_
 refine⟨⟨_,rfl,?_⟩,rfl⟩
 rw[Ch,Nat.mod_eq_of_lt h,Sm n h]
 unfold hex;rw[if_pos h]
theorem YZ(n:Nat)(h:n<256):aj Pg X 85 [vn n] H (Q0 (zV (hex n)) H):=by
 rcases Nat.lt_or_ge n 16 with g|g
 ·exact Sn n g
 refine ce [0,2,3] ?_;refine tl ?_
 refine PU.of (dW 16 rfl (by decide) aa) ?_
 refine PU.of (dW 16 rfl (by decide) aa) ?_
 refine PU.of (i_ 1 rfl aa) ?_
 rw[iM aa (by show n %16 +1≤16;omega)]
 refine ak ?_
 refine ai (fun e=>absurd e aa) (fun e=>?_)
 refine PU.of (Eo 16 rfl (by decide) aa) ?_
 refine aj.mono (Sn (n/16) aa) ?_
 rintro v H' ⟨⟨t,rfl,ht⟩,rfl⟩
 have hp:tx (Go.Ae.part ⟨#[48,49,50,51,52,53,54,55,56,57,97,98,99,100,101,102]⟩ (n %16) (n %16 +1))=[wS (n %16)]:=by rw[Ch,Sm _ aa]
 have hs1:=dB ht
 have hs2:=dB hp
 have hl:(hex (n/16)).length=1:=by unfold hex;rw[if_pos aa];rfl
 simp only[List.length_cons,List.length_nil]at hs2
 rw[dz aa]
 refine ak ?_
 refine rr ?_
 refine⟨⟨_,rfl,?_⟩,rfl⟩
 rw[gB,ht,hp]
 unfold hex;rw[if_pos aa,if_neg aa];rfl
theorem xu:∀(k n:Nat),n<10^k→0<k→(tZ n).length≤k:=by
 intro k
 induction k with
 |zero=>intro n _ h;omega
 |succ k ih=>
  intro n h _
  rcases Nat.lt_or_ge n 10 with g|g
  ·rw[rT g];simp
  ·rw[yV g,List.length_append]
   rcases Nat.eq_zero_or_pos k with rfl|hk
   ·simp at h;omega
   ·have:=ih (n/10) (by rw[Nat.pow_succ]at h;exact Nat.div_lt_of_lt_mul (by rw[Nat.mul_comm];exact h)) hk
    simp;omega
theorem Y0:∀(k n:Nat),n<10^k→k≤18→aj Pg X 44 [vn n] H (Q0 (zV (tZ n)) H):=by
 intro k
 induction k with
 |zero=>
  intro n h _
  obtain rfl:n=0:=by simpa using h
  refine ce [0,2,3] ?_;refine tl ?_
  refine PU.of (dW 10 rfl (by decide) aa) ?_
  refine PU.of (dW 10 rfl (by decide) aa) ?_
  refine PU.of (i_ 1 rfl aa) ?_
  rw[iM aa (by decide)]
  refine ak ?_
  refine ai (fun e=>?_) (fun e=>absurd aa e)
  refine rr ?_
  refine⟨⟨_,rfl,?_⟩,rfl⟩
  rw[rT aa];decide
 |succ k ih=>
  intro n h hk
  have hn:n<1000000000000000000:=Nat.lt_of_lt_of_le h (Nat.pow_le_pow_right (by decide) hk)
  refine ce [0,2,3] ?_;refine tl ?_
  refine PU.of (dW 10 rfl (by decide) aa) ?_
  refine PU.of (dW 10 rfl (by decide) aa) ?_
  refine PU.of (i_ 1 rfl aa) ?_
  rw[iM aa (by show n %10 +1≤10;omega)]
  refine ak ?_
  have hp:tx (Go.Ae.part ⟨#[48,49,50,51,52,53,54,55,56,57]⟩ (n %10) (n %10 +1))=[48 +n %10]:=by rw[Ch,WU _ aa]
  refine ai (fun e=>?_) (fun e=>?_)
  ·refine rr ?_
   refine⟨⟨_,rfl,?_⟩,rfl⟩
   rw[hp,rT aa,Nat.mod_eq_of_lt aa]
  ·refine PU.of (Eo 10 rfl (by decide) aa) ?_
   have h10:n/10<10^k:=by rw[Nat.pow_succ]at h;exact Nat.div_lt_of_lt_mul (by rw[Nat.mul_comm];exact h)
   refine aj.mono (ih (n/10) h10 aa) ?_
   rintro v H' ⟨⟨t,rfl,ht⟩,rfl⟩
   have hs1:=dB ht
   have hs2:=dB hp
   have hl:=xu 18 (n/10) (by have:(10:Nat)^18=1000000000000000000:=by decide
                             omega) (by decide)
   simp only[List.length_cons,List.length_nil]at hs2
   rw[dz aa]
   refine ak ?_
   refine rr ?_
   refine⟨⟨_,rfl,?_⟩,rfl⟩
   rw[gB,ht,hp,yV (n:=n) aa]
theorem A8{l:List Nat}{r n:Nat}(h:dec l=some (r,n)):Ep l=.tuple ⟨[vn r,vn n]⟩:=by unfold Ep;rw[h]
theorem J'{l:List Nat}(h:dec l=none):Ep l=.tuple ⟨[vi (-1),vn 1]⟩:=by unfold Ep;rw[h]
theorem Ci(hw:Wf H)(s:ByteArray)(hs:s.size≤1000000000):aj Pg X 19 [.string s] H (Q1 (fun v _=>∃b:Bool,v=.bool b∧(b=true↔Rt (tx s))) H):=by
 refine ce [0,2,3,4,5] ?_;refine tl ?_
 refine XV 2 3 4 5 (I:=fun n x2 x3 x4 x5 H'=>SH [] H H' []∧∃k:Nat,x3=vn k∧n +k=s.size∧(Rt (tx s)↔Rt ((tx s).drop k))) ?_ s.size ⟨SH.refl hw,0,rfl,rfl,Iff.rfl⟩
 rintro n x2 x3 x4 x5 rg H1 ⟨hS,k,rfl,hk,hR⟩
 refine tl ?_
 refine ak ?_
 refine ai (fun h4=>?_) (fun h4=>?_)
 rotate_left
 ·refine tl ?_
  refine rr ?_
  refine⟨⟨true,rfl,fun _=>hR.2 ?_,fun _=>rfl⟩,hS.ext⟩
  rw[List.drop_of_length_le (by rw[aW];omega)];exact Rt.nil
 have hlen:((tx s).drop k).length=s.size -k:=by rw[List.length_drop,aW]
 refine aj.mono (NV hS.wf s k aa hs) ?_
 rintro v H2 ⟨rfl,hx⟩
 have hS:=hS.call hx
 cases hd:dec ((tx s).drop k)with
 |none=>
  rw[J' hd]
  refine ak ?_
  refine ai (fun h=>?_) (fun h=>absurd (by decide) h)
  refine rr ?_
  refine⟨⟨false,rfl,fun h=>(by cases h),fun h=>?_⟩,hS.ext⟩
  exact absurd (hR.1 h) (Rt.no hd fun e=>by rw[e]at hlen;simp at hlen;omega)
 |some p=>
  obtain⟨r,m⟩:=p
  have hdp:=Ed hd
  rw[A8 hd]
  refine ak ?_
  refine ai (fun h=>absurd h aa) (fun h=>?_)
  refine PU.of (i_ m rfl aa) ?_
  refine⟨n -m,aa,_,_,_,_,_,_,rfl,hS,k +m,rfl,aa,hR.trans ((Rt.cons hd).trans ?_)⟩
  rw[List.drop_drop]
theorem WV{r:Nat}(h:tY r):enc r=[39]↔r=39:=by
 constructor
 ·intro e
  have:=l9 h []
  rw[e]at this
  simp only[List.append_nil,List.length_cons,List.length_nil]at this
  have h2:dec [39]=some (39,1):=by decide
  rw[h2]at this
  simp at this;omega
 ·rintro rfl;decide
theorem T9(r:Nat):enc r≠[]:=fun e=>by have:=(oh r).1;rw[e]at this;simp at this
theorem NW(hw:Wf H)(r:Nat)(hr:tY r):aj Pg X 50 [vn r,.string ⟨#[39]⟩] H (Q1 (fun v _=>zV (xm r) v) H):=by
 have hr2:r<1114112:=by unfold tY at hr;omega
 have hS:=SH.refl hw
 refine ce [0,1,4,5,6,7] ?_;refine tl ?_
 refine ak ?_
 refine ai (fun h1=>?_) (fun h1=>?_)
 ·refine rr ?_;refine⟨⟨_,rfl,?_⟩,hS.ext⟩
  unfold xm;rw[if_pos aa];rfl
 refine ai (fun h2=>?_) (fun h2=>?_)
 ·refine rr ?_;refine⟨⟨_,rfl,?_⟩,hS.ext⟩
  unfold xm;rw[if_neg aa,if_pos aa];rfl
 refine ai (fun h3=>?_) (fun h3=>?_)
 ·refine rr ?_;refine⟨⟨_,rfl,?_⟩,hS.ext⟩
  unfold xm;rw[if_neg aa,if_neg aa,if_pos aa];rfl
 refine aj.mono (Sk hw r aa) ?_
 rintro v H1 ⟨⟨b,rfl,hb⟩,hx⟩
 have hS:=hS.call hx
 have hb:tx b=enc r:=by rw[hb];unfold encR;rw[if_pos hr]
 have hbs:=dB hb
 have hel:=oh r
 refine lp2 4 6 (I:=fun n x4 x6 H'=>H'=H1∧(n=1∧x6=vn 0∨n=0∧x6=vn 1∧r≠39)) ?_ 1 ⟨rfl,.inl ⟨rfl,rfl⟩⟩
 rintro n x4 x6 rg H2 ⟨rfl,hn⟩
 refine tl ?_
 refine ak ?_
 rcases hn with⟨rfl,rfl⟩|⟨rfl,rfl,hne⟩
 ·refine ak ?_
  refine ai (fun h=>?_) (fun h=>absurd (by decide) h)
  refine PU.of (i_ 1 rfl aa) ?_
  rw[iM aa (by decide)]
  refine ak ?_
  have hq:(b=Go.Ae.part ⟨#[39]⟩ 0 (0 +1))↔r=39:=by
   rw[←WV hr,←hb]
   constructor
   ·intro e;rw[e];decide
   ·intro e;exact y_ (by rw[e];decide)
  refine ai (fun h=>?_) (fun h=>?_)
  ·rw[dz (by show 1 +b.size≤_;omega)]
   refine ak ?_
   refine rr ?_;refine⟨⟨_,rfl,?_⟩,hS.ext⟩
   have ZN:=hq.1 h
   rw[gB,hb]
   unfold xm;rw[if_neg aa,if_neg aa,if_neg aa,if_pos ZN]
   subst ZN;decide
  ·refine PU.of (i_ 1 rfl aa) ?_
   refine ak ?_
   exact⟨0,aa,_,_,_,_,rfl,rfl,.inr ⟨rfl,rfl,fun e=>h (hq.2 e)⟩⟩
 refine ak ?_
 refine ai (fun h=>absurd h (by decide)) (fun h=>?_)
 refine tl ?_
 refine ak ?_
 refine ai (fun h5=>?_) (fun h5=>?_)
 ·refine rr ?_;refine⟨⟨_,rfl,?_⟩,hS.ext⟩
  unfold xm;rw[if_neg aa,if_neg aa,if_neg aa,if_neg hne,if_pos aa];rfl
 refine ai (fun h6=>?_) (fun h6=>?_)
 ·exact absurd (show enc r=[] by rw[←hb,h6];rfl) (T9 r)
 have last:∀rg(c:Bool),Az rg 42=.bool c→(c=true↔r<32∨r=127)→bC Pg X (sub jw [1,1,1,1,1,0,1]) (F Pg 50 (.c 0 (vn r)<|.c 1 (.string ⟨#[39]⟩)<|.c 4 x4<|.c 5 (.string b)<|.c 6 (vn 1)<|.c 7 (vn r)<|.n) rg H2)
  (pG Pg X (sub jw [1,1,1,1,1,1]) (fD Pg [.tmp 4] (Q1 (fun v _=>zV (xm r) v) H))):=by
  intro rg c hc hci
  refine tl ?_
  rw[hc]
  refine ak ?_
  refine aU (fun h=>?_) (fun h=>?_)
  ·have hlow:=hci.1 h
   rw[show max (r:Int) 0=(r:Int)from Int.max_eq_left aa]
   refine aj.mono (YZ r aa) ?_
   rintro v H' ⟨⟨t,rfl,ht⟩,rfl⟩
   have hs1:=dB ht
   have hl:(hex r).length≤2:=by unfold hex;split<;>simp
   rw[dz (by show 3 +t.size≤_;omega)]
   refine ak ?_
   rw[dz (by rw[dB (gB _ _),ht];show _ +1≤_;rw[List.length_append];show 3 +_ +1≤_;omega)]
   refine ak ?_
   refine rr ?_;refine⟨⟨_,rfl,?_⟩,hS.ext⟩
   rw[gB,gB,ht]
   unfold xm;rw[if_neg aa,if_neg aa,if_neg aa,if_neg hne,if_neg aa,if_pos hlow];rfl
  ·have hhi:¬(r<32∨r=127):=fun g=>by rw[hci.2 g]at h;cases h
   refine tl ?_
   refine rr ?_;refine⟨⟨_,rfl,?_⟩,hS.ext⟩
   rw[hb]
   unfold xm;rw[if_neg aa,if_neg aa,if_neg aa,if_neg hne,if_neg aa,if_neg hhi]
 refine ai (fun h7=>?_) (fun h7=>?_)
 ·exact last _ true (by refine ak ?_;trivial) ⟨fun _=>.inl aa,fun _=>rfl⟩
 ·exact last _ (decide ((r:Int)=127)) (by refine ak ?_;trivial) (by rw[decide_eq_true_iff];omega)
theorem Cj(r:Nat):(xm r).length≤6:=by
 unfold xm
 have:=oh r
 repeat' split
 all_goals first|(simp;done)|(simp[hex];done)|omega|skip
 unfold hex;split<;>simp
theorem uq:∀(rs:List Nat),(rs.flatMap xm).length≤6*rs.length:=by
 intro rs
 induction rs with
 |nil=>simp
 |cons r rs ih=>rw[List.flatMap_cons,List.length_append,List.length_cons];have:=Cj r;omega
theorem pU:∀(rs:List Nat),rs.length≤(rs.flatMap enc).length:=by
 intro rs
 induction rs with
 |nil=>simp
 |cons r rs ih=>rw[List.flatMap_cons,List.length_append,List.length_cons];have:=oh r;omega
theorem ID(hw:Wf H)(s:ByteArray)(hs:s.size≤1000000000){rs:List Nat}(ht:wR (tx s) rs):aj Pg X 20 [.string s] H (Q1 (fun v _=>zV (quot rs) v) H):=by
 have hsz:(rs.flatMap enc).length=s.size:=by rw[←ht.1,aW]
 have hrl:=pU rs
 refine ce [0,2,3,4,5,6] ?_;refine tl ?_
 refine XV 3 4 5 6 (I:=fun n x3 x4 x5 x6 H'=>SH [] H H' []∧∃(k:Nat)(q:ByteArray)(r1 r2:List Nat),x3=.string q∧x4=vn k∧rs=r1++r2∧r2.length=n∧k=(r1.flatMap enc).length∧tx q=39::r1.flatMap xm) ?_ rs.length ⟨SH.refl hw,0,_,[],rs,rfl,rfl,rfl,rfl,rfl,by decide⟩
 rintro n x3 x4 x5 x6 rg H1 ⟨hS,k,q,r1,r2,rfl,rfl,rfl,hn,hk,hq⟩
 have Y2:=dB hq
 have Y3:=uq r1
 rw[List.length_cons]at Y2
 rw[List.length_append]at hrl
 have hdr:(tx s).drop k=r2.flatMap enc:=by rw[ht.1,List.flatMap_append,hk,List.drop_left]
 have hsz2:k +(r2.flatMap enc).length=s.size:=by rw[←hsz,List.flatMap_append,List.length_append,hk]
 refine tl ?_
 refine ak ?_
 refine ai (fun h4=>?_) (fun h4=>?_)
 rotate_left
 ·refine tl ?_
  rw[dz (by show _ +1≤_;omega)]
  refine ak ?_
  refine rr ?_
  refine⟨⟨_,rfl,?_⟩,hS.ext⟩
  have h0:r2=[]:=by
   have:=pU r2
   exact List.length_eq_zero_iff.1 aa
  subst h0
  rw[gB,hq,List.append_nil];rfl
 refine aj.mono (NV hS.wf s k aa hs) ?_
 rintro v H2 ⟨rfl,hx⟩
 have hS:=hS.call hx
 cases r2 with
 |nil=>simp at hsz2;omega
 |cons r r2=>
  have hok:=ht.2 r (by simp)
  have hd:dec ((tx s).drop k)=some (r,(enc r).length):=by rw[hdr,List.flatMap_cons];exact l9 hok _
  rw[A8 hd]
  refine ak ?_
  refine aj.mono (NW hS.wf r hok) ?_
  rintro v H3 ⟨⟨t,rfl,T_⟩,hx⟩
  have hS:=hS.call hx
  have hts:=dB T_
  have hsl:=Cj r
  rw[dz aa]
  refine ak ?_
  rw[List.flatMap_cons,List.length_append]at hsz2
  refine PU.of (i_ _ rfl aa) ?_
  rw[List.length_cons]at hn
  refine⟨n -1,aa,_,_,_,_,_,_,rfl,hS,_,_,r1++[r],r2,rfl,rfl,by simp,aa,?_,?_⟩
  ·rw[List.flatMap_append,List.length_append,hk];simp
  ·rw[gB,hq,T_,List.flatMap_append];simp
end
section
variable{H0 H:ag}{L:List bF}
theorem Er{a:Option Addr}{n c i:Nat}{l:List Int}(hf:Fl H a n 1 (l.map vi))(hi:i<n){K:Value→ag→Prop}(k:K (vi (l.getD i 0)) H):PU (DF 1 (.slice a n c) (vn i)) fun p=>ME (mU none p H) K:=by
 obtain⟨r,o,e,hr,hc,_⟩:=hf.idx (c:=c) (by decide) hi
 have hl:i<l.length:=by have:=hf.1;simp at this;omega
 rw[e]
 show ME (mU none (.pointer (some ⟨r,o,none⟩)) H) K
 refine ME.ld (v:=vi (l.getD i 0)) (hc 0 _ (by decide) ?_) k
 rw[Nat.mul_one,Nat.add_zero,List.getElem?_map,List.getD_eq_getElem?_getD,List.getElem?_eq_getElem hl];rfl
theorem Fl.len{a:Option Addr}{n:Nat}{l:List Int}(hf:Fl H a n 1 (l.map vi)):l.length=n:=by have:=hf.1;simp at this;omega
theorem uu{l:List Int}{i:Nat}(h:i<l.length):l.getD i 0∈l:=by rw[List.getD_eq_getElem?_getD,List.getElem?_eq_getElem h];exact List.getElem_mem h
def want:List Int:=[0,0,2,-1,-1,1,1,0,2,0,1]
theorem Qm:∀k,k<11→want[k]?=some (want.getD k 0)∧(0≤want.getD k 0→(rU k:Int)=want.getD k 0∧(nG k:Int)=want.getD k 0∧want.getD k 0≤2)∧(want.getD k 0<0→rU k=0∧nG k=60):=by decide
theorem Qn:bS 3 [vi 0] 1 11 [(0,vi 0),(1,vi 0),(2,vi 2),(3,vi (-1)),(4,vi (-1)),(5,vi 1),(6,vi 1),(7,vi 0),(8,vi 2),(9,vi 0),(10,vi 1)] H=some (.slice (some ⟨H.next,0,none⟩) 11 11,H.new (rowOf 3 (want.map vi))):=rfl
theorem J_(hw:Wf H)(k:Int){a:Option Addr}{n c:Nat}{l:List Int}(hf:Fl H a n 1 (l.map vi))(hn:n≤1000000)(s:ByteArray)(hs:s.size≤1000000):
 aj Pg X 6 [vi k,.slice a n c,.string s] H (Q1 (fun v _=>∃b:Bool,v=.bool b∧(b=true↔ok k l (tx s))) H):=by
 have hS:=SH.refl hw
 have hll:=Fl.len hf
 have no:∀{P:Prop},¬P→∃b:Bool,Value.bool false=.bool b∧(b=true↔P):=fun h=>⟨false,rfl,fun g=>(by cases g),fun g=>absurd g h⟩
 refine ce [0,1,2,6,7,8] ?_;refine tl ?_
 refine ak ?_
 refine ai (fun h1=>?_) (fun h1=>?_)
 ·refine rr ?_;exact⟨no fun g=>by have:=g.1;omega,hS.ext⟩
 refine ai (fun h2=>?_) (fun h2=>?_)
 ·refine rr ?_;exact⟨no fun g=>by have:=g.2.1;omega,hS.ext⟩
 obtain⟨kn,rfl⟩:∃kn:Nat,k=kn:=⟨k.toNat,aa⟩
 obtain⟨g1,g2,g3⟩:=Qm kn aa
 refine tl ?_
 refine ME.of Qn ?_
 have hS:=hS.grow 3 (want.map vi)
 rw[nW (k:=kn) aa]
 refine ak ?_
 refine hS.ld 0 rfl (v:=vi (want.getD kn 0)) (by rw[Nat.mul_one,List.getElem?_map,g1];rfl) ?_
 generalize want.getD kn 0=w at g2 g3⊢
 have hbad:¬ok (kn:Int) l (tx s)→∀{x7:Value}{H1:ag}{rg:Rs},Ext H H1→∀x8,fD Pg [.tmp 6] (Q1 (fun v _=>∃b:Bool,v=.bool b∧(b=true↔ok (kn:Int) l (tx s))) H) (.ret (F Pg 6 (.c 0 (vn kn)<|.c 1 (.slice a n c)<|.c 2 (.string s)<|.c 6 (.bool false)<|.c 7 x7<|.c 8 x8<|.n) rg H1)):=by
  intro h x7 H1 rg hx x8
  refine rr ?_;exact⟨no h,hx⟩
 have fin:∀{H1:ag}{L1:List bF}(rg:Rs)(x7 x8:Value),SH [] H H1 L1→rU kn≤n→n≤nG kn→((kn:Int)≤2∨tx s=[])→Rt (tx s)→bC Pg X (sub nZ [1,1,1,1]) (F Pg 6 (.c 0 (vn kn)<|.c 1 (.slice a n c)<|.c 2 (.string s)<|.c 6 (.bool false)<|.c 7 x7<|.c 8 x8<|.n) rg H1)
  (fD Pg [.tmp 6] (Q1 (fun v _=>∃b:Bool,v=.bool b∧(b=true↔ok (kn:Int) l (tx s))) H)):=by
  intro H1 L1 rg x7 x8 hS hc1 hc2 htx hR
  obtain⟨rs,hrs⟩:=hR
  refine tl ?_
  refine lp2 6 8 (I:=fun m x6 x8 H'=>H'=H1∧x6=.bool false∧∃i:Nat,x8=vn i∧m +i=n∧∀x∈l.take i,0≤x∧x<2147483648) ?_ n ⟨rfl,rfl,0,rfl,rfl,fun x h=>by simp at h⟩
  rintro m x6 x8 rg H2 ⟨rfl,rfl,i,rfl,him,hall⟩
  refine tl ?_
  refine ak ?_
  refine ai (fun h3=>?_) (fun h3=>?_)
  ·have hil:i<l.length:=by omega
   have hmem:=uu hil
   refine Er (hf.ex hS.ext) aa ?_
   refine ak ?_
   refine ai (fun h4=>?_) (fun h4=>?_)
   ·exact hbad (fun g=>by have:=(g.2.2.2.2.1 _ hmem).1;omega) hS.ext _
   refine Er (hf.ex hS.ext) aa ?_
   refine ak ?_
   refine ai (fun h5=>?_) (fun h5=>?_)
   ·exact hbad (fun g=>by have:=(g.2.2.2.2.1 _ hmem).2;omega) hS.ext _
   refine PU.of (i_ 1 rfl aa) ?_
   refine⟨m -1,aa,_,_,_,_,rfl,rfl,rfl,i +1,rfl,aa,fun x hx=>?_⟩
   rw[List.take_add_one,List.mem_append]at hx
   rcases hx with hx|hx
   ·exact hall x hx
   ·rw[List.getElem?_eq_getElem hil]at hx
    simp at hx
    subst hx
    rw[List.getD_eq_getElem?_getD,List.getElem?_eq_getElem hil]at h4 h5
    simp at h4 h5
    exact⟨h4,h5⟩
  ·rw[List.take_of_length_le aa]at hall
   refine tl ?_
   refine ak ?_
   have ZO:(quot rs).length≤20000→ok (kn:Int) l (tx s):=fun hq=>⟨aa,aa,by rw[hll];exact hc1,by rw[hll];exact hc2,hall,fun h=>htx.resolve_left aa,rs,hrs,hq⟩
   refine ai (fun h5=>?_) (fun h5=>?_)
   ·refine rr ?_
    refine⟨⟨true,rfl,fun _=>ZO ?_,fun _=>rfl⟩,hS.ext⟩
    have:rs=[]:=wR.uniq hrs (by rw[h5];exact⟨rfl,fun _ h=>nomatch h⟩)
    subst this;decide
   ·refine aj.mono (ID hS.wf s aa hrs) ?_
    rintro v H3 ⟨⟨t,rfl,ht⟩,hx⟩
    have hS:=hS.call hx
    have hts:=dB ht
    refine ak ?_
    refine rr ?_
    refine⟨⟨_,rfl,?_⟩,hS.ext⟩
    rw[decide_eq_true_iff]
    constructor
    ·intro h;exact ZO aa
    ·rintro⟨_,_,_,_,_,_,rs',h6,h7⟩
     have:=wR.uniq hrs h6
     subst this;omega
 refine ak ?_
 refine ai (fun h3=>?_) (fun h3=>?_)
 ·refine bz (fun h4=>?_) (fun h4=>?_)
  ·exact hbad (fun g=>by have:=g.2.2.1;have:=g.2.2.2.1;have:=g2 h3;simp at*;omega) hS.ext _
  refine ai (fun h5=>?_) (fun h5=>?_)
  ·have:=g2 h3;omega
  have hc:rU kn≤n∧n≤nG kn:=by have:=g2 h3;omega
  refine ai (fun h6=>?_) (fun h6=>?_)
  ·refine bz (fun h7=>?_) (fun h7=>?_)
   ·exact hbad (fun g=>h7 (oo.1 (g.2.2.2.2.2.1 aa))) hS.ext _
   refine aj.mono (Ci hS.wf s aa) ?_
   rintro v H3 ⟨⟨b,rfl,hb⟩,hx⟩
   have hS:=hS.call hx
   refine ak ?_
   refine aU (fun h8=>?_) (fun h8=>?_)
   ·exact hbad (fun g=>by obtain⟨rs,g6,_⟩:=g.2.2.2.2.2.2;have:=hb.2 ⟨rs,g6⟩;subst this;cases h8) hS.ext _
   ·exact fin _ _ _ hS hc.1 hc.2 (.inr (oo.2 h7)) (hb.1 (by simpa using h8))
  ·refine aj.mono (Ci hS.wf s aa) ?_
   rintro v H3 ⟨⟨b,rfl,hb⟩,hx⟩
   have hS:=hS.call hx
   refine ak ?_
   refine aU (fun h8=>?_) (fun h8=>?_)
   ·exact hbad (fun g=>by obtain⟨rs,g6,_⟩:=g.2.2.2.2.2.2;have:=hb.2 ⟨rs,g6⟩;subst this;cases h8) hS.ext _
   ·exact fin _ _ _ hS hc.1 hc.2 (.inl aa) (hb.1 (by simpa using h8))
 ·have g4:=g3 aa
  refine ai (fun h5=>?_) (fun h5=>?_)
  ·exact hbad (fun g=>by have:=g.2.2.2.1;simp at*;omega) hS.ext _
  have hc:rU kn≤n∧n≤nG kn:=by omega
  refine ai (fun h6=>?_) (fun h6=>?_)
  ·refine bz (fun h7=>?_) (fun h7=>?_)
   ·exact hbad (fun g=>h7 (oo.1 (g.2.2.2.2.2.1 aa))) hS.ext _
   refine aj.mono (Ci hS.wf s aa) ?_
   rintro v H3 ⟨⟨b,rfl,hb⟩,hx⟩
   have hS:=hS.call hx
   refine ak ?_
   refine aU (fun h8=>?_) (fun h8=>?_)
   ·exact hbad (fun g=>by obtain⟨rs,g6,_⟩:=g.2.2.2.2.2.2;have:=hb.2 ⟨rs,g6⟩;subst this;cases h8) hS.ext _
   ·exact fin _ _ _ hS hc.1 hc.2 (.inr (oo.2 h7)) (hb.1 (by simpa using h8))
  ·refine aj.mono (Ci hS.wf s aa) ?_
   rintro v H3 ⟨⟨b,rfl,hb⟩,hx⟩
   have hS:=hS.call hx
   refine ak ?_
   refine aU (fun h8=>?_) (fun h8=>?_)
   ·exact hbad (fun g=>by obtain⟨rs,g6,_⟩:=g.2.2.2.2.2.2;have:=hb.2 ⟨rs,g6⟩;subst this;cases h8) hS.ext _
   ·exact fin _ _ _ hS hc.1 hc.2 (.inl aa) (hb.1 (by simpa using h8))
theorem Qo(k:Int)(l:List Int)(t rs:List Nat):line k l t rs=verbs.getD k.toNat []++l.flatMap (fun n=>32::tZ n.toNat)++if k≤2 then 32::qV t rs else[]:=by
 unfold line xq
 show verbs.getD k.toNat []++((l.map fun n=>tZ n.toNat)++if k≤2 then[qV t rs]else[]).flatMap (fun x=>32::x)=_
 rw[List.flatMap_append,List.flatMap_map,List.append_assoc]
 congr 2
 split<;>simp
def Es:List ByteArray:=[⟨#[108,111,97,100]⟩,⟨#[115,101,116]⟩,⟨#[101,100,105,116]⟩,⟨#[112,114,101,102,101,114]⟩,⟨#[108,101,115,115]⟩,⟨#[114,111,119,115]⟩,⟨#[99,111,109,112,108,101,116,101]⟩,⟨#[112,97,114,115,101]⟩,⟨#[97,99,99,101,112,116]⟩,⟨#[99,108,101,97,114]⟩,⟨#[114,111,111,109]⟩]
theorem NY:bS 9 [.string ⟨#[]⟩] 1 11 [(0,.string ⟨#[108,111,97,100]⟩),(1,.string ⟨#[115,101,116]⟩),(2,.string ⟨#[101,100,105,116]⟩),(3,.string ⟨#[112,114,101,102,101,114]⟩),(4,.string ⟨#[108,101,115,115]⟩),(5,.string ⟨#[114,111,119,115]⟩),(6,.string ⟨#[99,111,109,112,108,101,116,101]⟩),(7,.string ⟨#[112,97,114,115,101]⟩),(8,.string ⟨#[97,99,99,101,112,116]⟩),(9,.string ⟨#[99,108,101,97,114]⟩),(10,.string ⟨#[114,111,111,109]⟩)] H=some (.slice (some ⟨H.next,0,none⟩) 11 11,H.new (rowOf 9 (Es.map .string))):=rfl
theorem IE:∀k,k<11→∃t,Es[k]?=some t∧tx t=verbs.getD k []∧t.size≤8:=by
 intro k hk
 rcases(by omega:k=0∨k=1∨k=2∨k=3∨k=4∨k=5∨k=6∨k=7∨k=8∨k=9∨k=10)with rfl|rfl|rfl|rfl|rfl|rfl|rfl|rfl|rfl|rfl|rfl
 all_goals exact⟨_,rfl,by decide,by decide⟩
theorem Et:∀{l:List Int},(∀x∈l,0≤x∧x<2147483648)→(l.flatMap fun n=>32::tZ n.toNat).length≤11*l.length:=by
 intro l
 induction l with
 |nil=>intro _;simp
 |cons x l ih=>
  intro h
  have h1:=h x (List.mem_cons_self ..)
  have h2:=xu 10 x.toNat aa (by decide)
  have h3:=ih fun y hy=>h y (List.mem_cons_of_mem _ hy)
  rw[List.flatMap_cons,List.length_append,List.length_cons,List.length_cons];omega
theorem vv{l:List Int}{i:Nat}(h:i<l.length):l.take (i +1)=l.take i++[l.getD i 0]:=by
 rw[List.take_add_one,List.getD_eq_getElem?_getD,List.getElem?_eq_getElem h];rfl
theorem NZ(hw:Wf H)(k:Int){a:Option Addr}{n c:Nat}{l:List Int}(hf:Fl H a n 1 (l.map vi))(hn:n≤1000000)(s:ByteArray)(hs:s.size≤1000000)(hk:0≤k∧k≤10)(sM:∀x∈l,0≤x∧x<2147483648){rs:List Nat}(hrs:wR (tx s) rs):
 aj Pg X 12 [vi k,.slice a n c,.string s] H (Q1 (fun v _=>zV (line k l (tx s) rs) v) H):=by
 have hS:=SH.refl hw
 have hll:=Fl.len hf
 obtain⟨kn,rfl⟩:∃kn:Nat,k=kn:=⟨k.toNat,aa⟩
 obtain⟨vt,g1,g2,g3⟩:=IE kn aa
 refine ce [0,1,2,6,7,8] ?_;refine tl ?_
 refine ME.of NY ?_
 have hS:=hS.grow 9 (Es.map .string)
 rw[nW (k:=kn) aa]
 refine ak ?_
 refine hS.ld 0 rfl (v:=.string vt) (by rw[Nat.mul_one,List.getElem?_map,g1];rfl) ?_
 refine lp2 7 8 (I:=fun m x7 x8 H'=>(∃L,SH [] H H' L)∧∃(i:Nat)(q:ByteArray),x8=vn i∧x7=.string q∧m +i=n∧tx q=verbs.getD kn []++(l.take i).flatMap fun n=>32::tZ n.toNat) ?_ n ⟨⟨_,hS⟩,0,_,rfl,rfl,rfl,by rw[g2];simp⟩
 rintro m x7 x8 rg H1 ⟨⟨L1,hS⟩,i,q,rfl,rfl,him,hq⟩
 have Y2:=dB hq
 have Y3:=Et (l:=l.take i) fun x hx=>sM x (List.mem_of_mem_take hx)
 have hvl:(verbs.getD kn []).length≤8:=by rw[←g2,aW];exact g3
 rw[List.length_append]at Y2
 rw[List.length_take]at Y3
 refine tl ?_
 refine ak ?_
 refine ai (fun h3=>?_) (fun h3=>?_)
 ·have hil:i<l.length:=by omega
  have hx:=sM _ (uu hil)
  rw[dz (by show _ +1≤_;omega)]
  refine ak ?_
  refine Er (hf.ex hS.ext) aa ?_
  rw[show vi (l.getD i 0)=vn (l.getD i 0).toNat from by congr 1;omega]
  refine aj.mono (Y0 10 _ aa (by decide)) ?_
  rintro v H2 ⟨⟨t,rfl,ht⟩,rfl⟩
  have hts:=dB ht
  have hdl:=xu 10 (l.getD i 0).toNat aa (by decide)
  rw[dz (by rw[dB (gB _ _),List.length_append,aW];show _ +1 +_≤_;omega)]
  refine ak ?_
  refine PU.of (i_ 1 rfl aa) ?_
  refine⟨m -1,aa,_,_,_,_,rfl,⟨_,hS⟩,i +1,_,rfl,rfl,aa,?_⟩
  rw[gB,gB,hq,ht,vv hil,List.flatMap_append,show tx ⟨#[32]⟩=[32]from rfl]
  simp
 ·rw[List.take_of_length_le aa]at hq
  have hle:=Qo (kn:Int) l (tx s) rs
  simp only[Int.toNat_natCast]at hle
  refine tl ?_
  refine ak ?_
  refine ai (fun h4=>?_) (fun h4=>?_)
  ·refine rr ?_;refine⟨⟨_,rfl,?_⟩,hS.ext⟩
   rw[hq,hle,if_neg aa,List.append_nil]
  refine ai (fun h5=>?_) (fun h5=>?_)
  ·rw[dz (by show _ +2≤_;omega)]
   refine ak ?_
   refine rr ?_;refine⟨⟨_,rfl,?_⟩,hS.ext⟩
   rw[gB,hq,hle,if_pos aa]
   unfold qV;rw[if_pos (by rw[h5];rfl)];rfl
  ·rw[dz (by show _ +1≤_;omega)]
   refine ak ?_
   refine aj.mono (ID hS.wf s aa hrs) ?_
   rintro v H2 ⟨⟨t,rfl,ht⟩,hx⟩
   have hS:=hS.call hx
   have hts:=dB ht
   have h6:(quot rs).length≤6*rs.length +2:=by
    have:=uq rs
    unfold quot
    rw[List.length_append,List.length_cons,List.length_singleton];omega
   have h7:=pU rs
   have h8:(rs.flatMap enc).length=s.size:=by rw[←hrs.1,aW]
   rw[dz (by rw[dB (gB _ _),List.length_append,aW];show _ +1 +_≤_;omega)]
   refine ak ?_
   refine rr ?_;refine⟨⟨_,rfl,?_⟩,hS.ext⟩
   rw[gB,gB,hq,ht,hle,if_pos aa]
   unfold qV;rw[if_neg (fun e=>h5 (oo.1 e)),show tx ⟨#[32]⟩=[32]from rfl]
   simp
end
section
variable{H0 H:ag}{L:List bF}
def N5(rb:Nat)(l:List Nat)(A:List bF):Prop:=∃p v gb,(p=none∨p=some ⟨rb,0,none⟩)∧GB 5 1 v (l.map iK) gb∧A=bu rb p v::gb∧(∀x∈l,x<256)
theorem N5.new(rb:Nat):N5 rb [] [bu rb none (.slice none 0 0)]:=⟨none,.slice none 0 0,[],.inl rfl,GB.nil _ _,rfl,fun x h=>nomatch h⟩
theorem IG{l:List Nat}(h:∀x∈l,x<256):∀x∈l.map iK,isByte x:=by
 intro x hx
 obtain⟨n,hn,rfl⟩:=List.mem_map.1 hx
 exact⟨n,by have:=h n hn;omega,rfl⟩
theorem GB.Y5{ty:TypeId}{es k:Nat}{v x:Value}{cs xs:List Value}{gb:List bF}(hg:GB ty es v cs gb)(hS:SH [] H0 H (gb++L))(ha:appended H es x=some (k,xs))(he:0<es)(hx:xs.length=k*es)(hok:all' aN xs=true)(hm:k≤16777216)(hc:cs.length≤16777216):
 ∃v' H1 iF,zB ty es v x H=some (v',H1)∧GB ty es v' (cs++xs) iF∧SH [] H0 H1 (iF++L):=by
 cases k with
 |zero=>
  have:xs=[]:=List.length_eq_zero_iff.1 aa
  subst this
  rcases hg with⟨rfl,rfl,rfl⟩|⟨r,n,dK,rfl,hn,rfl⟩
  ·refine⟨_,H,[],?_,GB.nil _ _,hS⟩
   exact(DV (.inl rfl) ha aa).trans (if_pos rfl)
  ·refine⟨.slice (some ⟨r,0,none⟩) n (bH es),H,[(r,ty,cs++[]++dK)],?_,.inr ⟨r,n,dK,rfl,by simpa using hn,rfl⟩,by simpa using hS⟩
   unfold zB
   show(ah (appended H es x) fun r'=>gd (Nat.ble r'.1 16777216) (CW (ty,es) (.slice (some ⟨r,0,none⟩) n (bH es)) (some ⟨r,0,none⟩,n,bH es) r'.1 r'.2 H))=_
   rw[ha]
   show gd (Nat.ble 0 16777216) (some (Value.slice (some ⟨r,0,none⟩) n (bH es),H))=_
   rw[Nat.ble_eq_true_of_le aa];rfl
 |succ m=>
  rcases hg with⟨rfl,rfl,rfl⟩|⟨r,n,dK,rfl,hn,rfl⟩
  ·exact⟨_,_,[(H.next,ty,xs)],BZ ha hm,.inr ⟨H.next,m +1,[],rfl,hx,by simp⟩,hS.grow ty xs⟩
  ·have hb:=hS.get 0 rfl
   have hr:=(hS.lo _ (List.mem_cons_self ..)).2
   have hnn:n≤16777216:=by
    have:n*1≤n*es:=Nat.mul_le_mul_left n he
    omega
   obtain⟨r',H1,yD,h1,h2,h3,h4,h5,h6⟩:=HV he hb hr hn ha hx hok hm hnn
   refine⟨_,H1,[(r',ty,cs++xs++yD)],h1,.inr ⟨r',n +(m +1),yD,rfl,?_,rfl⟩,?_⟩
   ·rw[List.length_append,hn,hx,←Nat.add_mul]
   ·refine SH.turn (A:=[(r,ty,cs++dK)]) hS h5 (fun e he'=>?_) (List.pairwise_singleton _ _)
    rw[List.mem_singleton]at he'
    subst he'
    refine⟨h2,?_,h4⟩
    rcases h3 with h3|h3
    ·exact .inl (by simp[h3])
    ·exact .inr (by show H.next≤r';omega)
theorem Sq{rb:Nat}{p:Option Addr}{v x:Value}{l l2:List Nat}{gb:List bF}(hg:GB 5 1 v (l.map iK) gb)(hS:SH [] H0 H (bu rb p v::(gb++L)))(ha:appended H 1 x=some (l2.length,l2.map iK))(h2:∀y∈l2,y<256)(hl:l.length≤1000000)(hm:l2.length≤1000000)
 {K:Value→ag→Prop}(k:∀v' H1 iF,GB 5 1 v' ((l++l2).map iK) iF→SH [] H0 H1 (bu rb p v::(iF++L))→K v' H1):ME (zB 5 1 v x H) K:=by
 have hS2:SH [] H0 H (gb++(bu rb p v::L)):=hS.perm List.perm_middle.symm
 obtain⟨v',H1,iF,h1,h3,h4⟩:=GB.Y5 hg hS2 ha (by decide) (by simp) (Cf _ (IG h2)) aa (by simp;omega)
 refine ME.of h1 (k v' H1 iF ?_ (h4.perm List.perm_middle))
 rw[List.map_append];exact h3
theorem zf{rb:Nat}{l:List Nat}{A:List bF}(hb:N5 rb l A)(hS:SH [] H0 H (A++L))(hl:l.length≤1000000){c:Nat}(hc:c<256):
 aj Pg X 53 [.pointer (some ⟨rb,0,none⟩),.int .u8 (c:Int)] H fun w H'=>∃A',N5 rb (l++[c]) A'∧SH [] H0 H' (A'++L):=by
 obtain⟨p,v,gb,hp,hg,rfl,hby⟩:=hb
 refine ce [0,1,4] ?_;refine tl ?_
 refine aj.mono (jm (L:=gb++L) hp hS) ?_
 intro w H1 hS
 refine ak ?_
 refine hS.ld 0 rfl rfl ?_
 refine ME.of NM ?_
 have hS2:=hS.grow 5 [iK c]
 have hap:appended (H1.new (rowOf 5 [iK c])) 1 (.slice (some ⟨H1.next,0,none⟩) 1 1)=some ([c].length,[c].map iK):=pJ (hS2.get 0 rfl) rfl
 refine Sq (l2:=[c]) hg (SH.drop (A:=[_]) hS2) hap (by intro y hy;simp at hy;omega) hl (by simp) fun v' H2 iF hg' hS=>?_
 refine hS.st 0 rfl hg'.aN.2.1 (by show 1 +1≤2;omega) hg'.aN.1 fun H3 hS=>?_
 rw[hg'.aN.2.2]at hS
 refine rr ?_
 refine⟨_,⟨_,v',iF,.inr rfl,hg',rfl,?_⟩,hS⟩
 intro x hx
 rcases List.mem_append.1 hx with h|h
 ·exact hby x h
 ·simp at h;omega
theorem A9(t:ByteArray):dn t.data.toList=(tx t).map iK:=by
 rw[show dn t.data.toList=t.data.toList.map (fun b=>Value.int .u8 (.ofNat b.toNat))from qL _ _]
 unfold tx
 rw[List.map_map];rfl
theorem qE{rb:Nat}{l:List Nat}{A:List bF}(hb:N5 rb l A)(hS:SH [] H0 H (A++L))(hl:l.length≤1000000){t:ByteArray}(ht:t.size≤1000000):
 aj Pg X 47 [.pointer (some ⟨rb,0,none⟩),.string t] H fun w H'=>∃A',N5 rb (l++tx t) A'∧SH [] H0 H' (A'++L):=by
 obtain⟨p,v,gb,hp,hg,rfl,hby⟩:=hb
 refine ce [0,1,4,5] ?_;refine tl ?_
 refine aj.mono (jm (L:=gb++L) hp hS) ?_
 intro w H1 hS
 refine ak ?_
 refine hS.ld 0 rfl rfl ?_
 have hap:appended H1 1 (.string t)=some ((tx t).length,(tx t).map iK):=by
  show(gd (Nat.beq 1 1) (some (len t.data.toList,dn t.data.toList)))=_
  rw[aJ,A9,aW];rfl
 have hlt:∀y∈tx t,y<256:=by
  intro y hy
  unfold tx at hy
  obtain⟨b,_,rfl⟩:=List.mem_map.1 hy
  exact UInt8.toNat_lt _
 refine Sq (l2:=tx t) hg hS hap hlt hl (by rw[aW];exact ht) fun v' H2 iF hg' hS=>?_
 refine hS.st 0 rfl hg'.aN.2.1 (by show 1 +1≤2;omega) hg'.aN.1 fun H3 hS=>?_
 rw[hg'.aN.2.2]at hS
 refine rr ?_
 refine⟨_,⟨_,v',iF,.inr rfl,hg',rfl,?_⟩,hS⟩
 intro x hx
 rcases List.mem_append.1 hx with h|h
 ·exact hby x h
 ·exact hlt x h
theorem II{rb:Nat}{l:List Nat}{A:List bF}(hb:N5 rb l A)(hS:SH [] H0 H (A++L))(hl:l.length≤1000000)(h0:l≠[]):
 aj Pg X 48 [.pointer (some ⟨rb,0,none⟩)] H fun w H'=>zV l w∧SH [] H0 H' L:=by
 obtain⟨p,v,gb,hp,hg,rfl,hby⟩:=hb
 have hb':vo rb (l.map iK) (bu rb p v::gb):=⟨p,v,gb,hp,hg,rfl,IG hby,fun h=>absurd (List.map_eq_nil_iff.1 h) h0⟩
 refine aj.mono (wu hb' hS (by simpa using hl)) ?_
 rintro w H' ⟨⟨s,rfl,hs⟩,hS⟩
 refine⟨⟨s,rfl,?_⟩,hS⟩
 rw[rX l hby]at hs
 have hs:=Option.some.inj hs
 unfold tx
 rw[←hs]
 exact yZ l hby
abbrev zg(n:Nat):bR:=.row ⟨5,.nil,n,false,0⟩
theorem Bk.free(H:ag)(n:Nat):Bk (H.new (zg n)) H.next 5 (List.replicate n top):=
 ⟨⟨5,.nil,n,false,0⟩,by rw[j_,if_pos rfl],rfl,by simp,rfl,rfl,fun i h=>by rw[Tr.get_nil];simp⟩
theorem SH.free(hS:SH [] H0 H L)(n:Nat):SH [] H0 (H.new (zg n)) ((H.next,5,List.replicate n top)::L):=by
 refine SH.turn (A:=[]) (A':=[(H.next,5,List.replicate n top)]) hS (Ext.new _ _) (fun e he=>?_) (List.pairwise_singleton _ _)
 rw[List.mem_singleton]at he
 subst he
 exact⟨Bk.free H n,.inr (Nat.le_refl _),Nat.lt_succ_self _⟩
theorem F3{H:ag}(hw:Wf H)(o:bR):hM H ((hN H).new o)=H.new o:=by
 show ag.mk _ _ (au (Nat.ble H.low H.next) H.low H.next)=_
 rw[Nat.ble_eq_true_of_le hw];rfl
theorem Qp(n:Nat)(hn:n≤1000000):aj Pg X 154 [vn n] H (fun v H'=>v=.slice (some ⟨H.next,0,none⟩) n (bH 1)∧H'=H.new (zg n)):=by
 have e:a_ Pg X 1 154 [vn n] H=some (.slice (some ⟨H.next,0,none⟩) n (bH 1),H.new (zg n)):=by
  have e0:a_ Pg X 1 154 [vn n] H=gd (Nat.ble n 16777216&&true) (some (.slice (some ⟨H.next,0,none⟩) n (bH 1),H.new (zg n))):=by kernel_rfl
  rw[e0,Nat.ble_eq_true_of_le aa];rfl
 exact⟨_,_,⟨1,e⟩,rfl,rfl⟩
theorem Ua{rb:Nat}{p:Option Addr}(hS:SH [] H0 H (bu rb p (.slice none 0 0)::L))(n:Nat)(h0:0<n)(hn:n≤1000000):
 aj Pg X 83 [.pointer (some ⟨rb,0,none⟩),vn n] H fun w H'=>∃v gb,GB 5 1 v [] gb∧SH [] H0 H' (bu rb p v::(gb++L)):=by
 refine ce [0,1,4] ?_;refine tl ?_
 refine ak ?_
 refine hS.uZ 0 rfl rfl ?_
 simp only[cr hS.wf]
 rw[show one (xE Pg) [101] [.slice none 0 0]=some (vn 0)from by kernel_rfl]
 refine ak ?_
 refine PU.of (mulN 2 rfl aa) ?_
 refine PU.of (i_ n rfl aa) ?_
 rw[show vn (2*0 +n)=vn n from by rw[Nat.mul_zero,Nat.zero_add]]
 refine aj.mono (Qp n hn) ?_
 rintro v H1 ⟨rfl,rfl⟩
 have hS1:=SH.free hS n
 simp only[F3 hS.wf]
 refine hS1.uZ 1 rfl rfl ?_
 simp only[cr hS1.wf]
 refine ak ?_
 rw[FM (Nat.zero_le _)]
 refine ak ?_
 refine⟨aK (by simp only[az,av (Ext.new (hN H) (zg n))];rfl),?_⟩
 refine hS1.ld 1 rfl rfl ?_
 refine ME.of (v:=vn 0) (H:=H.new (zg n)) rfl ?_
 refine hS1.st 1 rfl rfl (by show 1 +1≤2;omega) rfl fun H3 hS=>?_
 refine rn ?_
 refine⟨.slice (some ⟨H.next,0,none⟩) 0 (bH 1),[(H.next,5,List.replicate n top)],.inr ⟨H.next,0,List.replicate n top,rfl,rfl,rfl⟩,hS.perm (List.Perm.swap _ _ _)⟩
theorem WW{rb:Nat}(hS:SH [] H0 H (bu rb none (.slice none 0 0)::L))(n:Nat)(h0:0<n)(hn:n≤1000000):
 aj Pg X 46 [.pointer (some ⟨rb,0,none⟩),vn n] H fun w H'=>∃A,N5 rb [] A∧SH [] H0 H' (A++L):=by
 refine ce [0,1] ?_;refine tl ?_
 refine aj.mono (jm (.inl rfl) hS) ?_
 intro w H1 hS
 refine ak ?_
 refine ai (fun h=>absurd h aa) (fun h=>?_)
 refine tl ?_
 refine ak ?_
 refine hS.uZ 0 rfl rfl ?_
 simp only[cr hS.wf]
 rw[show one (xE Pg) [101] [.slice none 0 0]=some (vn 0)from by kernel_rfl]
 refine ak ?_
 refine hS.uZ 0 rfl rfl ?_
 simp only[cr hS.wf]
 refine ak ?_
 rw[iL aa aa]
 refine ak ?_
 refine⟨aK (by simp only[az];rfl),?_⟩
 refine ai (fun h=>?_) (fun h=>absurd aa h)
 refine aj.mono (Ua hS n h0 hn) ?_
 rintro v H2 ⟨v,gb,hg,hS⟩
 refine rn ?_
 exact⟨_,⟨_,v,gb,.inr rfl,hg,rfl,fun x h=>nomatch h⟩,hS⟩
end
section
variable{H0 H:ag}{L:List bF}
structure Tn(H:ag):Prop where
 tz:H.cell 6 15=some (.int .u8 4)
 pw:∀i:Nat,i<20→H.cell 5 i=some (.int .u64 ((10^i:Nat):Int))
 lt:8≤H.next
theorem Tn.ex{H H':ag}(h:Tn H)(hx:Ext H H'):Tn H':=
 ⟨(fq (hx.obj 6 (by have:=h.lt;omega) (by simp)) _).trans h.tz,
  fun i hi=>(fq (hx.obj 5 (by have:=h.lt;omega) (by simp)) _).trans (h.pw i hi),
  Nat.le_trans h.lt hx.next⟩
theorem Y6(hT:Tn H):aj Pg X 280 [.int .u64 16] H (Q0 (fun v=>v=vi 4) H):=by
 refine ce [0,2] ?_;refine tl ?_
 refine ak ?_
 refine ai (fun h=>absurd h (by decide)) (fun h=>?_)
 refine PU.of (v:=.int .u64 18446744073709551600) (by kernel_rfl) ?_
 refine PU.of (v:=.int .u64 16) (by kernel_rfl) ?_
 refine PU.of (v:=.int .u64 4573923408821661840) (by kernel_rfl) ?_
 refine PU.of (v:=.int .u64 15) (by kernel_rfl) ?_
 refine PU.of (v:=.pointer (some ⟨6,15,none⟩)) (by kernel_rfl) ?_
 refine ME.ld hT.tz ?_
 refine PU.of (v:=vi 4) (by kernel_rfl) ?_
 refine rr ?_;exact⟨rfl,rfl⟩
theorem tzE(hT:Tn H):aj Pg X 245 [.int .u64 16] H (Q0 (fun v=>v=vi 4) H):=by
 refine ce [0,2] ?_;refine tl ?_
 refine aj.mono (Y6 hT) ?_
 rintro v H' ⟨rfl,rfl⟩
 refine rr ?_;exact⟨rfl,rfl⟩
theorem WX:aj Pg X 244 [vi 16] H (Q0 (fun v=>v=.bool true) H):=by
 refine ce [0,2] ?_;refine tl ?_
 refine PU.of (v:=vi 15) (by kernel_rfl) ?_
 refine PU.of (v:=vi 0) (by kernel_rfl) ?_
 refine PU.of (v:=.bool true) (by kernel_rfl) ?_
 refine rr ?_;exact⟨rfl,rfl⟩
theorem Ub:∀k,k<16→(tx ⟨#[48,49,50,51,52,53,54,55,56,57,97,98,99,100,101,102,103,104,105,106,107,108,109,110,111,112,113,114,115,116,117,118,119,120,121,122]⟩).getD k 0=wS k:=by decide
theorem wrap_u64{a:Nat}(h:a<18446744073709551616):IntKind.wrap .u64 (a:Int)=(a:Int):=by
 simp[IntKind.wrap,IntKind.bits,IntKind.signed];omega
theorem Qq{a j:Nat}(ha:a<18446744073709551616)(hj:2^j≤18446744073709551616):gq .u64 (a:Int) ((2^j -1:Nat):Int)=((a %2^j:Nat):Int):=by
 have h2:0<2^j:=Nat.two_pow_pos j
 unfold gq
 rw[show(IntKind.u64).bits=64 from rfl,BitVec.toNat_and,gJ aa,gJ aa,Nat.and_two_pow_sub_one_eq_mod]
 exact wrap_u64 (Nat.lt_of_le_of_lt (Nat.mod_le _ _) ha)
theorem Cm{a j:Nat}(hj:j≤64):lI .u64 (a:Int) (j:Int)=((a/2^j:Nat):Int):=by
 unfold lI
 rw[Int.toNat_natCast,show min j (IntKind.u64).bits=j from Nat.min_eq_left hj]
 rw[Int.fdiv_eq_ediv_of_nonneg _ (by exact Int.le_of_lt (by exact_mod_cast Nat.two_pow_pos j))]
 push_cast;rfl
theorem N6{r o n c:Nat}{l:List Nat}(hl:∀x∈l,x<256)(hr:H.read r o n=some (l.map iK)){Kp:Value→Prop}{Km:Value→ag→Prop}
 (k:∀t,tx t=l→Km (.string t) H):CV (oC Pg 101 9 (.slice (some ⟨r,o,none⟩) n c)) (fK Pg 101 9 (.slice (some ⟨r,o,none⟩) n c) H) Kp Km:=by
 have hq:fK Pg 101 9 (.slice (some ⟨r,o,none⟩) n c) H=ah (H.read r o n) fun z=>ah (fA z) fun bs=>some (.string ⟨⟨bs⟩⟩,H):=by kernel_rfl
 refine CV.me (by kernel_rfl) (v:=.string ⟨⟨l.map UInt8.ofNat⟩⟩) (H1:=H) ?_ (k _ (yZ l hl))
 rw[hq,hr]
 show(ah (fA (l.map iK)) fun bs=>some (Value.string ⟨⟨bs⟩⟩,H))=_
 rw[rX l hl];rfl
theorem IJ:∀k,k<16→wS k<256:=by decide
set_option maxHeartbeats 4000000 in
theorem N7(hw:Wf H)(hT:Tn H)(n:Nat)(hn:n<256):aj Pg X 152 [.slice none 0 0,.int .u64 (n:Int),vi 16,.bool false,.bool false] H (Q1 (fun v _=>∃x t,v=.tuple ⟨[x,.string t]⟩∧tx t=hex n) H):=by
 have hS:=SH.refl hw
 refine ce [0,1,2,3,4,10,11,12,13,14,15,16,17,18] ?_;refine tl ?_
 refine ak ?_
 refine ai (fun h=>absurd h (by decide)) (fun h=>?_)
 refine ai (fun h=>absurd h (by decide)) (fun h=>?_)
 refine ai (fun h=>absurd h (by decide)) (fun h=>?_)
 refine tl ?_
 refine hS.fE fun H1 r hS=>?_
 refine tl ?_
 refine aj.mono WX ?_
 rintro v H' ⟨rfl,rfl⟩
 refine ak ?_
 refine aj.mono (tzE (hT.ex hS.ext)) ?_
 rintro v H' ⟨rfl,rfl⟩
 refine ak ?_
 refine PU.of (v:=.int .u64 15) (by kernel_rfl) ?_
 refine lp2 1 13 (I:=fun m x1 mQ H'=>∃cs,cs.length=65∧SH [] H H' [(r,370,cs)]∧(m=1∧x1=.int .u64 (n:Int)∧mQ=vn 65∨m=0∧16≤n∧x1=.int .u64 ((n/16:Nat):Int)∧mQ=vn 64∧cs[64]?=some (iK (wS (n %16))))) ?_ 1 ⟨_,rfl,hS,.inl ⟨rfl,rfl,rfl⟩⟩
 rintro m x1 mQ rg H2 ⟨cs,hcs,hS,hm⟩
 have sl1:∀(x:Nat){k:Nat},k≤64→k*1 +(ax (iK x)).length≤cs.length:=fun x k h=>by show k*1 +1≤_;omega
 refine tl ?_
 have dg:∀{k:Nat},k<16→BV (.string ⟨#[48,49,50,51,52,53,54,55,56,57,97,98,99,100,101,102,103,104,105,106,107,108,109,110,111,112,113,114,115,116,117,118,119,120,121,122]⟩) (.int .u64 (k:Int))=some (iK (wS k)):=by
  intro k hk
  have:=(kr (s:=⟨#[48,49,50,51,52,53,54,55,56,57,97,98,99,100,101,102,103,104,105,106,107,108,109,110,111,112,113,114,115,116,117,118,119,120,121,122]⟩) (z:=(k:Int)) k rfl (by show k<36;omega)).1
  rw[Ub k hk]at this
  exact this
 rcases hm with⟨rfl,rfl,rfl⟩|⟨rfl,h16,rfl,rfl,Y7⟩
 ·refine ak ?_
  refine ai (fun h=>?_) (fun h=>?_)
  ·refine PU.of (v:=vn 64) (by kernel_rfl) ?_
   rw[show gq .u64 (n:Int) 15=((n %16:Nat):Int)from Qq (j:=4) aa (by decide),dg aa]
   refine ak ?_
   rw[kD (k:=64) (by decide)]
   refine ak ?_
   refine hS.st 0 rfl rfl (sl1 0 (by decide)) rfl fun H3 hS=>?_
   rw[show aT .u64 4=4 from by kernel_rfl]
   refine ak ?_
   refine⟨0,aa,_,_,_,_,rfl,_,?_,hS,.inr ⟨rfl,?_,?_,rfl,?_⟩⟩
   ·rw[bn (sl1 _ (by decide))];exact hcs
   ·have:(16:Int)≤(n:Int):=h
    omega
   ·rw[show lI .u64 (n:Int) 4=((n/16:Nat):Int)from Cm (j:=4) (by decide)]
   ·rw[dw (sl1 _ (by decide))];rfl
  ·have hlt:n<16:=by
    have h:¬(16:Int)≤(n:Int):=h
    omega
   refine tl ?_
   refine PU.of (v:=vn 64) (by kernel_rfl) ?_
   rw[dg hlt]
   refine ak ?_
   rw[kD (k:=64) (by decide)]
   refine ak ?_
   refine hS.st 0 rfl rfl (sl1 0 (by decide)) rfl fun H3 hS=>?_
   refine tl ?_
   refine tl ?_
   refine PU.of (v:=.slice (some ⟨r,64,none⟩) 1 1) (by kernel_rfl) ?_
   refine N6 (l:=[wS n]) (by intro x hx;simp at hx;subst hx;exact IJ n hlt) ?_ fun t ht=>?_
   ·rw[(hS.get 0 rfl).read (by rw[bn (sl1 _ (by decide)),hcs];decide)]
    congr 1
    apply List.ext_getElem?
    intro i
    rw[List.getElem?_take,List.getElem?_drop,dw (sl1 _ (by decide))]
    rcases i with _|i
    ·rfl
    ·rw[if_neg aa];rfl
   ·refine rr ?_
    refine⟨⟨_,t,rfl,?_⟩,hS.ext⟩
    rw[ht];unfold hex;rw[if_pos hlt]
 ·refine ak ?_
  refine ai (fun h=>?_) (fun h=>?_)
  ·exfalso
   have h:(16:Int)≤((n/16:Nat):Int):=h
   omega
  refine tl ?_
  refine PU.of (v:=vn 63) (by kernel_rfl) ?_
  rw[dg aa]
  refine ak ?_
  rw[kD (k:=63) (by decide)]
  refine ak ?_
  refine hS.st 0 rfl rfl (sl1 0 (by decide)) rfl fun H3 hS=>?_
  refine tl ?_
  refine tl ?_
  refine PU.of (v:=.slice (some ⟨r,63,none⟩) 2 2) (by kernel_rfl) ?_
  refine N6 (l:=[wS (n/16),wS (n %16)]) (by intro x hx;simp at hx;rcases hx with rfl|rfl<;>exact IJ _ aa) ?_ fun t ht=>?_
  ·rw[(hS.get 0 rfl).read (by rw[bn (sl1 _ (by decide)),hcs];decide)]
   congr 1
   apply List.ext_getElem?
   intro i
   rw[List.getElem?_take,List.getElem?_drop,dw (sl1 _ (by decide))]
   rcases i with _|_|i
   ·rfl
   ·rw[if_pos aa,if_neg (by show¬(63*1≤63 +(0 +1)∧63 +(0 +1)<63*1 +1);omega)];exact Y7
   ·rw[if_neg aa];rfl
  ·refine rr ?_
   refine⟨⟨_,t,rfl,?_⟩,hS.ext⟩
   rw[ht];unfold hex;rw[if_neg aa]
theorem Qr(hw:Wf H)(hT:Tn H)(n:Nat)(hn:n<256):aj Pg X 81 [vn n,vi 16] H (Q1 (fun v _=>zV (hex n) v) H):=by
 refine ce [0,1,4,5,6,7,9] ?_;refine tl ?_
 refine ak ?_
 refine ai (fun h=>absurd h (by decide)) (fun h=>?_)
 rw[decide_eq_false aa,show aT .u64 (n:Int)=(n:Int)from(by
  rw[eG (wrap_u64 aa)])]
 refine aj.mono (N7 hw hT n hn) ?_
 rintro v H' ⟨⟨x,t,rfl,ht⟩,hx⟩
 refine ak ?_
 refine rr ?_;exact⟨⟨t,rfl,ht⟩,hx⟩
theorem Uc(hw:Wf H)(hT:Tn H)(n:Nat)(hn:n<256):aj Pg X 91 [vn n,vi 16] H (Q1 (fun v _=>zV (hex n) v) H):=by
 refine ce [0,1,4] ?_;refine tl ?_
 refine aj.mono (Qr hw hT n hn) ?_
 rintro v H' ⟨h,hx⟩
 refine rr ?_;exact⟨h,hx⟩
end
section
variable{H0 H:ag}{L:List bF}
theorem F4(r:Nat)(h:tY r):aj Pg X 156 [.int .i32 (r:Int)] H (Q0 (fun v=>v=.bool true) H):=by
 unfold tY at h
 refine ce [0,2] ?_;refine tl ?_
 (try simp only[PP,Nat.reduceBEq])
 with_reducible refine ai (fun h0=>?_) (fun h0=>absurd (by omega) h0)
 refine tl ?_
 (try simp only[PP,Nat.reduceBEq])
 with_reducible refine ai (fun h1=>?_) (fun h1=>?_)
 ·refine rr ?_;exact⟨rfl,rfl⟩
 with_reducible refine ai (fun h2=>?_) (fun h2=>absurd (by omega) h2)
 with_reducible refine ai (fun h3=>?_) (fun h3=>absurd (by omega) h3)
 refine rr ?_;exact⟨rfl,rfl⟩
theorem Kb{r:Nat}(h:tY r):tx (Utf8.encode (r:Int))=enc r:=by
 have hv:Utf8.valid (r:Int)=true:=by
  unfold tY at h
  unfold Utf8.valid
  simp;omega
 have hr:r<1114112:=by unfold tY at h;omega
 unfold Utf8.encode
 simp only[hv,if_true,Int.toNat_natCast]
 unfold enc
 by_cases h1:r<128
 ·rw[if_pos h1,if_pos h1]
  exact yZ [r] (by simp;omega)
 rw[if_neg h1,if_neg h1]
 by_cases h2:r<2048
 ·rw[if_pos h2,if_pos h2]
  exact yZ [192 +r/64,128 +r %64] (by simp;omega)
 rw[if_neg h2,if_neg h2]
 by_cases h3:r<65536
 ·rw[if_pos h3,if_pos h3]
  exact yZ [224 +r/4096,128 +r/64 %64,128 +r %64] (by simp;omega)
 rw[if_neg h3,if_neg h3]
 exact yZ [240 +r/262144,128 +r/4096 %64,128 +r/64 %64,128 +r %64] (by simp;omega)
theorem Qs(r:Nat)(h:tY r):aj Pg X 89 [.int .i32 (r:Int)] H (Q0 (fun v=>∃t,v=.tuple ⟨[.string t,.bool true]⟩∧tx t=enc r) H):=by
 refine ce [0,2,3] ?_;refine tl ?_
 refine aj.mono (F4 r h) ?_
 rintro v H' ⟨rfl,rfl⟩
 refine ak ?_
 refine aU (fun hb=>by cases hb) (fun hb=>?_)
 refine rr ?_
 exact⟨⟨_,rfl,Kb h⟩,rfl⟩
def items:Nat→List Nat→List Value
 |_,[]=>[]
 |k,r::rs=>[vn k,vn (enc r).length,.int .i32 (r:Int),.bool true]++items (k +(enc r).length) rs
theorem qF:∀(rs:List Nat)(k:Nat),(items k rs).length=rs.length*4:=by
 intro rs
 induction rs with
 |nil=>intro k;rfl
 |cons r rs ih=>intro k;show([_,_,_,_]++items _ rs).length=_;rw[List.length_append,ih,List.length_cons];simp;omega
theorem A_:∀(a b:List Nat)(k:Nat),items k (a++b)=items k a++items (k +(a.flatMap enc).length) b:=by
 intro a
 induction a with
 |nil=>intro b k;rfl
 |cons r a ih=>
  intro b k
  show[_,_,_,_]++items _ (a++b)=([_,_,_,_]++items _ a)++_
  rw[ih,List.append_assoc,List.flatMap_cons,List.length_append,Nat.add_assoc]
theorem zh{l:List Nat}{k r n:Nat}(h:dec l=some (r,n)):um l k=.agg ⟨[vn k,vn n,.int .i32 (r:Int),.bool true]⟩:=by unfold um;rw[h]
structure Mid(s:ByteArray)(rs r1 r2:List Nat)(k:Nat):Prop where
 eq:rs=r1++r2
 at':k=(r1.flatMap enc).length
 rest:(tx s).drop k=r2.flatMap enc
 size:k +(r2.flatMap enc).length=s.size
theorem Mid.new{s:ByteArray}{rs:List Nat}(h:wR (tx s) rs):Mid s rs [] rs 0:=⟨rfl,rfl,h.1,by rw[←h.1,aW,Nat.zero_add]⟩
theorem Mid.lt{s:ByteArray}{rs r1 r2:List Nat}{k:Nat}(h:Mid s rs r1 r2 k)(ht:wR (tx s) rs)(hk:k<s.size):∃r r2',r2=r::r2'∧tY r∧dec ((tx s).drop k)=some (r,(enc r).length)∧Mid s rs (r1++[r]) r2' (k +(enc r).length):=by
 cases r2 with
 |nil=>have:=h.size;simp at this;omega
 |cons r r2'=>
  have ho:=ht.2 r (by rw[h.eq];simp)
  refine⟨r,r2',rfl,ho,by rw[h.rest,List.flatMap_cons];exact l9 ho _,by rw[h.eq];simp,by rw[List.flatMap_append,List.length_append,←h.at'];simp,?_,?_⟩
  ·rw[←List.drop_drop,h.rest,List.flatMap_cons,List.drop_left]
  ·have:=h.size
   rw[List.flatMap_cons,List.length_append]at this;omega
theorem Mid.end'{s:ByteArray}{rs r1 r2:List Nat}{k:Nat}(h:Mid s rs r1 r2 k)(hk:¬k<s.size):r2=[]∧rs=r1:=by
 have h1:=h.size
 have h2:=pU r2
 have:r2=[]:=List.length_eq_zero_iff.1 aa
 exact⟨this,by rw[h.eq,this,List.append_nil]⟩
theorem Mid.le{s:ByteArray}{rs r1 r2:List Nat}{k:Nat}(h:Mid s rs r1 r2 k):r1.length≤k∧k≤s.size:=⟨by rw[h.at'];exact pU r1,by have:=h.size;omega⟩
theorem Ud(hw:Wf H)(hT:Tb H)(s:ByteArray)(hs:s.size≤1000000){rs:List Nat}(ht:wR (tx s) rs):aj Pg X 87 [.string s] H (Q1 (fun v _=>v=vn rs.length) H):=by
 refine ce [0,2,3,4] ?_;refine tl ?_
 refine lp2 3 4 (I:=fun n x3 x4 H'=>SH [] H H' []∧∃(k:Nat)(r1 r2:List Nat),x4=vn k∧x3=vn r1.length∧r2.length=n∧Mid s rs r1 r2 k) ?_ rs.length ⟨SH.refl hw,0,[],rs,rfl,rfl,rfl,Mid.new ht⟩
 rintro n x3 x4 rg H1 ⟨hS,k,r1,r2,rfl,rfl,hn,hm⟩
 have hle:=hm.le
 refine tl ?_
 refine ak ?_
 refine ai (fun h4=>?_) (fun h4=>?_)
 ·obtain⟨r,r2,rfl,ho,hd,hm⟩:=hm.lt ht aa
  have hle2:=hm.le
  refine aj.mono (ZM hS.wf (hT.ex hS.ext) s k aa) ?_
  rintro v H2 ⟨rfl,hx⟩
  have hS:=hS.call hx
  rw[zh hd]
  refine PU.of (v:=vn (enc r).length) rfl ?_
  refine PU.of (i_ _ rfl aa) ?_
  refine PU.of (i_ 1 rfl aa) ?_
  refine⟨n -1,by simp at hn;omega,_,_,_,_,rfl,hS,_,r1++[r],r2,rfl,by simp,by simp at hn;omega,hm⟩
 ·refine tl ?_
  refine rr ?_
  obtain⟨_,rfl⟩:=hm.end' aa
  exact⟨rfl,hS.ext⟩
theorem SH.add{M:List bF}{H':ag}(hS:SH [] H0 H L)(h:SH [] H H' M):SH [] H0 H' (M++L):=
 SH.turn (A:=[]) (A':=M) hS h.ext (fun e he=>⟨h.bk e he,(h.lo e he).1.imp (fun g=>nomatch g) id,(h.lo e he).2⟩) h.ne
theorem N8(hw:Wf H)(hT:Tb H)(s:ByteArray)(hs:s.size≤1000000){rs:List Nat}(ht:wR (tx s) rs):aj Pg X 54 [.string s] H (fun v H'=>∃gb,GK 113 4 v (items 0 rs) gb∧SH [] H H' gb):=by
 refine ce [0,2,3,4,5] ?_;refine tl ?_
 refine ak ?_
 refine ai (fun h4=>?_) (fun h4=>?_)
 ·have:rs=[]:=wR.uniq ht (by rw[h4];exact⟨rfl,fun _ h=>nomatch h⟩)
  subst this
  refine rr ?_
  exact⟨[],.inl (GB.nil _ _),SH.refl hw⟩
 have hrl:rs.length≤s.size:=by
  have:=pU rs
  rw[←ht.1,aW]at this;exact this
 refine aj.mono (Ud hw hT s hs ht) ?_
 rintro v H1 ⟨rfl,hx⟩
 have hS:=(SH.refl hw).call hx
 refine hS.mkS (n:=0) (m:=rs.length) (Nat.zero_le _) aa fun H2 r hS=>?_
 refine Se 3 4 5 (I:=fun n x3 x4 x5 H'=>∃(k:Nat)(r1 r2:List Nat)(gb L:List bF),x4=vn k∧GK 113 4 x3 (items 0 r1) gb∧SH [] H H' (gb++L)∧r2.length=n∧Mid s rs r1 r2 k) ?_ rs.length
  ⟨0,[],rs,[(r,113,jf [.int .i64 0,.int .i64 0,.int .i32 0,.bool false] rs.length)],[],rfl,.inr ⟨r,0,rs.length,_,rfl,aa,rfl,by show(jf _ _).length=_;rw[AB];rfl,rfl⟩,hS,rfl,Mid.new ht⟩
 rintro n x3 x4 x5 rg H3 ⟨k,r1,r2,gb,L,rfl,hg,hS,hn,hm⟩
 have hle:=hm.le
 refine tl ?_
 refine ak ?_
 refine ai (fun h4=>?_) (fun h4=>?_)
 ·obtain⟨r,r2,rfl,ho,hd,hm2⟩:=hm.lt ht aa
  have hle2:=hm2.le
  refine aj.mono (ZM hS.wf (hT.ex hS.ext) s k aa) ?_
  rintro v H2 ⟨rfl,hx⟩
  have hS:=hS.call hx
  rw[zh hd]
  refine hS.fE fun H4 ri hS=>?_
  refine hS.st 0 rfl rfl (by decide) rfl fun H5 hS=>?_
  refine hS.BX 0 rfl (by show 0 +4≤4;omega) ?_
  refine hS.bS rfl rfl rfl (by decide) fun H6 rx hS=>?_
  have hS:SH [] H H6 ((rx,113,[vn k,vn (enc r).length,.int .i32 (r:Int),.bool true])::(ri,113,[vn k,vn (enc r).length,.int .i32 (r:Int),.bool true])::(gb++L)):=hS
  have hS:SH [] H H6 ((rx,113,[vn k,vn (enc r).length,.int .i32 (r:Int),.bool true])::(gb++((ri,113,[vn k,vn (enc r).length,.int .i32 (r:Int),.bool true])::L))):=hS.perm (List.Perm.cons _ List.perm_middle.symm)
  obtain⟨v',H7,iF,e1,hg',hS,_⟩:=hg.app (m:=0) (cx:=1) hS (by decide) rfl rfl (by decide) (by rw[qF];omega)
  refine ME.of e1 ?_
  refine ak ?_
  have hS:SH [] H H7 ((ri,113,[vn k,vn (enc r).length,.int .i32 (r:Int),.bool true])::(iF++L)):=hS.perm List.perm_middle
  refine hS.ld 0 rfl rfl ?_
  refine PU.of (i_ _ rfl aa) ?_
  refine⟨n -1,by simp at hn;omega,_,_,_,_,_,rfl,_,r1++[r],r2,iF,_,rfl,?_,hS.perm List.perm_middle.symm,by simp at hn;omega,hm2⟩
  rw[A_,Nat.zero_add,←hm.at']
  exact hg'
 ·refine tl ?_
  refine rr ?_
  obtain⟨_,rfl⟩:=hm.end' aa
  exact⟨gb,hg,hS.sub (List.sublist_append_left gb L)⟩
theorem Cn{v:Value}{rs:List Nat}{gb:List bF}(hg:GK 113 4 v (items 0 rs) gb)(hS:SH [] H0 H (gb++L)):∃a c,v=.slice a rs.length c∧Fl H a rs.length 4 (items 0 rs):=by
 obtain⟨a,m,c,rfl,hl,hf⟩:=hg.fl hS
 rw[qF]at hl
 obtain rfl:rs.length=m:=by omega
 exact⟨a,c,rfl,hf⟩
theorem N9{a:Option Addr}{n c:Nat}{rs r1 r2:List Nat}{r:Nat}(hf:Fl H a n 4 (items 0 rs))(hrs:rs=r1++r::r2){K:Value→ag→Prop}(k:K (.agg ⟨[vn (r1.flatMap enc).length,vn (enc r).length,.int .i32 (r:Int),.bool true]⟩) H):PU (DF 4 (.slice a n c) (vn r1.length)) fun p=>ME (mU (some 4) p H) K:=by
 have hl:=hf.1
 rw[qF,hrs]at hl
 simp at hl
 obtain⟨r0,o,e,hr,hc,_⟩:=hf.idx (c:=c) (by decide) (k:=r1.length) aa
 rw[e]
 have hg:∀f x,f<4→[vn (r1.flatMap enc).length,vn (enc r).length,.int .i32 (r:Int),.bool true][f]?=some x→H.cell r0 (o +f)=some x:=by
  intro f x h4 hx
  refine hc f x h4 ?_
  rw[hrs,A_,←qF r1 0,List.getElem?_append_right aa,Nat.add_sub_cancel_left]
  show([_,_,_,_]++_)[f]?=_
  rw[Nat.zero_add,List.getElem?_append_left (by simpa using h4)]
  exact hx
 show ME (mU (some 4) (.pointer (some ⟨r0,o,none⟩)) H) K
 refine ME.BX ?_ k
 exact mP (H:=H) (r:=r0) (o:=o) (cs:=[vn (r1.flatMap enc).length,vn (enc r).length,.int .i32 (r:Int),.bool true]) fun i x hx=>hg i x (by have:=(List.getElem?_eq_some_iff.1 hx).1;simpa using this) hx
theorem Ue(hw:Wf H)(hT:Tb H)(r:Nat):aj Pg X 90 [.int .i32 (r:Int),.string ⟨#[39]⟩] H (Q1 (fun v _=>v=.bool (decide (r=39))) H):=by
 refine ce [0,1,4,6,8,9,10] ?_;refine tl ?_
 refine aj.mono (N8 hw hT ⟨#[39]⟩ (by decide) (rs:=[39]) ⟨by decide,by decide⟩) ?_
 rintro v H1 ⟨gb,hg,hS⟩
 have hx:=hS.ext
 obtain⟨a,c,rfl,hf⟩:=Cn (L:=[]) hg (by rw[List.append_nil];exact hS)
 have hS:=SH.refl hS.wf
 refine ak ?_
 refine Se 4 6 10 (I:=fun n x4 x6 eZ H'=>(∃L,SH [] H1 H' L)∧(n=1∧eZ=vn 0∨n=0∧eZ=vn 1∧r≠39)) ?_ 1 ⟨⟨_,hS⟩,.inl ⟨rfl,rfl⟩⟩
 rintro n x4 x6 eZ rg H2 ⟨⟨L,hS⟩,hn⟩
 refine tl ?_
 rcases hn with⟨rfl,rfl⟩|⟨rfl,rfl,hne⟩
 ·refine ak ?_
  refine ai (fun h=>?_) (fun h=>absurd (by decide) h)
  refine N9 (rs:=[39]) (r1:=[]) (r:=39) (r2:=[]) (hf.ex hS.ext) rfl ?_
  refine hS.fE fun H4 ri hS=>?_
  refine hS.st 0 rfl rfl (by decide) rfl fun H5 hS=>?_
  refine ak ?_
  refine hS.ld 0 rfl rfl ?_
  refine ak ?_
  refine hS.ld 0 rfl rfl ?_
  refine ak ?_
  refine ai (fun h=>?_) (fun h=>?_)
  ·refine rr ?_
   exact⟨by rw[decide_eq_true aa],hx.trans hS.ext⟩
  ·refine PU.of (i_ 1 rfl aa) ?_
   refine ak ?_
   exact⟨0,aa,_,_,_,_,_,rfl,⟨_,hS⟩,.inr ⟨rfl,rfl,aa⟩⟩
 ·refine ak ?_
  refine ai (fun h=>absurd h (by decide)) (fun h=>?_)
  refine tl ?_
  refine rr ?_
  exact⟨by rw[decide_eq_false hne],hx.trans hS.ext⟩
theorem WY(hw:Wf H)(hT:Tb H)(hN:Tn H)(r:Nat)(hr:tY r):aj Pg X 55 [.int .i32 (r:Int),.string ⟨#[39]⟩] H (Q1 (fun v _=>zV (xm r) v) H):=by
 have hr2:r<1114112:=by unfold tY at hr;omega
 have hS:=SH.refl hw
 refine ce [0,1,4,5,6,7] ?_;refine tl ?_
 refine ak ?_
 refine ai (fun h1=>?_) (fun h1=>?_)
 ·refine rr ?_;refine⟨⟨_,rfl,?_⟩,hS.ext⟩
  unfold xm;rw[if_pos aa];rfl
 refine ai (fun h2=>?_) (fun h2=>?_)
 ·refine rr ?_;refine⟨⟨_,rfl,?_⟩,hS.ext⟩
  unfold xm;rw[if_neg aa,if_pos aa];rfl
 refine ai (fun h3=>?_) (fun h3=>?_)
 ·refine rr ?_;refine⟨⟨_,rfl,?_⟩,hS.ext⟩
  unfold xm;rw[if_neg aa,if_neg aa,if_pos aa];rfl
 refine aj.mono (Qs r hr) ?_
 rintro v H1 ⟨⟨b,rfl,hb⟩,rfl⟩
 have hbs:=dB hb
 have hel:=oh r
 refine ak ?_
 have last:∀{H2:ag} rg(c:Bool),Ext H1 H2→Wf H2→Az rg 19=.bool c→(c=true↔r=92∨r=39)→bC Pg X (sub n_ [1,1,1,0,0,1]) (F Pg 55 (.c 0 (.int .i32 (r:Int))<|.c 1 (.string ⟨#[39]⟩)<|.c 4 (.string ⟨#[]⟩)<|.c 5 (.string b)<|.c 6 (.bool true)<|.c 7 (.int .i32 (r:Int))<|.n) rg H2)
  (nL 1 (pG Pg X (sub n_ [1,1,1,1]) (fD Pg [.tmp 4] (Q1 (fun v _=>zV (xm r) v) H1)))):=by
  intro H2 rg c hx hw2 hc hci
  refine tl ?_
  rw[hc]
  refine ak ?_
  refine aU (fun h=>?_) (fun h=>?_)
  ·rw[dz (by show 1 +b.size≤_;omega)]
   refine ak ?_
   refine rr ?_;refine⟨⟨_,rfl,?_⟩,hx⟩
   rw[gB,hb]
   unfold xm;rw[if_neg aa,if_neg aa,if_neg aa]
   rcases hci.1 h with rfl|rfl<;>decide
  have hn:¬(r=92∨r=39):=fun g=>by rw[hci.2 g]at h;cases h
  have low:∀rg,(r<32∨r=127)→bC Pg X (sub n_ [1,1,1,1]) (F Pg 55 (.c 0 (.int .i32 (r:Int))<|.c 1 (.string ⟨#[39]⟩)<|.c 4 (.string ⟨#[]⟩)<|.c 5 (.string b)<|.c 6 (.bool true)<|.c 7 (.int .i32 (r:Int))<|.n) rg H2) (fD Pg [.tmp 4] (Q1 (fun v _=>zV (xm r) v) H1)):=by
   intro rg hlow
   refine tl ?_
   refine ak ?_
   rw[show max (r:Int) 0=(r:Int)from Int.max_eq_left aa,wrapN aa]
   refine aj.mono (Uc hw2 (hN.ex hx) r aa) ?_
   rintro v H' ⟨⟨t,rfl,ht⟩,hx2⟩
   have hs1:=dB ht
   have hl:(hex r).length≤2:=by unfold hex;split<;>simp
   rw[dz (by show 3 +t.size≤_;omega)]
   refine ak ?_
   rw[dz (by rw[dB (gB _ _),ht];show _ +1≤_;rw[List.length_append];show 3 +_ +1≤_;omega)]
   refine ak ?_
   refine rr ?_;refine⟨⟨_,rfl,?_⟩,hx.trans hx2⟩
   rw[gB,gB,ht]
   unfold xm;rw[if_neg aa,if_neg aa,if_neg aa,if_neg aa,if_neg aa,if_pos hlow];rfl
  refine ai (fun h5=>?_) (fun h5=>?_)
  ·refine bz (fun h6=>?_) (fun h6=>?_)
   ·refine rr ?_;refine⟨⟨_,rfl,?_⟩,hx⟩
    rw[hb]
    unfold xm;rw[if_neg aa,if_neg aa,if_neg aa,if_neg aa,if_neg aa,if_neg aa]
   ·exact low _ aa
  ·exact low _ aa
 refine ai (fun h4=>?_) (fun h4=>?_)
 ·exact last _ true hS.ext hw (by refine ak ?_;trivial) ⟨fun _=>.inl aa,fun _=>rfl⟩
 ·refine aj.mono (Ue hw hT r) ?_
  rintro v H2 ⟨rfl,hx⟩
  exact last _ (decide (r=39)) hx (hS.call hx).wf (by refine ak ?_;trivial) (by rw[decide_eq_true_iff];omega)
theorem N_(hw:Wf H)(hT:Tb H)(hN:Tn H)(s:ByteArray)(hs:s.size≤100000){rs:List Nat}(ht:wR (tx s) rs):aj Pg X 24 [.string s] H (Q1 (fun v _=>zV (quot rs) v) H):=by
 have hS:=SH.refl hw
 have hrl:rs.length≤s.size:=by
  have:=pU rs
  rw[←ht.1,aW]at this;exact this
 refine ce [0,2,3,5,8,9,10] ?_;refine tl ?_
 refine hS.fE fun H1 rb hS=>?_
 refine aj.mono (zf (N5.new rb) hS (by decide) (c:=39) (by decide)) ?_
 rintro v H2 ⟨A,hb,hS⟩
 refine aj.mono (N8 hS.wf (hT.ex hS.ext) s aa ht) ?_
 rintro v H3 ⟨gb,hg,hS2⟩
 have hS:=SH.add hS hS2
 obtain⟨a,c,rfl,_⟩:=Cn hg hS
 refine ak ?_
 refine lp2 5 10 (I:=fun n x5 eZ H'=>∃(r1 r2:List Nat)(A L:List bF),eZ=vn r1.length∧N5 rb (39::r1.flatMap xm) A∧SH [] H H' (A++(gb++L))∧rs=r1++r2∧r2.length=n) ?_ rs.length
  ⟨[],rs,A,[],rfl,hb,hS.perm (by rw[List.append_nil];simpa using List.perm_append_comm),rfl,rfl⟩
 rintro n x5 eZ rg H4 ⟨r1,r2,A,L,rfl,hb,hS,hrs,hn⟩
 have Y3:=uq r1
 have Y8:rs.length=r1.length +r2.length:=by rw[hrs,List.length_append]
 refine tl ?_
 refine ak ?_
 refine ai (fun h4=>?_) (fun h4=>?_)
 ·cases r2 with
  |nil=>simp at Y8;omega
  |cons r r2=>
   have ho:=ht.2 r (by rw[hrs];simp)
   obtain⟨a',c',e,hf⟩:=Cn hg (hS.perm (L':=gb++(A++L)) (by rw[←List.append_assoc,←List.append_assoc];exact List.perm_append_comm.append_right L))
   cases e
   refine N9 hf hrs ?_
   refine hS.fE fun H5 ri hS=>?_
   refine hS.st 0 rfl rfl (by show 0 +4≤4;omega) rfl fun H6 hS=>?_
   refine ak ?_
   refine hS.ld 0 rfl rfl ?_
   refine ak ?_
   refine hS.ld 0 rfl rfl ?_
   refine aj.mono (WY hS.wf (hT.ex hS.ext) (hN.ex hS.ext) r ho) ?_
   rintro v H7 ⟨⟨t,rfl,T_⟩,hx⟩
   have hS:=hS.call hx
   have hts:=dB T_
   have hsl:=Cj r
   have hS:=hS.perm (L':=A++(gb++((ri,113,[vn (r1.flatMap enc).length,vn (enc r).length,.int .i32 (r:Int),.bool true])::L))) (by
    rw[←List.append_assoc,←List.append_assoc]
    exact List.perm_middle.symm)
   refine aj.mono (qE hb hS (by rw[List.length_cons];omega) aa) ?_
   rintro v H8 ⟨A',hb,hS⟩
   refine PU.of (i_ 1 rfl aa) ?_
   rw[List.length_cons]at hn
   refine⟨n -1,aa,_,_,_,_,rfl,r1++[r],r2,A',_,by simp,?_,hS,by rw[hrs];simp,aa⟩
   rw[T_]at hb
   rw[List.flatMap_append]
   simpa using hb
 ·have h0:r2=[]:=List.length_eq_zero_iff.1 aa
  subst h0
  rw[List.append_nil]at hrs
  subst hrs
  refine tl ?_
  refine aj.mono (zf hb hS (by rw[List.length_cons];omega) (c:=39) (by decide)) ?_
  rintro v H5 ⟨A',hb,hS⟩
  refine aj.mono (II hb hS (by rw[List.length_append,List.length_cons,List.length_singleton];omega) (by simp)) ?_
  rintro v H6 ⟨hv,hS⟩
  refine rr ?_
  exact⟨hv,hS.ext⟩
end
section
variable{H0 H:ag}{L:List bF}
def Kc(l:List Nat)(W:Nat):Prop:=W<18446744073709551616∧∀i,i<8→128≤l.getD i 0→W.testBit (8*i +7)=true
theorem Uf{a b:Nat}(ha:a<18446744073709551616)(hb:b<18446744073709551616):FJ .u64 (a:Int) (b:Int)=((a|||b:Nat):Int):=by
 unfold FJ
 rw[show(IntKind.u64).bits=64 from rfl,BitVec.toNat_or,gJ aa,gJ aa]
 exact wrap_u64 (Nat.or_lt_two_pow (n:=64) ha hb)
theorem Qt{a j:Nat}(hj:j<64)(h:a*2^j<18446744073709551616):iV .u64 (a:Int) (j:Int)=((a*2^j:Nat):Int):=by
 unfold iV
 have e:(a:Int)*2^min ((j:Int).toNat) (IntKind.u64).bits=((a*2^j:Nat):Int):=by
  rw[Int.toNat_natCast,show min j (IntKind.u64).bits=j from Nat.min_eq_left (by show j≤64;omega)]
  push_cast;rfl
 rw[e]
 exact wrap_u64 h
theorem IK:∀b,b<256→128≤b→b.testBit 7=true:=by decide
theorem Qu:∀i,i<8→(9259542123273814144:Nat).testBit (8*i +7)=true:=by decide
theorem Qv{W:Nat}(hW:W<18446744073709551616)(h:gq .u64 (W:Int) 9259542123273814144=0):∀i,i<8→W.testBit (8*i +7)=false:=by
 intro i hi
 unfold gq at h
 rw[show(9259542123273814144:Int)=((9259542123273814144:Nat):Int)from rfl,show(IntKind.u64).bits=64 from rfl,BitVec.toNat_and,gJ aa,gJ aa,wrap_u64 (Nat.lt_of_le_of_lt Nat.and_le_left hW)]at h
 have h:W&&&9259542123273814144=0:=by exact_mod_cast h
 have:=congrArg (fun x=>x.testBit (8*i +7)) h
 simp only[Nat.testBit_and,Nat.zero_testBit,Qu i hi,Bool.and_true]at this
 exact this
theorem rY{l:List Nat}{W:Nat}(hl:∀i,i<8→128≤l.getD i 0→W.testBit (8*i +7)=true)(hW:W<18446744073709551616)(h:gq .u64 (W:Int) 9259542123273814144=0):∀i,i<8→l.getD i 0<128:=by
 intro i hi
 rcases Nat.lt_or_ge (l.getD i 0) 128 with g|g
 ·exact g
 ·have:=hl i hi g
  rw[Qv hW h i hi]at this;cases this
theorem wC{n:Nat}(h:n<256):aT .u64 (n:Int)=(n:Int):=eG (wrap_u64 aa)
theorem Ug{P:Program}{t:TypeId}{ox oy:Operand}{a:Nat}{z:Int}(j:Nat)(e:z=(j:Int))(hj:j≤56)(h:a<256):bq P .shl t ox oy (.int .u64 (a:Int)) (.int .u64 z)=some (.int .u64 ((a*2^j:Nat):Int)):=by
 subst e
 rw[jb aa,Qt aa ?_]
 have h1:(2:Nat)^j≤2^56:=Nat.pow_le_pow_right (by decide) hj
 have h2:=Nat.mul_le_mul (show a≤255 by omega) h1
 exact Nat.lt_of_le_of_lt h2 (by decide)
theorem Oa{P:Program}{t:TypeId}{ox oy:Operand}{a b:Nat}(ha:a<18446744073709551616)(hb:b<18446744073709551616):bq P .or t ox oy (.int .u64 (a:Int)) (.int .u64 (b:Int))=some (.int .u64 ((a|||b:Nat):Int)):=by rw[yE,Uf ha hb]
theorem mg{a j:Nat}(h:a<256)(hj:j≤56):a*2^j<18446744073709551616:=by
 have h1:(2:Nat)^j≤2^56:=Nat.pow_le_pow_right (by decide) hj
 have h2:=Nat.mul_le_mul (show a≤255 by omega) h1
 exact Nat.lt_of_le_of_lt h2 (by decide)
theorem pV{a b:Nat}(ha:a<18446744073709551616)(hb:b<18446744073709551616):a|||b<18446744073709551616:=Nat.or_lt_two_pow (n:=64) ha hb
theorem rZ{a j:Nat}(h:a<256)(h1:128≤a):(a*2^j).testBit (j +7)=true:=by
 rw[Nat.testBit_mul_two_pow]
 simp[IK a h h1]
theorem zi(s:ByteArray)(hs:8≤s.size):aj Pg X 86 [.string s] H (Q0 (fun v=>∃W:Nat,v=.int .u64 (W:Int)∧Kc (tx s) W) H):=by
 have hb:∀i,(tx s).getD i 0<256:=Sl s
 have id':∀{z:Int}(k:Nat),z=(k:Int)→k<8→BV (.string s) (.int .i64 z)=some (iK ((tx s).getD k 0)):=fun k e hk=>(kr k e aa).1
 refine ce [0,2] ?_;refine tl ?_
 refine PU.of (id' 0 rfl (by decide)) ?_
 rw[dL,wC (hb 0)]
 refine PU.of rfl ?_
 refine PU.of (id' 1 rfl (by decide)) ?_
 rw[dL,wC (hb 1)]
 refine PU.of rfl ?_
 refine PU.of (Ug 8 rfl (by decide) (hb 1)) ?_
 have w1:=pV (Nat.lt_trans (hb 0) (by decide)) (mg (hb 1) (j:=8) (by decide))
 refine PU.of (Oa (Nat.lt_trans (hb 0) (by decide)) (mg (hb 1) (by decide))) ?_
 refine PU.of (id' 2 rfl (by decide)) ?_
 rw[dL,wC (hb 2)]
 refine PU.of rfl ?_
 refine PU.of (Ug 16 rfl (by decide) (hb 2)) ?_
 refine PU.of (Oa w1 (mg (hb 2) (by decide))) ?_
 have w2:=pV w1 (mg (hb 2) (j:=16) (by decide))
 refine PU.of (id' 3 rfl (by decide)) ?_
 rw[dL,wC (hb 3)]
 refine PU.of rfl ?_
 refine PU.of (Ug 24 rfl (by decide) (hb 3)) ?_
 refine PU.of (Oa w2 (mg (hb 3) (by decide))) ?_
 have w3:=pV w2 (mg (hb 3) (j:=24) (by decide))
 refine PU.of (id' 4 rfl (by decide)) ?_
 rw[dL,wC (hb 4)]
 refine PU.of rfl ?_
 refine PU.of (Ug 32 rfl (by decide) (hb 4)) ?_
 refine PU.of (Oa w3 (mg (hb 4) (by decide))) ?_
 have w4:=pV w3 (mg (hb 4) (j:=32) (by decide))
 refine PU.of (id' 5 rfl (by decide)) ?_
 rw[dL,wC (hb 5)]
 refine PU.of rfl ?_
 refine PU.of (Ug 40 rfl (by decide) (hb 5)) ?_
 refine PU.of (Oa w4 (mg (hb 5) (by decide))) ?_
 have w5:=pV w4 (mg (hb 5) (j:=40) (by decide))
 refine PU.of (id' 6 rfl (by decide)) ?_
 rw[dL,wC (hb 6)]
 refine PU.of rfl ?_
 refine PU.of (Ug 48 rfl (by decide) (hb 6)) ?_
 refine PU.of (Oa w5 (mg (hb 6) (by decide))) ?_
 have w6:=pV w5 (mg (hb 6) (j:=48) (by decide))
 refine PU.of (id' 7 rfl (by decide)) ?_
 rw[dL,wC (hb 7)]
 refine PU.of rfl ?_
 refine PU.of (Ug 56 rfl (by decide) (hb 7)) ?_
 refine PU.of (Oa w6 (mg (hb 7) (by decide))) ?_
 have w7:=pV w6 (mg (hb 7) (j:=56) (by decide))
 refine⟨aK rfl,?_⟩
 refine rr ?_
 refine⟨⟨_,rfl,w7,fun i hi h=>?_⟩,rfl⟩
 have hb:=hb i
 simp only[Nat.testBit_or,Bool.or_eq_true]
 rcases(by omega:i=0∨i=1∨i=2∨i=3∨i=4∨i=5∨i=6∨i=7)with rfl|rfl|rfl|rfl|rfl|rfl|rfl|rfl
 ·have g:((tx s).getD 0 0).testBit (8*0 +7)=true:=IK _ hb h
  simp only[g,true_or,or_true]
 ·have g:((tx s).getD 1 0*2^8).testBit (8*1 +7)=true:=rZ (j:=8) hb h
  simp only[g,true_or,or_true]
 ·have g:((tx s).getD 2 0*2^16).testBit (8*2 +7)=true:=rZ (j:=16) hb h
  simp only[g,true_or,or_true]
 ·have g:((tx s).getD 3 0*2^24).testBit (8*3 +7)=true:=rZ (j:=24) hb h
  simp only[g,true_or,or_true]
 ·have g:((tx s).getD 4 0*2^32).testBit (8*4 +7)=true:=rZ (j:=32) hb h
  simp only[g,true_or,or_true]
 ·have g:((tx s).getD 5 0*2^40).testBit (8*5 +7)=true:=rZ (j:=40) hb h
  simp only[g,true_or,or_true]
 ·have g:((tx s).getD 6 0*2^48).testBit (8*6 +7)=true:=rZ (j:=48) hb h
  simp only[g,true_or,or_true]
 ·have g:((tx s).getD 7 0*2^56).testBit (8*7 +7)=true:=rZ (j:=56) hb h
  simp only[g,true_or,or_true]
end
section
variable{H0 H:ag}{L:List bF}
theorem F5{l:List Nat}(h:ug l=.tuple ⟨[.int .i32 65533,vn 1]⟩):dec l=none:=by
 cases hd:dec l with
 |none=>rfl
 |some p=>
  obtain⟨r,n⟩:=p
  unfold ug at h
  rw[hd]at h
  simp only[Value.tuple.injEq,Array.mk.injEq,List.cons.injEq,Value.int.injEq,true_and,and_true]at h
  obtain⟨_,_,h3⟩:=xk hd
  have h4:r=65533:=by omega
  have h5:n=1:=by omega
  rw[h4,h5]at h3
  exact absurd h3 (by decide)
theorem uy{t:ByteArray}{k:Nat}(hk:k≤t.size)(h:∀i,i<k→(tx t).getD i 0<128):Rt (tx t)↔Rt (tx (Go.Ae.part t k t.size)):=by
 rw[uk]
 have:=Rt.low (k:=(tx t).take k) (l:=(tx t).drop k) (by
  intro b hb
  obtain⟨i,hi⟩:=List.getElem?_of_mem hb
  rw[List.getElem?_take]at hi
  split at hi
  ·next hik=>
   have:=h i hik
   rw[List.getD_eq_getElem?_getD,hi]at this
   exact this
  ·cases hi)
 rw[List.take_append_drop]at this
 exact this
theorem qG{t:ByteArray}{k i:Nat}:(tx (Go.Ae.part t k t.size)).getD i 0=(tx t).getD (k +i) 0:=by rw[uk,getD_drop]
theorem d_{t:ByteArray}{k:Nat}(h:k≤t.size):(Go.Ae.part t k t.size).size=t.size -k:=iG t h (Nat.le_refl _)
theorem Sr{t:ByteArray}{z:Int}(k:Nat)(e:z=(k:Int))(h:k≤t.size):Hq (.string t) (some (.int .i64 z)) none none=some (.string (Go.Ae.part t k t.size)):=by subst e;exact fu h
theorem Co{l:List Nat}(hl:l≠[]):dec l=jM (l.getD 0 0) (l.getD 1 0) (l.getD 2 0) (l.getD 3 0):=by
 cases l with
 |nil=>exact absurd rfl hl
 |cons b l=>rfl
theorem Ob{P:Program}{t:TypeId}{ox oy:Operand}{a b:Int}:bq P .and t ox oy (.int .u64 a) (.int .u64 b)=some (.int .u64 (gq .u64 a b)):=qA
theorem Kc.WZ{a b:List Nat}{A B:Nat}(ha:∀i,i<8→128≤a.getD i 0→A.testBit (8*i +7)=true):∀i,i<8→128≤a.getD i 0→(A|||B).testBit (8*i +7)=true:=by
 intro i hi h
 simp only[Nat.testBit_or,ha i hi h,Bool.true_or]
theorem Kc.W9{a b:List Nat}{A B:Nat}(ha:∀i,i<8→128≤a.getD i 0→B.testBit (8*i +7)=true):∀i,i<8→128≤a.getD i 0→(A|||B).testBit (8*i +7)=true:=by
 intro i hi h
 simp only[Nat.testBit_or,ha i hi h,Bool.or_true]
set_option maxHeartbeats 16000000 in
theorem Uh(hw:Wf H)(hT:Tb H)(s:ByteArray)(hs:s.size≤1000000):aj Pg X 52 [.string s] H (Q1 (fun v _=>∃b:Bool,v=.bool b∧(b=true↔Rt (tx s))) H):=by
 refine ce [0,2,3,4,5,6,75] ?_;refine tl ?_
 refine lp7 0 2 3 4 5 6 75 (I:=fun n x0 x2 x3 x4 x5 x6 x75 H'=>(∃L,SH [] H H' L)∧∃t,x0=.string t∧t.size=n∧(Rt (tx s)↔Rt (tx t))) ?_ s.size ⟨⟨[],SH.refl hw⟩,s,rfl,rfl,Iff.rfl⟩
 rintro n x0 x2 x3 x4 x5 x6 x75 rg H1 ⟨⟨L,hS⟩,t,rfl,hn,hR⟩
 rcases Nat.eq_zero_or_pos n with h0|hpos
 ·refine tl ?_
  refine ak ?_
  refine ai (fun h=>by omega) (fun h=>?_)
  refine tl ?_
  refine rr ?_
  refine⟨⟨true,rfl,fun _=>hR.2 ?_,fun _=>rfl⟩,hS.ext⟩
  rw[show tx t=[]from List.length_eq_zero_iff.1 (by rw[aW];omega)];exact Rt.nil
 refine bC.l6 fun K hK=>?_
 have done:∀(t':ByteArray)(y2 y3 y4 y5 y6 IL:Value)(rg:Rs){H2:ag}{L2:List bF},SH [] H H2 L2→t'.size<n→(Rt (tx s)↔Rt (tx t'))→K (.norm (F Pg 52 (.c 0 (.string t')<|.c 2 y2<|.c 3 y3<|.c 4 y4<|.c 5 y5<|.c 6 y6<|.c 75 IL .n) rg H2)):=by
  intro t' y2 y3 y4 y5 y6 IL rg H2 L2 hS hlt hR
  subst hK
  rw[yx]
  exact⟨t'.size,hlt,_,_,_,_,_,_,_,_,_,rfl,⟨_,hS⟩,t',rfl,rfl,hR⟩
 have bad:∀(y0 y3 y4 y5 y6 IL:Value)(rg:Rs){H2:ag}{L2:List bF},SH [] H H2 L2→¬Rt (tx s)→K (.ret (F Pg 52 (.c 0 y0<|.c 2 (.bool false)<|.c 3 y3<|.c 4 y4<|.c 5 y5<|.c 6 y6<|.c 75 IL .n) rg H2)):=by
  intro y0 y3 y4 y5 y6 IL rg H2 L2 hS hR
  subst hK
  refine ak ?_
  refine rr ?_
  exact⟨⟨false,rfl,fun h=>(by cases h),fun h=>absurd h hR⟩,hS.ext⟩
 have out:∀(t':ByteArray)(y2 y3 y4 y5 y6 IL:Value)(rg:Rs){H2:ag}{L2:List bF},SH [] H H2 L2→t'.size<n→(Rt (tx s)↔Rt (tx t'))→pG Pg X (sub aQ [1,0,0,0,1,0,1,0,1,0,1,1]) (pG Pg X (sub aQ [1,0,0,0,1,0,1,1]) (nL 1 K)) (.norm (F Pg 52 (.c 0 (.string t')<|.c 2 y2<|.c 3 y3<|.c 4 y4<|.c 5 y5<|.c 6 y6<|.c 75 IL .n) rg H2)):=by
  intro t' y2 y3 y4 y5 y6 IL rg H2 L2 hS hlt hR
  rw[yw]
  refine tl ?_
  refine ak ?_
  exact done _ _ _ _ _ _ _ _ hS hlt hR
 have t16:∀(t2:ByteArray)(y2 y3 y4 y5 y6 IL:Value)(rg:Rs)(c:Bool){H2:ag}{L2:List bF},Az rg 39=.bool c→(c=true→16≤t2.size∧∀i,i<16→(tx t2).getD i 0<128)→SH [] H H2 L2→t2.size<n→(Rt (tx s)↔Rt (tx t2))→
  bC Pg X (sub aQ [1,0,0,0,1,0,1,0,1,0,1,0,1,0,1,1]) (F Pg 52 (.c 0 (.string t2)<|.c 2 y2<|.c 3 y3<|.c 4 y4<|.c 5 y5<|.c 6 y6<|.c 75 IL .n) rg H2) (pG Pg X (sub aQ [1,0,0,0,1,0,1,0,1,0,1,1]) (pG Pg X (sub aQ [1,0,0,0,1,0,1,1]) (nL 1 K))):=by
  intro t2 y2 y3 y4 y5 y6 IL rg c H2 L2 hc hlow hS hlt hR
  refine tl ?_
  rw[hc]
  refine ak ?_
  refine aU (fun h=>?_) (fun h=>?_)
  ·obtain⟨h16,hl⟩:=hlow h
   refine PU.of (Sr 16 rfl h16) ?_
   refine IB 0 (I:=fun m x0 H'=>(∃L,SH [] H H' L)∧∃t3,x0=.string t3∧t3.size=m∧m<n∧(Rt (tx s)↔Rt (tx t3))) ?_ (Go.Ae.part t2 16 t2.size).size ⟨⟨_,hS⟩,_,rfl,rfl,by rw[d_ h16];omega,hR.trans (uy h16 hl)⟩
   rintro m x0 rg H3 ⟨⟨L3,hS⟩,t3,rfl,hm,hmn,hR⟩
   refine tl ?_
   refine ak ?_
   refine ai (fun h32=>?_) (fun h32=>?_)
   ·have hz8:(Go.Ae.part t3 8 t3.size).size=t3.size -8:=d_ aa
    have aaa:(Go.Ae.part t3 16 t3.size).size=t3.size -16:=d_ aa
    have aab:(Go.Ae.part t3 24 t3.size).size=t3.size -24:=d_ aa
    refine aj.mono (zi t3 aa) ?_
    rintro v H' ⟨⟨A,rfl,hA,ha⟩,rfl⟩
    rw[show Hq (.string t3) (some (.int .i64 8)) none none=_ from fu (lo:=8) aa,show Hq (.string t3) (some (.int .i64 16)) none none=_ from fu (lo:=16) aa,show Hq (.string t3) (some (.int .i64 24)) none none=_ from fu (lo:=24) aa]
    simp only[cr hS.wf,PP]
    refine aj.mono (zi _ aa) ?_
    rintro v H' ⟨⟨B,rfl,hB,hb⟩,rfl⟩
    refine PU.of (Oa hA hB) ?_
    simp only[cr hS.wf,PP]
    refine aj.mono (zi _ aa) ?_
    rintro v H' ⟨⟨C,rfl,hC,hc⟩,rfl⟩
    simp only[cr hS.wf,PP]
    refine aj.mono (zi _ aa) ?_
    rintro v H' ⟨⟨D,rfl,hD,hd⟩,rfl⟩
    simp only[cr hS.wf]
    refine PU.of (Oa hC hD) ?_
    have ZP:=pV hA hB
    have ZQ:=pV hC hD
    refine PU.of (Oa ZP ZQ) ?_
    refine PU.of Ob ?_
    refine ak ?_
    refine⟨aK (by simp only[av (Ext.refl (hN _))];rfl),?_⟩
    refine ai (fun hz=>?_) (fun hz=>?_)
    ·rw[show Hq (.string t3) (some (.int .i64 32)) none none=_ from fu (lo:=32) aa]
     refine ak ?_
     have hz32:(Go.Ae.part t3 32 t3.size).size=t3.size -32:=d_ aa
     have hW:=pV ZP ZQ
     have l1:=rY (fun i hi h=>Kc.WZ (b:=[]) (B:=C|||D) (Kc.WZ (b:=[]) (B:=B) ha) i hi h) hW hz
     have l2:=rY (fun i hi h=>Kc.WZ (b:=[]) (B:=C|||D) (Kc.W9 (b:=[]) (A:=A) hb) i hi h) hW hz
     have l3:=rY (fun i hi h=>Kc.W9 (b:=[]) (A:=A|||B) (Kc.WZ (b:=[]) (B:=D) hc) i hi h) hW hz
     have l4:=rY (fun i hi h=>Kc.W9 (b:=[]) (A:=A|||B) (Kc.W9 (b:=[]) (A:=C) hd) i hi h) hW hz
     have low:∀i,i<32→(tx t3).getD i 0<128:=by
      intro i hi
      rcases(by omega:i<8∨(8≤i∧i<16)∨(16≤i∧i<24)∨24≤i)with h|h|h|h
      ·exact l1 i h
      ·have:=l2 (i -8) aa;rw[qG]at this;rwa [show 8 +(i -8)=i from by omega]at this
      ·have:=l3 (i -16) aa;rw[qG]at this;rwa [show 16 +(i -16)=i from by omega]at this
      ·have:=l4 (i -24) aa;rw[qG]at this;rwa [show 24 +(i -24)=i from by omega]at this
     exact⟨(Go.Ae.part t3 32 t3.size).size,aa,_,_,_,rfl,⟨_,hS⟩,_,rfl,rfl,aa,hR.trans (uy aa low)⟩
    ·exact out _ _ _ _ _ _ _ _ hS aa hR
   ·refine⟨aK rfl,?_⟩
    exact out _ _ _ _ _ _ _ _ hS aa hR
  ·exact out _ _ _ _ _ _ _ _ hS hlt hR
 have t8:∀(t1:ByteArray)(y2 y3 y4 y5 y6 IL:Value)(rg:Rs)(c:Bool){H2:ag}{L2:List bF},Az rg 24=.bool c→(c=true→8≤t1.size∧∀i,i<8→(tx t1).getD i 0<128)→SH [] H H2 L2→t1.size<n→(Rt (tx s)↔Rt (tx t1))→
  bC Pg X (sub aQ [1,0,0,0,1,0,1,0,1,0,1,0,1]) (F Pg 52 (.c 0 (.string t1)<|.c 2 y2<|.c 3 y3<|.c 4 y4<|.c 5 y5<|.c 6 y6<|.c 75 IL .n) rg H2) (pG Pg X (sub aQ [1,0,0,0,1,0,1,0,1,0,1,1]) (pG Pg X (sub aQ [1,0,0,0,1,0,1,1]) (nL 1 K))):=by
  intro t1 y2 y3 y4 y5 y6 IL rg c H2 L2 hc hlow hS hlt hR
  refine tl ?_
  rw[hc]
  refine ak ?_
  refine aU (fun h=>?_) (fun h=>?_)
  ·obtain⟨h8,hl⟩:=hlow h
   rw[show Hq (.string t1) (some (.int .i64 8)) none none=_ from fu (lo:=8) h8]
   refine ak ?_
   have hz:=d_ h8
   have hR:=hR.trans (uy h8 hl)
   generalize Go.Ae.part t1 8 t1.size=t2 at hz hR⊢
   refine ai (fun h16=>?_) (fun h16=>?_)
   ·refine aj.mono (zi t2 aa) ?_
    rintro v H' ⟨⟨A,rfl,hA,ha⟩,rfl⟩
    rw[show Hq (.string t2) (some (.int .i64 8)) none none=_ from fu (lo:=8) aa]
    simp only[cr hS.wf,PP]
    have hz8:(Go.Ae.part t2 8 t2.size).size=t2.size -8:=d_ aa
    refine aj.mono (zi _ aa) ?_
    rintro v H' ⟨⟨B,rfl,hB,hb⟩,rfl⟩
    simp only[cr hS.wf]
    refine PU.of (Oa hA hB) ?_
    refine PU.of Ob ?_
    refine ak ?_
    refine⟨aK (by simp only[av (Ext.refl (hN _))];rfl),?_⟩
    refine t16 t2 _ _ _ _ _ _ _ (decide (gq .u64 ((A|||B:Nat):Int) 9259542123273814144=0)) (by refine ak ?_;trivial) (fun h=>?_) hS aa hR
    rw[decide_eq_true_iff]at h
    have hW:=pV hA hB
    have l1:=rY (fun i hi h=>Kc.WZ (b:=[]) (B:=B) ha i hi h) hW h
    have l2:=rY (fun i hi h=>Kc.W9 (b:=[]) (A:=A) hb i hi h) hW h
    refine⟨aa,fun i hi=>?_⟩
    rcases(by omega:i<8∨8≤i)with h|h
    ·exact l1 i h
    ·have:=l2 (i -8) aa;rw[qG]at this;rwa [show 8 +(i -8)=i from by omega]at this
   ·refine⟨aK rfl,?_⟩
    exact t16 t2 _ _ _ _ _ _ _ false (by refine ak ?_;trivial) (fun h=>by cases h) hS aa hR
  ·exact out _ _ _ _ _ _ _ _ hS hlt hR
 obtain⟨e0,hc⟩:=kr (s:=t) (z:=0) 0 rfl aa
 generalize hcd:(tx t).getD 0 0=c0 at e0 hc
 have hne:tx t≠[]:=fun e=>by
  have:t.size=0:=by rw[←aW,e];rfl
  omega
 refine tl ?_
 refine ak ?_
 refine ai (fun h=>?_) (fun h=>absurd aa h)
 simp only[e0,fJ]
 refine ak ?_
 refine ai (fun h1=>?_) (fun h1=>?_)
 ·refine PU.of (Sr 1 rfl aa) ?_
  have hz:=d_ (t:=t) (k:=1) aa
  have Y9:=hR.trans (uy (t:=t) (k:=1) aa (fun i hi=>by (obtain rfl:i=0:=aa);rw[hcd];omega))
  generalize Go.Ae.part t 1 t.size=t1 at hz Y9⊢
  refine ak ?_
  refine ai (fun h8=>?_) (fun h8=>?_)
  ·refine aj.mono (zi t1 aa) ?_
   rintro v H' ⟨⟨A,rfl,hA,ha⟩,rfl⟩
   refine PU.of Ob ?_
   refine ak ?_
   exact t8 t1 _ _ _ _ _ _ _ (decide (gq .u64 (A:Int) 9259542123273814144=0)) (by refine ak ?_;trivial) (fun h=>⟨aa,rY ha hA (decide_eq_true_iff.1 h)⟩) hS aa Y9
  ·exact t8 t1 _ _ _ _ _ _ _ false (by refine ak ?_;trivial) (fun h=>by cases h) hS aa Y9
 rw[kD hc]
 refine ak ?_
 refine hS.YD (by rw[Nat.mul_one];exact hT.first c0 hc) (by have:=hT.lt;omega) ?_
 refine ak ?_
 by_cases hm:194≤c0∧c0≤244
 rotate_left
 ·have no:¬Rt (tx s):=fun g=>Rt.no (by rw[Co hne,hcd];unfold jM;rw[if_neg aa,if_neg aa,if_neg aa,if_neg aa]) hne (hR.1 g)
  rcases(uf c0 hc).2 with⟨g,ht⟩|⟨g,ht⟩|⟨g,g',ht⟩|⟨g,ht⟩|⟨g,g',g'',ht⟩|⟨g,ht⟩|⟨g,ht⟩|⟨g,g',ht⟩|⟨g,ht⟩
  ·omega
  ·rw[ht,show aT .i64 (gq .u8 ((241:Nat):Int) 7)=((1:Nat):Int)from by decide +kernel,show lI .u8 ((241:Nat):Int) 4=((15:Nat):Int)from by decide +kernel,kD (k:=15) (by decide)]
   refine ak ?_
   refine hS.MF (hT.Sg 15 (by decide)) (by have:=hT.lt;omega) ?_
   refine hS.fE fun H3 r1 hS=>?_
   refine hS.st 0 rfl rfl (by simp) rfl fun H4 hS=>?_
   refine ai (fun h=>absurd h (by decide)) (fun h=>?_)
   refine ai (fun h=>absurd h (by decide)) (fun h=>?_)
   refine ai (fun h=>absurd h (by decide)) (fun h=>?_)
   exact bad _ _ _ _ _ _ _ hS no
  all_goals exact absurd aa hm
 obtain⟨hx,z,q,ez,eq,hq,hab,hz⟩:=Ef (c:=c0) aa hm.1 hm.2 hc
 rw[ez,eq,kD hq]
 refine ak ?_
 refine hS.MF (hT.Sg q hq) (by have:=hT.lt;omega) ?_
 refine hS.fE fun H3 r1 hS=>?_
 refine hS.st 0 rfl rfl (by simp) rfl fun H4 hS=>?_
 have hS:SH [] H H4 ((r1,172,[.int .u8 ((gN.getD (2*q) 0:Nat):Int),.int .u8 ((gN.getD (2*q +1) 0:Nat):Int)])::L):=hS
 generalize gN.getD (2*q) 0=lo at hS hab⊢
 generalize gN.getD (2*q +1) 0=hi at hS hab⊢
 generalize wT:(tx t).getD 1 0=d1 at*
 have nz:(¬kQ c0 d1∨3≤z∧¬on ((tx t).getD 2 0)∨4≤z∧¬on ((tx t).getD 3 0))→¬Rt (tx s):=fun h g=>Rt.no (F5 (l_ hne hcd hm hz (by rw[wT];exact h))) hne (hR.1 g)
 have short:t.size<z→¬Rt (tx s):=fun h=>nz (by
  rcases hz with⟨rfl,_⟩|⟨rfl,_⟩|⟨rfl,_⟩
  ·left;rw[←wT,nH (by rw[aW];omega)];unfold kQ;omega
  ·right;left;rw[nH (by rw[aW];omega)];unfold on;omega
  ·right;right;rw[nH (l:=tx t) (k:=3) (by rw[aW];omega)];unfold on;omega)
 have yes:∀{r:Nat},dec (tx t)=some (r,z)→z≤t.size→(Rt (tx s)↔Rt (tx (Go.Ae.part t z t.size))):=fun h _=>hR.trans ((Rt.cons h).trans (by rw[uk]))
 have b1:∀{z:Int},z=((1:Nat):Int)→1<t.size→BV (.string t) (.int .i64 z)=some (iK d1):=fun e h=>by rw[←wT];exact(kr 1 e h).1
 have b2:∀{z:Int},z=((2:Nat):Int)→2<t.size→BV (.string t) (.int .i64 z)=some (iK ((tx t).getD 2 0)):=fun e h=>(kr 2 e h).1
 have b3:∀{z:Int},z=((3:Nat):Int)→3<t.size→BV (.string t) (.int .i64 z)=some (iK ((tx t).getD 3 0)):=fun e h=>(kr 3 e h).1
 refine ai (fun h2=>?_) (fun h2=>?_)
 ·obtain rfl:z=2:=by omega
  refine ak ?_
  refine ai (fun h3=>?_) (fun h3=>?_)
  ·refine⟨aK rfl,?_⟩
   exact bad _ _ _ _ _ _ _ hS (short aa)
  refine PU.of (b1 rfl aa) ?_
  refine hS.uZ 0 rfl rfl ?_
  simp only[cr hS.wf]
  refine ak ?_
  refine ai (fun h4=>?_) (fun h4=>?_)
  ·refine⟨aK (by simp only[az];rfl),?_⟩
   exact bad _ _ _ _ _ _ _ hS (nz (.inl (by rw[←hab];omega)))
  refine hS.uZ 0 rfl rfl ?_
  simp only[cr hS.wf]
  refine PU.of (b1 rfl aa) ?_
  refine ak ?_
  refine⟨aK (by simp only[az];rfl),?_⟩
  refine ai (fun h5=>?_) (fun h5=>?_)
  ·exact bad _ _ _ _ _ _ _ hS (nz (.inl (by rw[←hab];omega)))
  have hs2:kQ c0 d1:=(hab d1).1 aa
  refine PU.of (Sr 2 rfl aa) ?_
  have hzz:=d_ (t:=t) (k:=2) aa
  refine done _ _ _ _ _ _ _ _ hS aa (yes (r:=(c0 -192)*64 +(d1 -128)) (by rw[Co hne,hcd,wT];unfold jM;rw[if_neg aa,if_pos ⟨aa,aa,hs2⟩]) aa)
 refine ai (fun h8=>?_) (fun h8=>?_)
 ·obtain rfl:z=3:=by omega
  refine ak ?_
  refine ai (fun h3=>?_) (fun h3=>?_)
  ·refine⟨aK rfl,?_⟩
   exact bad _ _ _ _ _ _ _ hS (short aa)
  refine PU.of (b1 rfl aa) ?_
  refine hS.uZ 0 rfl rfl ?_
  simp only[cr hS.wf]
  refine ak ?_
  refine ai (fun h4=>?_) (fun h4=>?_)
  ·refine⟨aK (by simp only[az];rfl),?_⟩
   exact bad _ _ _ _ _ _ _ hS (nz (.inl (by rw[←hab];omega)))
  refine hS.uZ 0 rfl rfl ?_
  simp only[cr hS.wf]
  refine PU.of (b1 rfl aa) ?_
  refine ak ?_
  refine ai (fun h5=>?_) (fun h5=>?_)
  ·refine⟨aK (by simp only[az];rfl),?_⟩
   exact bad _ _ _ _ _ _ _ hS (nz (.inl (by rw[←hab];omega)))
  have hs2:kQ c0 d1:=(hab d1).1 aa
  refine PU.of (b2 rfl aa) ?_
  refine ak ?_
  refine ai (fun h6=>?_) (fun h6=>?_)
  ·refine⟨aK (by simp only[az];rfl),?_⟩
   exact bad _ _ _ _ _ _ _ hS (nz (.inr<|.inl ⟨aa,by unfold on;omega⟩))
  refine PU.of (b2 rfl aa) ?_
  refine ak ?_
  refine⟨aK (by simp only[az];rfl),?_⟩
  refine ai (fun h7=>?_) (fun h7=>?_)
  ·exact bad _ _ _ _ _ _ _ hS (nz (.inr<|.inl ⟨aa,by unfold on;omega⟩))
  have hr2:on ((tx t).getD 2 0):=by unfold on;omega
  refine PU.of (Sr 3 rfl aa) ?_
  have hzz:=d_ (t:=t) (k:=3) aa
  refine done _ _ _ _ _ _ _ _ hS aa (yes (r:=(c0 -224)*4096 +(d1 -128)*64 +((tx t).getD 2 0 -128)) (by rw[Co hne,hcd,wT];unfold jM;rw[if_neg aa,if_neg aa,if_pos ⟨aa,aa,hs2,hr2⟩]) aa)
 refine ai (fun h9=>?_) (fun h9=>by omega)
 ·obtain rfl:z=4:=by omega
  refine ak ?_
  refine ai (fun h3=>?_) (fun h3=>?_)
  ·refine⟨aK rfl,?_⟩
   exact bad _ _ _ _ _ _ _ hS (short aa)
  refine PU.of (b1 rfl aa) ?_
  refine hS.uZ 0 rfl rfl ?_
  simp only[cr hS.wf]
  refine ak ?_
  refine ai (fun h4=>?_) (fun h4=>?_)
  ·refine⟨aK (by simp only[az];rfl),?_⟩
   exact bad _ _ _ _ _ _ _ hS (nz (.inl (by rw[←hab];omega)))
  refine hS.uZ 0 rfl rfl ?_
  simp only[cr hS.wf]
  refine PU.of (b1 rfl aa) ?_
  refine ak ?_
  refine ai (fun h5=>?_) (fun h5=>?_)
  ·refine⟨aK (by simp only[az];rfl),?_⟩
   exact bad _ _ _ _ _ _ _ hS (nz (.inl (by rw[←hab];omega)))
  have hs2:kQ c0 d1:=(hab d1).1 aa
  refine PU.of (b2 rfl aa) ?_
  refine ak ?_
  refine ai (fun h6=>?_) (fun h6=>?_)
  ·refine⟨aK (by simp only[az];rfl),?_⟩
   exact bad _ _ _ _ _ _ _ hS (nz (.inr<|.inl ⟨aa,by unfold on;omega⟩))
  refine PU.of (b2 rfl aa) ?_
  refine ak ?_
  refine ai (fun h7=>?_) (fun h7=>?_)
  ·refine⟨aK (by simp only[az];rfl),?_⟩
   exact bad _ _ _ _ _ _ _ hS (nz (.inr<|.inl ⟨aa,by unfold on;omega⟩))
  have hr2:on ((tx t).getD 2 0):=by unfold on;omega
  refine PU.of (b3 rfl aa) ?_
  refine ak ?_
  refine ai (fun h6=>?_) (fun h6=>?_)
  ·refine⟨aK (by simp only[az];rfl),?_⟩
   exact bad _ _ _ _ _ _ _ hS (nz (.inr<|.inr ⟨aa,by unfold on;omega⟩))
  refine PU.of (b3 rfl aa) ?_
  refine ak ?_
  refine⟨aK (by simp only[az];rfl),?_⟩
  refine ai (fun h7=>?_) (fun h7=>?_)
  ·exact bad _ _ _ _ _ _ _ hS (nz (.inr<|.inr ⟨aa,by unfold on;omega⟩))
  have hr3:on ((tx t).getD 3 0):=by unfold on;omega
  refine PU.of (Sr 4 rfl aa) ?_
  have hzz:=d_ (t:=t) (k:=4) aa
  refine done _ _ _ _ _ _ _ _ hS aa (yes (r:=(c0 -240)*262144 +(d1 -128)*4096 +((tx t).getD 2 0 -128)*64 +((tx t).getD 3 0 -128)) (by rw[Co hne,hcd,wT];unfold jM;rw[if_neg aa,if_neg aa,if_neg aa,if_pos ⟨aa,aa,hs2,hr2,hr3⟩]) aa)
theorem Ui(hw:Wf H)(hT:Tb H)(s:ByteArray)(hs:s.size≤1000000):aj Pg X 23 [.string s] H (Q1 (fun v _=>∃b:Bool,v=.bool b∧(b=true↔Rt (tx s))) H):=by
 refine ce [0,2] ?_;refine tl ?_
 refine aj.mono (Uh hw hT s hs) ?_
 rintro v H' ⟨h,hx⟩
 refine rr ?_;exact⟨h,hx⟩
end
section
variable{H0 H:ag}{L:List bF}
def Y_(s:ByteArray):Bool:=(List.range 256).all fun k=>match s.data.toList[k]? with
 |none=>false
 |some t=>Nat.ble t.toNat 8&&Nat.blt k (2^t.toNat)&&(Nat.beq k 0||(Nat.ble 1 t.toNat&&Nat.ble (2^(t.toNat -1)) k))
theorem Qw{s:ByteArray}(ht:Y_ s=true){k:Nat}(hk:k<256):∃t:Nat,BV (.string s) (.int .u8 (k:Int))=some (iK t)∧t≤8∧k<2^t∧(0<k→0<t∧2^(t -1)≤k):=by
 have:=List.all_eq_true.1 ht k (List.mem_range.2 hk)
 have e:BV (.string s) (.int .u8 (k:Int))=ah (s.data.toList[k]?) fun b=>some (Value.int .u8 (.ofNat b.toNat)):=by
  show(ah (nth s.data.toList k) fun b=>some (Value.int .u8 (.ofNat b.toNat)))=_
  rw[cB]
 rw[e]
 revert this
 cases s.data.toList[k]? with
 |none=>intro h;cases h
 |some t=>
  intro h
  simp only[Bool.and_eq_true,Bool.or_eq_true]at h
  obtain⟨⟨h1,h2⟩,h3⟩:=h
  refine⟨t.toNat,rfl,Nat.le_of_ble_eq_true h1,by simpa using h2,fun h0=>?_⟩
  rcases h3 with h3|⟨h3,h4⟩
  ·have:=Nat.eq_of_beq_eq_true h3;omega
  ·exact⟨Nat.le_of_ble_eq_true h3,Nat.le_of_ble_eq_true h4⟩
theorem Uj(n:Nat)(h0:0<n)(h1:n<4294967296):aj Pg X 242 [.int .u64 (n:Int)] H (Q0 (fun v=>∃b:Nat,v=vn b∧b≤32∧0<b∧2^(b -1)≤n∧n<2^b) H):=by
 refine ce [0,2] ?_;refine tl ?_
 refine PU.of fP ?_
 rw[decide_eq_false aa]
 refine ak ?_
 refine bC.l6 fun K hK=>?_
 have fin:∀(y k:Nat) rg,y<256→k≤24→y*2^k≤n→n<(y +1)*2^k→0<y→bC Pg X (sub l8 [1,1,1,1]) (lM (.int .u64 (y:Int)) (vn k) rg H) K:=by
  intro y k rg h3 h4 h5 h6 h7
  subst hK
  refine tl ?_
  rw[dL,eG (u8_in aa)]
  refine PU.of rfl ?_
  obtain⟨t,e,ht,g1,g2⟩:=Qw (s:=⟨((([0,1,2,2,3,3,3,3,4,4,4,4,4,4,4,4,5,5,5,5,5,5,5,5,5,5,5,5,5,5,5,5,6,6,6,6,6,6,6,6,6,6,6,6,6,6,6,6,6,6,6,6,6,6,6,6,6,6,6,6,6,6,6,6].append [7,7,7,7,7,7,7,7,7,7,7,7,7,7,7,7,7,7,7,7,7,7,7,7,7,7,7,7,7,7,7,7,7,7,7,7,7,7,7,7,7,7,7,7,7,7,7,7,7,7,7,7,7,7,7,7,7,7,7,7,7,7,7,7]).append ([8,8,8,8,8,8,8,8,8,8,8,8,8,8,8,8,8,8,8,8,8,8,8,8,8,8,8,8,8,8,8,8,8,8,8,8,8,8,8,8,8,8,8,8,8,8,8,8,8,8,8,8,8,8,8,8,8,8,8,8,8,8,8,8].append [8,8,8,8,8,8,8,8,8,8,8,8,8,8,8,8,8,8,8,8,8,8,8,8,8,8,8,8,8,8,8,8,8,8,8,8,8,8,8,8,8,8,8,8,8,8,8,8,8,8,8,8,8,8,8,8,8,8,8,8,8,8,8,8])).toArray)⟩) (by kernel_rfl) h3
  refine PU.of e ?_
  rw[dL,fo aa aa]
  refine PU.of rfl ?_
  refine aC ?_
  refine rr ?_
  obtain⟨g3,g4⟩:=g2 h7
  refine⟨⟨k +t,rfl,aa,aa,?_,?_⟩,rfl⟩
  ·rw[show k +t -1=(t -1) +k by omega,Nat.pow_add]
   exact Nat.le_trans (Nat.mul_le_mul_right _ g4) h5
  ·rw[Nat.add_comm,Nat.pow_add]
   exact Nat.lt_of_lt_of_le h6 (Nat.mul_le_mul_right _ g1)
 have s16:lI .u64 (n:Int) 16=((n/65536:Nat):Int):=Cm (j:=16) (by decide)
 have s8:∀a:Nat,lI .u64 (a:Int) 8=((a/256:Nat):Int):=fun a=>Cm (j:=8) (by decide)
 refine tl ?_
 refine PU.of fP ?_
 refine ak ?_
 with_reducible refine ai (fun hc=>?_) (fun hc=>?_)
 ·refine PU.of (dZ aa) ?_
  rw[s16]
  refine aC ?_
  refine tl ?_
  refine PU.of fP ?_
  refine ai (fun hd=>?_) (fun hd=>?_)
  ·refine PU.of (dZ aa) ?_
   rw[s8]
   refine aC ?_
   exact fin _ 24 _ aa aa aa aa aa
  ·exact fin _ 16 _ aa aa aa aa aa
 ·refine tl ?_
  refine PU.of fP ?_
  refine ai (fun hd=>?_) (fun hd=>?_)
  ·refine PU.of (dZ aa) ?_
   rw[s8]
   refine aC ?_
   exact fin _ 8 _ aa aa aa aa aa
  ·exact fin n 0 _ aa aa aa aa aa
theorem mulR{P:Program}{t:TypeId}{ox oy:Operand}{a:Nat}{z:Int}(b:Nat)(e:z=(b:Int))(h:a*b≤9223372036854775807):bq P .mul t ox oy (vn a) (.int .i64 z)=some (vn (a*b)):=by
 subst e
 have h':(a:Int)*(b:Int)=((a*b:Nat):Int):=by push_cast;rfl
 rw[tF (by rw[h'];omega) (by rw[h'];omega),h']
theorem Uk(b:Nat)(hb:b≤32):aj Pg X 241 [vn b] H (Q0 (fun v=>v=vn (b*78913/262144)) H):=by
 refine ce [0,2] ?_;refine tl ?_
 refine aL ?_
 refine PU.of (dZ aa) ?_
 refine rr ?_
 refine⟨?_,rfl⟩
 congr 1
 unfold lI
 show((b:Int)*78913).fdiv (2^18)=_
 rw[Int.fdiv_eq_ediv_of_nonneg _ (by decide)]
 omega
theorem Ul(c:Bool):aj Pg X 243 [.bool c] H (Q0 (fun v=>v=vn (if c=true then 1 else 0)) H):=by
 refine ce [0,2] ?_;refine tl ?_
 refine ak ?_
 refine aU (fun h=>?_) (fun h=>?_)
 ·refine rr ?_;exact⟨by show vn 1=_;rw[if_pos h],rfl⟩
 ·refine rr ?_;exact⟨by show vn 0=_;rw[if_neg (by simp[h])],rfl⟩
theorem Qx(hT:Tn H)(n:Nat)(h0:100≤n)(h1:n<2147483648):aj Pg X 150 [.int .u64 (n:Int)] H (Q0 (fun v=>∃k,v=vn k∧0<k∧k≤10∧10^(k -1)≤n∧n<10^k) H):=by
 refine ce [0,2,3] ?_;refine tl ?_
 refine aj.mono (Uj n aa aa) ?_
 rintro v H' ⟨⟨b,rfl,hb,hb0,g1,g2⟩,rfl⟩
 refine aj.mono (Uk b hb) ?_
 rintro v H' ⟨rfl,rfl⟩
 have W_:b<32:=by
  rcases Nat.lt_or_ge b 32 with h|h
  ·exact h
  ·exfalso
   obtain rfl:b=32:=by omega
   have:(2147483648:Nat)≤n:=g1
   omega
 obtain⟨e1,e2,e3,e4⟩:=J8 W_ hb0 g1 g2 h0
 have hd:=(wm b W_).1
 generalize b*78913/262144=d at e1 e2 e3 e4 hd⊢
 rw[kD (k:=d) aa]
 refine ak ?_
 refine ME.ld (by rw[Nat.mul_one];exact hT.pw d aa) ?_
 refine ak ?_
 refine aj.mono (Ul _) ?_
 rintro v H' ⟨rfl,rfl⟩
 have hc:(decide (((10^d:Nat):Int)≤(n:Int))=true)=(10^d≤n):=by
  rw[decide_eq_true_eq]
  exact propext Int.ofNat_le
 simp only[hc]
 refine PU.of (i_ _ rfl (by split<;>omega)) ?_
 refine rr ?_
 exact⟨⟨_,rfl,e1,e2,e3,e4⟩,rfl⟩
abbrev jo:ByteArray:=⟨((([48,48,48,49,48,50,48,51,48,52,48,53,48,54,48,55,48,56,48,57,49,48,49,49,49,50,49,51,49,52,49,53,49,54,49,55,49,56,49,57,50,48,50,49,50,50,50,51,50,52].append [50,53,50,54,50,55,50,56,50,57,51,48,51,49,51,50,51,51,51,52,51,53,51,54,51,55,51,56,51,57,52,48,52,49,52,50,52,51,52,52,52,53,52,54,52,55,52,56,52,57]).append ([53,48,53,49,53,50,53,51,53,52,53,53,53,54,53,55,53,56,53,57,54,48,54,49,54,50,54,51,54,52,54,53,54,54,54,55,54,56,54,57,55,48,55,49,55,50,55,51,55,52].append [55,53,55,54,55,55,55,56,55,57,56,48,56,49,56,50,56,51,56,52,56,53,56,54,56,55,56,56,56,57,57,48,57,49,57,50,57,51,57,52,57,53,57,54,57,55,57,56,57,57])).toArray)⟩
theorem nJ:tx jo=smalls:=by kernel_rfl
theorem zk:smalls.length=200:=by decide +kernel
theorem F6:∀k,k<100→((smalls).drop (2*k)).take 2=[48 +k/10,48 +k %10]:=by decide +kernel
theorem F7:∀k,k<10→((tx ⟨#[48,49,50,51,52,53,54,55,56,57,97,98,99,100,101,102,103,104,105,106,107,108,109,110,111,112,113,114,115,116,117,118,119,120,121,122]⟩).drop k).take 1=[48 +k]:=by decide +kernel
theorem Um(n:Nat)(hn:n<100):aj Pg X 149 [vn n] H (Q0 (zV (tZ n)) H):=by
 refine ce [0,2] ?_;refine tl ?_
 refine ak ?_
 refine ai (fun h=>?_) (fun h=>?_)
 ·refine PU.of (i_ 1 rfl aa) ?_
  rw[iM aa (by show n +1≤36;omega)]
  refine ak ?_
  refine rr ?_
  refine⟨⟨_,rfl,?_⟩,rfl⟩
  rw[Ch,rT aa]
  exact F7 n aa
 ·refine PU.of (mulR 2 rfl aa) ?_
  refine PU.of (mulR 2 rfl aa) ?_
  refine PU.of (i_ 2 rfl aa) ?_
  rw[iM (s:=jo) aa (by rw[←aW,nJ,zk];omega)]
  refine ak ?_
  refine rr ?_
  refine⟨⟨_,rfl,?_⟩,rfl⟩
  rw[qD,nJ,Nat.add_sub_cancel_left,Nat.mul_comm n 2,F6 n hn,yV aa,rT aa];rfl
section bin
variable{P:Program}{t:TypeId}{ox oy:Operand}{a b:Nat}{k:IntKind}
theorem Xa(hb:0<b):bq P .rem t ox oy (.int k (a:Int)) (.int k (b:Int))=some (.int k ((a %b:Nat):Int)):=aV rfl (by
 show bD (Op.intDiv .rem k a b)=_
 unfold Op.intDiv
 rw[if_neg aa]
 show some (Value.int k ((a:Int).tmod b))=_
 rw[show(a:Int).tmod b=((a %b:Nat):Int)from by rw[Int.tmod_eq_emod_of_nonneg aa];rfl])
theorem Xb(hb:0<b)(h:k.wrap ((a/b:Nat):Int)=((a/b:Nat):Int)):bq P .quo t ox oy (.int k (a:Int)) (.int k (b:Int))=some (.int k ((a/b:Nat):Int)):=aV rfl (by
 show bD (Op.intDiv .quo k a b)=_
 unfold Op.intDiv
 rw[if_neg aa]
 show some (Value.int k (k.wrap ((a:Int).tdiv b)))=_
 rw[show(a:Int).tdiv b=((a/b:Nat):Int)from by rw[Int.tdiv_eq_ediv_of_nonneg aa];rfl,h])
theorem wrap_u32(h:a<4294967296):IntKind.wrap .u32 (a:Int)=(a:Int):=by
 simp[IntKind.wrap,IntKind.bits,IntKind.signed];omega
theorem zl{z:Int}(b:Nat)(e:z=(b:Int))(h:a*b<4294967296):bq P .mul t ox oy (.int .u32 (a:Int)) (.int .u32 z)=some (.int .u32 ((a*b:Nat):Int)):=by
 subst e
 exact aV rfl (by show some (Value.int .u32 (aT .u32 ((a:Int)*b)))=_;rw[show(a:Int)*b=((a*b:Nat):Int)from by push_cast;rfl,eG (wrap_u32 h)])
theorem add32{z:Int}(b:Nat)(e:z=(b:Int))(h:a +b<4294967296):bq P .add t ox oy (.int .u32 (a:Int)) (.int .u32 z)=some (.int .u32 ((a +b:Nat):Int)):=by
 subst e
 exact aV rfl (by show some (Value.int .u32 (aT .u32 ((a:Int) +b)))=_;rw[show(a:Int) +b=((a +b:Nat):Int)from by push_cast;rfl,eG (wrap_u32 h)])
theorem Ba{z:Int}(b:Nat)(e:z=(b:Int))(hb:0<b):bq P .rem t ox oy (.int .u32 (a:Int)) (.int .u32 z)=some (.int .u32 ((a %b:Nat):Int)):=by subst e;exact Xa hb
theorem Bb{z:Int}(b:Nat)(e:z=(b:Int))(hb:0<b)(h:a<4294967296):bq P .quo t ox oy (.int .u32 (a:Int)) (.int .u32 z)=some (.int .u32 ((a/b:Nat):Int)):=by
 subst e;exact Xb hb (wrap_u32 (Nat.lt_of_le_of_lt (Nat.div_le_self a b) h))
theorem Xc{z:Int}(b:Nat)(e:z=(b:Int))(hb:0<b):bq P .rem t ox oy (.int .u64 (a:Int)) (.int .u64 z)=some (.int .u64 ((a %b:Nat):Int)):=by subst e;exact Xa hb
theorem Xd{z:Int}(b:Nat)(e:z=(b:Int))(hb:0<b)(h:a<18446744073709551616):bq P .quo t ox oy (.int .u64 (a:Int)) (.int .u64 z)=some (.int .u64 ((a/b:Nat):Int)):=by
 subst e;exact Xb hb (wrap_u64 (Nat.lt_of_le_of_lt (Nat.div_le_self a b) h))
theorem Oc{z:Int}(b:Nat)(e:z=(b:Int))(h:b≤a)(ha:a≤9223372036854775807):bq P .sub t ox oy (vn a) (.int .i64 z)=some (vn (a -b)):=by
 subst e
 rw[iL aa aa,show((a:Int) -b)=((a -b:Nat):Int)from by omega]
end bin
theorem pW{cs D:List Value}{p:Nat}{b:Value}(h:p +1 +D.length≤cs.length):splice (splice cs (p +1) D) p [b]=splice cs p (b::D):=by
 apply List.ext_getElem?
 intro i
 rw[dw (by rw[bn h,List.length_singleton];omega),dw h,dw (by rw[List.length_cons];omega)]
 simp only[List.length_cons,List.length_nil]
 by_cases h1:i=p
 ·subst h1
  rw[if_pos aa,if_pos aa,Nat.sub_self];rfl
 ·rw[if_neg aa]
  by_cases h2:p +1≤i∧i<p +1 +D.length
  ·rw[if_pos h2,if_pos aa,show i -p=(i -(p +1)) +1 by omega];rfl
  ·rw[if_neg h2,if_neg aa]
theorem zm:∀(j i n:Nat),gP (i +j) n=gP i (n/10^j)++gP j n:=by
 intro j
 induction j with
 |zero=>intro i n;simp[gP]
 |succ j ih=>
  intro i n
  show gP (i +j) (n/10)++[_]=_
  rw[ih i (n/10),Nat.div_div_eq_div_mul,Nat.pow_succ,Nat.mul_comm 10,List.append_assoc];rfl
theorem jN(j n p:Nat)(h:n/10^j %100=p):gP (j +2) n=[48 +p/10,48 +p %10]++gP j n:=by
 rw[Nat.add_comm,zm j 2 n,show(2:Nat)=0 +2 from rfl,NJ,h];rfl
theorem pair{P:Program}{t1 t2 t3:TypeId}{o1 o2 o3 o4 o5 o6:Operand}{r:Nat}{ty:TypeId}{cs:List Value}{o nd n c p:Nat}{D:List Nat}(a:Nat){za zb zc:Int}(ea:za=((a:Nat):Int))(eb:zb=((a +1:Nat):Int))(ec:zc=((1:Nat):Int))
 (hS:SH [] H0 H ((r,ty,splice cs (o +(nd -(a -1))) (D.map iK))::L))(h1:1≤a)(h2:a +1≤nd)(hn:nd≤n)(hnn:n≤1000000)(hl:o +(nd -(a -1)) +D.length≤cs.length)(hp:p<100)
 {K:Value→Value→Value→Value→Value→Value→Value→ag→Value→Value→ag→Prop}
 (k:∀H1 H2 q1 q2,q1=Value.pointer (some ⟨r,o +(nd -a)*1,none⟩)→q2=Value.pointer (some ⟨r,o +(nd -(a +1))*1,none⟩)→SH [] H0 (hM (hM H H1) H2) ((r,ty,splice cs (o +(nd -(a +1))) (((48 +p/10)::(48 +p %10)::D).map iK))::L)→K (vn (nd -a)) (vn (nd -(a +1))) (.int .u32 ((p*2 +1:Nat):Int)) (iK (48 +p %10)) (iK (48 +p/10)) q1 undef H1 q2 undef H2):
 PU (bq P .sub t1 o1 o2 (vn nd) (.int .i64 za)) fun v=>PU (bq P .sub t2 o3 o4 (vn nd) (.int .i64 zb)) fun v1=>PU (bq P .add t3 o5 o6 (.int .u32 ((p*2:Nat):Int)) (.int .u32 zc)) fun v2=>PU (BV (.string jo) v2) fun v3=>PU (BV (.string jo) (.int .u32 ((p*2:Nat):Int))) fun v4=>
  PU (DF 1 (.slice (some ⟨r,o,none⟩) n c) v) fun v5=>ME (EH 1 v5 v3 (hN H)) fun v6 H1=>PU (DF 1 (.slice (some ⟨r,o,none⟩) n c) v1) fun v7=>ME (EH 1 v7 v4 (hN (hM H H1))) fun v8 H2=>K v v1 v2 v3 v4 v5 v6 H1 v7 v8 H2:=by
 have hsz:jo.size=200:=by rw[←aW,nJ,zk]
 have sa:=J7 p hp
 have g0:(tx jo).getD (p*2) 0=48 +p/10:=by rw[nJ,List.getD_eq_getElem?_getD,Nat.mul_comm p 2,sa.1];rfl
 have g1:(tx jo).getD (p*2 +1) 0=48 +p %10:=by rw[nJ,List.getD_eq_getElem?_getD,Nat.mul_comm p 2,sa.2];rfl
 refine PU.of (Oc a ea aa aa) ?_
 refine PU.of (Oc (a +1) eb aa aa) ?_
 refine PU.of (add32 1 ec aa) ?_
 have i1:BV (.string jo) (.int .u32 ((p*2 +1:Nat):Int))=some (iK (48 +p %10)):=by rw[←g1];exact(kr (s:=jo) (p*2 +1) rfl aa).1
 have i0:BV (.string jo) (.int .u32 ((p*2:Nat):Int))=some (iK (48 +p/10)):=by rw[←g0];exact(kr (s:=jo) (p*2) rfl aa).1
 refine PU.of i1 ?_
 refine PU.of i0 ?_
 refine PU.of (nW (k:=nd -a) aa) ?_
 have hlen:(splice cs (o +(nd -(a -1))) (D.map iK)).length=cs.length:=bn (by simpa using hl)
 refine hS.MM 0 rfl rfl (by rw[hlen];omega) rfl fun H1 hS=>?_
 have e1:splice (splice cs (o +(nd -(a -1))) (D.map iK)) (o +(nd -a)*1) (ax (iK (48 +p %10)))=splice cs (o +(nd -a)) (((48 +p %10)::D).map iK):=by
  rw[show o +(nd -(a -1))=o +(nd -a) +1 by omega,Nat.mul_one]
  exact pW (by simp;omega)
 have hS:SH [] H0 (hM H H1) ((r,ty,splice cs (o +(nd -a)) (((48 +p %10)::D).map iK))::L):=by rw[←e1];exact hS
 refine PU.of (nW (k:=nd -(a +1)) aa) ?_
 have hlen:(splice cs (o +(nd -a)) (((48 +p %10)::D).map iK)).length=cs.length:=bn (by simp;omega)
 refine hS.MM 0 rfl rfl (by rw[hlen];omega) rfl fun H2 hS=>?_
 have e2:splice (splice cs (o +(nd -a)) (((48 +p %10)::D).map iK)) (o +(nd -(a +1))*1) (ax (iK (48 +p/10)))=splice cs (o +(nd -(a +1))) (((48 +p/10)::(48 +p %10)::D).map iK):=by
  rw[show o +(nd -a)=o +(nd -(a +1)) +1 by omega,Nat.mul_one]
  exact pW (by simp;omega)
 have hS:SH [] H0 (hM (hM H H1) H2) ((r,ty,splice cs (o +(nd -(a +1))) (((48 +p/10)::(48 +p %10)::D).map iK))::L):=by rw[←e2];exact hS
 exact k H1 H2 _ _ rfl rfl hS
end
section
variable{H0 H:ag}{L:List bF}
theorem F8(cs:List Value)(p:Nat):splice cs p []=cs:=by unfold splice;simp
theorem div_pow(n j i:Nat):n/10^(j +i)=n/10^j/10^i:=by rw[Nat.pow_add,Nat.div_div_eq_div_mul]
theorem zn{n k j:Nat}(h:n<10^k)(hj:j≤k):n/10^j<10^(k -j):=by
 refine Nat.div_lt_of_lt_mul ?_
 rw[←Nat.pow_add,show j +(k -j)=k by omega];exact h
set_option maxHeartbeats 16000000 in
theorem Un{r:Nat}{ty:TypeId}{cs:List Value}{o k c n:Nat}(hS:SH [] H0 H ((r,ty,cs)::L))(hk0:0<k)(hk:k≤10)(hn:n<10^k)(hl:o +k≤cs.length)(hcl:cs.length≤1000000):
 aj Pg X 151 [.slice (some ⟨r,o,none⟩) k c,.int .u64 (n:Int)] H fun _ H'=>SH [] H0 H' ((r,ty,splice cs o ((gP k n).map iK))::L):=by
 have Za:n<10000000000:=Nat.lt_of_lt_of_le hn (Nat.pow_le_pow_right (n:=10) (by decide) hk)
 have dl:∀j,((gP j n).map iK).length=j:=fun j=>by rw[List.length_map,gI]
 refine ce [0,1,4,5,6,7,8,9,10,11,12,13,14,15,16] ?_;refine tl ?_
 refine ak ?_
 refine lp9 1 4 5 6 7 8 9 10 11 (I:=fun m x1 x4 x5 x6 x7 x8 x9 eZ jK H'=>∃j,j≤k∧x1=.int .u64 ((n/10^j:Nat):Int)∧x4=vn (k -j)∧SH [] H0 H' ((r,ty,splice cs (o +(k -j)) ((gP j n).map iK))::L)∧m=k -j) ?_ k
  ⟨0,Nat.zero_le _,by show Value.int .u64 (n:Int)=_;rw[Nat.pow_zero,Nat.div_one],rfl,by rw[show gP 0 n=[]from rfl,List.map_nil,F8];exact hS,rfl⟩
 rintro m x1 x4 x5 x6 x7 x8 x9 eZ jK rg H1 ⟨j,hj,rfl,rfl,hS,rfl⟩
 have s3:∀(j:Nat)(y1 y5 y6 y7 y8 y9 Eu Ss y13 Od Oe IM:Value)(rg:Rs){H2:ag},j≤k→k -j≤1→SH [] H0 H2 ((r,ty,splice cs (o +(k -j)) ((gP j n).map iK))::L)→
  bC Pg X (sub fG [1,1,1,1,1]) (F Pg 151 (.c 0 (.slice (some ⟨r,o,none⟩) k c)<|.c 1 y1<|.c 4 (vn (k -j))<|.c 5 y5<|.c 6 y6<|.c 7 y7<|.c 8 y8<|.c 9 y9<|.c 10 Eu<|.c 11 Ss<|.c 12 (.int .u32 ((n/10^j:Nat):Int))<|.c 13 y13<|.c 14 Od<|.c 15 Oe<|.c 16 IM .n) rg H2)
   (fD Pg [] (fun _ H'=>SH [] H0 H' ((r,ty,splice cs o ((gP k n).map iK))::L))):=by
  intro j y1 y5 y6 y7 y8 y9 Eu Ss y13 Od Oe IM rg H2 hj hkj hS
  refine tl ?_
  refine ak ?_
  refine ai (fun h=>?_) (fun h=>?_)
  ·obtain⟨rfl⟩:k=j +1:=by omega
   have hx:=zn hn hj
   rw[show j +1 -j=1 by omega]at hx hS
   refine PU.of (v:=.int .u32 ((48 +n/10^j:Nat):Int)) ?_ ?_
   ·exact add32 (a:=48) (n/10^j) rfl aa
   rw[dL,eG (t_ aa)]
   refine PU.of rfl ?_
   refine PU.of (nW (k:=0) aa) ?_
   have hlen:(splice cs (o +1) ((gP j n).map iK)).length=cs.length:=bn (by rw[dl];omega)
   refine hS.st 0 rfl rfl (by rw[hlen];omega) rfl fun H3 hS=>?_
   refine rn ?_
   have e1:splice (splice cs (o +1) ((gP j n).map iK)) (o +0*1) (ax (iK (48 +n/10^j)))=splice cs o ((gP (j +1) n).map iK):=by
    rw[Nat.add_comm j 1,zm j 1 n,show gP 1 (n/10^j)=[48 +n/10^j]from by show[48 +n/10^j %10]=_;rw[Nat.mod_eq_of_lt hx]]
    exact pW (by rw[dl];omega)
   rw[←e1];exact hS
  ·obtain rfl:j=k:=by omega
   refine rn ?_
   rw[Nat.sub_self]at hS
   exact hS
 have s2:∀(j:Nat)(y1 y5 y6 y7 y8 y9 Eu Ss y13 Od Oe IM:Value)(rg:Rs){H2:ag},j≤k→k -j≤3→SH [] H0 H2 ((r,ty,splice cs (o +(k -j)) ((gP j n).map iK))::L)→
  bC Pg X (sub fG [1,1,1,1]) (F Pg 151 (.c 0 (.slice (some ⟨r,o,none⟩) k c)<|.c 1 y1<|.c 4 (vn (k -j))<|.c 5 y5<|.c 6 y6<|.c 7 y7<|.c 8 y8<|.c 9 y9<|.c 10 Eu<|.c 11 Ss<|.c 12 (.int .u32 ((n/10^j:Nat):Int))<|.c 13 y13<|.c 14 Od<|.c 15 Oe<|.c 16 IM .n) rg H2)
   (fD Pg [] (fun _ H'=>SH [] H0 H' ((r,ty,splice cs o ((gP k n).map iK))::L))):=by
  intro j y1 y5 y6 y7 y8 y9 Eu Ss y13 Od Oe IM rg H2 hj hkj hS
  have hx:=zn hn hj
  have hx2:n/10^j<1000:=Nat.lt_of_lt_of_le hx (Nat.pow_le_pow_right (n:=10) (by decide) hkj)
  refine tl ?_
  refine ak ?_
  refine ai (fun h=>?_) (fun h=>s3 j _ _ _ _ _ _ _ _ _ _ _ _ _ hj aa hS)
  refine PU.of (Ba 100 rfl (by decide)) ?_
  refine PU.of (zl 2 rfl aa) ?_
  refine PU.of (Bb 100 rfl (by decide) aa) ?_
  refine pair (nd:=k -j) (cs:=cs) (D:=gP j n) 1 rfl rfl rfl hS (by decide) aa aa aa (by rw[gI];omega) aa ?_
  rintro H3 H4 _ _ rfl rfl hS
  refine⟨by kernel_rfl,?_⟩
  refine PU.of (Oc 2 rfl aa aa) ?_
  rw[show k -j -2=k -(j +2) by omega,show n/10^j/100=n/10^(j +2)from by rw[div_pow]]
  refine s3 (j +2) _ _ _ _ _ _ _ _ _ _ _ _ _ aa aa ?_
  rw[jN j n _ rfl,←show k -j -(1 +1)=k -(j +2) by omega];exact hS
 refine tl ?_
 refine ak ?_
 refine ai (fun h8=>?_) (fun h8=>?_)
 ·have hu:n/10^j<10000000000:=Nat.lt_of_le_of_lt (Nat.div_le_self _ _) Za
  have hd:=div_pow n j
  generalize hue:n/10^j=u at hu hd⊢
  refine PU.of (Xc 100000000 rfl (by decide)) ?_
  rw[dL,eG (wrap_u32 aa)]
  refine PU.of rfl ?_
  refine PU.of (Xd 100000000 rfl (by decide) aa) ?_
  refine PU.of (Bb 10000 rfl (by decide) aa) ?_
  refine PU.of (Ba 10000 rfl (by decide)) ?_
  refine PU.of (Bb 100 rfl (by decide) aa) ?_
  refine PU.of (zl 2 rfl aa) ?_
  refine PU.of (Ba 100 rfl (by decide)) ?_
  refine PU.of (zl 2 rfl aa) ?_
  refine PU.of (Bb 100 rfl (by decide) aa) ?_
  refine PU.of (zl 2 rfl aa) ?_
  refine PU.of (Ba 100 rfl (by decide)) ?_
  refine PU.of (zl 2 rfl aa) ?_
  refine pair (nd:=k -j) (cs:=cs) (D:=gP j n) 1 rfl rfl rfl hS (by decide) aa aa aa (by rw[gI];omega) aa ?_
  rintro H3 H4 _ _ rfl rfl hS
  refine⟨by kernel_rfl,?_⟩
  refine pair (nd:=k -j) (cs:=cs) 3 rfl rfl rfl hS (by decide) aa aa aa (by simp only[List.length_cons,gI];omega) aa ?_
  rintro H5 H6 _ _ rfl rfl hS
  refine⟨by kernel_rfl,?_⟩
  refine pair (nd:=k -j) (cs:=cs) 5 rfl rfl rfl hS (by decide) aa aa aa (by simp only[List.length_cons,gI];omega) aa ?_
  rintro H7 H8 _ _ rfl rfl hS
  refine⟨by kernel_rfl,?_⟩
  refine pair (nd:=k -j) (cs:=cs) 7 rfl rfl rfl hS (by decide) aa aa aa (by simp only[List.length_cons,gI];omega) aa ?_
  rintro H9 ZR _ _ rfl rfl hS
  refine⟨by kernel_rfl,?_⟩
  refine PU.of (Oc 8 rfl aa aa) ?_
  refine⟨k -(j +8),aa,_,_,_,_,_,_,_,_,_,_,_,rfl,j +8,aa,?_,by first|rfl|(congr 1;omega),?_,rfl⟩
  ·rw[hd 8]
  ·have e:gP (j +8) n=(48 +u %100000000/10000/100/10)::(48 +u %100000000/10000/100 %10)::(48 +u %100000000/10000 %100/10)::(48 +u %100000000/10000 %100 %10)::(48 +u %100000000 %10000/100/10)::(48 +u %100000000 %10000/100 %10)::(48 +u %100000000 %10000 %100/10)::(48 +u %100000000 %10000 %100 %10)::gP j n:=by
    rw[show j +8=j +6 +2 from rfl,jN (j +6) n (u %100000000/10000/100) (by rw[hd 6];omega),show j +6=j +4 +2 from rfl,jN (j +4) n (u %100000000/10000 %100) (by rw[hd 4];omega),show j +4=j +2 +2 from rfl,jN (j +2) n (u %100000000 %10000/100) (by rw[hd 2];omega),jN j n (u %100000000 %10000 %100) (by rw[hue];omega)];rfl
   rw[e,←show k -j -(7 +1)=k -(j +8) by omega];exact hS
 ·have hx:=zn hn hj
  have hx2:n/10^j<10000000:=Nat.lt_of_lt_of_le hx (Nat.pow_le_pow_right (n:=10) (by decide) (by omega:k -j≤7))
  refine tl ?_
  rw[dL,eG (wrap_u32 aa)]
  refine PU.of rfl ?_
  refine ak ?_
  refine ai (fun h4=>?_) (fun h4=>?_)
  ·refine PU.of (Ba 10000 rfl (by decide)) ?_
   refine PU.of (Bb 10000 rfl (by decide) aa) ?_
   refine PU.of (Bb 100 rfl (by decide) aa) ?_
   refine PU.of (zl 2 rfl aa) ?_
   refine PU.of (Ba 100 rfl (by decide)) ?_
   refine PU.of (zl 2 rfl aa) ?_
   refine pair (nd:=k -j) (cs:=cs) (D:=gP j n) 1 rfl rfl rfl hS (by decide) aa aa aa (by rw[gI];omega) aa ?_
   rintro H3 H4 _ _ rfl rfl hS
   refine⟨by kernel_rfl,?_⟩
   refine pair (nd:=k -j) (cs:=cs) 3 rfl rfl rfl hS (by decide) aa aa aa (by simp only[List.length_cons,gI];omega) aa ?_
   rintro H5 H6 _ _ rfl rfl hS
   refine⟨by kernel_rfl,?_⟩
   refine PU.of (Oc 4 rfl aa aa) ?_
   have hd:=div_pow n j
   rw[show k -j -4=k -(j +4) by omega,show n/10^j/10000=n/10^(j +4)from(hd 4).symm]
   refine s2 (j +4) _ _ _ _ _ _ _ _ _ _ _ _ _ aa aa ?_
   have e:gP (j +4) n=(48 +n/10^j %10000/100/10)::(48 +n/10^j %10000/100 %10)::(48 +n/10^j %10000 %100/10)::(48 +n/10^j %10000 %100 %10)::gP j n:=by
    rw[show j +4=j +2 +2 from rfl,jN (j +2) n (n/10^j %10000/100) (by rw[hd 2];omega),jN j n (n/10^j %10000 %100) aa];rfl
   rw[e,←show k -j -(3 +1)=k -(j +4) by omega];exact hS
  ·exact s2 j _ _ _ _ _ _ _ _ _ _ _ _ _ hj aa hS
theorem Uo(hw:Wf H)(hT:Tn H)(n:Nat)(hn:n<2147483648):aj Pg X 81 [vn n,vi 10] H (Q1 (fun v _=>zV (tZ n) v) H):=by
 refine ce [0,1,4,5,6,7,9] ?_;refine tl ?_
 refine ak ?_
 refine ai (fun h=>?_) (fun h=>absurd trivial h)
 refine ai (fun h0=>?_) (fun h0=>absurd aa h0)
 refine ai (fun h1=>?_) (fun h1=>?_)
 ·refine aj.mono (Um n aa) ?_
  rintro v H' ⟨h,rfl⟩
  refine rr ?_;exact⟨h,Ext.refl _⟩
 refine tl ?_
 refine(SH.refl hw).fE fun H1 r hS=>?_
 refine ak ?_
 rw[decide_eq_false aa,eG (wrap_u64 aa)]
 refine ak ?_
 refine tl ?_
 refine aj.mono (Qx (hT.ex hS.ext) n aa hn) ?_
 rintro v H' ⟨⟨k,rfl,hk0,hk,g1,g2⟩,rfl⟩
 refine PU.of (v:=vn (1 +k)) (i_ (a:=1) k rfl aa) ?_
 have hsl:k_ Pg 264 (.pointer (some ⟨r,0,none⟩)) (some (.int .i64 1)) (some (vn (1 +k))) none=some (.slice (some ⟨r,1,none⟩) k 23):=by
  rcases(by omega:k=1∨k=2∨k=3∨k=4∨k=5∨k=6∨k=7∨k=8∨k=9∨k=10)with rfl|rfl|rfl|rfl|rfl|rfl|rfl|rfl|rfl|rfl<;>kernel_rfl
 refine PU.of hsl ?_
 refine aj.mono (Un hS hk0 hk g2 (by show 1 +k≤24;omega) (by show 24≤1000000;omega)) ?_
 intro v H2 hS
 refine ak ?_
 rw[decide_eq_false aa]
 refine ak ?_
 refine PU.of (v:=vn (1 +k)) (i_ (a:=1) k rfl aa) ?_
 refine PU.of hsl ?_
 refine N6 (l:=gP k n) ?_ ?_ fun t ht=>?_
 ·have:∀(k n:Nat),∀x∈gP k n,x<256:=by
   intro k
   induction k with
   |zero=>intro n x h;cases h
   |succ k ih=>
    intro n x h
    rcases List.mem_append.1 h with h|h
    ·exact ih _ x h
    ·simp at h;omega
  exact this k n
 ·rw[(hS.get 0 rfl).read (by rw[bn (by rw[List.length_map,gI];show 1 +k≤24;omega)];show 1 +k≤24;omega)]
  congr 1
  apply List.ext_getElem?
  intro i
  rw[List.getElem?_take]
  split
  ·next hi=>rw[List.getElem?_drop,dw (by rw[List.length_map,gI];show 1 +k≤24;omega),if_pos (by rw[List.length_map,gI];omega),Nat.add_sub_cancel_left]
  ·next hi=>rw[List.getElem?_eq_none (by rw[List.length_map,gI];omega)]
 ·refine rr ?_
  refine⟨⟨t,rfl,?_⟩,hS.ext⟩
  rw[ht,NI k n g2 g1 hk0]
theorem Up(hw:Wf H)(hT:Tn H)(n:Nat)(hn:n<2147483648):aj Pg X 45 [vn n] H (Q1 (fun v _=>zV (tZ n) v) H):=by
 refine ce [0,2] ?_;refine tl ?_
 refine aj.mono (Uo hw hT n hn) ?_
 rintro v H' ⟨h,hx⟩
 refine rr ?_;exact⟨h,hx⟩
theorem Xe(hw:Wf H)(hT:Tn H)(n:Nat)(hn:n<2147483648):aj Pg X 15 [vn n] H (Q1 (fun v _=>zV (tZ n) v) H):=by
 refine ce [0,2] ?_;refine tl ?_
 refine aj.mono (Up hw hT n hn) ?_
 rintro v H' ⟨h,hx⟩
 refine rr ?_;exact⟨h,hx⟩
end
section
variable{H0 H:ag}{L:List bF}
theorem Qy:∀k,k<11→verbs.getD k []≠[]:=by decide
theorem Su(hw:Wf H)(k:Int):aj Pg X 14 [vi k] H (Q1 (fun v _=>∃t,v=.string t∧(0≤k∧k≤10→tx t=verbs.getD k.toNat []∧t≠⟨#[]⟩∧t.size≤8)∧(¬(0≤k∧k≤10)→t=⟨#[]⟩)) H):=by
 refine ce [0,2,3] ?_;refine tl ?_
 refine PU.of (v:=.agg ⟨Es.map .string⟩) (by kernel_rfl) ?_
 refine(SH.refl hw).fE fun H1 r hS=>?_
 refine hS.st 0 rfl rfl (by show 0 +11≤11;omega) rfl fun H2 hS=>?_
 have hS:SH [] H H2 [(r,99,Es.map .string)]:=hS
 refine ak ?_
 refine ai (fun h1=>?_) (fun h1=>?_)
 ·refine rr ?_;exact⟨⟨_,rfl,fun h=>absurd h aa,fun _=>rfl⟩,hS.ext⟩
 refine ai (fun h2=>?_) (fun h2=>?_)
 ·refine rr ?_;exact⟨⟨_,rfl,fun h=>absurd h aa,fun _=>rfl⟩,hS.ext⟩
 obtain⟨kn,rfl⟩:∃kn:Nat,k=kn:=⟨k.toNat,aa⟩
 obtain⟨vt,g1,g2,g3⟩:=IE kn aa
 refine tl ?_
 rw[kD (k:=kn) aa]
 refine ak ?_
 refine hS.ld 0 rfl (v:=.string vt) (by rw[Nat.mul_one,List.getElem?_map,g1];rfl) ?_
 refine rr ?_
 refine⟨⟨_,rfl,fun _=>⟨g2,fun e=>?_,g3⟩,fun h=>absurd aa h⟩,hS.ext⟩
 have:=Qy kn aa
 rw[←g2,e]at this
 exact this rfl
theorem Cq(k:Nat)(hk:k≤10):aj Pg X 16 [vn k] H (Q0 (fun v=>v=.tuple ⟨[vn (rU k),vn (nG k),.bool (decide (k≤2))]⟩) H):=by
 rcases(by omega:k=0∨k=1∨k=2∨k=3∨k=4∨k=5∨k=6∨k=7∨k=8∨k=9∨k=10)with rfl|rfl|rfl|rfl|rfl|rfl|rfl|rfl|rfl|rfl|rfl
 ·exact⟨_,H,⟨2,by show a_ Pg X 2 16 [vi 0] H=some (.tuple ⟨[vi 0,vi 0,.bool true]⟩,H);kernel_rfl⟩,rfl,rfl⟩
 ·exact⟨_,H,⟨2,by show a_ Pg X 2 16 [vi 1] H=some (.tuple ⟨[vi 0,vi 0,.bool true]⟩,H);kernel_rfl⟩,rfl,rfl⟩
 ·exact⟨_,H,⟨2,by show a_ Pg X 2 16 [vi 2] H=some (.tuple ⟨[vi 2,vi 2,.bool true]⟩,H);kernel_rfl⟩,rfl,rfl⟩
 ·exact⟨_,H,⟨2,by show a_ Pg X 2 16 [vi 3] H=some (.tuple ⟨[vi 0,vi 60,.bool false]⟩,H);kernel_rfl⟩,rfl,rfl⟩
 ·exact⟨_,H,⟨2,by show a_ Pg X 2 16 [vi 4] H=some (.tuple ⟨[vi 0,vi 60,.bool false]⟩,H);kernel_rfl⟩,rfl,rfl⟩
 ·exact⟨_,H,⟨2,by show a_ Pg X 2 16 [vi 5] H=some (.tuple ⟨[vi 1,vi 1,.bool false]⟩,H);kernel_rfl⟩,rfl,rfl⟩
 ·exact⟨_,H,⟨2,by show a_ Pg X 2 16 [vi 6] H=some (.tuple ⟨[vi 1,vi 1,.bool false]⟩,H);kernel_rfl⟩,rfl,rfl⟩
 ·exact⟨_,H,⟨2,by show a_ Pg X 2 16 [vi 7] H=some (.tuple ⟨[vi 0,vi 0,.bool false]⟩,H);kernel_rfl⟩,rfl,rfl⟩
 ·exact⟨_,H,⟨2,by show a_ Pg X 2 16 [vi 8] H=some (.tuple ⟨[vi 2,vi 2,.bool false]⟩,H);kernel_rfl⟩,rfl,rfl⟩
 ·exact⟨_,H,⟨2,by show a_ Pg X 2 16 [vi 9] H=some (.tuple ⟨[vi 0,vi 0,.bool false]⟩,H);kernel_rfl⟩,rfl,rfl⟩
 ·exact⟨_,H,⟨2,by show a_ Pg X 2 16 [vi 10] H=some (.tuple ⟨[vi 1,vi 1,.bool false]⟩,H);kernel_rfl⟩,rfl,rfl⟩
def zo(x:Int):Prop:=x<0∨2147483648≤x
instance(x:Int):Decidable (zo x):=inferInstanceAs (Decidable (_∨_))
theorem Qz(x:Int):aj Pg X 21 [vi x] H (Q0 (fun v=>v=.bool (decide (zo x))) H):=by
 refine ce [0,2] ?_;refine tl ?_
 refine ak ?_
 refine ai (fun h=>?_) (fun h=>?_)
 ·refine rr ?_;exact⟨by rw[decide_eq_true (show zo x from .inl h)],rfl⟩
 ·refine rr ?_
  refine⟨?_,rfl⟩
  have:(2147483647<x)=zo x:=propext ⟨fun g=>.inr aa,fun g=>by unfold zo at g;omega⟩
  simp only[this]
theorem Uq(hw:Wf H){a:Option Addr}{n c:Nat}{l:List Int}(hf:Fl H a n 1 (l.map vi))(hn:n≤1000000):aj Pg X 51 [.slice a n c,.func (.func 21) #[] #[]] H (Q0 (fun v=>∃z:Int,v=vi z∧(0≤z↔∃x∈l,zo x)) H):=by
 have hll:=Fl.len hf
 refine ce [0,1,4,5,7,8] ?_;refine tl ?_
 refine ak ?_
 refine Se 4 5 8 (I:=fun m x4 x5 x8 H'=>H'=H∧∃i:Nat,x8=vn i∧m +i=n∧∀x∈l.take i,¬zo x) ?_ n ⟨rfl,0,rfl,rfl,fun x h=>by simp at h⟩
 rintro m x4 x5 x8 rg H1 ⟨rfl,i,rfl,him,hall⟩
 refine tl ?_
 refine ak ?_
 refine ai (fun h=>?_) (fun h=>?_)
 ·have hil:i<l.length:=by omega
  refine Er hf aa ?_
  show aj Pg X 21 [vi (l.getD i 0)] H1 _
  refine aj.mono (Qz _) ?_
  rintro v H' ⟨rfl,rfl⟩
  refine ak ?_
  refine ai (fun g=>?_) (fun g=>?_)
  ·refine rr ?_
   exact⟨⟨_,rfl,fun _=>⟨_,uu hil,g⟩,fun _=>by omega⟩,rfl⟩
  ·refine PU.of (i_ 1 rfl aa) ?_
   refine⟨m -1,aa,_,_,_,_,_,rfl,rfl,i +1,rfl,aa,fun x hx=>?_⟩
   rw[vv hil,List.mem_append]at hx
   rcases hx with hx|hx
   ·exact hall x hx
   ·simp only[List.mem_singleton]at hx
    rw[hx];exact g
 ·refine tl ?_
  refine rr ?_
  rw[List.take_of_length_le aa]at hall
  exact⟨⟨_,rfl,fun h=>absurd h (by decide),fun⟨x,h1,h2⟩=>absurd h2 (hall x h1)⟩,rfl⟩
theorem Ur(hw:Wf H){a:Option Addr}{n c:Nat}{l:List Int}(hf:Fl H a n 1 (l.map vi))(hn:n≤1000000):aj Pg X 22 [.slice a n c,.func (.func 21) #[] #[]] H (Q0 (fun v=>∃b:Bool,v=.bool b∧(b=true↔∃x∈l,zo x)) H):=by
 refine ce [0,1,4] ?_;refine tl ?_
 refine aj.mono (Uq hw hf hn) ?_
 rintro v H' ⟨⟨z,rfl,hz⟩,rfl⟩
 refine ak ?_
 refine rr ?_
 exact⟨⟨_,rfl,by rw[decide_eq_true_iff];exact hz⟩,rfl⟩
abbrev Us(k:Int)(a:Option Addr)(n c:Nat)(s:ByteArray):Value:=.agg ⟨[vi k,.slice a n c,.string s]⟩
theorem Bc(hw:Wf H)(hT:Tb H)(hN:Tn H)(k:Int){a:Option Addr}{n c:Nat}{l:List Int}(hf:Fl H a n 1 (l.map vi))(hn:n≤1000000)(s:ByteArray)(hs:s.size≤100000):
 aj Pg X 7 [Us k a n c s] H (Q1 (fun v _=>∃b:Bool,v=.bool b∧(b=true↔ok k l (tx s))) H):=by
 have hll:=Fl.len hf
 have no:∀{P:Prop},¬P→∃b:Bool,Value.bool false=.bool b∧(b=true↔P):=fun h=>⟨false,rfl,fun g=>(by cases g),fun g=>absurd g h⟩
 refine ce [0,1,2,3,4,5,6] ?_;refine tl ?_
 refine(SH.refl hw).box rfl fun H1 r hS=>?_
 have hS:SH [] H H1 [(r,24,[vi k,.slice a n c,.string s])]:=hS
 refine ak ?_
 refine hS.ld 0 rfl rfl ?_
 refine aj.mono (Su hS.wf k) ?_
 rintro v H2 ⟨⟨t,rfl,ht1,ht2⟩,hx⟩
 have hS:=hS.call hx
 refine ak ?_
 refine ai (fun h1=>?_) (fun h1=>?_)
 ·refine rr ?_
  exact⟨no fun g=>(ht1 ⟨g.1,g.2.1⟩).2.1 h1,hS.ext⟩
 have hk:0≤k∧k≤10:=Decidable.byContradiction fun g=>h1 (ht2 g)
 obtain⟨kn,rfl⟩:∃kn:Nat,k=kn:=⟨k.toNat,aa⟩
 refine hS.ld 0 rfl rfl ?_
 refine aj.mono (Cq kn aa) ?_
 rintro v H3 ⟨rfl,rfl⟩
 refine ak ?_
 refine hS.ld 0 rfl rfl ?_
 refine ak ?_
 refine ai (fun h2=>?_) (fun h2=>?_)
 ·refine rr ?_
  exact⟨no fun g=>by have:=g.2.2.1;simp only[Int.toNat_natCast]at this;omega,hS.ext⟩
 refine hS.ld 0 rfl rfl ?_
 refine ak ?_
 refine ai (fun h3=>?_) (fun h3=>?_)
 ·refine rr ?_
  exact⟨no fun g=>by have:=g.2.2.2.1;simp only[Int.toNat_natCast]at this;omega,hS.ext⟩
 refine tl ?_
 refine ak ?_
 refine hS.ld 0 rfl rfl ?_
 refine aj.mono (Ur hS.wf (hf.ex hS.ext) hn) ?_
 rintro v H3 ⟨⟨b,rfl,hb⟩,rfl⟩
 refine ak ?_
 refine aU (fun h4=>?_) (fun h4=>?_)
 ·refine rr ?_
  refine⟨no fun g=>?_,hS.ext⟩
  obtain⟨x,hx,hx2⟩:=hb.1 h4
  have:=g.2.2.2.2.1 x hx
  unfold zo at hx2;omega
 have hall:∀x∈l,0≤x∧x<2147483648:=fun x hx=>by
  have:¬zo x:=fun g=>by rw[hb.2 ⟨x,hx,g⟩]at h4;cases h4
  unfold zo at this;omega
 have mk:(2<(kn:Int)→tx s=[])→(∃rs,wR (tx s) rs∧(quot rs).length≤20000)→ok (kn:Int) l (tx s):=fun h5 h6=>⟨hk.1,hk.2,by rw[hll];simp only[Int.toNat_natCast];omega,by rw[hll];simp only[Int.toNat_natCast];omega,hall,h5,h6⟩
 refine bz (fun h5=>?_) (fun h5=>?_)
 ·refine hS.ld 0 rfl rfl ?_
  refine ak ?_
  refine rr ?_
  refine⟨⟨_,rfl,?_⟩,hS.ext⟩
  rw[decide_eq_true_iff]
  constructor
  ·intro h;exact mk (fun _=>oo.2 h) ⟨[],by rw[h];exact⟨rfl,fun _ h=>nomatch h⟩,by decide⟩
  ·intro g;exact oo.1 (g.2.2.2.2.2.1 aa)
 ·refine hS.ld 0 rfl rfl ?_
  refine aj.mono (Ui hS.wf (hT.ex hS.ext) s aa) ?_
  rintro v H4 ⟨⟨b,rfl,hb⟩,hx⟩
  have hS:=hS.call hx
  refine ak ?_
  refine aU (fun h6=>?_) (fun h6=>?_)
  ·obtain⟨rs,hrs⟩:=hb.1 h6
   refine hS.ld 0 rfl rfl ?_
   refine aj.mono (N_ hS.wf (hT.ex hS.ext) (hN.ex hS.ext) s hs hrs) ?_
   rintro v H5 ⟨⟨t,rfl,ht⟩,hx⟩
   have hS:=hS.call hx
   have hts:=dB ht
   refine ak ?_
   refine rr ?_
   refine⟨⟨_,rfl,?_⟩,hS.ext⟩
   rw[decide_eq_true_iff]
   constructor
   ·intro h;exact mk (fun h=>by omega) ⟨rs,hrs,aa⟩
   ·rintro⟨_,_,_,_,_,_,rs',h6,h7⟩
    have:=wR.uniq hrs h6
    subst this;omega
  ·refine rr ?_
   exact⟨no (fun g=>by obtain⟨rs,g6,_⟩:=g.2.2.2.2.2.2;rw[hb.2 ⟨rs,g6⟩]at h6;cases h6),hS.ext⟩
end
section
variable{H0 H:ag}{L:List bF}
abbrev strs(ts:List ByteArray):List Value:=ts.map .string
theorem Ut{a:Option Addr}{n c i:Nat}{z:Int}{ts:List ByteArray}(ez:z=(i:Int))(hf:Fl H a n 1 (strs ts)){t:ByteArray}(hi:ts[i]?=some t){K:Value→ag→Prop}(k:K (.string t) H):PU (DF 1 (.slice a n c) (.int .i64 z)) fun p=>ME (mU none p H) K:=by
 subst ez
 have hl:=hf.1
 simp only[List.length_map,Nat.mul_one]at hl
 have hlt:=(List.getElem?_eq_some_iff.1 hi).1
 obtain⟨r,o,e,hr,hc,_⟩:=hf.idx (c:=c) (by decide) (k:=i) aa
 rw[e]
 show ME (mU none (.pointer (some ⟨r,o,none⟩)) H) K
 refine ME.ld (v:=.string t) (hc 0 _ (by decide) ?_) k
 rw[Nat.mul_one,Nat.add_zero,List.getElem?_map,hi];rfl
theorem Zb{a:Option Addr}{n c i:Nat}{ts:List ByteArray}(hf:Fl H a n 1 (strs ts)){t:ByteArray}(hi:ts[i]?=some t):∃p,DF 1 (.slice a n c) (vn i)=some p∧∀{K:Value→ag→Prop},K (.string t) H→ME (mU none p H) K:=by
 have hl:=hf.1
 simp only[List.length_map,Nat.mul_one]at hl
 have hlt:=(List.getElem?_eq_some_iff.1 hi).1
 obtain⟨r,o,e,hr,hc,_⟩:=hf.idx (c:=c) (by decide) (k:=i) aa
 refine⟨_,e,fun k=>ME.ld (v:=.string t) (hc 0 _ (by decide) ?_) k⟩
 rw[Nat.mul_one,Nat.add_zero,List.getElem?_map,hi];rfl
theorem Uu{v:Value}{ts:List ByteArray}{gb:List bF}(hg:GK 9 1 v (strs ts) gb)(h0:1<ts.length):∃r c,UO 1 v (some (.int .i64 1)) none none=some (.slice (some ⟨r,1,none⟩) (ts.length -1) c)∧∀{H':ag}{L':List bF},SH [] H0 H' (gb++L')→Fl H' (some ⟨r,1,none⟩) (ts.length -1) 1 (strs ts.tail):=by
 have key:∀(r:Nat)(dK:List Value){H':ag}{L':List bF},SH [] H0 H' ([(r,9,strs ts++dK)]++L')→Fl H' (some ⟨r,1,none⟩) (ts.length -1) 1 (strs ts.tail):=by
  intro r dK H' L' hS
  refine⟨by simp,fun i x hi=>⟨r,1,rfl,(hS.lo _ (List.mem_cons_self ..)).2,?_⟩⟩
  refine(hS.get 0 rfl).cell ?_
  have hlt:=(List.getElem?_eq_some_iff.1 hi).1
  simp only[List.length_map,List.length_tail]at hlt
  rw[List.getElem?_append_left (by simp;omega),←hi,Nat.add_comm]
  unfold strs
  rw[List.getElem?_map,List.getElem?_map,List.getElem?_tail]
 have hn:∀{n:Nat},(strs ts).length=n*1→n=ts.length:=fun h=>by simp at h;omega
 rcases hg with(⟨_,h,_⟩|⟨r,n,dK,rfl,hl,rfl⟩)|⟨r,n,m,dK,rfl,hm,hl,hj,rfl⟩
 ·have:=congrArg List.length h;simp at this;rw[this]at h0;cases h0
 ·obtain rfl:=hn hl
  exact⟨r,_,MO (w:=1) (o:=0) aa,fun hS=>key r dK hS⟩
 ·obtain rfl:=hn hl
  refine⟨r,m -1,?_,fun hS=>key r dK hS⟩
  have hmn:ts.length≤m:=by simp at hj;omega
  show au (aP m) (gd (Nat.ble 1 ts.length&&Nat.ble ts.length m&&Nat.ble m m&&(!(aD (none:Option Value))||aD (none:Option Value))) (some (Value.slice (some ⟨r,mY m 1 0 1,none⟩) (Nat.sub ts.length 1) (Nat.sub m 1)))) _=_
  rw[pK hm,dP,Nat.ble_eq_true_of_le (show 1≤ts.length by omega),Nat.ble_eq_true_of_le hmn,Nat.ble_eq_true_of_le (Nat.le_refl m)]
  have hb:Nat.beq m 1=false:=by rw[←Bool.not_eq_true];intro h;have:=Nat.eq_of_beq_eq_true h;omega
  unfold mY
  rw[hb];rfl
theorem zq:∀(ws:List (List Nat)),(ws.flatMap fun x=>32::x).length=(ws.map List.length).sum +ws.length:=by
 intro ws
 induction ws with
 |nil=>rfl
 |cons w ws ih=>rw[List.flatMap_cons,List.length_append,ih,List.length_cons,List.map_cons,List.sum_cons,List.length_cons];omega
theorem mh(w:List Nat)(ws:List (List Nat)):joined (w::ws)=w++ws.flatMap fun x=>32::x:=rfl
theorem Ew{l:List Nat}{i:Nat}(h:i<l.length):(l.take (i +1)).sum=(l.take i).sum +l.getD i 0:=by
 rw[List.take_add_one,List.sum_append,List.getD_eq_getElem?_getD,List.getElem?_eq_getElem h]
 simp
theorem Cr(l:List Nat)(i:Nat):(l.take i).sum≤l.sum:=by
 have:=congrArg List.sum (List.take_append_drop i l)
 rw[List.sum_append]at this;omega
theorem Sv{v:Value}{ts:List ByteArray}{gb:List bF}(hg:GK 9 1 v (strs ts) gb)(h0:0<ts.length)(hS:SH [] H0 H (gb++L))(hl:(joined (ts.map tx)).length≤1000000):
 aj Pg X 18 [v,.string ⟨#[32]⟩] H fun v' H'=>zV (joined (ts.map tx)) v'∧SH [] H0 H' (gb++L):=by
 obtain⟨a,n,c,rfl,hn,hf⟩:=hg.fl hS
 obtain rfl:n=ts.length:=by simp at hn;omega
 obtain⟨t0,tr,rfl⟩:∃t0 tr,ts=t0::tr:=by
  cases ts with
  |nil=>cases h0
  |cons t0 tr=>exact⟨t0,tr,rfl⟩
 have hjl:=hl
 rw[List.map_cons,mh,List.length_append,zq,List.map_map]at hjl
 rw[List.length_map]at hjl
 have Zc:(tr.map tx).map List.length=tr.map ByteArray.size:=by
  rw[List.map_map];exact List.map_congr_left fun t _=>aW t
 rw[←List.map_map,Zc,aW]at hjl
 refine ce [0,1,4,5,7,8,10,12,39,40,41,63,64,65] ?_;refine tl ?_
 refine ak ?_
 refine ai (fun h=>absurd h (by simp;omega)) (fun h=>?_)
 refine ai (fun h1=>?_) (fun h1=>?_)
 ·have htr:tr=[]:=List.length_eq_zero_iff.1 (by simp at h1;omega)
  subst htr
  obtain⟨p,e,g⟩:=Zb (c:=c) (i:=0) hf rfl
  refine PU.of (v:=p) e ?_
  refine g ?_
  refine rr ?_
  exact⟨⟨t0,rfl,by simp[joined]⟩,hS⟩
 have htr:0<tr.length:=by simp at h1;omega
 have hlen:(t0::tr).length=tr.length +1:=rfl
 refine ai (fun h2=>?_) (fun h2=>absurd (by decide) h2)
 rw[iL aa aa]
 refine ak ?_
 refine PU.of (yK aa aa aa) ?_
 have hq:¬(9223372036854775807:Int)/(((t0::tr).length:Int) -1)≤((⟨#[32]⟩:ByteArray).size:Int):=by
  have:(2:Int)≤9223372036854775807/(((t0::tr).length:Int) -1):=Int.le_ediv_of_mul_le aa aa
  have h3:(⟨#[32]⟩:ByteArray).size=1:=rfl
  omega
 refine ak ?_
 refine ai (fun h=>absurd h hq) (fun h=>?_)
 refine tl ?_
 refine ak ?_
 rw[iL aa aa]
 refine ak ?_
 refine PU.of (v:=vn tr.length) ?_ ?_
 ·rw[show vn (⟨#[32]⟩:ByteArray).size=vi 1 from rfl,tF aa aa]
  congr 2;omega
 refine PU.of (v:=vn tr.length) ?_ ?_
 ·rw[aH aa aa]
  congr 2;omega
 refine tl ?_
 refine ak ?_
 refine Se 5 7 41 (I:=fun m x5 x7 ZS H'=>H'=H∧∃i:Nat,ZS=vn i∧m +i=(t0::tr).length∧x5=vn (tr.length +(((t0::tr).map ByteArray.size).take i).sum)) ?_ (t0::tr).length ⟨rfl,0,rfl,rfl,rfl⟩
 rintro m x5 x7 ZS rg H1 ⟨rfl,i,rfl,Zd,rfl⟩
 have hsum:((t0::tr).map ByteArray.size).sum=t0.size +(tr.map ByteArray.size).sum:=rfl
 have hle:=Cr ((t0::tr).map ByteArray.size) i
 refine tl ?_
 refine ak ?_
 refine ai (fun h3=>?_) (fun h3=>?_)
 ·have hil:i<(t0::tr).length:=by omega
  obtain⟨t,hti⟩:∃t,(t0::tr)[i]?=some t:=⟨_,List.getElem?_eq_getElem hil⟩
  have hst:=Ew (l:=(t0::tr).map ByteArray.size) (i:=i) (by rw[List.length_map];exact hil)
  have hgt:((t0::tr).map ByteArray.size).getD i 0=t.size:=by rw[List.getD_eq_getElem?_getD,List.getElem?_map,hti];rfl
  have hle2:=Cr ((t0::tr).map ByteArray.size) (i +1)
  refine Ut rfl hf hti ?_
  refine ak ?_
  rw[iL aa aa]
  refine ak ?_
  refine ai (fun h=>absurd h aa) (fun h=>?_)
  refine tl ?_
  refine ak ?_
  refine PU.of (i_ _ rfl aa) ?_
  refine tl ?_
  refine PU.of (i_ 1 rfl aa) ?_
  refine ak ?_
  refine⟨m -1,aa,_,_,_,_,_,rfl,rfl,i +1,rfl,aa,?_⟩
  rw[hst,hgt,Nat.add_assoc]
 rw[List.take_of_length_le (by rw[List.length_map];omega),hsum]
 refine tl ?_
 refine hS.fE fun H2 rb hS=>?_
 refine aj.mono (WW hS (tr.length +(t0.size +(tr.map ByteArray.size).sum)) aa aa) ?_
 rintro v H3 ⟨A,hb,hS⟩
 have hS2:SH [] H0 H3 (gb++(A++L)):=hS.perm (by rw[←List.append_assoc,←List.append_assoc];exact List.perm_append_comm.append_right L)
 obtain⟨a2,n2,c2,e,hn2,hf2⟩:=hg.fl hS2
 cases e
 refine Ut (i:=0) (z:=0) rfl hf2 rfl ?_
 refine aj.mono (qE hb hS (by simp) aa) ?_
 rintro v H4 ⟨A,hb,hS⟩
 rw[List.nil_append]at hb
 obtain⟨r,c3,e1,e2⟩:=Uu hg (by show 1<tr.length +1;omega)
 refine PU.of e1 ?_
 refine ak ?_
 refine lp2 10 65 (I:=fun m eZ ZT H'=>∃(i:Nat)(A:List bF),ZT=vn i∧m +i=tr.length∧N5 rb (tx t0++((tr.take i).map tx).flatMap fun x=>32::x) A∧SH [] H0 H' (A++(gb++L))) ?_ tr.length ⟨0,A,rfl,rfl,by simpa using hb,hS⟩
 rintro m eZ ZT rg H5 ⟨i,A,rfl,Zd,hb,hS⟩
 have hbl:(((tr.take i).map tx).flatMap fun x=>32::x).length=((tr.map ByteArray.size).take i).sum +min i tr.length:=by
  rw[zq,List.length_map,List.map_map,List.length_take]
  have h1:(tr.take i).map (List.length∘tx)=(tr.map ByteArray.size).take i:=by
   rw[List.map_take];congr 1;exact List.map_congr_left fun t _=>aW t
  rw[h1]
 have hsl:=Cr (tr.map ByteArray.size) i
 refine tl ?_
 refine ak ?_
 refine ai (fun h3=>?_) (fun h3=>?_)
 ·have hil:i<tr.length:=by
   have h3:(i:Int)<(((t0::tr).length -1:Nat):Int):=h3
   omega
  have hti:tr[i]?=some tr[i]:=List.getElem?_eq_getElem hil
  have htk:tr.take (i +1)=tr.take i++[tr[i]]:=by rw[List.take_add_one,hti];rfl
  have hgl:(tr.map ByteArray.size).getD i 0=tr[i].size:=by rw[List.getD_eq_getElem?_getD,List.getElem?_map,hti];rfl
  have hst:=Ew (l:=tr.map ByteArray.size) (i:=i) (by rw[List.length_map];exact hil)
  have hle2:=Cr (tr.map ByteArray.size) (i +1)
  have hf3:=e2 (hS.perm (L':=gb++(A++L)) (by rw[←List.append_assoc,←List.append_assoc];exact List.perm_append_comm.append_right L))
  refine Ut rfl hf3 hti ?_
  refine aj.mono (qE hb hS (by rw[List.length_append,aW];omega) (by decide)) ?_
  rintro v H6 ⟨A,hb,hS⟩
  refine aj.mono (qE hb hS (by rw[List.length_append,List.length_append,aW];show _ +_ +1≤_;omega) aa) ?_
  rintro v H7 ⟨A,hb,hS⟩
  refine PU.of (i_ 1 rfl aa) ?_
  refine⟨m -1,aa,_,_,_,_,rfl,i +1,A,rfl,aa,?_,hS⟩
  rw[show tx ⟨#[32]⟩=[32]from rfl]at hb
  rw[htk,List.map_append,List.flatMap_append]
  simpa using hb
 ·have hie:i=tr.length:=by
   have h3:¬(i:Int)<(((t0::tr).length -1:Nat):Int):=h3
   omega
  rw[List.take_of_length_le aa]at hb
  refine tl ?_
  refine aj.mono (II hb hS (by rw[List.take_of_length_le aa]at hbl;rw[List.length_append,aW];omega) ?_) ?_
  ·cases tr with
   |nil=>simp at htr
   |cons t1 tr=>simp
  rintro v H6 ⟨hv,hS⟩
  refine rr ?_
  exact⟨hv,hS⟩
theorem Ke(hw:Wf H)(hT:Tb H)(hN:Tn H)(s:ByteArray)(hs:s.size≤100000){rs:List Nat}(ht:wR (tx s) rs):aj Pg X 17 [.string s] H (Q1 (fun v _=>zV (qV (tx s) rs) v) H):=by
 refine ce [0,2] ?_;refine tl ?_
 refine ak ?_
 refine ai (fun h=>?_) (fun h=>?_)
 ·refine rr ?_
  refine⟨⟨_,rfl,?_⟩,Ext.refl _⟩
  unfold qV;rw[if_pos (by rw[h];rfl)];rfl
 ·refine aj.mono (N_ hw hT hN s hs ht) ?_
  rintro v H' ⟨⟨t,rfl,h2⟩,hx⟩
  refine rr ?_
  refine⟨⟨t,rfl,?_⟩,hx⟩
  unfold qV;rw[if_neg (fun e=>h (oo.1 e))];exact h2
theorem Kg{s:ByteArray}{rs:List Nat}(ht:wR (tx s) rs):(qV (tx s) rs).length≤6*s.size +2:=by
 unfold qV
 split
 ·simp
 ·have h6:=uq rs
  have h7:=pU rs
  have h8:(rs.flatMap enc).length=s.size:=by rw[←ht.1,aW]
  unfold quot
  rw[List.length_append,List.length_cons,List.length_singleton];omega
theorem IP{v:Value}{ts:List ByteArray}{gb:List bF}{t:ByteArray}(hg:GK 9 1 v (strs ts) gb)(hl:ts.length≤1000)(hS:SH [] H0 H (gb++L)){K:Value→ag→Prop}
 (k:∀v' H1 iF,GK 9 1 v' (strs (ts++[t])) iF→SH [] H0 H1 (iF++L)→K v' H1):ME (bS 9 [.string ⟨#[]⟩] 1 1 [(0,.string t)] H) fun v2 H1=>ME (zB 9 1 v v2 H1) K:=by
 refine hS.bS rfl rfl rfl (by decide) fun H1 rx hS=>?_
 obtain⟨v',H2,iF,e1,hg',hS,_⟩:=hg.app (m:=0) (cx:=1) hS (by decide) rfl rfl (by decide) (by simp;omega)
 refine ME.of e1 (k v' H2 iF ?_ hS)
 unfold strs
 rw[List.map_append];exact hg'
theorem Xf(hw:Wf H)(hT:Tb H)(hN:Tn H)(k:Int){a:Option Addr}{n c:Nat}{l:List Int}(hf:Fl H a n 1 (l.map vi))(hn:n≤1000000)(s:ByteArray)(hs:s.size≤100000):
 aj Pg X 5 [Us k a n c s] H (Q1 (fun v _=>(∀rs,ok k l (tx s)→wR (tx s) rs→zV (line k l (tx s) rs) v)∧(¬ok k l (tx s)→v=.string ⟨#[]⟩)) H):=by
 have hll:=Fl.len hf
 refine ce [0,1,2,3,5,8,17,18,19] ?_;refine tl ?_
 refine(SH.refl hw).box rfl fun H1 r hS=>?_
 have hS:SH [] H H1 [(r,24,[vi k,.slice a n c,.string s])]:=hS
 refine hS.BX 0 rfl (by show 0 +3≤3;omega) ?_
 refine aj.mono (Bc hS.wf (hT.ex hS.ext) (hN.ex hS.ext) k (hf.ex hS.ext) hn s hs) ?_
 rintro v H2 ⟨⟨b,rfl,hb⟩,hx⟩
 have hS:=hS.call hx
 refine ak ?_
 refine aU (fun h=>?_) (fun h=>?_)
 ·have hno:¬ok k l (tx s):=fun g=>by rw[hb.2 g]at h;cases h
  refine rr ?_
  exact⟨⟨fun rs g=>absurd g hno,fun _=>rfl⟩,hS.ext⟩
 have hok:ok k l (tx s):=hb.1 (by simpa using h)
 obtain⟨hk0,hk1,hc1,hc2,sM,htx,rs,hrs,hq⟩:=id hok
 obtain⟨kn,rfl⟩:∃kn:Nat,k=kn:=⟨k.toNat,aa⟩
 simp only[Int.toNat_natCast]at hc1 hc2
 have Ze:nG kn≤60:=by
  have:∀k,k<11→nG k≤60:=by decide
  exact this kn aa
 refine hS.ld 0 rfl rfl ?_
 refine aj.mono (Su hS.wf kn) ?_
 rintro v H3 ⟨⟨t,rfl,ht1,_⟩,hx⟩
 have hS:=hS.call hx
 obtain⟨ht1,ht2,ht3⟩:=ht1 ⟨aa,aa⟩
 simp only[Int.toNat_natCast]at ht1
 refine hS.bS rfl rfl rfl (by decide) fun H4 rw hS=>?_
 have hS:SH [] H H4 ([(rw,9,strs [t])]++[(r,24,[vi (kn:Int),.slice a n c,.string s])]):=hS
 refine hS.ld 1 rfl rfl ?_
 refine ak ?_
 refine Se 3 5 19 (I:=fun m x3 x5 US H'=>∃(i:Nat)(ts:List ByteArray)(gb:List bF),US=vn i∧m +i=n∧GK 9 1 x3 (strs ts) gb∧ts.map tx=verbs.getD kn []::(l.take i).map (fun n=>tZ n.toNat)∧SH [] H H' (gb++[(r,24,[vi (kn:Int),.slice a n c,.string s])])) ?_ n
  ⟨0,[t],_,rfl,rfl,.inr ⟨rw,1,1,[],rfl,by decide,rfl,rfl,rfl⟩,by simp[ht1],hS⟩
 rintro m x3 x5 US rg H5 ⟨i,ts,gb,rfl,Zd,hg,Ey,hS⟩
 have htl:ts.length=(l.take i).length +1:=by
  have:=congrArg List.length Ey
  simpa using this
 rw[List.length_take]at htl
 refine tl ?_
 refine ak ?_
 refine ai (fun h3=>?_) (fun h3=>?_)
 ·have hil:i<l.length:=by omega
  have hx:=sM _ (uu hil)
  refine Er (hf.ex hS.ext) aa ?_
  have hxn:vi (l.getD i 0)=vn (l.getD i 0).toNat:=by congr 1;omega
  rw[hxn]
  refine aj.mono (Xe hS.wf (hN.ex hS.ext) _ aa) ?_
  rintro v H6 ⟨⟨td,rfl,htd⟩,hx6⟩
  have hS:=hS.call hx6
  refine IP (t:=td) hg aa hS fun v' H7 iF hg' hS=>?_
  refine PU.of (i_ 1 rfl aa) ?_
  refine⟨m -1,aa,_,_,_,_,_,rfl,i +1,_,iF,rfl,aa,hg',?_,hS⟩
  rw[List.map_append,Ey,vv hil,List.map_append,List.cons_append]
  simp[htd]
 ·rw[List.take_of_length_le aa]at Ey
  have hS':SH [] H H5 ((r,24,[vi (kn:Int),.slice a n c,.string s])::gb):=hS.perm List.perm_append_comm
  have hnl:=Et sM
  have hjl:(joined (ts.map tx)).length≤1000:=by
   rw[Ey,mh,List.length_append,List.flatMap_map]
   have hvl:(verbs.getD kn []).length≤8:=by rw[←ht1,aW];exact ht3
   omega
  refine tl ?_
  refine ak ?_
  refine hS'.ld 0 rfl rfl ?_
  refine aj.mono (Cq kn aa) ?_
  rintro v H6 ⟨rfl,rfl⟩
  refine ak ?_
  refine ai (fun h4=>?_) (fun h4=>?_)
  ·refine hS'.ld 0 rfl rfl ?_
   refine aj.mono (Ke hS.wf (hT.ex hS.ext) (hN.ex hS.ext) s hs hrs) ?_
   rintro v H7 ⟨⟨tq,rfl,Zf⟩,hx7⟩
   have hS:=hS.call hx7
   have aac:=dB Zf
   have htw:=Kg hrs
   refine IP (t:=tq) hg aa hS fun v' H8 iF hg' hS=>?_
   have Zg:(joined ((ts++[tq]).map tx)).length≤1000000:=by
    rw[List.map_append,Ey,List.cons_append,mh,List.length_append,List.flatMap_append,List.length_append]
    rw[Ey,mh,List.length_append]at hjl
    simp only[List.map_cons,List.map_nil,List.flatMap_cons,List.flatMap_nil,List.append_nil,List.length_cons,Zf]
    omega
   refine aj.mono (Sv hg' (by simp) hS Zg) ?_
   rintro v H9 ⟨⟨tj,rfl,htj⟩,hS⟩
   refine rr ?_
   refine⟨⟨fun rs' _ QA=>⟨tj,rfl,?_⟩,fun g=>absurd hok g⟩,hS.ext⟩
   have:=wR.uniq hrs QA
   subst this
   rw[htj,List.map_append,Ey]
   unfold line xq
   rw[if_pos aa]
   simp[Zf]
  ·refine aj.mono (Sv hg aa hS aa) ?_
   rintro v H9 ⟨⟨tj,rfl,htj⟩,hS⟩
   refine rr ?_
   refine⟨⟨fun rs' _ QA=>⟨tj,rfl,?_⟩,fun g=>absurd hok g⟩,hS.ext⟩
   rw[htj,Ey]
   unfold line xq
   rw[if_neg aa]
   simp
end
section
variable{H0 H:ag}{L M:List bF}{S:List Nat}{F:Nat→Prop}
abbrev QB(m:List (ByteArray×Value)):List (Value×Value):=m.map fun p=>(.string p.1,p.2)
def Cs(H:ag)(r:Nat)(m:List (ByteArray×Value)):Prop:=r<H.next∧H.obj r=.map (QB m)
theorem Cs.ex{H H':ag}{S:List Nat}{r:Nat}{m:List (ByteArray×Value)}(h:Cs H r m)(hx:mK S H H')(hr:r∉S):Cs H' r m:=⟨Nat.lt_of_lt_of_le h.1 hx.next,(hx.obj r h.1 hr).trans h.2⟩
theorem _root_.Go.Ae.SH.Uv{r:Nat}{m:List (ByteArray×Value)}(hS:SH S H0 H L)(h:Cs H r m):r∉L.map (·.1):=fun hr=>by
 obtain⟨e,he,rfl⟩:=List.mem_map.1 hr
 obtain⟨R,h1,_⟩:=hS.bk e he
 rw[h.2]at h1
 cases h1
theorem Og{a b:ByteArray}(h:gY a b=true):a=b:=by
 rw[lD]at h
 have h:=eq_of_beq h
 rw[ByteArray.toList_eq,ByteArray.toList_eq]at h
 exact ByteArray.ext (Array.toList_inj.1 h)
theorem r_(a:ByteArray):gY a a=true:=by rw[lD];exact beq_self_eq_true _
theorem Bd{t:TypeId}(ht:∀a b,gG Pg t (.string a) (.string b)=some (gY a b))(k:ByteArray):∀(m:List (ByteArray×Value))(i:Nat),∃f:Option (Nat×Value),jr Pg t (.string k) (QB m) i=some f∧(∀j v,f=some (j,v)→i≤j∧m[j -i]?=some (k,v))∧(f=none→∀p∈m,p.1≠k):=by
 intro m
 induction m with
 |nil=>exact fun i=>⟨none,rfl,fun j v h=>by(cases h),fun _ p h=>nomatch h⟩
 |cons p m ih=>
  intro i
  show∃f,(ah (gG Pg t (.string k) (.string p.1)) fun b=>au b (some (some (i,p.2))) (jr Pg t (.string k) (QB m) (Nat.succ i)))=some f∧_
  rw[ht]
  cases hb:gY k p.1 with
  |true=>
   have:=Og hb
   refine⟨some (i,p.2),rfl,fun j v h=>?_,fun h=>by cases h⟩
   cases h
   exact⟨Nat.le_refl _,by rw[Nat.sub_self,this];rfl⟩
  |false=>
   obtain⟨f,h1,h2,h3⟩:=ih (Nat.succ i)
   refine⟨f,h1,fun j v h=>?_,fun h q hq=>?_⟩
   ·obtain⟨g1,g2⟩:=h2 j v h
    refine⟨aa,?_⟩
    rw[show j -i=(j -i.succ) +1 by omega]
    exact g2
   ·rcases List.mem_cons.1 hq with rfl|hq
    ·intro e;rw[←e,r_]at hb;cases hb
    ·exact h3 h q hq
theorem ME.look{t kt vt:TypeId}{z:Value}{r:Nat}{m:List (ByteArray×Value)}{k:ByteArray}{ok:Bool}{K:Value→ag→Prop}(hm:Cs H r m)(h1:qH Pg t=some (kt,vt))(h2:vD Pg vt=some z)(h3:∀a b,gG Pg kt (.string a) (.string b)=some (gY a b))
 (kk:∀f:Option Value,(∀v,f=some v→(k,v)∈m)→(f=none→∀p∈m,p.1≠k)→K (UJ ok (f.getD z) f.isSome H).1 H):ME (kG Pg t (.map (some r)) (.string k) ok H) K:=by
 obtain⟨f,e,g1,g2⟩:=Bd h3 k m 0
 have hk:qN Pg kt (.string k)=some ():=by
  show ah (gG Pg kt (.string k) (.string k)) _=_
  rw[h3,r_];rfl
 have hmo:mapOf H (.map (some r))=some (QB m):=by
  show xz (H.obj r)=_
  rw[hm.2];rfl
 have:kG Pg t (.map (some r)) (.string k) ok H=some (UJ ok ((f.map (·.2)).getD z) (f.map (·.2)).isSome H):=by
  show(ah (qH Pg t) fun q=>ah (vD Pg q.2) fun z=>ah (mapOf H (.map (some r))) fun es=>ah (qN Pg q.1 (.string k)) fun _=>ah (jr Pg q.1 (.string k) es 0) fun f=>_)=_
  rw[h1]
  show(ah (vD Pg vt) fun z=>ah (mapOf H (.map (some r))) fun es=>ah (qN Pg kt (.string k)) fun _=>ah (jr Pg kt (.string k) es 0) fun f=>_)=_
  rw[h2,hmo,hk]
  show ah (jr Pg kt (.string k) (QB m) 0) _=_
  rw[e]
  cases f<;>rfl
 have hK:=kk (f.map (·.2)) (fun v h=>?_) (fun h=>?_)
 ·rw[this]
  cases ok<;>exact ME.of rfl hK
 ·cases f with
  |none=>cases h
  |some p=>cases h;exact List.mem_of_getElem? (g1 p.1 p.2 rfl).2
 ·cases f with
  |none=>exact g2 rfl
  |some p=>cases h
theorem ME.Xg{t kt vt:TypeId}{z:Value}{r:Nat}{m:List (ByteArray×Value)}{k:ByteArray}{K:Value→ag→Prop}(hm:Cs H r m)(h1:qH Pg t=some (kt,vt))(h2:vD Pg vt=some z)(h3:∀a b,gG Pg kt (.string a) (.string b)=some (gY a b))
 (kk:∀f:Option Value,(∀v,f=some v→(k,v)∈m)→(f=none→∀p∈m,p.1≠k)→K (.tuple ⟨[f.getD z,.bool f.isSome]⟩) H):ME (kG Pg t (.map (some r)) (.string k) true H) K:=ME.look hm h1 h2 h3 kk
theorem zu{t kt vt:TypeId}{r:Nat}{m:List (ByteArray×Value)}{k:ByteArray}{v:Value}{K:Value→ag→Prop}(hS:SH S H0 H L)(hr:r∈S∨H0.next≤r)(hm:Cs H r m)(h1:qH Pg t=some (kt,vt))(h3:∀a b,gG Pg kt (.string a) (.string b)=some (gY a b))(hnew:∀p∈m,p.1≠k)
 (kk:∀H',Cs H' r (m++[(k,v)])→SH S H0 H' L→K undef H'):ME (gT Pg t (.map (some r)) (.string k) v H) K:=by
 obtain⟨f,e,g1,g2⟩:=Bd h3 k m 0
 have hf:f=none:=by
  cases f with
  |none=>rfl
  |some p=>exact absurd rfl (hnew _ (List.mem_of_getElem? (g1 p.1 p.2 rfl).2))
 subst hf
 have hk:qN Pg kt (.string k)=some ():=by
  show ah (gG Pg kt (.string k) (.string k)) _=_
  rw[h3,r_];rfl
 have e':gT Pg t (.map (some r)) (.string k) v H=some (undef,H.put r (.map (QB (m++[(k,v)])))):=by
  have:gT Pg t (.map (some r)) (.string k) v H=some (undef,H.put r (.map (app (QB m) [(.string k,v)]))):=by
   show(ah (qH Pg t) fun q=>ah (xz (H.obj r)) fun es=>ah (qN Pg q.1 (.string k)) fun _=>ah (jr Pg q.1 (.string k) es 0) fun f=>_)=_
   rw[h1]
   show(ah (xz (H.obj r)) fun es=>ah (qN Pg kt (.string k)) fun _=>ah (jr Pg kt (.string k) es 0) fun f=>_)=_
   rw[hm.2,hk]
   show ah (jr Pg kt (.string k) (QB m) 0) _=_
   rw[e];rfl
  rw[this,fV];simp[QB]
 refine ME.of e' (kk _ ⟨hm.1,by rw[nC,if_pos rfl]⟩ ?_)
 have hn:=SH.Uv hS hm
 refine⟨mK.later hS.ext (mK.put H r _) (fun q hq=>by rw[List.mem_singleton]at hq;subst hq;exact hr),fun e he=>(hS.bk e he).mJ ?_,hS.lo,hS.ne,?_⟩
 ·rw[nC,if_neg fun h=>hn (by rw[←h];exact List.mem_map.2 ⟨e,he,rfl⟩)]
 ·rw[jl]
  have:=hS.wf
  show min H.low r≤H.next
  omega
theorem Uw{t:TypeId}{q:TypeId×TypeId}{K:Value→ag→Prop}(hS:SH S H0 H L)(h1:qH Pg t=some q)(kk:∀H' r,Cs H' r []→H.next≤r→SH S H0 H' L→K (.map (some r)) H'):ME (jW Pg t none H) K:=by
 refine ME.of (v:=.map (some H.next)) (H:=H.new (.map [])) ?_ (kk _ _ ⟨Nat.lt_succ_self _,by rw[j_,if_pos rfl];rfl⟩ (Nat.le_refl _) (hS.call (Ext.new _ _)))
 show ah (qH Pg t) _=_
 rw[h1];rfl
theorem jO:qH Pg 162=some (9,3):=by kernel_rfl
theorem Xh:vD Pg 3=some (vi 0):=by kernel_rfl
theorem KC(a b:ByteArray):gG Pg 9 (.string a) (.string b)=some (gY a b):=by kernel_rfl
def Ux:List (ByteArray×Value):=[(⟨#[108,111,97,100]⟩,vi 0),(⟨#[115,101,116]⟩,vi 1),(⟨#[101,100,105,116]⟩,vi 2),(⟨#[112,114,101,102,101,114]⟩,vi 3),(⟨#[108,101,115,115]⟩,vi 4),(⟨#[114,111,119,115]⟩,vi 5),(⟨#[99,111,109,112,108,101,116,101]⟩,vi 6),(⟨#[112,97,114,115,101]⟩,vi 7),(⟨#[97,99,99,101,112,116]⟩,vi 8),(⟨#[99,108,101,97,114]⟩,vi 9),(⟨#[114,111,111,109]⟩,vi 10)]
theorem IQ:∀i,i<11→∃t,Ux[i]?=some (t,vn i)∧tx t=verbs.getD i []:=by
 intro i hi
 rcases(by omega:i=0∨i=1∨i=2∨i=3∨i=4∨i=5∨i=6∨i=7∨i=8∨i=9∨i=10)with rfl|rfl|rfl|rfl|rfl|rfl|rfl|rfl|rfl|rfl|rfl
 all_goals exact⟨_,rfl,by decide⟩
theorem Xi(hw:Wf H)(t:ByteArray):aj Pg X 41 [.string t] H (Q1 (fun v _=>(∃i:Nat,i<11∧tx t=verbs.getD i []∧v=.tuple ⟨[vn i,.bool true]⟩)∨((∀i,i<11→tx t≠verbs.getD i [])∧v=.tuple ⟨[vi 0,.bool false]⟩)) H):=by
 refine ce [0,2,3,4,5,6] ?_;refine tl ?_
 refine Uw (SH.refl hw) jO fun H1 r hm hr hS=>?_
 refine zu hS (.inr hr) hm jO KC (by decide) fun _ hm hS=>?_
 refine zu hS (.inr hr) hm jO KC (by decide) fun _ hm hS=>?_
 refine zu hS (.inr hr) hm jO KC (by decide) fun _ hm hS=>?_
 refine zu hS (.inr hr) hm jO KC (by decide) fun _ hm hS=>?_
 refine zu hS (.inr hr) hm jO KC (by decide) fun _ hm hS=>?_
 refine zu hS (.inr hr) hm jO KC (by decide) fun _ hm hS=>?_
 refine zu hS (.inr hr) hm jO KC (by decide) fun _ hm hS=>?_
 refine zu hS (.inr hr) hm jO KC (by decide) fun _ hm hS=>?_
 refine zu hS (.inr hr) hm jO KC (by decide) fun _ hm hS=>?_
 refine zu hS (.inr hr) hm jO KC (by decide) fun _ hm hS=>?_
 refine zu hS (.inr hr) hm jO KC (by decide) fun _ hm hS=>?_
 refine ME.Xg hm jO Xh KC fun f hf hn=>?_
 refine ak ?_
 refine rr ?_
 refine⟨?_,hS.ext⟩
 cases f with
 |some v=>
  left
  obtain⟨i,hi,hiv⟩:=List.getElem_of_mem (hf v rfl)
  have hi:i<11:=hi
  obtain⟨t',g1,g2⟩:=IQ i hi
  have g3:Ux[i]?=some (t,v):=by rw[List.getElem?_eq_getElem (show i<Ux.length from hi)];exact congrArg some hiv
  rw[g3]at g1
  cases g1
  exact⟨i,hi,g2,rfl⟩
 |none=>
  right
  refine⟨fun i hi e=>?_,rfl⟩
  obtain⟨t',g1,g2⟩:=IQ i hi
  exact hn rfl (t',vn i) (List.mem_of_getElem? g1) (y_ (g2.trans e.symm))
def Oh(l:List Nat)(c:Nat)(v:Value):Prop:=(v=vi (-1)∧∀x∈l,x≠c)∨∃j:Nat,v=vn j∧j<l.length∧l.getD j 0=c∧∀x∈l.take j,x≠c
theorem Ez(c:Nat):∀(l:List UInt8)(k:Nat),(iI c l k=none∧∀x∈l.map UInt8.toNat,x≠c)∨∃j,iI c l k=some (k +j)∧j<l.length∧(l.map UInt8.toNat).getD j 0=c∧∀x∈(l.map UInt8.toNat).take j,x≠c:=by
 intro l
 induction l with
 |nil=>intro k;exact .inl ⟨rfl,fun x h=>nomatch h⟩
 |cons b l ih=>
  intro k
  have e:iI c (b::l) k=au (Nat.beq b.toNat c) (some k) (iI c l (Nat.succ k)):=rfl
  rw[e]
  cases hb:Nat.beq b.toNat c with
  |true=>exact .inr ⟨0,rfl,by simp,Nat.eq_of_beq_eq_true hb,fun x h=>nomatch h⟩
  |false=>
   have hne:b.toNat≠c:=fun h=>by rw[h,show Nat.beq c c=true from Nat.beq_refl c]at hb;cases hb
   rcases ih (Nat.succ k)with⟨h1,h2⟩|⟨j,h1,h2,h3,h4⟩
   ·refine .inl ⟨h1,fun x hx=>?_⟩
    rcases List.mem_cons.1 hx with rfl|hx
    ·exact hne
    ·exact h2 x hx
   ·refine .inr ⟨j +1,by rw[bL,h1];congr 1;omega,by simp;omega,h3,fun x hx=>?_⟩
    rw[List.map_cons,List.take_succ_cons]at hx
    rcases List.mem_cons.1 hx with rfl|hx
    ·exact hne
    ·exact h4 x hx
theorem Xj(s:ByteArray)(c:Nat)(hc:c≤255):aj Pg X 339 [.string s,.int .u8 (c:Int)] H (Q0 (Oh (tx s) c) H):=by
 have e:a_ Pg X 1 339 [.string s,.int .u8 (c:Int)] H=some (Bo (iI c s.data.toList 0),H):=by
  have e0:a_ Pg X 1 339 [.string s,.int .u8 (c:Int)] H=ah (gd (Nat.ble c 255&&true) (some (s,c))) fun x=>some (Bo (iI x.2 x.1.data.toList 0),H):=by kernel_rfl
  rw[e0,Nat.ble_eq_true_of_le hc];rfl
 refine⟨_,H,⟨1,e⟩,?_,rfl⟩
 rcases Ez c s.data.toList 0 with⟨h,h2⟩|⟨j,h,h2,h3,h4⟩
 ·rw[h];exact .inl ⟨rfl,h2⟩
 ·rw[h]
  exact .inr ⟨j,by rw[Nat.zero_add];rfl,by rw[aW];exact h2,h3,h4⟩
theorem Xk(s:ByteArray)(c:Nat)(hc:c≤255):aj Pg X 228 [.string s,.int .u8 (c:Int)] H (Q0 (Oh (tx s) c) H):=by
 refine ce [0,1,4] ?_;refine tl ?_
 refine aj.mono (Xj s c hc) ?_
 rintro v H' ⟨h,rfl⟩
 refine rr ?_;exact⟨h,rfl⟩
theorem Zh(s:ByteArray):aj Pg X 136 [.string s,.string ⟨#[32]⟩] H (Q0 (Oh (tx s) 32) H):=by
 refine ce [0,1,4,5,6,7,8,9,10,11,12,13] ?_;refine tl ?_
 refine ak ?_
 refine ai (fun h=>absurd h (by decide)) (fun h=>?_)
 refine tl ?_
 refine ak ?_
 refine ai (fun h=>?_) (fun h=>?_)
 ·refine rr ?_
  refine⟨.inr ⟨0,rfl,?_,?_,fun x h=>nomatch h⟩,rfl⟩
  ·rw[←h];decide
  ·rw[←h];decide
 refine ai (fun h=>?_) (fun h=>absurd (by decide) h)
 refine PU.of (v:=.int .u8 32) (by kernel_rfl) ?_
 refine aj.mono (Xk s 32 (by decide)) ?_
 rintro v H' ⟨h,rfl⟩
 refine rr ?_;exact⟨h,rfl⟩
def Sw(s:ByteArray)(v:Value):Prop:=(∃a b:ByteArray,v=.tuple ⟨[.string a,.string b,.bool true]⟩∧tx s=tx a++32::tx b∧∀x∈tx a,x≠32)∨(v=.tuple ⟨[.string s,.string ⟨#[]⟩,.bool false]⟩∧∀x∈tx s,x≠32)
theorem Xl(s:ByteArray)(hs:s.size≤1000000):aj Pg X 76 [.string s,.string ⟨#[32]⟩] H (Q0 (Sw s) H):=by
 refine ce [0,1,4,5,6,7] ?_;refine tl ?_
 refine aj.mono (Zh s) ?_
 rintro v H' ⟨h,rfl⟩
 rcases h with⟨rfl,hn⟩|⟨j,rfl,hj,hc,hl⟩
 ·refine ak ?_
  refine ai (fun h=>absurd h (by decide)) (fun h=>?_)
  refine rr ?_
  exact⟨.inr ⟨rfl,hn⟩,rfl⟩
 ·rw[aW]at hj
  refine ak ?_
  refine ai (fun h=>?_) (fun h=>absurd aa h)
  rw[MK aa]
  refine ak ?_
  refine PU.of (v:=vn (j +1)) (i_ 1 rfl aa) ?_
  rw[fu aa]
  refine ak ?_
  refine⟨aK rfl,?_⟩
  refine rr ?_
  refine⟨.inl ⟨_,_,rfl,?_,?_⟩,rfl⟩
  ·rw[qD,uk,Nat.sub_zero,List.drop_zero]
   have hjl:j<(tx s).length:=by rw[aW];exact hj
   have hg:(tx s)[j]=32:=by rw[List.getD_eq_getElem?_getD,List.getElem?_eq_getElem hjl]at hc;exact hc
   rw[←hg,List.getElem_cons_drop,List.take_append_drop]
  ·rw[qD,Nat.sub_zero,List.drop_zero];exact hl
theorem Xm(s:ByteArray)(hs:s.size≤1000000):aj Pg X 40 [.string s,.string ⟨#[32]⟩] H (Q0 (Sw s) H):=by
 refine ce [0,1,4,5,6] ?_;refine tl ?_
 refine aj.mono (Xl s hs) ?_
 rintro v H' ⟨h,rfl⟩
 rcases h with⟨a,b,rfl,h1,h2⟩|⟨rfl,h1⟩
 ·refine ak ?_
  refine rr ?_
  exact⟨.inl ⟨a,b,rfl,h1,h2⟩,rfl⟩
 ·refine ak ?_
  refine rr ?_
  exact⟨.inr ⟨rfl,h1⟩,rfl⟩
end
section
variable{H0 H:ag}{L:List bF}
structure Te(H:ag):Prop where
 es:∃t,H.cell 3 0=some (.iface t top)
 er:∃t,H.cell 4 0=some (.iface t top)
 lt:8≤H.next
theorem Te.ex{H H':ag}(h:Te H)(hx:Ext H H'):Te H':=
 ⟨let⟨t,e⟩:=h.es;⟨t,(fq (hx.obj 3 (by have:=h.lt;omega) (by simp)) _).trans e⟩,
  let⟨t,e⟩:=h.er;⟨t,(fq (hx.obj 4 (by have:=h.lt;omega) (by simp)) _).trans e⟩,
  Nat.le_trans h.lt hx.next⟩
theorem Kh:zG Pg 254 (.int .i64 1)=some (.iface 254 (vi 1)):=by kernel_rfl
theorem Cu:zG Pg 254 (.int .i64 2)=some (.iface 254 (vi 2)):=by kernel_rfl
theorem Xn(p:Option Addr):zG Pg 257 (.pointer p)=some (.iface 257 (.pointer p)):=by kernel_rfl
section bin
variable{P:Program}{t:TypeId}{ox oy:Operand}{a b:Int}
theorem Uy:bq P .mul t ox oy (.int .u64 a) (.int .u64 b)=some (.int .u64 (aT .u64 (a*b))):=aV rfl rfl
theorem Uz:bq P .add t ox oy (.int .u64 a) (.int .u64 b)=some (.int .u64 (aT .u64 (a +b))):=aV rfl rfl
theorem UA:bq P .sub t ox oy (.int .u64 a) (.int .u64 b)=some (.int .u64 (aT .u64 (a -b))):=aV rfl rfl
theorem QC:bq P .mul t ox oy (.int .i64 a) (.int .i64 b)=some (.int .i64 (aT .i64 (a*b))):=aV rfl rfl
theorem QD:bq P .add t ox oy (.int .i64 a) (.int .i64 b)=some (.int .i64 (aT .i64 (a +b))):=aV rfl rfl
theorem Zi:bq P .sub t ox oy (.int .i64 a) (.int .i64 b)=some (.int .i64 (aT .i64 (a -b))):=aV rfl rfl
end bin
theorem QE(a:Int):bD (Op.unary .neg (.int .i64 a))=some (.int .i64 (IntKind.i64.wrap (0 -a))):=rfl
theorem UB(a:Int):bD (Op.unary .neg (.int .u64 a))=some (.int .u64 (IntKind.u64.wrap (0 -a))):=rfl
theorem UC{P:Program}{t:TypeId}{ox oy:Operand}:bq P .shl t ox oy (.int .u64 1) (.int .u64 (aT .u64 64))=some (.int .u64 (iV .u64 1 64)):=jb (by decide)
theorem Xo{P:Program}{t:TypeId}{ox oy:Operand}:bq P .shl t ox oy (.int .u64 1) (.int .u64 (aT .u64 (aT .i64 (64 -1))))=some (.int .u64 (iV .u64 1 63)):=jb (by decide)
theorem Xp(hw:Wf H)(s:ByteArray):∃H1,fK Pg 9 101 (.string s) H=some (.slice (some ⟨H.next,0,none⟩) s.size (bH 1),H1)∧Ext H H1∧Wf H1∧Fl H1 (some ⟨H.next,0,none⟩) s.size 1 ((tx s).map iK):=by
 have e:fK Pg 9 101 (.string s) H=some (.slice (some ⟨H.next,0,none⟩) (len s.data.toList) (bH 1),H.new (.row ⟨5,Tr.iH top (dn s.data.toList) 0 .nil,len s.data.toList,true,0⟩)):=by kernel_rfl
 rw[aJ,A9]at e
 refine⟨_,e,Ext.new _ _,Nat.le_succ_of_le hw,by rw[List.length_map,aW,Nat.mul_one],fun i x hi=>⟨H.next,0,rfl,Nat.lt_succ_self _,?_⟩⟩
 have hlt:=(List.getElem?_eq_some_iff.1 hi).1
 unfold ag.cell
 rw[j_,if_pos rfl,Nat.zero_add]
 show gd (Nat.ble (Nat.succ i) s.data.toList.length) (some ((Tr.iH top ((tx s).map iK) 0 .nil).get top i))=_
 rw[Nat.ble_eq_true_of_le (by simp[aW]at hlt;exact hlt),lT,Tr.cz,if_pos aa,List.getD_eq_getElem?_getD,Nat.sub_zero,hi];rfl
theorem Oi{a:Option Addr}{n c i:Nat}{l:List Nat}(hf:Fl H a n 1 (l.map iK))(hi:i<n){K:Value→ag→Prop}(k:K (iK (l.getD i 0)) H):PU (DF 1 (.slice a n c) (vn i)) fun p=>ME (mU none p H) K:=by
 obtain⟨r,o,e,hr,hc,_⟩:=hf.idx (c:=c) (by decide) hi
 have hl:i<l.length:=by have:=hf.1;simp at this;omega
 rw[e]
 show ME (mU none (.pointer (some ⟨r,o,none⟩)) H) K
 refine ME.ld (v:=iK (l.getD i 0)) (hc 0 _ (by decide) ?_) k
 rw[Nat.mul_one,Nat.add_zero,List.getElem?_map,List.getD_eq_getElem?_getD,List.getElem?_eq_getElem hl];rfl
def isErr(e:Value):Prop:=e=.nilIface∨e=.iface 254 (vi 1)∨e=.iface 254 (vi 2)
theorem Oj(c:Int):aj Pg X 341 [.int .u8 c] H (Q0 (fun v=>∃d,v=.int .u8 d) H):=by
 refine ce [0,2] ?_;refine tl ?_
 refine ak ?_
 refine rr ?_;exact⟨⟨_,rfl⟩,rfl⟩
abbrev Zj(v:Value):Prop:=∃(x:Int)(e:Value),v=.tuple ⟨[.int .u64 x,e]⟩∧isErr e
theorem Xq(hw:Wf H)(s:ByteArray)(hs:s.size≤1000000):aj Pg X 232 [.string s,vi 10,vi 0] H (Q1 (fun v _=>Zj v) H):=by
 have e1:isErr (.iface 254 (vi 1)):=.inr (.inl rfl)
 have e2:isErr (.iface 254 (vi 2)):=.inr (.inr rfl)
 refine ce [0,1,2,6,7,8,9,10,11,12,13,15,16,17,85,99,100,101] ?_;refine tl ?_
 refine ak ?_
 refine ai (fun h=>?_) (fun h=>?_)
 ·simp only[Cu,PP]
  refine rr ?_
  exact⟨⟨_,_,rfl,e2⟩,Ext.refl _⟩
 repeat' (first|(simp only[PP,Nat.reduceBEq,Kh,Cu,Uy,Uz,UA,QC,QD,UC,QE,UB])|(refine ai (fun h=>?_) (fun h=>absurd h (by decide)))|(refine ai (fun h=>absurd h (by decide)) (fun h=>?_))|(refine ai (fun h=>?_) (fun h=>?_))|(refine bz (fun h=>?_) (fun h=>?_))|((refine aj.mono (Oj _) ?_);rintro _ _ ⟨⟨c,rfl⟩,rfl⟩)|(refine tl ?_)|(refine rr ?_))
 obtain⟨H1,ec,hx,hw1,hf⟩:=Xp hw s
 refine CV.me (by kernel_rfl) ec ?_
 refine ak ?_
 refine ZK 6 7 12 13 15 16 17 101 (I:=fun n x6 x7 nD mQ B_ Cb Cc x101 H'=>H'=H1∧nD=.bool false∧(∃x:Int,mQ=.int .u64 x)∧∃i:Nat,x101=vn i∧n +i=s.size) ?_ s.size ⟨rfl,rfl,⟨_,rfl⟩,0,rfl,rfl⟩
 rintro n x6 x7 nD mQ B_ Cb Cc x101 rg H2 ⟨rfl,rfl,⟨x,rfl⟩,i,rfl,hi⟩
 refine tl ?_
 refine ak ?_
 refine ai (fun h=>?_) (fun h=>?_)
 ·refine Oi hf aa ?_
  generalize(tx s).getD i 0=c0
  repeat' (first|(simp only[PP,Nat.reduceBEq,Kh,Cu,Uy,Uz,UA,QC,QD,UC,QE,UB])|(refine ai (fun h=>?_) (fun h=>absurd h (by decide)))|(refine ai (fun h=>absurd h (by decide)) (fun h=>?_))|(refine ai (fun h=>?_) (fun h=>?_))|(refine bz (fun h=>?_) (fun h=>?_))|((refine aj.mono (Oj _) ?_);rintro _ _ ⟨⟨c,rfl⟩,rfl⟩)|(refine tl ?_)|(refine rr ?_))
  all_goals first|exact⟨⟨_,_,rfl,e1⟩,hx⟩|exact⟨⟨_,_,rfl,e2⟩,hx⟩|exact⟨n -1,aa,_,_,_,_,_,_,_,_,_,_,rfl,rfl,rfl,⟨_,rfl⟩,i +1,by rw[fo aa aa];exact congrArg _ aa,aa⟩
 ·refine tl ?_
  refine rr ?_
  exact⟨⟨_,_,rfl,.inl rfl⟩,hx⟩
section cmp
variable{i j:Nat}
theorem XZ:bq Pg .neq 88 (.tmp i) (.const .nilIface) .nilIface .nilIface=some (.bool false):=by kernel_rfl
theorem Xr{t:TypeId}{x:Value}:bq Pg .neq 88 (.tmp i) (.const .nilIface) (.iface t x) .nilIface=some (.bool true):=by kernel_rfl
theorem Xu:bq Pg .neq 88 (.tmp i) (.tmp j) (.iface 254 (.int .i64 1)) (.iface 254 (.int .i64 1))=some (.bool false):=by kernel_rfl
theorem Xv:bq Pg .neq 88 (.tmp i) (.tmp j) (.iface 254 (.int .i64 2)) (.iface 254 (.int .i64 1))=some (.bool true):=by kernel_rfl
theorem Zk:bq Pg .eql 88 (.tmp i) (.tmp j) (.iface 254 (.int .i64 2)) (.iface 254 (.int .i64 2))=some (.bool true):=by kernel_rfl
theorem Zl:bq Pg .eql 88 (.tmp i) (.tmp j) (.iface 254 (.int .i64 1)) (.iface 254 (.int .i64 2))=some (.bool false):=by kernel_rfl
theorem Zm:bq Pg .eql 88 (.tmp i) (.tmp j) (.iface 254 (.int .i64 1)) (.iface 254 (.int .i64 1))=some (.bool true):=by kernel_rfl
end cmp
abbrev Xw(v:Value):Prop:=∃(x:Int)(e:Value),v=.tuple ⟨[vi x,e]⟩∧isErr e
theorem Zn(hw:Wf H)(s:ByteArray)(hs:s.size≤1000000):aj Pg X 137 [.string s,vi 10,vi 0] H (Q1 (fun v _=>Xw v) H):=by
 have e0:isErr .nilIface:=.inl rfl
 have e1:isErr (.iface 254 (vi 1)):=.inr (.inl rfl)
 have e2:isErr (.iface 254 (vi 2)):=.inr (.inr rfl)
 have rest:∀(s':ByteArray)(b:Bool)(y6 y7 y9 Eu Ss IM:Value)(rg:Rs),s'.size≤1000000→bC Pg X (sub kP [1,1,1,1]) (F Pg 137 (.c 0 (.string s')<|.c 1 (vi 10)<|.c 2 (vi 0)<|.c 6 y6<|.c 7 y7<|.c 8 (.bool b)<|.c 9 y9<|.c 10 Eu<|.c 11 Ss<|.c 16 IM .n) rg H) (fD Pg [.tmp 6,.tmp 7] (Q1 (fun v _=>Xw v) H)):=by
  intro s' b y6 y7 y9 Eu Ss IM rg hs'
  refine tl ?_
  refine aj.mono (Xq hw s' hs') ?_
  rintro v H1 ⟨⟨x,e,rfl,he⟩,hx⟩
  rcases he with rfl|rfl|rfl
  all_goals
   simp only[PP,XZ,Xr,Kh,Xu,Xv]
   repeat' (first|(simp only[PP,Nat.reduceBEq,Kh,Cu,Uy,Uz,UA,QC,QD,Zi,UC,Xo,QE,UB,XZ,Xr,Xu,Xv])|(refine ai (fun h=>?_) (fun h=>?_))|(refine bz (fun h=>?_) (fun h=>?_))|(refine aU (fun h=>?_) (fun h=>?_))|(refine tl ?_)|(refine rr ?_))
  all_goals first|exact⟨⟨_,_,rfl,e0⟩,hx⟩|exact⟨⟨_,_,rfl,e1⟩,hx⟩|exact⟨⟨_,_,rfl,e2⟩,hx⟩|trace_state
 refine ce [0,1,2,6,7,8,9,10,11,16] ?_;refine tl ?_
 refine ak ?_
 refine ai (fun h=>?_) (fun h=>?_)
 ·simp only[Cu,PP]
  refine rr ?_
  exact⟨⟨_,_,rfl,e2⟩,Ext.refl _⟩
 have h0:0<s.size:=by
  rcases Nat.eq_zero_or_pos s.size with g|g
  ·exact absurd (oo.1 (List.length_eq_zero_iff.1 (by rw[aW];exact g))) h
  ·exact g
 have hz:=d_ (t:=s) (k:=1) aa
 obtain⟨ei,_⟩:=kr (s:=s) (z:=0) 0 rfl h0
 simp only[ei,PP]
 refine ai (fun h=>?_) (fun h=>?_)
 ·refine PU.of (Sr 1 rfl aa) ?_
  exact rest _ _ _ _ _ _ _ _ _ aa
 refine ai (fun h=>?_) (fun h=>?_)
 ·refine PU.of (Sr 1 rfl aa) ?_
  exact rest _ _ _ _ _ _ _ _ _ aa
 exact rest _ _ _ _ _ _ _ _ _ aa
end
section
variable{H0 H:ag}{L:List bF}
theorem Xx{f s:ByteArray}{t:TypeId}:ZB [(0,1),(1,1),(2,1)] [.string ⟨#[]⟩,.string ⟨#[]⟩,.nilIface] [(0,.string f),(1,.string s),(2,.iface t top)]=some (.agg ⟨[.string f,.string s,.iface t top]⟩):=rfl
theorem Zo(hw:Wf H)(hE:Te H)(f s:ByteArray)(hs:s.size≤1000000):aj Pg X 138 [.string f,.string s] H (Q1 (fun v _=>∃p,v=.pointer p) H):=by
 refine ce [0,1,4] ?_;refine tl ?_
 refine aj.mono (pR (MG H) s hs) ?_
 rintro v H1 ⟨rfl,hx⟩
 have hx1:Ext H (hM H H1):=hx.draw
 have hw1:Wf (hM H H1):=hx1.wf hw
 obtain⟨t,et⟩:=(hE.ex hx1).es
 refine ME.ld (H:=hN (hM H H1)) (v:=.iface t top) et ?_
 simp only[cr hw1]
 refine PU.of Xx ?_
 refine ME.of (v:=.pointer (some ⟨(hM H H1).next,0,none⟩)) (H:=(hN (hM H H1)).new (rowOf 360 [.string f,.string s,.iface t top])) rfl ?_
 simp only[F3 hw1]
 refine⟨aK (by simp only[az,av hx,Hu (Ext.new (hN (hM H H1)) _)];rfl),?_⟩
 refine rr ?_
 exact⟨⟨_,rfl⟩,hx1.trans (Ext.new _ _)⟩
theorem Zp(hw:Wf H)(hE:Te H)(f s:ByteArray)(hs:s.size≤1000000):aj Pg X 139 [.string f,.string s] H (Q1 (fun v _=>∃p,v=.pointer p) H):=by
 refine ce [0,1,4] ?_;refine tl ?_
 refine aj.mono (pR (MG H) s hs) ?_
 rintro v H1 ⟨rfl,hx⟩
 have hx1:Ext H (hM H H1):=hx.draw
 have hw1:Wf (hM H H1):=hx1.wf hw
 obtain⟨t,et⟩:=(hE.ex hx1).er
 refine ME.ld (H:=hN (hM H H1)) (v:=.iface t top) et ?_
 simp only[cr hw1]
 refine PU.of Xx ?_
 refine ME.of (v:=.pointer (some ⟨(hM H H1).next,0,none⟩)) (H:=(hN (hM H H1)).new (rowOf 360 [.string f,.string s,.iface t top])) rfl ?_
 simp only[F3 hw1]
 refine⟨aK (by simp only[az,av hx,Hu (Ext.new (hN (hM H H1)) _)];rfl),?_⟩
 refine rr ?_
 exact⟨⟨_,rfl⟩,hx1.trans (Ext.new _ _)⟩
theorem Ol(hw:Wf H)(hE:Te H)(f s:ByteArray)(hs:s.size≤1000000){e:Value}(he:e=.iface 254 (vi 1)∨e=.iface 254 (vi 2)):aj Pg X 78 [.string f,.string s,vi 0,vi 0,e] H (Q1 (fun v _=>∃p,v=.iface 257 (.pointer p)) H):=by
 refine ce [0,1,2,3,4,10,11] ?_;refine tl ?_
 rcases he with rfl|rfl
 ·simp only[PP,Kh,Cu,Zl,Zm]
  refine aj.mono (Zp hw hE f s hs) ?_
  rintro v H1 ⟨⟨p,rfl⟩,hx⟩
  simp only[Xn,PP]
  refine rr ?_
  exact⟨⟨_,rfl⟩,hx⟩
 ·simp only[PP,Kh,Cu,Zk]
  refine aj.mono (Zo hw hE f s hs) ?_
  rintro v H1 ⟨⟨p,rfl⟩,hx⟩
  simp only[Xn,PP]
  refine rr ?_
  exact⟨⟨_,rfl⟩,hx⟩
def KD(c:Nat):Prop:=48≤c∧c≤57
def EA(l:List Nat):Nat:=l.foldl (fun a c=>a*10 +(c -48)) 0
theorem vw(l:List Nat)(c:Nat):EA (l++[c])=EA l*10 +(c -48):=by unfold EA;rw[List.foldl_append];rfl
theorem Xy:∀(k n:Nat),n<10^k→0<k→(∀c∈tZ n,KD c)∧EA (tZ n)=n∧0<(tZ n).length:=by
 intro k
 induction k with
 |zero=>intro n _ h;omega
 |succ k ih=>
  intro n h _
  rcases Nat.lt_or_ge n 10 with g|g
  ·rw[rT g]
   refine⟨fun c hc=>?_,?_,by simp⟩
   ·simp at hc;unfold KD;omega
   ·show 0*10 +(48 +n -48)=n;omega
  ·rw[yV g]
   rcases Nat.eq_zero_or_pos k with rfl|hk
   ·simp at h;omega
   ·obtain⟨h1,h2,h3⟩:=ih (n/10) (by rw[Nat.pow_succ]at h;exact Nat.div_lt_of_lt_mul (by rw[Nat.mul_comm];exact h)) hk
    refine⟨fun c hc=>?_,?_,by simp⟩
    ·rcases List.mem_append.1 hc with hc|hc
     ·exact h1 c hc
     ·simp at hc;unfold KD;omega
    ·rw[vw,h2];omega
theorem QF:∀(k:Nat)(l:List Nat),l.length≤k→(∀c∈l,KD c)→EA l<10^k:=by
 intro k
 induction k with
 |zero=>intro l h _;have:l=[]:=List.length_eq_zero_iff.1 aa;subst this;decide
 |succ k ih=>
  intro l h hd
  rcases List.eq_nil_or_concat l with rfl|⟨l',c,rfl⟩
  ·exact Nat.pow_pos (by decide)
  ·rw[List.concat_eq_append]at h hd⊢
   rw[vw,Nat.pow_succ]
   have:=ih l' (by simp at h;omega) fun x hx=>hd x (List.mem_append_left _ hx)
   have:=hd c (by simp)
   unfold KD at this
   omega
theorem EB{c:Nat}(h:KD c):aT .u8 ((c:Int) -48)=((c -48:Nat):Int):=by
 unfold KD at h
 rw[show((c:Int) -48)=((c -48:Nat):Int)from by omega,eG (t_ aa)]
def X3(s:ByteArray)(v:Value):Prop:=∃(x:Int)(e:Value),v=.tuple ⟨[vi x,e]⟩∧isErr e∧∀n:Nat,n<2147483648→tx s=tZ n→x=n∧e=.nilIface
theorem UD(hw:Wf H)(s:ByteArray)(hs:s.size≤1000000):aj Pg X 77 [.string s] H (Q1 (fun v _=>X3 s v) H):=by
 have e0:isErr .nilIface:=.inl rfl
 have e2:isErr (.iface 254 (vi 2)):=.inr (.inr rfl)
 have hdig:∀n:Nat,n<2147483648→tx s=tZ n→(∀c∈tx s,KD c)∧EA (tx s)=n∧0<s.size∧s.size≤10:=by
  intro n hn e
  obtain⟨h1,h2,h3⟩:=Xy 10 n aa (by decide)
  have h4:=xu 10 n aa (by decide)
  rw[←e]at h1 h2 h3 h4
  rw[aW]at h3 h4
  exact⟨h1,h2,h3,h4⟩
 have long:(s.size=0∨19≤s.size)→∀(y2 y3 y4 y5 y6 y8 y9 Eu Sy Sz SA:Value)(rg:Rs),bC Pg X (sub bM [1,1,1]) (F Pg 77 (.c 0 (.string s)<|.c 2 y2<|.c 3 y3<|.c 4 y4<|.c 5 y5<|.c 6 y6<|.c 8 y8<|.c 9 y9<|.c 10 Eu<|.c 47 Sy<|.c 48 Sz<|.c 49 SA .n) rg H) (fD Pg [.tmp 2,.tmp 3] (Q1 (fun v _=>X3 s v) H)):=by
  intro hl y2 y3 y4 y5 y6 y8 y9 Eu Sy Sz SA rg
  refine tl ?_
  refine aj.mono (Zn hw s hs) ?_
  rintro v H1 ⟨⟨x,e,rfl,he⟩,hx⟩
  refine ak ?_
  refine rr ?_
  exact⟨⟨x,e,rfl,he,fun n hn e'=>by have:=hdig n hn e';omega⟩,hx⟩
 refine ce [0,2,3,4,5,6,8,9,10,47,48,49] ?_;refine tl ?_
 refine ak ?_
 refine ai (fun h0=>?_) (fun h0=>?_)
 rotate_left
 ·refine tl ?_
  refine ak ?_
  exact long (.inl aa) _ _ _ _ _ _ _ _ _ _ _ _
 refine tl ?_
 refine ak ?_
 refine ai (fun h1=>?_) (fun h1=>?_)
 rotate_left
 ·exact long (.inr aa) _ _ _ _ _ _ _ _ _ _ _ _
 obtain⟨ei,hc0⟩:=kr (s:=s) (z:=0) 0 rfl aa
 have hmem:∀i,i<s.size→(tx s).getD i 0∈tx s:=fun i hi=>by
  rw[List.getD_eq_getElem?_getD,List.getElem?_eq_getElem (by rw[aW];exact hi)]
  exact List.getElem_mem _
 have body:∀(s1:ByteArray)(y2 y3 y4 y6 y8 y9 Eu Sy Sz SA:Value)(rg:Rs),s1.size≤18→(∀n:Nat,n<2147483648→tx s=tZ n→s1=s)→bC Pg X (sub bM [1,1,0,1,0,1,1]) (F Pg 77 (.c 0 (.string s1)<|.c 2 y2<|.c 3 y3<|.c 4 y4<|.c 5 (.string s)<|.c 6 y6<|.c 8 y8<|.c 9 y9<|.c 10 Eu<|.c 47 Sy<|.c 48 Sz<|.c 49 SA .n) rg H) (pG Pg X (sub bM [1,1,1]) (fD Pg [.tmp 2,.tmp 3] (Q1 (fun v _=>X3 s v) H))):=by
  intro s1 y2 y3 y4 y6 y8 y9 Eu Sy Sz SA rg hs1 hsame
  refine tl ?_
  obtain⟨H1,ec,hx,hw1,hf⟩:=Xp hw s1
  refine CV.me (by kernel_rfl) ec ?_
  refine ak ?_
  refine XW 2 3 6 8 49 (I:=fun m x2 x3 x6 x8 XX H'=>H'=H1∧∃(i:Nat)(z:Int),XX=vn i∧m +i=s1.size∧x6=vi z∧∀n:Nat,n<2147483648→tx s=tZ n→z=EA ((tx s).take i)) ?_ s1.size ⟨rfl,0,0,rfl,rfl,rfl,fun n _ _=>rfl⟩
  rintro m x2 x3 x6 x8 XX rg H2 ⟨rfl,i,z,rfl,Zd,rfl,hz⟩
  refine tl ?_
  refine ak ?_
  refine ai (fun h=>?_) (fun h=>?_)
  ·refine Oi hf aa ?_
   refine ak ?_
   refine ai (fun h9=>?_) (fun h9=>?_)
   ·simp only[Cu,PP]
    refine rr ?_
    refine⟨⟨_,_,rfl,e2,fun n hn e=>?_⟩,hx⟩
    exfalso
    obtain⟨g1,g2,g3,g4⟩:=hdig n hn e
    have:=hsame n hn e
    subst this
    have gd:=g1 _ (hmem i aa)
    rw[EB gd]at h9
    unfold KD at gd
    omega
   ·simp only[QC,QD,PP]
    refine⟨m -1,aa,_,_,_,_,_,_,_,rfl,rfl,i +1,_,by rw[fo aa aa];exact congrArg _ aa,aa,rfl,fun n hn e=>?_⟩
    obtain⟨g1,g2,g3,g4⟩:=hdig n hn e
    have:=hsame n hn e
    subst this
    have gd:=g1 _ (hmem i aa)
    have hlt:=QF 10 ((tx s1).take i) (by rw[List.length_take,aW];omega) fun c hc=>g1 c (List.mem_of_mem_take hc)
    have hts:(tx s1).take (i +1)=(tx s1).take i++[(tx s1).getD i 0]:=by
     rw[List.take_add_one,List.getD_eq_getElem?_getD,List.getElem?_eq_getElem (by rw[aW];omega)];rfl
    have hz':=hz n hn e
    rw[hts,vw,hz',EB gd]
    unfold KD at gd
    have h10:(10:Nat)^10=10000000000:=by decide
    rw[fo (n:=((EA ((tx s1).take i):Nat):Int)*10) aa aa,fo (n:=(((tx s1).getD i 0 -48:Nat):Int)) aa aa,fo aa aa]
    omega
  ·refine tl ?_
   simp only[ei,PP]
   refine ai (fun h2=>?_) (fun h2=>?_)
   ·simp only[QE,PP]
    refine rr ?_
    refine⟨⟨_,_,rfl,e0,fun n hn e=>?_⟩,hx⟩
    exfalso
    obtain⟨g1,g2,g3,g4⟩:=hdig n hn e
    have gd:=g1 _ (hmem 0 g3)
    unfold KD at gd
    omega
   ·refine rr ?_
    refine⟨⟨_,_,rfl,e0,fun n hn e=>⟨?_,rfl⟩⟩,hx⟩
    obtain⟨g1,g2,g3,g4⟩:=hdig n hn e
    have:=hsame n hn e
    subst this
    rw[hz n hn e,List.take_of_length_le (by rw[aW];omega),g2]
 have sign:∀(c:Bool)(y2 y3 y4 y6 y8 y9 Eu Sy Sz SA:Value)(rg:Rs),Az rg 39=.bool c→(c=true→(tx s).getD 0 0=45∨(tx s).getD 0 0=43)→bC Pg X (sub bM [1,1,0,1,0,1,0,1]) (F Pg 77 (.c 0 (.string s)<|.c 2 y2<|.c 3 y3<|.c 4 y4<|.c 5 (.string s)<|.c 6 y6<|.c 8 y8<|.c 9 y9<|.c 10 Eu<|.c 47 Sy<|.c 48 Sz<|.c 49 SA .n) rg H) (pG Pg X (sub bM [1,1,0,1,0,1,1]) (pG Pg X (sub bM [1,1,1]) (fD Pg [.tmp 2,.tmp 3] (Q1 (fun v _=>X3 s v) H)))):=by
  intro c y2 y3 y4 y6 y8 y9 Eu Sy Sz SA rg hc hsg
  have hno:c=true→∀n:Nat,n<2147483648→tx s=tZ n→False:=fun h n hn e=>by
   obtain⟨g1,g2,g3,g4⟩:=hdig n hn e
   have gd:=g1 _ (hmem 0 g3)
   unfold KD at gd
   rcases hsg h with h|h<;>omega
  refine tl ?_
  rw[hc]
  refine ak ?_
  refine aU (fun h=>?_) (fun h=>?_)
  ·refine PU.of (Sr 1 rfl aa) ?_
   have hz:=d_ (t:=s) (k:=1) aa
   refine ak ?_
   refine ai (fun h2=>?_) (fun h2=>?_)
   ·simp only[Cu,PP]
    refine rr ?_
    exact⟨⟨_,_,rfl,e2,fun n hn e=>(hno h n hn e).elim⟩,Ext.refl _⟩
   ·exact body _ _ _ _ _ _ _ _ _ _ _ _ aa fun n hn e=>(hno h n hn e).elim
  ·exact body s _ _ _ _ _ _ _ _ _ _ _ aa fun n hn e=>rfl
 simp only[ei,PP]
 refine ai (fun h2=>?_) (fun h2=>?_)
 ·exact sign true _ _ _ _ _ _ _ _ _ _ _ (by refine ak ?_;trivial) fun _=>.inl aa
 ·exact sign (decide (((tx s).getD 0 0:Int)=43)) _ _ _ _ _ _ _ _ _ _ _ (by refine ak ?_;trivial) fun h=>.inr (by rw[decide_eq_true_iff]at h;omega)
def UE(s:ByteArray)(v:Value):Prop:=∃(x:Int)(e:Value),v=.tuple ⟨[vi x,e]⟩∧(e=.nilIface∨∃t p,e=.iface t p)∧∀n:Nat,n<2147483648→tx s=tZ n→x=n∧e=.nilIface
theorem Xz(hw:Wf H)(hE:Te H)(s:ByteArray)(hs:s.size≤1000000):aj Pg X 42 [.string s] H (Q1 (fun v _=>UE s v) H):=by
 refine ce [0,2,3,4,5] ?_;refine tl ?_
 refine aj.mono (UD hw s hs) ?_
 rintro v H1 ⟨⟨x,e,rfl,he,hd⟩,hx⟩
 have hw1:=hx.wf hw
 rcases he with rfl|he
 ·simp only[PP,XZ]
  refine rr ?_
  exact⟨⟨x,_,rfl,.inl rfl,hd⟩,hx⟩
 have hne:∀n:Nat,n<2147483648→tx s=tZ n→False:=fun n hn h=>by
  have:=(hd n hn h).2
  rcases he with rfl|rfl<;>cases this
 have fin:∀(y:Value)(v:Value)(H2:ag),True:=fun _ _ _=>trivial
 rcases id he with rfl|rfl
 ·simp only[PP,Xr]
  refine aj.mono (Ol hw1 (hE.ex hx) _ s hs he) ?_
  rintro v H2 ⟨⟨p,rfl⟩,hx2⟩
  refine rr ?_
  exact⟨⟨x,_,rfl,.inr ⟨_,_,rfl⟩,fun n hn h=>(hne n hn h).elim⟩,hx.trans hx2⟩
 ·simp only[PP,Xr]
  refine aj.mono (Ol hw1 (hE.ex hx) _ s hs he) ?_
  rintro v H2 ⟨⟨p,rfl⟩,hx2⟩
  refine rr ?_
  exact⟨⟨x,_,rfl,.inr ⟨_,_,rfl⟩,fun n hn h=>(hne n hn h).elim⟩,hx.trans hx2⟩
end
end Go.Proofs.Lu
