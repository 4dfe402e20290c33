/-
  Part 09d of the proof. No condition.
-/
import Derived.Test.YtcpdfamjhehgiaaGreatDoorS09c
set_option linter.unusedVariables false
set_option linter.unusedSimpArgs false
set_option maxRecDepth 100000
set_option maxHeartbeats 8000000
noncomputable section
namespace Go.Proofs.Lu
open Go.Ae Go.Ae.M
section
variable{H0 H:ag}{L:List bF}
theorem wE(a:Int):aj Pg X 360 [.int .i32 a] H (Q0 (fun v=>v=.bool false) H):=by
 refine ce [0,2] ?_;refine tl ?_
 refine ak ?_
 refine rr ?_;exact⟨by simp,rfl⟩
theorem zY(a b:Int):aj Pg X 272 [.int .i32 a,.int .i32 b] H (Q0 (fun v=>∃z:Int,v=vi z) H):=by
 refine ce [0,1,4,5,6] ?_;refine tl ?_
 refine aj.mono (wE _) ?_
 rintro v H' ⟨rfl,rfl⟩
 refine aj.mono (wE _) ?_
 rintro v H' ⟨rfl,rfl⟩
 refine ak ?_
 refine ai (fun hc=>?_) (fun hc=>?_)
 ·refine rr ?_;exact⟨⟨_,rfl⟩,rfl⟩
 refine ai (fun hc=>?_) (fun hc=>?_)
 ·refine rr ?_;exact⟨⟨_,rfl⟩,rfl⟩
 ·refine rr ?_;exact⟨⟨_,rfl⟩,rfl⟩
theorem QG:ku (.func (.func 357) ⟨[]⟩ ⟨[]⟩):=by
 intro H a b c d hw
 show aj Pg X 357 [.agg ⟨[.int .i32 a,.int .i32 b]⟩,.agg ⟨[.int .i32 c,.int .i32 d]⟩] H _
 have hS:=SH.refl hw
 refine ce [0,1,2,3,4] ?_;refine tl ?_
 refine hS.box rfl fun H1 r hS=>?_
 refine hS.box rfl fun H2 r2 hS=>?_
 refine hS.aX ?_;refine hS.FO ?_;refine hS.FO ?_
 refine aj.mono (zY _ _) ?_
 rintro v H' ⟨⟨z,rfl⟩,rfl⟩
 refine rr ?_;exact⟨⟨z,rfl⟩,hS.ext⟩
theorem Gc(v cv:Value):aj Pg X 443 [v,vi 0,vi 0,cv] H fun _ H'=>H'=H:=by
 refine ce [0,1,2,3,8,9] ?_;refine tl ?_
 refine aC ?_
 refine lp2 8 9 (I:=fun m x8 x9 H'=>x8=vi 1∧H'=H) ?_ 0 ⟨rfl,rfl⟩
 rintro m x8 x9 rg H' ⟨rfl,rfl⟩
 refine tl ?_
 refine ak ?_
 rw[decide_eq_false aa]
 refine ak ?_
 refine rn ?_;exact rfl
theorem Zq(v cv l:Value):aj Pg X 413 [v,vi 0,vi 0,l,cv] H fun _ H'=>H'=H:=by
 refine ce [0,1,2,3,4,10,11,12,13,14,15,16,17,18,19,20] ?_;refine tl ?_
 refine WQ 1 2 3 10 11 12 13 14 15 16 17 18 19 20 (I:=fun k x1 x2 x3 x8 x9 eZ jK nD mQ AX B_ Cb Cc D9 H'=>x1=vi 0∧x2=vi 0∧H'=H) ?_ 0 ⟨rfl,rfl,rfl⟩
 rintro k x1 x2 x3 x8 x9 eZ jK nD mQ AX B_ Cb Cc D9 rg H' ⟨rfl,rfl,rfl⟩
 refine tl ?_
 refine aG ?_
 refine ak ?_
 rw[decide_eq_true aa]
 refine ak ?_
 refine aj.mono (Gc _ _) ?_
 rintro _ _ rfl
 refine rr ?_;exact rfl
theorem Gd{cv:Value}(hcm:ku cv){r:Nat}{ty:TypeId}{n c:Nat}(hn:n≤1000000)(hB:Rg r ty n H0 H L):aj Pg X 356 [sl r n c,cv] H fun v H'=>Rg r ty n H0 H' L:=by
 refine ce [0,1,4] ?_;refine tl ?_
 refine ak ?_
 rw[eG (u64_in aa)]
 refine aj.mono (zw _ aa aa) ?_
 rintro v H' ⟨⟨l,rfl,h1,_⟩,rfl⟩
 refine aj.mono (Kj hcm hn _ H0 H' L hB 0 n l aa aa aa aa aa (Nat.le_refl _)) ?_
 intro v H1 hB
 refine rn ?_;exact hB
theorem UG(cv:Value):aj Pg X 356 [.slice none 0 0,cv] H fun v H'=>H'=H:=by
 refine ce [0,1,4] ?_;refine tl ?_
 refine ak ?_
 rw[eG (u64_in aa)]
 refine aj.mono (zw _ aa aa) ?_
 rintro v H' ⟨⟨l,rfl,h1,_⟩,rfl⟩
 refine aj.mono (Zq _ _ _) ?_
 rintro v H1 rfl
 refine rn ?_;exact rfl
theorem Gf{cs:List Value}{k:Nat}(h:∀i,i<2→∃z:Int,cs[k*2 +i]?=some (.int .i32 z)):CJ (El cs 2 k):=by
 obtain⟨a,ha⟩:=h 0 aa
 obtain⟨b,hb⟩:=h 1 aa
 refine⟨a,b,?_⟩
 apply List.ext_getElem?
 intro i
 rw[mM]
 match i with
 |0=>rw[if_pos aa,ha];rfl
 |1=>rw[if_pos aa,hb];rfl
 |i +2=>rw[if_neg aa];rfl
theorem Cz{cs:List Value}{k i:Nat}(h:CJ (El cs 2 k))(hi:i<2):∃z:Int,cs[k*2 +i]?=some (.int .i32 z):=by
 obtain⟨a,b,e⟩:=h
 have h1:=mM cs 2 k i
 rw[if_pos hi,e]at h1
 match i,hi with
 |0,_=>exact⟨a,h1.symm⟩
 |1,_=>exact⟨b,h1.symm⟩
section fields
variable{r:Nat}{ty:TypeId}{n:Nat}{K:Value→ag→Prop}
theorem SB.rf(h:SB CJ r ty 2 n H0 H L){z:Int}(h0:0≤z)(hz:z<n){f:Nat}(hf:f<2)(k:∀a,K (.int .i32 a) H):ME (mU none (.pointer (some ⟨r,z.toNat*2 +f,none⟩)) H) K:=by
 obtain⟨cs,hS,hp,hl⟩:=h.row (k:=z.toNat) aa
 obtain⟨a,ha⟩:=Cz hp hf
 exact hS.ld 0 rfl ha (k a)
theorem SB.ZU(h:SB CJ r ty 2 n H0 H L){z:Int}(h0:0≤z)(hz:z<n){f:Nat}(hf:f<2)(k:∀a,K (.int .i32 a) (hN H)):ME (mU none (.pointer (some ⟨r,z.toNat*2 +f,none⟩)) (hN H)) K:=SB.rf h.tJ h0 hz hf k
theorem SB.Zr(h:SB CJ r ty 2 n H0 H L){z:Int}(h0:0≤z)(hz:z<n){f:Nat}(hf:f<2){a:Int}(k:∀H1,SB CJ r ty 2 n H0 (hM H H1) L→K undef H1):ME (EH 1 (.pointer (some ⟨r,z.toNat*2 +f,none⟩)) (.int .i32 a) (hN H)) K:=by
 obtain⟨cs,h1,h2,hS⟩:=h
 have hle:z.toNat*2 +f +1≤cs.length:=by omega
 refine hS.MM 0 rfl rfl hle rfl fun H1 hS=>k H1 ⟨splice cs (z.toNat*2 +f) [.int .i32 a],?_,fun j hj=>?_,hS⟩
 ·rw[bn (by simpa using hle)];exact h1
 ·refine Gf fun i hi=>?_
  rw[dw (by simpa using hle)]
  split
  ·next hc=>
   rw[show j*2 +i -(z.toNat*2 +f)=0 by simp at hc;omega]
   exact⟨a,rfl⟩
  ·exact Cz (h2 j hj) hi
end fields
abbrev Gg(cs:List Value):Prop:=∀x∈cs,∃z:Int,x=.int .i32 z
theorem Om{cs:List Value}(h:Gg cs){k:Nat}(hk:k*2 +2≤cs.length):CJ (El cs 2 k):=by
 have e:El cs 2 k=[cs[k*2],cs[k*2 +1]]:=by
  unfold El
  rw[List.drop_eq_getElem_cons aa,List.drop_eq_getElem_cons aa];rfl
 obtain⟨a,ha⟩:=h cs[k*2] (List.getElem_mem _)
 obtain⟨b,hb⟩:=h cs[k*2 +1] (List.getElem_mem _)
 exact⟨a,b,by rw[e,ha,hb]⟩
theorem Gg.app{cs:List Value}(h:Gg cs)(a b:Int):Gg (cs++[.int .i32 a,.int .i32 b]):=by
 intro x hx
 rcases List.mem_append.1 hx with hx|hx
 ·exact h x hx
 ·simp at hx
  rcases hx with rfl|rfl
  ·exact⟨_,rfl⟩
  ·exact⟨_,rfl⟩
theorem CB{cs:List Value}{n:Nat}(hl:cs.length=n*2)(h:∀k,k<n→CJ (El cs 2 k)):Gg cs:=by
 intro x hx
 obtain⟨i,hi,rfl⟩:=List.getElem_of_mem hx
 obtain⟨a,b,e⟩:=h (i/2) aa
 have h1:=mM cs 2 (i/2) (i %2)
 rw[if_pos (Nat.mod_lt _ aa),show i/2*2 +i %2=i by omega,List.getElem?_eq_getElem hi,e]at h1
 have:i %2=0∨i %2=1:=by omega
 rcases this with h2|h2
 ·rw[h2]at h1;exact⟨a,(Option.some.inj h1).symm⟩
 ·rw[h2]at h1;exact⟨b,(Option.some.inj h1).symm⟩
theorem wF(hw:Wf H){K:Nat}(hK:K≤1000000){v:Value}(hv:oq K H v):aj Pg X 276 [v] H (Q1 (fun v H'=>bN H.next K H' v) H):=by
 obtain⟨a,n,c,cs,rfl,hf,hn,hi⟩:=hv
 have hS:=SH.refl hw
 refine ce [0,2] ?_;refine tl ?_
 rw[DW (by kernel_rfl)]
 refine ak ?_
 refine aU (fun hb=>?_) (fun hb=>?_)
 ·refine rr ?_;exact⟨bN.nil _ _ _,Ext.refl _⟩
 ·refine ME.of (YH aa) ?_
  have hS:=hS.grow 301 []
  have hge:=hS.ext.next
  refine hS.TK aa (.inr ⟨_,rfl⟩) (hf.ex hS.ext) aa fun a' c' H1 L' hf' hS'=>?_
  refine rr ?_;exact⟨⟨a',n,c',cs,rfl,hf'.le hge,hn,hi⟩,hS'.ext⟩
set_option maxHeartbeats 8000000 in
theorem Gh(hw:Wf H){KM:Nat}(ZV:KM≤1000000){v:Value}(hv:oq KM H v):aj Pg X 269 [v] H (Q1 (fun v H'=>bN H.next KM H' v) H):=by
 obtain⟨a,n,c,cs,rfl,hf,hn,hi⟩:=hv
 have hS:=SH.refl hw
 refine ce [0,2,3,5,6,8,9,10,11,35,36,37] ?_;refine tl ?_
 refine ak ?_
 refine Se 3 5 11 (I:=fun m x3 x5 jK H'=>∃(k:Nat)(ds:List Value)(gb:List bF),jK=vn k∧k +m=n∧GB 301 2 x3 ds gb∧ds.length≤2*k∧Gg ds∧SH [] H H' (gb++[])) ?_ n ⟨0,[],[],rfl,aa,GB.nil _ _,by simp,(fun x h=>nomatch h),hS⟩
 rintro m x3 x5 jK rg H' ⟨k,ds,gb,rfl,hk,hg,hdl,hds,hS⟩
 refine bC.l6 fun K hK=>?_
 refine tl ?_
 refine ak ?_
 refine ai (fun hc=>?_) (fun hc=>?_)
 ·obtain⟨r,o,e,hr,hrd,hel,_⟩:=hf.read aa (show k<n by omega) c
  rw[e]
  refine ak ?_
  obtain⟨z1,z2,ez⟩:=Om hi (k:=k) (by rw[hf.1];omega)
  rw[ez]at hrd
  refine hS.MF hrd hr ?_
  refine hS.fE fun H1 r1 hS=>?_
  repeat(first|(refine hS.aX ?_)|(refine hS.FO ?_)|(refine hS.qR fun Hn hS=>?_))
  subst hK
  refine ai (fun hd=>?_) (fun hd=>?_)
  ·refine hS.aX ?_;refine hS.iW ?_
   refine hS.bS rfl rfl rfl aa fun H2 rx hS=>?_
   have hS:SH [] H H2 ((rx,301,[.int .i32 (max z1 0),.int .i32 (min z2 1114111)])::(r1,301,[.int .i32 (max z1 0),.int .i32 (min z2 1114111)])::(gb++[])):=hS
   have hS:SH [] H H2 ((rx,301,[.int .i32 (max z1 0),.int .i32 (min z2 1114111)])::(gb++[(r1,301,[.int .i32 (max z1 0),.int .i32 (min z2 1114111)])])):=hS.perm (List.Perm.cons _ (by simpa using(List.perm_append_comm (l₁:=[_]) (l₂:=gb))))
   refine hg.add hS aa rfl rfl aa fun v' H3 iF hg' hS' hx=>?_
   rw[aH aa aa]
   refine ak ?_
   refine⟨m -1,aa,_,_,_,_,_,rfl,k +1,_,iF,rfl,aa,hg',by simp;omega,hds.app _ _,?_⟩
   exact by simpa using SH.drop (A:=[_]) (hS'.perm (List.perm_append_comm (l₂:=[_])))
  ·rw[aH aa aa]
   refine ak ?_
   refine⟨m -1,aa,_,_,_,_,_,rfl,k +1,ds,gb,rfl,aa,hg,aa,hds,?_⟩
   exact SH.drop (A:=[_]) hS
 ·subst hK
  refine ak ?_
  refine tl ?_
  rcases hg with⟨rfl,rfl,rfl⟩|⟨r,n1,dK,rfl,hn1,rfl⟩
  ·refine aj.mono (UG _) ?_
   rintro _ H1 e
   have e:=e.symm
   subst e
   refine ak ?_
   refine Se 6 8 37 (I:=fun m x6 x8 TW H2=>H2=H'∧x6=vi 0∧TW=vi 0) ?_ 0 ⟨rfl,rfl,rfl⟩
   rintro m x6 x8 TW rg H2 ⟨rfl,rfl,rfl⟩
   refine tl ?_
   refine ak ?_
   rw[decide_eq_false aa]
   refine ak ?_
   refine tl ?_
   refine PU.of (Ib) ?_
   refine aj.mono (wF hS.wf ZV (oq.nil _ _)) ?_
   rintro v H3 ⟨hv,hx⟩
   refine rr ?_;exact⟨hv.le (Nat.le_refl _) hS.ext.next,hS.ext.trans hx⟩
  ·have hB:Rg r 301 n1 H H' []:=⟨ds++dK,by simp;omega,fun k hk=>Gf fun i hi=>?_,hS⟩
   rotate_left
   ·rw[List.getElem?_append_left aa,List.getElem?_eq_getElem aa]
    obtain⟨z,hz⟩:=hds ds[k*2 +i] (List.getElem_mem _)
    exact⟨z,by rw[hz]⟩
   have hn2:n1≤KM:=by omega
   refine aj.mono (Gd QG aa hB) ?_
   clear hB hS hds hn1 dK ds hdl
   rintro _ H2 hB
   refine ak ?_
   refine Se 6 8 37 (I:=fun m x6 x8 TW H2=>∃(w k:Nat),x6=vn w∧TW=vn k∧w≤k∧k +m=n1∧Rg r 301 n1 H H2 []) ?_ n1 ⟨0,0,rfl,rfl,aa,aa,hB⟩
   clear hB
   rintro m2 x6 x8 TW rg H3 ⟨w,k2,rfl,rfl,hw2,hk2,hB⟩
   refine bC.l6 fun K hK=>?_
   have nx:∀(w:Nat) x8 rg H4,w≤k2 +1→k2<n1→Rg r 301 n1 H H4 []→bC Pg X (sub dM [1,1,1,1,1,0,1,0,0,1,1,1]) (iX (.slice a n c) (.slice none 0 0) (sl r n1 (bH 2)) x5 (vn w) x8 (.slice a n c) (vn n) (vn k) (sl r n1 (bH 2)) (vn n1) (vn k2) rg H4) K:=by
    intro w x8 rg H4 h1 h2 hB
    subst hK
    refine tl ?_
    rw[aH aa aa]
    refine ak ?_
    exact⟨m2 -1,aa,_,_,_,_,_,rfl,w,k2 +1,rfl,rfl,aa,aa,hB⟩
   refine tl ?_
   refine ak ?_
   refine ai (fun hc=>?_) (fun hc=>?_)
   rotate_left
   ·subst hK
    refine ak ?_
    refine tl ?_
    refine PU.of (FM (show w≤n1 by omega)) ?_
    obtain⟨es,g1,g2,hS⟩:=hB
    have hfw:Fl H3 (some ⟨r,0,none⟩) w 2 (es.take (w*2)):=⟨by simp;omega,fun i x hi=>⟨r,0,rfl,(hS.lo _ (List.mem_cons_self ..)).2,by
     rw[Nat.zero_add]
     refine(hS.get 0 rfl).cell ?_
     rw[List.getElem?_take]at hi
     split at hi
     ·exact hi
     ·cases hi⟩⟩
    have hR:oq KM H3 (.slice (some ⟨r,0,none⟩) w (bH 2)):=⟨_,w,_,_,rfl,hfw,aa,CB hfw.1 fun k hk=>Gf fun i hi=>by
     rw[List.getElem?_take,if_pos aa]
     exact Cz (g2 k aa) hi⟩
    refine aj.mono (wF hS.wf ZV hR) ?_
    rintro v H4 ⟨hv,hx⟩
    refine rr ?_;exact⟨hv.le (Nat.le_refl _) hS.ext.next,hS.ext.trans hx⟩
   refine aI ?_
   simp only[Nat.zero_add]
   refine hB.r1 aa aa fun za zb=>?_
   refine hB.new fun H4 r1 hB=>?_
   refine hB.st 0 rfl rfl (Nat.le_of_ble_eq_true rfl) rfl fun H5 hB=>?_
   have hB:SB CJ r 301 2 n1 H H5 [(r1,301,[.int .i32 za,.int .i32 zb])]:=hB
   have lay:∀rg H6,SB CJ r 301 2 n1 H H6 [(r1,301,[.int .i32 za,.int .i32 zb])]→bC Pg X (sub dM [1,1,1,1,1,0,1,0,0,1,1,0,0,1,1]) (iX (.slice a n c) (.slice none 0 0) (sl r n1 (bH 2)) x5 (vn w) (.pointer (some ⟨r1,0,none⟩)) (.slice a n c) (vn n) (vn k) (sl r n1 (bH 2)) (vn n1) (vn k2) rg H6) (nL 3 (pG Pg X (sub dM [1,1,1,1,1,0,1,0,0,1,1,1]) K)):=by
    intro rg H6 hB
    refine tl ?_
    refine ME.of (v:=.agg ⟨[.int .i32 za,.int .i32 zb]⟩) (H:=H6) ?_ ?_
    ·obtain⟨es,g1,g2,hS⟩:=hB
     show(ah (H6.read r1 0 2) fun vs=>some (Value.agg ⟨vs⟩,H6))=_
     rw[(hS.get 1 rfl).read (o:=0) (n:=2) (Nat.le_refl 2)];rfl
    refine aI ?_
    simp only[Nat.zero_add]
    refine hB.rw' aa aa fun H7 hB=>?_
    rw[aH aa aa]
    refine ak ?_
    exact nx (w +1) _ _ _ aa aa hB.drop
   have fin:∀rg H6(b:Bool),Az rg 54=.bool b→(b=true→0<w)→SB CJ r 301 2 n1 H H6 [(r1,301,[.int .i32 za,.int .i32 zb])]→bC Pg X (sub dM [1,1,1,1,1,0,1,0,0,1,1,0,0,1,0,1]) (iX (.slice a n c) (.slice none 0 0) (sl r n1 (bH 2)) x5 (vn w) (.pointer (some ⟨r1,0,none⟩)) (.slice a n c) (vn n) (vn k) (sl r n1 (bH 2)) (vn n1) (vn k2) rg H6) (pG Pg X (sub dM [1,1,1,1,1,0,1,0,0,1,1,0,0,1,1]) (nL 3 (pG Pg X (sub dM [1,1,1,1,1,0,1,0,0,1,1,1]) K))):=by
    intro rg H6 b hb hw0 hB
    refine tl ?_
    rw[hb]
    refine ak ?_
    refine aU (fun hb=>?_) (fun hb=>?_)
    ·have:=hw0 hb
     refine aG ?_
     refine aG ?_
     refine aI ?_
     refine ak ?_
     refine SB.ZU hB aa aa aa fun zc=>?_
     simp only[cr hB.wf]
     refine hB.uZ 0 rfl rfl ?_
     simp only[cr hB.wf]
     refine ak ?_
     refine aI ?_
     refine ak ?_
     refine SB.Zr hB aa aa aa fun H7 hB2=>?_
     refine⟨by simp only[az,ay];kernel_rfl,?_⟩
     exact nx w _ _ _ aa aa hB2.drop
    ·exact lay _ _ hB
   refine ak ?_
   refine ai (fun hd=>?_) (fun hd=>?_)
   ·refine hB.uZ 0 rfl rfl ?_
    simp only[cr hB.wf]
    refine aG ?_
    refine aI ?_
    refine ak ?_
    refine SB.ZU hB aa aa aa fun zc=>?_
    simp only[cr hB.wf]
    refine ak ?_
    refine⟨by simp only[az];kernel_rfl,?_⟩
    exact fin _ _ _ (by simp only[lJ];rfl) (fun _=>by omega) hB
   ·refine⟨by kernel_rfl,?_⟩
    exact fin _ _ false (by simp only[lJ]) (fun h=>by cases h) hB
end
section
variable{H0 H:ag}{L:List bF}
abbrev isRead(b:Nat)(s:ByteArray)(v:Value)(H':ag):Prop:=∃(rs:Value)(cd:Int)(at':Nat),v=.tuple ⟨[rs,.agg ⟨[vi cd,vn at']⟩]⟩∧at'≤s.size +1∧bN b s.size H' rs
theorem Tok.st{S:List Nat}{b b' lo hi:Nat}{H H':ag}{v:Value}(h:Tok b H lo hi v)(hx:mK S H H')(hS:∀q∈S,q<b∨¬FP H q 301)(hb:b'≤b):Tok b' H' lo hi v:=by
 obtain⟨kd,a,e,t,rs,h1,h2,h3,h4,h5,h6⟩:=h
 exact⟨kd,a,e,t,rs,h1,h2,h3,h4,h5,(h6.stay hx hS).le (Nat.le_refl _) hb⟩
theorem Kk(hw:Wf H)(hT:u_ H)(s:ByteArray)(hs:s.size≤20000):aj Pg X 240 [.string s] H (Q1 (isRead H.next s) H):=by
 have hS:=SH.refl hw
 refine ce [0,2,3,4,5,6,7,8,9,10] ?_;refine tl ?_
 refine hS.fE fun Hn rs hS=>?_
 refine ak ?_
 refine ai (fun hc=>?_) (fun hc=>?_)
 ·refine PU.b2 rfl ?_;refine hS.aX ?_;refine hS.qR fun Hn hS=>?_
  refine rr ?_
  refine hS.iW ?_
  exact⟨⟨_,_,0,rfl,aa,bN.nil _ _ _⟩,hS.ext⟩
 refine ZK 2 4 5 6 7 8 9 10 (I:=fun m x2 x4 x5 x6 x7 x8 x9 eZ H'=>∃(k:Nat)(ds:List Value)(gb:List bF),x2=.slice none 0 0∧x5=vn k∧k +m=s.size∧GB 301 2 x4 ds gb∧ds.length≤2*k∧Gg ds∧SH [] H H' ((rs,92,[vi 0,vi 0])::(gb++[]))) ?_ s.size ⟨0,[],[],rfl,rfl,aa,GB.nil _ _,by simp,(fun x h=>nomatch h),hS⟩
 clear hS
 rintro m x2 x4 x5 x6 x7 x8 x9 eZ rg H' ⟨k,ds,gb,rfl,rfl,hk,hg,hdl,hds,hS⟩
 refine bC.l6 fun K hK=>?_
 have lay:∀(lo hi:Int)(q:Nat) x7 x8 rg H2,k<q→q≤s.size→SH [] H H2 ((rs,92,[vi 0,vi 0])::(gb++[]))→
  bC Pg X (sub og [1,1,1,0,1,0,0,1,0,1,1,1,1]) (qU (.string s) (.slice none 0 0) (.pointer (some ⟨rs,0,none⟩)) x4 (vn k) (.int .i32 lo) x7 x8 (.int .i32 hi) (vn q) rg H2) (nL 1 K):=by
  intro lo hi q x7 x8 rg H2 h1 h2 hS
  subst hK
  refine tl ?_
  refine PU.of (v:=.agg ⟨[_,_]⟩) rfl ?_
  refine hS.bS rfl rfl rfl aa fun H3 rx hS=>?_
  have hS:SH [] H H3 ((rx,301,[.int .i32 lo,.int .i32 hi])::(gb++[(rs,92,[vi 0,vi 0])])):=hS.perm (List.Perm.cons _ (Ic _ _))
  refine hg.add hS aa rfl rfl aa fun v' H3 iF hg' hS' hx=>?_
  refine ak ?_
  exact⟨s.size -q,aa,_,_,_,_,_,_,_,_,_,_,rfl,q,_,iF,rfl,rfl,aa,hg',by simp;omega,hds.app _ _,hS'.perm (Ic _ _).symm⟩
 have mid:∀(lo:Int)(sz q:Nat)(b:Bool) x8 rg H2,Az rg 44=.bool b→k<q→q≤s.size→(b=true→q +1<s.size)→SH [] H H2 ((rs,92,[vi 0,vi 0])::(gb++[]))→
  bC Pg X (sub og [1,1,1,0,1,0,0,1,0,1,1,1,0,1]) (qU (.string s) (.slice none 0 0) (.pointer (some ⟨rs,0,none⟩)) x4 (vn k) (.int .i32 lo) (vn sz) x8 (.int .i32 lo) (vn q) rg H2) (pG Pg X (sub og [1,1,1,0,1,0,0,1,0,1,1,1,1]) (nL 1 K)):=by
  intro lo sz q b x8 rg H2 hb h1 h2 h3 hS
  refine tl ?_
  rw[hb]
  refine ak ?_
  refine aU (fun hb=>?_) (fun hb=>?_)
  ·have:=h3 hb
   rw[aH aa aa]
   refine ak ?_
   rw[AY (show(q:Int) +1=((q +1:Nat):Int) by omega)]
   refine aj.mono (A7 hS.wf (hT.ex hS.ext) s (q +1) aa aa) ?_
   rintro v H3 ⟨⟨r,n,e,rfl,h4,h5⟩,hx⟩
   have hS:=hS.call hx
   refine hS.aX ?_
   refine bz (fun he=>?_) (fun he=>?_)
   ·rw[aH aa aa]
    repeat(first|(refine hS.aX ?_)|(refine PU.b2 rfl ?_)|(refine hS.qR fun Hn hS=>?_))
    subst hK
    refine rr ?_
    refine hS.iW ?_
    exact⟨⟨_,_,q +1,rfl,aa,bN.nil _ _ _⟩,hS.ext⟩
   refine ai (fun hc=>?_) (fun hc=>?_)
   ·refine PU.b2 rfl ?_;refine hS.aX ?_;refine hS.qR fun Hn hS=>?_
    subst hK
    refine rr ?_
    refine hS.iW ?_
    exact⟨⟨_,_,k,rfl,aa,bN.nil _ _ _⟩,hS.ext⟩
   rw[aH aa aa]
   refine hS.aX ?_
   rw[aH aa aa]
   refine hS.aX ?_
   rw[AY (show(q:Int) +(1 +(n:Int))=((q +1 +n:Nat):Int) by omega)]
   exact lay _ _ _ _ _ _ _ aa aa hS
  ·exact lay _ _ _ _ _ _ _ h1 h2 hS
 refine tl ?_
 refine ak ?_
 refine ai (fun hc=>?_) (fun hc=>?_)
 ·refine aj.mono (A7 hS.wf (hT.ex hS.ext) s k aa aa) ?_
  rintro v H3 ⟨⟨r,n,e,rfl,h4,h5⟩,hx⟩
  have hS:=hS.call hx
  refine hS.aX ?_
  refine bz (fun he=>?_) (fun he=>?_)
  ·refine PU.b2 rfl ?_;refine hS.aX ?_;refine hS.qR fun Hn hS=>?_
   subst hK
   refine rr ?_
   refine hS.iW ?_
   exact⟨⟨_,_,k,rfl,aa,bN.nil _ _ _⟩,hS.ext⟩
  have h6:=h5 aa
  rw[aH aa aa]
  refine hS.aX ?_
  rw[iL aa aa]
  refine hS.aX ?_
  rw[AY (show(k:Int) +(n:Int)=((k +n:Nat):Int) by omega)]
  refine ai (fun hc=>?_) (fun hc=>?_)
  ·rw[gV aa]
   refine hS.aX ?_
   exact mid _ _ _ _ _ _ _ (by simp only[lJ];rfl) aa aa (fun _=>by omega) hS
  ·exact mid _ _ _ false _ _ _ (by simp only[lJ]) aa aa (fun h=>by cases h) hS
 ·subst hK
  refine ak ?_
  refine tl ?_
  have hS2:SH [] H H' (gb++[(rs,92,[vi 0,vi 0])]):=hS.perm (Ic _ _)
  obtain⟨a,n,c,rfl,hn,hf⟩:=hg.fl hS2
  have hge:=hS.ext.next
  refine aj.mono (Gh (KM:=s.size) hS.wf aa ⟨a,n,c,ds,rfl,hf,aa,hds⟩) ?_
  rintro v H3 ⟨hv,hx⟩
  have hlt:=hS.lt
  have hS0:=hS.call hx
  have hS:=hS0.base
  refine PU.b2 rfl ?_;refine hS.qR fun Hn hS=>?_
  refine rr ?_
  refine hS.iW ?_
  exact⟨⟨_,0,0,rfl,aa,(hv.stay hS.ext fun q hq=>.inl (hlt q hq)).le (Nat.le_refl _) hge⟩,(hS0.over hS).ext⟩
theorem Gi(hw:Wf H)(hT:u_ H)(s:ByteArray)(k:Nat)(hk:k<s.size)(hs:s.size≤20000):aj Pg X 147 [.string s,vn k] H (Q1 (uw H.next s k) H):=by
 have hS:=SH.refl hw
 refine ce [0,1,4,5,6,7,8,19] ?_;refine tl ?_
 refine hS.fE fun Hn rt hS=>?_
 refine hS.fE fun Hn rs hS=>?_
 rw[aH aa aa]
 refine ak ?_
 refine XV 6 7 8 19 (I:=fun m x6 x7 x8 US H'=>∃p:Nat,x6=vn p∧p +m=s.size +1∧k +1≤p∧SH [] H H' [(rs,92,[vi 0,vi 0]),(rt,98,[vi 0,vi 0,vi 0,.string (ByteArray.mk #[]),.slice none 0 0])]) ?_ (s.size -k) ⟨k +1,rfl,aa,aa,hS⟩
 clear hS
 rintro m x6 x7 x8 US rg H' ⟨p,rfl,h1,h2,hS⟩
 refine tl ?_
 refine ak ?_
 refine ai (fun hc=>?_) (fun hc=>?_)
 rotate_left
 ·refine tl ?_
  repeat(first|(refine hS.aX ?_)|(refine PU.b2 rfl ?_)|(refine PU.b5 rfl ?_)|(refine hS.qR fun Hn hS=>?_))
  refine rr ?_
  repeat(refine hS.iW ?_)
  exact⟨⟨_,_,k,rfl,⟨_,0,0,_,_,rfl,_,_,_,rfl⟩,fun h=>by cases h⟩,hS.ext⟩
 rw[gV aa]
 refine ak ?_
 refine ai (fun hd=>?_) (fun hd=>?_)
 ·rw[aH aa aa]
  refine ak ?_
  rw[aH aa aa]
  refine ak ?_
  exact⟨m -2,aa,_,_,_,_,_,_,rfl,p +2,rfl,aa,aa,hS⟩
 refine ai (fun he=>?_) (fun he=>?_)
 ·rw[aH aa aa]
  refine ak ?_
  rw[show Hq (.string s) (some (vi ((k:Int) +1))) (some (vn p)) none=_ from iM (lo:=k +1) aa aa]
  refine ak ?_
  have hp:=iG s (lo:=k +1) (hi:=p) aa aa
  refine aj.mono (Kk hS.wf (hT.ex hS.ext) _ aa) ?_
  rintro v H3 ⟨⟨X4,cd,e,rfl,h3,h4⟩,hx⟩
  have hge:=hS.ext.next
  have hlt:=hS.lt
  have hS0:=hS.call hx
  have hS:=hS0.base
  refine hS.aX ?_
  refine hS.fE fun Hn rq hS=>?_
  repeat(first|(refine hS.aX ?_)|(refine hS.FO ?_)|(refine hS.qR fun Hn hS=>?_))
  refine bz (fun hz=>?_) (fun hz=>?_)
  ·refine PU.b5 rfl ?_;refine hS.TJ ?_;refine hS.aX ?_
   rw[aH aa aa]
   repeat(first|(refine hS.aX ?_)|(refine hS.TJ ?_))
   rw[aH aa aa]
   repeat(first|(refine hS.aX ?_)|(refine PU.b2 rfl ?_)|(refine hS.VL fun Hn hS=>?_))
   simp only[az,ay]
   apply TQ (a:=rq) (b:=rs) (c:=rt) (hS.nq 0 1 rfl rfl aa) (hS.nq 0 2 rfl rfl aa) (hS.nq 1 2 rfl rfl aa) (by intros;rfl) (by kernel_rfl) (by kernel_rfl)
   refine rr ?_
   repeat(refine hS.iW ?_)
   exact⟨⟨_,cd,k +1 +e,rfl,⟨_,0,0,_,_,rfl,_,_,_,rfl⟩,fun h=>absurd h hz⟩,(hS0.over hS).ext⟩
  ·obtain⟨xa,xn,xc,xcs,rfl,h5,h6,h7⟩:=id h4
   rw[aH aa aa]
   repeat(first|(refine hS.aX ?_)|(refine PU.b2 rfl ?_)|(refine PU.b5 rfl ?_)|(refine hS.qR fun Hn hS=>?_))
   refine rr ?_
   repeat(refine hS.iW ?_)
   refine⟨⟨_,0,0,rfl,⟨_,_,_,_,_,rfl,_,_,_,rfl⟩,fun _=>⟨4,k,p +1,_,_,rfl,aa,aa,aa,Nat.zero_le _,?_⟩⟩,(hS0.over hS).ext⟩
   exact(h4.stay hS.ext fun q hq=>.inl (hlt q hq)).le aa hge
 ·rw[aH aa aa]
  refine ak ?_
  exact⟨m -1,aa,_,_,_,_,_,_,rfl,p +1,rfl,aa,aa,hS⟩
theorem On(hw:Wf H)(hT:u_ H)(s:ByteArray)(k:Nat)(hk:k<s.size)(hs:s.size≤20000):aj Pg X 80 [.string s,vn k] H (Q1 (uw H.next s k) H):=by
 have hS:=SH.refl hw
 refine ce [0,1,4,5,6,7,8] ?_;refine tl ?_
 refine hS.fE fun Hn rt hS=>?_
 refine hS.fE fun Hn rs hS=>?_
 rw[gV aa]
 refine ak ?_
 refine aj.mono (wh _) ?_
 rintro v H' ⟨⟨b,rfl⟩,rfl⟩
 refine ak ?_
 have hge:=hS.ext.next
 have hlt:=hS.lt
 refine aU (fun hb=>?_) (fun hb=>?_)
 ·refine aj.mono (Ka hS.wf s k hk aa) ?_
  rintro v H3 ⟨⟨tok,cd,e,rfl,⟨kd,a,e',t,X4,rfl,xa,xn,xc,rfl⟩,hto⟩,hx⟩
  have hS0:=hS.call hx
  have hS:=hS0.base
  repeat(first|(refine hS.aX ?_)|(refine hS.qR fun Hn hS=>?_))
  refine rr ?_
  repeat(refine hS.iW ?_)
  exact⟨⟨_,cd,e,rfl,⟨_,_,_,_,_,rfl,_,_,_,rfl⟩,fun h=>(hto h).st hS.ext (fun q hq=>.inl (hlt q hq)) hge⟩,(hS0.over hS).ext⟩
 refine ai (fun hc=>?_) (fun hc=>?_)
 ·refine aj.mono (Ck hS.wf (hT.ex hS.ext) s k hk aa) ?_
  rintro v H3 ⟨⟨tok,cd,e,rfl,⟨kd,a,e',t,X4,rfl,xa,xn,xc,rfl⟩,hto⟩,hx⟩
  have hS0:=hS.call hx
  have hS:=hS0.base
  repeat(first|(refine hS.aX ?_)|(refine hS.qR fun Hn hS=>?_))
  refine rr ?_
  repeat(refine hS.iW ?_)
  exact⟨⟨_,cd,e,rfl,⟨_,_,_,_,_,rfl,_,_,_,rfl⟩,fun h=>(hto h).st hS.ext (fun q hq=>.inl (hlt q hq)) hge⟩,(hS0.over hS).ext⟩
 refine ai (fun hc=>?_) (fun hc=>?_)
 ·refine aj.mono (Gi hS.wf (hT.ex hS.ext) s k hk aa) ?_
  rintro v H3 ⟨⟨tok,cd,e,rfl,⟨kd,a,e',t,X4,rfl,xa,xn,xc,rfl⟩,hto⟩,hx⟩
  have hS0:=hS.call hx
  have hS:=hS0.base
  repeat(first|(refine hS.aX ?_)|(refine hS.qR fun Hn hS=>?_))
  refine rr ?_
  repeat(refine hS.iW ?_)
  exact⟨⟨_,cd,e,rfl,⟨_,_,_,_,_,rfl,_,_,_,rfl⟩,fun h=>(hto h).st hS.ext (fun q hq=>.inl (hlt q hq)) hge⟩,(hS0.over hS).ext⟩
 rw[fu aa]
 refine ak ?_
 have hp:=iG s (lo:=k) (hi:=s.size) aa aa
 refine aj.mono (pN _ _) ?_
 rintro v H' ⟨⟨b,rfl,hb2⟩,rfl⟩
 refine ak ?_
 refine aU (fun hb=>?_) (fun hb=>?_)
 ·have hl:2≤(Go.Ae.part s k s.size).size:=by
   obtain⟨r,hr⟩:=hb2 hb
   have h:=congrArg List.length hr
   have e1:(Go.Ae.part s k s.size).data.toList.length=(Go.Ae.part s k s.size).size:=rfl
   rw[e1,List.length_append]at h
   have e2:(ByteArray.mk #[45,62]).data.toList.length=2:=rfl
   omega
  rw[aH aa aa]
  repeat(first|(refine hS.aX ?_)|(refine PU.b2 rfl ?_)|(refine PU.b5 rfl ?_)|(refine hS.qR fun Hn hS=>?_))
  refine rr ?_
  repeat(refine hS.iW ?_)
  exact⟨⟨_,0,0,rfl,⟨_,_,_,_,_,rfl,_,_,_,rfl⟩,fun _=>⟨15,k,k +2,_,_,rfl,aa,aa,aa,Nat.zero_le _,bN.nil _ _ _⟩⟩,hS.ext⟩
 refine aj.mono (J5 _) ?_
 rintro v H' ⟨⟨kd,b,rfl⟩,rfl⟩
 refine hS.aX ?_
 cases b with
 |false=>
  refine(show∀{A B:Prop},A→yu (some !false) A B from fun h=>h) ?_
  repeat(first|(refine hS.aX ?_)|(refine PU.b2 rfl ?_)|(refine PU.b5 rfl ?_)|(refine hS.qR fun Hn hS=>?_))
  refine rr ?_
  repeat(refine hS.iW ?_)
  exact⟨⟨_,_,k,rfl,⟨_,0,0,_,_,rfl,_,_,_,rfl⟩,fun h=>by cases h⟩,hS.ext⟩
 |true=>
  refine(show∀{A B:Prop},B→yu (some !true) A B from fun h=>h) ?_
  rw[aH aa aa]
  repeat(first|(refine hS.aX ?_)|(refine PU.b2 rfl ?_)|(refine PU.b5 rfl ?_)|(refine hS.qR fun Hn hS=>?_))
  refine rr ?_
  repeat(refine hS.iW ?_)
  exact⟨⟨_,0,0,rfl,⟨_,_,_,_,_,rfl,_,_,_,rfl⟩,fun _=>⟨kd,k,k +1,_,_,rfl,aa,aa,aa,Nat.zero_le _,bN.nil _ _ _⟩⟩,hS.ext⟩
def Tk(b:Nat)(H:ag)(l:List Value):Prop:=∃(kd:Int)(a e:Nat)(t:ByteArray)(rs:Value),l=[vi kd,vn a,vn e,.string t,rs]∧a≤20000∧t.size≤80000∧bN b 20000 H rs
theorem Tk.st{S:List Nat}{b b':Nat}{H H':ag}{l:List Value}(h:Tk b H l)(hx:mK S H H')(hS:∀q∈S,q<b∨¬FP H q 301)(hb:b'≤b):Tk b' H' l:=by
 obtain⟨kd,a,e,t,rs,h1,h2,h3,h4⟩:=h
 exact⟨kd,a,e,t,rs,h1,h2,h3,(h4.stay hx hS).le (Nat.le_refl _) hb⟩
def QH(b:Nat)(H:ag)(a:Option Addr)(n:Nat)(cs:List Value):Prop:=tT (b≤·) 98 H a n 5 cs∧1≤n∧n≤20001∧(∀i,i<n→Tk b H (El cs 5 i))∧cs[(n -1)*5]?=some (vi 0)
theorem QH.st{S:List Nat}{b b':Nat}{H H':ag}{a:Option Addr}{n:Nat}{cs:List Value}(h:QH b H a n cs)(hx:mK S H H')(hS:∀q∈S,q<b∨¬FP H q 301∧¬FP H q 98)(hb:b'≤b):QH b' H' a n cs:=
 ⟨(h.1.stay hx fun q hq=>(hS q hq).imp Nat.not_le_of_lt (·.2)).le hb,h.2.1,h.2.2.1,fun i hi=>(h.2.2.2.1 i hi).st hx (fun q hq=>(hS q hq).imp_right (·.1)) hb,h.2.2.2.2⟩
abbrev UH(b:Nat)(v:Value)(H':ag):Prop:=∃(ts:Value)(cd e:Int),v=.tuple ⟨[ts,.agg ⟨[vi cd,vi e]⟩]⟩∧(ts=.slice none 0 0∨∃a n c,ts=.slice (some a) n c)∧(cd=0→∃a n c cs,ts=.slice a n c∧QH b H' a n cs)
theorem Oo{cs xs:List Value}{es n:Nat}(hl:cs.length=n*es)(hx:xs.length=es):(∀i,i<n→El (cs++xs) es i=El cs es i)∧El (cs++xs) es n=xs:=by
 constructor
 ·intro i hi
  have h1:(i +1)*es≤n*es:=Nat.mul_le_mul_right es hi
  rw[Nat.add_mul]at h1
  apply List.ext_getElem?
  intro j
  rw[mM,mM]
  split
  ·rw[List.getElem?_append_left aa]
  ·rfl
 ·unfold El
  rw[←hl,List.drop_left,List.take_of_length_le aa]
theorem EC(hw:Wf H)(hT:u_ H)(s:ByteArray):aj Pg X 43 [.string s] H (Q1 (UH H.next) H):=by
 have hS:=SH.refl hw
 refine ce [0,2,3,4,5,6,7] ?_;refine tl ?_
 refine hS.fE fun Hn rs hS=>?_
 refine ak ?_
 refine ai (fun hc=>?_) (fun hc=>?_)
 ·refine PU.b2 rfl ?_;refine hS.aX ?_;refine hS.qR fun Hn hS=>?_
  refine rr ?_
  refine hS.iW ?_
  exact⟨⟨_,3,0,rfl,.inl rfl,fun h=>by cases h⟩,hS.ext⟩
 have hs:s.size≤20000:=by omega
 refine aj.mono (nI s 0 aa aa) ?_
 rintro v H' ⟨⟨k,rfl,hk0,hk1⟩,rfl⟩
 refine XW 2 4 5 6 7 (I:=fun m x2 x4 x5 x6 x7 H'=>∃(k n:Nat)(cs:List Value)(gb:List bF),x2=.slice none 0 0∧x5=vn k∧k +m=s.size∧GB 98 5 x4 cs gb∧cs.length=n*5∧n≤k∧(∀i,i<n→Tk H.next H' (El cs 5 i))∧SH [] H H' ((rs,92,[vi 0,vi 0])::(gb++[]))) ?_ (s.size -k) ⟨k,0,[],[],rfl,rfl,aa,GB.nil _ _,rfl,aa,(fun i h=>absurd h aa),hS⟩
 clear hS
 rintro m x2 x4 x5 x6 x7 rg H' ⟨k,n,cs,gb,rfl,rfl,hk,hg,hcl,hnk,htk,hS⟩
 refine tl ?_
 refine ak ?_
 have hge:=hS.ext.next
 refine ai (fun hc=>?_) (fun hc=>?_)
 rotate_left
 ·refine tl ?_
  refine ak ?_
  refine PU.b5 rfl ?_
  have htn:=hS.VK (ty:=301) (by simp[hg.all])
  have hS0:=hS
  have hS:=hS0.base
  refine hS.bS rfl rfl rfl aa fun H1 rx hS=>?_
  have hS:SH _ H' H1 ((rx,98,[vi 0,vn s.size,vn s.size,.string (ByteArray.mk #[]),.slice none 0 0])::(gb++[(rs,92,[vi 0,vi 0])])):=hS.perm (List.Perm.cons _ (Ic _ _))
  refine hg.add hS aa rfl rfl aa fun v' H3 iF hg' hS' hx=>?_
  have hE:=Oo (es:=5) (n:=n) hcl (xs:=[vi 0,vn s.size,vn s.size,.string (ByteArray.mk #[]),.slice none 0 0]) rfl
  have hS:=hS'.perm (List.perm_append_comm (l₂:=[_]))
  simp only[List.cons_append,List.nil_append]at hS
  refine hS.aX ?_;refine PU.b2 rfl ?_;refine hS.qR fun Hn hS=>?_
  have hS2:=(hS0.over hS).perm (List.Perm.symm (List.perm_append_comm (l₂:=[_])))
  obtain⟨a,n',c,rfl,hn',hf⟩:=hg'.flT hS2
  have hn1:n'=n +1:=by rw[List.length_append,hcl]at hn';simp at hn';omega
  subst hn1
  refine rr ?_
  refine hS.iW ?_
  refine⟨⟨_,0,0,rfl,?_,fun _=>⟨a,n +1,c,_,rfl,hf,aa,aa,?_,?_⟩⟩,hS2.ext⟩
  ·cases a with
   |none=>
    obtain⟨_,_,h,_⟩:=hf.1.2 0 _ (List.getElem?_eq_getElem (by rw[hf.1.1];omega))
    cases h
   |some a=>exact .inr ⟨a,_,_,rfl⟩
  ·intro i hi
   rcases Nat.lt_or_ge i n with h|h
   ·rw[hE.1 i h]
    exact(htk i h).st hS.ext (fun q hq=>.inr (htn q hq)) (Nat.le_refl _)
   ·have:i=n:=by omega
    subst this
    rw[hE.2]
    exact⟨0,s.size,s.size,_,_,rfl,hs,Nat.zero_le _,bN.nil _ _ _⟩
  ·rw[Nat.add_sub_cancel,←hcl,List.getElem?_append_right (Nat.le_refl _),Nat.sub_self];rfl
 refine aj.mono (On hS.wf (hT.ex hS.ext) s k aa hs) ?_
 rintro v H3 ⟨⟨tok,cd,e,rfl,⟨kd,a,e',t,X4,rfl,xa,xn,xc,rfl⟩,hto⟩,hx⟩
 have htn:=hS.VK (ty:=301) (by simp[hg.all])
 have hlt:=hS.lt
 have hS0:=hS.call hx
 have hS:=hS0.base
 refine hS.aX ?_
 refine hS.fE fun Hn r8 hS=>?_
 refine hS.fE fun Hn r10 hS=>?_
 repeat(first|(refine hS.aX ?_)|(refine hS.FO ?_)|(refine hS.qR fun Hn hS=>?_))
 refine bz (fun hz=>?_) (fun hz=>?_)
 ·refine hS.VJ ?_;refine hS.aX ?_;refine hS.VL fun Hn hS=>?_
  simp only[az,ay]
  apply TP (a:=r10) (b:=rs) (hS.nq 0 2 rfl rfl aa) (by intros;rfl) (by kernel_rfl) (by kernel_rfl)
  refine rr ?_
  refine hS.iW ?_
  exact⟨⟨_,cd,e,rfl,.inl rfl,fun h=>absurd h hz⟩,(hS0.over hS).ext⟩
 obtain⟨kd',a',e2,t',rs',he,h3,h4,h5,h6,h7⟩:=hto hz
 simp only[Value.agg.injEq,Array.mk.injEq,List.cons.injEq,and_true]at he
 obtain⟨e_1,e_2,e_3,e_4,e_5⟩:=he
 have:e'=e2:=by injection e_3 with _ h;omega
 subst this
 have:a=a':=by injection e_2 with _ h;omega
 subst this
 have:t=t':=by injection e_4
 subst this
 subst e_5
 refine hS.iW ?_
 refine hS.bS rfl rfl rfl aa fun H4 rx hS=>?_
 have hS:=hS.to (cs':=[vi kd,vn a,vn e',.string t,.slice xa xn xc]) rfl
 have hS:=hS.perm (L':=(rx,98,[vi kd,vn a,vn e',.string t,.slice xa xn xc])::(gb++[_,_,_])) (List.Perm.cons _ (VM _ _ _ _))
 refine hg.add hS aa rfl rfl aa fun v' H5 iF hg' hS' hx'=>?_
 have hE:=Oo (es:=5) (n:=n) hcl (xs:=[vi kd,vn a,vn e',.string t,.slice xa xn xc]) rfl
 have hS:=hS'.perm (List.perm_append_comm (l₂:=[_,_,_]))
 simp only[List.cons_append,List.nil_append]at hS
 refine hS.FO ?_
 refine aj.mono (nI s e' aa aa) ?_
 rintro v H' ⟨⟨k2,rfl,hk2,hk3⟩,rfl⟩
 have hS2:=(hS0.over hS)
 refine⟨s.size -k2,aa,_,_,_,_,_,_,_,rfl,k2,n +1,_,iF,rfl,rfl,aa,hg',by rw[List.length_append,hcl];simp;omega,aa,?_,?_⟩
 ·intro i hi
  rcases Nat.lt_or_ge i n with h|h
  ·rw[hE.1 i h]
   exact((htk i h).st hx (fun q h=>nomatch h) (Nat.le_refl _)).st hS.ext (fun q hq=>.inr fun ht=>htn q hq (ht.mJ (hx.obj q (hlt q hq) (by simp)).symm)) (Nat.le_refl _)
  ·have:i=n:=by omega
   subst this
   rw[hE.2]
   exact⟨kd,a,e',t,_,rfl,aa,h6,(h7.stay hS.ext fun q hq=>.inl (hlt q hq)).le (Nat.le_refl _) hge⟩
 ·exact SH.drop (A:=[_,_]) (by simpa using hS2)
end
end Go.Proofs.Lu
