/-
  Part 06 of the proof. No condition.
-/
import Derived.Test.YtcpdfamjhehgiaaGreatDoorS05
set_option linter.unusedVariables false
set_option linter.unusedSimpArgs false
set_option maxRecDepth 100000
set_option maxHeartbeats 8000000
noncomputable section
namespace Go.Proofs.Lu
open Go.Ae Go.Ae.M
section
variable{H:ag}
def Q0(p:Value→Prop)(H:ag)(v:Value)(H':ag):Prop:=p v∧H'=H
def Q1(p:Value→ag→Prop)(H:ag)(v:Value)(H':ag):Prop:=p v H'∧Ext H H'
abbrev UT(v:Value):Prop:=∃b,v=.bool b
theorem yT(c:Int):aj Pg X 236 [.int .u8 c] H (Q0 UT H):=by
 refine ce [0,2] ?_;refine tl ?_
 repeat' (first|(refine ak ?_)|(refine ai (fun hc=>?_) (fun hc=>?_))|(refine rr ?_))
 all_goals exact⟨⟨_,rfl⟩,rfl⟩
theorem wh(c:Int):aj Pg X 144 [.int .u8 c] H (Q0 UT H):=by
 refine ce [0,2] ?_;refine tl ?_
 repeat' (first|(refine ak ?_)|((refine aj.mono (yT _) ?_;rintro v H' ⟨⟨b,rfl⟩,rfl⟩))|(refine ai (fun hc=>?_) (fun hc=>?_))|(refine rr ?_))
 all_goals exact⟨⟨_,rfl⟩,rfl⟩
theorem D_(c:Int):aj Pg X 237 [.int .u8 c] H (Q0 UT H):=by
 refine ce [0,2] ?_;refine tl ?_
 repeat' (first|(refine ak ?_)|((refine aj.mono (wh _) ?_;rintro v H' ⟨⟨b,rfl⟩,rfl⟩))|(refine aU (fun hb=>?_) (fun hb=>?_))|(refine rr ?_))
 all_goals exact⟨⟨_,rfl⟩,rfl⟩
theorem J5(c:Int):aj Pg X 148 [.int .u8 c] H (Q0 (fun v=>∃k b,v=.tuple ⟨[vi k,.bool b]⟩) H):=by
 refine ce [0,2,3,4] ?_;refine tl ?_
 repeat' (first|(refine ak ?_)|(refine ai (fun hc=>?_) (fun hc=>?_))|(refine rr ?_))
 all_goals exact⟨⟨_,_,rfl⟩,rfl⟩
abbrev WS(s t:ByteArray)(v:Value):Prop:=∃b:Bool,v=.bool b∧(b=true→∃r,s.data.toList=t.data.toList++r)
theorem wP(s t:ByteArray):aj Pg X 235 [.string s,.string t] H (Q0 (WS s t) H):=by
 refine ce [0,1,4] ?_;refine tl ?_
 refine ak ?_
 refine ai (fun hc=>?_) (fun hc=>?_)
 ·rw[MK aa]
  refine ak ?_
  refine rr ?_;refine⟨⟨_,rfl,fun h=>?_⟩,rfl⟩
  have h1:Go.Ae.part s 0 t.size=t:=of_decide_eq_true h
  have h2:(Go.Ae.part s 0 t.size).data.toList=t.data.toList:=by rw[h1]
  refine⟨s.data.toList.drop t.size,?_⟩
  rw[←h2]
  exact(List.take_append_drop t.size s.data.toList).symm
 ·refine rr ?_;exact⟨⟨_,rfl,fun h=>by cases h⟩,rfl⟩
theorem pN(s t:ByteArray):aj Pg X 142 [.string s,.string t] H (Q0 (WS s t) H):=by
 refine ce [0,1,4] ?_;refine tl ?_
 refine aj.mono (wP s t) ?_
 rintro v H' ⟨⟨b,rfl,hb⟩,rfl⟩
 refine rr ?_;exact⟨⟨_,rfl,hb⟩,rfl⟩
theorem FW(c:Int):aj Pg X 408 [.int .u8 c] H (Q0 (fun v=>∃k b,v=.tuple ⟨[.int .i32 k,.bool b]⟩) H):=by
 refine ce [0,2,3] ?_;refine tl ?_
 repeat' (first|(refine ak ?_)|(refine ai (fun hc=>?_) (fun hc=>?_))|(refine tl ?_)|(refine rr ?_))
 all_goals exact⟨⟨_,_,rfl⟩,rfl⟩
theorem yU(c:Int):aj Pg X 156 [.int .i32 c] H (Q0 UT H):=by
 refine ce [0,2] ?_;refine tl ?_
 repeat' (first|(refine ak ?_)|(refine ai (fun hc=>?_) (fun hc=>?_))|(refine tl ?_)|(refine rr ?_))
 all_goals exact⟨⟨_,rfl⟩,rfl⟩
theorem Ea(c:Int):aj Pg X 89 [.int .i32 c] H (Q0 (fun v=>∃s b,v=.tuple ⟨[.string s,.bool b]⟩) H):=by
 refine ce [0,2,3] ?_;refine tl ?_
 refine aj.mono (yU _) ?_
 rintro v H' ⟨⟨b,rfl⟩,rfl⟩
 repeat' (first|(refine ak ?_)|(refine aU (fun hb=>?_) (fun hb=>?_))|(refine rr ?_))
 all_goals exact⟨⟨_,_,rfl⟩,rfl⟩
end
section
variable{H:ag}
structure u_(H:ag):Prop where
 first:∀i:Nat,i<256→∃x:Int,(x=240∨x=241∨x=2∨x=19∨x=3∨x=35∨x=52∨x=4∨x=68)∧H.cell 0 i=some (.int .u8 x)
 Sg:∀i:Nat,i<16→∃a b:Int,H.read 1 (i*2) 2=some [.int .u8 a,.int .u8 b]
 lt:3≤H.next
theorem u_.ex{H H':ag}(h:u_ H)(hx:Ext H H'):u_ H':=
 ⟨fun i hi=>by
  obtain⟨x,h1,h2⟩:=h.first i hi
  exact⟨x,h1,(fq (hx.obj 0 (by have:=h.lt;omega) (by simp)) _).trans h2⟩,
  fun i hi=>by
   obtain⟨a,b,h2⟩:=h.Sg i hi
   exact⟨a,b,(pI (hx.obj 1 (by have:=h.lt;omega) (by simp)) _ _).trans h2⟩,
  Nat.le_trans h.lt hx.next⟩
theorem J6{x:Int}(hx:x=240∨x=241∨x=2∨x=19∨x=3∨x=35∨x=52∨x=4∨x=68):240≤x∨(x<240∧∃z q:Nat,2≤z∧z≤4∧q<16∧aT .i64 (gq .u8 x 7)=(z:Int)∧lI .u8 x 4=(q:Int)):=by
 rcases hx with rfl|rfl|rfl|rfl|rfl|rfl|rfl|rfl|rfl
 ·left;decide
 ·left;decide
 ·right;exact⟨by decide,2,0,by decide,by decide,by decide,by decide,by decide⟩
 ·right;exact⟨by decide,3,1,by decide,by decide,by decide,by decide,by decide⟩
 ·right;exact⟨by decide,3,0,by decide,by decide,by decide,by decide,by decide⟩
 ·right;exact⟨by decide,3,2,by decide,by decide,by decide,by decide,by decide⟩
 ·right;exact⟨by decide,4,3,by decide,by decide,by decide,by decide,by decide⟩
 ·right;exact⟨by decide,4,0,by decide,by decide,by decide,by decide,by decide⟩
 ·right;exact⟨by decide,4,4,by decide,by decide,by decide,by decide,by decide⟩
abbrev NH(s:ByteArray)(v:Value)(H':ag):Prop:=∃(r:Int)(k:Nat),v=.tuple ⟨[.int .i32 r,vn k]⟩∧k≤4∧k≤s.size∧(0<s.size→0<k)
theorem Eb{s:ByteArray}{z:Int}(k:Nat)(hz:z=(k:Int))(h:k<s.size):∃c:UInt8,BV (.string s) (.int .i64 z)=some (.int .u8 (c.toNat:Int)):=by subst hz;exact⟨_,gV h⟩
set_option maxHeartbeats 1000000 in
theorem oF(hw:Wf H)(hT:u_ H)(s:ByteArray):aj Pg X 246 [.string s] H (Q1 (NH s) H):=by
 have hS:=SH.refl hw
 refine ce [0,2,3,4,5,6,7,8,9,10,11,12] ?_;refine tl ?_
 refine ak ?_
 refine ai (fun h1=>?_) (fun h1=>?_)
 ·refine rr ?_;exact⟨⟨_,0,rfl,aa,aa,fun h=>by omega⟩,hS.ext⟩
 ·obtain⟨c,e0⟩:=Eb (s:=s) (z:=0) 0 rfl aa
  have hc:c.toNat<256:=c.toNat_lt
  simp only[e0,fJ]
  rw[kD hc]
  refine ak ?_
  obtain⟨x,hx,hcell⟩:=hT.first _ hc
  refine hS.YD (by rw[Nat.mul_one];exact hcell) (by have:=hT.lt;omega) ?_
  refine ak ?_
  refine ai (fun h2=>?_) (fun h2=>?_)
  ·refine rr ?_;exact⟨⟨_,1,rfl,aa,aa,fun h=>by omega⟩,hS.ext⟩
  ·rcases J6 hx with h3|⟨h3,z,q,hz1,hz2,hq,ez,eq⟩
   ·exact absurd h3 h2
   ·rw[ez,eq,kD hq]
    refine ak ?_
    obtain⟨a,b,hr⟩:=hT.Sg q hq
    refine hS.MF hr (by have:=hT.lt;omega) ?_
    refine hS.fE fun H1 r1 hS=>?_
    refine hS.st 0 rfl rfl (by simp) rfl fun H2 hS=>?_
    have hS:SH [] H H2 [(r1,172,[.int .u8 a,.int .u8 b])]:=hS
    refine ak ?_
    refine ai (fun h4=>?_) (fun h4=>?_)
    ·refine rr ?_;exact⟨⟨_,1,rfl,aa,aa,fun h=>by omega⟩,hS.ext⟩
    ·obtain⟨c1,e1⟩:=Eb (s:=s) (z:=1) 1 rfl aa
     simp only[e1,fJ]
     refine hS.ld 0 rfl rfl ?_
     refine ak ?_
     refine ai (fun h5=>?_) (fun h5=>?_)
     ·refine rr ?_;exact⟨⟨_,1,rfl,aa,aa,fun h=>by omega⟩,hS.ext⟩
     refine hS.ld 0 rfl rfl ?_
     refine ak ?_
     refine ai (fun h5=>?_) (fun h5=>?_)
     ·refine rr ?_;exact⟨⟨_,1,rfl,aa,aa,fun h=>by omega⟩,hS.ext⟩
     refine tl ?_
     refine ak ?_
     refine ai (fun h6=>?_) (fun h6=>?_)
     ·refine rr ?_;exact⟨⟨_,2,rfl,aa,aa,fun h=>by omega⟩,hS.ext⟩
     obtain⟨c2,e2⟩:=Eb (s:=s) (z:=2) 2 rfl aa
     simp only[e2]
     refine ak ?_
     refine ai (fun h7=>?_) (fun h7=>?_)
     ·refine rr ?_;exact⟨⟨_,1,rfl,aa,aa,fun h=>by omega⟩,hS.ext⟩
     refine ai (fun h7=>?_) (fun h7=>?_)
     ·refine rr ?_;exact⟨⟨_,1,rfl,aa,aa,fun h=>by omega⟩,hS.ext⟩
     refine tl ?_
     refine ak ?_
     refine ai (fun h8=>?_) (fun h8=>?_)
     ·refine rr ?_;exact⟨⟨_,3,rfl,aa,aa,fun h=>by omega⟩,hS.ext⟩
     obtain⟨c3,e3⟩:=Eb (s:=s) (z:=3) 3 rfl aa
     simp only[e3]
     refine ak ?_
     refine ai (fun h7=>?_) (fun h7=>?_)
     ·refine rr ?_;exact⟨⟨_,1,rfl,aa,aa,fun h=>by omega⟩,hS.ext⟩
     refine ai (fun h7=>?_) (fun h7=>?_)
     ·refine rr ?_;exact⟨⟨_,1,rfl,aa,aa,fun h=>by omega⟩,hS.ext⟩
     refine tl ?_
     refine ak ?_
     refine rr ?_;exact⟨⟨_,4,rfl,aa,aa,fun h=>by omega⟩,hS.ext⟩
theorem Ec(hw:Wf H)(hT:u_ H)(s:ByteArray):aj Pg X 155 [.string s] H (Q1 (NH s) H):=by
 refine ce [0,2,3] ?_;refine tl ?_
 refine ak ?_
 refine bz (fun h1=>?_) (fun h1=>?_)
 ·have hs:0<s.size:=by
   rcases Nat.eq_zero_or_pos s.size with h|h
   ·exfalso;apply h1
    obtain⟨⟨l⟩⟩:=s
    have:l.length=0:=h
    rw[List.length_eq_zero_iff]at this
    subst this;rfl
   ·exact h
  obtain⟨c,e0⟩:=Eb (s:=s) (z:=0) 0 rfl hs
  simp only[e0]
  refine ak ?_
  refine tl ?_
  refine ak ?_
  refine ai (fun h2=>?_) (fun h2=>?_)
  ·simp only[e0]
   refine ak ?_
   refine rr ?_;exact⟨⟨_,1,rfl,aa,aa,fun h=>by omega⟩,Ext.refl _⟩
  ·refine aj.mono (oF hw hT s) ?_
   rintro v H' ⟨⟨r,k,rfl,hk⟩,hx⟩
   simp only[P8]
   refine ak ?_
   refine tl ?_
   refine rr ?_;exact⟨⟨_,k,rfl,hk⟩,hx⟩
 ·refine tl ?_
  refine ak ?_
  refine aj.mono (oF hw hT s) ?_
  rintro v H' ⟨⟨r,k,rfl,hk⟩,hx⟩
  refine ak ?_
  refine tl ?_
  refine rr ?_;exact⟨⟨_,k,rfl,hk⟩,hx⟩
end
section
variable{H0 H:ag}{L:List bF}
def isByte(v:Value):Prop:=∃n:Nat,n≤255∧v=.int .u8 (n:Int)
theorem wrap_u8(n:Int):∃m:Nat,m≤255∧IntKind.wrap .u8 n=(m:Int):=by
 refine⟨(n %256).toNat,aa,?_⟩
 show n %(2^8:Int)=_
 have:(2:Int)^8=256:=by decide
 rw[this];omega
theorem Eg(n:Int):isByte (.int .u8 (aT .u8 n)):=by
 have:aT .u8 n=IntKind.wrap .u8 n:=by cases n<;>rfl
 rw[this]
 obtain⟨m,h1,h2⟩:=wrap_u8 n
 exact⟨m,h1,by rw[h2]⟩
theorem vk(a b:Int):isByte (.int .u8 (FJ .u8 a b)):=by obtain⟨m,h1,h2⟩:=wrap_u8 (BitVec.toNat (BitVec.ofInt (IntKind.u8).bits a|||BitVec.ofInt (IntKind.u8).bits b));exact⟨m,h1,by unfold FJ;rw[h2]⟩
theorem rV(n:Nat)(h:n≤255):isByte (.int .u8 (n:Int)):=⟨n,h,rfl⟩
theorem NL(cs:List Value)(h:∀x∈cs,isByte x):∃bs,fA cs=some bs∧bs.length=cs.length:=by
 induction cs with
 |nil=>exact⟨[],rfl,rfl⟩
 |cons x cs ih=>
  obtain⟨bs,h1,h2⟩:=ih (fun y hy=>h y (List.mem_cons_of_mem _ hy))
  obtain⟨n,hn,rfl⟩:=h x (List.mem_cons_self ..)
  refine⟨UInt8.ofNat n::bs,?_,by simp[h2]⟩
  show(ah (some (IntKind.u8,(n:Int))) fun p=>ah (wG p.2) fun n=>gd (wI p.1&&Nat.ble n 255) (ah (fA cs) fun bs=>some (UInt8.ofNat n::bs)))=_
  rw[h1]
  show gd (Nat.ble n 255) _=_
  rw[Nat.ble_eq_true_of_le hn];rfl
theorem FY:∀{cs:List Value}{l:List UInt8},fA cs=some l→l.length=cs.length:=by
 intro cs
 induction cs with
 |nil=>intro l h;cases h;rfl
 |cons x cs ih=>
  intro l h
  replace h:(ah (gW x) fun p=>ah (wG p.2) fun n=>gd (wI p.1&&Nat.ble n 255) (ah (fA cs) fun bs=>some (UInt8.ofNat n::bs)))=some l:=h
  obtain⟨p,_,h⟩:=ae h
  obtain⟨n,_,h⟩:=ae h
  obtain⟨_,h⟩:=aB h
  obtain⟨bs,h1,h⟩:=ae h
  cases h
  simp[ih h1]
theorem Cf(cs:List Value)(h:∀x∈cs,isByte x):all' aN cs=true:=by
 rw[all_eq,List.all_eq_true]
 intro x hx
 obtain⟨n,_,rfl⟩:=h x hx
 rfl
section lit
variable{e:TypeId}{z:Value}{k:IntKind}{a b c d:Int}
theorem NM:bS e [z] 1 1 [(0,.int k a)] H=some (.slice (some ⟨H.next,0,none⟩) 1 1,H.new (rowOf e [.int k a])):=rfl
theorem Si:bS e [z] 1 2 [(0,.int k a),(1,.int k b)] H=some (.slice (some ⟨H.next,0,none⟩) 2 2,H.new (rowOf e [.int k a,.int k b])):=rfl
theorem NN:bS e [z] 1 3 [(0,.int k a),(1,.int k b),(2,.int k c)] H=some (.slice (some ⟨H.next,0,none⟩) 3 3,H.new (rowOf e [.int k a,.int k b,.int k c])):=rfl
theorem Sj:bS e [z] 1 4 [(0,.int k a),(1,.int k b),(2,.int k c),(3,.int k d)] H=some (.slice (some ⟨H.next,0,none⟩) 4 4,H.new (rowOf e [.int k a,.int k b,.int k c,.int k d])):=rfl
end lit
def Eh(H0:ag)(L:List bF)(bs:List Value)(v':Value)(H':ag):Prop:=∃xs iF,GB 5 1 v' (bs++xs) iF∧SH [] H0 H' (iF++L)∧(∀x∈xs,isByte x)∧xs.length≤4∧0<xs.length
theorem pP{v:Value}{bs:List Value}{gb:List bF}{K:Value→ag→Prop}(hg:GB 5 1 v bs gb)(hS:SH [] H0 H (gb++L))(hl:bs.length≤10000000){xs:List Value}{m:Nat}(hxs:xs.length=m +1)(hm:m≤3)(hb:∀x∈xs,isByte x)
 (k:∀v' H',Eh H0 L bs v' H'→K v' H'):ME (zB 5 1 v (.slice (some ⟨H.next,0,none⟩) (m +1) (m +1)) (H.new (rowOf 5 xs))) K:=by
 have hS2:=hS.grow 5 xs
 obtain⟨v',H1,iF,h1,h2,h3,_⟩:=hg.app (m:=m) (cx:=m +1) hS2 aa aa (Cf xs hb) aa aa
 rw[h1]
 exact k v' H1 ⟨xs,iF,h2,h3,hb,aa,aa⟩
set_option maxHeartbeats 1000000 in
theorem yX{v:Value}{bs:List Value}{gb:List bF}(hg:GB 5 1 v bs gb)(hS:SH [] H0 H (gb++L))(hl:bs.length≤10000000)(r:Int):
 aj Pg X 409 [v,.int .i32 r] H (Eh H0 L bs):=by
 refine ce [0,1,4,5] ?_;refine tl ?_
 refine ak ?_
 refine ai (fun h1=>?_) (fun h1=>?_)
 ·refine ME.of Si ?_
  refine pP hg hS hl (m:=1) rfl aa (by intro x hx;simp at hx;rcases hx with rfl|rfl<;>exact vk _ _) fun v' H' h=>?_
  refine rr ?_;exact h
 ·have fin:∀c rg,Az rg 25=.bool c→bC Pg X (sub eU [1,1,0,1,1,1]) (eP v (.int .i32 r) (.slice none 0 0) (.int .u32 (aT .u32 r)) rg H) (nL 0 (fD Pg [.tmp 4] (Eh H0 L bs))):=by
   intro c rg hc
   refine tl ?_
   rw[hc]
   refine ak ?_
   refine aU (fun h2=>?_) (fun h2=>?_)
   ·refine ME.of NN ?_
    refine pP hg hS hl (m:=2) rfl aa (by intro x hx;simp at hx;rcases hx with rfl|rfl|rfl<;>exact vk _ _) fun v' H' h=>?_
    refine rr ?_;exact h
   ·have uh:∀c rg,Az rg 50=.bool c→bC Pg X (sub eU [1,1,0,1,1,1,1,1]) (eP v (.int .i32 r) (.slice none 0 0) (.int .u32 (aT .u32 r)) rg H) (nL 0 (fD Pg [.tmp 4] (Eh H0 L bs))):=by
     intro c rg hc
     refine tl ?_
     rw[hc]
     refine ak ?_
     refine aU (fun h2=>?_) (fun h2=>?_)
     ·refine ME.of Sj ?_
      refine pP hg hS hl (m:=3) rfl aa (by intro x hx;simp at hx;rcases hx with rfl|rfl|rfl|rfl<;>exact vk _ _) fun v' H' h=>?_
      refine rr ?_;exact h
     ·refine ME.of NN ?_
      refine pP hg hS hl (m:=2) rfl aa (by intro x hx;simp at hx;rcases hx with rfl|rfl|rfl<;>first|exact rV 239 aa|exact rV 191 aa|exact rV 189 aa) fun v' H' h=>?_
      refine rr ?_;exact h
    refine ai (fun h3=>?_) (fun h3=>?_)
    ·exact uh _ _ (by simp only[lJ,nX];rfl)
    ·exact uh _ _ (by simp only[lJ,nX];rfl)
  refine ai (fun h2=>?_) (fun h2=>?_)
  ·exact fin _ _ (by simp only[lJ,nX];rfl)
  ·refine ai (fun h3=>?_) (fun h3=>?_)
   ·exact fin _ _ (by simp only[lJ,nX];rfl)
   ·exact fin _ _ (by simp only[lJ,nX];rfl)
theorem wU{v:Value}{bs:List Value}{gb:List bF}(hg:GB 5 1 v bs gb)(hS:SH [] H0 H (gb++L))(hl:bs.length≤10000000)(r:Int):
 aj Pg X 344 [v,.int .i32 r] H (Eh H0 L bs):=by
 refine ce [0,1,4] ?_;refine tl ?_
 refine ak ?_
 refine ai (fun h1=>?_) (fun h1=>?_)
 ·refine ME.of NM ?_
  refine pP hg hS hl (m:=0) rfl aa (by intro x hx;simp at hx;rcases hx with rfl;exact Eg _) fun v' H' h=>?_
  refine rr ?_;exact h
 ·refine aj.mono (yX hg hS hl r) fun v' H' h=>?_
  refine rr ?_;exact h
abbrev bu(rb:Nat)(p:Option Addr)(v:Value):bF:=(rb,103,[.pointer p,v])
theorem Ei(t:TypeId)(ox:Operand)(op:BinOp)(a:Addr)(ht:uD Pg t=1)(hop:kZ op=1):bq Pg op t ox (.const (.pointer none)) (.pointer (some a)) (.pointer none)=some (.bool false):=by
 show sF op (Q4 Pg t ox (.const (.pointer none)) (.pointer (some a)) (.pointer none))=_
 show sF op (z_ (uD Pg t) (.pointer none) (.pointer (some a)))=_
 rw[ht]
 show au (Nat.beq (kZ op) 1) _ _=_
 rw[hop];rfl
theorem Cg(t:TypeId)(ox:Operand)(op:BinOp)(ht:uD Pg t=1)(hop:kZ op=1):bq Pg op t ox (.const (.pointer none)) (.pointer none) (.pointer none)=some (.bool true):=by
 show sF op (z_ (uD Pg t) (.pointer none) (.pointer none))=_
 rw[ht]
 show au (Nat.beq (kZ op) 1) _ _=_
 rw[hop];rfl
theorem zT(x:Value):aj Pg X 153 [x] H (Q0 (fun v=>v=x) H):=by
 refine⟨x,H,⟨1,?_⟩,rfl,rfl⟩
 rfl
theorem uQ{P:Program}{r:Nat}{ty s d e sz:Nat}{cs:List Value}(hb:Bk H r ty cs)(h:0<cs.length)(hq:KQ P s d=some (3,e,0))(hs:je P e=some sz)(h1:1≤sz):
 fK P s d (.pointer (some ⟨r,0,none⟩)) H=some (.pointer (some ⟨r,0,none⟩),H):=by
 obtain⟨R,e1,_,e2,_⟩:=hb
 unfold fK
 rw[hq]
 show(ah (je P e) fun s=>ah (jy (H.obj r)) fun w=>gd (Nat.ble 1 s&&Nat.ble 1 w.n) (some (Value.pointer (some ⟨r,0,none⟩),H)))=_
 rw[hs,e1]
 show gd (Nat.ble 1 sz&&Nat.ble 1 R.n) _=_
 rw[e2,Nat.ble_eq_true_of_le h1,Nat.ble_eq_true_of_le h];rfl
theorem uR{P:Program}{r:Nat}{ty s d sz:Nat}{cs:List Value}(hb:Bk H r ty cs)(hq:KQ P s d=some (4,ty,0))(hs:je P ty=some sz)(h1:1≤sz)(h:sz≤cs.length):
 fK P s d (.pointer (some ⟨r,0,none⟩)) H=some (.pointer (some ⟨r,0,none⟩),H):=by
 obtain⟨R,e1,e3,e2,_⟩:=hb
 unfold fK
 rw[hq]
 show(ah (je P ty) fun s=>ah (jy (H.obj r)) fun w=>gd (Nat.ble 1 s&&Nat.beq w.ty ty&&Nat.beq 0 0&&Nat.ble s w.n) (some (Value.pointer (some ⟨r,0,none⟩),H)))=_
 rw[hs,e1]
 show gd (Nat.ble 1 sz&&Nat.beq R.ty ty&&Nat.beq 0 0&&Nat.ble sz R.n) _=_
 rw[e2,e3,Nat.ble_eq_true_of_le h1,Nat.ble_eq_true_of_le h,Nat.beq_refl];rfl
theorem CV.me{o:Option Value}{q:Option (Value×ag)}{v:Value}{H1:ag}{Kp:Value→Prop}{Km:Value→ag→Prop}(ho:o=none)(hq:q=some (v,H1))(k:Km v H1):CV o q Kp Km:=by rw[ho,hq];exact k
theorem NP(t:TypeId)(i j:Nat)(r:Nat)(ht:uE Pg t=true):bq Pg .neq t (.tmp i) (.tmp j) (.pointer (some ⟨r,0,none⟩)) (.pointer (some ⟨r,0,none⟩))=some (.bool false):=by
 show sF .neq (au (uE Pg t) (Go.Ae.ptrEq (.pointer (some ⟨r,0,none⟩)) (.pointer (some ⟨r,0,none⟩))) _)=_
 rw[ht]
 show sF .neq (gd (Nat.beq r r) (some (Nat.beq 0 0)))=_
 rw[Nat.beq_refl];rfl
theorem jm{rb:Nat}{p:Option Addr}{v:Value}(hp:p=none∨p=some ⟨rb,0,none⟩)(hS:SH [] H0 H (bu rb p v::L)):
 aj Pg X 82 [.pointer (some ⟨rb,0,none⟩)] H fun w H'=>SH [] H0 H' (bu rb (some ⟨rb,0,none⟩) v::L):=by
 refine ce [0] ?_;refine tl ?_
 refine ak ?_
 refine hS.ld 0 rfl rfl ?_
 rcases hp with rfl|rfl
 ·rw[Cg _ _ _ (by kernel_rfl) rfl]
  refine ak ?_
  refine CV.me (by kernel_rfl) (uQ (sz:=2) (e:=103) (hS.get 0 rfl) (Nat.succ_pos _) (by kernel_rfl) (by kernel_rfl) aa) ?_
  refine aj.mono (zT _) ?_
  rintro w H' ⟨rfl,rfl⟩
  refine CV.me (by kernel_rfl) (uR (sz:=2) (hS.get 0 rfl) (by kernel_rfl) (by kernel_rfl) aa (Nat.le_refl _)) ?_
  refine hS.st 0 rfl rfl (by show 0 +1≤2;omega) rfl fun H1 hS=>?_
  refine rn ?_;exact hS
 ·rw[Ei _ _ _ _ (by kernel_rfl) rfl]
  refine ak ?_
  refine hS.ld 0 rfl rfl ?_
  rw[NP _ _ _ _ (by kernel_rfl)]
  refine ak ?_
  refine rn ?_;exact hS
def vo(rb:Nat)(bs:List Value)(A:List bF):Prop:=∃p v gb,(p=none∨p=some ⟨rb,0,none⟩)∧GB 5 1 v bs gb∧A=bu rb p v::gb∧(∀x∈bs,isByte x)∧(bs=[]→v=.slice none 0 0)
theorem pQ{rb:Nat}{bs:List Value}{A:List bF}(hb:vo rb bs A)(hS:SH [] H0 H (A++L))(hl:bs.length≤1000000)(r:Int):
 aj Pg X 239 [.pointer (some ⟨rb,0,none⟩),.int .i32 r] H fun w H'=>(∃x y,w=.tuple ⟨[x,y]⟩)∧∃xs A',vo rb (bs++xs) A'∧xs.length≤4∧SH [] H0 H' (A'++L):=by
 obtain⟨p,v,gb,hp,hg,rfl,hby,_⟩:=hb
 refine ce [0,1,4,5,6] ?_;refine tl ?_
 refine aj.mono (jm (L:=gb++L) hp hS) ?_
 intro w H1 hS
 obtain⟨a,n,c,rfl,hn,_⟩:=hg.fl (SH.drop (A:=[bu rb (some ⟨rb,0,none⟩) v]) hS)
 refine ak ?_
 refine hS.ld 0 rfl rfl ?_
 refine ak ?_
 refine hS.ld 0 rfl rfl ?_
 have hS2:SH [] H0 H1 (gb++(bu rb (some ⟨rb,0,none⟩) (.slice a n c)::L)):=hS.perm List.perm_middle.symm
 refine aj.mono (wU hg hS2 aa r) ?_
 rintro v' H2 ⟨xs,iF,hg',VG,hxs,hxl,hx0⟩
 have hS4:SH [] H0 H2 (bu rb (some ⟨rb,0,none⟩) (.slice a n c)::(iF++L)):=VG.perm List.perm_middle
 refine hS4.st 0 rfl hg'.aN.2.1 (by show 1 +1≤2;omega) hg'.aN.1 fun H3 hS5=>?_
 have hS5:SH [] H0 H3 (bu rb (some ⟨rb,0,none⟩) v'::(iF++L)):=by rw[hg'.aN.2.2]at hS5;exact hS5
 refine hS5.ld 0 rfl rfl ?_
 obtain⟨a',n',c',rfl,hn',_⟩:=hg'.fl (SH.drop (A:=[bu rb (some ⟨rb,0,none⟩) _]) hS5)
 have hnl:n'=n +xs.length:=by rw[List.length_append]at hn';omega
 refine ak ?_
 rw[iL aa aa]
 refine ak ?_
 refine rr ?_;refine⟨⟨_,_,rfl⟩,xs,_,⟨_,_,iF,.inr rfl,hg',rfl,?_,fun h=>?_⟩,hxl,hS5⟩
 rotate_left
 ·rw[List.append_eq_nil_iff]at h;rw[h.2]at hx0;exact absurd hx0 (by simp)
 intro x hx
 rcases List.mem_append.1 hx with h|h
 ·exact hby x h
 ·exact hxs x h
theorem uj{r:Nat}{bs dK:List Value}{n:Nat}(hb:Bk H r 5 (bs++dK))(hr:r<H.next)(hby:∀x∈bs,isByte x)(hn:bs.length=n +1)(hm:n +1≤16777216):
 ∃s H',jB Pg [168,3] [.pointer (some ⟨r,0,none⟩),vn (n +1)] H=some (.string s,H')∧fA bs=some s.data.toList∧mK [r] H H'∧H'.low≤r:=by
 obtain⟨R,h1,h2,h3,h4,h5,h6⟩:=hb
 obtain⟨l,e1,e2⟩:=NL bs hby
 have ht:Tr.vz top R.cells 0 (n +1)=bs:=by
  rw[MC (k:=0) R.cells (bs++dK) (by simp;omega) h6]
  simp only[List.drop_zero]
  rw[←hn,List.take_left]
 have hq:jB Pg [168,3] [.pointer (some ⟨r,0,none⟩),vn (n +1)] H=Gw Pg 168 ⟨r,0,none⟩ (n +1) H:=rfl
 have hu:Gw Pg 168 ⟨r,0,none⟩ (n +1) H=ah (jy (H.obj r)) fun w=>gd (vC Pg 5&&Nat.beq w.ty 5&&Nat.beq 1 1&&Nat.ble (Nat.add 0 (n +1)) w.n&&Nat.ble (n +1) 16777216)
  (ah (fA (Tr.vz top w.cells 0 (n +1))) fun bs=>some (.string ⟨⟨bs⟩⟩,H.put r (.row ⟨w.ty,w.cells,w.n,w.bX,au (Nat.ble w.fz (Nat.add 0 (n +1))) (Nat.add 0 (n +1)) w.fz⟩))):=by kernel_rfl
 rw[hq,hu,h1]
 refine⟨⟨⟨l⟩⟩,H.put r (.row ⟨R.ty,R.cells,R.n,R.bX,au (Nat.ble R.fz (Nat.add 0 (n +1))) (Nat.add 0 (n +1)) R.fz⟩),?_,e1,mK.put _ _ _,by rw[jl];omega⟩
 show gd (vC Pg 5&&Nat.beq R.ty 5&&Nat.beq 1 1&&Nat.ble (Nat.add 0 (n +1)) R.n&&Nat.ble (n +1) 16777216) (ah (fA (Tr.vz top R.cells 0 (n +1))) _)=_
 rw[ht,e1,h2,h3,show vC Pg 5=true by kernel_rfl,Nat.ble_eq_true_of_le hm,Nat.ble_eq_true_of_le (show Nat.add 0 (n +1)≤(bs++dK).length by show 0 +(n +1)≤_;simp;omega)]
 rfl
theorem wu{rb:Nat}{bs:List Value}{A:List bF}(hb:vo rb bs A)(hS:SH [] H0 H (A++L))(hl:bs.length≤1000000):
 aj Pg X 48 [.pointer (some ⟨rb,0,none⟩)] H fun w H'=>(∃s,w=.string s∧fA bs=some s.data.toList)∧SH [] H0 H' L:=by
 obtain⟨p,v,gb,hp,hg,rfl,hby,hnil⟩:=hb
 refine ce [0,2] ?_;refine tl ?_
 refine ak ?_
 refine hS.uZ 0 rfl rfl ?_
 simp only[cr hS.wf]
 rcases hg with⟨rfl,rfl,rfl⟩|⟨r,n,dK,rfl,hn,rfl⟩
 ·refine ME.of (v:=.pointer none) (H:=Go.Ae.hN H) rfl ?_
  simp only[cr hS.wf]
  refine hS.uZ 0 rfl rfl ?_
  simp only[cr hS.wf]
  refine ak ?_
  refine ME.of (v:=.string ⟨⟨[]⟩⟩) (H:=Go.Ae.hN H) (by kernel_rfl) ?_
  simp only[cr hS.wf]
  refine⟨aK ?_,?_⟩
  ·simp only[az,av (Ext.refl (hN _))];rfl
  ·refine rr ?_;exact⟨⟨_,rfl,rfl⟩,SH.drop (A:=[bu rb p _]) hS⟩
 ·obtain⟨n,rfl⟩:∃m,n=m +1:=by
   cases n with
   |succ n=>exact⟨n,rfl⟩
   |zero=>
    have:bs=[]:=List.length_eq_zero_iff.1 (by simpa using hn)
    exact absurd (hnil this) (by simp)
  refine ME.of (v:=.pointer (some ⟨r,0,none⟩)) (H:=Go.Ae.hN H) rfl ?_
  simp only[cr hS.wf]
  refine hS.uZ 0 rfl rfl ?_
  simp only[cr hS.wf]
  refine ak ?_
  have hb:Bk (Go.Ae.hN H) r 5 (bs++dK):=hS.get 1 rfl
  have hr:=(hS.lo (r,5,bs++dK) (by simp)).2
  obtain⟨s,H1,e1,e2,e3,e4⟩:=uj (n:=n) hb hr hby aa aa
  refine ME.of e1 ?_
  have hlow:H1.low<H.next:=by omega
  simp only[az,av (Ext.refl (hN _)),P7 hlow]
  refine⟨by kernel_rfl,?_⟩
  refine rr ?_;refine⟨⟨_,rfl,e2⟩,?_⟩
  have hS2:SH [] H0 H ([bu rb p (.slice (some ⟨r,0,none⟩) (n +1) (bH 1)),(r,5,bs++dK)]++L):=hS
  exact SH.turn (A':=[]) hS2 (e3.draw.weaken (by intro x hx;simp at hx;simp[hx])) (fun e h=>nomatch h) List.Pairwise.nil
end
section
variable{H0 H:ag}{L:List bF}
theorem wz(l:List UInt8):∀x∈dn l,isByte x:=by
 intro x hx
 rw[show dn l=l.map (fun b=>Value.int .u8 (.ofNat b.toNat))from qL _ _]at hx
 rw[List.mem_map]at hx
 obtain⟨b,_,rfl⟩:=hx
 exact⟨b.toNat,by have:=b.toNat_lt;omega,rfl⟩
theorem yY(l:List UInt8):(dn l).length=l.length:=by rw[show dn l=l.map (fun b=>Value.int .u8 (.ofNat b.toNat))from qL _ _];simp
theorem SH.T6{r:Nat}{cs:List Value}(hS:SH [] H0 H ((r,5,cs)::L)){s:ByteArray}{n:Nat}(hn:s.size=n)(hc:cs.length=n){K:Value→ag→Prop}
 (k:∀H1,SH [] H0 H1 ((r,5,dn s.data.toList)::L)→K (vn n) H1):ME (YB 1 (.slice (some ⟨r,0,none⟩) n n) (.string s) H) K:=by
 have hl:s.data.toList.length=n:=hn
 have hbl:(dn s.data.toList).length=n:=by rw[yY];exact hl
 obtain⟨H1,h1,h2,_⟩:=hS.tC (vs:=dn s.data.toList) (o:=0) 0 rfl aa (Cf _ (wz _))
 rw[tH _ _ aa]at h2
 have e:YB 1 (.slice (some ⟨r,0,none⟩) n n) (.string s) H=some (vn n,H1):=by
  show(ah (H.write r 0 (tk (Nat.mul (au (Nat.ble (len s.data.toList) n) (len s.data.toList) n) 1) (dn s.data.toList))) fun H'=>some (Value.int .i64 (.ofNat (au (Nat.ble (len s.data.toList) n) (len s.data.toList) n)),H'))=_
  rw[aJ,hl,Nat.ble_eq_true_of_le (Nat.le_refl n),dP,vB,List.take_of_length_le (by show _≤n*1;omega),h1]
  rfl
 rw[e]
 exact k H1 h2
theorem NQ:∀(l:List UInt8),fA (dn l)=some l:=by
 intro l
 induction l with
 |nil=>rfl
 |cons b l ih=>
  show(ah (wG (.ofNat b.toNat)) fun n=>gd (wI .u8&&Nat.ble n 255) (ah (fA (dn l)) fun bs=>some (UInt8.ofNat n::bs)))=_
  rw[ih]
  show gd (Nat.ble b.toNat 255) (some (UInt8.ofNat b.toNat::l))=_
  rw[Nat.ble_eq_true_of_le (by have:=b.toNat_lt;omega),lT]
  simp
theorem pR(hw:Wf H)(s:ByteArray)(hs:s.size≤1000000):aj Pg X 233 [.string s] H (Q1 (fun v _=>v=.string s) H):=by
 have hS:=SH.refl hw
 refine ce [0,2,3] ?_;refine tl ?_
 refine ak ?_
 refine ai (fun h=>?_) (fun h=>?_)
 ·refine rr ?_;refine⟨?_,Ext.refl _⟩
  have h0:s.data.toList=[]:=List.length_eq_zero_iff.1 (show s.size=0 by omega)
  obtain⟨⟨l⟩⟩:=s
  have h0:l=[]:=h0
  subst h0;rfl
 ·refine hS.mkS (Nat.le_refl _) aa fun H1 r hS=>?_
  refine SH.T6 hS rfl (by rw[AB];simp) fun H2 hS=>?_
  obtain⟨n,hn⟩:∃n,s.size=n +1:=⟨s.size -1,aa⟩
  rw[show DF 1 (.slice (some ⟨r,0,none⟩) s.size s.size) (.int .i64 0)=_ from nW (k:=0) aa]
  refine ak ?_
  have hb:Bk H2 r 5 (dn s.data.toList++[]):=by rw[List.append_nil];exact hS.get 0 rfl
  have hr:=(hS.lo _ (List.mem_cons_self ..)).2
  obtain⟨t,H3,e1,e2,e3,e4⟩:=uj (n:=n) hb hr (wz _) (by rw[yY];exact hn) aa
  rw[hn]
  refine ME.of e1 ?_
  have et:t=s:=by
   rw[NQ]at e2
   have e2:=Option.some.inj e2
   obtain⟨⟨l⟩⟩:=s
   obtain⟨⟨l'⟩⟩:=t
   have e2:l=l':=e2
   rw[e2]
  refine rr ?_;refine⟨by rw[et],?_⟩
  exact hS.ext.later e3 (fun q hq=>by
   simp at hq
   subst hq
   exact .inr (hS.YC (List.mem_cons_self ..)))
theorem FZ(hw:Wf H)(s:ByteArray)(hs:s.size≤1000000):aj Pg X 161 [.string s] H (Q1 (fun v _=>v=.string s) H):=by
 refine ce [0,2] ?_;refine tl ?_
 refine aj.mono (pR hw s hs) ?_
 rintro v H' ⟨rfl,hx⟩
 refine rr ?_;exact⟨rfl,hx⟩
theorem NR(c:Nat):∀(l:List UInt8)(k:Nat),iI c l k=none∨∃j,iI c l k=some j∧k≤j∧∃b,l[j -k]?=some b∧b.toNat=c:=by
 intro l
 induction l with
 |nil=>intro k;exact .inl rfl
 |cons b l ih=>
  intro k
  show au (Nat.beq b.toNat c) (some k) (iI c l (Nat.succ k))=none∨∃j,au (Nat.beq b.toNat c) (some k) (iI c l (Nat.succ k))=some j∧_
  cases hb:Nat.beq b.toNat c with
  |true=>exact .inr ⟨k,rfl,Nat.le_refl _,b,by simp,Nat.eq_of_beq_eq_true hb⟩
  |false=>
   rcases ih (Nat.succ k)with h|⟨j,h1,h2,b',h3,h4⟩
   ·exact .inl h
   ·refine .inr ⟨j,h1,aa,b',?_,h4⟩
    obtain⟨d,hd⟩:∃d,j=d +k +1:=⟨j -k -1,aa⟩
    rw[show j -Nat.succ k=d by omega]at h3
    rw[show j -k=d +1 by omega,List.getElem?_cons_succ,h3]
abbrev foundAt(s:ByteArray)(c:Nat)(v:Value):Prop:=v=vi (-1)∨∃k:Nat,v=vn k∧k<s.size∧∃b,s.data.toList[k]?=some b∧b.toNat=c
theorem Ej(s:ByteArray)(c:Nat)(hc:c≤255):aj Pg X 339 [.string s,.int .u8 (c:Int)] H (Q0 (foundAt s c) H):=by
 have e:a_ Pg X 1 339 [.string s,.int .u8 (c:Int)] H=some (Bo (iI c s.data.toList 0),H):=by
  have e0:a_ Pg X 1 339 [.string s,.int .u8 (c:Int)] H=ah (gd (Nat.ble c 255&&true) (some (s,c))) fun x=>some (Bo (iI x.2 x.1.data.toList 0),H):=by kernel_rfl
  rw[e0,Nat.ble_eq_true_of_le hc];rfl
 refine⟨_,H,⟨1,e⟩,?_,rfl⟩
 rcases NR c s.data.toList 0 with h|⟨j,h,_,b,h3,h4⟩
 ·rw[h];exact .inl rfl
 ·rw[h]
  refine .inr ⟨j,rfl,?_,b,h3,h4⟩
  have:=(List.getElem?_eq_some_iff.mp h3).1
  have h5:s.data.toList.length=s.size:=rfl
  omega
theorem Em(s:ByteArray)(c:Nat)(hc:c≤255):aj Pg X 228 [.string s,.int .u8 (c:Int)] H (Q0 (foundAt s c) H):=by
 refine ce [0,1,4] ?_;refine tl ?_
 refine aj.mono (Ej s c hc) ?_
 rintro v H' ⟨hv,rfl⟩
 refine rr ?_;exact⟨hv,rfl⟩
theorem index_spec(s:ByteArray)(c:Nat)(hc:c≤255):aj Pg X 143 [.string s,.int .u8 (c:Int)] H (Q0 (foundAt s c) H):=by
 refine ce [0,1,4] ?_;refine tl ?_
 refine aj.mono (Em s c hc) ?_
 rintro v H' ⟨hv,rfl⟩
 refine rr ?_;exact⟨hv,rfl⟩
theorem bC.Qj{P:Program}{X:Xt}{c:Code}{s:St}{K:Out→Prop}(h:bC P X c s K):bC P X (.seq .skip c) s K:=bC.seq ⟨_,_,Ev.skip,nK.refl _,h⟩
abbrev Qk(s:ByteArray)(at':Nat)(v:Value):Prop:=∃k:Nat,v=vn k∧at'≤k∧k≤s.size
theorem rW:findLabel (sub cZ [1,0]) 0=some (.seq .skip (sub cZ [1,0,1])):=by kernel_rfl
set_option maxHeartbeats 1000000 in
theorem nI(s:ByteArray)(zU:Nat)(h0:zU≤s.size)(hs:s.size≤1000000):aj Pg X 79 [.string s,vn zU] H (Q0 (Qk s zU) H):=by
 refine ce [0,1,4,5] ?_;refine tl ?_
 let R:Nat→Nat→St→Prop:=fun n l st=>l=0∧∃(k:Nat)(x5:Value)(rg:List (Nat×Value)),k +n=s.size∧zU≤k∧st=gz (.string s) (vn k) (.int .i64 0) x5 rg H
 have step:∀(n k:Nat)(x5:Value),k +n=s.size→zU≤k→k<s.size→∀UU,P9 (sub cZ [1,0]) R n (fD Pg [.tmp 4] (Q0 (Qk s zU) H)) (.goto 0 (gz (.string s) (vi ((k:Int) +1)) (.int .i64 0) x5 UU H)):=by
  intro n k x5 hk hat hlt UU
  rw[yJ rW]
  exact⟨n -1,aa,rfl,k +1,x5,UU,aa,aa,rfl⟩
 have tail:∀(n k:Nat)(x5:Value),k +n=s.size→zU≤k→∀UU,bC Pg X (sub cZ [1,0,1,1]) (gz (.string s) (vn k) (.int .i64 0) x5 UU H) (P9 (sub cZ [1,0]) R n (fD Pg [.tmp 4] (Q0 (Qk s zU) H))):=by
  intro n k x5 hk hat UU
  refine tl ?_
  rw[fu aa]
  refine ak ?_
  refine aj.mono (pN _ _) ?_
  rintro v H' ⟨⟨b,rfl,YY⟩,rfl⟩
  refine ak ?_
  refine aU (fun hb=>?_) (fun hb=>?_)
  ·refine aj.mono (index_spec _ 10 aa) ?_
   rintro v H' ⟨hv,rfl⟩
   rcases hv with rfl|⟨j,rfl,hj,c,hc1,hc2⟩
   ·refine ak ?_
    rw[decide_eq_false aa]
    refine ak ?_
    simp only[H_]
    refine rr ?_;exact⟨⟨s.size,rfl,aa,aa⟩,rfl⟩
   ·refine ak ?_
    rw[iG _ aa (Nat.le_refl _)]at hj
    have hj0:j≠0:=by
     rintro rfl
     obtain⟨r,hr⟩:=YY hb
     rw[hr]at hc1
     cases hc1
     revert hc2
     decide
    rw[decide_eq_true aa]
    refine ak ?_
    rw[aH aa aa]
    refine ak ?_
    rw[yJ rW]
    exact⟨n -j,aa,rfl,k +j,vn j,_,aa,aa,rfl⟩
  ·simp only[H_]
   refine rr ?_;exact⟨⟨k,rfl,aa,aa⟩,rfl⟩
 have goal:∀n(k:Nat)(x5:Value)(rg:List (Nat×Value)),k +n=s.size→zU≤k→bC Pg X (sub cZ [1,0,1]) (gz (.string s) (vn k) (.int .i64 0) x5 rg H) (P9 (sub cZ [1,0]) R n (fD Pg [.tmp 4] (Q0 (Qk s zU) H))):=by
  intro n k x5 rg hk hat
  refine tl ?_
  refine ak ?_
  refine ai (fun hc=>?_) (fun hc=>tail n k x5 hk hat _)
  rw[gV aa]
  refine ak ?_
  refine aU (fun hb=>?_) (fun hb=>?_)
  ·rw[aH aa aa]
   refine ak ?_
   exact step n k x5 hk hat aa _
  refine aU (fun hb=>?_) (fun hb=>?_)
  ·rw[aH aa aa]
   refine ak ?_
   exact step n k x5 hk hat aa _
  refine aU (fun hb=>?_) (fun hb=>?_)
  ·rw[aH aa aa]
   refine ak ?_
   exact step n k x5 hk hat aa _
  refine aU (fun hb=>?_) (fun hb=>?_)
  ·rw[aH aa aa]
   refine ak ?_
   exact step n k x5 hk hat aa _
  exact tail n k x5 hk hat _
 refine bC.scope R ?_ (s.size -zU) ?_
 ·rintro n l st rest ⟨rfl,k,x5,rg,hk,hat,rfl⟩ hf
  rw[rW]at hf
  cases hf
  exact bC.Qj (goal n k x5 rg hk hat)
 ·refine tl ?_
  refine ak ?_
  refine ai (fun hc=>?_) (fun hc=>tail _ zU _ aa aa _)
  rw[gV aa]
  refine ak ?_
  refine aU (fun hb=>?_) (fun hb=>?_)
  ·rw[aH aa aa]
   refine ak ?_
   exact step (s.size -zU) zU _ aa aa aa _
  refine aU (fun hb=>?_) (fun hb=>?_)
  ·rw[aH aa aa]
   refine ak ?_
   exact step (s.size -zU) zU _ aa aa aa _
  refine aU (fun hb=>?_) (fun hb=>?_)
  ·rw[aH aa aa]
   refine ak ?_
   exact step (s.size -zU) zU _ aa aa aa _
  refine aU (fun hb=>?_) (fun hb=>?_)
  ·rw[aH aa aa]
   refine ak ?_
   exact step (s.size -zU) zU _ aa aa aa _
  exact tail _ zU _ aa aa _
end
section
variable{H0 H:ag}{L:List bF}
theorem AY{a:Int}{b:Nat}(h:a=b):vi a=vn b:=by subst h;rfl
abbrev NS(s:ByteArray)(k:Nat)(v:Value)(H':ag):Prop:=∃(a n:Nat)(r:Int)(ok:Bool),v=.agg ⟨[vn a,vn n,.int .i32 r,.bool ok]⟩∧(k<s.size→0<n)∧k +n≤s.size
theorem IC(hw:Wf H)(hT:u_ H)(s:ByteArray)(k:Nat)(hk:k≤s.size):aj Pg X 88 [.string s,vn k] H (Q1 (NS s k) H):=by
 have hS:=SH.refl hw
 refine ce [0,1,4,5,6] ?_;refine tl ?_
 refine hS.fE fun Hn r hS=>?_
 refine ak ?_
 rw[decide_eq_false aa]
 refine ak ?_
 refine ai (fun hc=>?_) (fun hc=>?_)
 ·refine PU.b4 rfl ?_;refine hS.qR fun Hn hS=>?_
  refine rr ?_
  refine hS.iW ?_
  refine⟨⟨0,0,0,false,rfl,aa,aa⟩,hS.ext⟩
 ·refine tl ?_
  rw[fu aa]
  refine ak ?_
  refine aj.mono (Ec hS.wf (hT.ex hS.ext) _) ?_
  rintro v H' ⟨⟨x,n,rfl,h1,h2,h3⟩,hx⟩
  have hS:=hS.call hx
  have hp:=iG s hk (Nat.le_refl _)
  have fin:∀rg,bC Pg X (sub D8 [1,1,1,1]) (AV (.string s) (vn k) (.pointer (some ⟨r,0,none⟩)) (.int .i32 x) (vn n) rg H') (fD Pg [.cell 4 113] (Q1 (NS s k) H)):=by
   intro rg
   refine tl ?_
   refine PU.b4 rfl ?_;refine hS.aX ?_;refine hS.qR fun Hn hS=>?_
   refine rr ?_
   refine hS.iW ?_
   exact⟨⟨k,n,x,true,rfl,aa,aa⟩,hS.ext⟩
  refine ak ?_
  refine ai (fun hc=>?_) (fun hc=>fin _)
  refine ai (fun hc=>?_) (fun hc=>fin _)
  refine PU.b4 rfl ?_;refine hS.aX ?_;refine hS.qR fun Hn hS=>?_
  refine rr ?_
  refine hS.iW ?_
  exact⟨⟨k,1,65533,false,rfl,aa,aa⟩,hS.ext⟩
abbrev AZ(s:ByteArray)(v:Value):Prop:=∃(r:Int)(n:Nat)(b:Bool),v=.tuple ⟨[.int .i32 r,vn n,.bool b]⟩∧n≤s.size
theorem En(s:ByteArray):aj Pg X 343 [.string s] H (Q0 (AZ s) H):=by
 refine ce [0,2,3,4,5,6,7,8,10] ?_;refine tl ?_
 have bad:AZ s (.tuple ⟨[.int .i32 0,.int .i64 0,.bool false]⟩):=⟨0,0,false,rfl,Nat.zero_le _⟩
 refine ak ?_
 refine ai (fun hc=>?_) (fun hc=>?_)
 ·refine rr ?_;exact⟨bad,rfl⟩
 rw[show BV (.string s) (.int .i64 1)=_ from gV (k:=1) aa]
 refine ak ?_
 refine bz (fun hc=>?_) (fun hc=>?_)
 ·refine rr ?_;exact⟨bad,rfl⟩
 refine tl ?_
 refine XV 5 6 7 8 (I:=fun n x5 x6 x7 x8 H'=>H'=H∧∃(r:Int)(k:Nat),x5=.int .i32 r∧x6=vn k∧2≤k∧k≤s.size∧k +n=8) ?_ 6 ⟨rfl,0,2,rfl,rfl,aa,aa,aa⟩
 rintro n x5 x6 x7 x8 rg H' ⟨rfl,r,k,rfl,rfl,h1,h2,h3⟩
 have fin:∀x7 x8 rg,bC Pg X (sub yS [1,1,1,1]) (wO (.string s) (.int .i32 0) (.int .i64 0) (.bool false) (.int .i32 r) (vn k) x7 x8 top rg H') (fD Pg [.tmp 2,.tmp 3,.tmp 4] (Q0 (AZ s) H')):=by
  intro x7 x8 rg
  refine tl ?_
  refine ak ?_
  refine ai (fun hc=>?_) (fun hc=>?_)
  ·refine rr ?_;exact⟨bad,rfl⟩
  refine ai (fun hc=>?_) (fun hc=>?_)
  ·refine rr ?_;exact⟨bad,rfl⟩
  rw[gV aa]
  refine ak ?_
  refine bz (fun hc=>?_) (fun hc=>?_)
  ·refine rr ?_;exact⟨bad,rfl⟩
  refine tl ?_
  refine aj.mono (Ea _) ?_
  rintro v H' ⟨⟨t,b,rfl⟩,rfl⟩
  refine ak ?_
  refine aU (fun hb=>?_) (fun hb=>?_)
  ·refine rr ?_;exact⟨bad,rfl⟩
  rw[aH aa aa]
  refine ak ?_
  refine rr ?_;exact⟨⟨r,k +1,true,rfl,aa⟩,rfl⟩
 refine tl ?_
 refine ak ?_
 refine ai (fun hc=>?_) (fun hc=>fin _ _ _)
 refine ai (fun hd=>?_) (fun hc=>fin _ _ _)
 refine tl ?_
 rw[gV aa]
 refine ak ?_
 refine aj.mono (FW _) ?_
 rintro v H' ⟨⟨d,b,rfl⟩,rfl⟩
 refine ak ?_
 refine aU (fun hb=>fin _ _ _) (fun hb=>?_)
 rw[aH aa aa]
 refine ak ?_
 exact⟨n -1,aa,_,_,_,_,_,_,rfl,rfl,_,k +1,rfl,rfl,aa,aa,aa⟩
theorem wB(s:ByteArray):aj Pg X 238 [.string s] H (Q0 (AZ s) H):=by
 have bad:AZ s (.tuple ⟨[.int .i32 0,.int .i64 0,.bool false]⟩):=⟨0,0,false,rfl,Nat.zero_le _⟩
 refine ce [0,2,3,4,8] ?_;refine tl ?_
 refine ak ?_
 refine ai (fun hc=>?_) (fun hc=>?_)
 ·refine rr ?_;exact⟨bad,rfl⟩
 have h0:0<s.size:=by
  rcases Nat.eq_zero_or_pos s.size with h|h
  ·exfalso
   apply hc
   obtain⟨⟨l⟩⟩:=s
   cases l with
   |nil=>rfl
   |cons a l=>cases h
  ·exact h
 rw[show BV (.string s) (.int .i64 0)=_ from gV (k:=0) h0]
 refine ak ?_
 have fin:∀c rg b,Az rg 15=.bool b→bC Pg X (sub pM [1,1,0,1,0,1,1,1,1,1,1,1]) (wN (.string s) (.int .i32 0) (.int .i64 0) (.bool false) (.int .u8 c) rg H) (nL 0 (pG Pg X (sub pM [1,1,1]) (fD Pg [.tmp 2,.tmp 3,.tmp 4] (Q0 (AZ s) H)))):=by
  intro c rg b hb
  refine tl ?_
  rw[hb]
  refine ak ?_
  refine aU (fun hb=>?_) (fun hb=>?_)
  ·rw[show BV (.string s) (.int .i64 0)=_ from gV (k:=0) h0]
   refine ak ?_
   refine rr ?_;exact⟨⟨_,1,true,rfl,h0⟩,rfl⟩
  refine ai (fun hc=>?_) (fun hc=>?_)
  ·refine aj.mono (En _) ?_
   rintro v H' ⟨⟨r,n,b,rfl,hn⟩,rfl⟩
   refine ak ?_
   refine rr ?_;exact⟨⟨r,n,b,rfl,hn⟩,rfl⟩
  ·refine tl ?_
   refine rr ?_;exact⟨bad,rfl⟩
 refine ai (fun hc=>?_) (fun hc=>?_)
 ·refine rr ?_;exact⟨⟨10,1,true,rfl,h0⟩,rfl⟩
 refine ai (fun hc=>?_) (fun hc=>?_)
 ·refine rr ?_;exact⟨⟨9,1,true,rfl,h0⟩,rfl⟩
 refine ai (fun hc=>?_) (fun hc=>?_)
 ·refine rr ?_;exact⟨⟨13,1,true,rfl,h0⟩,rfl⟩
 repeat' (first|(refine ai (fun hc=>?_) (fun hc=>?_)))
 all_goals exact fin _ _ _ (by(try simp only[PP,Nat.reduceBEq]);rfl)
abbrev T7(s:ByteArray)(k:Nat)(v:Value)(H':ag):Prop:=∃(r:Int)(n:Nat)(e:Int),v=.tuple ⟨[.int .i32 r,vn n,vi e]⟩∧k +n≤s.size∧(e=0→0<n)
theorem A7(hw:Wf H)(hT:u_ H)(s:ByteArray)(k:Nat)(hk:k<s.size)(hs:s.size≤1000000):aj Pg X 345 [.string s,vn k] H (Q1 (T7 s k) H):=by
 have hS:=SH.refl hw
 refine ce [0,1,4,5,6,7,8,9,10] ?_;refine tl ?_
 refine aj.mono (IC hw hT s k aa) ?_
 rintro v H' ⟨⟨a,n,r,ok,rfl,h1,h2⟩,hx⟩
 have hS:=hS.call hx
 refine hS.fE fun Hn ri hS=>?_
 repeat(first|(refine hS.aX ?_)|(refine hS.FO ?_)|(refine hS.qR fun Hn hS=>?_))
 refine aU (fun hb=>?_) (fun hb=>?_)
 ·refine rr ?_;exact⟨⟨0,0,11,rfl,aa,fun h=>by cases h⟩,hS.ext⟩
 refine hS.FO ?_;refine hS.aX ?_
 refine bz (fun hb=>?_) (fun hb=>?_)
 ·repeat(first|(refine hS.aX ?_)|(refine hS.TJ ?_)|(refine TN ?_))
  refine rr ?_;exact⟨⟨r,n,0,rfl,h2,fun _=>h1 hk⟩,hS.ext⟩
 rw[aH aa aa]
 refine ak ?_
 rw[show Hq (.string s) (some (vi ((k:Int) +1))) none none=_ from fu (lo:=k +1) aa]
 refine ak ?_
 refine aj.mono (wB _) ?_
 rintro v H' ⟨⟨x,m,b,rfl,hm⟩,rfl⟩
 have hp:=iG s (lo:=k +1) (hi:=s.size) aa (Nat.le_refl _)
 refine ak ?_
 refine aU (fun hb=>?_) (fun hb=>?_)
 ·refine rr ?_;exact⟨⟨0,0,12,rfl,aa,fun h=>by cases h⟩,hS.ext⟩
 rw[aH aa aa]
 refine ak ?_
 refine rr ?_;exact⟨⟨x,m +1,0,by rw[AY (show 1 +(m:Int)=((m +1:Nat):Int) by omega)],aa,fun _=>by omega⟩,hS.ext⟩
end
section
variable{H0 H:ag}{L:List bF}
def oq(m:Nat)(H:ag)(v:Value):Prop:=∃a n c cs,v=.slice a n c∧Fl H a n 2 cs∧n≤m∧∀x∈cs,∃z:Int,x=.int .i32 z
def bN(b m:Nat)(H:ag)(v:Value):Prop:=∃a n c cs,v=.slice a n c∧tT (b≤·) 301 H a n 2 cs∧n≤m∧∀x∈cs,∃z:Int,x=.int .i32 z
theorem oq.nil(m:Nat)(H:ag):oq m H (.slice none 0 0):=⟨none,0,0,[],rfl,Fl.nil _ _ _,aa,fun x h=>by cases h⟩
theorem bN.nil(b m:Nat)(H:ag):bN b m H (.slice none 0 0):=⟨none,0,0,[],rfl,tT.nil _ _ _ _ _,aa,fun x h=>by cases h⟩
theorem bN.i{b m:Nat}{H:ag}{v:Value}(h:bN b m H v):oq m H v:=by
 obtain⟨a,n,c,cs,h1,h2,h3⟩:=h
 exact⟨a,n,c,cs,h1,h2.1,h3⟩
theorem bN.stay{S:List Nat}{b m:Nat}{H H':ag}{v:Value}(h:bN b m H v)(hx:mK S H H')(hS:∀q∈S,q<b∨¬FP H q 301):bN b m H' v:=by
 obtain⟨a,n,c,cs,h1,h2,h3⟩:=h
 exact⟨a,n,c,cs,h1,h2.stay hx fun q hq=>(hS q hq).imp_left Nat.not_le_of_lt,h3⟩
theorem bN.ex{b m:Nat}{H H':ag}{v:Value}(h:bN b m H v)(hx:Ext H H'):bN b m H' v:=h.stay hx (fun r h=>nomatch h)
theorem bN.le{b b' m m':Nat}{H:ag}{v:Value}(h:bN b m H v)(hm:m≤m')(hb:b'≤b):bN b' m' H v:=by
 obtain⟨a,n,c,cs,h1,h2,h3,h4⟩:=h
 exact⟨a,n,c,cs,h1,h2.le hb,aa,h4⟩
def Tok(b:Nat)(H:ag)(lo hi:Nat)(v:Value):Prop:=∃(kd:Int)(a e:Nat)(t:ByteArray)(rs:Value),v=.agg ⟨[vi kd,vn a,vn e,.string t,rs]⟩∧lo<e∧e≤hi∧a≤hi∧t.size≤80000∧bN b 20000 H rs
abbrev uw(b:Nat)(s:ByteArray)(k:Nat)(v:Value)(H':ag):Prop:=∃(tok:Value)(cd:Int)(at':Nat),v=.tuple ⟨[tok,.agg ⟨[vi cd,vn at']⟩]⟩∧(∃kd a e t rs,tok=.agg ⟨[vi kd,vn a,vn e,.string t,rs]⟩∧(∃x n c,rs=.slice x n c))∧(cd=0→Tok b H' k s.size tok)
theorem Ka(hw:Wf H)(s:ByteArray)(k:Nat)(hk:k<s.size)(hs:s.size≤1000000):aj Pg X 145 [.string s,vn k] H (Q1 (uw H.next s k) H):=by
 have hS:=SH.refl hw
 refine ce [0,1,4,5,6,7] ?_;refine tl ?_
 refine hS.fE fun Hn rt hS=>?_
 refine hS.fE fun Hn rs hS=>?_
 rw[aH aa aa]
 refine hS.aX ?_
 refine IB 6 (I:=fun n x6 H'=>H'=Hn∧∃e:Nat,x6=vn e∧e +n=s.size∧k<e) ?_ (s.size -(k +1)) ⟨rfl,k +1,rfl,aa,aa⟩
 rintro n x6 rg H' ⟨rfl,e,rfl,h1,h2⟩
 have fin:∀rg,bC Pg X (sub yR [1,1,1]) (v_ (.string s) (vn k) (.pointer (some ⟨rt,0,none⟩)) (.pointer (some ⟨rs,0,none⟩)) (vn e) top rg H') (fD Pg [.cell 4 98,.cell 5 92] (Q1 (uw H.next s k) H)):=by
  intro rg
  refine tl ?_
  rw[iL aa aa]
  refine hS.aX ?_
  refine ai (fun hc=>?_) (fun hc=>?_)
  ·repeat(first|(refine hS.aX ?_)|(refine PU.b2 rfl ?_)|(refine PU.b5 rfl ?_)|(refine hS.qR fun Hn hS=>?_))
   refine rr ?_
   repeat(refine hS.iW ?_)
   exact⟨⟨_,3,k,rfl,⟨_,0,0,_,_,rfl,_,_,_,rfl⟩,fun h=>by cases h⟩,hS.ext⟩
  rw[gV aa]
  refine hS.aX ?_
  refine aj.mono (yT _) ?_
  rintro v H' ⟨⟨b,rfl⟩,rfl⟩
  refine hS.aX ?_
  have fin:∀(kd:Int) rg,bC Pg X (sub yR [1,1,1,1,1,1]) (v_ (.string s) (vn k) (.pointer (some ⟨rt,0,none⟩)) (.pointer (some ⟨rs,0,none⟩)) (vn e) (vi kd) rg H') (fD Pg [.cell 4 98,.cell 5 92] (Q1 (uw H.next s k) H)):=by
   intro kd rg
   refine tl ?_
   rw[iM aa aa]
   refine hS.aX ?_
   have hp:=iG s (lo:=k) (hi:=e) aa aa
   refine aj.mono (FZ hS.wf _ aa) ?_
   rintro v H' ⟨rfl,hx⟩
   have hS:=hS.call hx
   repeat(first|(refine hS.aX ?_)|(refine PU.b2 rfl ?_)|(refine PU.b5 rfl ?_)|(refine hS.qR fun Hn hS=>?_))
   refine rr ?_
   repeat(refine hS.iW ?_)
   exact⟨⟨_,0,0,rfl,⟨_,_,_,_,_,rfl,_,_,_,rfl⟩,fun _=>⟨kd,k,e,_,_,rfl,aa,aa,aa,aa,bN.nil _ _ _⟩⟩,hS.ext⟩
  refine aU (fun hb=>?_) (fun hb=>?_)
  ·exact fin 1 _
  ·exact fin 2 _
 refine tl ?_
 refine ak ?_
 refine ai (fun hc=>?_) (fun hc=>fin _)
 rw[gV aa]
 refine ak ?_
 refine aj.mono (D_ _) ?_
 rintro v H' ⟨⟨b,rfl⟩,rfl⟩
 refine ak ?_
 refine aU (fun hb=>?_) (fun hb=>fin _)
 rw[aH aa aa]
 refine ak ?_
 exact⟨n -1,aa,_,_,_,rfl,rfl,e +1,rfl,aa,aa⟩
theorem vo.new(rb:Nat):vo rb [] [bu rb none (.slice none 0 0)]:=⟨none,.slice none 0 0,[],.inl rfl,GB.nil _ _,rfl,(fun x h=>nomatch h),fun _=>rfl⟩
set_option maxHeartbeats 1000000 in
theorem Ck(hw:Wf H)(hT:u_ H)(s:ByteArray)(k:Nat)(hk:k<s.size)(hs:s.size≤20000):aj Pg X 146 [.string s,vn k] H (Q1 (uw H.next s k) H):=by
 have hS:=SH.refl hw
 refine ce [0,1,4,5,6,7,8,9,10,11] ?_;refine tl ?_
 refine hS.fE fun Hn rt hS=>?_
 refine hS.fE fun Hn rs hS=>?_
 refine hS.fE fun Hn rb hS=>?_
 rw[aH aa aa]
 refine hS.aX ?_
 refine XW 7 8 9 10 11 (I:=fun n x7 x8 x9 eZ jK H'=>∃p bs A,x7=vn p∧p +n=s.size∧k +1≤p∧vo rb bs A∧bs.length≤4*p∧SH [] H H' ((rs,92,[.int .i64 0,.int .i64 0])::(rt,98,[.int .i64 0,.int .i64 0,.int .i64 0,.string (ByteArray.mk #[]),.slice none 0 0])::A)) ?_ (s.size -(k +1))
  ⟨k +1,[],_,rfl,aa,aa,vo.new rb,by simp,hS.perm ((List.Perm.swap _ _ _).trans (List.Perm.cons _ (List.Perm.swap _ _ _)))⟩
 rintro n x7 x8 x9 eZ jK rg H' ⟨p,bs,A,rfl,h1,h2,hbu,hbl,hS⟩
 refine tl ?_
 refine ak ?_
 refine ai (fun hc=>?_) (fun hc=>?_)
 rotate_left
 ·refine tl ?_
  repeat(first|(refine hS.aX ?_)|(refine PU.b2 rfl ?_)|(refine PU.b5 rfl ?_)|(refine hS.qR fun Hn hS=>?_))
  refine rr ?_
  repeat(refine hS.iW ?_)
  exact⟨⟨_,10,k,rfl,⟨_,0,0,_,_,rfl,_,_,_,rfl⟩,fun h=>by cases h⟩,hS.ext⟩
 refine aj.mono (IC hS.wf (hT.ex hS.ext) s p aa) ?_
 rintro v H' ⟨⟨a,m,r,ok,rfl,h3,h4⟩,hx⟩
 have hS:=hS.call hx
 refine hS.fE fun Hn ri hS=>?_
 repeat(first|(refine hS.aX ?_)|(refine hS.FO ?_)|(refine hS.qR fun Hn hS=>?_))
 have err:∀{cd:Int}{e:Nat}{H'':ag},cd≠0→uw H.next s k (.tuple ⟨[.agg ⟨[.int .i64 0,.int .i64 0,.int .i64 0,.string (ByteArray.mk #[]),.slice none 0 0]⟩,.agg ⟨[vi cd,vn e]⟩]⟩) H'':=fun h=>⟨_,_,_,rfl,⟨_,0,0,_,_,rfl,_,_,_,rfl⟩,fun g=>absurd g h⟩
 have back:∀{H2:ag}{bs' A'}{q:Nat},vo rb (bs++bs') A'→bs'.length≤4→p +1≤q→q≤s.size→SH [] H H2 (A'++(ri,113,[vn a,vn m,.int .i32 r,.bool ok])::(rs,92,[.int .i64 0,.int .i64 0])::[(rt,98,[.int .i64 0,.int .i64 0,.int .i64 0,.string (ByteArray.mk #[]),.slice none 0 0])])→
  ∃n',n'<n∧∃bs A,q +n'=s.size∧k +1≤q∧vo rb bs A∧bs.length≤4*q∧SH [] H H2 ((rs,92,[.int .i64 0,.int .i64 0])::(rt,98,[.int .i64 0,.int .i64 0,.int .i64 0,.string (ByteArray.mk #[]),.slice none 0 0])::A):=fun{H2 bs' A' q} hb' hl hq hq2 hS=>
  ⟨s.size -q,aa,_,_,aa,aa,hb',by rw[List.length_append];omega,SH.drop (A:=[_]) (hS.perm List.perm_append_comm)⟩
 have uh:∀rg b,Az rg 40=.bool b→bC Pg X (sub jT [1,1,0,1,0,0,1,0,1,0,1,1,1]) (lK (.string s) (vn k) (.pointer (some ⟨rt,0,none⟩)) (.pointer (some ⟨rs,0,none⟩)) (.pointer (some ⟨rb,0,none⟩)) (vn p) (.pointer (some ⟨ri,0,none⟩)) x9 eZ jK rg Hn)
  (nL 2 (nL 1 (EI (ko (.string s) (vn k) (.pointer (some ⟨rt,0,none⟩)) (.pointer (some ⟨rs,0,none⟩)) (.pointer (some ⟨rb,0,none⟩)) (fun n x7 x8 x9 eZ jK H'=>∃p bs A,x7=vn p∧p +n=s.size∧k +1≤p∧vo rb bs A∧bs.length≤4*p∧SH [] H H' ((rs,92,[.int .i64 0,.int .i64 0])::(rt,98,[.int .i64 0,.int .i64 0,.int .i64 0,.string (ByteArray.mk #[]),.slice none 0 0])::A))) n (nL 0 (pG Pg X (sub jT [1,1,1]) (fD Pg [.cell 4 98,.cell 5 92] (Q1 (uw H.next s k) H))))))):=by
  intro rg b hb
  have hb0:vo rb bs A:=hbu
  have hS2:SH [] H Hn (A++(ri,113,[vn a,vn m,.int .i32 r,.bool ok])::(rs,92,[.int .i64 0,.int .i64 0])::[(rt,98,[.int .i64 0,.int .i64 0,.int .i64 0,.string (ByteArray.mk #[]),.slice none 0 0])]):=hS.perm (List.perm_append_comm (l₁:=[_,_,_]))
  refine tl ?_
  rw[hb]
  refine hS.aX ?_
  refine aU (fun hb=>?_) (fun hb=>?_)
  ·repeat(first|(refine hS.aX ?_)|(refine PU.b2 rfl ?_)|(refine PU.b5 rfl ?_)|(refine hS.qR fun Hn hS=>?_))
   refine rr ?_
   repeat(refine hS.iW ?_)
   exact⟨err aa,hS.ext⟩
  refine hS.FO ?_;refine hS.aX ?_
  refine ai (fun hc=>?_) (fun hc=>?_)
  ·rw[aH aa aa]
   refine hS.aX ?_
   refine aj.mono (wu hb0 hS2 aa) ?_
   rintro v H' ⟨⟨t,rfl,ht⟩,hS⟩
   have hts:t.size=bs.length:=FY ht
   repeat(first|(refine hS.aX ?_)|(refine PU.b2 rfl ?_)|(refine PU.b5 rfl ?_)|(refine hS.qR fun Hn hS=>?_))
   refine rr ?_
   repeat(refine hS.iW ?_)
   exact⟨⟨_,0,0,rfl,⟨_,_,_,_,_,rfl,_,_,_,rfl⟩,fun _=>⟨3,k,p +1,t,_,rfl,aa,aa,aa,aa,bN.nil _ _ _⟩⟩,hS.ext⟩
  refine hS.FO ?_;refine hS.aX ?_
  refine ai (fun hc=>?_) (fun hc=>?_)
  ·rw[aH aa aa]
   refine hS.aX ?_
   rw[show Hq (.string s) (some (vi ((p:Int) +1))) none none=_ from fu (lo:=p +1) aa]
   refine hS.aX ?_
   refine aj.mono (wB _) ?_
   rintro v H' ⟨⟨x,j,b,rfl,hj⟩,rfl⟩
   have hp:=iG s (lo:=p +1) (hi:=s.size) aa (Nat.le_refl _)
   refine hS.aX ?_
   refine aU (fun hb=>?_) (fun hb=>?_)
   ·repeat(first|(refine hS.aX ?_)|(refine PU.b2 rfl ?_)|(refine PU.b5 rfl ?_)|(refine hS.qR fun Hn hS=>?_))
    refine rr ?_
    repeat(refine hS.iW ?_)
    exact⟨err aa,hS.ext⟩
   refine aj.mono (pQ hb0 hS2 aa _) ?_
   rintro v H' ⟨⟨y,z,rfl⟩,xs,A',hb',hxl,hS⟩
   rw[aH aa aa]
   refine hS.aX ?_
   rw[aH aa aa]
   refine hS.aX ?_
   rw[AY (show(p:Int) +(1 +(j:Int))=((p +1 +j:Nat):Int) by omega)]
   obtain⟨n',h5,bs',Y4,h6⟩:=back hb' hxl (q:=p +1 +j) aa aa hS
   exact⟨n',h5,_,_,_,_,_,_,_,rfl,_,bs',Y4,rfl,h6⟩
  ·refine hS.FO ?_
   refine aj.mono (pQ hb0 hS2 aa _) ?_
   rintro v H' ⟨⟨y,z,rfl⟩,xs,A',hb',hxl,hS⟩
   have VG:=hS
   have hS:=hS.perm (List.perm_append_comm (l₂:=[_,_,_]))
   simp only[List.cons_append,List.nil_append]at hS
   refine hS.FO ?_
   rw[aH aa aa]
   refine hS.aX ?_
   rw[AY (show(p:Int) +(m:Int)=((p +m:Nat):Int) by omega)]
   obtain⟨n',h5,bs',Y4,h6⟩:=back hb' hxl (q:=p +m) aa aa VG
   exact⟨n',h5,_,_,_,_,_,_,_,rfl,_,bs',Y4,rfl,h6⟩
 have ze:∀rg b,Az rg 28=.bool b→bC Pg X (sub jT [1,1,0,1,0,0,1,0,1,0,1]) (lK (.string s) (vn k) (.pointer (some ⟨rt,0,none⟩)) (.pointer (some ⟨rs,0,none⟩)) (.pointer (some ⟨rb,0,none⟩)) (vn p) (.pointer (some ⟨ri,0,none⟩)) x9 eZ jK rg Hn)
  (nL 2 (nL 1 (EI (ko (.string s) (vn k) (.pointer (some ⟨rt,0,none⟩)) (.pointer (some ⟨rs,0,none⟩)) (.pointer (some ⟨rb,0,none⟩)) (fun n x7 x8 x9 eZ jK H'=>∃p bs A,x7=vn p∧p +n=s.size∧k +1≤p∧vo rb bs A∧bs.length≤4*p∧SH [] H H' ((rs,92,[.int .i64 0,.int .i64 0])::(rt,98,[.int .i64 0,.int .i64 0,.int .i64 0,.string (ByteArray.mk #[]),.slice none 0 0])::A))) n (nL 0 (pG Pg X (sub jT [1,1,1]) (fD Pg [.cell 4 98,.cell 5 92] (Q1 (uw H.next s k) H))))))):=by
  intro rg b hb
  refine tl ?_
  rw[hb]
  refine hS.aX ?_
  refine aU (fun hb=>?_) (fun hb=>?_)
  ·repeat(first|(refine hS.aX ?_)|(refine PU.b2 rfl ?_)|(refine PU.b5 rfl ?_)|(refine hS.qR fun Hn hS=>?_))
   refine rr ?_
   repeat(refine hS.iW ?_)
   exact⟨err aa,hS.ext⟩
  refine hS.FO ?_;refine hS.aX ?_
  refine ai (fun hc=>?_) (fun hc=>?_)
  ·rw[aH aa aa]
   refine hS.aX ?_
   exact uh _ _ (by refine ak ?_;rfl)
  ·exact uh _ _ (by refine ak ?_;rfl)
 refine aU (fun hb=>?_) (fun hb=>?_)
 ·exact ze _ _ (by refine ak ?_;rfl)
 refine hS.FO ?_;refine hS.aX ?_
 exact ze _ _ (by refine ak ?_;rfl)
end
end Go.Proofs.Lu
