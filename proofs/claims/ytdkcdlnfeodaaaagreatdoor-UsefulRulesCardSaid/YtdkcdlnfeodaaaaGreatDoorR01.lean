/-
  Part 01 of the proof. No condition.
-/
import Derived.Test.YtdkcdlnfeodaaaaGreatDoorRows
import Derived.Test.YtdkcdlnfeodaaaaGreatDoorProg
import Derived.Below
import Derived.RowKit3
import Derived.Lib.Bytealg
import Derived.Calls
import Derived.Control
import Derived.Orders
import Derived.Scope
import Derived.Laws.Externs
import Derived.Laws.Tables
import Derived.Lib.UnsafeStr
import Derived.Lib.ConvBytes
import Derived.Laws.BytesString
import Derived.Laws.IdiomStrings
import Derived.Laws.Sem
import Derived.Laws.Cells
import Derived.Laws.World
import Derived.Laws.StructEq
import Derived.IntWalk
import Derived.Laws.Strings
import Derived.ChangeKeysEq
import Derived.ProofKit
import Derived.OpenShut
import Derived.Carry
import Derived.Deep.Slices
import Derived.Deep.Fields
import Derived.ChangeSame
import Derived.LaidMore
import Derived.Lay
import Derived.JoinedOf
import Derived.Test.YtdkcdlnfeodaaaaGreatDoorCards
import Derived.Test.YtdkcdlnfeodaaaaGreatDoorTie
import Derived.SevenTiedAt
import Derived.Stop.Joined
set_option linter.unusedVariables false
set_option linter.unusedSimpArgs false
set_option maxRecDepth 100000
set_option maxHeartbeats 4000000
set_option linter.defProp false
noncomputable section
def dM:=@Array.getD_eq_getD_getElem?
def aJ:=@Array.getElem?_eq_getElem
def cr:=@Array.getElem?_eq_some_iff
def gX:=@Array.getElem?_modify
def kS:=@Array.getElem?_push
def gM:=@Array.getElem?_setIfInBounds_ne
def bT:=@Array.getElem?_toList
def kT:=@Array.length_toList
def fJ:=@Array.toList_inj
def aG:=@Bool.and_eq_true
def oP:=@Bool.and_false
def bZ:=@Bool.eq_iff_iff
def bA:=@Bool.false_eq_true
def pO:=@Bool.false_or
def aV:=@Bool.not_eq_true
def oZ:=@Bool.not_eq_true'
def rR:=@Bool.not_false
def tV:=@Bool.not_true
def gN:=@Bool.or_eq_true
def pP:=@Bool.or_false
def pQ:=@Bool.true_and
def l9:=@ByteArray.data_extract
def pR:=@ByteArray.ext
def dB:=@Classical.byContradiction
def qy:=@Classical.choose_spec
def oF:=@Decidable.byContradiction
def fu:=@Decidable.em
def o6:=@Int.toNat_natCast
def iV:=@List.Perm.append_left
def l_:=@List.Perm.append_right
def rT:=@List.Perm.refl
def tX:=@List.all_cons
def bU:=@List.all_eq_true
def ni:=@List.any_eq_true
def bg:=@List.append_assoc
def aQ:=@List.append_nil
def qz:=@List.concat_eq_append
def jh:=@List.cons.inj
def a_:=@List.cons_append
def qW:=@List.count_cons
def qh:=@List.drop_append
def my:=@List.drop_append_of_le_length
def iA:=@List.drop_drop
def fA:=@List.drop_eq_getElem_cons
def gJ:=@List.drop_of_length_le
def iR:=@List.drop_zero
def dU:=@List.eq_nil_of_length_eq_zero
def qA:=@List.eq_nil_or_concat
def qi:=@List.ext_getElem
def eP:=@List.ext_getElem?
def jV:=@List.flatMap_cons
def aK:=@List.getD_eq_getElem?_getD
def aP:=@List.getElem?_append_left
def bf:=@List.getElem?_append_right
def cK:=@List.getElem?_cons_succ
def o7:=@List.getElem?_cons_zero
def ig:=@List.getElem?_drop
def ae:=@List.getElem?_eq_getElem
def dS:=@List.getElem?_eq_none
def aL:=@List.getElem?_eq_some_iff
def aR:=@List.getElem?_map
def o8:=@List.getElem?_replicate
def bV:=@List.getElem?_set
def eB:=@List.getElem?_take
def qB:=@List.getElem?_toArray
def jo:=@List.getElem_append_left
def qj:=@List.getElem_map
def bF:=@List.getElem_mem
def fD:=@List.getElem_of_mem
def ay:=@List.length_append
def bH:=@List.length_cons
def dW:=@List.length_drop
def p9:=@List.length_eq_one_iff
def bK:=@List.length_eq_zero_iff
def aC:=@List.length_map
def lz:=@List.length_nil
def qC:=@List.length_replicate
def bJ:=@List.length_set
def eH:=@List.length_take
def rU:=@List.mapM_cons
def dw:=@List.map_append
def nV:=@List.map_congr_left
def jR:=@List.map_cons
def vw:=@List.map_map
def oG:=@List.map_nil
def oM:=@List.map_replicate
def jH:=@List.map_set
def tY:=@List.map_take
def qo:=@List.map_toArray
def bX:=@List.mem_append
def bI:=@List.mem_append_left
def bD:=@List.mem_append_right
def bP:=@List.mem_cons
def aT:=@List.mem_cons_of_mem
def aD:=@List.mem_cons_self
def nE:=@List.mem_iff_getElem
def aZ:=@List.mem_map
def kK:=@List.mem_nil_iff
def aA:=@List.mem_of_getElem?
def kg:=@List.mem_of_mem_drop
def iD:=@List.mem_of_mem_take
def kF:=@List.mem_or_eq_of_mem_set
def rV:=@List.mem_range
def aO:=@List.mem_singleton
def bB:=@List.nil_append
def ko:=@List.pairwise_append
def kG:=@List.pairwise_iff_getElem
def iF:=@List.pairwise_singleton
def au:=@List.perm_append_comm
def jE:=@List.perm_middle
def ik:=@List.set_cons_succ
def lU:=@List.set_cons_zero
def bR:=@List.sublist_append_left
def lC:=@List.sum_append
def tZ:=@List.sum_cons
def ji:=@List.take_add_one
def fV:=@List.take_append_drop
def mD:=@List.take_append_of_le_length
def mE:=@List.take_left
def kL:=@List.take_length
def fO:=@List.take_of_length_le
def nW:=@List.take_succ_cons
def k_:=@List.take_succ_eq_append_getElem
def rW:=@List.take_zero
def dN:=@Nat.add_mul
def iG:=@Nat.add_sub_cancel_left
def bn:=@Nat.add_zero
def gD:=@Nat.beq_eq
def bC:=@Nat.beq_refl
def av:=@Nat.ble_eq_true_of_le
def aB:=@Nat.eq_of_beq_eq_true
def lV:=@Nat.eq_or_lt_of_le
def fq:=@Nat.eq_zero_or_pos
def o9:=@Nat.exists_eq_add_of_le
def ny:=@Nat.le_add_right
def jS:=@Nat.le_max_left
def gZ:=@Nat.le_max_right
def ai:=@Nat.le_of_ble_eq_true
def nS:=@Nat.le_of_mul_le_mul_right
def aj:=@Nat.le_refl
def jv:=@Nat.le_succ
def aW:=@Nat.le_trans
def nG:=@Nat.lt_irrefl
def aH:=@Nat.lt_of_lt_of_le
def p_:=@Nat.lt_of_succ_lt_succ
def aN:=@Nat.lt_or_ge
def bL:=@Nat.lt_succ_self
def iH:=@Nat.lt_trichotomy
def je:=@Nat.min_eq_left
def qp:=@Nat.min_eq_right
def vz:=@Nat.mul_comm
def oQ:=@Nat.mul_le_mul
def jw:=@Nat.mul_le_mul_left
def b_:=@Nat.mul_le_mul_right
def bG:=@Nat.mul_one
def o_:=@Nat.mul_pos
def nA:=@Nat.not_le_of_lt
def jF:=@Nat.not_lt_of_le
def fI:=@Nat.not_lt_zero
def jk:=@Nat.pow_le_pow_right
def vB:=@Nat.pow_succ
def oH:=@Nat.shiftRight_eq_div_pow
def dY:=@Nat.sub_self
def iK:=@Nat.sub_zero
def vC:=@Nat.succ_mul
def aI:=@Nat.zero_add
def aM:=@Nat.zero_le
def gP:=@Nat.zero_mul
def nX:=@Ne.symm
def kM:=@Option.getD_some
def bN:=@Option.some.inj
def dZ:=@Option.some.injEq
def gz:=@Prod.mk.injEq
def lD:=@UInt8.toNat_inj
def pg:=@and_true
def jq:=@beq_iff_eq
def uJ:=@cond_false
def vM:=@cond_true
def bW:=@congrArg
def bM:=@decide_eq_false
def aS:=@decide_eq_true
def pq:=@decide_eq_true_eq
def g_:=@if_false
def iq:=@if_true
def pz:=@not_false_eq_true
def pE:=@not_true_eq_false
def eD:=@of_decide_eq_false
def cZ:=@of_decide_eq_true
def uP:=@or_false
namespace Go.Ae
variable{e t:TypeId}{c c' i' v v' x x' y y' z:Value}{d:TypeDesc}{b:Bool}{α β:Type}{op:BinOp}{k k':IntKind}{i:TypeInfo}{q:Sum Nat (List Nat)}{args args' cs cs' ys zs:List Value}{ox oy:Operand}{w:World}{ats:List TypeId}{fs:List Field}{l:Option Nat}{ks:List Nat}{a:Addr}{cp n:Nat}
theorem aa{p:Prop}(h:p:=by omega):p:=h
theorem lF{a:Bool}(x:a=true)(y:b=true):(a&&b)=true:=by rw[x,y];rfl
inductive Tr(α:Type)where
 |nil
 |node(l:Tr α)(v:α)(r:Tr α)
namespace Tr
variable{α:Type}
def get(d:α)(t:Tr α):Nat->α:=
 @Tr.rec α (λ_=>Nat->α) (λ_=>d)
  (λ_ v _ gl gr k=>@Nat.rec (λ_=>α) v (λk _=>@Bool.rec (λ_=>α) (gr<|Nat.div k 2) (gl<|Nat.div k 2)<|Nat.beq (Nat.mod k 2) 0) k) t
def Nq(d:α)(x:α):Nat->Tr α->Nat->Tr α:=
 @Nat.rec (λ_=>Tr α->Nat->Tr α) (λt _=>t) (λ_ ih t k=>
  @Nat.rec (λ_=>Tr α) (@Tr.rec α (λ_=>Tr α) (.node .nil x .nil) (λl _ r _ _=>.node l x r) t)
   (λk _=>@Tr.rec α (λ_=>Tr α)
    (@Bool.rec (λ_=>Tr α) (.node .nil d<|ih .nil<|Nat.div k 2) (.node (ih .nil<|Nat.div k 2) d .nil)<|Nat.beq (Nat.mod k 2) 0)
    (λl v r _ _=>@Bool.rec (λ_=>Tr α) (.node l v<|ih r<|Nat.div k 2) (.node (ih l<|Nat.div k 2) v r)<|Nat.beq (Nat.mod k 2) 0) t) k)
def set(d:α)(t:Tr α)(k:Nat)(x:α):Tr α:=Nq d x (Nat.succ k) t k
theorem get_nil(d:α)(k:Nat):(Tr.nil:Tr α).get d k=d:=by cases k<;>rfl
theorem Dz(d:α)(l:Tr α)(v:α)(r:Tr α):(Tr.node l v r).get d 0=v:=rfl
theorem wE(d:α)(l:Tr α)(v:α)(r:Tr α)(k:Nat):(Tr.node l v r).get d (k+1)=bif Nat.beq (k %2) 0 then l.get d (k/2)else r.get d (k/2):=by
 show @Bool.rec (λ_=>α) (r.get d<|k/2) (l.get d<|k/2) (Nat.beq (k %2) 0)=_;cases Nat.beq (k %2) 0<;>rfl
theorem aaI(k:Nat):Nat.beq (k %2) 0=decide (k %2=0):=by
 rw[bZ];simp[gD]
theorem Wj(d:α)(f k:Nat)(x:α):Nq d x (f+1) .nil (k+1)=bif Nat.beq (k %2) 0 then .node (Nq d x f .nil<|k/2) d .nil else .node .nil d (Nq d x f .nil<|k/2):=by
 show @Bool.rec (λ_=>Tr α) _ _ (Nat.beq (k %2) 0)=_;cases Nat.beq (k %2) 0<;>rfl
theorem Ui(d:α)(f k:Nat)(x:α)(l:Tr α)(v:α)(r:Tr α):Nq d x (f+1) (.node l v r) (k+1)=bif Nat.beq (k %2) 0 then .node (Nq d x f l<|k/2) v r else .node l v (Nq d x f r<|k/2):=by
 show @Bool.rec (λ_=>Tr α) _ _ (Nat.beq (k %2) 0)=_;cases Nat.beq (k %2) 0<;>rfl
theorem Wk(d:α)(f:Nat):∀(t:Tr α)(k:Nat)(x:α)(j:Nat),k<f->
 (Nq d x f t k).get d j=if j=k then x else t.get d j:=by
 induction f with
 |zero=>intro t k x j h;omega
 |succ f ih=>
  intro t k x j h;cases k with
  |zero=>
   cases t with
   |nil=>
    show(Tr.node .nil x .nil).get d j=_;cases j with
    |zero=>simp[Dz]
    |succ j=>rw[wE,get_nil,if_neg aa,get_nil];cases Nat.beq (j %2) 0<;>rfl
   |node l v r=>
    show(Tr.node l x r).get d j=_;cases j with
    |zero=>simp[Dz]
    |succ j=>rw[wE,wE,if_neg aa]
  |succ k=>
   have hk:k/2<f:=by omega
   cases t with
   |nil=>
    rw[Wj];cases j with
    |zero=>cases hb:Nat.beq (k %2) 0<;>simp[Dz,get_nil]
    |succ j=>
     by_cases hjk:j=k
     .subst hjk;cases hb:Nat.beq (j %2) 0<;>simp only[vM,uJ,wE,hb,ih _ _ _ _ hk,iq]
     .rw[if_neg aa];cases hb:Nat.beq (k %2) 0<;>cases hc:Nat.beq (j %2) 0<;>simp only[vM,uJ,wE,hc,get_nil]
      .rw[ih _ _ _ _ hk,if_neg,get_nil];rw[aaI]at hb hc;simp at hb hc;omega
      .rw[ih _ _ _ _ hk,if_neg,get_nil];rw[aaI]at hb hc;simp at hb hc;omega
   |node l v r=>
    rw[Ui];cases j with
    |zero=>cases hb:Nat.beq (k %2) 0<;>simp[Dz]
    |succ j=>
     by_cases hjk:j=k
     .subst hjk;cases hb:Nat.beq (j %2) 0<;>simp only[vM,uJ,wE,hb,ih _ _ _ _ hk,iq]
     .rw[if_neg aa];cases hb:Nat.beq (k %2) 0<;>cases hc:Nat.beq (j %2) 0<;>simp only[vM,uJ,wE,hc]
      .rw[ih _ _ _ _ hk,if_neg];rw[aaI]at hb hc;simp at hb hc;omega
      .rw[ih _ _ _ _ hk,if_neg];rw[aaI]at hb hc;simp at hb hc;omega
theorem qQ(d:α)(t:Tr α)(k:Nat)(x:α)(j:Nat):(t.set d k x).get d j=if j=k then x else t.get d j:=
 Wk d (k+1) t k x j aa
def pU(d:α)(l:List α):Nat->Tr α->Tr α:=
 @List.rec α (λ_=>Nat->Tr α->Tr α) (λ_ t=>t) (λx _ ih k t=>ih (Nat.succ k)<|t.set d k x) l
theorem aaJ(d:α)(k:Nat)(t:Tr α):pU d [] k t=t:=rfl
theorem Wl(d:α)(x:α)(l:List α)(k:Nat)(t:Tr α):pU d (x::l) k t=pU d l (k+1) (t.set d k x):=rfl
theorem jM(d:α):∀(l:List α)(k:Nat)(t:Tr α)(j:Nat),
 (pU d l k t).get d j=if k<=j/\j<k+l.length then l.getD (j-k) d else t.get d j:=by
 intro l
 induction l with
 |nil=>intro k t j;simp[aaJ];intro h1 h2;omega
 |cons x l ih=>
  intro k t j;simp only[Wl,ih,qQ,bH]
  by_cases h:k+1<=j/\j<k+1+l.length
  .rw[if_pos h,if_pos aa,show j-k=(j-(k+1))+1 from by omega];rfl
  .rw[if_neg h]
   by_cases hj:j=k
   .subst hj;simp
   .rw[if_neg hj,if_neg aa]
def Cu(d:α)(t:Tr α)(k n:Nat):List α:=
 @Nat.rec (λ_=>Nat->List α) (λ_=>[]) (λ_ ih k=>t.get d k::ih (Nat.succ k)) n k
theorem zP(d:α)(t:Tr α)(k:Nat):Cu d t k 0=[]:=rfl
theorem uQ(d:α)(t:Tr α)(k n:Nat):Cu d t k (n+1)=t.get d k::Cu d t (k+1) n:=rfl
end Tr
def ax{α β:Type}(o:Option α)(k:α->Option β):Option β:=
 @Option.rec α (λ_=>(α->Option β)->Option β) (λ_=>none) (λx k=>k x) o k
theorem Ho(x:α)(k:α->Option β):ax (some x) k=k x:=rfl
theorem ak{o:Option α}{k:α->Option β}{r:β}(h:ax o k=some r):∃x,o=some x/\k x=some r:=by
 cases o with
 |none=>cases h
 |some x=>exact⟨x,rfl,h⟩
def gd{β:Type}(b:Bool)(o:Option β):Option β:=
 @Bool.rec (λ_=>Option β->Option β) (λ_=>none) (λo=>o) b o
theorem dh{o:Option β}{r:β}(h:gd b o=some r):b=true/\o=some r:=by
 cases b with
 |false=>cases h
 |true=>exact⟨rfl,h⟩
theorem yz(o:Option β):gd true o=o:=rfl
def aU{β:Type}(b:Bool)(x y:β):β:=@Bool.rec (λ_=>β->β->β) (λ_ y=>y) (λx _=>x) b x y
theorem lG(x y:β):aU true x y=x:=rfl
theorem iE(x y:β):aU false x y=y:=rfl
def nth{α:Type}(l:List α):Nat->Option α:=
 @List.rec α (λ_=>Nat->Option α) (λ_=>none) (λx _ ih k=>@Nat.rec (λ_=>Option α) (some x) (λk _=>ih k) k) l
theorem kU(l:List α):∀k,nth l k=l[k]?:=by
 induction l with
 |nil=>intro k;cases k<;>rfl
 |cons x l ih=>intro k;cases k with
  |zero=>rfl
  |succ k=>exact(ih k).trans (by simp)
def len{α:Type}(l:List α):Nat:=@List.rec α (λ_=>Nat) 0 (λ_ _ n=>Nat.succ n) l
theorem dG(l:List α):len l=l.length:=by
 induction l with
 |nil=>rfl
 |cons x l ih=>exact bW Nat.succ ih
def mp{α β:Type}(f:α->β)(l:List α):List β:=@List.rec α (λ_=>List β) [] (λx _ r=>f x::r) l
theorem DC(f:α->β)(l:List α):mp f l=l.map f:=by
 induction l with
 |nil=>rfl
 |cons x l ih=>exact bW (f x::·) ih
def app{α:Type}(a b:List α):List α:=@List.rec α (λ_=>List α) b (λx _ r=>x::r) a
theorem nY(a b:List α):app a b=a++b:=by
 induction a with
 |nil=>rfl
 |cons x l ih=>exact bW (x::·) ih
def all'{α:Type}(f:α->Bool)(l:List α):Bool:=@List.rec α (λ_=>Bool) true (λx _ r=>aU (f x) r false) l
theorem all_eq(f:α->Bool)(l:List α):all' f l=l.all f:=by
 induction l with
 |nil=>rfl
 |cons x l ih=>
  show aU (f x) (all' f l) false=_;rw[ih,tX];cases f x<;>rfl
def tk{α:Type}(n:Nat):List α->List α:=@Nat.rec (λ_=>List α->List α) (λ_=>[]) (λ_ ih l=>@List.rec α (λ_=>List α) [] (λx r _=>x::ih r) l) n
theorem Fv(n:Nat):∀(l:List α),tk n l=l.take n:=by
 induction n with
 |zero=>intro l;show[]=l.take 0;simp
 |succ n ih=>intro l;cases l with
  |nil=>rfl
  |cons x l=>exact bW (x::·)<|ih l
def dp{α:Type}(n:Nat):List α->List α:=@Nat.rec (λ_=>List α->List α) (λl=>l) (λ_ ih l=>@List.rec α (λ_=>List α) [] (λ_ r _=>ih r) l) n
theorem J9(n:Nat):∀(l:List α),dp n l=l.drop n:=by
 induction n with
 |zero=>intro l;rfl
 |succ n ih=>intro l;cases l with
  |nil=>rfl
  |cons x l=>exact ih l
structure Row where
 ty:TypeId
 cells:Tr Value
 n:Nat
 ja:Bool
 fz:Nat
inductive iW where
 |dead
 |row(r:Row)
 |map(es:List<|Value×Value)
 |zQ(s:ByteArray)(pos:Nat)
variable{o:iW}
def rX(o:iW):Option Row:=@iW.rec (λ_=>Option Row) none (λr=>some r) (λ_=>none) (λ_ _=>none) o
def Nr(o:iW):Option (List<|Value×Value):=@iW.rec (λ_=>Option<|List<|Value×Value) none (λ_=>none) (λm=>some m) (λ_ _=>none) o
def ae4(o:iW):Option (ByteArray×Nat):=@iW.rec (λ_=>Option<|ByteArray×Nat) none (λ_=>none) (λ_=>none) (λs p=>some (s,p)) o
theorem qR{r:Row}(h:rX o=some r):o=.row r:=by cases o<;>cases h;rfl
theorem GL{r:List (Value×Value)}(h:Nr o=some r):o=.map r:=by cases o<;>cases h;rfl
theorem aaK{r:ByteArray×Nat}(h:ae4 o=some r):o=.zQ r.1 r.2:=by cases o<;>cases h;rfl
def top:Value:=.chan<|some 0
structure ag where
 rM:Tr iW
 next:Nat
 low:Nat
def ag.obj(H:ag)(r:Nat):iW:=H.rM.get .dead r
def ag.put(H:ag)(r:Nat)(o:iW):ag:=⟨H.rM.set .dead r o,H.next,aU (Nat.ble H.low r) H.low r⟩
def ag.new(H:ag)(o:iW):ag:=⟨H.rM.set .dead H.next o,Nat.succ H.next,H.low⟩
def rowOf(ty:TypeId)(vs:List Value):iW:=.row ⟨ty,Tr.pU top vs 0 .nil,len vs,false,0⟩
def dV(es:Nat):Nat:=Nat.add 18446744073709551616 es
def eY(c:Nat):Bool:=Nat.ble c 9223372036854775807
def dK(v:Value):Bool:=
 @Value.rec (λ_=>Bool) (λ_=>PUnit) (λ_=>PUnit)
  (λ_=>true)
  (λ_ _=>true)
  (λ_ _=>true)
  (λ_ _ _=>true)
  (λ_=>true)
  (λ_=>true)
  (λ_ _ _=>true)
  (λ_=>true)
  (λr=>false)
  (λ_ _ _ _ _=>true)
  (true)
  (λ_ _ _=>true)
  (true)
  (λcs _=>false)
  (λvs _=>false)
  (λ_ _=>⟨⟩) ⟨⟩ (λ_ _ _ _=>⟨⟩) v
def rY(v:Value):Bool:=
 @Value.rec (λ_=>Bool) (λ_=>PUnit) (λ_=>PUnit)
  (λ_=>true)
  (λ_ _=>true)
  (λ_ _=>true)
  (λ_ _ _=>true)
  (λ_=>true)
  (λ_=>true)
  (λ_ _ _=>true)
  (λ_=>true)
  (λr=>false)
  (λ_ _ _ _ _=>true)
  (true)
  (λ_ _ _=>true)
  (true)
  (λ_ _=>true)
  (λ_ _=>true)
  (λ_ _=>⟨⟩) ⟨⟩ (λ_ _ _ _=>⟨⟩) v
def mF(v:Value):Option Addr:=
 @Value.rec (λ_=>Option Addr) (λ_=>PUnit) (λ_=>PUnit)
  (λ_=>none)
  (λ_ _=>none)
  (λ_ _=>none)
  (λ_ _ _=>none)
  (λ_=>none)
  (λa=>a)
  (λ_ _ _=>none)
  (λ_=>none)
  (λ_=>none)
  (λ_ _ _ _ _=>none)
  (none)
  (λ_ _ _=>none)
  (none)
  (λ_ _=>none)
  (λ_ _=>none)
  (λ_ _=>⟨⟩) ⟨⟩ (λ_ _ _ _=>⟨⟩) v
def gF(v:Value):Option Bool:=
 @Value.rec (λ_=>Option Bool) (λ_=>PUnit) (λ_=>PUnit)
  (λb=>some b)
  (λ_ _=>none)
  (λ_ _=>none)
  (λ_ _ _=>none)
  (λ_=>none)
  (λ_=>none)
  (λ_ _ _=>none)
  (λ_=>none)
  (λ_=>none)
  (λ_ _ _ _ _=>none)
  (none)
  (λ_ _ _=>none)
  (none)
  (λ_ _=>none)
  (λ_ _=>none)
  (λ_ _=>⟨⟩) ⟨⟩ (λ_ _ _ _=>⟨⟩) v
def pF(v:Value):Option (IntKind×Int):=
 @Value.rec (λ_=>Option<|IntKind×Int) (λ_=>PUnit) (λ_=>PUnit)
  (λ_=>none)
  (λk n=>some (k,n))
  (λ_ _=>none)
  (λ_ _ _=>none)
  (λ_=>none)
  (λ_=>none)
  (λ_ _ _=>none)
  (λ_=>none)
  (λ_=>none)
  (λ_ _ _ _ _=>none)
  (none)
  (λ_ _ _=>none)
  (none)
  (λ_ _=>none)
  (λ_ _=>none)
  (λ_ _=>⟨⟩) ⟨⟩ (λ_ _ _ _=>⟨⟩) v
def Hq(n:Int):Option Nat:=@Int.rec (λ_=>Option Nat) (λm=>some m) (λ_=>none) n
def w_(v:Value):Option Nat:=
 @Value.rec (λ_=>Option Nat) (λ_=>PUnit) (λ_=>PUnit)
  (λ_=>none)
  (λk n=>Hq n)
  (λ_ _=>none)
  (λ_ _ _=>none)
  (λ_=>none)
  (λ_=>none)
  (λ_ _ _=>none)
  (λ_=>none)
  (λ_=>none)
  (λ_ _ _ _ _=>none)
  (none)
  (λ_ _ _=>none)
  (none)
  (λ_ _=>none)
  (λ_ _=>none)
  (λ_ _=>⟨⟩) ⟨⟩ (λ_ _ _ _=>⟨⟩) v
def pG(v:Value):Option ByteArray:=
 @Value.rec (λ_=>Option ByteArray) (λ_=>PUnit) (λ_=>PUnit)
  (λ_=>none)
  (λ_ _=>none)
  (λ_ _=>none)
  (λ_ _ _=>none)
  (λs=>some s)
  (λ_=>none)
  (λ_ _ _=>none)
  (λ_=>none)
  (λ_=>none)
  (λ_ _ _ _ _=>none)
  (none)
  (λ_ _ _=>none)
  (none)
  (λ_ _=>none)
  (λ_ _=>none)
  (λ_ _=>⟨⟩) ⟨⟩ (λ_ _ _ _=>⟨⟩) v
def Gn(v:Value):Option (Option Addr×Nat×Nat):=
 @Value.rec (λ_=>Option<|Option Addr×Nat×Nat) (λ_=>PUnit) (λ_=>PUnit)
  (λ_=>none)
  (λ_ _=>none)
  (λ_ _=>none)
  (λ_ _ _=>none)
  (λ_=>none)
  (λ_=>none)
  (λa l c=>some (a,l,c))
  (λ_=>none)
  (λ_=>none)
  (λ_ _ _ _ _=>none)
  (none)
  (λ_ _ _=>none)
  (none)
  (λ_ _=>none)
  (λ_ _=>none)
  (λ_ _=>⟨⟩) ⟨⟩ (λ_ _ _ _=>⟨⟩) v
def JH(v:Value):Option (Option Nat):=
 @Value.rec (λ_=>Option<|Option Nat) (λ_=>PUnit) (λ_=>PUnit)
  (λ_=>none)
  (λ_ _=>none)
  (λ_ _=>none)
  (λ_ _ _=>none)
  (λ_=>none)
  (λ_=>none)
  (λ_ _ _=>none)
  (λr=>some r)
  (λ_=>none)
  (λ_ _ _ _ _=>none)
  (none)
  (λ_ _ _=>none)
  (none)
  (λ_ _=>none)
  (λ_ _=>none)
  (λ_ _=>⟨⟩) ⟨⟩ (λ_ _ _ _=>⟨⟩) v
def fFn(f:Fn):Option FuncId:=@Fn.rec (λ_=>Option FuncId) (λf=>some f) (λ_=>none) (λ_ _=>none) (λ_ _ _ _=>none) (λ_=>none) f
def Wm(v:Value):Option (Fn×List Value×List Value):=
 @Value.rec (λ_=>Option<|Fn×List Value×List Value) (λ_=>PUnit) (λ_=>PUnit)
  (λ_=>none)
  (λ_ _=>none)
  (λ_ _=>none)
  (λ_ _ _=>none)
  (λ_=>none)
  (λ_=>none)
  (λ_ _ _=>none)
  (λ_=>none)
  (λ_=>none)
  (λf x y _ _=>some (f,x.toList,y.toList))
  (none)
  (λ_ _ _=>none)
  (none)
  (λ_ _=>none)
  (λ_ _=>none)
  (λ_ _=>⟨⟩) ⟨⟩ (λ_ _ _ _=>⟨⟩) v
def tq(v:Value):Option (List Value):=
 @Value.rec (λ_=>Option<|List Value) (λ_=>PUnit) (λ_=>PUnit)
  (λ_=>none)
  (λ_ _=>none)
  (λ_ _=>none)
  (λ_ _ _=>none)
  (λ_=>none)
  (λ_=>none)
  (λ_ _ _=>none)
  (λ_=>none)
  (λ_=>none)
  (λ_ _ _ _ _=>none)
  (none)
  (λ_ _ _=>none)
  (none)
  (λcs _=>some cs.toList)
  (λ_ _=>none)
  (λ_ _=>⟨⟩) ⟨⟩ (λ_ _ _ _=>⟨⟩) v
def Wo(v:Value):Option (List Value):=
 @Value.rec (λ_=>Option<|List Value) (λ_=>PUnit) (λ_=>PUnit)
  (λ_=>none)
  (λ_ _=>none)
  (λ_ _=>none)
  (λ_ _ _=>none)
  (λ_=>none)
  (λ_=>none)
  (λ_ _ _=>none)
  (λ_=>none)
  (λ_=>none)
  (λ_ _ _ _ _=>none)
  (none)
  (λ_ _ _=>none)
  (none)
  (λ_ _=>none)
  (λvs _=>some vs.toList)
  (λ_ _=>⟨⟩) ⟨⟩ (λ_ _ _ _=>⟨⟩) v
def Cv(v:Value):Option (TypeId×Value):=
 @Value.rec (λ_=>Option<|TypeId×Value) (λ_=>PUnit) (λ_=>PUnit)
  (λ_=>none)
  (λ_ _=>none)
  (λ_ _=>none)
  (λ_ _ _=>none)
  (λ_=>none)
  (λ_=>none)
  (λ_ _ _=>none)
  (λ_=>none)
  (λ_=>none)
  (λ_ _ _ _ _=>none)
  (none)
  (λt v _=>some (t,v))
  (none)
  (λ_ _=>none)
  (λ_ _=>none)
  (λ_ _=>⟨⟩) ⟨⟩ (λ_ _ _ _=>⟨⟩) v
def cO{α:Type}(o:Option α):Bool:=@Option.rec α (λ_=>Bool) true (λ_=>false) o
def nZ(v:Value):Nat×Bool:=
 @Value.rec (λ_=>Nat×Bool) (λ_=>PUnit) (λ_=>PUnit)
  (λ_=>(0,false))
  (λ_ _=>(0,false))
  (λ_ _=>(0,false))
  (λ_ _ _=>(0,false))
  (λ_=>(0,false))
  (λa=>(1,cO a))
  (λa l c=>(2,cO a))
  (λr=>(3,cO r))
  (λ_=>(0,false))
  (λf x y _ _=>(4,false))
  ((4,true))
  (λt v _=>(5,false))
  ((5,true))
  (λ_ _=>(0,false))
  (λ_ _=>(0,false))
  (λ_ _=>⟨⟩) ⟨⟩ (λ_ _ _ _=>⟨⟩) v
def Hr(v:Value):Bool:=
 @Value.rec (λ_=>Bool) (λ_=>PUnit) (λ_=>PUnit)
  (λ_=>false)
  (λ_ _=>false)
  (λ_ _=>false)
  (λ_ _ _=>false)
  (λ_=>false)
  (λa=>cO a)
  (λ_ _ _=>false)
  (λr=>cO r)
  (λ_=>false)
  (λ_ _ _ _ _=>false)
  (true)
  (λ_ _ _=>false)
  (true)
  (λ_ _=>false)
  (λ_ _=>false)
  (λ_ _=>⟨⟩) ⟨⟩ (λ_ _ _ _=>⟨⟩) v
def mG{α:Type}(o:Option α):Bool:=@Option.rec α (λ_=>Bool) false (λ_=>true) o
def aX(v:Value):List Value:=@Option.rec (List Value) (λ_=>List Value) [v] (λl=>l)<|tq v
def jW(v:Value):Bool:=
 @Value.rec (λ_=>Bool) (λ_=>PUnit) (λ_=>PUnit)
  (λb=>true)
  (λk n=>true)
  (λk b=>true)
  (λk x y=>true)
  (λs=>true)
  (λa=>cO a)
  (λa l c=>cO a&&Nat.beq l 0&&Nat.beq c 0)
  (λr=>cO r)
  (λ_=>false)
  (λ_ _ _ _ _=>false)
  (true)
  (λ_ _ _=>false)
  (true)
  (λ_ _=>false)
  (λ_ _=>false)
  (λ_ _=>⟨⟩) ⟨⟩ (λ_ _ _ _=>⟨⟩) v
def uR(d:TypeDesc):Nat:=
 @TypeDesc.rec (λ_=>Nat)
  (0) (0) (λ_=>0) (λ_=>0) (λ_=>0) (0) (0) (λe=>1) (λe=>2) (λ_ _=>0) (λk e=>3) (λ_ _=>0) (λ_=>0) (λp r v=>4) (λms=>5) (λ_=>0) (λ_ _=>0) d
def dSl(d:TypeDesc):Option TypeId:=
 @TypeDesc.rec (λ_=>Option TypeId)
  (none) (none) (λ_=>none) (λ_=>none) (λ_=>none) (none) (none) (λ_=>none) (λe=>some e) (λ_ _=>none) (λ_ _=>none) (λ_ _=>none) (λ_=>none) (λ_ _ _=>none) (λ_=>none) (λ_=>none) (λ_ _=>none) d
def DD(d:TypeDesc):Option TypeId:=
 @TypeDesc.rec (λ_=>Option TypeId)
  (none) (none) (λ_=>none) (λ_=>none) (λ_=>none) (none) (none) (λe=>some e) (λ_=>none) (λ_ _=>none) (λ_ _=>none) (λ_ _=>none) (λ_=>none) (λ_ _ _=>none) (λ_=>none) (λ_=>none) (λ_ _=>none) d
def Ns(d:TypeDesc):Option (Nat×TypeId):=
 @TypeDesc.rec (λ_=>Option<|Nat×TypeId)
  (none) (none) (λ_=>none) (λ_=>none) (λ_=>none) (none) (none) (λ_=>none) (λ_=>none) (λn e=>some (n,e)) (λ_ _=>none) (λ_ _=>none) (λ_=>none) (λ_ _ _=>none) (λ_=>none) (λ_=>none) (λ_ _=>none) d
def adw(d:TypeDesc):Option (TypeId×TypeId):=
 @TypeDesc.rec (λ_=>Option<|TypeId×TypeId)
  (none) (none) (λ_=>none) (λ_=>none) (λ_=>none) (none) (none) (λ_=>none) (λ_=>none) (λ_ _=>none) (λk e=>some (k,e)) (λ_ _=>none) (λ_=>none) (λ_ _ _=>none) (λ_=>none) (λ_=>none) (λ_ _=>none) d
def Lb(d:TypeDesc):Option (List Field):=
 @TypeDesc.rec (λ_=>Option<|List Field)
  (none) (none) (λ_=>none) (λ_=>none) (λ_=>none) (none) (none) (λ_=>none) (λ_=>none) (λ_ _=>none) (λ_ _=>none) (λ_ _=>none) (λfs=>some fs.toList) (λ_ _ _=>none) (λ_=>none) (λ_=>none) (λ_ _=>none) d
def zC(d:TypeDesc):Bool:=
 @TypeDesc.rec (λ_=>Bool)
  (false) (false) (λ_=>false) (λ_=>false) (λ_=>false) (true) (false) (λ_=>false) (λ_=>false) (λ_ _=>false) (λ_ _=>false) (λ_ _=>false) (λ_=>false) (λ_ _ _=>false) (λ_=>false) (λ_=>false) (λ_ _=>false) d
def Wp(d:TypeDesc):Bool:=
 @TypeDesc.rec (λ_=>Bool)
  (false) (false) (λ_=>false) (λ_=>false) (λ_=>false) (false) (false) (λ_=>false) (λ_=>false) (λ_ _=>false) (λ_ _=>false) (λ_ _=>false) (λ_=>false) (λ_ _ _=>false) (λms=>true) (λ_=>false) (λ_ _=>false) d
def DF(d:TypeDesc):Bool:=
 @TypeDesc.rec (λ_=>Bool)
  (false) (false) (λ_=>false) (λ_=>false) (λ_=>false) (false) (true) (λ_=>false) (λ_=>false) (λ_ _=>false) (λ_ _=>false) (λ_ _=>false) (λ_=>false) (λ_ _ _=>false) (λ_=>false) (λ_=>false) (λ_ _=>false) d
def JI(d:TypeDesc):Option IntKind:=
 @TypeDesc.rec (λ_=>Option IntKind)
  (none) (none) (λk=>some k) (λ_=>none) (λ_=>none) (none) (none) (λ_=>none) (λ_=>none) (λ_ _=>none) (λ_ _=>none) (λ_ _=>none) (λ_=>none) (λ_ _ _=>none) (λ_=>none) (λ_=>none) (λ_ _=>none) d
def EC(d:TypeDesc):Option FloatKind:=
 @TypeDesc.rec (λ_=>Option FloatKind)
  (none) (none) (λ_=>none) (λk=>some k) (λ_=>none) (none) (none) (λ_=>none) (λ_=>none) (λ_ _=>none) (λ_ _=>none) (λ_ _=>none) (λ_=>none) (λ_ _ _=>none) (λ_=>none) (λ_=>none) (λ_ _=>none) d
def P6(d:TypeDesc):Bool:=
 @TypeDesc.rec (λ_=>Bool)
  (false) (false) (λ_=>false) (λ_=>false) (λ_=>false) (false) (false) (λ_=>false) (λ_=>false) (λn e=>true) (λ_ _=>false) (λ_ _=>false) (λfs=>true) (λ_ _ _=>false) (λ_=>false) (λ_=>false) (λ_ _=>false) d
def pV(d:TypeDesc):Nat:=
 @TypeDesc.rec (λ_=>Nat)
  (0) (2) (λk=>1) (λ_=>0) (λ_=>0) (3) (0) (λ_=>0) (λ_=>0) (λ_ _=>0) (λ_ _=>0) (λ_ _=>0) (λ_=>0) (λ_ _ _=>0) (λ_=>0) (λ_=>0) (λ_ _=>0) d
def Gp(k:IntKind):Bool:=@IntKind.rec (λ_=>Bool) false false false false true false false false k
def B_(k:IntKind):Bool:=@IntKind.rec (λ_=>Bool) false false false true false false false false k
def mW(k:IntKind):Nat:=@IntKind.rec (λ_=>Nat) 0 1 2 3 4 5 6 7 k
def tI(P:Program)(t:TypeId):Option TypeInfo:=P.info? t
def rZ(P:Program)(t:TypeId):Option Nat:=ax (P.info? t) λi=>some i.size
def Nt(P:Program)(t:TypeId):Option (TypeId×Nat):=ax (P.underlying t) λd=>ax (dSl d) λe=>ax (rZ P e) λs=>gd (Nat.ble 1 s)<|some (e,s)
def Nu(P:Program)(t:TypeId):Option (Nat×TypeId×Nat):=ax (P.underlying t) λd=>ax (Ns d) λe=>ax (rZ P e.2) λs=>gd (Nat.ble 1 s)<|some (e.1,e.2,s)
def V3(P:Program)(t:TypeId):Option (Option Nat):=ax (P.underlying t) λd=>ax (rZ P t) λs=>some<|aU (P6 d) (some s) none
def Cw(P:Program)(t:TypeId):Bool:=@Option.rec TypeDesc (λ_=>Bool) false zC<|P.underlying t
def Fw(P:Program)(t:TypeId):Bool:=@Option.rec TypeDesc (λ_=>Bool) false (λd=>@Option.rec IntKind (λ_=>Bool) false Gp<|JI d)<|P.underlying t
def zD(P:Program)(t:TypeId):Option (TypeId×TypeId):=ax (P.underlying t) adw
def EF(v:Value):Bool:=@Option.rec (List Value) (λ_=>Bool) (jW v) (λl=>all' jW l)<|tq v
def Cb(P:Program)(t:TypeId):Option Value:=ax (P.info? t) λi=>ax i.zero λz=>gd (EF z)<|some z
def xF(P:Program)(t:TypeId):Option (List Value):=ax (Cb P t) λz=>ax (rZ P t) λs=>gd (Nat.beq (len<|aX z) s)<|some<|aX z
def GM(P:Program)(t:TypeId):Option (List Field):=ax (P.underlying t) Lb
def P7(P:Program)(t:TypeId)(f:Nat):Option (Nat×Option Nat):=ax (GM P t) λfs=>ax (nth fs f) λfd=>ax (V3 P fd.type) λl=>ax (rZ P fd.type) λs=>gd (Nat.ble 1 s)<|some (fd.offset,l)
def places(P:Program)(fs:List Field):Option (List<|Nat×Nat):=
 @List.rec Field (λ_=>Option<|List<|Nat×Nat) (some []) (λf _ r=>ax (rZ P f.type) λs=>ax r λl=>some<|(f.offset,s)::l) fs
def Sf(P:Program)(t:TypeId):Option (List<|Nat×Nat):=ax (GM P t)<|places P
def ag.cell(H:ag)(r off:Nat):Option Value:=ax (rX<|H.obj r) λw=>gd (Nat.ble (Nat.succ off) w.n)<|some<|w.cells.get top off
def ag.read(H:ag)(r off k:Nat):Option (List Value):=
 @Nat.rec (λ_=>Option<|List Value) (some []) (λ_ _=>ax (rX<|H.obj r) λw=>gd (Nat.ble (Nat.add off k) w.n)<|some<|Tr.Cu top w.cells off k) k
def ag.write(H:ag)(r off:Nat)(vs:List Value):Option ag:=
 @List.rec Value (λ_=>Option ag) (some H) (λ_ _ _=>ax (rX<|H.obj r) λw=>
  gd (!w.ja&&Nat.ble (Nat.add off<|len vs) w.n&&Nat.ble w.fz off&&all' dK vs)
   (some<|H.put r<|.row ⟨w.ty,Tr.pU top vs off w.cells,w.n,false,w.fz⟩)) vs
def gU(s:Sem Value):Option Value:=match s with
 |.pure v=>gd (jW v)<|some v
 |_=>none
def JJ(a b:Int):Bool:=
 @Int.rec (λ_=>Bool) (λm=>@Int.rec (λ_=>Bool) (λn=>Nat.ble (Nat.succ m) n) (λ_=>false) b)
  (λm=>@Int.rec (λ_=>Bool) (λ_=>true) (λn=>Nat.ble (Nat.succ n) m) b) a
def Nv(a b:Int):Bool:=
 @Int.rec (λ_=>Bool) (λm=>@Int.rec (λ_=>Bool) (λn=>Nat.beq m n) (λ_=>false) b)
  (λm=>@Int.rec (λ_=>Bool) (λ_=>false) (λn=>Nat.beq m n) b) a
def fZ(k:IntKind)(n:Int):Int:=
 @Int.rec (λ_=>Int) (λm=>aU (B_ k&&Nat.ble m 9223372036854775807) (.ofNat m)<|k.wrap n) (λm=>aU (B_ k&&Nat.ble m 9223372036854775807) (.negSucc m)<|k.wrap n) n
def Uj(op:BinOp):IntKind->Int->Int->Option Value:=
 @BinOp.rec (λ_=>IntKind->Int->Int->Option Value) (λk a b=>some<|.int k<|fZ k<|Int.add a b) (λk a b=>some<|.int k<|fZ k<|Int.sub a b) (λk a b=>some<|.int k<|fZ k<|Int.mul a b) (λk a b=>gU<|Op.intDiv .quo k a b) (λk a b=>gU<|Op.intDiv .rem k a b) (λk a b=>gU<|Op.intBits .and k a b) (λk a b=>gU<|Op.intBits .or k a b) (λk a b=>gU<|Op.intBits .xor k a b) (λ_ _ _=>none) (λ_ _ _=>none) (λk a b=>gU<|Op.intBits .andNot k a b) (λ_ a b=>some<|.bool<|Nv a b) (λ_ a b=>some<|.bool<|!(Nv a b)) (λ_ a b=>some<|.bool<|JJ a b) (λ_ a b=>some<|.bool<|!(JJ b a)) (λ_ a b=>some<|.bool<|JJ b a) (λ_ a b=>some<|.bool<|!(JJ a b)) op
def wF(op:BinOp):Nat:=@BinOp.rec (λ_=>Nat) (0) (0) (0) (0) (0) (0) (0) (0) (0) (0) (0) (1) (2) (0) (0) (0) (0) op
def GN(op:BinOp):Bool:=@BinOp.rec (λ_=>Bool) (false) (false) (false) (false) (false) (false) (false) (false) (true) (true) (false) (false) (false) (false) (false) (false) (false) op
def yu(a b:Bool):Bool:=aU a b<|!b
def u8L(l:List UInt8):List Nat:=mp (λb=>b.toNat) l
def Ht(l:List Nat):List Nat->Bool:=
 @List.rec Nat (λ_=>List Nat->Bool) (λm=>@List.rec Nat (λ_=>Bool) true (λ_ _ _=>false) m)
  (λx _ ih m=>@List.rec Nat (λ_=>Bool) false (λy r _=>aU (Nat.beq x y) (ih r) false) m) l
def nT(x y:ByteArray):Bool:=Ht (u8L x.data.toList)<|u8L y.data.toList
def strLt(x y:ByteArray):Bool:=Op.bytesLess x.data.toList y.data.toList
def Wq(x y:ByteArray):Option Value:=
 gd (Nat.ble (Nat.add (len x.data.toList)<|len y.data.toList) 4611686018427387904) (some<|.string ⟨⟨app x.data.toList y.data.toList⟩⟩)
def aaL(op:BinOp):ByteArray->ByteArray->Option Value:=
 @BinOp.rec (λ_=>ByteArray->ByteArray->Option Value) (Wq) (λ_ _=>none) (λ_ _=>none) (λ_ _=>none) (λ_ _=>none) (λ_ _=>none) (λ_ _=>none) (λ_ _=>none) (λ_ _=>none) (λ_ _=>none) (λ_ _=>none) (λa b=>some<|.bool<|nT a b) (λa b=>some<|.bool<|!(nT a b)) (λa b=>some<|.bool<|strLt a b) (λa b=>some<|.bool<|strLt a b||nT a b) (λa b=>some<|.bool<|!(strLt a b||nT a b)) (λa b=>some<|.bool<|!(strLt a b)) op
def t_(k:Nat)(x y:Value):Option Bool:=
 aU (Nat.beq k 1) (ax (pF x) λa=>ax (pF y) λb=>gd (Nat.beq (mW a.1)<|mW b.1)<|some<|Nv a.2 b.2)
  (aU (Nat.beq k 2) (ax (gF x) λa=>ax (gF y) λb=>some<|yu a b)
   (aU (Nat.beq k 3) (ax (pG x) λa=>ax (pG y) λb=>some<|nT a b) none))
def nC(ks:List Nat):List Value->List Value->Option Bool:=
 @List.rec Nat (λ_=>List Value->List Value->Option Bool)
  (λxs ys=>@List.rec Value (λ_=>Option Bool) (@List.rec Value (λ_=>Option Bool) (some true) (λ_ _ _=>none) ys) (λ_ _ _=>none) xs)
  (λk _ ih xs ys=>@List.rec Value (λ_=>Option Bool) none (λx xr _=>@List.rec Value (λ_=>Option Bool) none
   (λy yr _=>ax (t_ k x y) λb=>aU b (ih xr yr)<|some false) ys) xs) ks
def n_(P:Program)(fs:List Field):Nat->Option (List Nat):=
 @List.rec Field (λ_=>Nat->Option (List Nat)) (λ_=>some [])
  (λf _ ih k=>ax (P.underlying f.type) λd=>ax (ih<|Nat.succ k) λr=>gd (Nat.beq f.offset k&&!(f.name== "_")&&Nat.ble 1 (pV d))<|some<|pV d::r) fs
def Ws{α:Type}(x:α)(n:Nat):List α:=@Nat.rec (λ_=>List α) [] (λ_ r=>x::r) n
def Ny(P:Program)(t:TypeId):Option (List Nat):=ax (GM P t) λfs=>gd (!(P.stoodInHeld t))<|n_ P fs 0
def ach(P:Program)(t:TypeId):Option (List Nat):=ax (P.underlying t) λd=>ax (Ns d) λa=>ax (P.underlying a.2) λe=>ax (rZ P a.2) λs=>
 gd (Nat.beq s 1&&Nat.ble 1 (pV e)) (some<|Ws (pV e) a.1)
def orElse'{α:Type}(o q:Option α):Option α:=@Option.rec α (λ_=>Option α->Option α) (λq=>q) (λx _=>some x) o q
def tEq(P:Program)(t:TypeId):Option (Sum Nat<|List Nat):=
 ax (P.underlying t) λd=>aU (Nat.ble 1<|pV d) (some<|.inl<|pV d)<|ax (orElse' (Ny P t)<|ach P t) λl=>some<|.inr l
def nH(P:Program)(t:TypeId)(x y:Value):Option Bool:=
 ax (tEq P t) λq=>@Sum.rec Nat (List Nat) (λ_=>Option Bool) (λk=>t_ k x y)
  (λl=>ax (tq x) λa=>ax (tq y) λb=>nC l a b) q
def pI(o:Operand):Bool:=
 @Operand.rec (λ_=>Bool) (λ_=>false) (λv=>(nZ v).2) (λ_=>false) (λ_=>false) o
def EG(P:Program)(t:TypeId):Nat:=@Option.rec TypeDesc (λ_=>Nat) 0 uR<|P.underlying t
def J'(k:Nat)(c x:Value):Option Bool:=gd (Nat.ble 1 k&&Nat.beq (nZ x).1 k&&Nat.beq (nZ c).1 k)<|some (nZ x).2
def EH(P:Program)(t:TypeId):Bool:=
 @Option.rec Unit (λ_=>Bool) false (λ_=>true) (ax (P.underlying t) λd=>ax (DD d) λe=>ax (rZ P e) λs=>gd (Nat.ble 1 s)<|some ())
def ptrEq(x y:Value):Option Bool:=ax (mF x) λa=>ax (mF y) λb=>gd (Nat.beq a.block b.block)<|some<|Nat.beq a.off b.off
def aeq(P:Program)(t:TypeId)(ox oy:Operand)(x y:Value):Option Bool:=
 aU (pI oy) (J' (EG P t) y x) (aU (pI ox) (J' (EG P t) x y)<|aU (EH P t) (ptrEq x y)<|nH P t x y)
def Cc(op:BinOp)(b:Option Bool):Option Value:=
 aU (Nat.beq (wF op) 1) (ax b λb=>some<|.bool b) (aU (Nat.beq (wF op) 2) (ax b λb=>some<|.bool<|!b) none)
def Wt(op:BinOp)(t:TypeId)(x y:Value):Option Value:=ax (pF x) λ_=>ax (pF y) λ_=>gU<|binOp op t x y
def uf(v:Value):Nat:=
 @Value.rec (λ_=>Nat) (λ_=>PUnit) (λ_=>PUnit)
  (λ_=>0)
  (λ_ _=>0)
  (λk b=>1)
  (λk x y=>2)
  (λ_=>0)
  (λ_=>0)
  (λ_ _ _=>0)
  (λ_=>0)
  (λ_=>0)
  (λ_ _ _ _ _=>0)
  (0)
  (λ_ _ _=>0)
  (0)
  (λ_ _=>0)
  (λ_ _=>0)
  (λ_ _=>⟨⟩) ⟨⟩ (λ_ _ _ _=>⟨⟩) v
def P8(op:BinOp)(t:TypeId)(x y:Value):Option Value:=gd (Nat.ble 1 (uf x)&&Nat.beq (uf x) (uf y))<|gU<|binOp op t x y
def jb(P:Program)(op:BinOp)(t:TypeId)(ox oy:Operand)(x y:Value):Option Value:=
 @Option.rec (IntKind×Int) (λ_=>Option Value)
  (@Option.rec ByteArray (λ_=>Option Value) (aU (Nat.ble 1<|uf x) (P8 op t x y)<|Cc op<|aeq P t ox oy x y) (λa=>ax (pG y) λb=>aaL op a b)<|pG x)
  (λa=>aU (GN op) (Wt op t x y)<|ax (pF y) λb=>gd (Nat.beq (mW a.1)<|mW b.1)<|Uj op a.1 a.2 b.2) (pF x)
def zR(P:Program)(s d:TypeId)(x:Value):Option Value:=
 ax (P.underlying s) λ_=>ax (P.underlying d) λe=>
  @Option.rec (IntKind×Int) (λ_=>Option Value) (ax (pG x) λb=>gd (zC e)<|some<|.string b)
   (λa=>@Option.rec IntKind (λ_=>Option Value) (aU (zC e) (some<|.string<|Utf8.encode a.2)<|ax (EC e) λk=>gU<|Conv.intToFloat k a.2) (λk=>some<|.int k<|fZ k a.2)<|JI e) (pF x)
def apart(l:Option Nat)(cs:List Value)(off:Nat):Option Value:=
 @Option.rec Nat (λ_=>Option Value) (nth cs off) (λn=>gd (Nat.ble (Nat.add off n)<|len cs)<|some<|.agg ⟨tk n<|dp off cs⟩) l
def jX(o:Option Value)(d:Nat):Option Nat:=@Option.rec Value (λ_=>Option Nat) (some d) w_ o
def zS(m l off sz:Nat):Nat:=aU (Nat.beq m l) off<|Nat.add off<|Nat.mul l sz
def Lc(s:ByteArray)(lo hi:Option Value):Option Value:=
 ax (jX lo 0) λl=>ax (jX hi<|len s.data.toList) λh=>gd (Nat.ble l h&&Nat.ble h (len s.data.toList))
  (some<|.string ⟨⟨tk (Nat.sub h l)<|dp l s.data.toList⟩⟩)
def Sg(sz:Nat)(p:Option Addr×Nat×Nat)(lo hi mx:Option Value):Option Value:=
 @Option.rec Addr (λ_=>Option Value)
  (ax (jX lo 0) λl=>ax (jX hi 0) λh=>ax (jX mx 0) λm=>gd (Nat.beq l 0&&Nat.beq h 0&&Nat.beq m 0&&Nat.beq p.2.1 0&&Nat.beq p.2.2 0&&(!(cO hi)||cO mx))<|some<|.slice none 0 0)
  (λa=>ax (jX lo 0) λl=>ax (jX hi p.2.1) λh=>
   aU (eY p.2.2)
    (ax (jX mx p.2.2) λm=>gd (Nat.ble l h&&Nat.ble h m&&Nat.ble m p.2.2&&(!(cO hi)||cO mx))
     (some<|.slice (some ⟨a.block,zS m l a.off sz,none⟩) (Nat.sub h l)<|Nat.sub m l))
    (gd (Nat.beq p.2.2<|dV sz) (@Option.rec Value (λ_=>Option Value)
     (gd (Nat.ble l h&&Nat.ble h p.2.1)<|some<|.slice (some ⟨a.block,Nat.add a.off<|Nat.mul l sz,none⟩) (Nat.sub h l) p.2.2)
     (λmv=>ax (w_ mv) λm=>gd (Nat.ble l h&&Nat.ble h m&&Nat.ble m p.2.1&&!(cO hi)&&eY m)
      (some<|.slice (some ⟨a.block,zS m l a.off sz,none⟩) (Nat.sub h l)<|Nat.sub m l)) mx))) p.1
def P9(n sz:Nat)(a:Addr)(lo hi mx:Option Value):Option Value:=
 ax (jX lo 0) λl=>ax (jX hi n) λh=>gd (Nat.ble l h&&Nat.ble h n&&cO mx&&eY n)
  (some<|.slice (some ⟨a.block,zS n l a.off sz,none⟩) (Nat.sub h l)<|Nat.sub n l)
def xG(P:Program)(t:TypeId)(x:Value)(lo hi mx:Option Value):Option Value:=
 @Option.rec (TypeId×Nat) (λ_=>Option Value)
  (aU (Cw P t) (ax (pG x) λs=>gd (cO mx)<|Lc s lo hi)<|ax (Nu P t) λq=>ax (mF x) λa=>P9 q.1 q.2.2 a lo hi mx)
  (λq=>ax (Gn x) λp=>Sg q.2 p lo hi mx) (Nt P t)
def og(P:Program)(t:TypeId)(x i:Value):Option Value:=
 ax (w_ i) λk=>@Option.rec (TypeId×Nat) (λ_=>Option Value)
  (ax (Nu P t) λq=>ax (mF x) λa=>gd (Nat.ble (Nat.succ k) q.1)<|some<|.pointer<|some ⟨a.block,Nat.add a.off<|Nat.mul k q.2.2,none⟩)
  (λq=>ax (Gn x) λp=>ax p.1 λa=>gd (Nat.ble (Nat.succ k) p.2.1)<|some<|.pointer<|some ⟨a.block,Nat.add a.off<|Nat.mul k q.2,none⟩) (Nt P t)
def zT(P:Program)(t:TypeId)(x i:Value):Option Value:=
 ax (w_ i) λk=>aU (Cw P t)
  (ax (pG x) λs=>ax (nth s.data.toList k) λb=>some<|.int .u8<|.ofNat b.toNat)
  (ax (Nu P t) λq=>ax (tq x) λcs=>ax (V3 P q.2.1) λl=>gd (Nat.ble (Nat.succ k) q.1)<|apart l cs<|Nat.mul k q.2.2)
def oh(P:Program)(t:TypeId)(x:Value)(f:Nat):Option Value:=
 ax (mF x) λa=>ax (P7 P t f) λq=>some<|.pointer<|some ⟨a.block,Nat.add a.off q.1,none⟩
def zU(P:Program)(t:TypeId)(x:Value)(f:Nat):Option Value:=
 ax (tq x) λcs=>ax (P7 P t f) λq=>apart q.2 cs q.1
def setAt{α:Type}(x:α)(k:Nat):List α->List α:=
 @Nat.rec (λ_=>List α->List α) (λl=>@List.rec α (λ_=>List α) [] (λ_ r _=>x::r) l) (λ_ ih l=>@List.rec α (λ_=>List α) [] (λy r _=>y::ih r) l) k
def EI(vs:List Value):Nat->List Value->List Value:=
 @List.rec Value (λ_=>Nat->List Value->List Value) (λ_ cs=>cs) (λv _ ih k cs=>ih (Nat.succ k)<|setAt v k cs) vs
def Cf(place:Nat->Option (Nat×Nat))(ps:List<|Nat×Value):List Value->Option (List Value):=
 @List.rec (Nat×Value) (λ_=>List Value->Option (List Value)) (λcs=>some cs)
  (λp _ ih cs=>ax (place p.1) λq=>gd (rY p.2&&Nat.beq (len<|aX p.2) q.2&&Nat.ble (Nat.add q.1 q.2) (len cs))<|ih<|EI (aX p.2) q.1 cs) ps
def zV(P:Program)(t:TypeId)(ps:List<|Nat×Value):Option Value:=
 ax (xF P t) λz=>@Option.rec (List<|Nat×Nat) (λ_=>Option Value)
  (ax (Nu P t) λq=>ax (Cf (λk=>some (Nat.mul k q.2.2,q.2.2)) ps z) λcs=>some<|.agg ⟨cs⟩)
  (λpl=>ax (Cf (nth pl) ps z) λcs=>some<|.agg ⟨cs⟩) (Sf P t)
def mg(z:List Value)(n:Nat):List Value:=@Nat.rec (λ_=>List Value) [] (λ_ r=>app z r) n
def Hu(c a b:Value):Option Value:=ax (gF c) λt=>some<|aU t a b
def Ld(x:Value):Option Value:=
 @Option.rec Addr (λ_=>Option Value) (ax (Wm x) λf=>ax (fFn f.1) λ_=>some x) (λ_=>some x) (mF x)
def P_(P:Program)(t:TypeId)(x:Value):Option Value:=ax (P.underlying t) λd=>gd (!(Wp d))<|some<|.iface t x
def qD(x:Value)(i:Nat):Option Value:=ax (Wo x) λl=>nth l i
def Hw(P:Program)(t:TypeId)(x:Value):Option Value:=
 ax (P.underlying t) λd=>aU (zC d) (ax (pG x) λs=>some<|.int .i64<|.ofNat<|len s.data.toList)
  (aU (Nat.beq (uR d) 2) (ax (Gn x) λp=>some<|.int .i64<|.ofNat p.2.1)
   (aU (Nat.beq (uR d) 3) (ax (JH x) λr=>gd (cO r)<|some<|.int .i64 0)
    (ax (Ns d) λa=>some<|.int .i64<|.ofNat a.1)))
def one(f:TypeId->Value->Option Value)(ats:List TypeId)(args:List Value):Option Value:=
 ax (nth ats 0) λt=>ax (nth args 0) λx=>f t x
def mm2(b:Bool)(x y:Value):Option Value:=
 ax (pF x) λp=>ax (pF y) λq=>gd (Nat.beq (mW p.1)<|mW q.1)<|some<|aU (aU b (JJ p.2 q.2)<|JJ q.2 p.2) y x
def mmL(b:Bool)(l:List Value):Value->Option Value:=
 @List.rec Value (λ_=>Value->Option Value) (λx=>some x) (λy _ ih x=>ax (mm2 b x y) ih) l
def V4(b:Bool)(args:List Value):Option Value:=@List.rec Value (λ_=>Option Value) none (λx l _=>mmL b l x) args
def Hy(r:Nat):Value:=.pointer<|some ⟨r,0,none⟩
def zW(P:Program)(e:TypeId)(H:ag):Option (Value×ag):=
 ax (xF P e) λz=>some (Hy H.next,H.new<|rowOf e z)
def Le(e:TypeId)(x:Value)(H:ag):Option (Value×ag):=gd (rY x)<|some (Hy H.next,H.new<|rowOf e<|aX x)
def pJ(P:Program)(t:TypeId)(n:Nat)(ps:List<|Nat×Value)(H:ag):Option (Value×ag):=
 ax (Nt P t) λq=>ax (xF P q.1) λz=>gd (Nat.ble (Nat.mul n q.2) 16777216)
  (ax (Cf (λk=>some (Nat.mul k q.2,q.2)) ps<|mg z n) λcs=>some (.slice (some ⟨H.next,0,none⟩) n n,H.new<|rowOf q.1 cs))
def loadAt(l:Option Nat)(a:Addr)(H:ag):Option (Value×ag):=
 @Option.rec Nat (λ_=>Option<|Value×ag) (ax (H.cell a.block a.off) λv=>some (v,H))
  (λn=>ax (H.read a.block a.off n) λvs=>some (.agg ⟨vs⟩,H)) l
def r_(P:Program)(t:TypeId)(x:Value)(H:ag):Option (Value×ag):=
 ax (mF x) λa=>ax (V3 P t) λl=>loadAt l a H
def wG(P:Program)(t:TypeId)(x v:Value)(H:ag):Option (Value×ag):=
 ax (mF x) λa=>ax (rZ P t) λs=>gd (Nat.beq (len<|aX v) s)<|ax (H.write a.block a.off<|aX v) λH'=>some (undef,H')
def om(l:List Value):Option (List UInt8):=
 @List.rec Value (λ_=>Option<|List UInt8) (some []) (λv _ r=>ax (pF v) λp=>ax (Hq p.2) λn=>gd (Gp p.1&&Nat.ble n 255)<|ax r λbs=>some<|UInt8.ofNat n::bs) l
def lH(s:List UInt8):List Value:=mp (λb=>.int .u8<|.ofNat b.toNat) s
def Cx(P:Program)(q:TypeId×Nat)(x:Value)(H:ag):Option (Value×ag):=
 ax (pG x) λb=>gd (Nat.beq q.2 1&&Fw P q.1)
  (some (.slice (some ⟨H.next,0,none⟩) (len b.data.toList)<|dV 1,H.new<|.row ⟨q.1,Tr.pU top (lH b.data.toList) 0 .nil,len b.data.toList,true,0⟩))
def Cz(P:Program)(q:TypeId×Nat)(x:Value)(H:ag):Option (Value×ag):=
 ax (Gn x) λp=>gd (Nat.beq q.2 1&&Fw P q.1) (@Option.rec Addr (λ_=>Option<|Value×ag) (some (.string ⟨⟨[]⟩⟩,H))
  (λa=>ax (H.read a.block a.off p.2.1) λl=>ax (om l) λbs=>some (.string ⟨⟨bs⟩⟩,H)) p.1)
def HV(P:Program)(t:TypeId)(x:Value)(H:ag):Option (Value×ag):=
 ax (mF x) λa=>ax (rZ P t) λs=>ax (rX<|H.obj a.block) λw=>gd (Nat.ble 1 s&&Nat.ble (Nat.succ a.off) w.n)<|some (x,H)
def HY(P:Program)(u:TypeId)(x:Value)(H:ag):Option (Value×ag):=
 ax (mF x) λa=>ax (rZ P u) λs=>ax (rX<|H.obj a.block) λw=>
  gd (Nat.ble 1 s&&Nat.beq w.ty u&&Nat.beq a.off 0&&Nat.ble s w.n) (some (x,H))
def Wu(P:Program)(s d:TypeId):Option (Nat×TypeId×Nat):=ax (P.underlying s) λx=>ax (P.underlying d) λy=>
 aU (zC x) (ax (Nt P d) λq=>some (1,q)) (aU (zC y) (ax (Nt P s) λq=>some (2,q))
  (aU (DF y) (ax (DD x) λe=>some (3,e,0))<|aU (DF x) (ax (DD y) λe=>some (4,e,0)) none))
def qw(P:Program)(s d:TypeId)(x:Value)(H:ag):Option (Value×ag):=
 ax (Wu P s d) λq=>aU (Nat.beq q.1 1) (Cx P q.2 x H) (aU (Nat.beq q.1 2) (Cz P q.2 x H)
  (aU (Nat.beq q.1 3) (HV P q.2.1 x H)<|HY P q.2.1 x H))
def si(P:Program)(t:TypeId)(r:Option Value)(H:ag):Option (Value×ag):=
 ax (zD P t) λ_=>gd (@Option.rec Value (λ_=>Bool) true (λv=>!(cO<|pF v)) r)<|some (.map<|some H.next,H.new<|.map [])
def mP(P:Program)(t:TypeId)(l c:Value)(H:ag):Option (Value×ag):=
 ax (Nt P t) λq=>ax (tI P q.1) λi=>ax (xF P q.1) λz=>ax (w_ l) λn=>ax (w_ c) λm=>
  gd (Nat.ble n m&&Nat.ble m 16777216&&Nat.ble i.bytes 1048576) (some (.slice (some ⟨H.next,0,none⟩) n m,H.new<|rowOf q.1<|mg z m))
def mapOf(H:ag)(x:Value):Option (List<|Value×Value):=
 ax (JH x) λr=>@Option.rec Nat (λ_=>Option<|List<|Value×Value) (some []) (λr=>Nr<|H.obj r) r
def uS(P:Program)(kt:TypeId)(k:Value)(es:List<|Value×Value):Nat->Option (Option<|Nat×Value):=
 @List.rec (Value×Value) (λ_=>Nat->Option (Option<|Nat×Value)) (λ_=>some none)
  (λe _ ih i=>ax (nH P kt k e.1) λb=>aU b (some<|some (i,e.2))<|ih<|Nat.succ i) es
def okd(ok:Bool)(v:Value)(b:Bool)(H:ag):Value×ag:=aU ok (.tuple #[v,.bool b],H) (v,H)
def DI(P:Program)(t:TypeId)(k:Value):Option Unit:=ax (nH P t k k) λb=>gd b<|some ()
def uK(P:Program)(t:TypeId)(x k:Value)(ok:Bool)(H:ag):Option (Value×ag):=
 ax (zD P t) λq=>ax (Cb P q.2) λz=>ax (mapOf H x) λes=>ax (DI P q.1 k) λ_=>ax (uS P q.1 k es 0) λf=>
  @Option.rec (Nat×Value) (λ_=>Option<|Value×ag) (some<|okd ok z false H) (λp=>some<|okd ok p.2 true H) f
def oU(P:Program)(t:TypeId)(m k v:Value)(H:ag):Option (Value×ag):=
 ax (zD P t) λq=>ax (JH m) λmr=>ax mr λr=>ax (Nr<|H.obj r) λes=>ax (DI P q.1 k) λ_=>ax (uS P q.1 k es 0) λf=>
  @Option.rec (Nat×Value) (λ_=>Option<|Value×ag) (some (undef,H.put r<|.map<|app es [(k,v)])) (λp=>some (undef,H.put r<|.map<|setAt (k,v) p.1 es)) f
def appended(H:ag)(sz:Nat)(x:Value):Option (Nat×List Value):=
 @Option.rec ByteArray (λ_=>Option<|Nat×List Value)
  (ax (Gn x) λp=>@Option.rec Addr (λ_=>Option<|Nat×List Value) (gd (Nat.beq p.2.1 0)<|some (0,[]))
   (λa=>ax (H.read a.block a.off<|Nat.mul p.2.1 sz) λl=>some (p.2.1,l)) p.1)
  (λs=>gd (Nat.beq sz 1)<|some (len s.data.toList,lH s.data.toList)) (pG x)
def J_(P:Program)(ats:List TypeId)(args:List Value)(H:ag):Option (Value×ag):=
 ax (nth ats 0) λt=>ax (nth args 0) λd=>ax (nth args 1) λx=>ax (Nt P t) λq=>ax (Gn d) λp=>ax (appended H q.2 x) λe=>
  @Option.rec Addr (λ_=>Option<|Value×ag) (gd (Nat.beq p.2.1 0)<|some (.int .i64 0,H))
   (λa=>ax (H.write a.block a.off<|tk (Nat.mul (aU (Nat.ble e.1 p.2.1) e.1 p.2.1) q.2) e.2) λH'=>some (.int .i64<|.ofNat<|aU (Nat.ble e.1 p.2.1) e.1 p.2.1,H')) p.1
def EJ(P:Program)(ats:List TypeId)(args:List Value)(H:ag):Option (Value×ag):=
 ax (nth ats 0) λt=>ax (nth args 0) λd=>ax (Nt P t) λq=>ax (xF P q.1) λz=>ax (Gn d) λp=>
  @Option.rec Addr (λ_=>Option<|Value×ag) (some (.tuple #[],H))
   (λa=>ax (H.write a.block a.off<|mg z p.2.1) λH'=>some (.tuple #[],H')) p.1
def HZ(P:Program)(ats:List TypeId)(args:List Value)(H:ag):Option (Value×ag):=
 ax (nth ats 0) λt=>ax (nth args 0) λx=>ax (zD P t) λ_=>ax (mapOf H x) λes=>some (.int .i64<|.ofNat<|len es,H)
def DJ(args:List Value)(H:ag):Option (Value×ag):=
 gd (Nat.beq (len args) 1) (ax (nth args 0) λx=>ax (Gn x) λp=>@Option.rec Addr (λ_=>Option<|Value×ag) (some (.pointer none,H))
  (λa=>gd (Nat.ble 1 p.2.1||(eY p.2.2&&Nat.ble 1 p.2.2))<|some (.pointer<|some a,H)) p.1)
def Si(P:Program)(pt:TypeId)(a:Addr)(n:Nat)(H:ag):Option (Value×ag):=
 ax (P.underlying pt) λd=>ax (DD d) λe=>ax (rZ P e) λs=>ax (rX<|H.obj a.block) λw=>
  gd (Fw P e&&Nat.beq w.ty e&&Nat.beq s 1&&Nat.ble (Nat.add a.off n) w.n&&Nat.ble n 16777216)
   (ax (om<|Tr.Cu top w.cells a.off n) λbs=>some (.string ⟨⟨bs⟩⟩,
    H.put a.block (.row ⟨w.ty,w.cells,w.n,w.ja,aU (Nat.ble w.fz<|Nat.add a.off n) (Nat.add a.off n) w.fz⟩)))
def ug(P:Program)(ats:List TypeId)(args:List Value)(H:ag):Option (Value×ag):=
 gd (Nat.beq (len args) 2) (ax (nth ats 0) λpt=>ax (nth args 0) λp=>ax (nth args 1) λnv=>ax (w_ nv) λn=>
  @Nat.rec (λ_=>Option<|Value×ag) (gd (Nat.beq (nZ p).1 1)<|some (.string ⟨⟨[]⟩⟩,H)) (λ_ _=>ax (mF p) λa=>Si P pt a n H) n)
def xH(e:TypeId)(es:Nat)(n:Nat)(vs:List Value)(H:ag):Value×ag:=
 (.slice (some ⟨H.next,0,none⟩) n<|dV es,H.new<|rowOf e vs)
def uT(q:TypeId×Nat)(a:Addr)(l c k:Nat)(vs:List Value)(H:ag):Option (Value×ag):=
 aU (Nat.ble (Nat.add l k) c)
  (ax (H.write a.block (Nat.add a.off<|Nat.mul l q.2) vs) λH'=>some (.slice (some a) (Nat.add l k) c,H'))
  (ax (H.read a.block a.off<|Nat.mul l q.2) λold=>some<|xH q.1 q.2 (Nat.add l k) (app old vs) H)
def pK(q:TypeId×Nat)(a:Addr)(l c k:Nat)(vs:List Value)(H:ag):Option (Value×ag):=
 ax (rX<|H.obj a.block) λw=>gd (Nat.beq w.ty q.1&&!w.ja)
  (aU (Nat.ble (Nat.add a.off<|Nat.mul (Nat.add l k) q.2) w.n)
   (ax (H.write a.block (Nat.add a.off<|Nat.mul l q.2) vs) λH'=>some (.slice (some a) (Nat.add l k) c,H'))
   (gd (Nat.ble (Nat.add a.off<|Nat.mul l q.2) w.n&&Nat.ble w.fz (Nat.add a.off<|Nat.mul l q.2)&&all' dK vs)
    (some (.slice (some ⟨H.next,a.off,none⟩) (Nat.add l k) c,
     (H.put a.block .dead).new (.row ⟨w.ty,Tr.pU top vs (Nat.add a.off<|Nat.mul l q.2) w.cells,Nat.add a.off<|Nat.mul (Nat.add l k) q.2,false,w.fz⟩)))))
def Nz(q:TypeId×Nat)(s:Value)(p:Option Addr×Nat×Nat)(k:Nat)(vs:List Value)(H:ag):Option (Value×ag):=
 @Nat.rec (λ_=>Option<|Value×ag) (some (s,H)) (λ_ _=>
  @Option.rec Addr (λ_=>Option<|Value×ag) (gd (Nat.beq p.2.1 0&&Nat.beq p.2.2 0)<|some<|xH q.1 q.2 k vs H)
   (λa=>gd (Nat.ble p.2.1 16777216)<|aU (eY p.2.2) (uT q a p.2.1 p.2.2 k vs H)<|gd (Nat.beq p.2.2<|dV q.2)<|pK q a p.2.1 p.2.2 k vs H) p.1) k
def ae5(P:Program)(t t2:TypeId):Option (TypeId×Nat):=
 ax (Nt P t) λq=>ax (tI P q.1) λi=>ax (xF P q.1) λ_=>ax (P.underlying t2) λd=>gd (cO (JI d)&&Nat.ble i.bytes 1048576&&Nat.ble 1 i.bytes)<|some q
def Bc(P:Program)(ats:List TypeId)(args:List Value)(H:ag):Option (Value×ag):=
 ax (nth ats 0) λt=>ax (nth ats 1) λt2=>ax (nth args 0) λs=>ax (nth args 1) λx=>
  ax (ae5 P t t2) λq=>ax (Gn s) λp=>ax (appended H q.2 x) λe=>gd (Nat.ble e.1 16777216)<|Nz q s p e.1 e.2 H
def EK(P:Program)(t:TypeId)(x:Value)(H:ag):Option (Value×ag):=
 gd (Cw P t) (ax (pG x) λs=>some (Hy H.next,H.new<|.zQ s 0))
def Wv(r:Nat)(s:ByteArray)(p:Nat)(c:Nat×Nat)(H:ag):Value×ag:=
 (.tuple #[.bool true,.int .i64<|.ofNat p,.int .i32<|.ofNat c.1],H.put r<|.zQ s<|Nat.add p c.2)
def Ka(it:Value)(str:Bool)(H:ag):Option (Value×ag):=
 ax (mF it) λa=>ax (ae4<|H.obj a.block) λq=>gd (str&&Nat.beq a.off 0)
  (aU (Nat.ble (Nat.succ q.2)<|len q.1.data.toList) (some<|Wv a.block q.1 q.2 (Utf8.decode q.1 q.2) H)<|some (.tuple #[.bool false],H))
def Ww(a b:Option Nat):Bool:=@Option.rec Nat (λ_=>Bool) (cO b) (λx=>@Option.rec Nat (λ_=>Bool) false (λy=>Nat.beq x y) b) a
def addrEq(a b:Addr):Bool:=Nat.beq a.block b.block&&Nat.beq a.off b.off&&cO a.spot&&cO b.spot
def GQ(a b:Option Addr):Bool:=@Option.rec Addr (λ_=>Bool) (cO b) (λx=>@Option.rec Addr (λ_=>Bool) false (λy=>addrEq x y) b) a
def Wx(x y:Value):Bool:=mG<|ax (mF x) λa=>ax (mF y) λb=>gd (addrEq a b)<|some ()
def aci(x y:Value):Bool:=mG<|ax (Gn x) λa=>ax (Gn y) λb=>gd (GQ a.1 b.1&&Nat.beq a.2.1 b.2.1&&Nat.beq a.2.2 b.2.2)<|some ()
def ae6(x y:Value):Bool:=mG<|ax (JH x) λa=>ax (JH y) λb=>gd (Ww a b)<|some ()
def Wy(x y:Value):Bool:=mG<|ax (pF x) λa=>ax (pF y) λb=>gd (Nat.beq (mW a.1) (mW b.1)&&Nv a.2 b.2)<|some ()
def ae7(x y:Value):Bool:=mG<|ax (gF x) λa=>ax (gF y) λb=>gd (yu a b)<|some ()
def ae8(x y:Value):Bool:=mG<|ax (pG x) λa=>ax (pG y) λb=>gd (nT a b)<|some ()
def acj(x y:Value):Bool:=Hr x&&Hr y&&Nat.beq (nZ x).1 (nZ y).1
def xO(x y:Value):Bool:=Wy x y||(Wx x y||(aci x y||(ae7 x y||(ae8 x y||(ae6 x y||acj x y)))))
def yA(f:Value->Value->Bool)(xs:List Value):List Value->Bool:=
 @List.rec Value (λ_=>List Value->Bool) (λys=>@List.rec Value (λ_=>Bool) true (λ_ _ _=>false) ys)
  (λx _ ih ys=>@List.rec Value (λ_=>Bool) false (λy r _=>aU (f x y) (ih r) false) ys) xs
def Sj(f:Value->Value->Bool)(x y:Value):Bool:=mG<|ax (Wm x) λa=>ax (Wm y) λb=>ax (fFn a.1) λg=>ax (fFn b.1) λk=>gd (Nat.beq g k&&yA f a.2.1 b.2.1&&yA f a.2.2 b.2.2)<|some ()
def CB(x y:Value):Bool:=xO x y||Sj xO x y
def lX(x y:Value):Bool:=CB x y||Sj CB x y
def DK(xs:List Value):List Value->Bool:=
 @List.rec Value (λ_=>List Value->Bool) (λys=>@List.rec Value (λ_=>Bool) true (λ_ _ _=>false) ys)
  (λx _ ih ys=>@List.rec Value (λ_=>Bool) false (λy r _=>aU (lX x y) (ih r) false) ys) xs
def sameAt(A B:ag)(r off n:Nat):Bool:=mG<|ax (A.read r off n) λx=>ax (B.read r off n) λy=>gd (DK x y)<|some ()
def vJ(c:Nat)(l:List UInt8):Nat->Option Nat:=
 @List.rec UInt8 (λ_=>Nat->Option Nat) (λ_=>none) (λb _ ih k=>aU (Nat.beq b.toNat c) (some k)<|ih<|Nat.succ k) l
def countB(c:Nat)(l:List UInt8):Nat:=@List.rec UInt8 (λ_=>Nat) 0 (λb _ n=>aU (Nat.beq b.toNat c) (Nat.succ n) n) l
def Qa(o:Option Nat):Value:=@Option.rec Nat (λ_=>Value) (.int .i64 (-1)) (λk=>.int .i64<|.ofNat k) o
def H_(args:List Value):Option (ByteArray×Nat):=
 ax (nth args 0) λs=>ax (pG s) λb=>ax (nth args 1) λc=>ax (pF c) λp=>ax (Hq p.2) λn=>gd (Gp p.1&&Nat.ble n 255&&Nat.beq (len args) 2)<|some (b,n)
def Uk(P:Program)(code:Nat)(rt:List TypeId)(args:List Value)(H:ag):Option (Value×ag):=
 aU (Nat.beq code 1) (gd (Nat.beq (len args) 1)<|ax (nth args 0) λx=>some (x,H))
  (aU (Nat.beq code 2) (gd (Nat.beq (len args) 1) (ax (nth args 0) λx=>ax (pF x) λp=>ax (Hq p.2) λn=>ax (nth rt 0) λt=>ax (Nt P t) λq=>
   gd (B_ p.1&&Nat.ble n 16777216&&Nat.beq q.2 1) (some (.slice (some ⟨H.next,0,none⟩) n<|dV 1,H.new<|.row ⟨q.1,.nil,n,false,0⟩))))
   (aU (Nat.beq code 3) (ax (H_ args) λx=>some (Qa<|vJ x.2 x.1.data.toList 0,H))
    (aU (Nat.beq code 4) (ax (H_ args) λx=>some (.int .i64<|.ofNat<|countB x.2 x.1.data.toList,H)) none)))
structure St where
 nl:Nat
 nt:Nat
 reg:List (Nat×Value)
 tm:Tr Value
 df:List Deferred
 H:ag
def d_(m i:Nat):Bool:=Nat.beq (Nat.mod (Nat.shiftRight m i) 2) 1
def look(l:List<|Nat×Value):Nat->Value:=
 @List.rec (Nat×Value) (λ_=>Nat->Value) (λ_=>top) (λp _ ih t=>aU (Nat.beq p.1 t) p.2<|ih t) l
def eO(s:St)(t:Nat):Value:=aU (d_ s.nl t) (s.tm.get top t)<|look s.reg t
def ev(s:St)(x:Operand):Value:=
 @Operand.rec (λ_=>St->Value) (λt s=>eO s t) (λv _=>v) (λg _=>.pointer<|some ⟨g,0,none⟩) (λf _=>.func (.func f) #[] #[]) x s
def Gq(s:St)(x:Option Operand):Option Value:=@Option.rec Operand (λ_=>Option Value) none (λx=>some<|ev s x) x
def Lf(s:St)(ps:Array<|Nat×Operand):List (Nat×Value):=mp (λp=>(p.1,ev s p.2)) ps.toList
def mQ(s:St)(d:Nat)(v:Value)(H:ag):St:=
 aU (d_ s.nl d) ⟨s.nl,s.nt,s.reg,aU (Nat.ble (Nat.succ d) s.nt) (s.tm.set top d v) s.tm,s.df,H⟩ ⟨s.nl,s.nt,(d,v)::s.reg,s.tm,s.df,H⟩
def fU(s:St)(d:Option Nat)(v:Value)(H:ag):St:=
 @Option.rec Nat (λ_=>St) ⟨s.nl,s.nt,s.reg,s.tm,s.df,H⟩ (λd=>mQ s d v H) d
abbrev iO:=FuncId->List Value->ag->Option (Value×ag)
inductive R3 where
 |fail
 |zF(v:Value)
 |mem(v:Value)(H:ag)
def rp(o:Option Value):R3:=@Option.rec Value (λ_=>R3) .fail .zF o
def rm(o:Option<|Value×ag):R3:=@Option.rec (Value×ag) (λ_=>R3) .fail (λp=>.mem p.1 p.2) o
def rpm(o:Option Value)(q:R3):R3:=@Option.rec Value (λ_=>R3->R3) (λq=>q) (λv _=>.zF v) o q
def isU(v:Value):Bool:=@Option.rec (List Value) (λ_=>Bool) false (λl=>Nat.beq (len l) 0)<|Wo v
def yB(ops:Array Oper)(s:St)(j:Nat):Option (Option Bool):=
 ax (nth ops.toList j) λo=>ax o.dst λt=>
  @Option.rec Bool (λ_=>Option<|Option Bool) (gd (isU<|eO s t)<|some none) (λb=>some<|some b) (gF<|eO s t)
def Kb(ops:Array Oper)(s:St)(g:Nat×Bool):Option Bool:=
 ax (yB ops s g.1) λy=>some<|@Option.rec Bool (λ_=>Bool) false (λb=>yu b g.2) y
def mX(ops:Array Oper)(s:St)(g:Option<|Nat×Bool):Option Bool:=
 @Option.rec (Nat×Bool) (λ_=>Option Bool) (some true) (λg=>Kb ops s g) g
def methodOf(P:Program)(t:TypeId)(name:String):Option (FuncId×Bool):=
 ax (P.info? t) λi=>ax (i.methods.toList.find? (·.name==name)) λm=>ax m.func λq=>ax (P.underlying t) λd=>
  gd (Nat.beq (len m.path.toList) 0&&(aU q.2 (Nat.beq (uR d) 1)<|!(Nat.beq (uR d) 1))) (some q)
def jY(c:Callee):Program->St->Option (FuncId×List Value×List Value):=
 @Callee.rec (λ_=>Program->St->Option (FuncId×List Value×List Value))
  (λf _ s=>ax (Wm<|ev s f) λq=>ax (fFn q.1) λg=>some (g,q.2))
  (λr name P s=>ax (Cv<|ev s r) λp=>ax (methodOf P p.1 name) λq=>some (q.1,[p.2],[]))
  (λ_ _ _=>none) c
def isBuiltin(c:Callee):Option Builtin:=@Callee.rec (λ_=>Option Builtin) (λ_=>none) (λ_ _=>none) (λb=>some b) c
def xP(b:Builtin):List TypeId->List Value->Program->ag->R3:=
 @Builtin.rec (λ_=>List TypeId->List Value->Program->ag->R3)
  (λats args P H=>rm<|Bc P ats args H) (λ_ _ _ _=>.fail) (λats args P H=>rm<|EJ P ats args H) (λ_ _ _ _=>.fail) (λ_ _ _ _=>.fail) (λats args P H=>rm<|J_ P ats args H) (λ_ _ _ _=>.fail) (λ_ _ _ _=>.fail) (λats args P H=>rpm (one (Hw P) ats args)<|rm<|HZ P ats args H) (λ_ _ _ _=>.fail) (λ_ args _ _=>rp<|V4 true args) (λ_ args _ _=>rp<|V4 false args) (λ_ _ _ _=>.fail) (λ_ _ _ _=>.fail) (λ_ _ _ _=>.fail) (λ_ _ _ _=>.fail) (λ_ _ _ _=>.fail) (λ_ _ _ _=>.fail) (λ_ _ _ _=>.fail) (λ_ _ _ _=>.fail) (λ_ args _ H=>rm<|DJ args H) (λats args P H=>rm<|ug P ats args H) (λ_ _ _ _=>.fail) (λ_ _ _ _=>.fail) (λ_ _ _ _=>.fail) (λ_ _ _ _=>.fail) b
def tJ(c:Call)(P:Program)(cf:iO)(s:St):R3:=
 @Option.rec Builtin (λ_=>R3)
  (rm<|ax (jY c.callee P s) λq=>cf q.1 (app q.2.1<|app (mp (ev s) c.args.toList) q.2.2) s.H)
  (λb=>xP b c.argTypes.toList (mp (ev s) c.args.toList) P s.H) (isBuiltin c.callee)
def vN(o:Op):Program->iO->St->R3:=
 @Op.rec (λ_=>Program->iO->St->R3)
  (λx _ _ s=>.zF<|ev s x) (λx _ _ s=>.zF<|ev s x) (λc a b _ _ s=>rp<|Hu (ev s c) (ev s a)<|ev s b) (λe P _ s=>rm<|zW P e s.H) (λe x _ _ s=>rm<|Le e (ev s x) s.H) (λt ps P _ s=>rp<|zV P t<|Lf s ps) (λt n ps P _ s=>rm<|pJ P t n (Lf s ps) s.H) (λt m k v P _ s=>rm<|oU P t (ev s m) (ev s k) (ev s v) s.H) (λt x P _ s=>rm<|r_ P t (ev s x) s.H) (λt x v P _ s=>rm<|wG P t (ev s x) (ev s v) s.H) (λ_ _ _ _=>.fail) (λ_ _ _ _=>.fail) (λx _ _ s=>rp<|Ld<|ev s x) (λop t x y _ P _ s=>rp<|jb P op t x y (ev s x)<|ev s y) (λop _ x _ _ s=>rp<|gU<|Op.unary op<|ev s x) (λa b x P _ s=>rpm (zR P a b<|ev s x)<|rm<|qw P a b (ev s x) s.H) (λ_ _ _ _ _=>.fail) (λt x P _ s=>rp<|P_ P t<|ev s x) (λf fi ca _ _ s=>rp<|some<|.func f ⟨mp (ev s) fi.toList⟩ ⟨mp (ev s) ca.toList⟩) (λt r P _ s=>rm<|si P t (Gq s r) s.H) (λ_ _ _ _ _=>.fail) (λt l c P _ s=>rm<|mP P t (ev s l) (ev s c) s.H) (λt x lo hi mx P _ s=>rp<|xG P t (ev s x) (Gq s lo) (Gq s hi)<|Gq s mx) (λt x f P _ s=>rp<|oh P t (ev s x) f) (λt x f P _ s=>rp<|zU P t (ev s x) f) (λt x i P _ s=>rp<|og P t (ev s x)<|ev s i) (λt x i P _ s=>rp<|zT P t (ev s x)<|ev s i) (λt x k ok P _ s=>rm<|uK P t (ev s x) (ev s k) ok s.H) (λt m k v P _ s=>rm<|oU P t (ev s m) (ev s k) (ev s v) s.H) (λ_ _ _ _ _ _=>.fail) (λ_ _ _ _ _ _ _=>.fail) (λt x P _ s=>rm<|EK P t (ev s x) s.H) (λx b _ _ s=>rm<|Ka (ev s x) b s.H) (λ_ _ _ _=>.fail) (λ_ _ _ _ _ _ _=>.fail) (λt i _ _ s=>rp<|qD (ev s t) i) (λc P cf s=>tJ c P cf s) (λ_ _ _ _=>.fail) (λ_ _ _ _=>.fail) (λ_ _ _ _=>.fail) (λ_ _ _ _ _=>.fail) (λ_ _ _ _ _ _=>.fail) (λ_ _ _ _ _=>.fail) o
def nI(o:Op):Option Call:=@Op.rec (λ_=>Option Call) (λ_=>none) (λ_=>none) (λ_ _ _=>none) (λ_=>none) (λ_ _=>none) (λ_ _=>none) (λ_ _ _=>none) (λ_ _ _ _=>none) (λ_ _=>none) (λ_ _ _=>none) (λ_=>none) (λ_=>none) (λ_=>none) (λ_ _ _ _ _=>none) (λ_ _ _=>none) (λ_ _ _=>none) (λ_ _=>none) (λ_ _=>none) (λ_ _ _=>none) (λ_ _=>none) (λ_ _=>none) (λ_ _ _=>none) (λ_ _ _ _ _=>none) (λ_ _ _=>none) (λ_ _ _=>none) (λ_ _ _=>none) (λ_ _ _=>none) (λ_ _ _ _=>none) (λ_ _ _ _=>none) (λ_ _ _=>none) (λ_ _ _ _=>none) (λ_ _=>none) (λ_ _=>none) (λ_=>none) (λ_ _ _ _=>none) (λ_ _=>none) (λ_=>none) (λ_=>none) (λc=>some c) (λ_=>none) (λ_ _=>none) (λ_ _ _=>none) (λ_ _=>none) o
def yC(c:Call)(P:Program)(s:St):Option Deferred:=
 ax (@Callee.rec (λ_=>Option Operand) (λf=>some f) (λ_ _=>none) (λ_=>none) c.callee) λf=>
  ax (Wm<|ev s f) λq=>ax (fFn q.1) λg=>some ⟨.fn (.func g) ⟨q.2.2⟩,⟨app q.2.1<|mp (ev s) c.args.toList⟩⟩
def CE(o:Oper)(s:St)(r:R3):Option St:=
 @R3.rec (λ_=>Option St) none (λv=>some<|fU s o.dst v s.H) (λv H=>some<|fU s o.dst v H) r
def xg(P:Program)(cf:iO)(o:Oper)(s:St):Option St:=
 @Option.rec Call (λ_=>Option St) (CE o s<|vN o.op P cf s)
  (λc=>ax (yC c P s) λd=>some<|fU ⟨s.nl,s.nt,s.reg,s.tm,d::s.df,s.H⟩ o.dst undef s.H) (nI o.op)
def jy(P:Program)(cf:iO)(ops:Array Oper)(o:Oper)(s:St):Option St:=
 ax (mX ops s o.guard) λb=>aU b (xg P cf o s)<|some<|fU s o.dst undef s.H
def jJ(P:Program)(cf:iO)(ops:Array Oper)(l:List Oper):St->Option St:=
 @List.rec Oper (λ_=>St->Option St) some (λo _ ih s=>ax (jy P cf ops o s) ih) l
def kV(a b:Nat):Nat:=aU (Nat.ble a b) a b
def dX(s:St):St:=⟨s.nl,s.nt,s.reg,s.tm,s.df,⟨s.H.rM,s.H.next,s.H.next⟩⟩
structure Cl where
 k:Nat
 r:Nat
 off:Nat
 n:Nat
 a:ag
 b:ag
def hh0:ag:=⟨.nil,0,0⟩
def cl(k:Nat):Cl:=⟨k,0,0,0,hh0,hh0⟩
def yD(o:Op):Option (Operand×Operand):=@Op.rec (λ_=>Option<|Operand×Operand) (λ_=>none) (λ_=>none) (λ_ _ _=>none) (λ_=>none) (λ_ _=>none) (λ_ _=>none) (λ_ _ _=>none) (λ_ _ _ _=>none) (λ_ _=>none) (λ_ a v=>some (a,v)) (λ_=>none) (λ_=>none) (λ_=>none) (λ_ _ _ _ _=>none) (λ_ _ _=>none) (λ_ _ _=>none) (λ_ _=>none) (λ_ _=>none) (λ_ _ _=>none) (λ_ _=>none) (λ_ _=>none) (λ_ _ _=>none) (λ_ _ _ _ _=>none) (λ_ _ _=>none) (λ_ _ _=>none) (λ_ _ _=>none) (λ_ _ _=>none) (λ_ _ _ _=>none) (λ_ _ _ _=>none) (λ_ _ _=>none) (λ_ _ _ _=>none) (λ_ _=>none) (λ_ _=>none) (λ_=>none) (λ_ _ _ _=>none) (λ_ _=>none) (λ_=>none) (λ_=>none) (λ_=>none) (λ_=>none) (λ_ _=>none) (λ_ _ _=>none) (λ_ _=>none) o
def EL(o:Op):Option (TypeId×Operand):=@Op.rec (λ_=>Option<|TypeId×Operand) (λ_=>none) (λ_=>none) (λ_ _ _=>none) (λ_=>none) (λ_ _=>none) (λ_ _=>none) (λ_ _ _=>none) (λ_ _ _ _=>none) (λt a=>some (t,a)) (λ_ _ _=>none) (λ_=>none) (λ_=>none) (λ_=>none) (λ_ _ _ _ _=>none) (λ_ _ _=>none) (λ_ _ _=>none) (λ_ _=>none) (λ_ _=>none) (λ_ _ _=>none) (λ_ _=>none) (λ_ _=>none) (λ_ _ _=>none) (λ_ _ _ _ _=>none) (λ_ _ _=>none) (λ_ _ _=>none) (λ_ _ _=>none) (λ_ _ _=>none) (λ_ _ _ _=>none) (λ_ _ _ _=>none) (λ_ _ _=>none) (λ_ _ _ _=>none) (λ_ _=>none) (λ_ _=>none) (λ_=>none) (λ_ _ _ _=>none) (λ_ _=>none) (λ_=>none) (λ_=>none) (λ_=>none) (λ_=>none) (λ_ _=>none) (λ_ _ _=>none) (λ_ _=>none) o
def xx(o:Op):Bool:=@Op.rec (λ_=>Bool) (λ_=>false) (λ_=>false) (λ_ _ _=>false) (λ_=>true) (λ_ _=>true) (λ_ _=>false) (λ_ _ _=>true) (λ_ _ _ _=>false) (λ_ _=>false) (λ_ _ _=>false) (λ_=>false) (λ_=>false) (λ_=>false) (λ_ _ _ _ _=>false) (λ_ _ _=>false) (λ_ _ _=>false) (λ_ _=>false) (λ_ _=>false) (λ_ _ _=>false) (λ_ _=>true) (λ_ _=>false) (λ_ _ _=>true) (λ_ _ _ _ _=>false) (λ_ _ _=>false) (λ_ _ _=>false) (λ_ _ _=>false) (λ_ _ _=>false) (λ_ _ _ _=>false) (λ_ _ _ _=>false) (λ_ _ _=>false) (λ_ _ _ _=>false) (λ_ _=>false) (λ_ _=>false) (λ_=>false) (λ_ _ _ _=>false) (λ_ _=>false) (λ_=>false) (λ_=>false) (λ_=>false) (λ_=>false) (λ_ _=>false) (λ_ _ _=>false) (λ_ _=>false) o
def xy(P:Program)(o:Op)(s:St):Cl:=
 (ax (EL o) λp=>ax (mF<|ev s p.2) λa=>ax (V3 P p.1) λl=>some<|Cl.mk 4 a.block a.off (l.getD 1) hh0 hh0).getD (cl 1)
def oI(P:Program)(o:Op)(s:St)(H:ag):Cl:=
 @Option.rec (Operand×Operand) (λ_=>Cl) (aU (Nat.ble s.H.next H.low) (aU (xx o) (cl 5)<|xy P o s) ⟨2,0,0,0,s.H,H⟩)
  (λp=>@Option.rec Addr (λ_=>Cl) ⟨2,0,0,0,s.H,H⟩ (λa=>⟨3,a.block,a.off,len<|aX<|ev s p.2,hh0,hh0⟩)<|mF<|ev s p.1) (yD o)
def Fx(P:Program)(o:Oper)(s:St)(r:R3):Option (St×Cl):=
 @R3.rec (λ_=>Option<|St×Cl) none (λv=>some (fU s o.dst v s.H,cl 0))
  (λv H=>some (fU s o.dst v ⟨H.rM,H.next,kV s.H.low H.low⟩,oI P o.op s H)) r
def iT(P:Program)(cf:iO)(ops:Array Oper)(o:Oper)(s:St):Option (St×Cl):=
 ax (mX ops s o.guard) λb=>aU b (Fx P o s<|vN o.op P cf<|dX s)<|some (fU s o.dst undef s.H,cl 0)
def fT(P:Program)(cf:iO)(ops:Array Oper)(l:List Oper):St->List Cl->Option (St×List Cl):=
 @List.rec Oper (λ_=>St->List Cl->Option (St×List Cl)) (λs acc=>some (s,acc)) (λo _ ih s acc=>ax (iT P cf ops o s) λq=>ih q.1<|q.2::acc) l
def wH(acc:List Nat)(n:Nat)(l:List Edge):Nat:=
 @List.rec Edge (λ_=>Nat) 0 (λe _ r=>aU (Region.binds .any e) (Nat.lor (Nat.lor (Nat.shiftLeft 1 e.on)<|(nth acc<|Nat.sub (Nat.sub n 1) e.on).getD 0) r) r) l
def qc(l:List Oper):List Nat->Nat->List Nat:=
 @List.rec Oper (λ_=>List Nat->Nat->List Nat) (λacc _=>acc) (λo _ ih acc n=>ih (wH acc n o.after.toList::acc)<|Nat.succ n) l
def uh(l:List Oper):Nat->Bool:=
 @List.rec Oper (λ_=>Nat->Bool) (λ_=>true) (λo _ ih n=>aU (all' (λe=>!(Region.binds .any e)||Nat.ble (Nat.succ e.on) n) o.after.toList) (ih<|Nat.succ n) false) l
def iB{α:Type}(f:α->α->Bool->Bool)(x:α)(m:Nat)(l:List α):Bool:=@List.rec α (λ_=>Bool) true (λy r ih=>aU (f x y<|d_ m<|len r) ih false) l
def pairs{α:Type}(f:α->α->Bool->Bool)(ms:List Nat):List α->Bool:=
 @List.rec Nat (λ_=>List α->Bool) (λ_=>true) (λm _ ih xs=>@List.rec α (λ_=>Bool) true
  (λx r _=>aU (iB f x m r) (ih r) false) xs) ms
def lI(ops:Array Oper):Bool:=uh ops.toList 0&&pairs (λy x b=>b||x.apart ops y) (qc ops.toList [] 0) (ops.toList.reverse)
def vD(x y:Cl):Bool:=!(Nat.beq x.r y.r)||Nat.ble (Nat.add x.off x.n) y.off||Nat.ble (Nat.add y.off y.n) x.off
def ng(w l:Cl):Bool:=sameAt w.a w.b l.r l.off l.n
def dP(y x:Cl)(b:Bool):Bool:=
 aU (Nat.beq y.k 0||Nat.beq x.k 0||Nat.beq y.k 5||Nat.beq x.k 5) true
  (aU (Nat.beq x.k 3) (aU (Nat.beq y.k 3) (b||vD x y)<|Nat.beq y.k 4&&(b||vD x y))
   (aU (Nat.beq y.k 3) (b||(Nat.beq x.k 4&&vD x y))
    (aU (Nat.beq x.k 4) (aU (Nat.beq y.k 2) (b||ng y x) true)
     (aU (Nat.beq y.k 4) (aU (Nat.beq x.k 2) (b||ng x y) true)
      (aU (Nat.beq x.k 1&&Nat.beq y.k 1) true b)))))
def noTwo(l:List Cl):Bool:=all' (λx=>!(Nat.beq x.k 2||Nat.beq x.k 3)) l
def gQ(ops:Array Oper)(cls:List Cl):Bool:=aU (noTwo cls) true<|pairs dP (qc ops.toList [] 0) cls
def adx(o:Op):Bool:=@Op.rec (λ_=>Bool) (λ_=>true) (λ_=>true) (λ_ _ _=>true) (λ_=>true) (λ_ _=>true) (λ_ _=>true) (λ_ _ _=>true) (λ_ _ _ _=>true) (λ_ _=>true) (λ_ _ _=>true) (λ_=>true) (λ_=>true) (λ_=>true) (λ_ _ _ _ _=>true) (λ_ _ _=>true) (λ_ _ _=>true) (λ_ _=>true) (λ_ _=>true) (λ_ _ _=>true) (λ_ _=>true) (λ_ _=>true) (λ_ _ _=>true) (λ_ _ _ _ _=>true) (λ_ _ _=>true) (λ_ _ _=>true) (λ_ _ _=>true) (λ_ _ _=>true) (λ_ _ _ _=>true) (λ_ _ _ _=>true) (λ_ _ _=>true) (λ_ _ _ _=>true) (λ_ _=>true) (λ_ _=>true) (λ_=>true) (λ_ _ _ _=>true) (λ_ _=>true) (λ_=>true) (λ_=>true) (λ_=>true) (λ_=>true) (λ_ _=>true) (λ_ _ _=>true) (λ_ _=>false) o
def iC(ops:Array Oper):Bool:=all' (λo=>cO (nI o.op)&&adx o.op) ops.toList
inductive Out where
 |fail
 |norm(s:St)
 |exit(id:Nat)(s:St)
 |goto(l:Nat)(s:St)
 |ret(s:St)
def andThen(o:Out)(k:St->Out):Out:=
 @Out.rec (λ_=>(St->Out)->Out) (λ_=>.fail) (λs k=>k s) (λid s _=>.exit id s) (λl s _=>.goto l s) (λs _=>.ret s) o k
def Fy(c:Option Bool)(x y:Out):Out:=@Option.rec Bool (λ_=>Out) .fail (λb=>aU b x y) c
def uj(id:Nat)(o:Out):Out:=
 @Out.rec (λ_=>Nat->Out) (λ_=>.fail) (λs _=>.norm s) (λi s id=>aU (Nat.beq i id) (.norm s)<|.exit i s) (λl s _=>.goto l s) (λs _=>.ret s) o id
def uU(n:Nat)(f:St->Out):St->Out:=@Nat.rec (λ_=>St->Out) (λ_=>.fail) (λ_ ih s=>andThen (f s) ih) n
def ae9(o:Out)(k:Nat->St->Out):Out:=
 @Out.rec (λ_=>(Nat->St->Out)->Out) (λ_=>.fail) (λs _=>.norm s) (λi s _=>.exit i s) (λl s k=>k l s) (λs _=>.ret s) o k
def jZ(cx:Code->St->Out)(n:Nat)(body:Code):Out->Out:=
 @Nat.rec (λ_=>Out->Out) (λ_=>.fail) (λ_ ih o=>ae9 o λl s=>@Option.rec Code (λ_=>Out) (.goto l s) (λrest=>ih<|cx rest s)<|findLabel body l) n
def Fz(o:Option St):Out:=@Option.rec St (λ_=>Out) .fail .norm o
def clear(s:St):St:=⟨s.nl,s.nt,[],s.tm,s.df,s.H⟩
def qX(ops:Array Oper)(o:Option<|St×List Cl):Out:=
 @Option.rec (St×List Cl) (λ_=>Out) .fail (λq=>aU (gQ ops q.2) (.norm q.1) .fail) o
def region(P:Program)(cf:iO)(ops:Array Oper)(draw:Bool)(s:St):Out:=
 aU draw (aU (iC ops&&lI ops) (qX ops<|fT P cf ops ops.toList (clear s) []) .fail) (Fz<|jJ P cf ops ops.toList<|clear s)
def exec(P:Program)(cf:iO)(cx:Code->St->Out)(n:Nat)(c:Code):St->Out:=
 @Code.rec (λ_=>St->Out)
  (λs=>.norm s)
  (λ_ ops draw s=>region P cf ops draw s)
  (λ_ _ ia ib s=>andThen (ia s) ib)
  (λc _ _ ix iy s=>Fy (gF<|ev s c) (ix s)<|iy s)
  (λid _ ih s=>uj id<|ih s)
  (λ_ ih s=>uU n ih s)
  (λ_ _ _ _ _ _=>λ_=>.fail)
  (λid s=>.exit id s)
  (λc ih s=>jZ cx n c<|ih s)
  (λ_ s=>.norm s)
  (λl s=>.goto l s)
  (λs=>.ret s)
  (λ_=>λ_=>.fail) c
def Be(P:Program)(s:St)(r:ResultVar):Option Value:=
 @ResultVar.rec (λ_=>Option Value) (λt=>some<|eO s t) (λa t=>ax (r_ P t (eO s a) s.H) λp=>some p.1) r
def iX(P:Program)(s:St)(l:List ResultVar):Option (List Value):=
 @List.rec ResultVar (λ_=>Option<|List Value) (some []) (λr _ q=>ax (Be P s r) λv=>ax q λvs=>some<|v::vs) l
def oN(vs:List Value):Value:=aU (Nat.beq (len vs) 1) ((nth vs 0).getD undef)<|.tuple ⟨vs⟩
def Lg(o:Out):Option St:=@Out.rec (λ_=>Option St) none (λs=>some s) (λ_ _=>none) (λ_ _=>none) (λs=>some s) o
def FB(P:Program)(fn:Func)(s:St):Option (Value×ag):=
 gd (Nat.beq (len s.df) 0) (ax (iX P s fn.results.toList) λvs=>some (oN vs,s.H))
def Wz(m t:Nat):Nat:=Nat.lor m<|Nat.shiftLeft 1 t
def ady(x:Operand):Option Nat:=@Operand.rec (λ_=>Option Nat) some (λ_=>none) (λ_=>none) (λ_=>none) x
def adz(l:List Operand)(p:Nat×Nat):Nat:=
 @List.rec Operand (λ_=>Nat) p.1 (λx _ r=>@Option.rec Nat (λ_=>Nat) r (λt=>aU (d_ p.2 t) r<|Wz r t)<|ady x) l
def WA(l:List Oper):Nat×Nat->Nat×Nat:=
 @List.rec Oper (λ_=>Nat×Nat->Nat×Nat) (λp=>p)
  (λo _ ih p=>ih (adz o.op.operands.toList p,@Option.rec Nat (λ_=>Nat) p.2 (Wz p.2) o.dst)) l
def Ul(c:Code):Nat:=@Code.rec (λ_=>Nat) (0)
 (λ_ ops _=>(WA ops.toList (0,0)).1)
 (λ_ _ a b=>Nat.lor a b)
 (λ_ _ _ a b=>Nat.lor a b)
 (λ_ _ a=>a)
 (λ_ a=>a)
 (λ_ _ _ _ _ _=>0)
 (λ_=>0)
 (λ_ a=>a)
 (λ_=>0)
 (λ_=>0)
 (0)
 (λ_=>0) c
def WB(l:List ResultVar):Nat:=@List.rec ResultVar (λ_=>Nat) 0 (λr _ n=>Wz n<|@ResultVar.rec (λ_=>Nat) (λt=>t) (λa _=>a) r) l
def gW(P:Program)(g:FuncId):Nat:=@Option.rec Func (λ_=>Nat) 0 (λfn=>Nat.lor (WB fn.results.toList)<|@Option.rec Code (λ_=>Nat) 0 Ul fn.body)<|nth P.funcs.toList g
structure Lv where
 ca:iO
 cx:Code->St->Out
def Um(P:Program)(L:Lv)(n:Nat)(g x:Nat)(fn:Func)(args:List Value)(H:ag):Option (Value×ag):=
 @Option.rec Code (λ_=>Option<|Value×ag) (Uk P x fn.resultTypes.toList args H)
  (λc=>gd (Nat.ble (len args) fn.ntmps)<|ax (Lg<|exec P L.ca L.cx n c ⟨gW P g,fn.ntmps,[],Tr.pU top args 0 .nil,[],H⟩) λs=>FB P fn s) fn.body
structure Xt where
 c:FuncId->Nat
 o:FuncId->List Value->ag->Option (Value×ag)
instance:CoeFun Xt (λ_=>FuncId->Nat):=⟨Xt.c⟩
def orO(o d:Option<|Value×ag):Option (Value×ag):=@Option.rec (Value×ag) (λ_=>Option<|Value×ag) d some o
def yE(P:Program)(X:Xt)(L:Lv)(n:Nat)(g:FuncId)(args:List Value)(H:ag):Option (Value×ag):=
 orO (X.o g args H) (ax (nth P.funcs.toList g) λfn=>Um P L n g (X g) fn args H)
def lv(P:Program)(X:Xt)(n:Nat):Lv:=
 @Nat.rec (λ_=>Lv) ⟨λ_ _ _=>none,λ_ _=>.fail⟩ (λm L=>⟨yE P X L m,exec P L.ca L.cx m⟩) n
def h_(P:Program)(X:Xt)(n:Nat):iO:=(lv P X n).ca
structure Loc where
 c:Nat
 lo:Nat
 base:Nat
 tot:Nat
 n:Nat
abbrev Mp:=Nat->Option Loc
variable{m m':Mp}
def Mp.le(m m':Mp):Prop:=∀r l,m r=some l->m' r=some l
mutual
inductive VR(m:Mp):Value->Value->Prop where
 |sc (v:Value) (h:jW v=true):VR m v v
 |top (v:Value):VR m top v
 |ptr (r off:Nat) (l:Loc) (h:m r=some l) (hl:l.lo<=off):VR m (.pointer<|some ⟨r,off,none⟩) (.pointer<|some ⟨l.c,l.base+(off-l.lo),none⟩)
 |slice (r off n cp:Nat) (l:Loc) (h:m r=some l) (hl:l.lo<=off) (hk:eY cp=true) (hn:n<=cp):
  VR m (.slice (some ⟨r,off,none⟩) n cp) (.slice (some ⟨l.c,l.base+(off-l.lo),none⟩) n cp)
 |pM (r off n es cc:Nat) (l:Loc) (h:m r=some l) (hl:l.lo<=off) (he:0<es) (ht:l.base+(off-l.lo)+cc*es=l.tot) (hc:n<=cc) (hN:l.n<=off+cc*es):
  VR m (.slice (some ⟨r,off,none⟩) n<|dV es) (.slice (some ⟨l.c,l.base+(off-l.lo),none⟩) n cc)
 |uk (a a':Addr):VR m (.slice (some a) 0 0) (.slice (some a') 0 0)
 |pW (r off es:Nat) (a':Addr) (l:Loc) (h:m r=some l) (hl:l.lo<=off) (he:0<es) (hN:l.n<=off):VR m (.slice (some ⟨r,off,none⟩) 0<|dV es) (.slice (some a') 0 0)
 |map (r:Nat) (l:Loc) (h:m r=some l):VR m (.map<|some r) (.map<|some l.c)
 |func (f:Fn) (x y x' y':List Value) (hx:jf m x x') (hy:jf m y y'):VR m (.func f ⟨x⟩ ⟨y⟩) (.func f ⟨x'⟩ ⟨y'⟩)
 |iface (t:TypeId) (v v':Value) (h:VR m v v'):VR m (.iface t v) (.iface t v')
 |agg (x x':List Value) (h:jf m x x'):VR m (.agg ⟨x⟩) (.agg ⟨x'⟩)
 |tuple (x x':List Value) (h:jf m x x'):VR m (.tuple ⟨x⟩) (.tuple ⟨x'⟩)
inductive jf(m:Mp):List Value->List Value->Prop where
 |nil:jf m [] []
 |cons (v v':Value) (x x':List Value) (h:VR m v v') (hx:jf m x x'):jf m (v::x) (v'::x')
end
mutual
theorem VR.mono(hm:Mp.le m m'):∀{v v':Value},VR m v v'->VR m' v v'
 |_,_,.sc v h=>.sc v h
 |_,_,.top v=>.top v
 |_,_,.ptr r off l h hl=>.ptr r off l (hm r l h) hl
 |_,_,.slice r off n cp l h hl hk hn=>.slice r off n cp l (hm r l h) hl hk hn
 |_,_,.pM r off n es cc l h hl he ht hc hN=>.pM r off n es cc l (hm r l h) hl he ht hc hN
 |_,_,.uk a a'=>.uk a a'
 |_,_,.pW r off es a' l h hl he hN=>.pW r off es a' l (hm r l h) hl he hN
 |_,_,.map r l h=>.map r l<|hm r l h
 |_,_,.func f x y x' y' hx hy=>.func f x y x' y' (jf.mono hm hx)<|jf.mono hm hy
 |_,_,.iface t v v' h=>.iface t v v'<|VR.mono hm h
 |_,_,.agg x x' h=>.agg x x'<|jf.mono hm h
 |_,_,.tuple x x' h=>.tuple x x'<|jf.mono hm h
theorem jf.mono(hm:Mp.le m m'):∀{v v':List Value},jf m v v'->jf m' v v'
 |_,_,.nil=>.nil
 |_,_,.cons v v' x x' h hx=>.cons v v' x x' (VR.mono hm h)<|jf.mono hm hx
end
theorem jf.length{x x':List Value}(h:jf m x x'):x.length=x'.length:=by
 induction x generalizing x' with
 |nil=>cases h;rfl
 |cons v x ih=>cases h with|cons _ v' _ x' h hx=>simp[ih hx]
theorem jf.get{x x':List Value}(h:jf m x x')(k:Nat)(hv:x[k]?=some v):∃v',x'[k]?=some v'/\VR m v v':=by
 induction x generalizing x' k with
 |nil=>simp at hv
 |cons w x ih=>
  cases h with
  |cons _ w' _ x' h hx=>
   cases k with
   |zero=>simp at hv;subst hv;exact⟨w',by simp,h⟩
   |succ k=>simpa using ih hx k (by simpa using hv)
theorem jf.append{x x' y y':List Value}(h:jf m x x')(hy:jf m y y'):jf m (x++y) (x'++y'):=by
 induction x generalizing x' with
 |nil=>cases h;exact hy
 |cons w x ih=>cases h with|cons _ w' _ x' h hx=>exact .cons _ _ _ _ h<|ih hx
theorem jf.take{x x':List Value}(h:jf m x x')(k:Nat):jf m (x.take k) (x'.take k):=by
 induction x generalizing x' k with
 |nil=>cases h;simp;exact .nil
 |cons w x ih=>cases h with
  |cons _ w' _ x' h hx=>cases k with
   |zero=>simp;exact .nil
   |succ k=>simp;exact .cons _ _ _ _ h<|ih hx k
theorem jf.drop{x x':List Value}(h:jf m x x')(k:Nat):jf m (x.drop k) (x'.drop k):=by
 induction x generalizing x' k with
 |nil=>cases h;simp;exact .nil
 |cons w x ih=>cases h with
  |cons _ w' _ x' h hx=>cases k with
   |zero=>simp;exact .cons _ _ _ _ h hx
   |succ k=>simp;exact ih hx k
theorem jf.set{x x':List Value}(h:jf m x x')(k:Nat)(hv:VR m v v'):jf m (x.set k v) (x'.set k v'):=by
 induction x generalizing x' k with
 |nil=>cases h;simp;exact .nil
 |cons w x ih=>cases h with
  |cons _ w' _ x' h hx=>cases k with
   |zero=>simp;exact .cons _ _ _ _ hv hx
   |succ k=>simp;exact .cons _ _ _ _ h<|ih hx k
theorem jf.jW:∀{x:List Value},x.all jW=true->jf m x x
 |[],_=>.nil
 |v::x,h=>by simp at h;exact .cons _ _ _ _ (.sc v h.1)<|jf.jW (by simpa using h.2)
theorem kW(h:mF v=some a):v=.pointer (some a):=by
 cases v<;>simp[mF]at h<;>simp[h]
theorem lJ(h:gF v=some b):v=.bool b:=by
 cases v<;>simp[gF]at h<;>simp[h]
theorem mH{p:IntKind×Int}(h:pF v=some p):v=.int p.1 p.2:=by
 cases v<;>simp[pF]at h<;>simp[<-h]
theorem Lh{n:Int}{k:Nat}(h:Hq n=some k):n=k:=by
 cases n<;>simp[Hq]at h;simp[h]
theorem Bf(h:w_ v=some n):∃k,v=.int k n:=by
 cases v<;>simp[w_]at h
 case int k m=>exact⟨k,by rw[Lh h]⟩
theorem kX{b:ByteArray}(h:pG v=some b):v=.string b:=by
 cases v<;>simp[pG]at h<;>simp[h]
theorem um{p:Option Addr×Nat×Nat}(h:Gn v=some p):v=.slice p.1 p.2.1 p.2.2:=by
 cases v<;>simp[Gn]at h<;>simp[<-h]
theorem Bg{p:Option Nat}(h:JH v=some p):v=.map p:=by
 cases v<;>simp[JH]at h<;>simp[h]
theorem Lj{p:Fn×List Value×List Value}(h:Wm v=some p):v=.func p.1 ⟨p.2.1⟩ ⟨p.2.2⟩:=by
 cases v<;>simp[Wm]at h<;>simp[<-h]
theorem pX{p:List Value}(h:tq v=some p):v=.agg ⟨p⟩:=by
 cases v<;>simp[tq]at h<;>simp[<-h]
theorem aaM{p:List Value}(h:Wo v=some p):v=.tuple ⟨p⟩:=by
 cases v<;>simp[Wo]at h<;>simp[<-h]
theorem Un{p:TypeId×Value}(h:Cv v=some p):v=.iface p.1 p.2:=by
 cases v<;>simp[Cv]at h<;>simp[<-h]
theorem Ll{f:Fn}{g:FuncId}(h:fFn f=some g):f=.func g:=by
 cases f<;>simp[fFn]at h<;>simp[h]
section inv
theorem VR.of_bool(h:VR m (.bool b) v):v=.bool b:=by cases h;rfl
theorem VR.of_int{n:Int}(h:VR m (.int k n) v):v=.int k n:=by cases h;rfl
theorem VR.qY{b:ByteArray}(h:VR m (.string b) v):v=.string b:=by cases h;rfl
theorem VR.uq{x:List Value}(h:VR m (.agg ⟨x⟩) v):∃x',v=.agg ⟨x'⟩/\jf m x x':=by
 cases h with
 |sc _ h=>simp[Ae.jW]at h
 |agg _ x' h=>exact⟨x',rfl,h⟩
theorem VR.Lm{x:List Value}(h:VR m (.tuple ⟨x⟩) v):∃x',v=.tuple ⟨x'⟩/\jf m x x':=by
 cases h with
 |sc _ h=>simp[Ae.jW]at h
 |tuple _ x' h=>exact⟨x',rfl,h⟩
theorem VR.NA(h:VR m (.iface t x) v):∃x',v=.iface t x'/\VR m x x':=by
 cases h with
 |sc _ h=>simp[Ae.jW]at h
 |iface _ _ x' h=>exact⟨x',rfl,h⟩
theorem VR.WC{f:Fn}{x y:List Value}(h:VR m (.func f ⟨x⟩ ⟨y⟩) v):∃x' y',v=.func f ⟨x'⟩ ⟨y'⟩/\jf m x x'/\jf m y y':=by
 cases h with
 |sc _ h=>simp[Ae.jW]at h
 |func _ _ _ x' y' hx hy=>exact⟨x',y',rfl,hx,hy⟩
theorem VR.oO(h:VR m (.pointer<|some a) v):∃l,m a.block=some l/\l.lo<=a.off/\a.spot=none/\v=.pointer (some ⟨l.c,l.base+(a.off-l.lo),none⟩):=by
 cases h with
 |sc _ h=>simp[Ae.jW,cO]at h
 |ptr r off l h hl=>exact⟨l,h,hl,rfl,rfl⟩
theorem VR.of_map{r:Nat}(h:VR m (.map<|some r) v):∃l,m r=some l/\v=.map (some l.c):=by
 cases h with
 |sc _ h=>simp[Ae.jW,cO]at h
 |map r l h=>exact⟨l,h,rfl⟩
theorem VR.uL(h:VR m v v')(hs:jW v=true):v'=v:=by
 cases h<;>first|rfl|(simp[Ae.jW,cO,Ae.top]at hs)
theorem jf.uL{x x':List Value}(h:jf m x x')(hs:x.all Ae.jW=true):x'=x:=by
 induction x generalizing x' with
 |nil=>cases h;rfl
 |cons w x ih=>cases h with
  |cons _ w' _ x' h hx=>simp at hs;rw[VR.uL h hs.1,ih hx<|by simpa using hs.2]
theorem VR.dK{v v':Value}(h:VR m v v')(hs:dK v=true):v'.cells=#[v']/\(∀x,v'≠.agg x)/\(∀x,v'≠.tuple x):=by
 cases h<;>first
  |(rename_i hv;cases v<;>simp[Ae.dK,Value.cells]at hs|-)
  |(simp[Value.cells];done)
  |(simp[Ae.dK,Ae.top]at hs;done)
end inv
theorem adA(h:dSl d=some e):d=.slice e:=by cases d<;>simp[dSl]at h;rw[h]
theorem GR(h:DD d=some e):d=.pointer e:=by cases d<;>simp[DD]at h;rw[h]
theorem Lp{e:Nat×TypeId}(h:Ns d=some e):d=.array e.1 e.2:=by cases d<;>simp[Ns]at h;rw[<-h]
theorem aaN{e:TypeId×TypeId}(h:adw d=some e):d=.map e.1 e.2:=by cases d<;>simp[adw]at h;rw[<-h]
theorem Qb{e:List Field}(h:Lb d=some e):d=.struct ⟨e⟩:=by cases d<;>simp[Lb]at h;rw[<-h]
theorem DL(h:zC d=true):d=.string:=by cases d<;>simp[zC]at h;rfl
theorem Sk(h:JI d=some k):d=.int k:=by cases d<;>simp[JI]at h;rw[h]
theorem Uo{k:FloatKind}(h:EC d=some k):d=.float k:=by cases d<;>simp[EC]at h;rw[h]
theorem aaO(h:Gp k=true):k=.u8:=by cases k<;>simp[Gp]at h;rfl
theorem xQ(h:Nat.beq (mW k) (mW k')=true):k=k':=by cases k<;>cases k'<;>first|rfl|cases h
theorem nJ{P:Program}{s:Nat}(h:rZ P t=some s):∃i,P.info? t=some i/\i.size=s:=by
 obtain⟨i,hi,h⟩:=ak h;cases h;exact⟨i,hi,rfl⟩
theorem yF{P:Program}{q:TypeId×Nat}(h:Nt P t=some q):P.underlying t=some (.slice q.1)/\(∃i,P.info? q.1=some i/\i.size=q.2)/\1<=q.2:=by
 obtain⟨d,hd,h⟩:=ak h;obtain⟨e,he,h⟩:=ak h;obtain⟨s,hs,h⟩:=ak h;obtain⟨h1,h⟩:=dh h;cases h;exact⟨by rw[hd,adA he],nJ hs,ai h1⟩
theorem GU{P:Program}{q:Nat×TypeId×Nat}(h:Nu P t=some q):P.underlying t=some (.array q.1 q.2.1)/\(∃i,P.info? q.2.1=some i/\i.size=q.2.2)/\1<=q.2.2:=by
 obtain⟨d,hd,h⟩:=ak h;obtain⟨e,he,h⟩:=ak h;obtain⟨s,hs,h⟩:=ak h;obtain⟨h1,h⟩:=dh h;cases h;exact⟨by rw[hd,Lp he],nJ hs,ai h1⟩
theorem GV{P:Program}{q:TypeId×TypeId}(h:zD P t=some q):P.underlying t=some (.map q.1 q.2):=by
 obtain⟨d,hd,h⟩:=ak h;rw[hd,aaN h]
theorem EM{P:Program}(h:Cw P t=true):P.underlying t=some .string:=by
 unfold Cw at h;cases hd:P.underlying t with
 |none=>rw[hd]at h;cases h
 |some d=>rw[hd]at h;rw[DL h]
theorem NB{P:Program}(h:Fw P t=true):P.underlying t=some (.int .u8):=by
 unfold Fw at h;cases hd:P.underlying t with
 |none=>rw[hd]at h;cases h
 |some d=>
  rw[hd]at h;cases hk:JI d with
  |none=>simp[hk]at h
  |some k=>simp[hk]at h;rw[Sk hk,aaO h]
theorem Qc{P:Program}(h:V3 P t=some l):
 ∃d i,P.underlying t=some d/\P.info? t=some i/\((P6 d=true/\l=some i.size)\/(P6 d=false/\l=none)):=by
 obtain⟨d,hd,h⟩:=ak h;obtain⟨s,hs,h⟩:=ak h;obtain⟨i,hi,rfl⟩:=nJ hs;refine⟨d,i,hd,hi,?_⟩;cases ha:P6 d<;>simp[ha,aU]at h<;>simp[<-h]
theorem CF{P:Program}(h:GM P t=some fs):P.underlying t=some (.struct ⟨fs⟩):=by
 obtain⟨d,hd,h⟩:=ak h;rw[hd,Qb h]
theorem Ke{P:Program}{f:Nat}{q:Nat×Option Nat}(h:P7 P t f=some q):
 ∃fs fd i,P.underlying t=some (.struct ⟨fs⟩)/\fs[f]?=some fd/\fd.offset=q.1/\V3 P fd.type=some q.2/\P.info? fd.type=some i/\1<=i.size:=by
 obtain⟨fs,hfs,h⟩:=ak h;obtain⟨fd,hfd,h⟩:=ak h;obtain⟨l,hl,h⟩:=ak h;obtain⟨s,hs,h⟩:=ak h;obtain⟨h1,h⟩:=dh h;cases h;obtain⟨i,hi,rfl⟩:=nJ hs;exact⟨fs,fd,i,CF hfs,by rw[<-kU];exact hfd,rfl,hl,hi,ai h1⟩
theorem Ls(h:EF z=true):(aX z).all jW=true:=by
 unfold EF at h;unfold aX;cases ha:tq z with
 |none=>rw[ha]at h;simpa using h
 |some l=>rw[ha]at h;simpa [all_eq]using h
theorem Up(h:EF z=true):VR m z z:=by
 unfold EF at h;cases ha:tq z with
 |none=>rw[ha]at h;exact .sc z h
 |some l=>
  rw[ha]at h;rw[pX ha];exact .agg _ _<|jf.jW (by simpa [all_eq]using h)
theorem NC{P:Program}(h:Cb P t=some z):(∃i,P.info? t=some i/\i.zero=some z)/\EF z=true:=by
 obtain⟨i,hi,h⟩:=ak h;obtain⟨z',hz,h⟩:=ak h;obtain⟨h1,h⟩:=dh h;cases h;exact⟨⟨i,hi,hz⟩,h1⟩
theorem Bh(v:Value):aX v=v.cells.toList:=by
 cases v<;>simp[aX,tq,Value.cells]
theorem vZ{P:Program}(h:xF P t=some zs):
 ∃i z,P.info? t=some i/\i.zero=some z/\zs=z.cells.toList/\zs.length=i.size/\zs.all jW=true:=by
 obtain⟨z,hz,h⟩:=ak h;obtain⟨s,hs,h⟩:=ak h;obtain⟨h1,h⟩:=dh h;cases h;obtain⟨i,hi,rfl⟩:=nJ hs;obtain⟨⟨i',hi',hz'⟩,hok⟩:=NC hz;rw[hi]at hi';cases hi';simp only[dG]at h1;exact⟨i,z,hi,hz',Bh z,aB h1,Ls hok⟩
section run
variable{P:Program}
theorem bY(h:P.underlying t=some d):(underlying t).run P w=.ok d w:=by simp[underlying,h]
theorem wI(h:P.info? t=some i):(typeInfo t).run P w=.ok i w:=by simp[typeInfo,h]
theorem gG(h:P.info? t=some i):(sizeOf t).run P w=.ok i.size w:=by simp[sizeOf,wI h]
theorem wJ(h:P.info? t=some i)(hz:i.zero=some z):(zeroValue t).run P w=.ok z w:=by simp[zeroValue,wI h,hz]
theorem uu(h:P.underlying t=some d):(isAgg t).run P w=.ok (P6 d) w:=by
 simp only[isAgg,Sem.run_bind,bY h,Result.andThen_ok];cases d<;>rfl
end run
section ops
variable{P:Program}
theorem Sl{off:Nat}(h:apart l cs off=some v)(hl:V3 P t=some l)(hc:jf m cs cs'):
 ∃v',VR m v v'/\∀w,(part t ⟨cs'⟩ off).run P w=.ok v' w:=by
 obtain⟨d,i,hd,hi,hk⟩:=Qc hl;rcases hk with⟨ha,rfl⟩|⟨ha,rfl⟩
 .obtain⟨h1,h⟩:=dh h;cases h;refine⟨.agg ⟨(cs'.drop off).take i.size⟩,?_,λw=>?_⟩
  .rw[Fv,J9];exact .agg _ _<|(hc.drop off).take _
  .simp only[part,Sem.run_bind,uu hd,ha,Result.andThen_ok,iq,gG hi,Sem.run_pure];simp[Fv,J9,List.take_drop]
 .simp only[apart,kU]at h;obtain⟨v',hv',hr⟩:=hc.get off h;refine⟨v',hr,λw=>?_⟩;simp[part,uu hd,ha,hv']
theorem Bi{es:Nat}(h:eY n=true):n≠dV es:=by
 intro e;rw[e]at h;have:=ai h;unfold dV at this;simp at this;omega
theorem VR.of_slice(h:VR m (.slice (some a) n cp) v):
 (∃l cc,m a.block=some l/\l.lo<=a.off/\a.spot=none/\v=.slice (some ⟨l.c,l.base+(a.off-l.lo),none⟩) n cc/\
  ((eY cp=true/\cc=cp/\n<=cp)\/(∃es,cp=dV es/\0<es/\l.base+(a.off-l.lo)+cc*es=l.tot/\n<=cc/\l.n<=a.off+cc*es)))\/
 (∃a',n=0/\(cp=0\/∃es l,cp=dV es/\m a.block=some l/\l.lo<=a.off/\0<es/\l.n<=a.off/\a.spot=none)/\v=.slice (some a') 0 0):=by
 cases h with
 |sc _ h=>simp[Ae.jW,cO]at h
 |slice r off n cp l h hl hk hn=>exact .inl ⟨l,cp,h,hl,rfl,rfl,.inl ⟨hk,rfl,hn⟩⟩
 |pM r off n es cc l h hl he ht hc hN=>exact .inl ⟨l,cc,h,hl,rfl,rfl,.inr ⟨es,rfl,he,ht,hc,hN⟩⟩
 |uk a a'=>exact .inr ⟨a',rfl,.inl rfl,rfl⟩
 |pW r off es a' l h hl he hN=>exact .inr ⟨a',rfl,.inr ⟨es,l,rfl,h,hl,he,hN,rfl⟩,rfl⟩
theorem VR.qE(h:VR m (.slice none n cp) v):n=0/\cp=0/\v=.slice none 0 0:=by
 cases h with
 |sc _ h=>
  simp[Ae.jW,cO]at h;obtain⟨h1,h2⟩:=h;exact⟨h1,h2,by rw[h1,h2]⟩
theorem Lt(m:Mp)(r off k:Nat)(l:Loc)(h:m r=some l)(hl:l.lo<=off):
 VR m (.pointer<|some ⟨r,off+k,none⟩) (.pointer<|some<|(⟨l.c,l.base+(off-l.lo),none⟩:Addr).add k):=by
 have he:(⟨l.c,l.base+(off-l.lo),none⟩:Addr).add k=⟨l.c,l.base+(off+k-l.lo),none⟩:=by
  unfold Addr.add;split
  .next h0=>rw[h0,bn]
  .congr 1;show l.base+(off-l.lo)+k=_;omega
 rw[he];exact .ptr r (off+k) l h aa
theorem LA{i:Value}(h:og P t x i=some v)(hx:VR m x x')(hi:VR m i i'):
 ∃v',VR m v v'/\∀w,(Instr.indexAt t x' i').run P w=.ok v' w:=by
 replace h:=ak h;obtain⟨k,hk,h⟩:=h;obtain⟨kk,rfl⟩:=Bf hk;have:=hi.of_int;subst this;cases hs:Nt P t with
 |some q=>
  rw[hs]at h;obtain⟨hu,⟨inf,qF,hsz⟩,h1⟩:=yF hs;replace h:=ak h;obtain⟨p,hp,h⟩:=h;replace h:=ak h;obtain⟨a,ha,h⟩:=h;replace h:=dh h;obtain⟨hlt,h⟩:=h;cases h;have hlt:=ai hlt;rw[um hp,ha]at hx;rcases hx.of_slice with⟨l,cc,hm,hl,hsp,rfl,_⟩|⟨a',h0,_,_⟩
  .refine⟨_,Lt m a.block a.off (k*q.2) l hm hl,λw=>?_⟩;have h2:k<p.2.1:=hlt;simp[Instr.indexAt,asIntOf,bY hu,gG qF,hsz,h2]
  .omega
 |none=>
  rw[hs]at h;replace h:=ak h;obtain⟨q,hq,h⟩:=h;obtain⟨hu,⟨inf,qF,hsz⟩,h1⟩:=GU hq;replace h:=ak h;obtain⟨a,ha,h⟩:=h;replace h:=dh h;obtain⟨hlt,h⟩:=h;cases h;have hlt:=ai hlt;rw[kW ha]at hx;obtain⟨l,hm,hl,hsp,rfl⟩:=hx.oO;refine⟨_,Lt m a.block a.off (k*q.2.2) l hm hl,λw=>?_⟩;have h2:k<q.1:=hlt;simp[Instr.indexAt,Instr.sureAddr,asIntOf,bY hu,gG qF,hsz,h2]
theorem WG{i:Value}(h:zT P t x i=some v)(hx:VR m x x')(hi:VR m i i'):
 ∃v',VR m v v'/\∀w,(Instr.index t x' i').run P w=.ok v' w:=by
 replace h:=ak h;obtain⟨k,hk,h⟩:=h;obtain⟨kk,rfl⟩:=Bf hk;have:=hi.of_int;subst this;cases hs:Cw P t with
 |true=>
  rw[hs]at h;have hu:=EM hs;replace h:=ak h;obtain⟨s,hp,h⟩:=h;replace h:=ak h;obtain⟨b,hb,h⟩:=h;cases h;rw[kX hp]at hx;have:=hx.qY;subst this;rw[kU]at hb;refine⟨.int .u8 b.toNat,.sc _ rfl,λw=>?_⟩
  have hb':s[k]?=some b:=by
   rw[<-hb];obtain⟨hlt,heq⟩:=aL.1 hb;have hlt':k<s.size:=hlt;rw[getElem?_pos s k hlt'];simp[hb,<-heq];rfl
  simp[Instr.index,asIntOf,bY hu,hb']
 |false=>
  rw[hs]at h;replace h:=ak h;obtain⟨q,hq,h⟩:=h;replace h:=ak h;obtain⟨cs,hcs,h⟩:=h;replace h:=ak h;obtain⟨l,hl,h⟩:=h;replace h:=dh h;obtain⟨hlt,h⟩:=h;obtain⟨hu,⟨inf,qF,hsz⟩,h1⟩:=GU hq;have hlt:=ai hlt;rw[pX hcs]at hx;obtain⟨cs',rfl,hc⟩:=hx.uq;obtain⟨v',hv',hr⟩:=Sl h hl hc;refine⟨v',hv',λw=>?_⟩;have h2:k<q.1:=hlt;have:=hr w;simp only[Nat.mul_eq]at this;simp[Instr.index,asIntOf,bY hu,gG qF,hsz,h2,this]
theorem LB{f:Nat}(h:oh P t x f=some v)(hx:VR m x x'):
 ∃v',VR m v v'/\∀w,(Instr.fieldAt t x' f).run P w=.ok v' w:=by
 obtain⟨a,ha,h⟩:=ak h;obtain⟨q,hq,h⟩:=ak h;cases h;obtain⟨fs,fd,i,hu,hfd,ho,hl,hi,h1⟩:=Ke hq;rw[kW ha]at hx;obtain⟨l,hm,hlo,hsp,rfl⟩:=hx.oO;refine⟨_,Lt m a.block a.off q.1 l hm hlo,λw=>?_⟩;have h2:i.size≠0:=by omega
 simp[Instr.fieldAt,bY hu,hfd,Instr.sureAddr,fieldPlace,gG hi,h2,ho]
theorem WH{f:Nat}(h:zU P t x f=some v)(hx:VR m x x'):
 ∃v',VR m v v'/\∀w,(Instr.field t x' f).run P w=.ok v' w:=by
 obtain⟨cs,ha,h⟩:=ak h;obtain⟨q,hq,h⟩:=ak h;obtain⟨fs,fd,i,hu,hfd,ho,hl,hi,h1⟩:=Ke hq;rw[pX ha]at hx;obtain⟨cs',rfl,hc⟩:=hx.uq;obtain⟨v',hv',hr⟩:=Sl h hl hc;refine⟨v',hv',λw=>?_⟩;have:=hr w;simp[Instr.field,bY hu,hfd,asAgg,ho,this]
end ops
section ops
variable{P:Program}
theorem wK{s:Sem Value}(h:gU s=some v):jW v=true/\∀w,s.run P w=.ok v w:=by
 cases s<;>simp only[gU]at h
 case pure u=>
  obtain⟨h1,h⟩:=dh h;cases h;exact⟨h1,λw=>rfl⟩
 all_goals cases h
theorem xI(b:Bool)(x y:β):aU b x y=if b=true then x else y:=by cases b<;>rfl
theorem Uq(n:Int):fZ .i64 n=IntKind.i64.wrap n:=by
 cases n with
 |ofNat k=>
  have e:fZ .i64 (.ofNat k)=aU (true&&Nat.ble k 9223372036854775807) (.ofNat k) (IntKind.i64.wrap<|.ofNat k):=rfl;rw[e,xI];split
  .next hb=>
   simp only[pQ]at hb;have:=ai hb;exact(IntWalk.i64_in _ (by simp;omega)).symm
  .simp only[]
 |negSucc k=>
  have e:fZ .i64 (.negSucc k)=aU (true&&Nat.ble k 9223372036854775807) (.negSucc k) (IntKind.i64.wrap<|.negSucc k):=rfl;rw[e,xI];split
  .next hb=>
   simp only[pQ]at hb;have:=ai hb;exact(IntWalk.i64_in _ aa).symm
  .simp only[]
theorem DN(k:IntKind)(n:Int):fZ k n=k.wrap n:=by
 cases k
 case i64=>exact Uq n
 all_goals cases n<;>simp[fZ,B_,xI]
theorem Qd(a b:Int):JJ a b=decide (a<b):=by
 rw[bZ];cases a<;>cases b<;>simp[JJ,Nat.ble_eq]<;>omega
theorem Ia(a b:Int):Nv a b=(a==b):=by
 rw[bZ];cases a<;>cases b<;>simp[Nv,gD]<;>omega
theorem Ib(a b:Bool):yu a b=(a==b):=by cases a<;>cases b<;>rfl
theorem Ur:∀(a b:List Nat),Ht a b=(a==b):=by
 intro a
 induction a with
 |nil=>intro b;cases b<;>rfl
 |cons x a ih=>
  intro b;cases b with
  |nil=>rfl
  |cons y b=>
   show aU (Nat.beq x y) (Ht a b) false=_;rw[ih,List.cons_beq_cons,xI]
   by_cases hxy:x=y
   .subst hxy;simp
   .have:Nat.beq x y=false:=by rw[<-aV,gD];exact hxy
    simp[this,hxy]
theorem aaP(a b:List UInt8):(u8L a==u8L b)=(a==b):=by
 rw[bZ];simp only[u8L,DC,jq];constructor
 .intro h;exact(List.map_inj_right λx y h=>lD.1 h).1 h
 .intro h;rw[h]
theorem wL(a b:ByteArray):nT a b=(a.toList==b.toList):=by
 unfold nT;rw[Ur,aaP,ByteArray.toList_eq,ByteArray.toList_eq]
theorem WI(a b:ByteArray):strLt a b=Op.bytesLess a.toList b.toList:=by
 unfold strLt;rw[ByteArray.toList_eq,ByteArray.toList_eq]
theorem aaQ{a b:Int}(h:Uj op k a b=some v):jW v=true/\∀w,(binOp op t (.int k a)<|.int k b).run P w=.ok v w:=by
 have ps:∀(o:BinOp)(s:Sem Value),gU s=some v->binOp o t (.int k a) (.int k b)=s->jW v=true/\∀w,(binOp o t (.int k a)<|.int k b).run P w=.ok v w:=by
  intro o s h1 h2;rw[h2];exact wK h1
 cases op<;>simp only[Uj]at h
 case quo=>exact ps _ _ h (by simp[binOp])
 case rem=>exact ps _ _ h (by simp[binOp])
 case and=>exact ps _ _ h (by simp[binOp])
 case or=>exact ps _ _ h (by simp[binOp])
 case xor=>exact ps _ _ h (by simp[binOp])
 case andNot=>exact ps _ _ h (by simp[binOp])
 case shl=>cases h
 case shr=>cases h
 all_goals
  cases h;refine⟨rfl,λw=>?_⟩;simp[binOp,Op.intArith,Op.intCmp,DN,Qd,Ia]
 case leq=>rw[bZ];simp
 case geq=>rw[bZ];simp
 all_goals rfl
theorem aaR{a b:ByteArray}(h:aaL op a b=some v):jW v=true/\∀w,(binOp op t (.string a)<|.string b).run P w=.ok v w:=by
 cases op<;>simp only[aaL]at h
 case add=>
  simp only[Wq]at h;obtain⟨h1,h⟩:=dh h;cases h;refine⟨rfl,λw=>?_⟩;have h2:=ai h1;simp only[dG]at h2
  have h3:¬(((a.size+b.size:Nat):Int)>IntKind.i64.max):=by
   have e1:a.size=a.data.toList.length:=rfl;have e2:b.size=b.data.toList.length:=rfl;have e3:IntKind.i64.max=9223372036854775807:=by decide
   have h4:a.data.toList.length+b.data.toList.length<=4611686018427387904:=h2;rw[e1,e2,e3];omega
  have h5:a++b=⟨⟨app a.data.toList b.data.toList⟩⟩:=by
   rw[nY];apply pR;simp[ByteArray.data_append]
  simp only[binOp,Op.stringOp];rw[if_neg h3,h5];rfl
 all_goals first
  |cases h;done
  |(cases h
    refine⟨rfl,λw=>?_⟩;simp[binOp,Op.stringOp,wL,WI])
theorem Us(h:P8 op t x y=some v)(hx:VR m x x')(hy:VR m y y'):
 VR m v v/\∀w,(binOp op t x' y').run P w=.ok v w:=by
 obtain⟨h1,h⟩:=dh h;simp only[aG]at h1
 have hsx:jW x=true:=by
  have:=ai h1.1;cases x<;>simp[uf]at this<;>rfl
 have hsy:jW y=true:=by
  have h2:=aB h1.2;have:=ai h1.1;rw[h2]at this;cases y<;>simp[uf]at this<;>rfl
 rw[hx.uL hsx,hy.uL hsy];obtain⟨a,b⟩:=wK (P:=P) h;exact⟨.sc v a,b⟩
theorem xR(hd:P.underlying t=some d)(h:t_ (pV d) x y=some b)(hx:VR m x x')(hy:VR m y y'):
 x'=x/\y'=y/\∀n w,(Op.equalIn (n+1) t x' y').run P w=.ok b w:=by
 cases d<;>simp only[pV]at h
 case int k=>
  have h:(ax (pF x) λa=>ax (pF y) λb=>gd (Nat.beq (mW a.1)<|mW b.1)<|some<|Nv a.2 b.2)=some b:=h;obtain⟨p,hp,h⟩:=ak h;obtain⟨q,hq,h⟩:=ak h;obtain⟨hk,h⟩:=dh h;cases h;have e1:=mH hp;have e2:=mH hq;have hk:=xQ hk;rw[e1]at hx;rw[e2]at hy;have hx:=hx.of_int;have hy:=hy.of_int;refine⟨by rw[hx,e1],by rw[hy,e2],λn w=>?_⟩;rw[hx,hy,hk,run_equalIn_int w n t _ k _ _ hd,Ia]
 case bool=>
  have h:(ax (gF x) λa=>ax (gF y) λb=>some<|yu a b)=some b:=h;obtain⟨p,hp,h⟩:=ak h;obtain⟨q,hq,h⟩:=ak h;cases h;have e1:=lJ hp;have e2:=lJ hq;rw[e1]at hx;rw[e2]at hy;have hx:=hx.of_bool;have hy:=hy.of_bool;refine⟨by rw[hx,e1],by rw[hy,e2],λn w=>?_⟩;rw[hx,hy,run_equalIn_bool' w n t _ _ hd,Ib]
 case string=>
  have h:(ax (pG x) λa=>ax (pG y) λb=>some<|nT a b)=some b:=h;obtain⟨p,hp,h⟩:=ak h;obtain⟨q,hq,h⟩:=ak h;cases h;have e1:=kX hp;have e2:=kX hq;rw[e1]at hx;rw[e2]at hy;have hx:=hx.qY;have hy:=hy.qY;refine⟨by rw[hx,e1],by rw[hy,e2],λn w=>?_⟩;rw[hx,hy,run_equalIn_string w n t _ _ hd,wL]
 all_goals cases h
end ops
section ops
variable{P:Program}
theorem xS(h:1<=pV d):P6 d=false:=by cases d<;>first|rfl|simp[pV]at h
theorem qT{f:Field}{k:Nat}(h:n_ P (f::fs) k=some ks):
 ∃d r,P.underlying f.type=some d/\n_ P fs (k+1)=some r/\f.offset=k/\f.name≠ "_" /\1<=pV d/\ks=pV d::r:=by
 have h:(ax (P.underlying f.type) λd=>ax (n_ P fs<|k+1) λr=>gd (Nat.beq f.offset k&&!(f.name== "_")&&Nat.ble 1 (pV d))<|some<|pV d::r)=some ks:=h;obtain⟨d,hd,h⟩:=ak h;obtain⟨r,hr,h⟩:=ak h;obtain⟨hg,h⟩:=dh h;cases h;simp only[aG,oZ,beq_eq_false_iff_ne]at hg;exact⟨d,r,hd,hr,aB hg.1.1,hg.1.2,ai hg.2,rfl⟩
theorem vO{k:Nat}{xs:List Value}(h:nC (k::ks) xs ys=some b):
 ∃x xr y yr c,xs=x::xr/\ys=y::yr/\t_ k x y=some c/\((c=true/\nC ks xr yr=some b)\/(c=false/\b=false)):=by
 cases xs with
 |nil=>cases h
 |cons x xr=>cases ys with
  |nil=>cases h
  |cons y yr=>
   have h:(ax (t_ k x y) λc=>aU c (nC ks xr yr)<|some false)=some b:=h;obtain⟨c,hc,h⟩:=ak h;cases c
   .cases h;exact⟨x,xr,y,yr,false,rfl,rfl,hc,.inr ⟨rfl,rfl⟩⟩
   .exact⟨x,xr,y,yr,true,rfl,rfl,hc,.inl ⟨rfl,h⟩⟩
theorem v_{off:Nat}(hd:P.underlying t=some d)(ha:P6 d=false)(hv:cs[off]?=some v):
 (part t ⟨cs⟩ off).run P w=.ok v w:=by
 simp[part,uu hd,ha,hv]
theorem ND:∀(fs:List Field)(k:Nat)(ks:List Nat)(xs ys X' Y':List Value)(b:Bool),n_ P fs k=some ks->nC ks xs ys=some b->
 jf m xs (X'.drop k)->jf m ys (Y'.drop k)->∀n w,(Op.eqFields (n+1) ⟨X'⟩ ⟨Y'⟩ fs).run P w=.ok b w:=by
 intro fs
 induction fs with
 |nil=>
  intro k ks xs ys X' Y' b hk hc hx hy n w;cases hk;cases xs with
  |nil=>cases ys with
   |nil=>cases hc;rfl
   |cons _ _=>cases hc
  |cons _ _=>cases hc
 |cons f fs ih=>
  intro k ks xs ys X' Y' b hk hc hx hy n w;obtain⟨d,r,hd,hr,ho,hn,h1,rfl⟩:=qT hk;obtain⟨x,xr,y,yr,c,rfl,rfl,hce,hcase⟩:=vO hc;generalize hX:X'.drop k=X1 at hx;generalize hY:Y'.drop k=Y1 at hy;cases hx with
  |cons _ x' _ xr' hxv CG=>
   cases hy with
   |cons _ y' _ yr' hyv WJ=>
    have gx:X'[k]?=some x':=by
     have:=bW (·[0]?) hX;simpa using this
    have gy:Y'[k]?=some y':=by
     have:=bW (·[0]?) hY;simpa using this
    have dx:X'.drop (k+1)=xr':=by rw[<-iA,hX];rfl
    have dy:Y'.drop (k+1)=yr':=by rw[<-iA,hY];rfl
    obtain⟨ex,ey,he⟩:=xR (t:=f.type) hd hce hxv hyv;have p1:=v_ (w:=w) hd (xS h1) gx;have p2:=v_ (w:=w) hd (xS h1) gy;rw[<-ho]at p1 p2;simp only[Op.eqFields,hn,ne_eq,pz,iq,Sem.run_bind,p1,p2,Result.andThen_ok,he n w,Sem.run_ite,Sem.run_pure];rcases hcase with⟨rfl,hrest⟩|⟨rfl,rfl⟩
    .simp only[tV,bA,g_];exact ih (k+1) r xr yr X' Y' b hr hrest (by rw[dx];exact CG) (by rw[dy];exact WJ) n w
    .simp
theorem WK(x:α)(n:Nat):Ws x n=List.replicate n x:=by
 induction n with
 |zero=>rfl
 |succ n ih=>exact bW (x::·) ih
theorem Qf(hd:P.underlying e=some d)(h1:1<=pV d)(hs:P.cellsOf e=1):∀(c k:Nat)(xs ys X' Y':List Value)(b:Bool),
 nC (List.replicate c<|pV d) xs ys=some b->jf m xs (X'.drop k)->jf m ys (Y'.drop k)->
 ∀n w,(Op.eqItems (n+1) e (P.cellsOf e) ⟨X'⟩ ⟨Y'⟩<|List.range' k c).run P w=.ok b w:=by
 intro c
 induction c with
 |zero=>
  intro k xs ys X' Y' b hc hx hy n w;cases xs with
  |nil=>cases ys with
   |nil=>cases hc;rfl
   |cons _ _=>cases hc
  |cons _ _=>cases hc
 |succ c ih=>
  intro k xs ys X' Y' b hc hx hy n w;obtain⟨x,xr,y,yr,q,rfl,rfl,hce,hcase⟩:=vO hc;generalize hX:X'.drop k=X1 at hx;generalize hY:Y'.drop k=Y1 at hy;cases hx with
  |cons _ x' _ xr' hxv CG=>
   cases hy with
   |cons _ y' _ yr' hyv WJ=>
    have gx:X'[k]?=some x':=by
     have:=bW (·[0]?) hX;simpa using this
    have gy:Y'[k]?=some y':=by
     have:=bW (·[0]?) hY;simpa using this
    have dx:X'.drop (k+1)=xr':=by rw[<-iA,hX];rfl
    have dy:Y'.drop (k+1)=yr':=by rw[<-iA,hY];rfl
    obtain⟨ex,ey,he⟩:=xR (t:=e) hd hce hxv hyv;have p1:=v_ (w:=w) hd (xS h1) gx;have p2:=v_ (w:=w) hd (xS h1) gy;rw[List.range'_succ];simp only[Op.eqItems,Sem.run_bind,hs,bG,p1,p2,Result.andThen_ok,he n w,Sem.run_ite,Sem.run_pure];rcases hcase with⟨rfl,hrest⟩|⟨rfl,rfl⟩
    .simp only[tV,bA,g_];have:=ih (k+1) xr yr X' Y' b hrest (by rw[dx];exact CG) (by rw[dy];exact WJ) n w;rw[hs]at this;exact this
    .simp
theorem Ut{o q:Option α}{r:α}(h:orElse' o q=some r):o=some r\/(o=none/\q=some r):=by
 cases o with
 |none=>exact .inr ⟨rfl,h⟩
 |some x=>exact .inl h
theorem EN(h:tEq P t=some q):
 (∃d,P.underlying t=some d/\q=.inl (pV d)/\1<=pV d)\/
 (∃fs ks,P.underlying t=some (.struct ⟨fs⟩)/\P.stoodInHeld t=false/\n_ P fs 0=some ks/\q=.inr ks)\/
 (∃n e d i,P.underlying t=some (.array n e)/\P.underlying e=some d/\P.info? e=some i/\i.size=1/\1<=pV d/\q=.inr (List.replicate n<|pV d)):=by
 obtain⟨d,hd,h⟩:=ak h;cases hb:Nat.ble 1 (pV d)with
 |true=>rw[hb]at h;cases h;exact .inl ⟨d,hd,rfl,ai hb⟩
 |false=>
  rw[hb]at h;have h:(ax (orElse' (Ny P t)<|ach P t) λl=>some<|Sum.inr l)=some q:=h;obtain⟨l,hl,h⟩:=ak h;cases h;rcases Ut hl with hs|⟨_,ha⟩
  .right;left;have h:=hs;obtain⟨fs,hfs,h⟩:=ak h;obtain⟨hg,h⟩:=dh h;exact⟨fs,l,CF hfs,by simpa using hg,h,rfl⟩
  .right;right;have h:=ha;obtain⟨d',hd',h⟩:=ak h;obtain⟨a,ha',h⟩:=ak h;obtain⟨e,he,h⟩:=ak h;obtain⟨s,hs,h⟩:=ak h;obtain⟨hg,h⟩:=dh h;cases h;obtain⟨i,hi,rfl⟩:=nJ hs;simp only[aG]at hg;exact⟨a.1,a.2,e,i,by rw[hd',Lp ha'],he,hi,aB hg.1,ai hg.2,by rw[WK]⟩
theorem Qg(h:P.info? e=some i):P.cellsOf e=i.size:=by simp[Program.cellsOf,h]
theorem WL(h:nH P t x y=some b)(hx:VR m x x')(hy:VR m y y'):
 ∀n w,(Op.equalIn (n+2) t x' y').run P w=.ok b w:=by
 intro n w;obtain⟨q,hq,h⟩:=ak h;rcases EN hq with⟨d,hd,rfl,h1⟩|⟨fs,ks,hu,hs,hk,rfl⟩|⟨c,e,d,i,hu,he,hi,hsz,h1,rfl⟩
 .have h:t_ (pV d) x y=some b:=h;exact(xR hd h hx hy).2.2 (n+1) w
 .have h:(ax (tq x) λa=>ax (tq y) λb=>nC ks a b)=some b:=h;obtain⟨xs,hxs,h⟩:=ak h;obtain⟨ys,hys,h⟩:=ak h;rw[pX hxs]at hx;rw[pX hys]at hy;obtain⟨xs',rfl,CG⟩:=hx.uq;obtain⟨ys',rfl,WJ⟩:=hy.uq;have hf:P.fieldsOf t=⟨fs⟩:=by simp[Program.fieldsOf,hu]
  rw[run_equalIn_struct w (n+1) t _ _ (by rw[hf];exact hu) hs,hf];exact ND fs 0 ks xs ys xs' ys' b hk h (by simpa using CG) (by simpa using WJ) n w
 .have h:(ax (tq x) λa=>ax (tq y) λb=>nC (List.replicate c<|pV d) a b)=some b:=h;obtain⟨xs,hxs,h⟩:=ak h;obtain⟨ys,hys,h⟩:=ak h;rw[pX hxs]at hx;rw[pX hys]at hy;obtain⟨xs',rfl,CG⟩:=hx.uq;obtain⟨ys',rfl,WJ⟩:=hy.uq;rw[run_equalIn_array w (n+1) _ _ hu hi,List.range_eq_range'];exact Qf he h1 (by rw[Qg hi,hsz]) c 0 xs ys xs' ys' b h (by simpa using CG) (by simpa using WJ) n w
theorem Ic(h:nH P t x y=some b)(hx:VR m x x')(hy:VR m y y')(w:World):
 (Op.equal t x' y').run P w=.ok b w:=by
 have:=WL h hx hy 9998 w;exact this
end ops
section ops
variable{P:Program}
theorem EO(h:1<=pV d):(∃k,d=.int k)\/d=.bool\/d=.string:=by
 cases d<;>first|exact .inl ⟨_,rfl⟩|exact .inr (.inl rfl)|exact .inr (.inr rfl)|simp[pV]at h
theorem Ie(hd:P.underlying t=some d)(h:1<=pV d)(n:Nat):P.eqGuardType (n+1) t=false:=by
 unfold Program.eqGuardType;rw[hd];rcases EO h with⟨k,rfl⟩|rfl|rfl<;>rfl
theorem Uu:∀(fs:List Field)(k:Nat)(ks:List Nat),n_ P fs k=some ks->∀n,fs.any (λf=>f.name != "_" &&P.eqGuardType (n+1) f.type)=false:=by
 intro fs
 induction fs with
 |nil=>intros;rfl
 |cons f fs ih=>
  intro k ks hk n;obtain⟨d,r,hd,hr,ho,hn,h1,rfl⟩:=qT hk;simp only[List.any_cons,ih _ _ hr n,pP,Ie hd h1 n,oP]
theorem aaS(h:tEq P t=some q):P.eqGuardType P.depth t=false:=by
 obtain⟨D,hD⟩:∃D,P.depth=D+2:=⟨_,rfl⟩;rw[hD];rcases EN h with⟨d,hd,rfl,h1⟩|⟨fs,ks,hu,hs,hk,rfl⟩|⟨c,e,d,i,hu,he,hi,hsz,h1,rfl⟩
 .exact Ie hd h1<|D+1
 .unfold Program.eqGuardType;rw[hu];have:=Uu fs 0 ks hk D;simpa using this
 .unfold Program.eqGuardType;rw[hu];exact Ie he h1 D
theorem VR.nZ(h:VR m x x')(h1:1<=(Ae.nZ x).1):Ae.nZ x'=Ae.nZ x:=by
 cases h<;>first|rfl|(simp[Ae.nZ,Ae.top]at h1)
theorem CJ(h:1<=(nZ x).1):
 (∃a,x=.pointer a/\nZ x=(1,a.isNone))\/(∃a l c,x=.slice a l c/\nZ x=(2,a.isNone))\/(∃r,x=.map r/\nZ x=(3,r.isNone))\/
 (∃f y z,x=.func f y z/\nZ x=(4,false))\/(x=.nilFunc/\nZ x=(4,true))\/(∃t v,x=.iface t v/\nZ x=(5,false))\/(x=.nilIface/\nZ x=(5,true)):=by
 cases x<;>simp[nZ]at h|-
 case pointer a=>cases a<;>rfl
 case slice a l c=>cases a<;>rfl
 case map a=>cases a<;>rfl
theorem Qh(h:1<=uR d):(∃e,d=.pointer e/\uR d=1)\/(∃e,d=.slice e/\uR d=2)\/(∃k e,d=.map k e/\uR d=3)\/(∃p r v,d=.func p r v/\uR d=4)\/(∃ms,d=.interface ms/\uR d=5):=by
 cases d<;>simp[uR]at h|-
set_option maxHeartbeats 2000000 in
theorem Uv{k:Nat}(ht:EG P t=k)(h1:1<=k)(hx:nZ x=(k,b))(hy:nZ y=(k,true))(w:World):
 (Op.equal t x y).run P w=.ok b w/\(Op.equal t y x).run P w=.ok b w:=by
 unfold EG at ht;cases hu:P.underlying t with
 |none=>rw[hu]at ht;simp at ht;omega
 |some d=>
  rw[hu]at ht;have ht:uR d=k:=ht;have hx1:1<=(nZ x).1:=by rw[hx];exact h1
  have hy1:1<=(nZ y).1:=by rw[hy];exact h1
  have hd1:1<=uR d:=by omega
  rcases Qh hd1 with⟨e,rfl,hk⟩|⟨e,rfl,hk⟩|⟨kk,e,rfl,hk⟩|⟨p,r,v,rfl,hk⟩|⟨ms,rfl,hk⟩<;>
  rcases CJ hx1 with⟨a,rfl,hxa⟩|⟨a,l,c,rfl,hxa⟩|⟨a,rfl,hxa⟩|⟨f,q,z,rfl,hxa⟩|⟨rfl,hxa⟩|⟨tt,v,rfl,hxa⟩|⟨rfl,hxa⟩<;>
  (rw[hxa]at hx;rw[gz]at hx;obtain⟨hx2,hx3⟩:=hx)<;>try(exfalso;omega)
  all_goals
   rcases CJ hy1 with⟨a',rfl,hya⟩|⟨a',l',c',rfl,hya⟩|⟨a',rfl,hya⟩|⟨f',q',z',rfl,hya⟩|⟨rfl,hya⟩|⟨tt',v',rfl,hya⟩|⟨rfl,hya⟩<;>
   (rw[hya]at hy;rw[gz]at hy;obtain⟨hy2,hy3⟩:=hy)<;>try(exfalso;omega)
  all_goals first|cases hy3;done|skip
  all_goals try(cases a'<;>simp at hy3)
  all_goals try(cases a)
  all_goals
   subst hx3;constructor<;>(refine(?_:∀n,(Op.equalIn (n+1) _ _ _).run P w=_) 9999;intro n;simp only[Op.equalIn,Sem.run_bind,bY hu,Result.andThen_ok,Sem.run_pure];(try rfl))
theorem WN(ht:EH P t=true)(h:ptrEq x y=some b)(hx:VR m x x')(hy:VR m y y')(w:World):
 (Op.equal t x' y').run P w=.ok b w/\(∃a a',x'=.pointer (some a)/\y'=.pointer (some a')):=by
 obtain⟨a,ha,h⟩:=ak h;obtain⟨c,hc,h⟩:=ak h;obtain⟨hg,h⟩:=dh h;cases h;rw[kW ha]at hx;rw[kW hc]at hy;obtain⟨l,hm,hlo,hsp,rfl⟩:=hx.oO;obtain⟨l',hm',afa,aiH,rfl⟩:=hy.oO;have hb:=aB hg;rw[hb,hm']at hm;cases hm
 have hsz:∃e i,P.underlying t=some (.pointer e)/\P.info? e=some i/\1<=i.size:=by
  unfold EH at ht;cases hq:(ax (P.underlying t) λd=>ax (DD d) λe=>ax (rZ P e) λs=>gd (Nat.ble 1 s)<|some ())with
  |none=>rw[hq]at ht;cases ht
  |some u=>
   have h:=hq;obtain⟨d,hd,h⟩:=ak h;obtain⟨e,he,h⟩:=ak h;obtain⟨s,hs,h⟩:=ak h;obtain⟨h1,h⟩:=dh h;obtain⟨i,hi,rfl⟩:=nJ hs;exact⟨e,i,by rw[hd,GR he],hi,ai h1⟩
 obtain⟨e,i,hu,hi,h1⟩:=hsz;refine⟨?_,_,_,rfl,rfl⟩;have hne:i.size≠0:=by omega
 refine(?_:∀n,(Op.equalIn (n+1) _ _ _).run P w=_) 9999;intro n;simp only[Op.equalIn,Sem.run_bind,bY hu,Result.andThen_ok,gG hi,ne_eq,hne,pz,iq,sameAddr,BEq.rfl,Sem.run_ite,Sem.run_pure];congr 1;rw[bZ];simp only[jq,Addr.mk.injEq,pg,true_and];rw[show(Nat.beq a.off c.off=true)=(a.off=c.off)from by simp[gD]];omega
theorem binOp_eql(h:(Op.equal t x y).run P w=.ok b w)(hn:∀k n,x≠.int k n)(hf:∀k n,x≠.float k n)(hc:∀k n q,x≠.complex k n q)(hs:∀s,x≠.string s):
 (binOp .eql t x y).run P w=.ok (.bool b) w/\(binOp .neq t x y).run P w=.ok (.bool<|!b) w:=by
 have e1:binOp .eql t x y=(do pure (.bool (<-Op.equal t x y))):=by
  cases x<;>first|rfl|(exfalso;first|exact hn _ _ rfl|exact hf _ _ rfl|exact hc _ _ _ rfl|exact hs _ rfl)
 have e2:binOp .neq t x y=(do pure (.bool<|!(<-Op.equal t x y))):=by
  cases x<;>first|rfl|(exfalso;first|exact hn _ _ rfl|exact hf _ _ rfl|exact hc _ _ _ rfl|exact hs _ rfl)
 rw[e1,e2];simp[h]
end ops
section ops
variable{P:Program}
theorem uM{o:Operand}(h:pI o=true):∃v,o=.const v/\(nZ v).2=true:=by
 cases o<;>simp[pI]at h;exact⟨_,rfl,h⟩
theorem kY(w:World)(h:pI ox=true\/pI oy=true\/x≠.nilIface\/y≠.nilIface)(h2:(∀c,x≠.agg c)\/(∀c,y≠.agg c)\/P.eqGuardType P.depth t=false):(eqGuard op t ox oy x y).run P w=.ok () w:=by
 by_cases hop:op=.eql\/op=.neq
 .by_cases hagg:∃c c',x=.agg c/\y=.agg c'
  .obtain⟨c,c',rfl,rfl⟩:=hagg;rcases h2 with h2|h2|h2
   .exact absurd rfl<|h2 c
   .exact absurd rfl<|h2 c'
   .exact run_eqGuard_agg w op t ox oy c c' h2
  .by_cases hnil:x=.nilIface/\y=.nilIface
   .obtain⟨rfl,rfl⟩:=hnil
    have hc:(∃v,ox=.const v)\/∃v,oy=.const v:=by
     rcases h with h|h|h|h
     .obtain⟨v,rfl,_⟩:=uM h;exact .inl ⟨_,rfl⟩
     .obtain⟨v,rfl,_⟩:=uM h;exact .inr ⟨_,rfl⟩
     .exact absurd rfl h
     .exact absurd rfl h
    rcases hc with⟨v,rfl⟩|⟨v,rfl⟩
    .rcases hop with rfl|rfl<;>rfl
    .rcases hop with rfl|rfl<;>cases ox<;>rfl
   .rcases hop with rfl|rfl<;>cases x<;>first
     |rfl
     |(cases y<;>first|rfl|(exfalso;exact hagg ⟨_,_,rfl,rfl⟩)|(exfalso;exact hnil ⟨rfl,rfl⟩))
 .cases op<;>first|rfl|(exfalso;exact hop<|.inl rfl)|(exfalso;exact hop<|.inr rfl)
theorem Sm{op:BinOp}{ox oy:Operand}(h:J' (EG P t) c x=some b)(hx:VR m x x')(hc:VR m c c')(hn:(nZ c).2=true)(w:World):
 (Op.equal t x' c').run P w=.ok b w/\(Op.equal t c' x').run P w=.ok b w/\(∀q,x'≠.agg q)/\1<=(nZ x').1/\1<=(nZ c').1:=by
 obtain⟨hg,h⟩:=dh h;cases h;simp only[aG]at hg;have h1:=ai hg.1.1;have h2:=aB hg.1.2;have h3:=aB hg.2;have ex:=hx.nZ aa;have ec:=hc.nZ aa;have NF:nZ x'=(EG P t,(nZ x).2):=by rw[ex,<-h2]
 have hcc:nZ c'=(EG P t,true):=by rw[ec,<-h3,<-hn]
 have:=Uv rfl h1 NF hcc w;refine⟨this.1,this.2,?_,by rw[NF];exact h1,by rw[hcc];exact h1⟩;intro q hq;rw[hq]at NF;simp[nZ]at NF;omega
def Kg(x:Value):Prop:=(∀k n,x≠.int k n)/\(∀k n,x≠.float k n)/\(∀k n q,x≠.complex k n q)/\∀s,x≠.string s
theorem Kh(h:1<=(nZ x).1):Kg x:=by
 refine⟨?_,?_,?_,?_⟩<;>(intros;intro e;rw[e]at h;simp[nZ]at h)
theorem adB(h:aeq P t ox oy x y=some b)(hx:VR m x x')(hy:VR m y y')(hox:∀c,ox=.const c->x=c)(hoy:∀c,oy=.const c->y=c)(hxo:pF x=none/\pG x=none/\uf x=0)(w:World):
 (Op.equal t x' y').run P w=.ok b w/\(eqGuard op t ox oy x' y').run P w=.ok () w/\Kg x':=by
 unfold aeq at h;cases hcy:pI oy with
 |true=>
  rw[hcy]at h;obtain⟨v,hv,hn⟩:=uM hcy;have:=hoy v hv;subst this;obtain⟨h1,h2,h3,h4,h5⟩:=Sm (op:=op) (ox:=ox) (oy:=oy) h hx hy hn w;exact⟨h1,kY w (.inr<|.inl hcy)<|.inl h3,Kh h4⟩
 |false=>
  rw[hcy]at h;cases hcx:pI ox with
  |true=>
   rw[hcx]at h;obtain⟨v,hv,hn⟩:=uM hcx;have:=hox v hv;subst this;obtain⟨h1,h2,h3,h4,h5⟩:=Sm (op:=op) (ox:=ox) (oy:=oy) h hy hx hn w;exact⟨h2,kY w (.inl hcx)<|.inr<|.inl h3,Kh h5⟩
  |false=>
   rw[hcx]at h;cases hp:EH P t with
   |true=>
    rw[hp]at h;obtain⟨h1,a,a',rfl,rfl⟩:=WN hp h hx hy w;exact⟨h1,kY w (.inr<|.inr<|.inl<|by simp)<|.inl<|by simp,by simp[Kg]⟩
   |false=>
    rw[hp]at h;have h:nH P t x y=some b:=h;have h1:=Ic h hx hy w;have hv:=h;obtain⟨q,hq,h⟩:=ak h;have hng:=aaS hq;rcases EN hq with⟨d,hd,rfl,hk⟩|⟨fs,ks,hu,hs,hk,rfl⟩|⟨c,e,d,i,hu,he,hi,hsz,hk,rfl⟩
    .have h:t_ (pV d) x y=some b:=h;obtain⟨ex,ey,_⟩:=xR (t:=t) hd h hx hy;subst ex;subst ey
     have afb:∃z,x'=.bool z:=by
      rcases EO hk with⟨k,rfl⟩|rfl|rfl
      .have h:(ax (pF x') λa=>ax (pF y') λb=>gd (Nat.beq (mW a.1)<|mW b.1)<|some<|Nv a.2 b.2)=some b:=h;rw[hxo.1]at h;cases h
      .have h:(ax (gF x') λa=>ax (gF y') λb=>some<|yu a b)=some b:=h;obtain⟨p,hp,h⟩:=ak h;exact⟨p,lJ hp⟩
      .have h:(ax (pG x') λa=>ax (pG y') λb=>some<|nT a b)=some b:=h;rw[hxo.2.1]at h;cases h
     obtain⟨z,rfl⟩:=afb;exact⟨h1,kY w (.inr<|.inr<|.inl<|by simp)<|.inl<|by simp,by simp[Kg]⟩
    .have h:(ax (tq x) λa=>ax (tq y) λb=>nC ks a b)=some b:=h;obtain⟨xs,hxs,h⟩:=ak h;rw[pX hxs]at hx;obtain⟨xs',rfl,CG⟩:=hx.uq;exact⟨h1,kY w (.inr<|.inr<|.inl<|by simp)<|.inr<|.inr hng,by simp[Kg]⟩
    .have h:(ax (tq x) λa=>ax (tq y) λb=>nC (List.replicate c<|pV d) a b)=some b:=h;obtain⟨xs,hxs,h⟩:=ak h;rw[pX hxs]at hx;obtain⟨xs',rfl,CG⟩:=hx.uq;exact⟨h1,kY w (.inr<|.inr<|.inl<|by simp)<|.inr<|.inr hng,by simp[Kg]⟩
theorem pY(h1:(eqGuard op t ox oy x y).run P w=.ok () w)(h2:(binOp op t x y).run P w=.ok v w):
 (do eqGuard op t ox oy x y;binOp op t x y:Sem Value).run P w=.ok v w:=by
 simp[h1,h2]
theorem adC(h:jb P op t ox oy x y=some v)(hx:VR m x x')(hy:VR m y y')(hox:∀c,ox=.const c->x=c)(hoy:∀c,oy=.const c->y=c):
 VR m v v/\∀w,(do eqGuard op t ox oy x' y';binOp op t x' y':Sem Value).run P w=.ok v w:=by
 unfold jb at h;cases hi:pF x with
 |some a=>
  rw[hi]at h;have hxe:=mH hi;rw[hxe]at hx;have hx:=hx.of_int;have g:∀w,(eqGuard op t ox oy x' y').run P w=.ok () w:=λw=>kY w (.inr<|.inr<|.inl (by rw[hx];simp))<|.inl (by rw[hx];simp);cases hsh:GN op with
  |true=>
   rw[hsh]at h;have h:Wt op t x y=some v:=h;obtain⟨p,hp,h⟩:=ak h;obtain⟨q,hq,h⟩:=ak h;have hye:=mH hq;rw[hye]at hy;have hy:=hy.of_int;obtain⟨hs,hr⟩:=wK (P:=P) h;refine⟨.sc _ hs,λw=>pY (g w) ?_⟩;rw[hx,hy,<-hxe,<-hye];exact hr w
  |false=>
   rw[hsh]at h;have h:(ax (pF y) λb=>gd (Nat.beq (mW a.1)<|mW b.1)<|Uj op a.1 a.2 b.2)=some v:=h;obtain⟨q,hq,h⟩:=ak h;obtain⟨hk,h⟩:=dh h;have hye:=mH hq;rw[hye]at hy;have hy:=hy.of_int;have hk:=xQ hk;obtain⟨hs,hr⟩:=aaQ (P:=P) (t:=t) h;refine⟨.sc _ hs,λw=>pY (g w) ?_⟩;rw[hx,hy,<-hk];exact hr w
 |none=>
  rw[hi]at h;cases hst:pG x with
  |some a=>
   rw[hst]at h;have h:(ax (pG y) λb=>aaL op a b)=some v:=h;obtain⟨b,hb,h⟩:=ak h;have hxe:=kX hst;have hye:=kX hb;rw[hxe]at hx;rw[hye]at hy;have hx:=hx.qY;have hy:=hy.qY;obtain⟨hs,hr⟩:=aaR (P:=P) (t:=t) h;refine⟨.sc _ hs,λw=>pY (kY w (.inr<|.inr<|.inl (by rw[hx];simp))<|.inl (by rw[hx];simp)) ?_⟩;rw[hx,hy];exact hr w
  |none=>
   rw[hst]at h;cases Uw:Nat.ble 1 (uf x)with
   |true=>
    rw[Uw]at h;have h:P8 op t x y=some v:=h;have h0:=h;obtain⟨hv,hr⟩:=Us (P:=P) h hx hy
    have hsx:jW x=true:=by
     have:=ai Uw;cases x<;>simp[uf]at this<;>rfl
    have hx:=hx.uL hsx
    have hne:(x'≠.nilIface)/\∀c,x'≠.agg c:=by
     rw[hx];have:=ai Uw;constructor
     .intro e;rw[e]at this;simp[uf]at this
     .intro c e;rw[e]at this;simp[uf]at this
    exact⟨hv,λw=>pY (kY w (.inr<|.inr<|.inl hne.1)<|.inl hne.2)<|hr w⟩
   |false=>
    rw[Uw]at h;have h:Cc op (aeq P t ox oy x y)=some v:=h
    have hz:uf x=0:=by
     rcases fq (uf x)with h0|h0
     .exact h0
     .rw[av h0]at Uw;cases Uw
    have key:∀b,aeq P t ox oy x y=some b->∀w,(eqGuard op t ox oy x' y').run P w=.ok () w/\(binOp .eql t x' y').run P w=.ok (.bool b) w/\(binOp .neq t x' y').run P w=.ok (.bool<|!b) w:=by
     intro b hb w;obtain⟨h1,h2,h3,h4,h5,h6⟩:=adB (op:=op) hb hx hy hox hoy ⟨hi,hst,hz⟩ w;exact⟨h2,binOp_eql h1 h3 h4 h5 h6⟩
    cases op<;>simp only[Cc,wF]at h
    case eql=>
     have h:(ax (aeq P t ox oy x y) λb=>some<|Value.bool b)=some v:=h;obtain⟨b,hb,h⟩:=ak h;cases h;exact⟨.sc _ rfl,λw=>pY (key b hb w).1 (key b hb w).2.1⟩
    case neq=>
     have h:(ax (aeq P t ox oy x y) λb=>some<|Value.bool<|!b)=some v:=h;obtain⟨b,hb,h⟩:=ak h;cases h;exact⟨.sc _ rfl,λw=>pY (key b hb w).1 (key b hb w).2.2⟩
    all_goals cases h
end ops
section ops
variable{P:Program}
theorem aaT{a b a' b':Value}(h:Hu c a b=some v)(hc:VR m c c')(ha:VR m a a')(hb:VR m b b'):
 ∃v',VR m v v'/\∀w,(do pure (if<-asBool c' then a' else b'):Sem Value).run P w=.ok v' w:=by
 obtain⟨t,ht,h⟩:=ak h;cases h;rw[lJ ht]at hc;have:=hc.of_bool;subst this;cases t
 .exact⟨b',hb,λw=>by simp[asBool]⟩
 .exact⟨a',ha,λw=>by simp[asBool]⟩
theorem aaU{op:UnOp}(h:gU (Op.unary op x)=some v)(hx:VR m x x'):VR m v v/\∀w,(Op.unary op x').run P w=.ok v w:=by
 obtain⟨hs,hr⟩:=wK (P:=P) h
 have:x'=x:=by
  apply hx.uL;cases x<;>first|rfl|(exfalso;cases op<;>simp[Op.unary,gU,stuck]at h;done)|skip
  case pointer a=>cases a<;>first|rfl|(exfalso;cases op<;>simp[Op.unary,gU,stuck,unsupported]at h)
 subst this;exact⟨.sc _ hs,hr⟩
theorem aaV{s d:TypeId}(h:zR P s d x=some v)(hx:VR m x x'):VR m v v/\∀w,(convert s d x').run P w=.ok v w:=by
 replace h:=ak h;obtain⟨ds,hds,h⟩:=h;replace h:=ak h;obtain⟨dd,hdd,h⟩:=h;cases hi:pF x with
 |some a=>
  rw[hi]at h;have hxe:=mH hi;rw[hxe]at hx;have hx:=hx.of_int;subst hx;cases hk:JI dd with
  |some k=>
   replace h:(@Option.rec IntKind (λ_=>Option Value) (aU (zC dd) (some<|.string<|Utf8.encode a.2)<|ax (EC dd) λk=>gU<|Conv.intToFloat k a.2) (λk=>some<|.int k<|fZ k a.2)<|JI dd)=some v:=h;rw[hk]at h;cases h;have:=Sk hk;subst this;exact⟨.sc _ rfl,λw=>by simp[convert,bY hds,bY hdd,Conv.intToInt,DN]⟩
  |none=>
   replace h:(@Option.rec IntKind (λ_=>Option Value) (aU (zC dd) (some<|.string<|Utf8.encode a.2)<|ax (EC dd) λk=>gU<|Conv.intToFloat k a.2) (λk=>some<|.int k<|fZ k a.2)<|JI dd)=some v:=h;rw[hk]at h;cases hs:zC dd with
   |true=>
    rw[hs]at h;cases h;have:=DL hs;subst this;exact⟨.sc _ rfl,λw=>by simp[convert,bY hds,bY hdd,Conv.intToString]⟩
   |false=>
    rw[hs]at h;replace h:(ax (EC dd) λk=>gU<|Conv.intToFloat k a.2)=some v:=h;replace h:=ak h;obtain⟨k,hf,h⟩:=h;have:=Uo hf;subst this;obtain⟨hs,hr⟩:=wK (P:=P) h;exact⟨.sc _ hs,λw=>by simp[convert,bY hds,bY hdd,hr]⟩
 |none=>
  rw[hi]at h;replace h:(ax (pG x) λb=>gd (zC dd)<|some<|.string b)=some v:=h;replace h:=ak h;obtain⟨b,hb,h⟩:=h;replace h:=dh h;obtain⟨hg,h⟩:=h;cases h;rw[kX hb]at hx;have hx:=hx.qY;subst hx;have:=DL hg;subst this;refine⟨.sc _ rfl,λw=>?_⟩;cases ds<;>simp[convert,bY hds,bY hdd]
theorem adD(h:P_ P t x=some v)(hx:VR m x x'):∃v',VR m v v'/\∀w,(Instr.makeInterface t x').run P w=.ok v' w:=by
 obtain⟨d,hd,h⟩:=ak h;obtain⟨hg,h⟩:=dh h;cases h;refine⟨.iface t x',.iface t _ _ hx,λw=>?_⟩;cases d<;>simp[Instr.makeInterface,bY hd]<;>simp[Wp]at hg
theorem Qi{i:Nat}(h:qD x i=some v)(hx:VR m x x'):∃v',VR m v v'/\∀w,(Instr.extract x' i).run P w=.ok v' w:=by
 obtain⟨l,hl,h⟩:=ak h;rw[aaM hl]at hx;obtain⟨l',rfl,hr⟩:=hx.Lm;rw[kU]at h;obtain⟨v',hv',hvr⟩:=hr.get i h;exact⟨v',hvr,λw=>by simp[Instr.extract,hv']⟩
theorem NG(h:Ld x=some v)(hx:VR m x x')(ρ:Operand->Value)(o:Oper)(xo:Operand)(ho:o.op=.nilCheck xo)(hρ:ρ xo=x'):
 VR m v x'/\∀w,(execOp ρ o).run P w=.ok (.value x') w:=by
 unfold Ld at h;cases hp:mF x with
 |some a=>
  rw[hp]at h;cases h;refine⟨hx,λw=>?_⟩;rw[kW hp]at hx;obtain⟨l,hm,hlo,hsp,rfl⟩:=hx.oO;simp[execOp,ho,hρ]
 |none=>
  rw[hp]at h;replace h:(ax (Wm x) λf=>ax (fFn f.1) λ_=>some x)=some v:=h;obtain⟨f,hf,h⟩:=ak h;obtain⟨g,hg,h⟩:=ak h;cases h;refine⟨hx,λw=>?_⟩;rw[Lj hf,Ll hg]at hx;obtain⟨x1,y1,rfl,_,_⟩:=hx.WC;simp[execOp,ho,hρ]
theorem adE(h:mm2 b x y=some v)(hx:VR m x x')(hy:VR m y y'):
 VR m v v/\∀w,((if b then Builtin.max2 x' y' else Builtin.min2 x' y').run P w=.ok v w):=by
 obtain⟨p,hp,h⟩:=ak h;obtain⟨q,hq,h⟩:=ak h;obtain⟨hg,h⟩:=dh h;cases h;have e1:=mH hp;have e2:=mH hq;rw[e1]at hx;rw[e2]at hy;have hx:=hx.of_int;have hy:=hy.of_int;have hk:=xQ hg;subst hx;subst hy;cases b
 .have e:aU (aU false (JJ p.2 q.2)<|JJ q.2 p.2) y x=if q.2<p.2 then y else x:=by
   show aU (JJ q.2 p.2) y x=_;rw[xI,Qd];simp
  rw[e];split
  .next hlt=>rw[e2];exact⟨.sc _ rfl,λw=>by simp[Builtin.min2,hlt,hk]⟩
  .next hlt=>rw[e1];exact⟨.sc _ rfl,λw=>by simp[Builtin.min2,hlt]⟩
 .have e:aU (aU true (JJ p.2 q.2)<|JJ q.2 p.2) y x=if p.2<q.2 then y else x:=by
   show aU (JJ p.2 q.2) y x=_;rw[xI,Qd];simp
  rw[e];split
  .next hlt=>rw[e2];exact⟨.sc _ rfl,λw=>by simp[Builtin.max2,hlt,hk]⟩
  .next hlt=>rw[e1];exact⟨.sc _ rfl,λw=>by simp[Builtin.max2,hlt]⟩
theorem adF:∀{l l':List Value}{x v x':Value},mmL b l x=some v->VR m x x'->jf m l l'->
 ∃v',VR m v v'/\∀w,((l'.foldlM (if b then Builtin.max2 else Builtin.min2) x':Sem Value).run P w=.ok v' w):=by
 intro l
 induction l with
 |nil=>
  intro l' x v x' h hx hl;cases hl;cases h;exact⟨x',hx,λw=>by simp⟩
 |cons y l ih=>
  intro l' x v x' h hx hl;cases hl with
  |cons _ y' _ r' hy hr=>
   replace h:ax (mm2 b x y) (mmL b l)=some v:=h;obtain⟨z,hz,h⟩:=ak h;obtain⟨hzz,hrun⟩:=adE (P:=P) hz hx hy;obtain⟨v',hv,hrest⟩:=ih h hzz hr;refine⟨v',hv,λw=>?_⟩;have h1:=hrun w;cases b<;>simp at h1 hrest|-<;>simp[h1,hrest]
theorem WO{ats:Array TypeId}(h:V4 b args=some v)(ha:jf m args args'):
 ∃v',VR m v v'/\∀w,((if b then Builtin.max_ ats t ⟨args'⟩else Builtin.min_ ats t ⟨args'⟩).run P w=.ok v' w):=by
 cases ha with
 |nil=>cases h
 |cons x x' l l' hx hl=>
  replace h:mmL b l x=some v:=h;obtain⟨v',hv,hr⟩:=adF (P:=P) h hx hl;refine⟨v',hv,λw=>?_⟩;have:=hr w;cases b<;>simpa [Builtin.max_,Builtin.min_]using this
theorem adG{f:TypeId->Value->Option Value}(h:one f ats args=some v):∃t x,ats[0]?=some t/\args[0]?=some x/\f t x=some v:=by
 obtain⟨t,ht,h⟩:=ak h;obtain⟨x,hx,h⟩:=ak h;exact⟨t,x,by rw[<-kU];exact ht,by rw[<-kU];exact hx,h⟩
theorem aaW(h:one (Hw P) ats args=some v)(ha:jf m args args'):
 VR m v v/\∀w,(Builtin.len_ ⟨ats⟩ t ⟨args'⟩).run P w=.ok v w:=by
 obtain⟨t,x,ht,hx,h⟩:=adG h;obtain⟨x',hx',CG⟩:=ha.get 0 hx;obtain⟨d,hd,h⟩:=ak h;cases h1:zC d with
 |true=>
  rw[h1]at h;have:=DL h1;subst this;replace h:(ax (pG x) λs=>some<|Value.int .i64<|.ofNat<|len s.data.toList)=some v:=h;obtain⟨s,hs,h⟩:=ak h;cases h;rw[kX hs]at CG;have:=CG.qY;subst this;refine⟨.sc _ rfl,λw=>?_⟩;simp[Builtin.len_,ht,hx',bY hd,goInt,dG]
 |false=>
  rw[h1]at h
  have h:(aU (Nat.beq (uR d) 2) (ax (Gn x) λp=>some<|.int .i64<|.ofNat p.2.1)
   (aU (Nat.beq (uR d) 3) (ax (JH x) λr=>gd (cO r)<|some<|.int .i64 0)
    (ax (Ns d) λa=>some<|.int .i64<|.ofNat a.1)))=some v:=h
  cases h2:Nat.beq (uR d) 2 with
  |true=>
   rw[h2]at h;replace h:(ax (Gn x) λp=>some<|Value.int .i64<|.ofNat p.2.1)=some v:=h;obtain⟨p,hp,h⟩:=ak h;cases h;have e2:=aB h2;have hdd:∃e,d=.slice e:=by cases d<;>simp[uR]at e2;exact⟨_,rfl⟩
   obtain⟨e,rfl⟩:=hdd;rw[um hp]at CG;refine⟨.sc _ rfl,λw=>?_⟩;cases hpa:p.1 with
   |none=>
    rw[hpa]at CG;obtain⟨e1,e2,rfl⟩:=CG.qE;simp[Builtin.len_,ht,hx',bY hd,goInt,e1]
   |some a=>
    rw[hpa]at CG;rcases CG.of_slice with⟨l,cc,_,_,_,rfl,_⟩|⟨a',e1,_,rfl⟩
    .simp[Builtin.len_,ht,hx',bY hd,goInt]
    .simp[Builtin.len_,ht,hx',bY hd,goInt,e1]
  |false=>
   rw[h2]at h
   have h:(aU (Nat.beq (uR d) 3) (ax (JH x) λr=>gd (cO r)<|some<|.int .i64 0)
    (ax (Ns d) λa=>some<|.int .i64<|.ofNat a.1))=some v:=h
   cases h3:Nat.beq (uR d) 3 with
   |true=>
    rw[h3]at h;replace h:(ax (JH x) λr=>gd (cO r)<|some<|Value.int .i64 0)=some v:=h;obtain⟨r,hr,h⟩:=ak h;obtain⟨hg,h⟩:=dh h;cases h;have e3:=aB h3;have hdd:∃k e,d=.map k e:=by cases d<;>simp[uR]at e3;exact⟨_,_,rfl⟩
    obtain⟨k,e,rfl⟩:=hdd;cases r with
    |some _=>cases hg
    |none=>
     rw[Bg hr]at CG;have:=CG.uL rfl;subst this;exact⟨.sc _ rfl,λw=>by simp[Builtin.len_,ht,hx',bY hd,goInt]⟩
   |false=>
    rw[h3]at h;replace h:(ax (Ns d) λa=>some<|Value.int .i64<|.ofNat a.1)=some v:=h;obtain⟨a,ha',h⟩:=ak h;cases h;have:=Lp ha';subst this;exact⟨.sc _ rfl,λw=>by simp[Builtin.len_,ht,hx',bY hd,goInt]⟩
end ops
end Go.Ae
