/-
  Part 01 of the proof. No condition.
-/
import Derived.Test.YtpngmpbmokhmiaaGreatDoorRows
import Derived.Test.YtpngmpbmokhmiaaGreatDoorProg
import Derived.Below
import Derived.RowKit3
import Derived.Lib.Bytealg
import Derived.Calls
import Derived.Control
import Derived.Orders
import Derived.Scope
import Derived.Laws.Externs
import Derived.Laws.Tables
import Derived.Lib.UnsafeStr
import Derived.Lib.ConvBytes
import Derived.Laws.BytesString
import Derived.Laws.IdiomStrings
import Derived.Laws.Sem
import Derived.Laws.Cells
import Derived.Laws.World
import Derived.Laws.StructEq
import Derived.IntWalk
import Derived.Laws.Strings
import Derived.ChangeKeysEq
import Derived.Sort.AssemblyPlain
import Derived.Sort.Grow
import Derived.ProofKit
import Derived.OpenShut
import Derived.Carry
import Derived.Deep.Slices
import Derived.Deep.Fields
import Derived.ChangeSame
import Derived.LaidMore
import Derived.Lay
import Derived.JoinedOf
import Derived.SevenTiedAt
import Derived.Stop.Joined
set_option linter.unusedVariables false
set_option linter.unusedSimpArgs false
set_option maxRecDepth 100000
set_option maxHeartbeats 4000000
set_option linter.defProp false
open Option renaming some->Z,none->W,rec->aN
open Bool renaming true->f,false->aA,rec->gq
open Go renaming Value->D,TypeId->aG,Program->aS,World->bW,Operand->bO,IntKind->fu,TypeDesc->eZ,BinOp->qQ
open Go.Value renaming int->bV,bool->gF
open Nat renaming rec->jq,beq->ay,succ->bU,ble->aB,add->aV,mul->bL,sub->dA
open List renaming rec->b_,replicate->aU
open Go.TypeDesc renaming rec->jC
open UInt8 renaming ofNat->jb
open Go.Region renaming binds->fM
open Go.Sem renaming run_bind->cB,run_pure->dF
open Go.Result renaming andThen_ok->bN
open Go.Instr renaming sureAddr->jv
open Go.ByteArray renaming toList_eq->h_
open Go.Builtin renaming len_->j_
def O := @rfl
noncomputable section
def rR:=@Array.ext_getElem?
def gG:=@Array.getD_eq_getD_getElem?
def qR:=@Array.getElem?_append_left
def bq:=@Array.getElem?_eq_getElem
def dR:=@Array.getElem?_eq_some_iff
def um:=@Array.getElem?_mapIdx
def iM:=@Array.getElem?_modify
def n_:=@Array.getElem?_push
def jM:=@Array.getElem?_setIfInBounds_ne
def eB:=@Array.getElem?_toList
def og:=@Array.length_toList
def iW:=@Array.toList_inj
def aZ:=@Bool.and_eq_true
def rY:=@Bool.and_false
def f_:=@Bool.eq_iff_iff
def dh:=@Bool.false_eq_true
def qF:=@Bool.false_or
def bY:=@Bool.not_eq_true
def sF:=@Bool.not_eq_true'
def vG:=@Bool.not_false
def wG:=@Bool.not_true
def jN:=@Bool.or_eq_true
def mP:=@Bool.or_false
def qG:=@Bool.true_and
def pG:=@ByteArray.data_extract
def sZ:=@ByteArray.ext
def fJ:=@Classical.byContradiction
def mW:=@Classical.choose_spec
def rG:=@Decidable.byContradiction
def qT:=@Int.fdiv_eq_ediv_of_nonneg
def kr:=@Int.le_refl
def uJ:=@Int.le_trans
def jX:=@Int.natCast_nonneg
def lJ:=@Int.toNat_natCast
def gB:=@List.Perm.append_left
def pI:=@List.Perm.append_right
def pN:=@List.Perm.refl
def rZ:=@List.Perm.symm
def wH:=@List.all_cons
def eD:=@List.all_eq_true
def bP:=@List.append_assoc
def tO:=@List.append_eq_nil_iff
def a_:=@List.append_nil
def uq:=@List.concat_eq_append
def jA:=@List.cons.inj
def bE:=@List.cons_append
def uS:=@List.count_cons
def mE:=@List.dropLast_concat_getLast
def tX:=@List.drop_append
def pO:=@List.drop_append_of_le_length
def pP:=@List.drop_drop
def dN:=@List.drop_eq_getElem_cons
def mH:=@List.drop_of_length_le
def jc:=@List.drop_zero
def gK:=@List.eq_nil_of_length_eq_zero
def uu:=@List.eq_nil_or_concat
def oh:=@List.eq_of_mem_replicate
def qA:=@List.ext_getElem
def gX:=@List.ext_getElem?
def rT:=@List.filter_append
def nQ:=@List.filter_cons
def ni:=@List.flatMap_cons
def iN:=@List.foldl_append
def mQ:=@List.foldl_cons
def bC:=@List.getD_eq_getElem?_getD
def pJ:=@List.getElem!_toArray
def qH:=@List.getElem?_append
def bJ:=@List.getElem?_append_left
def dS:=@List.getElem?_append_right
def dX:=@List.getElem?_cons_succ
def sG:=@List.getElem?_cons_zero
def oZ:=@List.getElem?_drop
def au:=@List.getElem?_eq_getElem
def fC:=@List.getElem?_eq_none
def bA:=@List.getElem?_eq_some_iff
def bD:=@List.getElem?_map
def ku:=@List.getElem?_replicate
def dB:=@List.getElem?_set
def tQ:=@List.getElem?_set_self
def iU:=@List.getElem?_take
def uw:=@List.getElem?_toArray
def iI:=@List.getElem_append_left
def mq:=@List.getElem_map
def bB:=@List.getElem_mem
def iJ:=@List.getElem_of_mem
def uy:=@List.getElem_set_self
def aQ:=@List.length_append
def cr:=@List.length_cons
def tY:=@List.length_drop
def dK:=@List.length_eq_zero_iff
def mX:=@List.length_filter_le
def aM:=@List.length_map
def uT:=@List.length_nil
def pQ:=@List.length_range
def ji:=@List.length_replicate
def bF:=@List.length_set
def eH:=@List.length_take
def vH:=@List.mapM_cons
def dG:=@List.map_append
def iA:=@List.map_cons
def xN:=@List.map_map
def jy:=@List.map_nil
def jY:=@List.map_replicate
def fV:=@List.map_set
def wI:=@List.map_take
def tZ:=@List.map_toArray
def bX:=@List.mem_append
def cZ:=@List.mem_append_left
def cO:=@List.mem_append_right
def bM:=@List.mem_cons
def bH:=@List.mem_cons_of_mem
def aL:=@List.mem_cons_self
def uU:=@List.mem_filter
def qB:=@List.mem_flatMap
def kg:=@List.mem_iff_getElem
def bQ:=@List.mem_map
def dW:=@List.mem_nil_iff
def aR:=@List.mem_of_getElem?
def ko:=@List.mem_of_mem_drop
def eP:=@List.mem_of_mem_take
def gY:=@List.mem_or_eq_of_mem_set
def lZ:=@List.mem_range
def aO:=@List.mem_singleton
def bK:=@List.nil_append
def ny:=@List.nodup_append
def jk:=@List.nodup_cons
def jZ:=@List.nodup_nil
def lK:=@List.pairwise_append
def jS:=@List.pairwise_iff_getElem
def iQ:=@List.pairwise_singleton
def aF:=@List.perm_append_comm
def iX:=@List.perm_middle
def lM:=@List.set_append_left
def p9:=@List.set_append_right
def jo:=@List.set_cons_succ
def o7:=@List.set_cons_zero
def p_:=@List.set_getElem_self
def dZ:=@List.sublist_append_left
def lF:=@List.sum_append
def tq:=@List.sum_cons
def eO:=@List.take_add_one
def iO:=@List.take_append_drop
def pR:=@List.take_append_of_le_length
def pU:=@List.take_left
def qC:=@List.take_length
def cK:=@List.take_of_length_le
def jO:=@List.take_succ_cons
def j3:=@List.take_zero
def gM:=@Nat.add_mul
def kW:=@Nat.add_sub_cancel
def iR:=@Nat.add_sub_cancel_left
def dD:=@Nat.add_zero
def jG:=@Nat.beq_eq
def dw:=@Nat.beq_refl
def aH:=@Nat.ble_eq_true_of_le
def t_:=@Nat.div_eq_of_lt
def aT:=@Nat.eq_of_beq_eq_true
def gH:=@Nat.eq_zero_or_pos
def sH:=@Nat.exists_eq_add_of_le
def nR:=@Nat.le_add_right
def mR:=@Nat.le_max_left
def jW:=@Nat.le_max_right
def aD:=@Nat.le_of_ble_eq_true
def rH:=@Nat.le_of_eq
def qU:=@Nat.le_of_mul_le_mul_right
def qD:=@Nat.le_of_not_lt
def az:=@Nat.le_refl
def iG:=@Nat.le_succ
def pV:=@Nat.le_succ_of_le
def aX:=@Nat.le_trans
def qI:=@Nat.lt_irrefl
def aP:=@Nat.lt_of_lt_of_le
def tT:=@Nat.lt_of_succ_lt_succ
def bZ:=@Nat.lt_or_ge
def dI:=@Nat.lt_succ_self
def kC:=@Nat.lt_trichotomy
def uV:=@Nat.max_eq_left
def iT:=@Nat.min_eq_left
def uf:=@Nat.min_eq_right
def ug:=@Nat.mod_eq_of_lt
def oC:=@Nat.mod_lt
def uK:=@Nat.mul_comm
def gN:=@Nat.mul_le_mul
def fP:=@Nat.mul_le_mul_left
def eU:=@Nat.mul_le_mul_right
def dz:=@Nat.mul_one
def qJ:=@Nat.mul_pos
def dP:=@Nat.not_le_of_lt
def eF:=@Nat.not_lt_of_le
def jP:=@Nat.not_lt_zero
def qK:=@Nat.pow_le_pow_right
def qL:=@Nat.pow_lt_pow_right
def rJ:=@Nat.shiftRight_eq_div_pow
def ja:=@Nat.sub_self
def jT:=@Nat.sub_zero
def my:=@Nat.succ_le_succ
def kJ:=@Nat.succ_mul
def xO:=@Nat.succ_pos
def oD:=@Nat.testBit_eq_decide_div_mod_eq
def aW:=@Nat.zero_add
def bg:=@Nat.zero_le
def iP:=@Nat.zero_mul
def oJ:=@Ne.symm
def nS:=@Option.getD_some
def dH:=@Option.some.inj
def sI:=@Option.some.injEq
def xP:=@Prod.ext_iff
def xw:=@and_true
def kX:=@beq_iff_eq
def xh:=@cond_false
def yg:=@cond_true
def dV:=@congrArg
def dn:=@decide_eq_false
def bG:=@decide_eq_true
def uL:=@getElem!_pos
def kD:=@if_false
def kE:=@if_true
def pW:=@not_false_eq_true
def sJ:=@not_true_eq_false
def mJ:=@of_decide_eq_false
def fE:=@of_decide_eq_true
def iD:=@or_false
namespace Go.Ae
variable{e t:aG}{c c' i' v v' x x' hc y' z:D}{b:Bool}{d:eZ}{α β:Type}{op:qQ}{i:TypeInfo}{q:Sum Nat (List Nat)}{args args' E ys zs:List D}{fs:List Field}{cp av k n:Nat}{l:Option Nat}{ks:List Nat}{ats:List aG}{ox oy:bO}{a:Addr}{w:bW}
def N{p:Prop}(h:p:=by omega):p:=h
def oK{a:Bool}(x:a=f)(hc:b=f):(a&&b)=f:=by rw[x,hc];rfl
inductive Tr(α:Type)where
 |nil
 |node(l:Tr α)(v:α)(r:Tr α)
namespace Tr
variable{α:Type}
def get(d:α)(t:Tr α):Nat->α:=
 @Tr.rec α (λ_=>Nat->α) (λ_=>d)
  (λ_ v _ gl gr k=>@jq (λ_=>α) v (λk _=>@gq (λ_=>α) (gr<|Nat.div k 2) (gl<|Nat.div k 2)<|ay (Nat.mod k 2) 0) k) t
def O0(d:α)(x:α):Nat->Tr α->Nat->Tr α:=
 @jq (λ_=>Tr α->Nat->Tr α) (λt _=>t) (λ_ ih t k=>
  @jq (λ_=>Tr α) (@Tr.rec α (λ_=>Tr α) (.node .nil x .nil) (λl _ r _ _=>.node l x r) t)
   (λk _=>@Tr.rec α (λ_=>Tr α)
    (@gq (λ_=>Tr α) (.node .nil d<|ih .nil<|Nat.div k 2) (.node (ih .nil<|Nat.div k 2) d .nil)<|ay (Nat.mod k 2) 0)
    (λl v r _ _=>@gq (λ_=>Tr α) (.node l v<|ih r<|Nat.div k 2) (.node (ih l<|Nat.div k 2) v r)<|ay (Nat.mod k 2) 0) t) k)
def set(d:α)(t:Tr α)(k:Nat)(x:α):Tr α:=O0 d x (bU k) t k
def get_nil(d:α)(k:Nat):(Tr.nil:Tr α).get d k=d:=by cases k<;>rfl
def EP(d:α)(l:Tr α)(v:α)(r:Tr α):(Tr.node l v r).get d 0=v:=rfl
def yG(d:α)(l:Tr α)(v:α)(r:Tr α)(k:Nat):(Tr.node l v r).get d (k+1)=bif ay (k %2) 0 then l.get d (k/2)else r.get d (k/2):=by
 show @gq (λ_=>α) (r.get d<|k/2) (l.get d<|k/2) (ay (k %2) 0)=_;cases ay (k %2) 0<;>rfl
def ac4(k:Nat):ay (k %2) 0=decide (k %2=0):=by
 rw[f_];simp[jG]
def YL(d:α)(av k:Nat)(x:α):O0 d x (av+1) .nil (k+1)=bif ay (k %2) 0 then .node (O0 d x av .nil<|k/2) d .nil else .node .nil d (O0 d x av .nil<|k/2):=by
 show @gq (λ_=>Tr α) _ _ (ay (k %2) 0)=_;cases ay (k %2) 0<;>rfl
def Wj(d:α)(av k:Nat)(x:α)(l:Tr α)(v:α)(r:Tr α):O0 d x (av+1) (.node l v r) (k+1)=bif ay (k %2) 0 then .node (O0 d x av l<|k/2) v r else .node l v (O0 d x av r<|k/2):=by
 show @gq (λ_=>Tr α) _ _ (ay (k %2) 0)=_;cases ay (k %2) 0<;>rfl
def YM(d:α)(av:Nat):∀(t:Tr α)(k:Nat)(x:α)(j:Nat),k<av->
 (O0 d x av t k).get d j=if j=k then x else t.get d j:=by
 induction av with
 |zero=>intro t k x j h;omega
 |succ av ih=>
  intro t k x j h;cases k with
  |zero=>
   cases t with
   |nil=>
    show(Tr.node .nil x .nil).get d j=_;cases j with
    |zero=>simp[EP]
    |succ j=>rw[yG,get_nil,if_neg N,get_nil];cases ay (j %2) 0<;>rfl
   |node l v r=>
    show(Tr.node l x r).get d j=_;cases j with
    |zero=>simp[EP]
    |succ j=>rw[yG,yG,if_neg N]
  |succ k=>
   have hk:k/2<av:=by omega
   cases t with
   |nil=>
    rw[YL];cases j with
    |zero=>cases hb:ay (k %2) 0<;>simp[EP,get_nil]
    |succ j=>
     by_cases hjk:j=k
     .subst hjk;cases hb:ay (j %2) 0<;>simp only[yg,xh,yG,hb,ih _ _ _ _ hk,kE]
     .rw[if_neg N];cases hb:ay (k %2) 0<;>cases y:ay (j %2) 0<;>simp only[yg,xh,yG,y,get_nil]
      .rw[ih _ _ _ _ hk,if_neg,get_nil];rw[ac4]at hb y;simp at hb y;omega
      .rw[ih _ _ _ _ hk,if_neg,get_nil];rw[ac4]at hb y;simp at hb y;omega
   |node l v r=>
    rw[Wj];cases j with
    |zero=>cases hb:ay (k %2) 0<;>simp[EP]
    |succ j=>
     by_cases hjk:j=k
     .subst hjk;cases hb:ay (j %2) 0<;>simp only[yg,xh,yG,hb,ih _ _ _ _ hk,kE]
     .rw[if_neg N];cases hb:ay (k %2) 0<;>cases y:ay (j %2) 0<;>simp only[yg,xh,yG,y]
      .rw[ih _ _ _ _ hk,if_neg];rw[ac4]at hb y;simp at hb y;omega
      .rw[ih _ _ _ _ hk,if_neg];rw[ac4]at hb y;simp at hb y;omega
def uM(d:α)(t:Tr α)(k:Nat)(x:α)(j:Nat):(t.set d k x).get d j=if j=k then x else t.get d j:=
 YM d (k+1) t k x j N
def sD(d:α)(l:List α):Nat->Tr α->Tr α:=
 @b_ α (λ_=>Nat->Tr α->Tr α) (λ_ t=>t) (λx _ ih k t=>ih (bU k)<|t.set d k x) l
def ac5(d:α)(k:Nat)(t:Tr α):sD d [] k t=t:=rfl
def YN(d:α)(x:α)(l:List α)(k:Nat)(t:Tr α):sD d (x::l) k t=sD d l (k+1) (t.set d k x):=rfl
def lV(d:α):∀(l:List α)(k:Nat)(t:Tr α)(j:Nat),
 (sD d l k t).get d j=if k<=j/\j<k+l.length then l.getD (j-k) d else t.get d j:=by
 intro l
 induction l with
 |nil=>intro k t j;simp[ac5];intro Q I;omega
 |cons x l ih=>
  intro k t j;simp only[YN,ih,uM,cr]
  by_cases h:k+1<=j/\j<k+1+l.length
  .rw[if_pos h,if_pos N,show j-k=(j-(k+1))+1 from by omega];rfl
  .rw[if_neg h]
   by_cases hj:j=k
   .subst hj;simp
   .rw[if_neg hj,if_neg N]
def DX(d:α)(t:Tr α)(k n:Nat):List α:=
 @jq (λ_=>Nat->List α) (λ_=>[]) (λ_ ih k=>t.get d k::ih (bU k)) n k
def B6(d:α)(t:Tr α)(k:Nat):DX d t k 0=[]:=rfl
def xx(d:α)(t:Tr α)(k n:Nat):DX d t k (n+1)=t.get d k::DX d t (k+1) n:=rfl
end Tr
def aK{α β:Type}(o:Option α)(k:α->Option β):Option β:=
 @aN α (λ_=>(α->Option β)->Option β) (λ_=>W) (λx k=>k x) o k
def Jo(x:α)(k:α->Option β):aK (Z x) k=k x:=rfl
def aI{o:Option α}{k:α->Option β}{r:β}(h:aK o k=Z r):∃x,o=Z x/\k x=Z r:=by
 cases o with
 |none=>cases h
 |some x=>exact⟨x,O,h⟩
def gd{β:Type}(b:Bool)(o:Option β):Option β:=
 @gq (λ_=>Option β->Option β) (λ_=>W) (λo=>o) b o
def fH{o:Option β}{r:β}(h:gd b o=Z r):b=f/\o=Z r:=by
 cases b with
 |false=>cases h
 |true=>exact⟨O,h⟩
def zu(o:Option β):gd f o=o:=rfl
def bR{β:Type}(b:Bool)(x hc:β):β:=@gq (λ_=>β->β->β) (λ_ hc=>hc) (λx _=>x) b x hc
def nT(x hc:β):bR f x hc=x:=rfl
def jL(x hc:β):bR aA x hc=hc:=rfl
def nth{α:Type}(l:List α):Nat->Option α:=
 @b_ α (λ_=>Nat->Option α) (λ_=>W) (λx _ ih k=>@jq (λ_=>Option α) (Z x) (λk _=>ih k) k) l
def om(l:List α):∀k,nth l k=l[k]?:=by
 induction l with
 |nil=>intro k;cases k<;>rfl
 |cons x l ih=>intro k;cases k with
  |zero=>rfl
  |succ k=>exact(ih k).trans (by simp)
def len{α:Type}(l:List α):Nat:=@b_ α (λ_=>Nat) 0 (λ_ _ n=>bU n) l
def fQ(l:List α):len l=l.length:=by
 induction l with
 |nil=>rfl
 |cons x l ih=>exact dV bU ih
def mp{α β:Type}(av:α->β)(l:List α):List β:=@b_ α (λ_=>List β) [] (λx _ r=>av x::r) l
def ER(av:α->β)(l:List α):mp av l=l.map av:=by
 induction l with
 |nil=>rfl
 |cons x l ih=>exact dV (av x::·) ih
def app{α:Type}(a b:List α):List α:=@b_ α (λ_=>List α) b (λx _ r=>x::r) a
def qd(a b:List α):app a b=a++b:=by
 induction a with
 |nil=>rfl
 |cons x l ih=>exact dV (x::·) ih
def all'{α:Type}(av:α->Bool)(l:List α):Bool:=@b_ α (λ_=>Bool) f (λx _ r=>bR (av x) r aA) l
def all_eq(av:α->Bool)(l:List α):all' av l=l.all av:=by
 induction l with
 |nil=>rfl
 |cons x l ih=>
  show bR (av x) (all' av l) aA=_;rw[ih,wH];cases av x<;>rfl
def tk{α:Type}(n:Nat):List α->List α:=@jq (λ_=>List α->List α) (λ_=>[]) (λ_ ih l=>@b_ α (λ_=>List α) [] (λx r _=>x::ih r) l) n
def GV(n:Nat):∀(l:List α),tk n l=l.take n:=by
 induction n with
 |zero=>intro l;show[]=l.take 0;simp
 |succ n ih=>intro l;cases l with
  |nil=>rfl
  |cons x l=>exact dV (x::·)<|ih l
def dp{α:Type}(n:Nat):List α->List α:=@jq (λ_=>List α->List α) (λl=>l) (λ_ ih l=>@b_ α (λ_=>List α) [] (λ_ r _=>ih r) l) n
def LZ(n:Nat):∀(l:List α),dp n l=l.drop n:=by
 induction n with
 |zero=>intro l;rfl
 |succ n ih=>intro l;cases l with
  |nil=>rfl
  |cons x l=>exact ih l
structure Row where
 ty:aG
 cells:Tr D
 n:Nat
 kR:Bool
 fz:Nat
inductive lu where
 |dead
 |row(r:Row)
 |map(es:List<|D×D)
 |L5(s:ByteArray)(pos:Nat)
variable{o:lu}
def vE(o:lu):Option Row:=@lu.rec (λ_=>Option Row) W (λr=>Z r) (λ_=>W) (λ_ _=>W) o
def Jp(o:lu):Option (List<|D×D):=@lu.rec (λ_=>Option<|List<|D×D) W (λ_=>W) (λm=>Z m) (λ_ _=>W) o
def tu{r:Row}(h:vE o=Z r):o=.row r:=by cases o<;>cases h;rfl
def IX{r:List (D×D)}(h:Jp o=Z r):o=.map r:=by cases o<;>cases h;rfl
def top:D:=.chan<|Z 0
structure F where
 vF:Tr lu
 next:Nat
 low:Nat
def F.obj(H:F)(r:Nat):lu:=H.vF.get .dead r
def F.put(H:F)(r:Nat)(o:lu):F:=⟨H.vF.set .dead r o,H.next,bR (aB H.low r) H.low r⟩
def F.new(H:F)(o:lu):F:=⟨H.vF.set .dead H.next o,bU H.next,H.low⟩
def rowOf(ty:aG)(vs:List D):lu:=.row ⟨ty,Tr.sD top vs 0 .nil,len vs,aA,0⟩
def fI(es:Nat):Nat:=aV 18446744073709551616 es
def gD(c:Nat):Bool:=aB c 9223372036854775807
def fB(v:D):Bool:=
 @Value.rec (λ_=>Bool) (λ_=>PUnit) (λ_=>PUnit)
  (λ_=>f)
  (λ_ _=>f)
  (λ_ _=>f)
  (λ_ _ _=>f)
  (λ_=>f)
  (λ_=>f)
  (λ_ _ _=>f)
  (λ_=>f)
  (λr=>aA)
  (λ_ _ _ _ _=>f)
  (f)
  (λ_ _ _=>f)
  (f)
  (λE _=>aA)
  (λvs _=>aA)
  (λ_ _=>⟨⟩) ⟨⟩ (λ_ _ _ _=>⟨⟩) v
def pK(v:D):Bool:=
 @Value.rec (λ_=>Bool) (λ_=>PUnit) (λ_=>PUnit)
  (λ_=>f)
  (λ_ _=>f)
  (λ_ _=>f)
  (λ_ _ _=>f)
  (λ_=>f)
  (λ_=>f)
  (λ_ _ _=>f)
  (λ_=>f)
  (λr=>aA)
  (λ_ _ _ _ _=>f)
  (f)
  (λ_ _ _=>f)
  (f)
  (λ_ _=>f)
  (λ_ _=>f)
  (λ_ _=>⟨⟩) ⟨⟩ (λ_ _ _ _=>⟨⟩) v
def qg(v:D):Option Addr:=
 @Value.rec (λ_=>Option Addr) (λ_=>PUnit) (λ_=>PUnit)
  (λ_=>W)
  (λ_ _=>W)
  (λ_ _=>W)
  (λ_ _ _=>W)
  (λ_=>W)
  (λa=>a)
  (λ_ _ _=>W)
  (λ_=>W)
  (λ_=>W)
  (λ_ _ _ _ _=>W)
  (W)
  (λ_ _ _=>W)
  (W)
  (λ_ _=>W)
  (λ_ _=>W)
  (λ_ _=>⟨⟩) ⟨⟩ (λ_ _ _ _=>⟨⟩) v
def jH(v:D):Option Bool:=
 @Value.rec (λ_=>Option Bool) (λ_=>PUnit) (λ_=>PUnit)
  (λb=>Z b)
  (λ_ _=>W)
  (λ_ _=>W)
  (λ_ _ _=>W)
  (λ_=>W)
  (λ_=>W)
  (λ_ _ _=>W)
  (λ_=>W)
  (λ_=>W)
  (λ_ _ _ _ _=>W)
  (W)
  (λ_ _ _=>W)
  (W)
  (λ_ _=>W)
  (λ_ _=>W)
  (λ_ _=>⟨⟩) ⟨⟩ (λ_ _ _ _=>⟨⟩) v
def sK(v:D):Option (fu×Int):=
 @Value.rec (λ_=>Option<|fu×Int) (λ_=>PUnit) (λ_=>PUnit)
  (λ_=>W)
  (λk n=>Z (k,n))
  (λ_ _=>W)
  (λ_ _ _=>W)
  (λ_=>W)
  (λ_=>W)
  (λ_ _ _=>W)
  (λ_=>W)
  (λ_=>W)
  (λ_ _ _ _ _=>W)
  (W)
  (λ_ _ _=>W)
  (W)
  (λ_ _=>W)
  (λ_ _=>W)
  (λ_ _=>⟨⟩) ⟨⟩ (λ_ _ _ _=>⟨⟩) v
def Jq(n:Int):Option Nat:=@Int.rec (λ_=>Option Nat) (λm=>Z m) (λ_=>W) n
def zh(v:D):Option Nat:=
 @Value.rec (λ_=>Option Nat) (λ_=>PUnit) (λ_=>PUnit)
  (λ_=>W)
  (λk n=>Jq n)
  (λ_ _=>W)
  (λ_ _ _=>W)
  (λ_=>W)
  (λ_=>W)
  (λ_ _ _=>W)
  (λ_=>W)
  (λ_=>W)
  (λ_ _ _ _ _=>W)
  (W)
  (λ_ _ _=>W)
  (W)
  (λ_ _=>W)
  (λ_ _=>W)
  (λ_ _=>⟨⟩) ⟨⟩ (λ_ _ _ _=>⟨⟩) v
def tC(v:D):Option ByteArray:=
 @Value.rec (λ_=>Option ByteArray) (λ_=>PUnit) (λ_=>PUnit)
  (λ_=>W)
  (λ_ _=>W)
  (λ_ _=>W)
  (λ_ _ _=>W)
  (λs=>Z s)
  (λ_=>W)
  (λ_ _ _=>W)
  (λ_=>W)
  (λ_=>W)
  (λ_ _ _ _ _=>W)
  (W)
  (λ_ _ _=>W)
  (W)
  (λ_ _=>W)
  (λ_ _=>W)
  (λ_ _=>⟨⟩) ⟨⟩ (λ_ _ _ _=>⟨⟩) v
def Iz(v:D):Option (Option Addr×Nat×Nat):=
 @Value.rec (λ_=>Option<|Option Addr×Nat×Nat) (λ_=>PUnit) (λ_=>PUnit)
  (λ_=>W)
  (λ_ _=>W)
  (λ_ _=>W)
  (λ_ _ _=>W)
  (λ_=>W)
  (λ_=>W)
  (λa l c=>Z (a,l,c))
  (λ_=>W)
  (λ_=>W)
  (λ_ _ _ _ _=>W)
  (W)
  (λ_ _ _=>W)
  (W)
  (λ_ _=>W)
  (λ_ _=>W)
  (λ_ _=>⟨⟩) ⟨⟩ (λ_ _ _ _=>⟨⟩) v
def Lb(v:D):Option (Option Nat):=
 @Value.rec (λ_=>Option<|Option Nat) (λ_=>PUnit) (λ_=>PUnit)
  (λ_=>W)
  (λ_ _=>W)
  (λ_ _=>W)
  (λ_ _ _=>W)
  (λ_=>W)
  (λ_=>W)
  (λ_ _ _=>W)
  (λr=>Z r)
  (λ_=>W)
  (λ_ _ _ _ _=>W)
  (W)
  (λ_ _ _=>W)
  (W)
  (λ_ _=>W)
  (λ_ _=>W)
  (λ_ _=>⟨⟩) ⟨⟩ (λ_ _ _ _=>⟨⟩) v
def fFn(av:Fn):Option FuncId:=@Fn.rec (λ_=>Option FuncId) (λav=>Z av) (λ_=>W) (λ_ _=>W) (λ_ _ _ _=>W) (λ_=>W) av
def YO(v:D):Option (Fn×List D×List D):=
 @Value.rec (λ_=>Option<|Fn×List D×List D) (λ_=>PUnit) (λ_=>PUnit)
  (λ_=>W)
  (λ_ _=>W)
  (λ_ _=>W)
  (λ_ _ _=>W)
  (λ_=>W)
  (λ_=>W)
  (λ_ _ _=>W)
  (λ_=>W)
  (λ_=>W)
  (λav x hc _ _=>Z (av,x.toList,hc.toList))
  (W)
  (λ_ _ _=>W)
  (W)
  (λ_ _=>W)
  (λ_ _=>W)
  (λ_ _=>⟨⟩) ⟨⟩ (λ_ _ _ _=>⟨⟩) v
def wm(v:D):Option (List D):=
 @Value.rec (λ_=>Option<|List D) (λ_=>PUnit) (λ_=>PUnit)
  (λ_=>W)
  (λ_ _=>W)
  (λ_ _=>W)
  (λ_ _ _=>W)
  (λ_=>W)
  (λ_=>W)
  (λ_ _ _=>W)
  (λ_=>W)
  (λ_=>W)
  (λ_ _ _ _ _=>W)
  (W)
  (λ_ _ _=>W)
  (W)
  (λE _=>Z E.toList)
  (λ_ _=>W)
  (λ_ _=>⟨⟩) ⟨⟩ (λ_ _ _ _=>⟨⟩) v
def YP(v:D):Option (List D):=
 @Value.rec (λ_=>Option<|List D) (λ_=>PUnit) (λ_=>PUnit)
  (λ_=>W)
  (λ_ _=>W)
  (λ_ _=>W)
  (λ_ _ _=>W)
  (λ_=>W)
  (λ_=>W)
  (λ_ _ _=>W)
  (λ_=>W)
  (λ_=>W)
  (λ_ _ _ _ _=>W)
  (W)
  (λ_ _ _=>W)
  (W)
  (λ_ _=>W)
  (λvs _=>Z vs.toList)
  (λ_ _=>⟨⟩) ⟨⟩ (λ_ _ _ _=>⟨⟩) v
def DY(v:D):Option (aG×D):=
 @Value.rec (λ_=>Option<|aG×D) (λ_=>PUnit) (λ_=>PUnit)
  (λ_=>W)
  (λ_ _=>W)
  (λ_ _=>W)
  (λ_ _ _=>W)
  (λ_=>W)
  (λ_=>W)
  (λ_ _ _=>W)
  (λ_=>W)
  (λ_=>W)
  (λ_ _ _ _ _=>W)
  (W)
  (λt v _=>Z (t,v))
  (W)
  (λ_ _=>W)
  (λ_ _=>W)
  (λ_ _=>⟨⟩) ⟨⟩ (λ_ _ _ _=>⟨⟩) v
def eX{α:Type}(o:Option α):Bool:=@aN α (λ_=>Bool) f (λ_=>aA) o
def qY(v:D):Nat×Bool:=
 @Value.rec (λ_=>Nat×Bool) (λ_=>PUnit) (λ_=>PUnit)
  (λ_=>(0,aA))
  (λ_ _=>(0,aA))
  (λ_ _=>(0,aA))
  (λ_ _ _=>(0,aA))
  (λ_=>(0,aA))
  (λa=>(1,eX a))
  (λa l c=>(2,eX a))
  (λr=>(3,eX r))
  (λ_=>(0,aA))
  (λav x hc _ _=>(4,aA))
  ((4,f))
  (λt v _=>(5,aA))
  ((5,f))
  (λ_ _=>(0,aA))
  (λ_ _=>(0,aA))
  (λ_ _=>⟨⟩) ⟨⟩ (λ_ _ _ _=>⟨⟩) v
def Jr(v:D):Bool:=
 @Value.rec (λ_=>Bool) (λ_=>PUnit) (λ_=>PUnit)
  (λ_=>aA)
  (λ_ _=>aA)
  (λ_ _=>aA)
  (λ_ _ _=>aA)
  (λ_=>aA)
  (λa=>eX a)
  (λ_ _ _=>aA)
  (λr=>eX r)
  (λ_=>aA)
  (λ_ _ _ _ _=>aA)
  (f)
  (λ_ _ _=>aA)
  (f)
  (λ_ _=>aA)
  (λ_ _=>aA)
  (λ_ _=>⟨⟩) ⟨⟩ (λ_ _ _ _=>⟨⟩) v
def pX{α:Type}(o:Option α):Bool:=@aN α (λ_=>Bool) aA (λ_=>f) o
def bI(v:D):List D:=@aN (List D) (λ_=>List D) [v] (λl=>l)<|wm v
def mU(v:D):Bool:=
 @Value.rec (λ_=>Bool) (λ_=>PUnit) (λ_=>PUnit)
  (λb=>f)
  (λk n=>f)
  (λk b=>f)
  (λk x hc=>f)
  (λs=>f)
  (λa=>eX a)
  (λa l c=>eX a&&ay l 0&&ay c 0)
  (λr=>eX r)
  (λ_=>aA)
  (λ_ _ _ _ _=>aA)
  (f)
  (λ_ _ _=>aA)
  (f)
  (λ_ _=>aA)
  (λ_ _=>aA)
  (λ_ _=>⟨⟩) ⟨⟩ (λ_ _ _ _=>⟨⟩) v
def xy(d:eZ):Nat:=
 @jC (λ_=>Nat)
  (0) (0) (λ_=>0) (λ_=>0) (λ_=>0) (0) (0) (λe=>1) (λe=>2) (λ_ _=>0) (λk e=>3) (λ_ _=>0) (λ_=>0) (λp r v=>4) (λms=>5) (λ_=>0) (λ_ _=>0) d
def dSl(d:eZ):Option aG:=
 @jC (λ_=>Option aG)
  (W) (W) (λ_=>W) (λ_=>W) (λ_=>W) (W) (W) (λ_=>W) (λe=>Z e) (λ_ _=>W) (λ_ _=>W) (λ_ _=>W) (λ_=>W) (λ_ _ _=>W) (λ_=>W) (λ_=>W) (λ_ _=>W) d
def ES(d:eZ):Option aG:=
 @jC (λ_=>Option aG)
  (W) (W) (λ_=>W) (λ_=>W) (λ_=>W) (W) (W) (λe=>Z e) (λ_=>W) (λ_ _=>W) (λ_ _=>W) (λ_ _=>W) (λ_=>W) (λ_ _ _=>W) (λ_=>W) (λ_=>W) (λ_ _=>W) d
def O1(d:eZ):Option (Nat×aG):=
 @jC (λ_=>Option<|Nat×aG)
  (W) (W) (λ_=>W) (λ_=>W) (λ_=>W) (W) (W) (λ_=>W) (λ_=>W) (λn e=>Z (n,e)) (λ_ _=>W) (λ_ _=>W) (λ_=>W) (λ_ _ _=>W) (λ_=>W) (λ_=>W) (λ_ _=>W) d
def aga(d:eZ):Option (aG×aG):=
 @jC (λ_=>Option<|aG×aG)
  (W) (W) (λ_=>W) (λ_=>W) (λ_=>W) (W) (W) (λ_=>W) (λ_=>W) (λ_ _=>W) (λk e=>Z (k,e)) (λ_ _=>W) (λ_=>W) (λ_ _ _=>W) (λ_=>W) (λ_=>W) (λ_ _=>W) d
def Ni(d:eZ):Option (List Field):=
 @jC (λ_=>Option<|List Field)
  (W) (W) (λ_=>W) (λ_=>W) (λ_=>W) (W) (W) (λ_=>W) (λ_=>W) (λ_ _=>W) (λ_ _=>W) (λ_ _=>W) (λfs=>Z fs.toList) (λ_ _ _=>W) (λ_=>W) (λ_=>W) (λ_ _=>W) d
def BO(d:eZ):Bool:=
 @jC (λ_=>Bool)
  (aA) (aA) (λ_=>aA) (λ_=>aA) (λ_=>aA) (f) (aA) (λ_=>aA) (λ_=>aA) (λ_ _=>aA) (λ_ _=>aA) (λ_ _=>aA) (λ_=>aA) (λ_ _ _=>aA) (λ_=>aA) (λ_=>aA) (λ_ _=>aA) d
def ET(d:eZ):Bool:=
 @jC (λ_=>Bool)
  (aA) (aA) (λ_=>aA) (λ_=>aA) (λ_=>aA) (aA) (f) (λ_=>aA) (λ_=>aA) (λ_ _=>aA) (λ_ _=>aA) (λ_ _=>aA) (λ_=>aA) (λ_ _ _=>aA) (λ_=>aA) (λ_=>aA) (λ_ _=>aA) d
def Lc(d:eZ):Option fu:=
 @jC (λ_=>Option fu)
  (W) (W) (λk=>Z k) (λ_=>W) (λ_=>W) (W) (W) (λ_=>W) (λ_=>W) (λ_ _=>W) (λ_ _=>W) (λ_ _=>W) (λ_=>W) (λ_ _ _=>W) (λ_=>W) (λ_=>W) (λ_ _=>W) d
def FZ(d:eZ):Option FloatKind:=
 @jC (λ_=>Option FloatKind)
  (W) (W) (λ_=>W) (λk=>Z k) (λ_=>W) (W) (W) (λ_=>W) (λ_=>W) (λ_ _=>W) (λ_ _=>W) (λ_ _=>W) (λ_=>W) (λ_ _ _=>W) (λ_=>W) (λ_=>W) (λ_ _=>W) d
def RA(d:eZ):Bool:=
 @jC (λ_=>Bool)
  (aA) (aA) (λ_=>aA) (λ_=>aA) (λ_=>aA) (aA) (aA) (λ_=>aA) (λ_=>aA) (λn e=>f) (λ_ _=>aA) (λ_ _=>aA) (λfs=>f) (λ_ _ _=>aA) (λ_=>aA) (λ_=>aA) (λ_ _=>aA) d
def tF(d:eZ):Nat:=
 @jC (λ_=>Nat)
  (0) (2) (λk=>1) (λ_=>0) (λ_=>0) (3) (0) (λ_=>0) (λ_=>0) (λ_ _=>0) (λ_ _=>0) (λ_ _=>0) (λ_=>0) (λ_ _ _=>0) (λ_=>0) (λ_=>0) (λ_ _=>0) d
def IA(k:fu):Bool:=@IntKind.rec (λ_=>Bool) aA aA aA aA f aA aA aA k
def DD(k:fu):Bool:=@IntKind.rec (λ_=>Bool) aA aA aA f aA aA aA aA k
def qx(k:fu):Nat:=@IntKind.rec (λ_=>Nat) 0 1 2 3 4 5 6 7 k
def tI(P:aS)(t:aG):Option TypeInfo:=P.info? t
def vI(P:aS)(t:aG):Option Nat:=aK (P.info? t) λi=>Z i.size
def O3(P:aS)(t:aG):Option (aG×Nat):=aK (P.underlying t) λd=>aK (dSl d) λe=>aK (vI P e) λs=>gd (aB 1 s)<|Z (e,s)
def O4(P:aS)(t:aG):Option (Nat×aG×Nat):=aK (P.underlying t) λd=>aK (O1 d) λe=>aK (vI P e.2) λs=>gd (aB 1 s)<|Z (e.1,e.2,s)
def Yw(P:aS)(t:aG):Option (Option Nat):=aK (P.underlying t) λd=>aK (vI P t) λs=>Z<|bR (RA d) (Z s) W
def F3(P:aS)(t:aG):Bool:=@aN eZ (λ_=>Bool) aA BO<|P.underlying t
def GX(P:aS)(t:aG):Bool:=@aN eZ (λ_=>Bool) aA (λd=>@aN fu (λ_=>Bool) aA IA<|Lc d)<|P.underlying t
def uz(P:aS)(t:aG):Option (aG×aG):=aK (P.underlying t) aga
def F4(v:D):Bool:=@aN (List D) (λ_=>Bool) (mU v) (λl=>all' mU l)<|wm v
def xz(P:aS)(t:aG):Option D:=aK (P.info? t) λi=>aK i.zero λz=>gd (F4 z)<|Z z
def zL(P:aS)(t:aG):Option (List D):=aK (xz P t) λz=>aK (vI P t) λs=>gd (ay (len<|bI z) s)<|Z<|bI z
def IY(P:aS)(t:aG):Option (List Field):=aK (P.underlying t) Ni
def RD(P:aS)(t:aG)(av:Nat):Option (Nat×Option Nat):=aK (IY P t) λfs=>aK (nth fs av) λfd=>aK (Yw P fd.type) λl=>aK (vI P fd.type) λs=>gd (aB 1 s)<|Z (fd.offset,l)
def places(P:aS)(fs:List Field):Option (List<|Nat×Nat):=
 @b_ Field (λ_=>Option<|List<|Nat×Nat) (Z []) (λav _ r=>aK (vI P av.type) λs=>aK r λl=>Z<|(av.offset,s)::l) fs
def Ut(P:aS)(t:aG):Option (List<|Nat×Nat):=aK (IY P t)<|places P
def F.cell(H:F)(r off:Nat):Option D:=aK (vE<|H.obj r) λw=>gd (aB (bU off) w.n)<|Z<|w.cells.get top off
def F.read(H:F)(r off k:Nat):Option (List D):=
 @jq (λ_=>Option<|List D) (Z []) (λ_ _=>aK (vE<|H.obj r) λw=>gd (aB (aV off k) w.n)<|Z<|Tr.DX top w.cells off k) k
def F.write(H:F)(r off:Nat)(vs:List D):Option F:=
 @b_ D (λ_=>Option F) (Z H) (λ_ _ _=>aK (vE<|H.obj r) λw=>
  gd (!w.kR&&aB (aV off<|len vs) w.n&&aB w.fz off&&all' fB vs)
   (Z<|H.put r<|.row ⟨w.ty,Tr.sD top vs off w.cells,w.n,aA,w.fz⟩)) vs
def jQ(s:Sem D):Option D:=match s with
 |.pure v=>gd (mU v)<|Z v
 |_=>W
def Ld(a b:Int):Bool:=
 @Int.rec (λ_=>Bool) (λm=>@Int.rec (λ_=>Bool) (λn=>aB (bU m) n) (λ_=>aA) b)
  (λm=>@Int.rec (λ_=>Bool) (λ_=>f) (λn=>aB (bU n) m) b) a
def IZ(a b:Int):Bool:=
 @Int.rec (λ_=>Bool) (λm=>@Int.rec (λ_=>Bool) (λn=>ay m n) (λ_=>aA) b)
  (λm=>@Int.rec (λ_=>Bool) (λ_=>aA) (λn=>ay m n) b) a
def nU(k:fu)(n:Int):Int:=
 @Int.rec (λ_=>Int) (λm=>bR (DD k&&aB m 9223372036854775807) (.ofNat m)<|k.wrap n) (λm=>bR (DD k&&aB m 9223372036854775807) (.negSucc m)<|k.wrap n) n
def Wl(op:qQ):fu->Int->Int->Option D:=
 @BinOp.rec (λ_=>fu->Int->Int->Option D) (λk a b=>Z<|.int k<|nU k<|Int.add a b) (λk a b=>Z<|.int k<|nU k<|Int.sub a b) (λk a b=>Z<|.int k<|nU k<|Int.mul a b) (λk a b=>jQ<|Op.intDiv .quo k a b) (λk a b=>jQ<|Op.intDiv .rem k a b) (λk a b=>jQ<|Op.intBits .and k a b) (λk a b=>jQ<|Op.intBits .or k a b) (λk a b=>jQ<|Op.intBits .xor k a b) (λ_ _ _=>W) (λ_ _ _=>W) (λk a b=>jQ<|Op.intBits .andNot k a b) (λ_ a b=>Z<|.bool<|IZ a b) (λ_ a b=>Z<|.bool<|!(IZ a b)) (λ_ a b=>Z<|.bool<|Ld a b) (λ_ a b=>Z<|.bool<|!(Ld b a)) (λ_ a b=>Z<|.bool<|Ld b a) (λ_ a b=>Z<|.bool<|!(Ld a b)) op
def yH(op:qQ):Nat:=@BinOp.rec (λ_=>Nat) (0) (0) (0) (0) (0) (0) (0) (0) (0) (0) (0) (1) (2) (0) (0) (0) (0) op
def I1(op:qQ):Bool:=@BinOp.rec (λ_=>Bool) (aA) (aA) (aA) (aA) (aA) (aA) (aA) (aA) (f) (f) (aA) (aA) (aA) (aA) (aA) (aA) (aA) op
def Au(a b:Bool):Bool:=bR a b<|!b
def u8L(l:List UInt8):List Nat:=mp (λb=>b.toNat) l
def Js(l:List Nat):List Nat->Bool:=
 @b_ Nat (λ_=>List Nat->Bool) (λm=>@b_ Nat (λ_=>Bool) f (λ_ _ _=>aA) m)
  (λx _ ih m=>@b_ Nat (λ_=>Bool) aA (λhc r _=>bR (ay x hc) (ih r) aA) m) l
def qV(x hc:ByteArray):Bool:=Js (u8L x.data.toList)<|u8L hc.data.toList
def strLt(x hc:ByteArray):Bool:=Op.bytesLess x.data.toList hc.data.toList
def YQ(x hc:ByteArray):Option D:=
 gd (aB (aV (len x.data.toList)<|len hc.data.toList) 4611686018427387904) (Z<|.string ⟨⟨app x.data.toList hc.data.toList⟩⟩)
def ac6(op:qQ):ByteArray->ByteArray->Option D:=
 @BinOp.rec (λ_=>ByteArray->ByteArray->Option D) (YQ) (λ_ _=>W) (λ_ _=>W) (λ_ _=>W) (λ_ _=>W) (λ_ _=>W) (λ_ _=>W) (λ_ _=>W) (λ_ _=>W) (λ_ _=>W) (λ_ _=>W) (λa b=>Z<|.bool<|qV a b) (λa b=>Z<|.bool<|!(qV a b)) (λa b=>Z<|.bool<|strLt a b) (λa b=>Z<|.bool<|strLt a b||qV a b) (λa b=>Z<|.bool<|!(strLt a b||qV a b)) (λa b=>Z<|.bool<|!(strLt a b)) op
def wJ(k:Nat)(x hc:D):Option Bool:=
 bR (ay k 1) (aK (sK x) λa=>aK (sK hc) λb=>gd (ay (qx a.1)<|qx b.1)<|Z<|IZ a.2 b.2)
  (bR (ay k 2) (aK (jH x) λa=>aK (jH hc) λb=>Z<|Au a b)
   (bR (ay k 3) (aK (tC x) λa=>aK (tC hc) λb=>Z<|qV a b) W))
def qE(ks:List Nat):List D->List D->Option Bool:=
 @b_ Nat (λ_=>List D->List D->Option Bool)
  (λxs ys=>@b_ D (λ_=>Option Bool) (@b_ D (λ_=>Option Bool) (Z f) (λ_ _ _=>W) ys) (λ_ _ _=>W) xs)
  (λk _ ih xs ys=>@b_ D (λ_=>Option Bool) W (λx xr _=>@b_ D (λ_=>Option Bool) W
   (λhc yr _=>aK (wJ k x hc) λb=>bR b (ih xr yr)<|Z aA) ys) xs) ks
def qZ(P:aS)(fs:List Field):Nat->Option (List Nat):=
 @b_ Field (λ_=>Nat->Option (List Nat)) (λ_=>Z [])
  (λav _ ih k=>aK (P.underlying av.type) λd=>aK (ih<|bU k) λr=>gd (ay av.offset k&&!(av.name== "_")&&aB 1 (tF d))<|Z<|tF d::r) fs
def YS{α:Type}(x:α)(n:Nat):List α:=@jq (λ_=>List α) [] (λ_ r=>x::r) n
def O5(P:aS)(t:aG):Option (List Nat):=aK (IY P t) λfs=>gd (!(P.stoodInHeld t))<|qZ P fs 0
def aeS(P:aS)(t:aG):Option (List Nat):=aK (P.underlying t) λd=>aK (O1 d) λa=>aK (P.underlying a.2) λe=>aK (vI P a.2) λs=>
 gd (ay s 1&&aB 1 (tF e)) (Z<|YS (tF e) a.1)
def orElse'{α:Type}(o q:Option α):Option α:=@aN α (λ_=>Option α->Option α) (λq=>q) (λx _=>Z x) o q
def tEq(P:aS)(t:aG):Option (Sum Nat<|List Nat):=
 aK (P.underlying t) λd=>bR (aB 1<|tF d) (Z<|.inl<|tF d)<|aK (orElse' (O5 P t)<|aeS P t) λl=>Z<|.inr l
def kY(P:aS)(t:aG)(x hc:D):Option Bool:=
 aK (tEq P t) λq=>@Sum.rec Nat (List Nat) (λ_=>Option Bool) (λk=>wJ k x hc)
  (λl=>aK (wm x) λa=>aK (wm hc) λb=>qE l a b) q
def sM(o:bO):Bool:=
 @Operand.rec (λ_=>Bool) (λ_=>aA) (λv=>(qY v).2) (λ_=>aA) (λ_=>aA) o
def F5(P:aS)(t:aG):Nat:=@aN eZ (λ_=>Nat) 0 xy<|P.underlying t
def L6(k:Nat)(c x:D):Option Bool:=gd (aB 1 k&&ay (qY x).1 k&&ay (qY c).1 k)<|Z (qY x).2
def F6(P:aS)(t:aG):Bool:=
 @aN Unit (λ_=>Bool) aA (λ_=>f) (aK (P.underlying t) λd=>aK (ES d) λe=>aK (vI P e) λs=>gd (aB 1 s)<|Z ())
def ptrEq(x hc:D):Option Bool:=aK (qg x) λa=>aK (qg hc) λb=>gd (ay a.block b.block)<|Z<|ay a.off b.off
def Yx(P:aS)(t:aG)(ox oy:bO)(x hc:D):Option Bool:=
 bR (sM oy) (L6 (F5 P t) hc x) (bR (sM ox) (L6 (F5 P t) x hc)<|bR (F6 P t) (ptrEq x hc)<|kY P t x hc)
def B_(op:qQ)(b:Option Bool):Option D:=
 bR (ay (yH op) 1) (aK b λb=>Z<|.bool b) (bR (ay (yH op) 2) (aK b λb=>Z<|.bool<|!b) W)
def YU(op:qQ)(t:aG)(x hc:D):Option D:=aK (sK x) λ_=>aK (sK hc) λ_=>jQ<|binOp op t x hc
def wK(v:D):Nat:=
 @Value.rec (λ_=>Nat) (λ_=>PUnit) (λ_=>PUnit)
  (λ_=>0)
  (λ_ _=>0)
  (λk b=>1)
  (λk x hc=>2)
  (λ_=>0)
  (λ_=>0)
  (λ_ _ _=>0)
  (λ_=>0)
  (λ_=>0)
  (λ_ _ _ _ _=>0)
  (0)
  (λ_ _ _=>0)
  (0)
  (λ_ _=>0)
  (λ_ _=>0)
  (λ_ _=>⟨⟩) ⟨⟩ (λ_ _ _ _=>⟨⟩) v
def RE(op:qQ)(t:aG)(x hc:D):Option D:=gd (aB 1 (wK x)&&ay (wK x) (wK hc))<|jQ<|binOp op t x hc
def lN(P:aS)(op:qQ)(t:aG)(ox oy:bO)(x hc:D):Option D:=
 @aN (fu×Int) (λ_=>Option D)
  (@aN ByteArray (λ_=>Option D) (bR (aB 1<|wK x) (RE op t x hc)<|B_ op<|Yx P t ox oy x hc) (λa=>aK (tC hc) λb=>ac6 op a b)<|tC x)
  (λa=>bR (I1 op) (YU op t x hc)<|aK (sK hc) λb=>gd (ay (qx a.1)<|qx b.1)<|Wl op a.1 a.2 b.2) (sK x)
def Cb(P:aS)(s d:aG)(x:D):Option D:=
 aK (P.underlying s) λ_=>aK (P.underlying d) λe=>
  @aN (fu×Int) (λ_=>Option D) (aK (tC x) λb=>gd (BO e)<|Z<|.string b)
   (λa=>@aN fu (λ_=>Option D) (bR (BO e) (Z<|.string<|Utf8.encode a.2)<|aK (FZ e) λk=>jQ<|Conv.intToFloat k a.2) (λk=>Z<|.int k<|nU k a.2)<|Lc e) (sK x)
def apart(l:Option Nat)(E:List D)(off:Nat):Option D:=
 @aN Nat (λ_=>Option D) (nth E off) (λn=>gd (aB (aV off n)<|len E)<|Z<|.agg ⟨tk n<|dp off E⟩) l
def nA(o:Option D)(d:Nat):Option Nat:=@aN D (λ_=>Option Nat) (Z d) zh o
def sN(m l off sz:Nat):Nat:=bR (ay m l) off<|aV off<|bL l sz
def Nj(s:ByteArray)(lo hi:Option D):Option D:=
 aK (nA lo 0) λl=>aK (nA hi<|len s.data.toList) λh=>gd (aB l h&&aB h (len s.data.toList))
  (Z<|.string ⟨⟨tk (dA h l)<|dp l s.data.toList⟩⟩)
def Uu(sz:Nat)(p:Option Addr×Nat×Nat)(lo hi mx:Option D):Option D:=
 @aN Addr (λ_=>Option D)
  (aK (nA lo 0) λl=>aK (nA hi 0) λh=>aK (nA mx 0) λm=>gd (ay l 0&&ay h 0&&ay m 0&&ay p.2.1 0&&ay p.2.2 0&&(!(eX hi)||eX mx))<|Z<|.slice W 0 0)
  (λa=>aK (nA lo 0) λl=>aK (nA hi p.2.1) λh=>
   bR (gD p.2.2)
    (aK (nA mx p.2.2) λm=>gd (aB l h&&aB h m&&aB m p.2.2&&(!(eX hi)||eX mx))
     (Z<|.slice (Z ⟨a.block,sN m l a.off sz,W⟩) (dA h l)<|dA m l))
    (gd (ay p.2.2<|fI sz) (@aN D (λ_=>Option D)
     (gd (aB l h&&aB h p.2.1)<|Z<|.slice (Z ⟨a.block,aV a.off<|bL l sz,W⟩) (dA h l) p.2.2)
     (λmv=>aK (zh mv) λm=>gd (aB l h&&aB h m&&aB m p.2.1&&!(eX hi)&&gD m)
      (Z<|.slice (Z ⟨a.block,sN m l a.off sz,W⟩) (dA h l)<|dA m l)) mx))) p.1
def RF(n sz:Nat)(a:Addr)(lo hi mx:Option D):Option D:=
 aK (nA lo 0) λl=>aK (nA hi n) λh=>gd (aB l h&&aB h n&&eX mx&&gD n)
  (Z<|.slice (Z ⟨a.block,sN n l a.off sz,W⟩) (dA h l)<|dA n l)
def zM(P:aS)(t:aG)(x:D)(lo hi mx:Option D):Option D:=
 @aN (aG×Nat) (λ_=>Option D)
  (bR (F3 P t) (aK (tC x) λs=>gd (eX mx)<|Nj s lo hi)<|aK (O4 P t) λq=>aK (qg x) λa=>RF q.1 q.2.2 a lo hi mx)
  (λq=>aK (Iz x) λp=>Uu q.2 p lo hi mx) (O3 P t)
def q8(P:aS)(t:aG)(x i:D):Option D:=
 aK (zh i) λk=>@aN (aG×Nat) (λ_=>Option D)
  (aK (O4 P t) λq=>aK (qg x) λa=>gd (aB (bU k) q.1)<|Z<|.pointer<|Z ⟨a.block,aV a.off<|bL k q.2.2,W⟩)
  (λq=>aK (Iz x) λp=>aK p.1 λa=>gd (aB (bU k) p.2.1)<|Z<|.pointer<|Z ⟨a.block,aV a.off<|bL k q.2,W⟩) (O3 P t)
def Cc(P:aS)(t:aG)(x i:D):Option D:=
 aK (zh i) λk=>bR (F3 P t)
  (aK (tC x) λs=>aK (nth s.data.toList k) λb=>Z<|.int .u8<|.ofNat b.toNat)
  (aK (O4 P t) λq=>aK (wm x) λE=>aK (Yw P q.2.1) λl=>gd (aB (bU k) q.1)<|apart l E<|bL k q.2.2)
def q9(P:aS)(t:aG)(x:D)(av:Nat):Option D:=
 aK (qg x) λa=>aK (RD P t av) λq=>Z<|.pointer<|Z ⟨a.block,aV a.off q.1,W⟩
def Ce(P:aS)(t:aG)(x:D)(av:Nat):Option D:=
 aK (wm x) λE=>aK (RD P t av) λq=>apart q.2 E q.1
def setAt{α:Type}(x:α)(k:Nat):List α->List α:=
 @jq (λ_=>List α->List α) (λl=>@b_ α (λ_=>List α) [] (λ_ r _=>x::r) l) (λ_ ih l=>@b_ α (λ_=>List α) [] (λhc r _=>hc::ih r) l) k
def F7(vs:List D):Nat->List D->List D:=
 @b_ D (λ_=>Nat->List D->List D) (λ_ E=>E) (λv _ ih k E=>ih (bU k)<|setAt v k E) vs
def DF(place:Nat->Option (Nat×Nat))(ps:List<|Nat×D):List D->Option (List D):=
 @b_ (Nat×D) (λ_=>List D->Option (List D)) (λE=>Z E)
  (λp _ ih E=>aK (place p.1) λq=>gd (pK p.2&&ay (len<|bI p.2) q.2&&aB (aV q.1 q.2) (len E))<|ih<|F7 (bI p.2) q.1 E) ps
def AB(P:aS)(t:aG)(ps:List<|Nat×D):Option D:=
 aK (zL P t) λz=>@aN (List<|Nat×Nat) (λ_=>Option D)
  (aK (O4 P t) λq=>aK (DF (λk=>Z (bL k q.2.2,q.2.2)) ps z) λE=>Z<|.agg ⟨E⟩)
  (λpl=>aK (DF (nth pl) ps z) λE=>Z<|.agg ⟨E⟩) (Ut P t)
def oL(z:List D)(n:Nat):List D:=@jq (λ_=>List D) [] (λ_ r=>app z r) n
def Jt(c a b:D):Option D:=aK (jH c) λt=>Z<|bR t a b
def Nk(x:D):Option D:=
 @aN Addr (λ_=>Option D) (aK (YO x) λav=>aK (fFn av.1) λ_=>Z x) (λ_=>Z x) (qg x)
def uA(x:D)(i:Nat):Option D:=aK (YP x) λl=>nth l i
def Ju(P:aS)(t:aG)(x:D):Option D:=
 aK (P.underlying t) λd=>bR (BO d) (aK (tC x) λs=>Z<|.int .i64<|.ofNat<|len s.data.toList)
  (bR (ay (xy d) 2) (aK (Iz x) λp=>Z<|.int .i64<|.ofNat p.2.1)
   (bR (ay (xy d) 3) (aK (Lb x) λr=>gd (eX r)<|Z<|.int .i64 0)
    (aK (O1 d) λa=>Z<|.int .i64<|.ofNat a.1)))
def one(av:aG->D->Option D)(ats:List aG)(args:List D):Option D:=
 aK (nth ats 0) λt=>aK (nth args 0) λx=>av t x
def mm2(b:Bool)(x hc:D):Option D:=
 aK (sK x) λp=>aK (sK hc) λq=>gd (ay (qx p.1)<|qx q.1)<|Z<|bR (bR b (Ld p.2 q.2)<|Ld q.2 p.2) hc x
def mmL(b:Bool)(l:List D):D->Option D:=
 @b_ D (λ_=>D->Option D) (λx=>Z x) (λhc _ ih x=>aK (mm2 b x hc) ih) l
def O6(b:Bool)(args:List D):Option D:=@b_ D (λ_=>Option D) W (λx l _=>mmL b l x) args
def L8(r:Nat):D:=.pointer<|Z ⟨r,0,W⟩
def Cf(P:aS)(e:aG)(H:F):Option (D×F):=
 aK (zL P e) λz=>Z (L8 H.next,H.new<|rowOf e z)
def Jv(e:aG)(x:D)(H:F):Option (D×F):=gd (pK x)<|Z (L8 H.next,H.new<|rowOf e<|bI x)
def sO(P:aS)(t:aG)(n:Nat)(ps:List<|Nat×D)(H:F):Option (D×F):=
 aK (O3 P t) λq=>aK (zL P q.1) λz=>gd (aB (bL n q.2) 16777216)
  (aK (DF (λk=>Z (bL k q.2,q.2)) ps<|oL z n) λE=>Z (.slice (Z ⟨H.next,0,W⟩) n n,H.new<|rowOf q.1 E))
def loadAt(l:Option Nat)(a:Addr)(H:F):Option (D×F):=
 @aN Nat (λ_=>Option<|D×F) (aK (H.cell a.block a.off) λv=>Z (v,H))
  (λn=>aK (H.read a.block a.off n) λvs=>Z (.agg ⟨vs⟩,H)) l
def vJ(P:aS)(t:aG)(x:D)(H:F):Option (D×F):=
 aK (qg x) λa=>aK (Yw P t) λl=>loadAt l a H
def yI(P:aS)(t:aG)(x v:D)(H:F):Option (D×F):=
 aK (qg x) λa=>aK (vI P t) λs=>gd (ay (len<|bI v) s)<|aK (H.write a.block a.off<|bI v) λC=>Z (undef,C)
def q_(l:List D):Option (List UInt8):=
 @b_ D (λ_=>Option<|List UInt8) (Z []) (λv _ r=>aK (sK v) λp=>aK (Jq p.2) λn=>gd (IA p.1&&aB n 255)<|aK r λbs=>Z<|jb n::bs) l
def oM(s:List UInt8):List D:=mp (λb=>.int .u8<|.ofNat b.toNat) s
def DZ(P:aS)(q:aG×Nat)(x:D)(H:F):Option (D×F):=
 aK (tC x) λb=>gd (ay q.2 1&&GX P q.1)
  (Z (.slice (Z ⟨H.next,0,W⟩) (len b.data.toList)<|fI 1,H.new<|.row ⟨q.1,Tr.sD top (oM b.data.toList) 0 .nil,len b.data.toList,f,0⟩))
def D3(P:aS)(q:aG×Nat)(x:D)(H:F):Option (D×F):=
 aK (Iz x) λp=>gd (ay q.2 1&&GX P q.1) (@aN Addr (λ_=>Option<|D×F) (Z (.string ⟨⟨[]⟩⟩,H))
  (λa=>aK (H.read a.block a.off p.2.1) λl=>aK (q_ l) λbs=>Z (.string ⟨⟨bs⟩⟩,H)) p.1)
def Jw(P:aS)(t:aG)(x:D)(H:F):Option (D×F):=
 aK (qg x) λa=>aK (vI P t) λs=>aK (vE<|H.obj a.block) λw=>gd (aB 1 s&&aB (bU a.off) w.n)<|Z (x,H)
def Jy(P:aS)(rg:aG)(x:D)(H:F):Option (D×F):=
 aK (qg x) λa=>aK (vI P rg) λs=>aK (vE<|H.obj a.block) λw=>
  gd (aB 1 s&&ay w.ty rg&&ay a.off 0&&aB s w.n) (Z (x,H))
def YV(P:aS)(s d:aG):Option (Nat×aG×Nat):=aK (P.underlying s) λx=>aK (P.underlying d) λhc=>
 bR (BO x) (aK (O3 P d) λq=>Z (1,q)) (bR (BO hc) (aK (O3 P s) λq=>Z (2,q))
  (bR (ET hc) (aK (ES x) λe=>Z (3,e,0))<|bR (ET x) (aK (ES hc) λe=>Z (4,e,0)) W))
def uh(P:aS)(s d:aG)(x:D)(H:F):Option (D×F):=
 aK (YV P s d) λq=>bR (ay q.1 1) (DZ P q.2 x H) (bR (ay q.1 2) (D3 P q.2 x H)
  (bR (ay q.1 3) (Jw P q.2.1 x H)<|Jy P q.2.1 x H))
def uB(P:aS)(t:aG)(r:Option D)(H:F):Option (D×F):=
 aK (uz P t) λ_=>gd (@aN D (λ_=>Bool) f (λv=>!(eX<|sK v)) r)<|Z (.map<|Z H.next,H.new<|.map [])
def qh(P:aS)(t:aG)(l c:D)(H:F):Option (D×F):=
 aK (O3 P t) λq=>aK (tI P q.1) λi=>aK (zL P q.1) λz=>aK (zh l) λn=>aK (zh c) λm=>
  gd (aB n m&&aB m 16777216&&aB i.bytes 1048576) (Z (.slice (Z ⟨H.next,0,W⟩) n m,H.new<|rowOf q.1<|oL z m))
def mapOf(H:F)(x:D):Option (List<|D×D):=
 aK (Lb x) λr=>@aN Nat (λ_=>Option<|List<|D×D) (Z []) (λr=>Jp<|H.obj r) r
def qW(P:aS)(kt:aG)(k:D)(es:List<|D×D):Nat->Option (Option<|Nat×D):=
 @b_ (D×D) (λ_=>Nat->Option (Option<|Nat×D)) (λ_=>Z W)
  (λe _ ih i=>aK (kY P kt k e.1) λb=>bR b (Z<|Z (i,e.2))<|ih<|bU i) es
def okd(ok:Bool)(v:D)(b:Bool)(H:F):D×F:=bR ok (.tuple #[v,.bool b],H) (v,H)
def zw(P:aS)(t:aG)(k:D):Option Unit:=aK (kY P t k k) λb=>gd b<|Z ()
def r_(P:aS)(t:aG)(x k:D)(ok:Bool)(H:F):Option (D×F):=
 aK (uz P t) λq=>aK (xz P q.2) λz=>aK (mapOf H x) λes=>aK (zw P q.1 k) λ_=>aK (qW P q.1 k es 0) λav=>
  @aN (Nat×D) (λ_=>Option<|D×F) (Z<|okd ok z aA H) (λp=>Z<|okd ok p.2 f H) av
def uN(P:aS)(t:aG)(m k v:D)(H:F):Option (D×F):=
 aK (uz P t) λq=>aK (Lb m) λmr=>aK mr λr=>aK (Jp<|H.obj r) λes=>aK (zw P q.1 k) λ_=>aK (qW P q.1 k es 0) λav=>
  @aN (Nat×D) (λ_=>Option<|D×F) (Z (undef,H.put r<|.map<|app es [(k,v)])) (λp=>Z (undef,H.put r<|.map<|setAt (k,v) p.1 es)) av
def appended(H:F)(sz:Nat)(x:D):Option (Nat×List D):=
 @aN ByteArray (λ_=>Option<|Nat×List D)
  (aK (Iz x) λp=>@aN Addr (λ_=>Option<|Nat×List D) (gd (ay p.2.1 0)<|Z (0,[]))
   (λa=>aK (H.read a.block a.off<|bL p.2.1 sz) λl=>Z (p.2.1,l)) p.1)
  (λs=>gd (ay sz 1)<|Z (len s.data.toList,oM s.data.toList)) (tC x)
def L9(P:aS)(ats:List aG)(args:List D)(H:F):Option (D×F):=
 aK (nth ats 0) λt=>aK (nth args 0) λd=>aK (nth args 1) λx=>aK (O3 P t) λq=>aK (Iz d) λp=>aK (appended H q.2 x) λe=>
  @aN Addr (λ_=>Option<|D×F) (gd (ay p.2.1 0)<|Z (.int .i64 0,H))
   (λa=>aK (H.write a.block a.off<|tk (bL (bR (aB e.1 p.2.1) e.1 p.2.1) q.2) e.2) λC=>Z (.int .i64<|.ofNat<|bR (aB e.1 p.2.1) e.1 p.2.1,C)) p.1
def F8(P:aS)(ats:List aG)(args:List D)(H:F):Option (D×F):=
 aK (nth ats 0) λt=>aK (nth args 0) λd=>aK (O3 P t) λq=>aK (zL P q.1) λz=>aK (Iz d) λp=>
  @aN Addr (λ_=>Option<|D×F) (Z (.tuple #[],H))
   (λa=>aK (H.write a.block a.off<|oL z p.2.1) λC=>Z (.tuple #[],C)) p.1
def Jz(P:aS)(ats:List aG)(args:List D)(H:F):Option (D×F):=
 aK (nth ats 0) λt=>aK (nth args 0) λx=>aK (uz P t) λ_=>aK (mapOf H x) λes=>Z (.int .i64<|.ofNat<|len es,H)
def EU(args:List D)(H:F):Option (D×F):=
 gd (ay (len args) 1) (aK (nth args 0) λx=>aK (Iz x) λp=>@aN Addr (λ_=>Option<|D×F) (Z (.pointer W,H))
  (λa=>gd (aB 1 p.2.1||(gD p.2.2&&aB 1 p.2.2))<|Z (.pointer<|Z a,H)) p.1)
def Uv(P:aS)(pt:aG)(a:Addr)(n:Nat)(H:F):Option (D×F):=
 aK (P.underlying pt) λd=>aK (ES d) λe=>aK (vI P e) λs=>aK (vE<|H.obj a.block) λw=>
  gd (GX P e&&ay w.ty e&&ay s 1&&aB (aV a.off n) w.n&&aB n 16777216)
   (aK (q_<|Tr.DX top w.cells a.off n) λbs=>Z (.string ⟨⟨bs⟩⟩,
    H.put a.block (.row ⟨w.ty,w.cells,w.n,w.kR,bR (aB w.fz<|aV a.off n) (aV a.off n) w.fz⟩)))
def wL(P:aS)(ats:List aG)(args:List D)(H:F):Option (D×F):=
 gd (ay (len args) 2) (aK (nth ats 0) λpt=>aK (nth args 0) λp=>aK (nth args 1) λnv=>aK (zh nv) λn=>
  @jq (λ_=>Option<|D×F) (gd (ay (qY p).1 1)<|Z (.string ⟨⟨[]⟩⟩,H)) (λ_ _=>aK (qg p) λa=>Uv P pt a n H) n)
def xQ(e:aG)(es:Nat)(n:Nat)(vs:List D)(H:F):D×F:=
 (.slice (Z ⟨H.next,0,W⟩) n<|fI es,H.new<|rowOf e vs)
def xA(q:aG×Nat)(a:Addr)(l c k:Nat)(vs:List D)(H:F):Option (D×F):=
 bR (aB (aV l k) c)
  (aK (H.write a.block (aV a.off<|bL l q.2) vs) λC=>Z (.slice (Z a) (aV l k) c,C))
  (aK (H.read a.block a.off<|bL l q.2) λold=>Z<|xQ q.1 q.2 (aV l k) (app old vs) H)
def sP(q:aG×Nat)(a:Addr)(l c k:Nat)(vs:List D)(H:F):Option (D×F):=
 aK (vE<|H.obj a.block) λw=>gd (ay w.ty q.1&&!w.kR)
  (bR (aB (aV a.off<|bL (aV l k) q.2) w.n)
   (aK (H.write a.block (aV a.off<|bL l q.2) vs) λC=>Z (.slice (Z a) (aV l k) c,C))
   (gd (aB (aV a.off<|bL l q.2) w.n&&aB w.fz (aV a.off<|bL l q.2)&&all' fB vs)
    (Z (.slice (Z ⟨H.next,a.off,W⟩) (aV l k) c,
     (H.put a.block .dead).new (.row ⟨w.ty,Tr.sD top vs (aV a.off<|bL l q.2) w.cells,aV a.off<|bL (aV l k) q.2,aA,w.fz⟩)))))
def O7(q:aG×Nat)(s:D)(p:Option Addr×Nat×Nat)(k:Nat)(vs:List D)(H:F):Option (D×F):=
 @jq (λ_=>Option<|D×F) (Z (s,H)) (λ_ _=>
  @aN Addr (λ_=>Option<|D×F) (gd (ay p.2.1 0&&ay p.2.2 0)<|Z<|xQ q.1 q.2 k vs H)
   (λa=>gd (aB p.2.1 16777216)<|bR (gD p.2.2) (xA q a p.2.1 p.2.2 k vs H)<|gd (ay p.2.2<|fI q.2)<|sP q a p.2.1 p.2.2 k vs H) p.1) k
def ahZ(P:aS)(t t2:aG):Option (aG×Nat):=
 aK (O3 P t) λq=>aK (tI P q.1) λi=>aK (zL P q.1) λ_=>aK (P.underlying t2) λd=>gd (eX (Lc d)&&aB i.bytes 1048576&&aB 1 i.bytes)<|Z q
def C8(P:aS)(ats:List aG)(args:List D)(H:F):Option (D×F):=
 aK (nth ats 0) λt=>aK (nth ats 1) λt2=>aK (nth args 0) λs=>aK (nth args 1) λx=>
  aK (ahZ P t t2) λq=>aK (Iz s) λp=>aK (appended H q.2 x) λe=>gd (aB e.1 16777216)<|O7 q s p e.1 e.2 H
def YW(a b:Option Nat):Bool:=@aN Nat (λ_=>Bool) (eX b) (λx=>@aN Nat (λ_=>Bool) aA (λhc=>ay x hc) b) a
def addrEq(a b:Addr):Bool:=ay a.block b.block&&ay a.off b.off&&eX a.spot&&eX b.spot
def I4(a b:Option Addr):Bool:=@aN Addr (λ_=>Bool) (eX b) (λx=>@aN Addr (λ_=>Bool) aA (λhc=>addrEq x hc) b) a
def YX(x hc:D):Bool:=pX<|aK (qg x) λa=>aK (qg hc) λb=>gd (addrEq a b)<|Z ()
def aeT(x hc:D):Bool:=pX<|aK (Iz x) λa=>aK (Iz hc) λb=>gd (I4 a.1 b.1&&ay a.2.1 b.2.1&&ay a.2.2 b.2.2)<|Z ()
def ah0(x hc:D):Bool:=pX<|aK (Lb x) λa=>aK (Lb hc) λb=>gd (YW a b)<|Z ()
def YY(x hc:D):Bool:=pX<|aK (sK x) λa=>aK (sK hc) λb=>gd (ay (qx a.1) (qx b.1)&&IZ a.2 b.2)<|Z ()
def ah1(x hc:D):Bool:=pX<|aK (jH x) λa=>aK (jH hc) λb=>gd (Au a b)<|Z ()
def ah2(x hc:D):Bool:=pX<|aK (tC x) λa=>aK (tC hc) λb=>gd (qV a b)<|Z ()
def aeU(x hc:D):Bool:=Jr x&&Jr hc&&ay (qY x).1 (qY hc).1
def zV(x hc:D):Bool:=YY x hc||(YX x hc||(aeT x hc||(ah1 x hc||(ah2 x hc||(ah0 x hc||aeU x hc)))))
def AF(av:D->D->Bool)(xs:List D):List D->Bool:=
 @b_ D (λ_=>List D->Bool) (λys=>@b_ D (λ_=>Bool) f (λ_ _ _=>aA) ys)
  (λx _ ih ys=>@b_ D (λ_=>Bool) aA (λhc r _=>bR (av x hc) (ih r) aA) ys) xs
def Uw(av:D->D->Bool)(x hc:D):Bool:=pX<|aK (YO x) λa=>aK (YO hc) λb=>aK (fFn a.1) λg=>aK (fFn b.1) λk=>gd (ay g k&&AF av a.2.1 b.2.1&&AF av a.2.2 b.2.2)<|Z ()
def D4(x hc:D):Bool:=zV x hc||Uw zV x hc
def nI(x hc:D):Bool:=D4 x hc||Uw D4 x hc
def EW(xs:List D):List D->Bool:=
 @b_ D (λ_=>List D->Bool) (λys=>@b_ D (λ_=>Bool) f (λ_ _ _=>aA) ys)
  (λx _ ih ys=>@b_ D (λ_=>Bool) aA (λhc r _=>bR (nI x hc) (ih r) aA) ys) xs
def sameAt(A vn:F)(r off n:Nat):Bool:=pX<|aK (A.read r off n) λx=>aK (vn.read r off n) λhc=>gd (EW x hc)<|Z ()
def xX(c:Nat)(l:List UInt8):Nat->Option Nat:=
 @b_ UInt8 (λ_=>Nat->Option Nat) (λ_=>W) (λb _ ih k=>bR (ay b.toNat c) (Z k)<|ih<|bU k) l
def countB(c:Nat)(l:List UInt8):Nat:=@b_ UInt8 (λ_=>Nat) 0 (λb _ n=>bR (ay b.toNat c) (bU n) n) l
def RG(o:Option Nat):D:=@aN Nat (λ_=>D) (.int .i64 (-1)) (λk=>.int .i64<|.ofNat k) o
def JA(args:List D):Option (ByteArray×Nat):=
 aK (nth args 0) λs=>aK (tC s) λb=>aK (nth args 1) λc=>aK (sK c) λp=>aK (Jq p.2) λn=>gd (IA p.1&&aB n 255&&ay (len args) 2)<|Z (b,n)
def Wm(P:aS)(code:Nat)(rt:List aG)(args:List D)(H:F):Option (D×F):=
 bR (ay code 1) (gd (ay (len args) 1)<|aK (nth args 0) λx=>Z (x,H))
  (bR (ay code 2) (gd (ay (len args) 1) (aK (nth args 0) λx=>aK (sK x) λp=>aK (Jq p.2) λn=>aK (nth rt 0) λt=>aK (O3 P t) λq=>
   gd (DD p.1&&aB n 16777216&&ay q.2 1) (Z (.slice (Z ⟨H.next,0,W⟩) n<|fI 1,H.new<|.row ⟨q.1,.nil,n,aA,0⟩))))
   (bR (ay code 3) (aK (JA args) λx=>Z (RG<|xX x.2 x.1.data.toList 0,H))
    (bR (ay code 4) (aK (JA args) λx=>Z (.int .i64<|.ofNat<|countB x.2 x.1.data.toList,H)) W)))
structure St where
 nl:Nat
 nt:Nat
 reg:List (Nat×D)
 tm:Tr D
 df:List Deferred
 H:F
def gQ(m i:Nat):Bool:=ay (Nat.mod (Nat.shiftRight m i) 2) 1
def look(l:List<|Nat×D):Nat->D:=
 @b_ (Nat×D) (λ_=>Nat->D) (λ_=>top) (λp _ ih t=>bR (ay p.1 t) p.2<|ih t) l
def ig(s:St)(t:Nat):D:=bR (gQ s.nl t) (s.tm.get top t)<|look s.reg t
def ev(s:St)(x:bO):D:=
 @Operand.rec (λ_=>St->D) (λt s=>ig s t) (λv _=>v) (λg _=>.pointer<|Z ⟨g,0,W⟩) (λav _=>.func (.func av) #[] #[]) x s
def IB(s:St)(x:Option bO):Option D:=@aN bO (λ_=>Option D) W (λx=>Z<|ev s x) x
def Nl(s:St)(ps:Array<|Nat×bO):List (Nat×D):=mp (λp=>(p.1,ev s p.2)) ps.toList
def qi(s:St)(d:Nat)(v:D)(H:F):St:=
 bR (gQ s.nl d) ⟨s.nl,s.nt,s.reg,bR (aB (bU d) s.nt) (s.tm.set top d v) s.tm,s.df,H⟩ ⟨s.nl,s.nt,(d,v)::s.reg,s.tm,s.df,H⟩
def jg(s:St)(d:Option Nat)(v:D)(H:F):St:=
 @aN Nat (λ_=>St) ⟨s.nl,s.nt,s.reg,s.tm,s.df,H⟩ (λd=>qi s d v H) d
abbrev kM:=FuncId->List D->F->Option (D×F)
inductive R3 where
 |fail
 |BP(v:D)
 |mem(v:D)(H:F)
def rp(o:Option D):R3:=@aN D (λ_=>R3) .fail .BP o
def rm(o:Option<|D×F):R3:=@aN (D×F) (λ_=>R3) .fail (λp=>.mem p.1 p.2) o
def rpm(o:Option D)(q:R3):R3:=@aN D (λ_=>R3->R3) (λq=>q) (λv _=>.BP v) o q
def isU(v:D):Bool:=@aN (List D) (λ_=>Bool) aA (λl=>ay (len l) 0)<|YP v
def AJ(ops:Array Oper)(s:St)(j:Nat):Option (Option Bool):=
 aK (nth ops.toList j) λo=>aK o.dst λt=>
  @aN Bool (λ_=>Option<|Option Bool) (gd (isU<|ig s t)<|Z W) (λb=>Z<|Z b) (jH<|ig s t)
def L_(ops:Array Oper)(s:St)(g:Nat×Bool):Option Bool:=
 aK (AJ ops s g.1) λhc=>Z<|@aN Bool (λ_=>Bool) aA (λb=>Au b g.2) hc
def qy(ops:Array Oper)(s:St)(g:Option<|Nat×Bool):Option Bool:=
 @aN (Nat×Bool) (λ_=>Option Bool) (Z f) (λg=>L_ ops s g) g
def methodOf(P:aS)(t:aG)(name:String):Option (FuncId×Bool):=
 aK (P.info? t) λi=>aK (i.methods.toList.find? (·.name==name)) λm=>aK m.func λq=>aK (P.underlying t) λd=>
  gd (ay (len m.path.toList) 0&&(bR q.2 (ay (xy d) 1)<|!(ay (xy d) 1))) (Z q)
def nC(c:Callee):aS->St->Option (FuncId×List D×List D):=
 @Callee.rec (λ_=>aS->St->Option (FuncId×List D×List D))
  (λav _ s=>aK (YO<|ev s av) λq=>aK (fFn q.1) λg=>Z (g,q.2))
  (λr name P s=>aK (DY<|ev s r) λp=>aK (methodOf P p.1 name) λq=>Z (q.1,[p.2],[]))
  (λ_ _ _=>W) c
def isBuiltin(c:Callee):Option Builtin:=@Callee.rec (λ_=>Option Builtin) (λ_=>W) (λ_ _=>W) (λb=>Z b) c
def zW(b:Builtin):List aG->List D->aS->F->R3:=
 @Builtin.rec (λ_=>List aG->List D->aS->F->R3)
  (λats args P H=>rm<|C8 P ats args H) (λ_ _ _ _=>.fail) (λats args P H=>rm<|F8 P ats args H) (λ_ _ _ _=>.fail) (λ_ _ _ _=>.fail) (λats args P H=>rm<|L9 P ats args H) (λ_ _ _ _=>.fail) (λ_ _ _ _=>.fail) (λats args P H=>rpm (one (Ju P) ats args)<|rm<|Jz P ats args H) (λ_ _ _ _=>.fail) (λ_ args _ _=>rp<|O6 f args) (λ_ args _ _=>rp<|O6 aA args) (λ_ _ _ _=>.fail) (λ_ _ _ _=>.fail) (λ_ _ _ _=>.fail) (λ_ _ _ _=>.fail) (λ_ _ _ _=>.fail) (λ_ _ _ _=>.fail) (λ_ _ _ _=>.fail) (λ_ _ _ _=>.fail) (λ_ args _ H=>rm<|EU args H) (λats args P H=>rm<|wL P ats args H) (λ_ _ _ _=>.fail) (λ_ _ _ _=>.fail) (λ_ _ _ _=>.fail) (λ_ _ _ _=>.fail) b
def wu(c:Call)(P:aS)(cf:kM)(s:St):R3:=
 @aN Builtin (λ_=>R3)
  (rm<|aK (nC c.callee P s) λq=>cf q.1 (app q.2.1<|app (mp (ev s) c.args.toList) q.2.2) s.H)
  (λb=>zW b c.argTypes.toList (mp (ev s) c.args.toList) P s.H) (isBuiltin c.callee)
def yh(o:Op):aS->kM->St->R3:=
 @Op.rec (λ_=>aS->kM->St->R3)
  (λx _ _ s=>.BP<|ev s x) (λx _ _ s=>.BP<|ev s x) (λc a b _ _ s=>rp<|Jt (ev s c) (ev s a)<|ev s b) (λe P _ s=>rm<|Cf P e s.H) (λe x _ _ s=>rm<|Jv e (ev s x) s.H) (λt ps P _ s=>rp<|AB P t<|Nl s ps) (λt n ps P _ s=>rm<|sO P t n (Nl s ps) s.H) (λ_ _ _ _ _ _ _=>.fail) (λt x P _ s=>rm<|vJ P t (ev s x) s.H) (λt x v P _ s=>rm<|yI P t (ev s x) (ev s v) s.H) (λ_ _ _ _=>.fail) (λ_ _ _ _=>.fail) (λx _ _ s=>rp<|Nk<|ev s x) (λop t x hc _ P _ s=>rp<|lN P op t x hc (ev s x)<|ev s hc) (λop _ x _ _ s=>rp<|jQ<|Op.unary op<|ev s x) (λa b x P _ s=>rpm (Cb P a b<|ev s x)<|rm<|uh P a b (ev s x) s.H) (λ_ _ _ _ _=>.fail) (λ_ _ _ _ _=>.fail) (λav fi ca _ _ s=>rp<|Z<|.func av ⟨mp (ev s) fi.toList⟩ ⟨mp (ev s) ca.toList⟩) (λt r P _ s=>rm<|uB P t (IB s r) s.H) (λ_ _ _ _ _=>.fail) (λt l c P _ s=>rm<|qh P t (ev s l) (ev s c) s.H) (λt x lo hi mx P _ s=>rp<|zM P t (ev s x) (IB s lo) (IB s hi)<|IB s mx) (λt x av P _ s=>rp<|q9 P t (ev s x) av) (λt x av P _ s=>rp<|Ce P t (ev s x) av) (λt x i P _ s=>rp<|q8 P t (ev s x)<|ev s i) (λt x i P _ s=>rp<|Cc P t (ev s x)<|ev s i) (λt x k ok P _ s=>rm<|r_ P t (ev s x) (ev s k) ok s.H) (λt m k v P _ s=>rm<|uN P t (ev s m) (ev s k) (ev s v) s.H) (λ_ _ _ _ _ _=>.fail) (λ_ _ _ _ _ _ _=>.fail) (λ_ _ _ _ _=>.fail) (λ_ _ _ _ _=>.fail) (λ_ _ _ _=>.fail) (λ_ _ _ _ _ _ _=>.fail) (λt i _ _ s=>rp<|uA (ev s t) i) (λc P cf s=>wu c P cf s) (λ_ _ _ _=>.fail) (λ_ _ _ _=>.fail) (λ_ _ _ _=>.fail) (λ_ _ _ _ _=>.fail) (λ_ _ _ _ _ _=>.fail) (λ_ _ _ _ _=>.fail) o
def qM(o:Op):Option Call:=@Op.rec (λ_=>Option Call) (λ_=>W) (λ_=>W) (λ_ _ _=>W) (λ_=>W) (λ_ _=>W) (λ_ _=>W) (λ_ _ _=>W) (λ_ _ _ _=>W) (λ_ _=>W) (λ_ _ _=>W) (λ_=>W) (λ_=>W) (λ_=>W) (λ_ _ _ _ _=>W) (λ_ _ _=>W) (λ_ _ _=>W) (λ_ _=>W) (λ_ _=>W) (λ_ _ _=>W) (λ_ _=>W) (λ_ _=>W) (λ_ _ _=>W) (λ_ _ _ _ _=>W) (λ_ _ _=>W) (λ_ _ _=>W) (λ_ _ _=>W) (λ_ _ _=>W) (λ_ _ _ _=>W) (λ_ _ _ _=>W) (λ_ _ _=>W) (λ_ _ _ _=>W) (λ_ _=>W) (λ_ _=>W) (λ_=>W) (λ_ _ _ _=>W) (λ_ _=>W) (λ_=>W) (λ_=>W) (λc=>Z c) (λ_=>W) (λ_ _=>W) (λ_ _ _=>W) (λ_ _=>W) o
def AL(c:Call)(P:aS)(s:St):Option Deferred:=
 aK (@Callee.rec (λ_=>Option bO) (λav=>Z av) (λ_ _=>W) (λ_=>W) c.callee) λav=>
  aK (YO<|ev s av) λq=>aK (fFn q.1) λg=>Z ⟨.fn (.func g) ⟨q.2.2⟩,⟨app q.2.1<|mp (ev s) c.args.toList⟩⟩
def D5(o:Oper)(s:St)(r:R3):Option St:=
 @R3.rec (λ_=>Option St) W (λv=>Z<|jg s o.dst v s.H) (λv H=>Z<|jg s o.dst v H) r
def zi(P:aS)(cf:kM)(o:Oper)(s:St):Option St:=
 @aN Call (λ_=>Option St) (D5 o s<|yh o.op P cf s)
  (λc=>aK (AL c P s) λd=>Z<|jg ⟨s.nl,s.nt,s.reg,s.tm,d::s.df,s.H⟩ o.dst undef s.H) (qM o.op)
def l7(P:aS)(cf:kM)(ops:Array Oper)(o:Oper)(s:St):Option St:=
 aK (qy ops s o.guard) λb=>bR b (zi P cf o s)<|Z<|jg s o.dst undef s.H
def mF(P:aS)(cf:kM)(ops:Array Oper)(l:List Oper):St->Option St:=
 @b_ Oper (λ_=>St->Option St) Z (λo _ ih s=>aK (l7 P cf ops o s) ih) l
def nN(a b:Nat):Nat:=bR (aB a b) a b
def gW(s:St):St:=⟨s.nl,s.nt,s.reg,s.tm,s.df,⟨s.H.vF,s.H.next,s.H.next⟩⟩
structure Cl where
 k:Nat
 r:Nat
 off:Nat
 n:Nat
 a:F
 b:F
def hh0:F:=⟨.nil,0,0⟩
def cl(k:Nat):Cl:=⟨k,0,0,0,hh0,hh0⟩
def AM(o:Op):Option (bO×bO):=@Op.rec (λ_=>Option<|bO×bO) (λ_=>W) (λ_=>W) (λ_ _ _=>W) (λ_=>W) (λ_ _=>W) (λ_ _=>W) (λ_ _ _=>W) (λ_ _ _ _=>W) (λ_ _=>W) (λ_ a v=>Z (a,v)) (λ_=>W) (λ_=>W) (λ_=>W) (λ_ _ _ _ _=>W) (λ_ _ _=>W) (λ_ _ _=>W) (λ_ _=>W) (λ_ _=>W) (λ_ _ _=>W) (λ_ _=>W) (λ_ _=>W) (λ_ _ _=>W) (λ_ _ _ _ _=>W) (λ_ _ _=>W) (λ_ _ _=>W) (λ_ _ _=>W) (λ_ _ _=>W) (λ_ _ _ _=>W) (λ_ _ _ _=>W) (λ_ _ _=>W) (λ_ _ _ _=>W) (λ_ _=>W) (λ_ _=>W) (λ_=>W) (λ_ _ _ _=>W) (λ_ _=>W) (λ_=>W) (λ_=>W) (λ_=>W) (λ_=>W) (λ_ _=>W) (λ_ _ _=>W) (λ_ _=>W) o
def F9(o:Op):Option (aG×bO):=@Op.rec (λ_=>Option<|aG×bO) (λ_=>W) (λ_=>W) (λ_ _ _=>W) (λ_=>W) (λ_ _=>W) (λ_ _=>W) (λ_ _ _=>W) (λ_ _ _ _=>W) (λt a=>Z (t,a)) (λ_ _ _=>W) (λ_=>W) (λ_=>W) (λ_=>W) (λ_ _ _ _ _=>W) (λ_ _ _=>W) (λ_ _ _=>W) (λ_ _=>W) (λ_ _=>W) (λ_ _ _=>W) (λ_ _=>W) (λ_ _=>W) (λ_ _ _=>W) (λ_ _ _ _ _=>W) (λ_ _ _=>W) (λ_ _ _=>W) (λ_ _ _=>W) (λ_ _ _=>W) (λ_ _ _ _=>W) (λ_ _ _ _=>W) (λ_ _ _=>W) (λ_ _ _ _=>W) (λ_ _=>W) (λ_ _=>W) (λ_=>W) (λ_ _ _ _=>W) (λ_ _=>W) (λ_=>W) (λ_=>W) (λ_=>W) (λ_=>W) (λ_ _=>W) (λ_ _ _=>W) (λ_ _=>W) o
def zx(o:Op):Bool:=@Op.rec (λ_=>Bool) (λ_=>aA) (λ_=>aA) (λ_ _ _=>aA) (λ_=>f) (λ_ _=>f) (λ_ _=>aA) (λ_ _ _=>f) (λ_ _ _ _=>aA) (λ_ _=>aA) (λ_ _ _=>aA) (λ_=>aA) (λ_=>aA) (λ_=>aA) (λ_ _ _ _ _=>aA) (λ_ _ _=>aA) (λ_ _ _=>aA) (λ_ _=>aA) (λ_ _=>aA) (λ_ _ _=>aA) (λ_ _=>f) (λ_ _=>aA) (λ_ _ _=>f) (λ_ _ _ _ _=>aA) (λ_ _ _=>aA) (λ_ _ _=>aA) (λ_ _ _=>aA) (λ_ _ _=>aA) (λ_ _ _ _=>aA) (λ_ _ _ _=>aA) (λ_ _ _=>aA) (λ_ _ _ _=>aA) (λ_ _=>aA) (λ_ _=>aA) (λ_=>aA) (λ_ _ _ _=>aA) (λ_ _=>aA) (λ_=>aA) (λ_=>aA) (λ_=>aA) (λ_=>aA) (λ_ _=>aA) (λ_ _ _=>aA) (λ_ _=>aA) o
def zy(P:aS)(o:Op)(s:St):Cl:=
 (aK (F9 o) λp=>aK (qg<|ev s p.2) λa=>aK (Yw P p.1) λl=>Z<|Cl.mk 4 a.block a.off (l.getD 1) hh0 hh0).getD (cl 1)
def rM(P:aS)(o:Op)(s:St)(H:F):Cl:=
 @aN (bO×bO) (λ_=>Cl) (bR (aB s.H.next H.low) (bR (zx o) (cl 5)<|zy P o s) ⟨2,0,0,0,s.H,H⟩)
  (λp=>@aN Addr (λ_=>Cl) ⟨2,0,0,0,s.H,H⟩ (λa=>⟨3,a.block,a.off,len<|bI<|ev s p.2,hh0,hh0⟩)<|qg<|ev s p.1) (AM o)
def GY(P:aS)(o:Oper)(s:St)(r:R3):Option (St×Cl):=
 @R3.rec (λ_=>Option<|St×Cl) W (λv=>Z (jg s o.dst v s.H,cl 0))
  (λv H=>Z (jg s o.dst v ⟨H.vF,H.next,nN s.H.low H.low⟩,rM P o.op s H)) r
def kS(P:aS)(cf:kM)(ops:Array Oper)(o:Oper)(s:St):Option (St×Cl):=
 aK (qy ops s o.guard) λb=>bR b (GY P o s<|yh o.op P cf<|gW s)<|Z (jg s o.dst undef s.H,cl 0)
def jd(P:aS)(cf:kM)(ops:Array Oper)(l:List Oper):St->List Cl->Option (St×List Cl):=
 @b_ Oper (λ_=>St->List Cl->Option (St×List Cl)) (λs acc=>Z (s,acc)) (λo _ ih s acc=>aK (kS P cf ops o s) λq=>ih q.1<|q.2::acc) l
def yJ(acc:List Nat)(n:Nat)(l:List Edge):Nat:=
 @b_ Edge (λ_=>Nat) 0 (λe _ r=>bR (fM .any e) (Nat.lor (Nat.lor (Nat.shiftLeft 1 e.on)<|(nth acc<|dA (dA n 1) e.on).getD 0) r) r) l
def sQ(l:List Oper):List Nat->Nat->List Nat:=
 @b_ Oper (λ_=>List Nat->Nat->List Nat) (λacc _=>acc) (λo _ ih acc n=>ih (yJ acc n o.after.toList::acc)<|bU n) l
def wM(l:List Oper):Nat->Bool:=
 @b_ Oper (λ_=>Nat->Bool) (λ_=>f) (λo _ ih n=>bR (all' (λe=>!(fM .any e)||aB (bU e.on) n) o.after.toList) (ih<|bU n) aA) l
def je{α:Type}(av:α->α->Bool->Bool)(x:α)(m:Nat)(l:List α):Bool:=@b_ α (λ_=>Bool) f (λhc r ih=>bR (av x hc<|gQ m<|len r) ih aA) l
def pairs{α:Type}(av:α->α->Bool->Bool)(ms:List Nat):List α->Bool:=
 @b_ Nat (λ_=>List α->Bool) (λ_=>f) (λm _ ih xs=>@b_ α (λ_=>Bool) f
  (λx r _=>bR (je av x m r) (ih r) aA) xs) ms
def oN(ops:Array Oper):Bool:=wM ops.toList 0&&pairs (λhc x b=>b||x.apart ops hc) (sQ ops.toList [] 0) (ops.toList.reverse)
def xR(x hc:Cl):Bool:=!(ay x.r hc.r)||aB (aV x.off x.n) hc.off||aB (aV hc.off hc.n) x.off
def mY(w l:Cl):Bool:=sameAt w.a w.b l.r l.off l.n
def fF(hc x:Cl)(b:Bool):Bool:=
 bR (ay hc.k 0||ay x.k 0||ay hc.k 5||ay x.k 5) f
  (bR (ay x.k 3) (bR (ay hc.k 3) (b||xR x hc)<|ay hc.k 4&&(b||xR x hc))
   (bR (ay hc.k 3) (b||(ay x.k 4&&xR x hc))
    (bR (ay x.k 4) (bR (ay hc.k 2) (b||mY hc x) f)
     (bR (ay hc.k 4) (bR (ay x.k 2) (b||mY x hc) f)
      (bR (ay x.k 1&&ay hc.k 1) f b)))))
def noTwo(l:List Cl):Bool:=all' (λx=>!(ay x.k 2||ay x.k 3)) l
def jI(ops:Array Oper)(cls:List Cl):Bool:=bR (noTwo cls) f<|pairs fF (sQ ops.toList [] 0) cls
def agb(o:Op):Bool:=@Op.rec (λ_=>Bool) (λ_=>f) (λ_=>f) (λ_ _ _=>f) (λ_=>f) (λ_ _=>f) (λ_ _=>f) (λ_ _ _=>f) (λ_ _ _ _=>f) (λ_ _=>f) (λ_ _ _=>f) (λ_=>f) (λ_=>f) (λ_=>f) (λ_ _ _ _ _=>f) (λ_ _ _=>f) (λ_ _ _=>f) (λ_ _=>f) (λ_ _=>f) (λ_ _ _=>f) (λ_ _=>f) (λ_ _=>f) (λ_ _ _=>f) (λ_ _ _ _ _=>f) (λ_ _ _=>f) (λ_ _ _=>f) (λ_ _ _=>f) (λ_ _ _=>f) (λ_ _ _ _=>f) (λ_ _ _ _=>f) (λ_ _ _=>f) (λ_ _ _ _=>f) (λ_ _=>f) (λ_ _=>f) (λ_=>f) (λ_ _ _ _=>f) (λ_ _=>f) (λ_=>f) (λ_=>f) (λ_=>f) (λ_=>f) (λ_ _=>f) (λ_ _ _=>f) (λ_ _=>aA) o
def j4(ops:Array Oper):Bool:=all' (λo=>eX (qM o.op)&&agb o.op) ops.toList
inductive Out where
 |fail
 |norm(s:St)
 |exit(id:Nat)(s:St)
 |goto(l:Nat)(s:St)
 |ret(s:St)
def andThen(o:Out)(k:St->Out):Out:=
 @Out.rec (λ_=>(St->Out)->Out) (λ_=>.fail) (λs k=>k s) (λid s _=>.exit id s) (λl s _=>.goto l s) (λs _=>.ret s) o k
def GZ(c:Option Bool)(x hc:Out):Out:=@aN Bool (λ_=>Out) .fail (λb=>bR b x hc) c
def wN(id:Nat)(o:Out):Out:=
 @Out.rec (λ_=>Nat->Out) (λ_=>.fail) (λs _=>.norm s) (λi s id=>bR (ay i id) (.norm s)<|.exit i s) (λl s _=>.goto l s) (λs _=>.ret s) o id
def xB(n:Nat)(av:St->Out):St->Out:=@jq (λ_=>St->Out) (λ_=>.fail) (λ_ ih s=>andThen (av s) ih) n
def ah3(o:Out)(k:Nat->St->Out):Out:=
 @Out.rec (λ_=>(Nat->St->Out)->Out) (λ_=>.fail) (λs _=>.norm s) (λi s _=>.exit i s) (λl s k=>k l s) (λs _=>.ret s) o k
def nE(cx:Code->St->Out)(n:Nat)(body:Code):Out->Out:=
 @jq (λ_=>Out->Out) (λ_=>.fail) (λ_ ih o=>ah3 o λl s=>@aN Code (λ_=>Out) (.goto l s) (λrest=>ih<|cx rest s)<|findLabel body l) n
def G4(o:Option St):Out:=@aN St (λ_=>Out) .fail .norm o
def clear(s:St):St:=⟨s.nl,s.nt,[],s.tm,s.df,s.H⟩
def uW(ops:Array Oper)(o:Option<|St×List Cl):Out:=
 @aN (St×List Cl) (λ_=>Out) .fail (λq=>bR (jI ops q.2) (.norm q.1) .fail) o
def region(P:aS)(cf:kM)(ops:Array Oper)(draw:Bool)(s:St):Out:=
 bR draw (bR (j4 ops&&oN ops) (uW ops<|jd P cf ops ops.toList (clear s) []) .fail) (G4<|mF P cf ops ops.toList<|clear s)
def exec(P:aS)(cf:kM)(cx:Code->St->Out)(n:Nat)(c:Code):St->Out:=
 @Code.rec (λ_=>St->Out)
  (λs=>.norm s)
  (λ_ ops draw s=>region P cf ops draw s)
  (λ_ _ ia ib s=>andThen (ia s) ib)
  (λc _ _ ix iy s=>GZ (jH<|ev s c) (ix s)<|iy s)
  (λid _ ih s=>wN id<|ih s)
  (λ_ ih s=>xB n ih s)
  (λ_ _ _ _ _ _=>λ_=>.fail)
  (λid s=>.exit id s)
  (λc ih s=>nE cx n c<|ih s)
  (λ_ s=>.norm s)
  (λl s=>.goto l s)
  (λs=>.ret s)
  (λ_=>λ_=>.fail) c
def C9(P:aS)(s:St)(r:ResultVar):Option D:=
 @ResultVar.rec (λ_=>Option D) (λt=>Z<|ig s t) (λa t=>aK (vJ P t (ig s a) s.H) λp=>Z p.1) r
def kZ(P:aS)(s:St)(l:List ResultVar):Option (List D):=
 @b_ ResultVar (λ_=>Option<|List D) (Z []) (λr _ q=>aK (C9 P s r) λv=>aK q λvs=>Z<|v::vs) l
def rV(vs:List D):D:=bR (ay (len vs) 1) ((nth vs 0).getD undef)<|.tuple ⟨vs⟩
def Nn(o:Out):Option St:=@Out.rec (λ_=>Option St) W (λs=>Z s) (λ_ _=>W) (λ_ _=>W) (λs=>Z s) o
def G5(P:aS)(fn:Func)(s:St):Option (D×F):=
 gd (ay (len s.df) 0) (aK (kZ P s fn.results.toList) λvs=>Z (rV vs,s.H))
def YZ(m t:Nat):Nat:=Nat.lor m<|Nat.shiftLeft 1 t
def agc(x:bO):Option Nat:=@Operand.rec (λ_=>Option Nat) Z (λ_=>W) (λ_=>W) (λ_=>W) x
def agd(l:List bO)(p:Nat×Nat):Nat:=
 @b_ bO (λ_=>Nat) p.1 (λx _ r=>@aN Nat (λ_=>Nat) r (λt=>bR (gQ p.2 t) r<|YZ r t)<|agc x) l
def Y0(l:List Oper):Nat×Nat->Nat×Nat:=
 @b_ Oper (λ_=>Nat×Nat->Nat×Nat) (λp=>p)
  (λo _ ih p=>ih (agd o.op.operands.toList p,@aN Nat (λ_=>Nat) p.2 (YZ p.2) o.dst)) l
def Wo(c:Code):Nat:=@Code.rec (λ_=>Nat) (0)
 (λ_ ops _=>(Y0 ops.toList (0,0)).1)
 (λ_ _ a b=>Nat.lor a b)
 (λ_ _ _ a b=>Nat.lor a b)
 (λ_ _ a=>a)
 (λ_ a=>a)
 (λ_ _ _ _ _ _=>0)
 (λ_=>0)
 (λ_ a=>a)
 (λ_=>0)
 (λ_=>0)
 (0)
 (λ_=>0) c
def Y2(l:List ResultVar):Nat:=@b_ ResultVar (λ_=>Nat) 0 (λr _ n=>YZ n<|@ResultVar.rec (λ_=>Nat) (λt=>t) (λa _=>a) r) l
def jm(P:aS)(g:FuncId):Nat:=@aN Func (λ_=>Nat) 0 (λfn=>Nat.lor (Y2 fn.results.toList)<|@aN Code (λ_=>Nat) 0 Wo fn.body)<|nth P.funcs.toList g
structure Lv where
 ca:kM
 cx:Code->St->Out
def Wp(P:aS)(L:Lv)(n:Nat)(g x:Nat)(fn:Func)(args:List D)(H:F):Option (D×F):=
 @aN Code (λ_=>Option<|D×F) (Wm P x fn.resultTypes.toList args H)
  (λc=>gd (aB (len args) fn.ntmps)<|aK (Nn<|exec P L.ca L.cx n c ⟨jm P g,fn.ntmps,[],Tr.sD top args 0 .nil,[],H⟩) λs=>G5 P fn s) fn.body
structure Xt where
 c:FuncId->Nat
 o:FuncId->List D->F->Option (D×F)
instance:CoeFun Xt (λ_=>FuncId->Nat):=⟨Xt.c⟩
def orO(o d:Option<|D×F):Option (D×F):=@aN (D×F) (λ_=>Option<|D×F) d Z o
def AO(P:aS)(X:Xt)(L:Lv)(n:Nat)(g:FuncId)(args:List D)(H:F):Option (D×F):=
 orO (X.o g args H) (aK (nth P.funcs.toList g) λfn=>Wp P L n g (X g) fn args H)
def lv(P:aS)(X:Xt)(n:Nat):Lv:=
 @jq (λ_=>Lv) ⟨λ_ _ _=>W,λ_ _=>.fail⟩ (λm L=>⟨AO P X L m,exec P L.ca L.cx m⟩) n
def j5(P:aS)(X:Xt)(n:Nat):kM:=(lv P X n).ca
structure Loc where
 c:Nat
 lo:Nat
 base:Nat
 tot:Nat
 n:Nat
abbrev Mp:=Nat->Option Loc
variable{m m':Mp}
def Mp.le(m m':Mp):Prop:=∀r l,m r=Z l->m' r=Z l
mutual
inductive VR(m:Mp):D->D->Prop where
 |sc (v:D) (h:mU v=f):VR m v v
 |top (v:D):VR m top v
 |ptr (r off:Nat) (l:Loc) (h:m r=Z l) (hl:l.lo<=off):VR m (.pointer<|Z ⟨r,off,W⟩) (.pointer<|Z ⟨l.c,l.base+(off-l.lo),W⟩)
 |slice (r off n cp:Nat) (l:Loc) (h:m r=Z l) (hl:l.lo<=off) (hk:gD cp=f) (hn:n<=cp):
  VR m (.slice (Z ⟨r,off,W⟩) n cp) (.slice (Z ⟨l.c,l.base+(off-l.lo),W⟩) n cp)
 |rW (r off n es cc:Nat) (l:Loc) (h:m r=Z l) (hl:l.lo<=off) (he:0<es) (ht:l.base+(off-l.lo)+cc*es=l.tot) (y:n<=cc) (hN:l.n<=off+cc*es):
  VR m (.slice (Z ⟨r,off,W⟩) n<|fI es) (.slice (Z ⟨l.c,l.base+(off-l.lo),W⟩) n cc)
 |vK (a a':Addr):VR m (.slice (Z a) 0 0) (.slice (Z a') 0 0)
 |tH (r off es:Nat) (a':Addr) (l:Loc) (h:m r=Z l) (hl:l.lo<=off) (he:0<es) (hN:l.n<=off):VR m (.slice (Z ⟨r,off,W⟩) 0<|fI es) (.slice (Z a') 0 0)
 |map (r:Nat) (l:Loc) (h:m r=Z l):VR m (.map<|Z r) (.map<|Z l.c)
 |func (av:Fn) (x hc x' y':List D) (J:kT m x x') (hy:kT m hc y'):VR m (.func av ⟨x⟩ ⟨hc⟩) (.func av ⟨x'⟩ ⟨y'⟩)
 |iface (t:aG) (v v':D) (h:VR m v v'):VR m (.iface t v) (.iface t v')
 |agg (x x':List D) (h:kT m x x'):VR m (.agg ⟨x⟩) (.agg ⟨x'⟩)
 |tuple (x x':List D) (h:kT m x x'):VR m (.tuple ⟨x⟩) (.tuple ⟨x'⟩)
inductive kT(m:Mp):List D->List D->Prop where
 |nil:kT m [] []
 |cons (v v':D) (x x':List D) (h:VR m v v') (J:kT m x x'):kT m (v::x) (v'::x')
end
mutual
def VR.mono(hm:Mp.le m m'):∀{v v':D},VR m v v'->VR m' v v'
 |_,_,.sc v h=>.sc v h
 |_,_,.top v=>.top v
 |_,_,.ptr r off l h hl=>.ptr r off l (hm r l h) hl
 |_,_,.slice r off n cp l h hl hk hn=>.slice r off n cp l (hm r l h) hl hk hn
 |_,_,.rW r off n es cc l h hl he ht y hN=>.rW r off n es cc l (hm r l h) hl he ht y hN
 |_,_,.vK a a'=>.vK a a'
 |_,_,.tH r off es a' l h hl he hN=>.tH r off es a' l (hm r l h) hl he hN
 |_,_,.map r l h=>.map r l<|hm r l h
 |_,_,.func av x hc x' y' J hy=>.func av x hc x' y' (kT.mono hm J)<|kT.mono hm hy
 |_,_,.iface t v v' h=>.iface t v v'<|VR.mono hm h
 |_,_,.agg x x' h=>.agg x x'<|kT.mono hm h
 |_,_,.tuple x x' h=>.tuple x x'<|kT.mono hm h
def kT.mono(hm:Mp.le m m'):∀{v v':List D},kT m v v'->kT m' v v'
 |_,_,.nil=>.nil
 |_,_,.cons v v' x x' h J=>.cons v v' x x' (VR.mono hm h)<|kT.mono hm J
end
def kT.length{x x':List D}(h:kT m x x'):x.length=x'.length:=by
 induction x generalizing x' with
 |nil=>cases h;rfl
 |cons v x ih=>cases h with|cons _ v' _ x' h J=>simp[ih J]
def kT.get{x x':List D}(h:kT m x x')(k:Nat)(hv:x[k]?=Z v):∃v',x'[k]?=Z v'/\VR m v v':=by
 induction x generalizing x' k with
 |nil=>simp at hv
 |cons w x ih=>
  cases h with
  |cons _ w' _ x' h J=>
   cases k with
   |zero=>simp at hv;subst hv;exact⟨w',by simp,h⟩
   |succ k=>simpa using ih J k (by simpa using hv)
def kT.append{x x' hc y':List D}(h:kT m x x')(hy:kT m hc y'):kT m (x++hc) (x'++y'):=by
 induction x generalizing x' with
 |nil=>cases h;exact hy
 |cons w x ih=>cases h with|cons _ w' _ x' h J=>exact .cons _ _ _ _ h<|ih J
def kT.take{x x':List D}(h:kT m x x')(k:Nat):kT m (x.take k) (x'.take k):=by
 induction x generalizing x' k with
 |nil=>cases h;simp;exact .nil
 |cons w x ih=>cases h with
  |cons _ w' _ x' h J=>cases k with
   |zero=>simp;exact .nil
   |succ k=>simp;exact .cons _ _ _ _ h<|ih J k
def kT.drop{x x':List D}(h:kT m x x')(k:Nat):kT m (x.drop k) (x'.drop k):=by
 induction x generalizing x' k with
 |nil=>cases h;simp;exact .nil
 |cons w x ih=>cases h with
  |cons _ w' _ x' h J=>cases k with
   |zero=>simp;exact .cons _ _ _ _ h J
   |succ k=>simp;exact ih J k
def kT.set{x x':List D}(h:kT m x x')(k:Nat)(hv:VR m v v'):kT m (x.set k v) (x'.set k v'):=by
 induction x generalizing x' k with
 |nil=>cases h;simp;exact .nil
 |cons w x ih=>cases h with
  |cons _ w' _ x' h J=>cases k with
   |zero=>simp;exact .cons _ _ _ _ hv J
   |succ k=>simp;exact .cons _ _ _ _ h<|ih J k
def kT.mU:∀{x:List D},x.all mU=f->kT m x x
 |[],_=>.nil
 |v::x,h=>by simp at h;exact .cons _ _ _ _ (.sc v h.1)<|kT.mU (by simpa using h.2)
def o8(h:qg v=Z a):v=.pointer (Z a):=by
 cases v<;>simp[qg]at h<;>simp[h]
def oO(h:jH v=Z b):v=.bool b:=by
 cases v<;>simp[jH]at h<;>simp[h]
def pY{p:fu×Int}(h:sK v=Z p):v=.int p.1 p.2:=by
 cases v<;>simp[sK]at h<;>simp[<-h]
def Nq{n:Int}(h:Jq n=Z k):n=k:=by
 cases n<;>simp[Jq]at h;simp[h]
def C_(h:zh v=Z n):∃k,v=.int k n:=by
 cases v<;>simp[zh]at h
 case int k m=>exact⟨k,by rw[Nq h]⟩
def o9{b:ByteArray}(h:tC v=Z b):v=.string b:=by
 cases v<;>simp[tC]at h<;>simp[h]
def wO{p:Option Addr×Nat×Nat}(h:Iz v=Z p):v=.slice p.1 p.2.1 p.2.2:=by
 cases v<;>simp[Iz]at h<;>simp[<-h]
def Da{p:Option Nat}(h:Lb v=Z p):v=.map p:=by
 cases v<;>simp[Lb]at h<;>simp[h]
def Nr{p:Fn×List D×List D}(h:YO v=Z p):v=.func p.1 ⟨p.2.1⟩ ⟨p.2.2⟩:=by
 cases v<;>simp[YO]at h<;>simp[<-h]
def tJ{p:List D}(h:wm v=Z p):v=.agg ⟨p⟩:=by
 cases v<;>simp[wm]at h<;>simp[<-h]
def ac7{p:List D}(h:YP v=Z p):v=.tuple ⟨p⟩:=by
 cases v<;>simp[YP]at h<;>simp[<-h]
def Wq{p:aG×D}(h:DY v=Z p):v=.iface p.1 p.2:=by
 cases v<;>simp[DY]at h<;>simp[<-h]
def Ns{av:Fn}{g:FuncId}(h:fFn av=Z g):av=.func g:=by
 cases av<;>simp[fFn]at h<;>simp[h]
section inv
def VR.of_bool(h:VR m (.bool b) v):v=.bool b:=by cases h;rfl
def VR.of_int{k:fu}{n:Int}(h:VR m (.int k n) v):v=.int k n:=by cases h;rfl
def VR.vL{b:ByteArray}(h:VR m (.string b) v):v=.string b:=by cases h;rfl
def VR.wP{x:List D}(h:VR m (.agg ⟨x⟩) v):∃x',v=.agg ⟨x'⟩/\kT m x x':=by
 cases h with
 |sc _ h=>simp[Ae.mU]at h
 |agg _ x' h=>exact⟨x',O,h⟩
def VR.Nt{x:List D}(h:VR m (.tuple ⟨x⟩) v):∃x',v=.tuple ⟨x'⟩/\kT m x x':=by
 cases h with
 |sc _ h=>simp[Ae.mU]at h
 |tuple _ x' h=>exact⟨x',O,h⟩
def VR.O8(h:VR m (.iface t x) v):∃x',v=.iface t x'/\VR m x x':=by
 cases h with
 |sc _ h=>simp[Ae.mU]at h
 |iface _ _ x' h=>exact⟨x',O,h⟩
def VR.Y3{av:Fn}{x hc:List D}(h:VR m (.func av ⟨x⟩ ⟨hc⟩) v):∃x' y',v=.func av ⟨x'⟩ ⟨y'⟩/\kT m x x'/\kT m hc y':=by
 cases h with
 |sc _ h=>simp[Ae.mU]at h
 |func _ _ _ x' y' J hy=>exact⟨x',y',O,J,hy⟩
def VR.sS(h:VR m (.pointer<|Z a) v):∃l,m a.block=Z l/\l.lo<=a.off/\a.spot=W/\v=.pointer (Z ⟨l.c,l.base+(a.off-l.lo),W⟩):=by
 cases h with
 |sc _ h=>simp[Ae.mU,eX]at h
 |ptr r off l h hl=>exact⟨l,h,hl,O,O⟩
def VR.of_map{r:Nat}(h:VR m (.map<|Z r) v):∃l,m r=Z l/\v=.map (Z l.c):=by
 cases h with
 |sc _ h=>simp[Ae.mU,eX]at h
 |map r l h=>exact⟨l,h,O⟩
def VR.vM(h:VR m v v')(hs:mU v=f):v'=v:=by
 cases h<;>first|rfl|(simp[Ae.mU,eX,Ae.top]at hs)
def kT.vM{x x':List D}(h:kT m x x')(hs:x.all Ae.mU=f):x'=x:=by
 induction x generalizing x' with
 |nil=>cases h;rfl
 |cons w x ih=>cases h with
  |cons _ w' _ x' h J=>simp at hs;rw[VR.vM h hs.1,ih J<|by simpa using hs.2]
theorem VR.fB{v v':D}(h:VR m v v')(hs:fB v=f):v'.cells=#[v']/\(∀x,v'≠.agg x)/\(∀x,v'≠.tuple x):=by
 cases h<;>first
  |(rename_i hv;cases v<;>simp[Ae.fB,Value.cells]at hs|-)
  |(simp[Value.cells];done)
  |(simp[Ae.fB,Ae.top]at hs;done)
end inv
def age(h:dSl d=Z e):d=.slice e:=by cases d<;>simp[dSl]at h;rw[h]
def I5(h:ES d=Z e):d=.pointer e:=by cases d<;>simp[ES]at h;rw[h]
def Nu{e:Nat×aG}(h:O1 d=Z e):d=.array e.1 e.2:=by cases d<;>simp[O1]at h;rw[<-h]
def ac8{e:aG×aG}(h:aga d=Z e):d=.map e.1 e.2:=by cases d<;>simp[aga]at h;rw[<-h]
def RJ{e:List Field}(h:Ni d=Z e):d=.struct ⟨e⟩:=by cases d<;>simp[Ni]at h;rw[<-h]
def EX(h:BO d=f):d=.string:=by cases d<;>simp[BO]at h;rfl
def Ux{k:fu}(h:Lc d=Z k):d=.int k:=by cases d<;>simp[Lc]at h;rw[h]
def Ws{k:FloatKind}(h:FZ d=Z k):d=.float k:=by cases d<;>simp[FZ]at h;rw[h]
def ac9{k:fu}(h:IA k=f):k=.u8:=by cases k<;>simp[IA]at h;rfl
theorem zX{k k':fu}(h:ay (qx k) (qx k')=f):k=k':=by cases k<;>cases k'<;>first|rfl|cases h
def qN{P:aS}{s:Nat}(h:vI P t=Z s):∃i,P.info? t=Z i/\i.size=s:=by
 obtain⟨i,hi,h⟩:=aI h;cases h;exact⟨i,hi,O⟩
def AP{P:aS}{q:aG×Nat}(h:O3 P t=Z q):P.underlying t=Z (.slice q.1)/\(∃i,P.info? q.1=Z i/\i.size=q.2)/\1<=q.2:=by
 obtain⟨d,hd,h⟩:=aI h;obtain⟨e,he,h⟩:=aI h;obtain⟨s,hs,h⟩:=aI h;obtain⟨Q,h⟩:=fH h;cases h;exact⟨by rw[hd,age he],qN hs,aD Q⟩
def I6{P:aS}{q:Nat×aG×Nat}(h:O4 P t=Z q):P.underlying t=Z (.array q.1 q.2.1)/\(∃i,P.info? q.2.1=Z i/\i.size=q.2.2)/\1<=q.2.2:=by
 obtain⟨d,hd,h⟩:=aI h;obtain⟨e,he,h⟩:=aI h;obtain⟨s,hs,h⟩:=aI h;obtain⟨Q,h⟩:=fH h;cases h;exact⟨by rw[hd,Nu he],qN hs,aD Q⟩
def I7{P:aS}{q:aG×aG}(h:uz P t=Z q):P.underlying t=Z (.map q.1 q.2):=by
 obtain⟨d,hd,h⟩:=aI h;rw[hd,ac8 h]
def Ma{P:aS}(h:F3 P t=f):P.underlying t=Z .string:=by
 unfold F3 at h;cases hd:P.underlying t with
 |none=>rw[hd]at h;cases h
 |some d=>rw[hd]at h;rw[EX h]
def O9{P:aS}(h:GX P t=f):P.underlying t=Z (.int .u8):=by
 unfold GX at h;cases hd:P.underlying t with
 |none=>rw[hd]at h;cases h
 |some d=>
  rw[hd]at h;cases hk:Lc d with
  |none=>simp[hk]at h
  |some k=>simp[hk]at h;rw[Ux hk,ac9 h]
def RL{P:aS}(h:Yw P t=Z l):
 ∃d i,P.underlying t=Z d/\P.info? t=Z i/\((RA d=f/\l=Z i.size)\/(RA d=aA/\l=W)):=by
 obtain⟨d,hd,h⟩:=aI h;obtain⟨s,hs,h⟩:=aI h;obtain⟨i,hi,rfl⟩:=qN hs;refine⟨d,i,hd,hi,?_⟩;cases ha:RA d<;>simp[ha,bR]at h<;>simp[<-h]
def D6{P:aS}(h:IY P t=Z fs):P.underlying t=Z (.struct ⟨fs⟩):=by
 obtain⟨d,hd,h⟩:=aI h;rw[hd,RJ h]
def Mc{P:aS}{q:Nat×Option Nat}(h:RD P t av=Z q):
 ∃fs fd i,P.underlying t=Z (.struct ⟨fs⟩)/\fs[av]?=Z fd/\fd.offset=q.1/\Yw P fd.type=Z q.2/\P.info? fd.type=Z i/\1<=i.size:=by
 obtain⟨fs,hfs,h⟩:=aI h;obtain⟨fd,hfd,h⟩:=aI h;obtain⟨l,hl,h⟩:=aI h;obtain⟨s,hs,h⟩:=aI h;obtain⟨Q,h⟩:=fH h;cases h;obtain⟨i,hi,rfl⟩:=qN hs;exact⟨fs,fd,i,D6 hfs,by rw[<-om];exact hfd,O,hl,hi,aD Q⟩
def Nv(h:F4 z=f):(bI z).all mU=f:=by
 unfold F4 at h;unfold bI;cases ha:wm z with
 |none=>rw[ha]at h;simpa using h
 |some l=>rw[ha]at h;simpa [all_eq]using h
def Wt(h:F4 z=f):VR m z z:=by
 unfold F4 at h;cases ha:wm z with
 |none=>rw[ha]at h;exact .sc z h
 |some l=>
  rw[ha]at h;rw[tJ ha];exact .agg _ _<|kT.mU (by simpa [all_eq]using h)
def O'{P:aS}(h:xz P t=Z z):(∃i,P.info? t=Z i/\i.zero=Z z)/\F4 z=f:=by
 obtain⟨i,hi,h⟩:=aI h;obtain⟨z',hz,h⟩:=aI h;obtain⟨Q,h⟩:=fH h;cases h;exact⟨⟨i,hi,hz⟩,Q⟩
def Db(v:D):bI v=v.cells.toList:=by
 cases v<;>simp[bI,wm,Value.cells]
def yz{P:aS}(h:zL P t=Z zs):
 ∃i z,P.info? t=Z i/\i.zero=Z z/\zs=z.cells.toList/\zs.length=i.size/\zs.all mU=f:=by
 obtain⟨z,hz,h⟩:=aI h;obtain⟨s,hs,h⟩:=aI h;obtain⟨Q,h⟩:=fH h;cases h;obtain⟨i,hi,rfl⟩:=qN hs;obtain⟨⟨i',hi',hz'⟩,hok⟩:=O' hz;rw[hi]at hi';cases hi';simp only[fQ]at Q;exact⟨i,z,hi,hz',Db z,aT Q,Nv hok⟩
section run
variable{P:aS}
def eY(h:P.underlying t=Z d):(underlying t).run P w=.ok d w:=by simp[underlying,h]
def yK(h:P.info? t=Z i):(typeInfo t).run P w=.ok i w:=by simp[typeInfo,h]
def jJ(h:P.info? t=Z i):(sizeOf t).run P w=.ok i.size w:=by simp[sizeOf,yK h]
def yL(h:P.info? t=Z i)(hz:i.zero=Z z):(zeroValue t).run P w=.ok z w:=by simp[zeroValue,yK h,hz]
def wQ(h:P.underlying t=Z d):(isAgg t).run P w=.ok (RA d) w:=by
 simp only[isAgg,cB,eY h,bN];cases d<;>rfl
end run
section ops
variable{P:aS}
def Uy{cs':List D}{off:Nat}(h:apart l E off=Z v)(hl:Yw P t=Z l)(y:kT m E cs'):
 ∃v',VR m v v'/\∀w,(part t ⟨cs'⟩ off).run P w=.ok v' w:=by
 obtain⟨d,i,hd,hi,hk⟩:=RL hl;rcases hk with⟨ha,rfl⟩|⟨ha,rfl⟩
 .obtain⟨Q,h⟩:=fH h;cases h;refine⟨.agg ⟨(cs'.drop off).take i.size⟩,?_,λw=>?_⟩
  .rw[GV,LZ];exact .agg _ _<|(y.drop off).take _
  .simp only[part,cB,wQ hd,ha,bN,kE,jJ hi,dF];simp[GV,LZ,List.take_drop]
 .simp only[apart,om]at h;obtain⟨v',hv',R⟩:=y.get off h;refine⟨v',R,λw=>?_⟩;simp[part,wQ hd,ha,hv']
def Dc{es:Nat}(h:gD n=f):n≠fI es:=by
 intro e;rw[e]at h;have:=aD h;unfold fI at this;simp at this;omega
def VR.of_slice(h:VR m (.slice (Z a) n cp) v):
 (∃l cc,m a.block=Z l/\l.lo<=a.off/\a.spot=W/\v=.slice (Z ⟨l.c,l.base+(a.off-l.lo),W⟩) n cc/\
  ((gD cp=f/\cc=cp/\n<=cp)\/(∃es,cp=fI es/\0<es/\l.base+(a.off-l.lo)+cc*es=l.tot/\n<=cc/\l.n<=a.off+cc*es)))\/
 (∃a',n=0/\(cp=0\/∃es l,cp=fI es/\m a.block=Z l/\l.lo<=a.off/\0<es/\l.n<=a.off/\a.spot=W)/\v=.slice (Z a') 0 0):=by
 cases h with
 |sc _ h=>simp[Ae.mU,eX]at h
 |slice r off n cp l h hl hk hn=>exact .inl ⟨l,cp,h,hl,O,O,.inl ⟨hk,O,hn⟩⟩
 |rW r off n es cc l h hl he ht y hN=>exact .inl ⟨l,cc,h,hl,O,O,.inr ⟨es,O,he,ht,y,hN⟩⟩
 |vK a a'=>exact .inr ⟨a',O,.inl O,O⟩
 |tH r off es a' l h hl he hN=>exact .inr ⟨a',O,.inr ⟨es,l,O,h,hl,he,hN,O⟩,O⟩
def VR.uC(h:VR m (.slice W n cp) v):n=0/\cp=0/\v=.slice W 0 0:=by
 cases h with
 |sc _ h=>
  simp[Ae.mU,eX]at h;obtain⟨Q,I⟩:=h;exact⟨Q,I,by rw[Q,I]⟩
def Ny(m:Mp)(r off k:Nat)(l:Loc)(h:m r=Z l)(hl:l.lo<=off):
 VR m (.pointer<|Z ⟨r,off+k,W⟩) (.pointer<|Z<|(⟨l.c,l.base+(off-l.lo),W⟩:Addr).add k):=by
 have he:(⟨l.c,l.base+(off-l.lo),W⟩:Addr).add k=⟨l.c,l.base+(off+k-l.lo),W⟩:=by
  unfold Addr.add;split
  .next h0=>rw[h0,dD]
  .congr 1;show l.base+(off-l.lo)+k=_;omega
 rw[he];exact .ptr r (off+k) l h N
def Nz{i:D}(h:q8 P t x i=Z v)(J:VR m x x')(hi:VR m i i'):
 ∃v',VR m v v'/\∀w,(Instr.indexAt t x' i').run P w=.ok v' w:=by
 replace h:=aI h;obtain⟨k,hk,h⟩:=h;obtain⟨kk,rfl⟩:=C_ hk;have:=hi.of_int;subst this;cases hs:O3 P t with
 |some q=>
  rw[hs]at h;obtain⟨hu,⟨inf,uD,hsz⟩,Q⟩:=AP hs;replace h:=aI h;obtain⟨p,hp,h⟩:=h;replace h:=aI h;obtain⟨a,ha,h⟩:=h;replace h:=fH h;obtain⟨hlt,h⟩:=h;cases h;have hlt:=aD hlt;rw[wO hp,ha]at J;rcases J.of_slice with⟨l,cc,hm,hl,hsp,rfl,_⟩|⟨a',h0,_,_⟩
  .refine⟨_,Ny m a.block a.off (k*q.2) l hm hl,λw=>?_⟩;have I:k<p.2.1:=hlt;simp[Instr.indexAt,asIntOf,eY hu,jJ uD,hsz,I]
  .omega
 |none=>
  rw[hs]at h;replace h:=aI h;obtain⟨q,hq,h⟩:=h;obtain⟨hu,⟨inf,uD,hsz⟩,Q⟩:=I6 hq;replace h:=aI h;obtain⟨a,ha,h⟩:=h;replace h:=fH h;obtain⟨hlt,h⟩:=h;cases h;have hlt:=aD hlt;rw[o8 ha]at J;obtain⟨l,hm,hl,hsp,rfl⟩:=J.sS;refine⟨_,Ny m a.block a.off (k*q.2.2) l hm hl,λw=>?_⟩;have I:k<q.1:=hlt;simp[Instr.indexAt,jv,asIntOf,eY hu,jJ uD,hsz,I]
def Y4{i:D}(h:Cc P t x i=Z v)(J:VR m x x')(hi:VR m i i'):
 ∃v',VR m v v'/\∀w,(Instr.index t x' i').run P w=.ok v' w:=by
 replace h:=aI h;obtain⟨k,hk,h⟩:=h;obtain⟨kk,rfl⟩:=C_ hk;have:=hi.of_int;subst this;cases hs:F3 P t with
 |true=>
  rw[hs]at h;have hu:=Ma hs;replace h:=aI h;obtain⟨s,hp,h⟩:=h;replace h:=aI h;obtain⟨b,hb,h⟩:=h;cases h;rw[o9 hp]at J;have:=J.vL;subst this;rw[om]at hb;refine⟨.int .u8 b.toNat,.sc _ O,λw=>?_⟩
  have hb':s[k]?=Z b:=by
   rw[<-hb];obtain⟨hlt,heq⟩:=bA.1 hb;have hlt':k<s.size:=hlt;rw[getElem?_pos s k hlt'];simp[hb,<-heq];rfl
  simp[Instr.index,asIntOf,eY hu,hb']
 |false=>
  rw[hs]at h;replace h:=aI h;obtain⟨q,hq,h⟩:=h;replace h:=aI h;obtain⟨E,hcs,h⟩:=h;replace h:=aI h;obtain⟨l,hl,h⟩:=h;replace h:=fH h;obtain⟨hlt,h⟩:=h;obtain⟨hu,⟨inf,uD,hsz⟩,Q⟩:=I6 hq;have hlt:=aD hlt;rw[tJ hcs]at J;obtain⟨cs',rfl,y⟩:=J.wP;obtain⟨v',hv',R⟩:=Uy h hl y;refine⟨v',hv',λw=>?_⟩;have I:k<q.1:=hlt;have:=R w;simp only[Nat.mul_eq]at this;simp[Instr.index,asIntOf,eY hu,jJ uD,hsz,I,this]
def NA(h:q9 P t x av=Z v)(J:VR m x x'):
 ∃v',VR m v v'/\∀w,(Instr.fieldAt t x' av).run P w=.ok v' w:=by
 obtain⟨a,ha,h⟩:=aI h;obtain⟨q,hq,h⟩:=aI h;cases h;obtain⟨fs,fd,i,hu,hfd,ho,hl,hi,Q⟩:=Mc hq;rw[o8 ha]at J;obtain⟨l,hm,hlo,hsp,rfl⟩:=J.sS;refine⟨_,Ny m a.block a.off q.1 l hm hlo,λw=>?_⟩;have I:i.size≠0:=by omega
 simp[Instr.fieldAt,eY hu,hfd,jv,fieldPlace,jJ hi,I,ho]
def Y5(h:Ce P t x av=Z v)(J:VR m x x'):
 ∃v',VR m v v'/\∀w,(Instr.field t x' av).run P w=.ok v' w:=by
 obtain⟨E,ha,h⟩:=aI h;obtain⟨q,hq,h⟩:=aI h;obtain⟨fs,fd,i,hu,hfd,ho,hl,hi,Q⟩:=Mc hq;rw[tJ ha]at J;obtain⟨cs',rfl,y⟩:=J.wP;obtain⟨v',hv',R⟩:=Uy h hl y;refine⟨v',hv',λw=>?_⟩;have:=R w;simp[Instr.field,eY hu,hfd,asAgg,ho,this]
end ops
section ops
variable{P:aS}
def yM{s:Sem D}(h:jQ s=Z v):mU v=f/\∀w,s.run P w=.ok v w:=by
 cases s<;>simp only[jQ]at h
 case pure rg=>
  obtain⟨Q,h⟩:=fH h;cases h;exact⟨Q,λw=>rfl⟩
 all_goals cases h
def zN(b:Bool)(x hc:β):bR b x hc=if b=f then x else hc:=by cases b<;>rfl
def Wu(n:Int):nU .i64 n=IntKind.i64.wrap n:=by
 cases n with
 |ofNat k=>
  have e:nU .i64 (.ofNat k)=bR (f&&aB k 9223372036854775807) (.ofNat k) (IntKind.i64.wrap<|.ofNat k):=rfl;rw[e,zN];split
  .next hb=>
   simp only[qG]at hb;have:=aD hb;exact(IntWalk.i64_in _ (by simp;omega)).symm
  .simp only[]
 |negSucc k=>
  have e:nU .i64 (.negSucc k)=bR (f&&aB k 9223372036854775807) (.negSucc k) (IntKind.i64.wrap<|.negSucc k):=rfl;rw[e,zN];split
  .next hb=>
   simp only[qG]at hb;have:=aD hb;exact(IntWalk.i64_in _ N).symm
  .simp only[]
def JB(k:fu)(n:Int):nU k n=k.wrap n:=by
 cases k
 case i64=>exact Wu n
 all_goals cases n<;>simp[nU,DD,zN]
def RN(a b:Int):Ld a b=decide (a<b):=by
 rw[f_];cases a<;>cases b<;>simp[Ld,Nat.ble_eq]<;>omega
def JC(a b:Int):IZ a b=(a==b):=by
 rw[f_];cases a<;>cases b<;>simp[IZ,jG]<;>omega
def JD(a b:Bool):Au a b=(a==b):=by cases a<;>cases b<;>rfl
def Wv:∀(a b:List Nat),Js a b=(a==b):=by
 intro a
 induction a with
 |nil=>intro b;cases b<;>rfl
 |cons x a ih=>
  intro b;cases b with
  |nil=>rfl
  |cons hc b=>
   show bR (ay x hc) (Js a b) aA=_;rw[ih,List.cons_beq_cons,zN]
   by_cases hxy:x=hc
   .subst hxy;simp
   .have:ay x hc=aA:=by rw[<-bY,jG];exact hxy
    simp[this,hxy]
def ada(a b:List UInt8):(u8L a==u8L b)=(a==b):=by
 rw[f_];simp only[u8L,ER,kX];constructor
 .intro h;exact(List.map_inj_right λx hc h=>UInt8.toNat_inj.1 h).1 h
 .intro h;rw[h]
def yN(a b:ByteArray):qV a b=(a.toList==b.toList):=by
 unfold qV;rw[Wv,ada,h_,h_]
def Y6(a b:ByteArray):strLt a b=Op.bytesLess a.toList b.toList:=by
 unfold strLt;rw[h_,h_]
def adb{k:fu}{a b:Int}(h:Wl op k a b=Z v):mU v=f/\∀w,(binOp op t (.int k a)<|.int k b).run P w=.ok v w:=by
 have ps:∀(o:qQ)(s:Sem D),jQ s=Z v->binOp o t (.int k a) (.int k b)=s->mU v=f/\∀w,(binOp o t (.int k a)<|.int k b).run P w=.ok v w:=by
  intro o s Q I;rw[I];exact yM Q
 cases op<;>simp only[Wl]at h
 case quo=>exact ps _ _ h (by simp[binOp])
 case rem=>exact ps _ _ h (by simp[binOp])
 case and=>exact ps _ _ h (by simp[binOp])
 case or=>exact ps _ _ h (by simp[binOp])
 case xor=>exact ps _ _ h (by simp[binOp])
 case andNot=>exact ps _ _ h (by simp[binOp])
 case shl=>cases h
 case shr=>cases h
 all_goals
  cases h;refine⟨O,λw=>?_⟩;simp[binOp,Op.intArith,Op.intCmp,JB,RN,JC]
 case leq=>rw[f_];simp
 case geq=>rw[f_];simp
 all_goals rfl
theorem ade{a b:ByteArray}(h:ac6 op a b=Z v):mU v=f/\∀w,(binOp op t (.string a)<|.string b).run P w=.ok v w:=by
 cases op<;>simp only[ac6]at h
 case add=>
  simp only[YQ]at h;obtain⟨Q,h⟩:=fH h;cases h;refine⟨O,λw=>?_⟩;have I:=aD Q;simp only[fQ]at I
  have h3:¬(((a.size+b.size:Nat):Int)>IntKind.i64.max):=by
   have e1:a.size=a.data.toList.length:=rfl;have e2:b.size=b.data.toList.length:=rfl;have e3:IntKind.i64.max=9223372036854775807:=by decide
   have h4:a.data.toList.length+b.data.toList.length<=4611686018427387904:=I;rw[e1,e2,e3];omega
  have h5:a++b=⟨⟨app a.data.toList b.data.toList⟩⟩:=by
   rw[qd];apply sZ;simp[ByteArray.data_append]
  simp only[binOp,Op.stringOp];rw[if_neg h3,h5];rfl
 all_goals first
  |cases h;done
  |(cases h
    refine⟨O,λw=>?_⟩;simp[binOp,Op.stringOp,yN,Y6])
def Ww(h:RE op t x hc=Z v)(J:VR m x x')(hy:VR m hc y'):
 VR m v v/\∀w,(binOp op t x' y').run P w=.ok v w:=by
 obtain⟨Q,h⟩:=fH h;simp only[aZ]at Q
 have hsx:mU x=f:=by
  have:=aD Q.1;cases x<;>simp[wK]at this<;>rfl
 have hsy:mU hc=f:=by
  have I:=aT Q.2;have:=aD Q.1;rw[I]at this;cases hc<;>simp[wK]at this<;>rfl
 rw[J.vM hsx,hy.vM hsy];obtain⟨a,b⟩:=yM (P:=P) h;exact⟨.sc v a,b⟩
def zY(hd:P.underlying t=Z d)(h:wJ (tF d) x hc=Z b)(J:VR m x x')(hy:VR m hc y'):
 x'=x/\y'=hc/\∀n w,(Op.equalIn (n+1) t x' y').run P w=.ok b w:=by
 cases d<;>simp only[tF]at h
 case int k=>
  have h:(aK (sK x) λa=>aK (sK hc) λb=>gd (ay (qx a.1)<|qx b.1)<|Z<|IZ a.2 b.2)=Z b:=h;obtain⟨p,hp,h⟩:=aI h;obtain⟨q,hq,h⟩:=aI h;obtain⟨hk,h⟩:=fH h;cases h;have e1:=pY hp;have e2:=pY hq;have hk:=zX hk;rw[e1]at J;rw[e2]at hy;have J:=J.of_int;have hy:=hy.of_int;refine⟨by rw[J,e1],by rw[hy,e2],λn w=>?_⟩;rw[J,hy,hk,run_equalIn_int w n t _ k _ _ hd,JC]
 case bool=>
  have h:(aK (jH x) λa=>aK (jH hc) λb=>Z<|Au a b)=Z b:=h;obtain⟨p,hp,h⟩:=aI h;obtain⟨q,hq,h⟩:=aI h;cases h;have e1:=oO hp;have e2:=oO hq;rw[e1]at J;rw[e2]at hy;have J:=J.of_bool;have hy:=hy.of_bool;refine⟨by rw[J,e1],by rw[hy,e2],λn w=>?_⟩;rw[J,hy,run_equalIn_bool' w n t _ _ hd,JD]
 case string=>
  have h:(aK (tC x) λa=>aK (tC hc) λb=>Z<|qV a b)=Z b:=h;obtain⟨p,hp,h⟩:=aI h;obtain⟨q,hq,h⟩:=aI h;cases h;have e1:=o9 hp;have e2:=o9 hq;rw[e1]at J;rw[e2]at hy;have J:=J.vL;have hy:=hy.vL;refine⟨by rw[J,e1],by rw[hy,e2],λn w=>?_⟩;rw[J,hy,run_equalIn_string w n t _ _ hd,yN]
 all_goals cases h
end ops
section ops
variable{P:aS}
def zZ(h:1<=tF d):RA d=aA:=by cases d<;>first|rfl|simp[tF]at h
def uO{av:Field}(h:qZ P (av::fs) k=Z ks):
 ∃d r,P.underlying av.type=Z d/\qZ P fs (k+1)=Z r/\av.offset=k/\av.name≠ "_" /\1<=tF d/\ks=tF d::r:=by
 have h:(aK (P.underlying av.type) λd=>aK (qZ P fs<|k+1) λr=>gd (ay av.offset k&&!(av.name== "_")&&aB 1 (tF d))<|Z<|tF d::r)=Z ks:=h;obtain⟨d,hd,h⟩:=aI h;obtain⟨r,R,h⟩:=aI h;obtain⟨hg,h⟩:=fH h;cases h;simp only[aZ,sF,beq_eq_false_iff_ne]at hg;exact⟨d,r,hd,R,aT hg.1.1,hg.1.2,aD hg.2,O⟩
def yj{xs:List D}(h:qE (k::ks) xs ys=Z b):
 ∃x xr hc yr c,xs=x::xr/\ys=hc::yr/\wJ k x hc=Z c/\((c=f/\qE ks xr yr=Z b)\/(c=aA/\b=aA)):=by
 cases xs with
 |nil=>cases h
 |cons x xr=>cases ys with
  |nil=>cases h
  |cons hc yr=>
   have h:(aK (wJ k x hc) λc=>bR c (qE ks xr yr)<|Z aA)=Z b:=h;obtain⟨c,y,h⟩:=aI h;cases c
   .cases h;exact⟨x,xr,hc,yr,aA,O,O,y,.inr ⟨O,O⟩⟩
   .exact⟨x,xr,hc,yr,f,O,O,y,.inl ⟨O,h⟩⟩
def yA{off:Nat}(hd:P.underlying t=Z d)(ha:RA d=aA)(hv:E[off]?=Z v):
 (part t ⟨E⟩ off).run P w=.ok v w:=by
 simp[part,wQ hd,ha,hv]
theorem O_:∀(fs:List Field)(k:Nat)(ks:List Nat)(xs ys X' Y':List D)(b:Bool),qZ P fs k=Z ks->qE ks xs ys=Z b->
 kT m xs (X'.drop k)->kT m ys (Y'.drop k)->∀n w,(Op.eqFields (n+1) ⟨X'⟩ ⟨Y'⟩ fs).run P w=.ok b w:=by
 intro fs
 induction fs with
 |nil=>
  intro k ks xs ys X' Y' b hk y J hy n w;cases hk;cases xs with
  |nil=>cases ys with
   |nil=>cases y;rfl
   |cons _ _=>cases y
  |cons _ _=>cases y
 |cons av fs ih=>
  intro k ks xs ys X' Y' b hk y J hy n w;obtain⟨d,r,hd,R,ho,hn,Q,rfl⟩:=uO hk;obtain⟨x,xr,hc,yr,c,rfl,rfl,hce,hcase⟩:=yj y;generalize hX:X'.drop k=X1 at J;generalize hY:Y'.drop k=Y1 at hy;cases J with
  |cons _ x' _ xr' hxv D7=>
   cases hy with
   |cons _ y' _ yr' hyv Y7=>
    have gx:X'[k]?=Z x':=by
     have:=dV (·[0]?) hX;simpa using this
    have gy:Y'[k]?=Z y':=by
     have:=dV (·[0]?) hY;simpa using this
    have dx:X'.drop (k+1)=xr':=by rw[<-pP,hX];rfl
    have dy:Y'.drop (k+1)=yr':=by rw[<-pP,hY];rfl
    obtain⟨ex,ey,he⟩:=zY (t:=av.type) hd hce hxv hyv;have p1:=yA (w:=w) hd (zZ Q) gx;have p2:=yA (w:=w) hd (zZ Q) gy;rw[<-ho]at p1 p2;simp only[Op.eqFields,hn,ne_eq,pW,kE,cB,p1,p2,bN,he n w,Sem.run_ite,dF];rcases hcase with⟨rfl,hrest⟩|⟨rfl,rfl⟩
    .simp only[wG,dh,kD];exact ih (k+1) r xr yr X' Y' b R hrest (by rw[dx];exact D7) (by rw[dy];exact Y7) n w
    .simp
def Y8(x:α)(n:Nat):YS x n=aU n x:=by
 induction n with
 |zero=>rfl
 |succ n ih=>exact dV (x::·) ih
theorem RO(hd:P.underlying e=Z d)(Q:1<=tF d)(hs:P.cellsOf e=1):∀(c k:Nat)(xs ys X' Y':List D)(b:Bool),
 qE (aU c<|tF d) xs ys=Z b->kT m xs (X'.drop k)->kT m ys (Y'.drop k)->
 ∀n w,(Op.eqItems (n+1) e (P.cellsOf e) ⟨X'⟩ ⟨Y'⟩<|List.range' k c).run P w=.ok b w:=by
 intro c
 induction c with
 |zero=>
  intro k xs ys X' Y' b y J hy n w;cases xs with
  |nil=>cases ys with
   |nil=>cases y;rfl
   |cons _ _=>cases y
  |cons _ _=>cases y
 |succ c ih=>
  intro k xs ys X' Y' b y J hy n w;obtain⟨x,xr,hc,yr,q,rfl,rfl,hce,hcase⟩:=yj y;generalize hX:X'.drop k=X1 at J;generalize hY:Y'.drop k=Y1 at hy;cases J with
  |cons _ x' _ xr' hxv D7=>
   cases hy with
   |cons _ y' _ yr' hyv Y7=>
    have gx:X'[k]?=Z x':=by
     have:=dV (·[0]?) hX;simpa using this
    have gy:Y'[k]?=Z y':=by
     have:=dV (·[0]?) hY;simpa using this
    have dx:X'.drop (k+1)=xr':=by rw[<-pP,hX];rfl
    have dy:Y'.drop (k+1)=yr':=by rw[<-pP,hY];rfl
    obtain⟨ex,ey,he⟩:=zY (t:=e) hd hce hxv hyv;have p1:=yA (w:=w) hd (zZ Q) gx;have p2:=yA (w:=w) hd (zZ Q) gy;rw[List.range'_succ];simp only[Op.eqItems,cB,hs,dz,p1,p2,bN,he n w,Sem.run_ite,dF];rcases hcase with⟨rfl,hrest⟩|⟨rfl,rfl⟩
    .simp only[wG,dh,kD];have:=ih (k+1) xr yr X' Y' b hrest (by rw[dx];exact D7) (by rw[dy];exact Y7) n w;rw[hs]at this;exact this
    .simp
def Wx{o q:Option α}{r:α}(h:orElse' o q=Z r):o=Z r\/(o=W/\q=Z r):=by
 cases o with
 |none=>exact .inr ⟨O,h⟩
 |some x=>exact .inl h
def F_(h:tEq P t=Z q):
 (∃d,P.underlying t=Z d/\q=.inl (tF d)/\1<=tF d)\/
 (∃fs ks,P.underlying t=Z (.struct ⟨fs⟩)/\P.stoodInHeld t=aA/\qZ P fs 0=Z ks/\q=.inr ks)\/
 (∃n e d i,P.underlying t=Z (.array n e)/\P.underlying e=Z d/\P.info? e=Z i/\i.size=1/\1<=tF d/\q=.inr (aU n<|tF d)):=by
 obtain⟨d,hd,h⟩:=aI h;cases hb:aB 1 (tF d)with
 |true=>rw[hb]at h;cases h;exact .inl ⟨d,hd,O,aD hb⟩
 |false=>
  rw[hb]at h;have h:(aK (orElse' (O5 P t)<|aeS P t) λl=>Z<|Sum.inr l)=Z q:=h;obtain⟨l,hl,h⟩:=aI h;cases h;rcases Wx hl with hs|⟨_,ha⟩
  .right;left;have h:=hs;obtain⟨fs,hfs,h⟩:=aI h;obtain⟨hg,h⟩:=fH h;exact⟨fs,l,D6 hfs,by simpa using hg,h,O⟩
  .right;right;have h:=ha;obtain⟨d',hd',h⟩:=aI h;obtain⟨a,ha',h⟩:=aI h;obtain⟨e,he,h⟩:=aI h;obtain⟨s,hs,h⟩:=aI h;obtain⟨hg,h⟩:=fH h;cases h;obtain⟨i,hi,rfl⟩:=qN hs;simp only[aZ]at hg;exact⟨a.1,a.2,e,i,by rw[hd',Nu ha'],he,hi,aT hg.1,aD hg.2,by rw[Y8]⟩
def RP(h:P.info? e=Z i):P.cellsOf e=i.size:=by simp[Program.cellsOf,h]
def Y9(h:kY P t x hc=Z b)(J:VR m x x')(hy:VR m hc y'):
 ∀n w,(Op.equalIn (n+2) t x' y').run P w=.ok b w:=by
 intro n w;obtain⟨q,hq,h⟩:=aI h;rcases F_ hq with⟨d,hd,rfl,Q⟩|⟨fs,ks,hu,hs,hk,rfl⟩|⟨c,e,d,i,hu,he,hi,hsz,Q,rfl⟩
 .have h:wJ (tF d) x hc=Z b:=h;exact(zY hd h J hy).2.2 (n+1) w
 .have h:(aK (wm x) λa=>aK (wm hc) λb=>qE ks a b)=Z b:=h;obtain⟨xs,hxs,h⟩:=aI h;obtain⟨ys,hys,h⟩:=aI h;rw[tJ hxs]at J;rw[tJ hys]at hy;obtain⟨xs',rfl,D7⟩:=J.wP;obtain⟨ys',rfl,Y7⟩:=hy.wP;have hf:P.fieldsOf t=⟨fs⟩:=by simp[Program.fieldsOf,hu]
  rw[run_equalIn_struct w (n+1) t _ _ (by rw[hf];exact hu) hs,hf];exact O_ fs 0 ks xs ys xs' ys' b hk h (by simpa using D7) (by simpa using Y7) n w
 .have h:(aK (wm x) λa=>aK (wm hc) λb=>qE (aU c<|tF d) a b)=Z b:=h;obtain⟨xs,hxs,h⟩:=aI h;obtain⟨ys,hys,h⟩:=aI h;rw[tJ hxs]at J;rw[tJ hys]at hy;obtain⟨xs',rfl,D7⟩:=J.wP;obtain⟨ys',rfl,Y7⟩:=hy.wP;rw[run_equalIn_array w (n+1) _ _ hu hi,List.range_eq_range'];exact RO he Q (by rw[RP hi,hsz]) c 0 xs ys xs' ys' b h (by simpa using D7) (by simpa using Y7) n w
def JE(h:kY P t x hc=Z b)(J:VR m x x')(hy:VR m hc y')(w:bW):
 (Op.equal t x' y').run P w=.ok b w:=by
 have:=Y9 h J hy 9998 w;exact this
end ops
section ops
variable{P:aS}
def Ga(h:1<=tF d):(∃k,d=.int k)\/d=.bool\/d=.string:=by
 cases d<;>first|exact .inl ⟨_,O⟩|exact .inr (.inl O)|exact .inr (.inr O)|simp[tF]at h
def JF(hd:P.underlying t=Z d)(h:1<=tF d)(n:Nat):P.eqGuardType (n+1) t=aA:=by
 unfold Program.eqGuardType;rw[hd];rcases Ga h with⟨k,rfl⟩|rfl|rfl<;>rfl
def Wy:∀(fs:List Field)(k:Nat)(ks:List Nat),qZ P fs k=Z ks->∀n,fs.any (λav=>av.name != "_" &&P.eqGuardType (n+1) av.type)=aA:=by
 intro fs
 induction fs with
 |nil=>intros;rfl
 |cons av fs ih=>
  intro k ks hk n;obtain⟨d,r,hd,R,ho,hn,Q,rfl⟩:=uO hk;simp only[List.any_cons,ih _ _ R n,mP,JF hd Q n,rY]
def adf(h:tEq P t=Z q):P.eqGuardType P.depth t=aA:=by
 obtain⟨ae,hD⟩:∃ae,P.depth=ae+2:=⟨_,O⟩;rw[hD];rcases F_ h with⟨d,hd,rfl,Q⟩|⟨fs,ks,hu,hs,hk,rfl⟩|⟨c,e,d,i,hu,he,hi,hsz,Q,rfl⟩
 .exact JF hd Q<|ae+1
 .unfold Program.eqGuardType;rw[hu];have:=Wy fs 0 ks hk ae;simpa using this
 .unfold Program.eqGuardType;rw[hu];exact JF he Q ae
def VR.qY(h:VR m x x')(Q:1<=(Ae.qY x).1):Ae.qY x'=Ae.qY x:=by
 cases h<;>first|rfl|(simp[Ae.qY,Ae.top]at Q)
def D8(h:1<=(qY x).1):
 (∃a,x=.pointer a/\qY x=(1,a.isNone))\/(∃a l c,x=.slice a l c/\qY x=(2,a.isNone))\/(∃r,x=.map r/\qY x=(3,r.isNone))\/
 (∃av hc z,x=.func av hc z/\qY x=(4,aA))\/(x=.nilFunc/\qY x=(4,f))\/(∃t v,x=.iface t v/\qY x=(5,aA))\/(x=.nilIface/\qY x=(5,f)):=by
 cases x<;>simp[qY]at h|-
 case pointer a=>cases a<;>rfl
 case slice a l c=>cases a<;>rfl
 case map a=>cases a<;>rfl
def RQ(h:1<=xy d):(∃e,d=.pointer e/\xy d=1)\/(∃e,d=.slice e/\xy d=2)\/(∃k e,d=.map k e/\xy d=3)\/(∃p r v,d=.func p r v/\xy d=4)\/(∃ms,d=.interface ms/\xy d=5):=by
 cases d<;>simp[xy]at h|-
set_option maxHeartbeats 2000000 in
theorem Wz(ht:F5 P t=k)(Q:1<=k)(J:qY x=(k,b))(hy:qY hc=(k,f))(w:bW):
 (Op.equal t x hc).run P w=.ok b w/\(Op.equal t hc x).run P w=.ok b w:=by
 unfold F5 at ht;cases hu:P.underlying t with
 |none=>rw[hu]at ht;simp at ht;omega
 |some d=>
  rw[hu]at ht;have ht:xy d=k:=ht;have hx1:1<=(qY x).1:=by rw[J];exact Q
  have hy1:1<=(qY hc).1:=by rw[hy];exact Q
  have hd1:1<=xy d:=by omega
  rcases RQ hd1 with⟨e,rfl,hk⟩|⟨e,rfl,hk⟩|⟨kk,e,rfl,hk⟩|⟨p,r,v,rfl,hk⟩|⟨ms,rfl,hk⟩<;>
  rcases D8 hx1 with⟨a,rfl,hxa⟩|⟨a,l,c,rfl,hxa⟩|⟨a,rfl,hxa⟩|⟨av,q,z,rfl,hxa⟩|⟨rfl,hxa⟩|⟨tt,v,rfl,hxa⟩|⟨rfl,hxa⟩<;>
  (rw[hxa]at J;rw[Prod.mk.injEq]at J;obtain⟨hx2,hx3⟩:=J)<;>try(exfalso;omega)
  all_goals
   rcases D8 hy1 with⟨a',rfl,hya⟩|⟨a',l',c',rfl,hya⟩|⟨a',rfl,hya⟩|⟨f',q',z',rfl,hya⟩|⟨rfl,hya⟩|⟨tt',v',rfl,hya⟩|⟨rfl,hya⟩<;>
   (rw[hya]at hy;rw[Prod.mk.injEq]at hy;obtain⟨hy2,hy3⟩:=hy)<;>try(exfalso;omega)
  all_goals first|cases hy3;done|skip
  all_goals try(cases a'<;>simp at hy3)
  all_goals try(cases a)
  all_goals
   subst hx3;constructor<;>(refine(?_:∀n,(Op.equalIn (n+1) _ _ _).run P w=_) 9999;intro n;simp only[Op.equalIn,cB,eY hu,bN,dF];(try rfl))
def Y_(ht:F6 P t=f)(h:ptrEq x hc=Z b)(J:VR m x x')(hy:VR m hc y')(w:bW):
 (Op.equal t x' y').run P w=.ok b w/\(∃a a',x'=.pointer (Z a)/\y'=.pointer (Z a')):=by
 obtain⟨a,ha,h⟩:=aI h;obtain⟨c,y,h⟩:=aI h;obtain⟨hg,h⟩:=fH h;cases h;rw[o8 ha]at J;rw[o8 y]at hy;obtain⟨l,hm,hlo,hsp,rfl⟩:=J.sS;obtain⟨l',hm',ah4,amo,rfl⟩:=hy.sS;have hb:=aT hg;rw[hb,hm']at hm;cases hm
 have hsz:∃e i,P.underlying t=Z (.pointer e)/\P.info? e=Z i/\1<=i.size:=by
  unfold F6 at ht;cases hq:(aK (P.underlying t) λd=>aK (ES d) λe=>aK (vI P e) λs=>gd (aB 1 s)<|Z ())with
  |none=>rw[hq]at ht;cases ht
  |some rg=>
   have h:=hq;obtain⟨d,hd,h⟩:=aI h;obtain⟨e,he,h⟩:=aI h;obtain⟨s,hs,h⟩:=aI h;obtain⟨Q,h⟩:=fH h;obtain⟨i,hi,rfl⟩:=qN hs;exact⟨e,i,by rw[hd,I5 he],hi,aD Q⟩
 obtain⟨e,i,hu,hi,Q⟩:=hsz;refine⟨?_,_,_,O,O⟩;have hne:i.size≠0:=by omega
 refine(?_:∀n,(Op.equalIn (n+1) _ _ _).run P w=_) 9999;intro n;simp only[Op.equalIn,cB,eY hu,bN,jJ hi,ne_eq,hne,pW,kE,sameAddr,BEq.rfl,Sem.run_ite,dF];congr 1;rw[f_];simp only[kX,Addr.mk.injEq,xw,true_and];rw[show(ay a.off c.off=f)=(a.off=c.off)from by simp[jG]];omega
def binOp_eql(h:(Op.equal t x hc).run P w=.ok b w)(hn:∀k n,x≠.int k n)(hf:∀k n,x≠.float k n)(y:∀k n q,x≠.complex k n q)(hs:∀s,x≠.string s):
 (binOp .eql t x hc).run P w=.ok (.bool b) w/\(binOp .neq t x hc).run P w=.ok (.bool<|!b) w:=by
 have e1:binOp .eql t x hc=(do pure (.bool (<-Op.equal t x hc))):=by
  cases x<;>first|rfl|(exfalso;first|exact hn _ _ O|exact hf _ _ O|exact y _ _ _ O|exact hs _ O)
 have e2:binOp .neq t x hc=(do pure (.bool<|!(<-Op.equal t x hc))):=by
  cases x<;>first|rfl|(exfalso;first|exact hn _ _ O|exact hf _ _ O|exact y _ _ _ O|exact hs _ O)
 rw[e1,e2];simp[h]
end ops
section ops
variable{P:aS}
def xm{o:bO}(h:sM o=f):∃v,o=.const v/\(qY v).2=f:=by
 cases o<;>simp[sM]at h;exact⟨_,O,h⟩
theorem oq(w:bW)(h:sM ox=f\/sM oy=f\/x≠.nilIface\/hc≠.nilIface)(I:(∀c,x≠.agg c)\/(∀c,hc≠.agg c)\/P.eqGuardType P.depth t=aA):(eqGuard op t ox oy x hc).run P w=.ok () w:=by
 by_cases hop:op=.eql\/op=.neq
 .by_cases hagg:∃c c',x=.agg c/\hc=.agg c'
  .obtain⟨c,c',rfl,rfl⟩:=hagg;rcases I with I|I|I
   .exact absurd O<|I c
   .exact absurd O<|I c'
   .exact run_eqGuard_agg w op t ox oy c c' I
  .by_cases hnil:x=.nilIface/\hc=.nilIface
   .obtain⟨rfl,rfl⟩:=hnil
    have y:(∃v,ox=.const v)\/∃v,oy=.const v:=by
     rcases h with h|h|h|h
     .obtain⟨v,rfl,_⟩:=xm h;exact .inl ⟨_,O⟩
     .obtain⟨v,rfl,_⟩:=xm h;exact .inr ⟨_,O⟩
     .exact absurd O h
     .exact absurd O h
    rcases y with⟨v,rfl⟩|⟨v,rfl⟩
    .rcases hop with rfl|rfl<;>rfl
    .rcases hop with rfl|rfl<;>cases ox<;>rfl
   .rcases hop with rfl|rfl<;>cases x<;>first
     |rfl
     |(cases hc<;>first|rfl|(exfalso;exact hagg ⟨_,_,O,O⟩)|(exfalso;exact hnil ⟨O,O⟩))
 .cases op<;>first|rfl|(exfalso;exact hop<|.inl O)|(exfalso;exact hop<|.inr O)
def Uz{op:qQ}{ox oy:bO}(h:L6 (F5 P t) c x=Z b)(J:VR m x x')(y:VR m c c')(hn:(qY c).2=f)(w:bW):
 (Op.equal t x' c').run P w=.ok b w/\(Op.equal t c' x').run P w=.ok b w/\(∀q,x'≠.agg q)/\1<=(qY x').1/\1<=(qY c').1:=by
 obtain⟨hg,h⟩:=fH h;cases h;simp only[aZ]at hg;have Q:=aD hg.1.1;have I:=aT hg.1.2;have h3:=aT hg.2;have ex:=J.qY N;have ec:=y.qY N;have Le:qY x'=(F5 P t,(qY x).2):=by rw[ex,<-I]
 have hcc:qY c'=(F5 P t,f):=by rw[ec,<-h3,<-hn]
 have:=Wz O Q Le hcc w;refine⟨this.1,this.2,?_,by rw[Le];exact Q,by rw[hcc];exact Q⟩;intro q hq;rw[hq]at Le;simp[qY]at Le;omega
def Me(x:D):Prop:=(∀k n,x≠.int k n)/\(∀k n,x≠.float k n)/\(∀k n q,x≠.complex k n q)/\∀s,x≠.string s
def Mf(h:1<=(qY x).1):Me x:=by
 refine⟨?_,?_,?_,?_⟩<;>(intros;intro e;rw[e]at h;simp[qY]at h)
def agf(h:Yx P t ox oy x hc=Z b)(J:VR m x x')(hy:VR m hc y')(hox:∀c,ox=.const c->x=c)(hoy:∀c,oy=.const c->hc=c)(hxo:sK x=W/\tC x=W/\wK x=0)(w:bW):
 (Op.equal t x' y').run P w=.ok b w/\(eqGuard op t ox oy x' y').run P w=.ok () w/\Me x':=by
 unfold Yx at h;cases hcy:sM oy with
 |true=>
  rw[hcy]at h;obtain⟨v,hv,hn⟩:=xm hcy;have:=hoy v hv;subst this;obtain⟨Q,I,h3,h4,h5⟩:=Uz (op:=op) (ox:=ox) (oy:=oy) h J hy hn w;exact⟨Q,oq w (.inr<|.inl hcy)<|.inl h3,Mf h4⟩
 |false=>
  rw[hcy]at h;cases hcx:sM ox with
  |true=>
   rw[hcx]at h;obtain⟨v,hv,hn⟩:=xm hcx;have:=hox v hv;subst this;obtain⟨Q,I,h3,h4,h5⟩:=Uz (op:=op) (ox:=ox) (oy:=oy) h hy J hn w;exact⟨I,oq w (.inl hcx)<|.inr<|.inl h3,Mf h5⟩
  |false=>
   rw[hcx]at h;cases hp:F6 P t with
   |true=>
    rw[hp]at h;obtain⟨Q,a,a',rfl,rfl⟩:=Y_ hp h J hy w;exact⟨Q,oq w (.inr<|.inr<|.inl<|by simp)<|.inl<|by simp,by simp[Me]⟩
   |false=>
    rw[hp]at h;have h:kY P t x hc=Z b:=h;have Q:=JE h J hy w;have hv:=h;obtain⟨q,hq,h⟩:=aI h;have hng:=adf hq;rcases F_ hq with⟨d,hd,rfl,hk⟩|⟨fs,ks,hu,hs,hk,rfl⟩|⟨c,e,d,i,hu,he,hi,hsz,hk,rfl⟩
    .have h:wJ (tF d) x hc=Z b:=h;obtain⟨ex,ey,_⟩:=zY (t:=t) hd h J hy;subst ex;subst ey
     have ah5:∃z,x'=.bool z:=by
      rcases Ga hk with⟨k,rfl⟩|rfl|rfl
      .have h:(aK (sK x') λa=>aK (sK y') λb=>gd (ay (qx a.1)<|qx b.1)<|Z<|IZ a.2 b.2)=Z b:=h;rw[hxo.1]at h;cases h
      .have h:(aK (jH x') λa=>aK (jH y') λb=>Z<|Au a b)=Z b:=h;obtain⟨p,hp,h⟩:=aI h;exact⟨p,oO hp⟩
      .have h:(aK (tC x') λa=>aK (tC y') λb=>Z<|qV a b)=Z b:=h;rw[hxo.2.1]at h;cases h
     obtain⟨z,rfl⟩:=ah5;exact⟨Q,oq w (.inr<|.inr<|.inl<|by simp)<|.inl<|by simp,by simp[Me]⟩
    .have h:(aK (wm x) λa=>aK (wm hc) λb=>qE ks a b)=Z b:=h;obtain⟨xs,hxs,h⟩:=aI h;rw[tJ hxs]at J;obtain⟨xs',rfl,D7⟩:=J.wP;exact⟨Q,oq w (.inr<|.inr<|.inl<|by simp)<|.inr<|.inr hng,by simp[Me]⟩
    .have h:(aK (wm x) λa=>aK (wm hc) λb=>qE (aU c<|tF d) a b)=Z b:=h;obtain⟨xs,hxs,h⟩:=aI h;rw[tJ hxs]at J;obtain⟨xs',rfl,D7⟩:=J.wP;exact⟨Q,oq w (.inr<|.inr<|.inl<|by simp)<|.inr<|.inr hng,by simp[Me]⟩
def tK(Q:(eqGuard op t ox oy x hc).run P w=.ok () w)(I:(binOp op t x hc).run P w=.ok v w):
 (do eqGuard op t ox oy x hc;binOp op t x hc:Sem D).run P w=.ok v w:=by
 simp[Q,I]
def agh(h:lN P op t ox oy x hc=Z v)(J:VR m x x')(hy:VR m hc y')(hox:∀c,ox=.const c->x=c)(hoy:∀c,oy=.const c->hc=c):
 VR m v v/\∀w,(do eqGuard op t ox oy x' y';binOp op t x' y':Sem D).run P w=.ok v w:=by
 unfold lN at h;cases hi:sK x with
 |some a=>
  rw[hi]at h;have hxe:=pY hi;rw[hxe]at J;have J:=J.of_int;have g:∀w,(eqGuard op t ox oy x' y').run P w=.ok () w:=λw=>oq w (.inr<|.inr<|.inl (by rw[J];simp))<|.inl (by rw[J];simp);cases hsh:I1 op with
  |true=>
   rw[hsh]at h;have h:YU op t x hc=Z v:=h;obtain⟨p,hp,h⟩:=aI h;obtain⟨q,hq,h⟩:=aI h;have hye:=pY hq;rw[hye]at hy;have hy:=hy.of_int;obtain⟨hs,R⟩:=yM (P:=P) h;refine⟨.sc _ hs,λw=>tK (g w) ?_⟩;rw[J,hy,<-hxe,<-hye];exact R w
  |false=>
   rw[hsh]at h;have h:(aK (sK hc) λb=>gd (ay (qx a.1)<|qx b.1)<|Wl op a.1 a.2 b.2)=Z v:=h;obtain⟨q,hq,h⟩:=aI h;obtain⟨hk,h⟩:=fH h;have hye:=pY hq;rw[hye]at hy;have hy:=hy.of_int;have hk:=zX hk;obtain⟨hs,R⟩:=adb (P:=P) (t:=t) h;refine⟨.sc _ hs,λw=>tK (g w) ?_⟩;rw[J,hy,<-hk];exact R w
 |none=>
  rw[hi]at h;cases hst:tC x with
  |some a=>
   rw[hst]at h;have h:(aK (tC hc) λb=>ac6 op a b)=Z v:=h;obtain⟨b,hb,h⟩:=aI h;have hxe:=o9 hst;have hye:=o9 hb;rw[hxe]at J;rw[hye]at hy;have J:=J.vL;have hy:=hy.vL;obtain⟨hs,R⟩:=ade (P:=P) (t:=t) h;refine⟨.sc _ hs,λw=>tK (oq w (.inr<|.inr<|.inl (by rw[J];simp))<|.inl (by rw[J];simp)) ?_⟩;rw[J,hy];exact R w
  |none=>
   rw[hst]at h;cases Pb:aB 1 (wK x)with
   |true=>
    rw[Pb]at h;have h:RE op t x hc=Z v:=h;have h0:=h;obtain⟨hv,R⟩:=Ww (P:=P) h J hy
    have hsx:mU x=f:=by
     have:=aD Pb;cases x<;>simp[wK]at this<;>rfl
    have J:=J.vM hsx
    have hne:(x'≠.nilIface)/\∀c,x'≠.agg c:=by
     rw[J];have:=aD Pb;constructor
     .intro e;rw[e]at this;simp[wK]at this
     .intro c e;rw[e]at this;simp[wK]at this
    exact⟨hv,λw=>tK (oq w (.inr<|.inr<|.inl hne.1)<|.inl hne.2)<|R w⟩
   |false=>
    rw[Pb]at h;have h:B_ op (Yx P t ox oy x hc)=Z v:=h
    have hz:wK x=0:=by
     rcases gH (wK x)with h0|h0
     .exact h0
     .rw[aH h0]at Pb;cases Pb
    have key:∀b,Yx P t ox oy x hc=Z b->∀w,(eqGuard op t ox oy x' y').run P w=.ok () w/\(binOp .eql t x' y').run P w=.ok (.bool b) w/\(binOp .neq t x' y').run P w=.ok (.bool<|!b) w:=by
     intro b hb w;obtain⟨Q,I,h3,h4,h5,h6⟩:=agf (op:=op) hb J hy hox hoy ⟨hi,hst,hz⟩ w;exact⟨I,binOp_eql Q h3 h4 h5 h6⟩
    cases op<;>simp only[B_,yH]at h
    case eql=>
     have h:(aK (Yx P t ox oy x hc) λb=>Z<|gF b)=Z v:=h;obtain⟨b,hb,h⟩:=aI h;cases h;exact⟨.sc _ O,λw=>tK (key b hb w).1 (key b hb w).2.1⟩
    case neq=>
     have h:(aK (Yx P t ox oy x hc) λb=>Z<|gF<|!b)=Z v:=h;obtain⟨b,hb,h⟩:=aI h;cases h;exact⟨.sc _ O,λw=>tK (key b hb w).1 (key b hb w).2.2⟩
    all_goals cases h
end ops
section ops
variable{P:aS}
def adg{a b a' b':D}(h:Jt c a b=Z v)(y:VR m c c')(ha:VR m a a')(hb:VR m b b'):
 ∃v',VR m v v'/\∀w,(do pure (if<-asBool c' then a' else b'):Sem D).run P w=.ok v' w:=by
 obtain⟨t,ht,h⟩:=aI h;cases h;rw[oO ht]at y;have:=y.of_bool;subst this;cases t
 .exact⟨b',hb,λw=>by simp[asBool]⟩
 .exact⟨a',ha,λw=>by simp[asBool]⟩
theorem adh{op:UnOp}(h:jQ (Op.unary op x)=Z v)(J:VR m x x'):VR m v v/\∀w,(Op.unary op x').run P w=.ok v w:=by
 obtain⟨hs,R⟩:=yM (P:=P) h
 have:x'=x:=by
  apply J.vM;cases x<;>first|rfl|(exfalso;cases op<;>simp[Op.unary,jQ,stuck]at h;done)|skip
  case pointer a=>cases a<;>first|rfl|(exfalso;cases op<;>simp[Op.unary,jQ,stuck,unsupported]at h)
 subst this;exact⟨.sc _ hs,R⟩
def adi{s d:aG}(h:Cb P s d x=Z v)(J:VR m x x'):VR m v v/\∀w,(convert s d x').run P w=.ok v w:=by
 replace h:=aI h;obtain⟨ds,hds,h⟩:=h;replace h:=aI h;obtain⟨dd,hdd,h⟩:=h;cases hi:sK x with
 |some a=>
  rw[hi]at h;have hxe:=pY hi;rw[hxe]at J;have J:=J.of_int;subst J;cases hk:Lc dd with
  |some k=>
   replace h:(@aN fu (λ_=>Option D) (bR (BO dd) (Z<|.string<|Utf8.encode a.2)<|aK (FZ dd) λk=>jQ<|Conv.intToFloat k a.2) (λk=>Z<|.int k<|nU k a.2)<|Lc dd)=Z v:=h;rw[hk]at h;cases h;have:=Ux hk;subst this;exact⟨.sc _ O,λw=>by simp[convert,eY hds,eY hdd,Conv.intToInt,JB]⟩
  |none=>
   replace h:(@aN fu (λ_=>Option D) (bR (BO dd) (Z<|.string<|Utf8.encode a.2)<|aK (FZ dd) λk=>jQ<|Conv.intToFloat k a.2) (λk=>Z<|.int k<|nU k a.2)<|Lc dd)=Z v:=h;rw[hk]at h;cases hs:BO dd with
   |true=>
    rw[hs]at h;cases h;have:=EX hs;subst this;exact⟨.sc _ O,λw=>by simp[convert,eY hds,eY hdd,Conv.intToString]⟩
   |false=>
    rw[hs]at h;replace h:(aK (FZ dd) λk=>jQ<|Conv.intToFloat k a.2)=Z v:=h;replace h:=aI h;obtain⟨k,hf,h⟩:=h;have:=Ws hf;subst this;obtain⟨hs,R⟩:=yM (P:=P) h;exact⟨.sc _ hs,λw=>by simp[convert,eY hds,eY hdd,R]⟩
 |none=>
  rw[hi]at h;replace h:(aK (tC x) λb=>gd (BO dd)<|Z<|.string b)=Z v:=h;replace h:=aI h;obtain⟨b,hb,h⟩:=h;replace h:=fH h;obtain⟨hg,h⟩:=h;cases h;rw[o9 hb]at J;have J:=J.vL;subst J;have:=EX hg;subst this;refine⟨.sc _ O,λw=>?_⟩;cases ds<;>simp[convert,eY hds,eY hdd]
def RS{i:Nat}(h:uA x i=Z v)(J:VR m x x'):∃v',VR m v v'/\∀w,(Instr.extract x' i).run P w=.ok v' w:=by
 obtain⟨l,hl,h⟩:=aI h;rw[ac7 hl]at J;obtain⟨l',rfl,R⟩:=J.Nt;rw[om]at h;obtain⟨v',hv',hvr⟩:=R.get i h;exact⟨v',hvr,λw=>by simp[Instr.extract,hv']⟩
def Pd(h:Nk x=Z v)(J:VR m x x')(ρ:bO->D)(o:Oper)(xo:bO)(ho:o.op=.nilCheck xo)(hρ:ρ xo=x'):
 VR m v x'/\∀w,(execOp ρ o).run P w=.ok (.value x') w:=by
 unfold Nk at h;cases hp:qg x with
 |some a=>
  rw[hp]at h;cases h;refine⟨J,λw=>?_⟩;rw[o8 hp]at J;obtain⟨l,hm,hlo,hsp,rfl⟩:=J.sS;simp[execOp,ho,hρ]
 |none=>
  rw[hp]at h;replace h:(aK (YO x) λav=>aK (fFn av.1) λ_=>Z x)=Z v:=h;obtain⟨av,hf,h⟩:=aI h;obtain⟨g,hg,h⟩:=aI h;cases h;refine⟨J,λw=>?_⟩;rw[Nr hf,Ns hg]at J;obtain⟨x1,y1,rfl,_,_⟩:=J.Y3;simp[execOp,ho,hρ]
def agi(h:mm2 b x hc=Z v)(J:VR m x x')(hy:VR m hc y'):
 VR m v v/\∀w,((if b then Builtin.max2 x' y' else Builtin.min2 x' y').run P w=.ok v w):=by
 obtain⟨p,hp,h⟩:=aI h;obtain⟨q,hq,h⟩:=aI h;obtain⟨hg,h⟩:=fH h;cases h;have e1:=pY hp;have e2:=pY hq;rw[e1]at J;rw[e2]at hy;have J:=J.of_int;have hy:=hy.of_int;have hk:=zX hg;subst J;subst hy;cases b
 .have e:bR (bR aA (Ld p.2 q.2)<|Ld q.2 p.2) hc x=if q.2<p.2 then hc else x:=by
   show bR (Ld q.2 p.2) hc x=_;rw[zN,RN];simp
  rw[e];split
  .next hlt=>rw[e2];exact⟨.sc _ O,λw=>by simp[Builtin.min2,hlt,hk]⟩
  .next hlt=>rw[e1];exact⟨.sc _ O,λw=>by simp[Builtin.min2,hlt]⟩
 .have e:bR (bR f (Ld p.2 q.2)<|Ld q.2 p.2) hc x=if p.2<q.2 then hc else x:=by
   show bR (Ld p.2 q.2) hc x=_;rw[zN,RN];simp
  rw[e];split
  .next hlt=>rw[e2];exact⟨.sc _ O,λw=>by simp[Builtin.max2,hlt,hk]⟩
  .next hlt=>rw[e1];exact⟨.sc _ O,λw=>by simp[Builtin.max2,hlt]⟩
def agj:∀{l l':List D}{x v x':D},mmL b l x=Z v->VR m x x'->kT m l l'->
 ∃v',VR m v v'/\∀w,((l'.foldlM (if b then Builtin.max2 else Builtin.min2) x':Sem D).run P w=.ok v' w):=by
 intro l
 induction l with
 |nil=>
  intro l' x v x' h J hl;cases hl;cases h;exact⟨x',J,λw=>by simp⟩
 |cons hc l ih=>
  intro l' x v x' h J hl;cases hl with
  |cons _ y' _ r' hy R=>
   replace h:aK (mm2 b x hc) (mmL b l)=Z v:=h;obtain⟨z,hz,h⟩:=aI h;obtain⟨hzz,hrun⟩:=agi (P:=P) hz J hy;obtain⟨v',hv,hrest⟩:=ih h hzz R;refine⟨v',hv,λw=>?_⟩;have Q:=hrun w;cases b<;>simp at Q hrest|-<;>simp[Q,hrest]
def Za{ats:Array aG}(h:O6 b args=Z v)(ha:kT m args args'):
 ∃v',VR m v v'/\∀w,((if b then Builtin.max_ ats t ⟨args'⟩else Builtin.min_ ats t ⟨args'⟩).run P w=.ok v' w):=by
 cases ha with
 |nil=>cases h
 |cons x x' l l' J hl=>
  replace h:mmL b l x=Z v:=h;obtain⟨v',hv,R⟩:=agj (P:=P) h J hl;refine⟨v',hv,λw=>?_⟩;have:=R w;cases b<;>simpa [Builtin.max_,Builtin.min_]using this
def agk{av:aG->D->Option D}(h:one av ats args=Z v):∃t x,ats[0]?=Z t/\args[0]?=Z x/\av t x=Z v:=by
 obtain⟨t,ht,h⟩:=aI h;obtain⟨x,J,h⟩:=aI h;exact⟨t,x,by rw[<-om];exact ht,by rw[<-om];exact J,h⟩
def adj(h:one (Ju P) ats args=Z v)(ha:kT m args args'):
 VR m v v/\∀w,(j_ ⟨ats⟩ t ⟨args'⟩).run P w=.ok v w:=by
 obtain⟨t,x,ht,J,h⟩:=agk h;obtain⟨x',hx',D7⟩:=ha.get 0 J;obtain⟨d,hd,h⟩:=aI h;cases Q:BO d with
 |true=>
  rw[Q]at h;have:=EX Q;subst this;replace h:(aK (tC x) λs=>Z<|bV .i64<|.ofNat<|len s.data.toList)=Z v:=h;obtain⟨s,hs,h⟩:=aI h;cases h;rw[o9 hs]at D7;have:=D7.vL;subst this;refine⟨.sc _ O,λw=>?_⟩;simp[j_,ht,hx',eY hd,goInt,fQ]
 |false=>
  rw[Q]at h
  have h:(bR (ay (xy d) 2) (aK (Iz x) λp=>Z<|.int .i64<|.ofNat p.2.1)
   (bR (ay (xy d) 3) (aK (Lb x) λr=>gd (eX r)<|Z<|.int .i64 0)
    (aK (O1 d) λa=>Z<|.int .i64<|.ofNat a.1)))=Z v:=h
  cases I:ay (xy d) 2 with
  |true=>
   rw[I]at h;replace h:(aK (Iz x) λp=>Z<|bV .i64<|.ofNat p.2.1)=Z v:=h;obtain⟨p,hp,h⟩:=aI h;cases h;have e2:=aT I;have hdd:∃e,d=.slice e:=by cases d<;>simp[xy]at e2;exact⟨_,O⟩
   obtain⟨e,rfl⟩:=hdd;rw[wO hp]at D7;refine⟨.sc _ O,λw=>?_⟩;cases hpa:p.1 with
   |none=>
    rw[hpa]at D7;obtain⟨e1,e2,rfl⟩:=D7.uC;simp[j_,ht,hx',eY hd,goInt,e1]
   |some a=>
    rw[hpa]at D7;rcases D7.of_slice with⟨l,cc,_,_,_,rfl,_⟩|⟨a',e1,_,rfl⟩
    .simp[j_,ht,hx',eY hd,goInt]
    .simp[j_,ht,hx',eY hd,goInt,e1]
  |false=>
   rw[I]at h
   have h:(bR (ay (xy d) 3) (aK (Lb x) λr=>gd (eX r)<|Z<|.int .i64 0)
    (aK (O1 d) λa=>Z<|.int .i64<|.ofNat a.1))=Z v:=h
   cases h3:ay (xy d) 3 with
   |true=>
    rw[h3]at h;replace h:(aK (Lb x) λr=>gd (eX r)<|Z<|bV .i64 0)=Z v:=h;obtain⟨r,R,h⟩:=aI h;obtain⟨hg,h⟩:=fH h;cases h;have e3:=aT h3;have hdd:∃k e,d=.map k e:=by cases d<;>simp[xy]at e3;exact⟨_,_,O⟩
    obtain⟨k,e,rfl⟩:=hdd;cases r with
    |some _=>cases hg
    |none=>
     rw[Da R]at D7;have:=D7.vM O;subst this;exact⟨.sc _ O,λw=>by simp[j_,ht,hx',eY hd,goInt]⟩
   |false=>
    rw[h3]at h;replace h:(aK (O1 d) λa=>Z<|bV .i64<|.ofNat a.1)=Z v:=h;obtain⟨a,ha',h⟩:=aI h;cases h;have:=Nu ha';subst this;exact⟨.sc _ O,λw=>by simp[j_,ht,hx',eY hd,goInt]⟩
end ops
end Go.Ae
