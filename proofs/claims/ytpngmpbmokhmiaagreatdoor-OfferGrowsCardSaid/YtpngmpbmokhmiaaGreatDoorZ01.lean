/-
  Part 01 of the proof. No condition.
-/
import Derived.Test.YtpngmpbmokhmiaaGreatDoorRows
import Derived.Test.YtpngmpbmokhmiaaGreatDoorProg
import Derived.Below
import Derived.RowKit3
import Derived.Lib.Bytealg
import Derived.Calls
import Derived.Control
import Derived.Orders
import Derived.Scope
import Derived.Laws.Externs
import Derived.Laws.Tables
import Derived.Lib.UnsafeStr
import Derived.Lib.ConvBytes
import Derived.Laws.BytesString
import Derived.Laws.IdiomStrings
import Derived.Laws.Sem
import Derived.Laws.Cells
import Derived.Laws.World
import Derived.Laws.StructEq
import Derived.IntWalk
import Derived.Laws.Strings
import Derived.ChangeKeysEq
import Derived.Sort.AssemblyPlain
import Derived.Sort.Grow
import Derived.ProofKit
import Derived.OpenShut
import Derived.Carry
import Derived.Deep.Slices
import Derived.Deep.Fields
import Derived.ChangeSame
import Derived.LaidMore
import Derived.Lay
import Derived.JoinedOf
import Derived.SevenTiedAt
import Derived.Stop.Joined
set_option linter.unusedVariables false
set_option linter.unusedSimpArgs false
set_option maxRecDepth 100000
set_option maxHeartbeats 4000000
set_option linter.defProp false
open Option renaming some->Z,none->T,rec->aP
open Bool renaming true->F,false->aA,rec->iA
open Go renaming Value->D,TypeId->aH,Program->aX,World->cZ,Operand->cB,IntKind->gm,TypeDesc->fM,BinOp->tN
open Go.Value renaming int->bq,slice->u,bool->aR,string->aJ,pointer->bG,agg->dP
open Nat renaming rec->kH,beq->aB,succ->dh,ble->aD,add->a_,mul->bO,sub->dQ
open List renaming rec->dF,length->J,replicate->aY
open Go.TypeDesc renaming rec->kR
open UInt8 renaming ofNat->jS
open Go.Region renaming binds->g_
open Go.Sem renaming run_bind->dB,run_pure->dS
open Go.Result renaming andThen_ok->bT
open Go.Instr renaming sureAddr->kK,sliceAt->l_,checkKey->iF,findNow->lI
open Go.ByteArray renaming toList_eq->jb
open Go.Builtin renaming len_->lU,lenOf->mg,firstCells->eH,append_->mh
open Go.Lib renaming bytesCells->kL
def O := @rfl
abbrev C:=List
abbrev aC:=Option
abbrev aZ:=ByteArray
noncomputable section
def N{p:Prop}(h:p:=by omega):p:=h
def fT{p:Prop}(h:p:=by kernel_rfl):p:=h
def yB{p:Prop}(h:p:=by intros;rfl):p:=h
def jq{p:Prop}(h:p:=by decide):p:=h
def gD{p:Prop}(h:p:=by simp):p:=h
def K4{p:Prop}(h:p:=by simp;omega):p:=h
def nZ{p q:Prop}(h:p)(cs:p->q:=by intro h;simpa using h):q:=cs h
def uM:=@Array.ext_getElem?
def iH:=@Array.getD_eq_getD_getElem?
def tV:=@Array.getElem?_append_left
def bJ:=@Array.getElem?_eq_getElem
def eZ:=@Array.getElem?_eq_some_iff
def wG:=@Array.getElem?_mapIdx
def jD:=@Array.getElem?_modify
def qj:=@Array.getElem?_push
def lC:=@Array.getElem?_setIfInBounds_ne
def fD:=@Array.getElem?_toList
def qo:=@Array.length_toList
def jN:=@Array.toList_inj
def bE:=@Bool.and_eq_true
def pM:=@Bool.and_false
def iD:=@Bool.eq_iff_iff
def dG:=@Bool.false_eq_true
def tu:=@Bool.false_or
def dn:=@Bool.not_eq_true
def pq:=@Bool.not_eq_true'
def xQ:=@Bool.not_false
def vL:=@Bool.not_true
def lD:=@Bool.or_eq_true
def nP:=@Bool.or_false
def oZ:=@Bool.true_and
def rD:=@ByteArray.data_extract
def vM:=@ByteArray.ext
def gY:=@Classical.byContradiction
def mZ:=@Classical.choose_spec
def uF:=@Decidable.byContradiction
def tX:=@Int.fdiv_eq_ediv_of_nonneg
def lY:=@Int.le_refl
def wW:=@Int.le_trans
def jK:=@Int.natCast_nonneg
def kX:=@Int.toNat_natCast
def gZ:=@List.Perm.append_left
def rF:=@List.Perm.append_right
def rQ:=@List.Perm.refl
def uS:=@List.Perm.symm
def yI:=@List.all_cons
def fE:=@List.all_eq_true
def cz:=@List.append_assoc
def bF:=@List.append_nil
def wH:=@List.concat_eq_append
def kP:=@List.cons.inj
def bV:=@List.cons_append
def oJ:=@List.dropLast_concat_getLast
def vZ:=@List.drop_append
def rR:=@List.drop_append_of_le_length
def pN:=@List.drop_drop
def eO:=@List.drop_eq_getElem_cons
def oN:=@List.drop_of_length_le
def ug:=@List.drop_succ_cons
def jE:=@List.drop_zero
def jf:=@List.eq_nil_of_length_eq_zero
def wI:=@List.eq_nil_or_concat
def qp:=@List.eq_of_mem_replicate
def wJ:=@List.eq_replicate_iff
def ja:=@List.ext_getElem
def iV:=@List.ext_getElem?
def uN:=@List.filter_append
def pY:=@List.filter_cons
def uG:=@List.findIdx?_eq_none_iff
def lZ:=@List.flatMap_cons
def iW:=@List.foldl_append
def lF:=@List.foldl_cons
def xm:=@List.forIn_cons
def aU:=@List.getD_eq_getElem?_getD
def rG:=@List.getElem!_toArray
def tC:=@List.getElem?_append
def bX:=@List.getElem?_append_left
def eD:=@List.getElem?_append_right
def eP:=@List.getElem?_cons_succ
def uZ:=@List.getElem?_cons_zero
def qV:=@List.getElem?_drop
def av:=@List.getElem?_eq_getElem
def dw:=@List.getElem?_eq_none
def bI:=@List.getElem?_eq_some_iff
def bK:=@List.getElem?_map
def uh:=@List.getElem?_range
def l6:=@List.getElem?_replicate
def dU:=@List.getElem?_set
def vX:=@List.getElem?_set_self
def iB:=@List.getElem?_take
def wK:=@List.getElem?_toArray
def jB:=@List.getElem_append_left
def ik:=@List.getElem_map
def bH:=@List.getElem_mem
def iO:=@List.getElem_of_mem
def kF:=@List.getElem_range
def sW:=@List.getElem_set
def wL:=@List.getElem_set_self
def rT:=@List.getElem_take
def aS:=@List.length_append
def cO:=@List.length_cons
def v_:=@List.length_drop
def eU:=@List.length_eq_zero_iff
def m_:=@List.length_filter_le
def aK:=@List.length_map
def qH:=@List.length_nil
def l7:=@List.length_range
def kg:=@List.length_replicate
def bR:=@List.length_set
def sG:=@List.length_singleton
def dX:=@List.length_take
def xR:=@List.mapM_cons
def dM:=@List.map_append
def i_:=@List.map_cons
def uH:=@List.map_map
def kM:=@List.map_nil
def jL:=@List.map_replicate
def gz:=@List.map_set
def qB:=@List.map_take
def wh:=@List.map_toArray
def cK:=@List.mem_append
def dK:=@List.mem_append_left
def dL:=@List.mem_append_right
def bW:=@List.mem_cons
def bL:=@List.mem_cons_of_mem
def aL:=@List.mem_cons_self
def sZ:=@List.mem_flatMap
def kQ:=@List.mem_iff_getElem
def bP:=@List.mem_map
def fF:=@List.mem_nil_iff
def aV:=@List.mem_of_getElem?
def lV:=@List.mem_of_mem_drop
def fG:=@List.mem_of_mem_take
def iX:=@List.mem_or_eq_of_mem_set
def jT:=@List.mem_range
def aT:=@List.mem_singleton
def bZ:=@List.nil_append
def l8:=@List.nodup_append
def jF:=@List.nodup_cons
def jg:=@List.nodup_nil
def nQ:=@List.pairwise_append
def jQ:=@List.pairwise_iff_getElem
def jG:=@List.pairwise_singleton
def aI:=@List.perm_append_comm
def mF:=@List.perm_append_comm_assoc
def jO:=@List.perm_middle
def iQ:=@List.prefix_refl
def xq:=@List.range_succ
def nR:=@List.set_append_left
def sH:=@List.set_append_right
def kG:=@List.set_cons_succ
def qW:=@List.set_cons_zero
def sI:=@List.set_getElem_self
def fC:=@List.sublist_append_left
def nK:=@List.sum_append
def uj:=@List.sum_append_nat
def qC:=@List.sum_cons
def zL:=@List.sum_nil
def dY:=@List.take_add_one
def iM:=@List.take_append_drop
def lS:=@List.take_append_of_le_length
def rV:=@List.take_left
def kI:=@List.take_length
def dV:=@List.take_of_length_le
def jU:=@List.take_succ_cons
def kT:=@List.take_zero
def iC:=@Nat.add_mul
def jl:=@Nat.add_sub_cancel
def jH:=@Nat.add_sub_cancel_left
def d_:=@Nat.add_zero
def kU:=@Nat.beq_eq
def dW:=@Nat.beq_refl
def aG:=@Nat.ble_eq_true_of_le
def wm:=@Nat.div_eq_of_lt
def bA:=@Nat.eq_of_beq_eq_true
def gK:=@Nat.eq_zero_or_pos
def u_:=@Nat.exists_eq_add_of_le
def qI:=@Nat.le_add_left
def pZ:=@Nat.le_add_right
def nL:=@Nat.le_max_left
def kJ:=@Nat.le_max_right
def vg:=@Nat.le_mul_of_pos_right
def aF:=@Nat.le_of_ble_eq_true
def rM:=@Nat.le_of_eq
def tY:=@Nat.le_of_mul_le_mul_right
def p8:=@Nat.le_of_not_lt
def ax:=@Nat.le_refl
def jv:=@Nat.le_succ
def rW:=@Nat.le_succ_of_le
def aQ:=@Nat.le_trans
def mG:=@Nat.lt_irrefl
def aO:=@Nat.lt_of_lt_of_le
def dH:=@Nat.lt_or_ge
def rX:=@Nat.lt_succ_of_le
def dI:=@Nat.lt_succ_self
def kY:=@Nat.lt_trichotomy
def xu:=@Nat.max_eq_left
def jI:=@Nat.min_eq_left
def wo:=@Nat.min_eq_right
def wu:=@Nat.mod_eq_of_lt
def o9:=@Nat.mod_lt
def wX:=@Nat.mul_comm
def jh:=@Nat.mul_le_mul
def gM:=@Nat.mul_le_mul_left
def fA:=@Nat.mul_le_mul_right
def dN:=@Nat.mul_one
def tF:=@Nat.mul_pos
def fH:=@Nat.not_le_of_lt
def fI:=@Nat.not_lt_of_le
def iP:=@Nat.not_lt_zero
def vk:=@Nat.or_lt_two_pow
def pO:=@Nat.pow_le_pow_right
def tH:=@Nat.pow_lt_pow_right
def uI:=@Nat.shiftRight_eq_div_pow
def kN:=@Nat.sub_self
def mD:=@Nat.sub_zero
def wz:=@Nat.succ_le_succ
def jR:=@Nat.succ_mul
def p9:=@Nat.succ_ne_zero
def wY:=@Nat.succ_pos
def qz:=@Nat.testBit_eq_decide_div_mod_eq
def xS:=@Nat.testBit_or
def uk:=@Nat.two_pow_pos
def bB:=@Nat.zero_add
def bD:=@Nat.zero_le
def jm:=@Nat.zero_mul
def qJ:=@Ne.symm
def p_:=@Option.getD_some
def eF:=@Option.some.inj
def vo:=@Option.some.injEq
def zM:=@Prod.ext_iff
def yJ:=@Prod.mk.injEq
def zq:=@and_true
def um:=@beq_eq_false_iff_ne
def ni:=@beq_iff_eq
def zi:=@cond_false
def z_:=@cond_true
def fq:=@congrArg
def wB:=@decide_eq_decide
def dR:=@decide_eq_false
def b_:=@decide_eq_true
def nS:=@decide_eq_true_eq
def wZ:=@getElem!_pos
def lQ:=@if_false
def lG:=@if_true
def nT:=@not_false_eq_true
def vv:=@not_true_eq_false
def oP:=@of_decide_eq_false
def gG:=@of_decide_eq_true
def jo:=@or_false
namespace Go.Ae
variable{e kt s t t2 ty:aH}{i' k' v v' x x' y y' z:D}{w w':cZ}{i:TypeInfo}{b ok:Bool}{d d2 du:fM}{α β:Type}{X' args args' old old' rest vs vs' ys zs:C D}{ats:C aH}{es:C (D×D)}{c c' cap cc cp h k ln mm n r sz:Nat}{a:Addr}{fs:C Field}{cs:Array aH->aH->Array D->Sem D}{op:tN}{q:aH×Nat}{p:aC Addr×Nat×Nat}{hi hi' lo lo' mx Xv:aC D}{ks:C Nat}{BB l':C MapEntry}{o ob:Obj}{ox oy:cB}{f:Array D}{ps ps':C (Nat×D)}{g:Field}
def qK{a:Bool}(x:a=F)(y:b=F):(a&&b)=F:=by rw[x,y];rfl
inductive Tr(α:Type)where
 |nil
 |node(l:Tr α)(v:α)(r:Tr α)
namespace Tr
variable{α:Type}
def get(d:α)(t:Tr α):Nat->α:=
 @Tr.rec α (λ_=>Nat->α) (λ_=>d)
  (λ_ v _ j A k=>@kH (λ_=>α) v (λk _=>@iA (λ_=>α) (A<|Nat.div k 2) (j<|Nat.div k 2)<|aB (Nat.mod k 2) 0) k) t
def Sa(d:α)(x:α):Nat->Tr α->Nat->Tr α:=
 @kH (λ_=>Tr α->Nat->Tr α) (λt _=>t) (λ_ j t k=>
  @kH (λ_=>Tr α) (@Tr.rec α (λ_=>Tr α) (.node .nil x .nil) (λl _ r _ _=>.node l x r) t)
   (λk _=>@Tr.rec α (λ_=>Tr α)
    (@iA (λ_=>Tr α) (.node .nil d<|j .nil<|Nat.div k 2) (.node (j .nil<|Nat.div k 2) d .nil)<|aB (Nat.mod k 2) 0)
    (λl v r _ _=>@iA (λ_=>Tr α) (.node l v<|j r<|Nat.div k 2) (.node (j l<|Nat.div k 2) v r)<|aB (Nat.mod k 2) 0) t) k)
def set(d:α)(t:Tr α)(k:Nat)(x:α):Tr α:=Sa d x (dh k) t k
def get_nil(d:α)(k:Nat):(Tr.nil:Tr α).get d k=d:=by cases k<;>rfl
def G5(d:α)(l:Tr α)(v:α)(r:Tr α):(Tr.node l v r).get d 0=v:=rfl
def Au(d:α)(l:Tr α)(v:α)(r:Tr α)(k:Nat):(Tr.node l v r).get d (k+1)=bif aB (k %2) 0 then l.get d (k/2)else r.get d (k/2):=by
 show @iA (λ_=>α) (r.get d<|k/2) (l.get d<|k/2) (aB (k %2) 0)=_;cases aB (k %2) 0<;>rfl
def afz(k:Nat):aB (k %2) 0=decide (k %2=0):=by
 rw[iD];simp[kU]
def aaR(d:α)(cs k:Nat)(x:α):Sa d x (cs+1) .nil (k+1)=bif aB (k %2) 0 then .node (Sa d x cs .nil<|k/2) d .nil else .node .nil d (Sa d x cs .nil<|k/2):=by
 show @iA (λ_=>Tr α) _ _ (aB (k %2) 0)=_;cases aB (k %2) 0<;>rfl
def Zd(d:α)(cs k:Nat)(x:α)(l:Tr α)(v:α)(r:Tr α):Sa d x (cs+1) (.node l v r) (k+1)=bif aB (k %2) 0 then .node (Sa d x cs l<|k/2) v r else .node l v (Sa d x cs r<|k/2):=by
 show @iA (λ_=>Tr α) _ _ (aB (k %2) 0)=_;cases aB (k %2) 0<;>rfl
def aaS(d:α)(cs:Nat):∀(t:Tr α)(k:Nat)(x:α)(j:Nat),k<cs->
 (Sa d x cs t k).get d j=if j=k then x else t.get d j:=by
 induction cs with
 |zero=>intro t k x j h;omega
 |succ cs B=>
  intro t k x j h;cases k with
  |zero=>
   cases t with
   |nil=>
    show(Tr.node .nil x .nil).get d j=_;cases j with
    |zero=>simp[G5]
    |succ j=>rw[Au,get_nil,if_neg N,get_nil];cases aB (j %2) 0<;>rfl
   |node l v r=>
    show(Tr.node l x r).get d j=_;cases j with
    |zero=>simp[G5]
    |succ j=>rw[Au,Au,if_neg N]
  |succ k=>
   have A:k/2<cs:=N;cases t with
   |nil=>
    rw[aaR];cases j with
    |zero=>cases hb:aB (k %2) 0<;>simp[G5,get_nil]
    |succ j=>
     by_cases hjk:j=k
     .subst hjk;cases hb:aB (j %2) 0<;>simp only[z_,zi,Au,hb,B _ _ _ _ A,lG]
     .rw[if_neg N];cases hb:aB (k %2) 0<;>cases hc:aB (j %2) 0<;>simp only[z_,zi,Au,hc,get_nil]
      .rw[B _ _ _ _ A,if_neg,get_nil];rw[afz]at hb hc;simp at hb hc;omega
      .rw[B _ _ _ _ A,if_neg,get_nil];rw[afz]at hb hc;simp at hb hc;omega
   |node l v r=>
    rw[Zd];cases j with
    |zero=>cases hb:aB (k %2) 0<;>simp[G5]
    |succ j=>
     by_cases hjk:j=k
     .subst hjk;cases hb:aB (j %2) 0<;>simp only[z_,zi,Au,hb,B _ _ _ _ A,lG]
     .rw[if_neg N];cases hb:aB (k %2) 0<;>cases hc:aB (j %2) 0<;>simp only[z_,zi,Au,hc]
      .rw[B _ _ _ _ A,if_neg];rw[afz]at hb hc;simp at hb hc;omega
      .rw[B _ _ _ _ A,if_neg];rw[afz]at hb hc;simp at hb hc;omega
def w9(d:α)(t:Tr α)(k:Nat)(x:α)(j:Nat):(t.set d k x).get d j=if j=k then x else t.get d j:=
 aaS d (k+1) t k x j N
def uY(d:α)(l:C α):Nat->Tr α->Tr α:=
 @dF α (λ_=>Nat->Tr α->Tr α) (λ_ t=>t) (λx _ j k t=>j (dh k)<|t.set d k x) l
def afA(d:α)(k:Nat)(t:Tr α):uY d [] k t=t:=rfl
def aaT(d:α)(x:α)(l:C α)(k:Nat)(t:Tr α):uY d (x::l) k t=uY d l (k+1) (t.set d k x):=rfl
theorem nY(d:α):∀(l:C α)(k:Nat)(t:Tr α)(j:Nat),
 (uY d l k t).get d j=if k<=j/\j<k+J l then l.getD (j-k) d else t.get d j:=by
 intro l
 induction l with
 |nil=>intro k t j;simp[afA];intro I W;omega
 |cons x l A=>
  intro k t j;simp only[aaT,A,w9,cO]
  by_cases h:k+1<=j/\j<k+1+J l
  .rw[if_pos h,if_pos N,show j-k=(j-(k+1))+1 from N];rfl
  .rw[if_neg h]
   by_cases hj:j=k
   .subst hj;simp
   .rw[if_neg hj,if_neg N]
def FW(d:α)(t:Tr α)(k n:Nat):C α:=
 @kH (λ_=>Nat->C α) (λ_=>[]) (λ_ j k=>t.get d k::j (dh k)) n k
def D5(d:α)(t:Tr α)(k:Nat):FW d t k 0=[]:=rfl
def zu(d:α)(t:Tr α)(k n:Nat):FW d t k (n+1)=t.get d k::FW d t (k+1) n:=rfl
end Tr
def aN{α β:Type}(o:aC α)(k:α->aC β):aC β:=
 @aP α (λ_=>(α->aC β)->aC β) (λ_=>T) (λx k=>k x) o k
def LF(x:α)(k:α->aC β):aN (Z x) k=k x:=rfl
def aM{o:aC α}{k:α->aC β}{r:β}(h:aN o k=Z r):∃x,o=Z x/\k x=Z r:=by
 cases o with
 |none=>cases h
 |some x=>exact⟨x,O,h⟩
def gd{β:Type}(b:Bool)(o:aC β):aC β:=
 @iA (λ_=>aC β->aC β) (λ_=>T) (λo=>o) b o
def gN{o:aC β}{r:β}(h:gd b o=Z r):b=F/\o=Z r:=by
 cases b with
 |false=>cases h
 |true=>exact⟨O,h⟩
def Bv(o:aC β):gd F o=o:=rfl
def cr{β:Type}(b:Bool)(x y:β):β:=@iA (λ_=>β->β->β) (λ_ y=>y) (λx _=>x) b x y
def oh(x y:β):cr F x y=x:=rfl
def lz(x y:β):cr aA x y=y:=rfl
def nth{α:Type}(l:C α):Nat->aC α:=
 @dF α (λ_=>Nat->aC α) (λ_=>T) (λx _ j k=>@kH (λ_=>aC α) (Z x) (λk _=>j k) k) l
def qw(l:C α):∀k,nth l k=l[k]?:=by
 induction l with
 |nil=>intro k;cases k<;>rfl
 |cons x l j=>intro k;cases k with
  |zero=>rfl
  |succ k=>exact(j k).trans<|gD
def len{α:Type}(l:C α):Nat:=@dF α (λ_=>Nat) 0 (λ_ _ n=>dh n) l
def ig(l:C α):len l=J l:=by
 induction l with
 |nil=>rfl
 |cons x l j=>exact fq dh j
def mp{α β:Type}(cs:α->β)(l:C α):C β:=@dF α (λ_=>C β) [] (λx _ r=>cs x::r) l
def G6(cs:α->β)(l:C α):mp cs l=l.map cs:=by
 induction l with
 |nil=>rfl
 |cons x l j=>exact fq (cs x::·) j
def app{α:Type}(a b:C α):C α:=@dF α (λ_=>C α) b (λx _ r=>x::r) a
def uq(a b:C α):app a b=a++b:=by
 induction a with
 |nil=>rfl
 |cons x l j=>exact fq (x::·) j
def all'{α:Type}(cs:α->Bool)(l:C α):Bool:=@dF α (λ_=>Bool) F (λx _ r=>cr (cs x) r aA) l
def all_eq(cs:α->Bool)(l:C α):all' cs l=l.all cs:=by
 induction l with
 |nil=>rfl
 |cons x l j=>
  show cr (cs x) (all' cs l) aA=_;rw[j,yI];cases cs x<;>rfl
def tk{α:Type}(n:Nat):C α->C α:=@kH (λ_=>C α->C α) (λ_=>[]) (λ_ j l=>@dF α (λ_=>C α) [] (λx r _=>x::j r) l) n
def FF(n:Nat):∀(l:C α),tk n l=l.take n:=by
 induction n with
 |zero=>intro l;show[]=l.take 0;simp
 |succ n j=>intro l;cases l with
  |nil=>rfl
  |cons x l=>exact fq (x::·)<|j l
def dp{α:Type}(n:Nat):C α->C α:=@kH (λ_=>C α->C α) (λl=>l) (λ_ j l=>@dF α (λ_=>C α) [] (λ_ r _=>j r) l) n
def OT(n:Nat):∀(l:C α),dp n l=l.drop n:=by
 induction n with
 |zero=>intro l;rfl
 |succ n j=>intro l;cases l with
  |nil=>rfl
  |cons x l=>exact j l
structure Row where
 ty:aH
 cells:Tr D
 n:Nat
 mR:Bool
 fz:Nat
inductive nE where
 |dead
 |row(r:Row)
 |map(es:C<|D×D)
 |OU(s:aZ)(pos:Nat)
def xN(o:nE):aC Row:=@nE.rec (λ_=>aC Row) T (λr=>Z r) (λ_=>T) (λ_ _=>T) o
def LG(o:nE):aC (C<|D×D):=@nE.rec (λ_=>aC<|C<|D×D) T (λ_=>T) (λm=>Z m) (λ_ _=>T) o
def vN{o:nE}{r:Row}(h:xN o=Z r):o=.row r:=by cases o<;>cases h;rfl
def K5{o:nE}{r:C (D×D)}(h:LG o=Z r):o=.map r:=by cases o<;>cases h;rfl
def top:D:=.chan<|Z 0
structure R where
 xO:Tr nE
 bU:Nat
 low:Nat
variable{H Q:R}
def R.obj(H:R)(r:Nat):nE:=H.xO.get .dead r
def R.put(H:R)(r:Nat)(o:nE):R:=⟨H.xO.set .dead r o,H.bU,cr (aD H.low r) H.low r⟩
def R.new(H:R)(o:nE):R:=⟨H.xO.set .dead H.bU o,dh H.bU,H.low⟩
def rowOf(ty:aH)(vs:C D):nE:=.row ⟨ty,Tr.uY top vs 0 .nil,len vs,aA,0⟩
def gQ(es:Nat):Nat:=a_ 18446744073709551616 es
def gW(c:Nat):Bool:=aD c 9223372036854775807
def fZ(v:D):Bool:=
 @Value.rec (λ_=>Bool) (λ_=>PUnit) (λ_=>PUnit)
  (λ_=>F)
  (λ_ _=>F)
  (λ_ _=>F)
  (λ_ _ _=>F)
  (λ_=>F)
  (λ_=>F)
  (λ_ _ _=>F)
  (λ_=>F)
  (λr=>aA)
  (λ_ _ _ _ _=>F)
  (F)
  (λ_ _ _=>F)
  (F)
  (λf _=>aA)
  (λvs _=>aA)
  (λ_ _=>⟨⟩) ⟨⟩ (λ_ _ _ _=>⟨⟩) v
def rJ(v:D):Bool:=
 @Value.rec (λ_=>Bool) (λ_=>PUnit) (λ_=>PUnit)
  (λ_=>F)
  (λ_ _=>F)
  (λ_ _=>F)
  (λ_ _ _=>F)
  (λ_=>F)
  (λ_=>F)
  (λ_ _ _=>F)
  (λ_=>F)
  (λr=>aA)
  (λ_ _ _ _ _=>F)
  (F)
  (λ_ _ _=>F)
  (F)
  (λ_ _=>F)
  (λ_ _=>F)
  (λ_ _=>⟨⟩) ⟨⟩ (λ_ _ _ _=>⟨⟩) v
def sJ(v:D):aC Addr:=
 @Value.rec (λ_=>aC Addr) (λ_=>PUnit) (λ_=>PUnit)
  (λ_=>T)
  (λ_ _=>T)
  (λ_ _=>T)
  (λ_ _ _=>T)
  (λ_=>T)
  (λa=>a)
  (λ_ _ _=>T)
  (λ_=>T)
  (λ_=>T)
  (λ_ _ _ _ _=>T)
  (T)
  (λ_ _ _=>T)
  (T)
  (λ_ _=>T)
  (λ_ _=>T)
  (λ_ _=>⟨⟩) ⟨⟩ (λ_ _ _ _=>⟨⟩) v
def kV(v:D):aC Bool:=
 @Value.rec (λ_=>aC Bool) (λ_=>PUnit) (λ_=>PUnit)
  (λb=>Z b)
  (λ_ _=>T)
  (λ_ _=>T)
  (λ_ _ _=>T)
  (λ_=>T)
  (λ_=>T)
  (λ_ _ _=>T)
  (λ_=>T)
  (λ_=>T)
  (λ_ _ _ _ _=>T)
  (T)
  (λ_ _ _=>T)
  (T)
  (λ_ _=>T)
  (λ_ _=>T)
  (λ_ _=>⟨⟩) ⟨⟩ (λ_ _ _ _=>⟨⟩) v
def vw(v:D):aC (gm×Int):=
 @Value.rec (λ_=>aC<|gm×Int) (λ_=>PUnit) (λ_=>PUnit)
  (λ_=>T)
  (λk n=>Z (k,n))
  (λ_ _=>T)
  (λ_ _ _=>T)
  (λ_=>T)
  (λ_=>T)
  (λ_ _ _=>T)
  (λ_=>T)
  (λ_=>T)
  (λ_ _ _ _ _=>T)
  (T)
  (λ_ _ _=>T)
  (T)
  (λ_ _=>T)
  (λ_ _=>T)
  (λ_ _=>⟨⟩) ⟨⟩ (λ_ _ _ _=>⟨⟩) v
def LH(n:Int):aC Nat:=@Int.rec (λ_=>aC Nat) (λm=>Z m) (λ_=>T) n
def Bh(v:D):aC Nat:=
 @Value.rec (λ_=>aC Nat) (λ_=>PUnit) (λ_=>PUnit)
  (λ_=>T)
  (λk n=>LH n)
  (λ_ _=>T)
  (λ_ _ _=>T)
  (λ_=>T)
  (λ_=>T)
  (λ_ _ _=>T)
  (λ_=>T)
  (λ_=>T)
  (λ_ _ _ _ _=>T)
  (T)
  (λ_ _ _=>T)
  (T)
  (λ_ _=>T)
  (λ_ _=>T)
  (λ_ _=>⟨⟩) ⟨⟩ (λ_ _ _ _=>⟨⟩) v
def vO(v:D):aC aZ:=
 @Value.rec (λ_=>aC aZ) (λ_=>PUnit) (λ_=>PUnit)
  (λ_=>T)
  (λ_ _=>T)
  (λ_ _=>T)
  (λ_ _ _=>T)
  (λs=>Z s)
  (λ_=>T)
  (λ_ _ _=>T)
  (λ_=>T)
  (λ_=>T)
  (λ_ _ _ _ _=>T)
  (T)
  (λ_ _ _=>T)
  (T)
  (λ_ _=>T)
  (λ_ _=>T)
  (λ_ _=>⟨⟩) ⟨⟩ (λ_ _ _ _=>⟨⟩) v
def Ky(v:D):aC (aC Addr×Nat×Nat):=
 @Value.rec (λ_=>aC<|aC Addr×Nat×Nat) (λ_=>PUnit) (λ_=>PUnit)
  (λ_=>T)
  (λ_ _=>T)
  (λ_ _=>T)
  (λ_ _ _=>T)
  (λ_=>T)
  (λ_=>T)
  (λa l c=>Z (a,l,c))
  (λ_=>T)
  (λ_=>T)
  (λ_ _ _ _ _=>T)
  (T)
  (λ_ _ _=>T)
  (T)
  (λ_ _=>T)
  (λ_ _=>T)
  (λ_ _=>⟨⟩) ⟨⟩ (λ_ _ _ _=>⟨⟩) v
def Oc(v:D):aC (aC Nat):=
 @Value.rec (λ_=>aC<|aC Nat) (λ_=>PUnit) (λ_=>PUnit)
  (λ_=>T)
  (λ_ _=>T)
  (λ_ _=>T)
  (λ_ _ _=>T)
  (λ_=>T)
  (λ_=>T)
  (λ_ _ _=>T)
  (λr=>Z r)
  (λ_=>T)
  (λ_ _ _ _ _=>T)
  (T)
  (λ_ _ _=>T)
  (T)
  (λ_ _=>T)
  (λ_ _=>T)
  (λ_ _=>⟨⟩) ⟨⟩ (λ_ _ _ _=>⟨⟩) v
def fFn(cs:Fn):aC FuncId:=@Fn.rec (λ_=>aC FuncId) (λcs=>Z cs) (λ_=>T) (λ_ _=>T) (λ_ _ _ _=>T) (λ_=>T) cs
def vFn(v:D):aC (Fn×C D×C D):=
 @Value.rec (λ_=>aC<|Fn×C D×C D) (λ_=>PUnit) (λ_=>PUnit)
  (λ_=>T)
  (λ_ _=>T)
  (λ_ _=>T)
  (λ_ _ _=>T)
  (λ_=>T)
  (λ_=>T)
  (λ_ _ _=>T)
  (λ_=>T)
  (λ_=>T)
  (λcs x y _ _=>Z (cs,x.toList,y.toList))
  (T)
  (λ_ _ _=>T)
  (T)
  (λ_ _=>T)
  (λ_ _=>T)
  (λ_ _=>⟨⟩) ⟨⟩ (λ_ _ _ _=>⟨⟩) v
def vP(v:D):aC (C D):=
 @Value.rec (λ_=>aC<|C D) (λ_=>PUnit) (λ_=>PUnit)
  (λ_=>T)
  (λ_ _=>T)
  (λ_ _=>T)
  (λ_ _ _=>T)
  (λ_=>T)
  (λ_=>T)
  (λ_ _ _=>T)
  (λ_=>T)
  (λ_=>T)
  (λ_ _ _ _ _=>T)
  (T)
  (λ_ _ _=>T)
  (T)
  (λf _=>Z f.toList)
  (λ_ _=>T)
  (λ_ _=>⟨⟩) ⟨⟩ (λ_ _ _ _=>⟨⟩) v
def aaU(v:D):aC (C D):=
 @Value.rec (λ_=>aC<|C D) (λ_=>PUnit) (λ_=>PUnit)
  (λ_=>T)
  (λ_ _=>T)
  (λ_ _=>T)
  (λ_ _ _=>T)
  (λ_=>T)
  (λ_=>T)
  (λ_ _ _=>T)
  (λ_=>T)
  (λ_=>T)
  (λ_ _ _ _ _=>T)
  (T)
  (λ_ _ _=>T)
  (T)
  (λ_ _=>T)
  (λvs _=>Z vs.toList)
  (λ_ _=>⟨⟩) ⟨⟩ (λ_ _ _ _=>⟨⟩) v
def fQ{α:Type}(o:aC α):Bool:=@aP α (λ_=>Bool) F (λ_=>aA) o
def uu(v:D):Nat×Bool:=
 @Value.rec (λ_=>Nat×Bool) (λ_=>PUnit) (λ_=>PUnit)
  (λ_=>(0,aA))
  (λ_ _=>(0,aA))
  (λ_ _=>(0,aA))
  (λ_ _ _=>(0,aA))
  (λ_=>(0,aA))
  (λa=>(1,fQ a))
  (λa l c=>(2,fQ a))
  (λr=>(3,fQ r))
  (λ_=>(0,aA))
  (λcs x y _ _=>(4,aA))
  ((4,F))
  (λt v _=>(5,aA))
  ((5,F))
  (λ_ _=>(0,aA))
  (λ_ _=>(0,aA))
  (λ_ _=>⟨⟩) ⟨⟩ (λ_ _ _ _=>⟨⟩) v
def LJ(v:D):Bool:=
 @Value.rec (λ_=>Bool) (λ_=>PUnit) (λ_=>PUnit)
  (λ_=>aA)
  (λ_ _=>aA)
  (λ_ _=>aA)
  (λ_ _ _=>aA)
  (λ_=>aA)
  (λa=>fQ a)
  (λ_ _ _=>aA)
  (λr=>fQ r)
  (λ_=>aA)
  (λ_ _ _ _ _=>aA)
  (F)
  (λ_ _ _=>aA)
  (F)
  (λ_ _=>aA)
  (λ_ _=>aA)
  (λ_ _=>⟨⟩) ⟨⟩ (λ_ _ _ _=>⟨⟩) v
def rY{α:Type}(o:aC α):Bool:=@aP α (λ_=>Bool) aA (λ_=>F) o
def bY(v:D):C D:=@aP (C D) (λ_=>C D) [v] (λl=>l)<|vP v
def o7(v:D):Bool:=
 @Value.rec (λ_=>Bool) (λ_=>PUnit) (λ_=>PUnit)
  (λb=>F)
  (λk n=>F)
  (λk b=>F)
  (λk x y=>F)
  (λs=>F)
  (λa=>fQ a)
  (λa l c=>fQ a&&aB l 0&&aB c 0)
  (λr=>fQ r)
  (λ_=>aA)
  (λ_ _ _ _ _=>aA)
  (F)
  (λ_ _ _=>aA)
  (F)
  (λ_ _=>aA)
  (λ_ _=>aA)
  (λ_ _=>⟨⟩) ⟨⟩ (λ_ _ _ _=>⟨⟩) v
def CQ(d:fM):Nat:=
 @kR (λ_=>Nat)
  (0) (0) (λ_=>0) (λ_=>0) (λ_=>0) (0) (0) (λe=>1) (λe=>2) (λ_ _=>0) (λk e=>3) (λ_ _=>0) (λ_=>0) (λp r v=>4) (λj=>5) (λ_=>0) (λ_ _=>0) d
def dSl(d:fM):aC aH:=
 @kR (λ_=>aC aH)
  (T) (T) (λ_=>T) (λ_=>T) (λ_=>T) (T) (T) (λ_=>T) (λe=>Z e) (λ_ _=>T) (λ_ _=>T) (λ_ _=>T) (λ_=>T) (λ_ _ _=>T) (λ_=>T) (λ_=>T) (λ_ _=>T) d
def G7(d:fM):aC aH:=
 @kR (λ_=>aC aH)
  (T) (T) (λ_=>T) (λ_=>T) (λ_=>T) (T) (T) (λe=>Z e) (λ_=>T) (λ_ _=>T) (λ_ _=>T) (λ_ _=>T) (λ_=>T) (λ_ _ _=>T) (λ_=>T) (λ_=>T) (λ_ _=>T) d
def Sb(d:fM):aC (Nat×aH):=
 @kR (λ_=>aC<|Nat×aH)
  (T) (T) (λ_=>T) (λ_=>T) (λ_=>T) (T) (T) (λ_=>T) (λ_=>T) (λn e=>Z (n,e)) (λ_ _=>T) (λ_ _=>T) (λ_=>T) (λ_ _ _=>T) (λ_=>T) (λ_=>T) (λ_ _=>T) d
def aiI(d:fM):aC (aH×aH):=
 @kR (λ_=>aC<|aH×aH)
  (T) (T) (λ_=>T) (λ_=>T) (λ_=>T) (T) (T) (λ_=>T) (λ_=>T) (λ_ _=>T) (λk e=>Z (k,e)) (λ_ _=>T) (λ_=>T) (λ_ _ _=>T) (λ_=>T) (λ_=>T) (λ_ _=>T) d
def Qg(d:fM):aC (C Field):=
 @kR (λ_=>aC<|C Field)
  (T) (T) (λ_=>T) (λ_=>T) (λ_=>T) (T) (T) (λ_=>T) (λ_=>T) (λ_ _=>T) (λ_ _=>T) (λ_ _=>T) (λfs=>Z fs.toList) (λ_ _ _=>T) (λ_=>T) (λ_=>T) (λ_ _=>T) d
def DL(d:fM):Bool:=
 @kR (λ_=>Bool)
  (aA) (aA) (λ_=>aA) (λ_=>aA) (λ_=>aA) (F) (aA) (λ_=>aA) (λ_=>aA) (λ_ _=>aA) (λ_ _=>aA) (λ_ _=>aA) (λ_=>aA) (λ_ _ _=>aA) (λ_=>aA) (λ_=>aA) (λ_ _=>aA) d
def G8(d:fM):Bool:=
 @kR (λ_=>Bool)
  (aA) (aA) (λ_=>aA) (λ_=>aA) (λ_=>aA) (aA) (F) (λ_=>aA) (λ_=>aA) (λ_ _=>aA) (λ_ _=>aA) (λ_ _=>aA) (λ_=>aA) (λ_ _ _=>aA) (λ_=>aA) (λ_=>aA) (λ_ _=>aA) d
def Od(d:fM):aC gm:=
 @kR (λ_=>aC gm)
  (T) (T) (λk=>Z k) (λ_=>T) (λ_=>T) (T) (T) (λ_=>T) (λ_=>T) (λ_ _=>T) (λ_ _=>T) (λ_ _=>T) (λ_=>T) (λ_ _ _=>T) (λ_=>T) (λ_=>T) (λ_ _=>T) d
def I6(d:fM):aC FloatKind:=
 @kR (λ_=>aC FloatKind)
  (T) (T) (λ_=>T) (λk=>Z k) (λ_=>T) (T) (T) (λ_=>T) (λ_=>T) (λ_ _=>T) (λ_ _=>T) (λ_ _=>T) (λ_=>T) (λ_ _ _=>T) (λ_=>T) (λ_=>T) (λ_ _=>T) d
def Sc(d:fM):Bool:=
 @kR (λ_=>Bool)
  (aA) (aA) (λ_=>aA) (λ_=>aA) (λ_=>aA) (aA) (aA) (λ_=>aA) (λ_=>aA) (λn e=>F) (λ_ _=>aA) (λ_ _=>aA) (λfs=>F) (λ_ _ _=>aA) (λ_=>aA) (λ_=>aA) (λ_ _=>aA) d
def q9(d:fM):Nat:=
 @kR (λ_=>Nat)
  (0) (2) (λk=>1) (λ_=>0) (λ_=>0) (3) (0) (λ_=>0) (λ_=>0) (λ_ _=>0) (λ_ _=>0) (λ_ _=>0) (λ_=>0) (λ_ _ _=>0) (λ_=>0) (λ_=>0) (λ_ _=>0) d
def KA(k:gm):Bool:=@IntKind.rec (λ_=>Bool) aA aA aA aA F aA aA aA k
def FH(k:gm):Bool:=@IntKind.rec (λ_=>Bool) aA aA aA F aA aA aA aA k
def sQ(k:gm):Nat:=@IntKind.rec (λ_=>Nat) 0 1 2 3 4 5 6 7 k
def tI(P:aX)(t:aH):aC TypeInfo:=P.info? t
def wM(P:aX)(t:aH):aC Nat:=aN (P.info? t) λi=>Z i.size
def Se(P:aX)(t:aH):aC (aH×Nat):=aN (P.underlying t) λd=>aN (dSl d) λe=>aN (wM P e) λs=>gd (aD 1 s)<|Z (e,s)
def Sf(P:aX)(t:aH):aC (Nat×aH×Nat):=aN (P.underlying t) λd=>aN (Sb d) λe=>aN (wM P e.2) λs=>gd (aD 1 s)<|Z (e.1,e.2,s)
def tLd(P:aX)(t:aH):aC (aC Nat):=aN (P.underlying t) λd=>aN (wM P t) λs=>Z<|cr (Sc d) (Z s) T
def I7(P:aX)(t:aH):Bool:=@aP fM (λ_=>Bool) aA DL<|P.underlying t
def JJ(P:aX)(t:aH):Bool:=@aP fM (λ_=>Bool) aA (λd=>@aP gm (λ_=>Bool) aA KA<|Od d)<|P.underlying t
def vz(P:aX)(t:aH):aC (aH×aH):=aN (P.underlying t) aiI
def I8(v:D):Bool:=@aP (C D) (λ_=>Bool) (o7 v) (λl=>all' o7 l)<|vP v
def zw(P:aX)(t:aH):aC D:=aN (P.info? t) λi=>aN i.zero λz=>gd (I8 z)<|Z z
def BP(P:aX)(t:aH):aC (C D):=aN (zw P t) λz=>aN (wM P t) λs=>gd (aB (len<|bY z) s)<|Z<|bY z
def CR(P:aX)(t:aH):aC (C Field):=aN (P.underlying t) Qg
def UW(P:aX)(t:aH)(cs:Nat):aC (Nat×aC Nat):=aN (CR P t) λfs=>aN (nth fs cs) λj=>aN (tLd P j.type) λl=>aN (wM P j.type) λs=>gd (aD 1 s)<|Z (j.offset,l)
def places(P:aX)(fs:C Field):aC (C<|Nat×Nat):=
 @dF Field (λ_=>aC<|C<|Nat×Nat) (Z []) (λcs _ r=>aN (wM P cs.type) λs=>aN r λl=>Z<|(cs.offset,s)::l) fs
def Xl(P:aX)(t:aH):aC (C<|Nat×Nat):=aN (CR P t)<|places P
def R.cell(H:R)(r off:Nat):aC D:=aN (xN<|H.obj r) λw=>gd (aD (dh off) w.n)<|Z<|w.cells.get top off
def R.read(H:R)(r off k:Nat):aC (C D):=
 @kH (λ_=>aC<|C D) (Z []) (λ_ _=>aN (xN<|H.obj r) λw=>gd (aD (a_ off k) w.n)<|Z<|Tr.FW top w.cells off k) k
def R.write(H:R)(r off:Nat)(vs:C D):aC R:=
 @dF D (λ_=>aC R) (Z H) (λ_ _ _=>aN (xN<|H.obj r) λw=>
  gd (!w.mR&&aD (a_ off<|len vs) w.n&&aD w.fz off&&all' fZ vs)
   (Z<|H.put r<|.row ⟨w.ty,Tr.uY top vs off w.cells,w.n,aA,w.fz⟩)) vs
def lH(s:Sem D):aC D:=match s with
 |.pure v=>gd (o7 v)<|Z v
 |_=>T
def Oe(a b:Int):Bool:=
 @Int.rec (λ_=>Bool) (λm=>@Int.rec (λ_=>Bool) (λn=>aD (dh m) n) (λ_=>aA) b)
  (λm=>@Int.rec (λ_=>Bool) (λ_=>F) (λn=>aD (dh n) m) b) a
def FI(a b:Int):Bool:=
 @Int.rec (λ_=>Bool) (λm=>@Int.rec (λ_=>Bool) (λn=>aB m n) (λ_=>aA) b)
  (λm=>@Int.rec (λ_=>Bool) (λ_=>aA) (λn=>aB m n) b) a
def qd(k:gm)(n:Int):Int:=
 @Int.rec (λ_=>Int) (λm=>cr (FH k&&aD m 9223372036854775807) (.ofNat m)<|k.wrap n) (λm=>cr (FH k&&aD m 9223372036854775807) (.negSucc m)<|k.wrap n) n
def Ze(op:tN):gm->Int->Int->aC D:=
 @BinOp.rec (λ_=>gm->Int->Int->aC D) (λk a b=>Z<|.int k<|qd k<|Int.add a b) (λk a b=>Z<|.int k<|qd k<|Int.sub a b) (λk a b=>Z<|.int k<|qd k<|Int.mul a b) (λk a b=>lH<|Op.intDiv .quo k a b) (λk a b=>lH<|Op.intDiv .rem k a b) (λk a b=>lH<|Op.intBits .and k a b) (λk a b=>lH<|Op.intBits .or k a b) (λk a b=>lH<|Op.intBits .xor k a b) (λ_ _ _=>T) (λ_ _ _=>T) (λk a b=>lH<|Op.intBits .andNot k a b) (λ_ a b=>Z<|.bool<|FI a b) (λ_ a b=>Z<|.bool<|!(FI a b)) (λ_ a b=>Z<|.bool<|Oe a b) (λ_ a b=>Z<|.bool<|!(Oe b a)) (λ_ a b=>Z<|.bool<|Oe b a) (λ_ a b=>Z<|.bool<|!(Oe a b)) op
def Av(op:tN):Nat:=@BinOp.rec (λ_=>Nat) (0) (0) (0) (0) (0) (0) (0) (0) (0) (0) (0) (1) (2) (0) (0) (0) (0) op
def K6(op:tN):Bool:=@BinOp.rec (λ_=>Bool) (aA) (aA) (aA) (aA) (aA) (aA) (aA) (aA) (F) (F) (aA) (aA) (aA) (aA) (aA) (aA) (aA) op
def CK(a b:Bool):Bool:=cr a b<|!b
def u8L(l:C UInt8):C Nat:=mp (λb=>b.toNat) l
def LK(l:C Nat):C Nat->Bool:=
 @dF Nat (λ_=>C Nat->Bool) (λm=>@dF Nat (λ_=>Bool) F (λ_ _ _=>aA) m)
  (λx _ j m=>@dF Nat (λ_=>Bool) aA (λy r _=>cr (aB x y) (j r) aA) m) l
def tZ(x y:aZ):Bool:=LK (u8L x.data.toList)<|u8L y.data.toList
def strLt(x y:aZ):Bool:=Op.bytesLess x.data.toList y.data.toList
def aaV(x y:aZ):aC D:=
 gd (aD (a_ (len x.data.toList)<|len y.data.toList) 4611686018427387904) (Z<|.string ⟨⟨app x.data.toList y.data.toList⟩⟩)
def afB(op:tN):aZ->aZ->aC D:=
 @BinOp.rec (λ_=>aZ->aZ->aC D) (aaV) (λ_ _=>T) (λ_ _=>T) (λ_ _=>T) (λ_ _=>T) (λ_ _=>T) (λ_ _=>T) (λ_ _=>T) (λ_ _=>T) (λ_ _=>T) (λ_ _=>T) (λa b=>Z<|.bool<|tZ a b) (λa b=>Z<|.bool<|!(tZ a b)) (λa b=>Z<|.bool<|strLt a b) (λa b=>Z<|.bool<|strLt a b||tZ a b) (λa b=>Z<|.bool<|!(strLt a b||tZ a b)) (λa b=>Z<|.bool<|!(strLt a b)) op
def xU(k:Nat)(x y:D):aC Bool:=
 cr (aB k 1) (aN (vw x) λa=>aN (vw y) λb=>gd (aB (sQ a.1)<|sQ b.1)<|Z<|FI a.2 b.2)
  (cr (aB k 2) (aN (kV x) λa=>aN (kV y) λb=>Z<|CK a b)
   (cr (aB k 3) (aN (vO x) λa=>aN (vO y) λb=>Z<|tZ a b) T))
def om(ks:C Nat):C D->C D->aC Bool:=
 @dF Nat (λ_=>C D->C D->aC Bool)
  (λxs ys=>@dF D (λ_=>aC Bool) (@dF D (λ_=>aC Bool) (Z F) (λ_ _ _=>T) ys) (λ_ _ _=>T) xs)
  (λk _ j xs ys=>@dF D (λ_=>aC Bool) T (λx A _=>@dF D (λ_=>aC Bool) T
   (λy B _=>aN (xU k x y) λb=>cr b (j A B)<|Z aA) ys) xs) ks
def o8(P:aX)(fs:C Field):Nat->aC (C Nat):=
 @dF Field (λ_=>Nat->aC (C Nat)) (λ_=>Z [])
  (λcs _ j k=>aN (P.underlying cs.type) λd=>aN (j<|dh k) λr=>gd (aB cs.offset k&&!(cs.name== "_")&&aD 1 (q9 d))<|Z<|q9 d::r) fs
def aaW{α:Type}(x:α)(n:Nat):C α:=@kH (λ_=>C α) [] (λ_ r=>x::r) n
def G9(P:aX)(t:aH):aC (C Nat):=aN (CR P t) λfs=>gd (!(P.stoodInHeld t))<|o8 P fs 0
def ahn(P:aX)(t:aH):aC (C Nat):=aN (P.underlying t) λd=>aN (Sb d) λa=>aN (P.underlying a.2) λe=>aN (wM P a.2) λs=>
 gd (aB s 1&&aD 1 (q9 e)) (Z<|aaW (q9 e) a.1)
def akx(P:aX)(fs:C Field):aC (C Nat):=
 @dF Field (λ_=>aC<|C Nat) T (λcs r _=>@dF Field (λ_=>aC<|C Nat) T (λg q _=>@dF Field (λ_=>aC<|C Nat)
  (aN (P.underlying cs.type) λd=>aN (CR P g.type) λgs=>aN (G9 P g.type) λks=>aN (wM P g.type) λs=>
   gd (aB cs.offset 0&&!(cs.name== "_")&&aD 1 (q9 d)&&(aB g.offset 1&&!(g.name== "_")&&aB s (len ks))) (Z<|q9 d::ks)) (λ_ _ _=>T) q) r) fs
def Qh(P:aX)(t:aH):aC (C Nat):=aN (CR P t) λfs=>gd (!(P.stoodInHeld t))<|akx P fs
def orElse'{α:Type}(o q:aC α):aC α:=@aP α (λ_=>aC α->aC α) (λq=>q) (λx _=>Z x) o q
def tEq(P:aX)(t:aH):aC (Sum Nat<|C Nat):=
 aN (P.underlying t) λd=>cr (aD 1<|q9 d) (Z<|.inl<|q9 d)<|aN (orElse' (orElse' (G9 P t)<|ahn P t)<|Qh P t) λl=>Z<|.inr l
def mU(P:aX)(t:aH)(x y:D):aC Bool:=
 aN (tEq P t) λq=>@Sum.rec Nat (C Nat) (λ_=>aC Bool) (λk=>xU k x y)
  (λl=>aN (vP x) λa=>aN (vP y) λb=>om l a b) q
def vB(o:cB):Bool:=
 @Operand.rec (λ_=>Bool) (λ_=>aA) (λv=>(uu v).2) (λ_=>aA) (λ_=>aA) o
def I9(P:aX)(t:aH):Nat:=@aP fM (λ_=>Nat) 0 CQ<|P.underlying t
def OV(k:Nat)(c x:D):aC Bool:=gd (aD 1 k&&aB (uu x).1 k&&aB (uu c).1 k)<|Z (uu x).2
def I_(P:aX)(t:aH):Bool:=
 @aP Unit (λ_=>Bool) aA (λ_=>F) (aN (P.underlying t) λd=>aN (G7 d) λe=>aN (wM P e) λs=>gd (aD 1 s)<|Z ())
def ptrEq(x y:D):aC Bool:=aN (sJ x) λa=>aN (sJ y) λb=>gd (aB a.block b.block)<|Z<|aB a.off b.off
def aeq(P:aX)(t:aH)(ox oy:cB)(x y:D):aC Bool:=
 cr (vB oy) (OV (I9 P t) y x) (cr (vB ox) (OV (I9 P t) x y)<|cr (I_ P t) (ptrEq x y)<|mU P t x y)
def D6(op:tN)(b:aC Bool):aC D:=
 cr (aB (Av op) 1) (aN b λb=>Z<|.bool b) (cr (aB (Av op) 2) (aN b λb=>Z<|.bool<|!b) T)
def aaX(op:tN)(t:aH)(x y:D):aC D:=aN (vw x) λ_=>aN (vw y) λ_=>lH<|binOp op t x y
def yK(v:D):Nat:=
 @Value.rec (λ_=>Nat) (λ_=>PUnit) (λ_=>PUnit)
  (λ_=>0)
  (λ_ _=>0)
  (λk b=>1)
  (λk x y=>2)
  (λ_=>0)
  (λ_=>0)
  (λ_ _ _=>0)
  (λ_=>0)
  (λ_=>0)
  (λ_ _ _ _ _=>0)
  (0)
  (λ_ _ _=>0)
  (0)
  (λ_ _=>0)
  (λ_ _=>0)
  (λ_ _=>⟨⟩) ⟨⟩ (λ_ _ _ _=>⟨⟩) v
def UX(op:tN)(t:aH)(x y:D):aC D:=gd (aD 1 (yK x)&&aB (yK x) (yK y))<|lH<|binOp op t x y
def mW(P:aX)(op:tN)(t:aH)(ox oy:cB)(x y:D):aC D:=
 @aP (gm×Int) (λ_=>aC D)
  (@aP aZ (λ_=>aC D) (cr (aD 1<|yK x) (UX op t x y)<|D6 op<|aeq P t ox oy x y) (λa=>aN (vO y) λb=>afB op a b)<|vO x)
  (λa=>cr (K6 op) (aaX op t x y)<|aN (vw y) λb=>gd (aB (sQ a.1)<|sQ b.1)<|Ze op a.1 a.2 b.2) (vw x)
def D7(P:aX)(s d:aH)(x:D):aC D:=
 aN (P.underlying s) λ_=>aN (P.underlying d) λe=>
  @aP (gm×Int) (λ_=>aC D) (aN (vO x) λb=>gd (DL e)<|Z<|.string b)
   (λa=>@aP gm (λ_=>aC D) (cr (DL e) (Z<|.string<|Utf8.encode a.2)<|aN (I6 e) λk=>lH<|Conv.intToFloat k a.2) (λk=>Z<|.int k<|qd k a.2)<|Od e) (vw x)
def apart(l:aC Nat)(f:C D)(off:Nat):aC D:=
 @aP Nat (λ_=>aC D) (nth f off) (λn=>gd (aD (a_ off n)<|len f)<|Z<|.agg ⟨tk n<|dp off f⟩) l
def pz(o:aC D)(d:Nat):aC Nat:=@aP D (λ_=>aC Nat) (Z d) Bh o
def sS(m l off sz:Nat):Nat:=cr (aB m l) off<|a_ off<|bO l sz
def Qi(s:aZ)(lo hi:aC D):aC D:=
 aN (pz lo 0) λl=>aN (pz hi<|len s.data.toList) λh=>gd (aD l h&&aD h (len s.data.toList))
  (Z<|.string ⟨⟨tk (dQ h l)<|dp l s.data.toList⟩⟩)
def Xm(sz:Nat)(p:aC Addr×Nat×Nat)(lo hi mx:aC D):aC D:=
 @aP Addr (λ_=>aC D)
  (aN (pz lo 0) λl=>aN (pz hi 0) λh=>aN (pz mx 0) λm=>gd (aB l 0&&aB h 0&&aB m 0&&aB p.2.1 0&&aB p.2.2 0&&(!(fQ hi)||fQ mx))<|Z<|.slice T 0 0)
  (λa=>aN (pz lo 0) λl=>aN (pz hi p.2.1) λh=>
   cr (gW p.2.2)
    (aN (pz mx p.2.2) λm=>gd (aD l h&&aD h m&&aD m p.2.2&&(!(fQ hi)||fQ mx))
     (Z<|.slice (Z ⟨a.block,sS m l a.off sz,T⟩) (dQ h l)<|dQ m l))
    (gd (aB p.2.2<|gQ sz) (@aP D (λ_=>aC D)
     (gd (aD l h&&aD h p.2.1)<|Z<|.slice (Z ⟨a.block,a_ a.off<|bO l sz,T⟩) (dQ h l) p.2.2)
     (λj=>aN (Bh j) λm=>gd (aD l h&&aD h m&&aD m p.2.1&&!(fQ hi)&&gW m)
      (Z<|.slice (Z ⟨a.block,sS m l a.off sz,T⟩) (dQ h l)<|dQ m l)) mx))) p.1
def UY(n sz:Nat)(a:Addr)(lo hi mx:aC D):aC D:=
 aN (pz lo 0) λl=>aN (pz hi n) λh=>gd (aD l h&&aD h n&&fQ mx&&gW n)
  (Z<|.slice (Z ⟨a.block,sS n l a.off sz,T⟩) (dQ h l)<|dQ n l)
def BQ(P:aX)(t:aH)(x:D)(lo hi mx:aC D):aC D:=
 @aP (aH×Nat) (λ_=>aC D)
  (cr (I7 P t) (aN (vO x) λs=>gd (fQ mx)<|Qi s lo hi)<|aN (Sf P t) λq=>aN (sJ x) λa=>UY q.1 q.2.2 a lo hi mx)
  (λq=>aN (Ky x) λp=>Xm q.2 p lo hi mx) (Se P t)
def uw(P:aX)(t:aH)(x i:D):aC D:=
 aN (Bh i) λk=>@aP (aH×Nat) (λ_=>aC D)
  (aN (Sf P t) λq=>aN (sJ x) λa=>gd (aD (dh k) q.1)<|Z<|.pointer<|Z ⟨a.block,a_ a.off<|bO k q.2.2,T⟩)
  (λq=>aN (Ky x) λp=>aN p.1 λa=>gd (aD (dh k) p.2.1)<|Z<|.pointer<|Z ⟨a.block,a_ a.off<|bO k q.2,T⟩) (Se P t)
def D8(P:aX)(t:aH)(x i:D):aC D:=
 aN (Bh i) λk=>cr (I7 P t)
  (aN (vO x) λs=>aN (nth s.data.toList k) λb=>Z<|.int .u8<|.ofNat b.toNat)
  (aN (Sf P t) λq=>aN (vP x) λf=>aN (tLd P q.2.1) λl=>gd (aD (dh k) q.1)<|apart l f<|bO k q.2.2)
def uy(P:aX)(t:aH)(x:D)(cs:Nat):aC D:=
 aN (sJ x) λa=>aN (UW P t cs) λq=>Z<|.pointer<|Z ⟨a.block,a_ a.off q.1,T⟩
def D9(P:aX)(t:aH)(x:D)(cs:Nat):aC D:=
 aN (vP x) λf=>aN (UW P t cs) λq=>apart q.2 f q.1
def setAt{α:Type}(x:α)(k:Nat):C α->C α:=
 @kH (λ_=>C α->C α) (λl=>@dF α (λ_=>C α) [] (λ_ r _=>x::r) l) (λ_ j l=>@dF α (λ_=>C α) [] (λy r _=>y::j r) l) k
def Ja(vs:C D):Nat->C D->C D:=
 @dF D (λ_=>Nat->C D->C D) (λ_ f=>f) (λv _ j k f=>j (dh k)<|setAt v k f) vs
def FJ(j:Nat->aC (Nat×Nat))(ps:C<|Nat×D):C D->aC (C D):=
 @dF (Nat×D) (λ_=>C D->aC (C D)) (λf=>Z f)
  (λp _ A f=>aN (j p.1) λq=>gd (rJ p.2&&aB (len<|bY p.2) q.2&&aD (a_ q.1 q.2) (len f))<|A<|Ja (bY p.2) q.1 f) ps
def CS(P:aX)(t:aH)(ps:C<|Nat×D):aC D:=
 aN (BP P t) λz=>@aP (C<|Nat×Nat) (λ_=>aC D)
  (aN (Sf P t) λq=>aN (FJ (λk=>Z (bO k q.2.2,q.2.2)) ps z) λf=>Z<|.agg ⟨f⟩)
  (λpl=>aN (FJ (nth pl) ps z) λf=>Z<|.agg ⟨f⟩) (Xl P t)
def pV(z:C D)(n:Nat):C D:=@kH (λ_=>C D) [] (λ_ r=>app z r) n
def LM(c a b:D):aC D:=aN (kV c) λt=>Z<|cr t a b
def Qj(x:D):aC D:=
 @aP Addr (λ_=>aC D) (aN (vFn x) λcs=>aN (fFn cs.1) λ_=>Z x) (λ_=>Z x) (sJ x)
def wN(x:D)(i:Nat):aC D:=aN (aaU x) λl=>nth l i
def LP(P:aX)(t:aH)(x:D):aC D:=
 aN (P.underlying t) λd=>cr (DL d) (aN (vO x) λs=>Z<|.int .i64<|.ofNat<|len s.data.toList)
  (cr (aB (CQ d) 2) (aN (Ky x) λp=>Z<|.int .i64<|.ofNat p.2.1)
   (cr (aB (CQ d) 3) (aN (Oc x) λr=>gd (fQ r)<|Z<|.int .i64 0)
    (aN (Sb d) λa=>Z<|.int .i64<|.ofNat a.1)))
def one(cs:aH->D->aC D)(ats:C aH)(args:C D):aC D:=
 aN (nth ats 0) λt=>aN (nth args 0) λx=>cs t x
def mm2(b:Bool)(x y:D):aC D:=
 aN (vw x) λp=>aN (vw y) λq=>gd (aB (sQ p.1)<|sQ q.1)<|Z<|cr (cr b (Oe p.2 q.2)<|Oe q.2 p.2) y x
def mmL(b:Bool)(l:C D):D->aC D:=
 @dF D (λ_=>D->aC D) (λx=>Z x) (λy _ j x=>aN (mm2 b x y) j) l
def UZ(b:Bool)(args:C D):aC D:=@dF D (λ_=>aC D) T (λx l _=>mmL b l x) args
def OW(r:Nat):D:=.pointer<|Z ⟨r,0,T⟩
def D_(P:aX)(e:aH)(H:R):aC (D×R):=
 aN (BP P e) λz=>Z (OW H.bU,H.new<|rowOf e z)
def LQ(e:aH)(x:D)(H:R):aC (D×R):=gd (rJ x)<|Z (OW H.bU,H.new<|rowOf e<|bY x)
def vC(P:aX)(t:aH)(n:Nat)(ps:C<|Nat×D)(H:R):aC (D×R):=
 aN (Se P t) λq=>aN (BP P q.1) λz=>gd (aD (bO n q.2) 16777216)
  (aN (FJ (λk=>Z (bO k q.2,q.2)) ps<|pV z n) λf=>Z (.slice (Z ⟨H.bU,0,T⟩) n n,H.new<|rowOf q.1 f))
def loadAt(l:aC Nat)(a:Addr)(H:R):aC (D×R):=
 @aP Nat (λ_=>aC<|D×R) (aN (H.cell a.block a.off) λv=>Z (v,H))
  (λn=>aN (H.read a.block a.off n) λvs=>Z (.agg ⟨vs⟩,H)) l
def xV(P:aX)(t:aH)(x:D)(H:R):aC (D×R):=
 aN (sJ x) λa=>aN (tLd P t) λl=>loadAt l a H
def Aw(P:aX)(t:aH)(x v:D)(H:R):aC (D×R):=
 aN (sJ x) λa=>aN (wM P t) λs=>gd (aB (len<|bY v) s)<|aN (H.write a.block a.off<|bY v) λQ=>Z (undef,Q)
def uz(l:C D):aC (C UInt8):=
 @dF D (λ_=>aC<|C UInt8) (Z []) (λv _ r=>aN (vw v) λp=>aN (LH p.2) λn=>gd (KA p.1&&aD n 255)<|aN r λj=>Z<|jS n::j) l
def qL(s:C UInt8):C D:=mp (λb=>.int .u8<|.ofNat b.toNat) s
def FX(P:aX)(q:aH×Nat)(x:D)(H:R):aC (D×R):=
 aN (vO x) λb=>gd (aB q.2 1&&JJ P q.1)
  (Z (.slice (Z ⟨H.bU,0,T⟩) (len b.data.toList)<|gQ 1,H.new<|.row ⟨q.1,Tr.uY top (qL b.data.toList) 0 .nil,len b.data.toList,F,0⟩))
def FY(P:aX)(q:aH×Nat)(x:D)(H:R):aC (D×R):=
 aN (Ky x) λp=>gd (aB q.2 1&&JJ P q.1) (@aP Addr (λ_=>aC<|D×R) (Z (.string ⟨⟨[]⟩⟩,H))
  (λa=>aN (H.read a.block a.off p.2.1) λl=>aN (uz l) λj=>Z (.string ⟨⟨j⟩⟩,H)) p.1)
def LU(P:aX)(t:aH)(x:D)(H:R):aC (D×R):=
 aN (sJ x) λa=>aN (wM P t) λs=>aN (xN<|H.obj a.block) λw=>gd (aD 1 s&&aD (dh a.off) w.n)<|Z (x,H)
def LV(P:aX)(ai:aH)(x:D)(H:R):aC (D×R):=
 aN (sJ x) λa=>aN (wM P ai) λs=>aN (xN<|H.obj a.block) λw=>
  gd (aD 1 s&&aB w.ty ai&&aB a.off 0&&aD s w.n) (Z (x,H))
def aaY(P:aX)(s d:aH):aC (Nat×aH×Nat):=aN (P.underlying s) λx=>aN (P.underlying d) λy=>
 cr (DL x) (aN (Se P d) λq=>Z (1,q)) (cr (DL y) (aN (Se P s) λq=>Z (2,q))
  (cr (G8 y) (aN (G7 x) λe=>Z (3,e,0))<|cr (G8 x) (aN (G7 y) λe=>Z (4,e,0)) T))
def wC(P:aX)(s d:aH)(x:D)(H:R):aC (D×R):=
 aN (aaY P s d) λq=>cr (aB q.1 1) (FX P q.2 x H) (cr (aB q.1 2) (FY P q.2 x H)
  (cr (aB q.1 3) (LU P q.2.1 x H)<|LV P q.2.1 x H))
def vD(P:aX)(t:aH)(r:aC D)(H:R):aC (D×R):=
 aN (vz P t) λ_=>gd (@aP D (λ_=>Bool) F (λv=>!(fQ<|vw v)) r)<|Z (.map<|Z H.bU,H.new<|.map [])
def sK(P:aX)(t:aH)(l c:D)(H:R):aC (D×R):=
 aN (Se P t) λq=>aN (tI P q.1) λi=>aN (BP P q.1) λz=>aN (Bh l) λn=>aN (Bh c) λm=>
  gd (aD n m&&aD m 16777216&&aD i.bytes 1048576) (Z (.slice (Z ⟨H.bU,0,T⟩) n m,H.new<|rowOf q.1<|pV z m))
def mapOf(H:R)(x:D):aC (C<|D×D):=
 aN (Oc x) λr=>@aP Nat (λ_=>aC<|C<|D×D) (Z []) (λr=>LG<|H.obj r) r
def t_(P:aX)(kt:aH)(k:D)(es:C<|D×D):Nat->aC (aC<|Nat×D):=
 @dF (D×D) (λ_=>Nat->aC (aC<|Nat×D)) (λ_=>Z T)
  (λe _ j i=>aN (mU P kt k e.1) λb=>cr b (Z<|Z (i,e.2))<|j<|dh i) es
def okd(ok:Bool)(v:D)(b:Bool)(H:R):D×R:=cr ok (.tuple #[v,.bool b],H) (v,H)
def Bw(P:aX)(t:aH)(k:D):aC Unit:=aN (mU P t k k) λb=>gd b<|Z ()
def uT(P:aX)(t:aH)(x k:D)(ok:Bool)(H:R):aC (D×R):=
 aN (vz P t) λq=>aN (zw P q.2) λz=>aN (mapOf H x) λes=>aN (Bw P q.1 k) λ_=>aN (t_ P q.1 k es 0) λcs=>
  @aP (Nat×D) (λ_=>aC<|D×R) (Z<|okd ok z aA H) (λp=>Z<|okd ok p.2 F H) cs
def w_(P:aX)(t:aH)(m k v:D)(H:R):aC (D×R):=
 aN (vz P t) λq=>aN (Oc m) λj=>aN j λr=>aN (LG<|H.obj r) λes=>aN (Bw P q.1 k) λ_=>aN (t_ P q.1 k es 0) λcs=>
  @aP (Nat×D) (λ_=>aC<|D×R) (Z (undef,H.put r<|.map<|app es [(k,v)])) (λp=>Z (undef,H.put r<|.map<|setAt (k,v) p.1 es)) cs
def appended(H:R)(sz:Nat)(x:D):aC (Nat×C D):=
 @aP aZ (λ_=>aC<|Nat×C D)
  (aN (Ky x) λp=>@aP Addr (λ_=>aC<|Nat×C D) (gd (aB p.2.1 0)<|Z (0,[]))
   (λa=>aN (H.read a.block a.off<|bO p.2.1 sz) λl=>Z (p.2.1,l)) p.1)
  (λs=>gd (aB sz 1)<|Z (len s.data.toList,qL s.data.toList)) (vO x)
def OX(P:aX)(ats:C aH)(args:C D)(H:R):aC (D×R):=
 aN (nth ats 0) λt=>aN (nth args 0) λd=>aN (nth args 1) λx=>aN (Se P t) λq=>aN (Ky d) λp=>aN (appended H q.2 x) λe=>
  @aP Addr (λ_=>aC<|D×R) (gd (aB p.2.1 0)<|Z (.int .i64 0,H))
   (λa=>aN (H.write a.block a.off<|tk (bO (cr (aD e.1 p.2.1) e.1 p.2.1) q.2) e.2) λQ=>Z (.int .i64<|.ofNat<|cr (aD e.1 p.2.1) e.1 p.2.1,Q)) p.1
def Jb(P:aX)(ats:C aH)(args:C D)(H:R):aC (D×R):=
 aN (nth ats 0) λt=>aN (nth args 0) λd=>aN (Se P t) λq=>aN (BP P q.1) λz=>aN (Ky d) λp=>
  @aP Addr (λ_=>aC<|D×R) (Z (.tuple #[],H))
   (λa=>aN (H.write a.block a.off<|pV z p.2.1) λQ=>Z (.tuple #[],Q)) p.1
def LW(P:aX)(ats:C aH)(args:C D)(H:R):aC (D×R):=
 aN (nth ats 0) λt=>aN (nth args 0) λx=>aN (vz P t) λ_=>aN (mapOf H x) λes=>Z (.int .i64<|.ofNat<|len es,H)
def G_(args:C D)(H:R):aC (D×R):=
 gd (aB (len args) 1) (aN (nth args 0) λx=>aN (Ky x) λp=>@aP Addr (λ_=>aC<|D×R) (Z (.pointer T,H))
  (λa=>gd (aD 1 p.2.1||(gW p.2.2&&aD 1 p.2.2))<|Z (.pointer<|Z a,H)) p.1)
def Xn(P:aX)(pt:aH)(a:Addr)(n:Nat)(H:R):aC (D×R):=
 aN (P.underlying pt) λd=>aN (G7 d) λe=>aN (wM P e) λs=>aN (xN<|H.obj a.block) λw=>
  gd (JJ P e&&aB w.ty e&&aB s 1&&aD (a_ a.off n) w.n&&aD n 16777216)
   (aN (uz<|Tr.FW top w.cells a.off n) λj=>Z (.string ⟨⟨j⟩⟩,
    H.put a.block (.row ⟨w.ty,w.cells,w.n,w.mR,cr (aD w.fz<|a_ a.off n) (a_ a.off n) w.fz⟩)))
def yL(P:aX)(ats:C aH)(args:C D)(H:R):aC (D×R):=
 gd (aB (len args) 2) (aN (nth ats 0) λpt=>aN (nth args 0) λp=>aN (nth args 1) λj=>aN (Bh j) λn=>
  @kH (λ_=>aC<|D×R) (gd (aB (uu p).1 1)<|Z (.string ⟨⟨[]⟩⟩,H)) (λ_ _=>aN (sJ p) λa=>Xn P pt a n H) n)
def zN(e:aH)(es:Nat)(n:Nat)(vs:C D)(H:R):D×R:=
 (.slice (Z ⟨H.bU,0,T⟩) n<|gQ es,H.new<|rowOf e vs)
def xW(q:aH×Nat)(a:Addr)(l c k:Nat)(vs:C D)(H:R):aC (D×R):=
 cr (aD (a_ l k) c)
  (aN (H.write a.block (a_ a.off<|bO l q.2) vs) λQ=>Z (.slice (Z a) (a_ l k) c,Q))
  (aN (H.read a.block a.off<|bO l q.2) λold=>Z<|zN q.1 q.2 (a_ l k) (app old vs) H)
def uA(q:aH×Nat)(a:Addr)(l c k:Nat)(vs:C D)(H:R):aC (D×R):=
 aN (xN<|H.obj a.block) λw=>gd (aB w.ty q.1&&!w.mR)
  (cr (aD (a_ a.off<|bO (a_ l k) q.2) w.n)
   (aN (H.write a.block (a_ a.off<|bO l q.2) vs) λQ=>Z (.slice (Z a) (a_ l k) c,Q))
   (gd (aD (a_ a.off<|bO l q.2) w.n&&aD w.fz (a_ a.off<|bO l q.2)&&all' fZ vs)
    (Z (.slice (Z ⟨H.bU,a.off,T⟩) (a_ l k) c,
     (H.put a.block .dead).new (.row ⟨w.ty,Tr.uY top vs (a_ a.off<|bO l q.2) w.cells,a_ a.off<|bO (a_ l k) q.2,aA,w.fz⟩)))))
def Sg(q:aH×Nat)(s:D)(p:aC Addr×Nat×Nat)(k:Nat)(vs:C D)(H:R):aC (D×R):=
 @kH (λ_=>aC<|D×R) (Z (s,H)) (λ_ _=>
  @aP Addr (λ_=>aC<|D×R) (gd (aB p.2.1 0&&aB p.2.2 0)<|Z<|zN q.1 q.2 k vs H)
   (λa=>gd (aD p.2.1 16777216)<|cr (gW p.2.2) (xW q a p.2.1 p.2.2 k vs H)<|gd (aB p.2.2<|gQ q.2)<|uA q a p.2.1 p.2.2 k vs H) p.1) k
def aky(P:aX)(t t2:aH):aC (aH×Nat):=
 aN (Se P t) λq=>aN (tI P q.1) λi=>aN (BP P q.1) λ_=>aN (P.underlying t2) λd=>gd (fQ (Od d)&&aD i.bytes 1048576&&aD 1 i.bytes)<|Z q
def EZ(P:aX)(ats:C aH)(args:C D)(H:R):aC (D×R):=
 aN (nth ats 0) λt=>aN (nth ats 1) λt2=>aN (nth args 0) λs=>aN (nth args 1) λx=>
  aN (aky P t t2) λq=>aN (Ky s) λp=>aN (appended H q.2 x) λe=>gd (aD e.1 16777216)<|Sg q s p e.1 e.2 H
def aaZ(a b:aC Nat):Bool:=@aP Nat (λ_=>Bool) (fQ b) (λx=>@aP Nat (λ_=>Bool) aA (λy=>aB x y) b) a
def addrEq(a b:Addr):Bool:=aB a.block b.block&&aB a.off b.off&&fQ a.spot&&fQ b.spot
def K7(a b:aC Addr):Bool:=@aP Addr (λ_=>Bool) (fQ b) (λx=>@aP Addr (λ_=>Bool) aA (λy=>addrEq x y) b) a
def aa0(x y:D):Bool:=rY<|aN (sJ x) λa=>aN (sJ y) λb=>gd (addrEq a b)<|Z ()
def aho(x y:D):Bool:=rY<|aN (Ky x) λa=>aN (Ky y) λb=>gd (K7 a.1 b.1&&aB a.2.1 b.2.1&&aB a.2.2 b.2.2)<|Z ()
def akz(x y:D):Bool:=rY<|aN (Oc x) λa=>aN (Oc y) λb=>gd (aaZ a b)<|Z ()
def aa1(x y:D):Bool:=rY<|aN (vw x) λa=>aN (vw y) λb=>gd (aB (sQ a.1) (sQ b.1)&&FI a.2 b.2)<|Z ()
def akA(x y:D):Bool:=rY<|aN (kV x) λa=>aN (kV y) λb=>gd (CK a b)<|Z ()
def akB(x y:D):Bool:=rY<|aN (vO x) λa=>aN (vO y) λb=>gd (tZ a b)<|Z ()
def ahp(x y:D):Bool:=LJ x&&LJ y&&aB (uu x).1 (uu y).1
def Cf(x y:D):Bool:=aa1 x y||(aa0 x y||(aho x y||(akA x y||(akB x y||(akz x y||ahp x y)))))
def CU(cs:D->D->Bool)(xs:C D):C D->Bool:=
 @dF D (λ_=>C D->Bool) (λys=>@dF D (λ_=>Bool) F (λ_ _ _=>aA) ys)
  (λx _ j ys=>@dF D (λ_=>Bool) aA (λy r _=>cr (cs x y) (j r) aA) ys) xs
def Xo(cs:D->D->Bool)(x y:D):Bool:=rY<|aN (vFn x) λa=>aN (vFn y) λb=>aN (fFn a.1) λg=>aN (fFn b.1) λk=>gd (aB g k&&CU cs a.2.1 b.2.1&&CU cs a.2.2 b.2.2)<|Z ()
def FZ(x y:D):Bool:=Cf x y||Xo Cf x y
def qA(x y:D):Bool:=FZ x y||Xo FZ x y
def He(xs:C D):C D->Bool:=
 @dF D (λ_=>C D->Bool) (λys=>@dF D (λ_=>Bool) F (λ_ _ _=>aA) ys)
  (λx _ j ys=>@dF D (λ_=>Bool) aA (λy r _=>cr (qA x y) (j r) aA) ys) xs
def sameAt(A vn:R)(r off n:Nat):Bool:=rY<|aN (A.read r off n) λx=>aN (vn.read r off n) λy=>gd (He x y)<|Z ()
def zU(c:Nat)(l:C UInt8):Nat->aC Nat:=
 @dF UInt8 (λ_=>Nat->aC Nat) (λ_=>T) (λb _ j k=>cr (aB b.toNat c) (Z k)<|j<|dh k) l
def U0(o:aC Nat):D:=@aP Nat (λ_=>D) (.int .i64 (-1)) (λk=>.int .i64<|.ofNat k) o
def Xp(args:C D):aC (aZ×Nat):=
 aN (nth args 0) λs=>aN (vO s) λb=>aN (nth args 1) λc=>aN (vw c) λp=>aN (LH p.2) λn=>gd (KA p.1&&aD n 255&&aB (len args) 2)<|Z (b,n)
def Zf(P:aX)(j:Nat)(rt:C aH)(args:C D)(H:R):aC (D×R):=
 cr (aB j 1) (gd (aB (len args) 1)<|aN (nth args 0) λx=>Z (x,H))
  (cr (aB j 2) (gd (aB (len args) 1) (aN (nth args 0) λx=>aN (vw x) λp=>aN (LH p.2) λn=>aN (nth rt 0) λt=>aN (Se P t) λq=>
   gd (FH p.1&&aD n 16777216&&aB q.2 1) (Z (.slice (Z ⟨H.bU,0,T⟩) n<|gQ 1,H.new<|.row ⟨q.1,.nil,n,aA,0⟩))))
   (cr (aB j 3) (aN (Xp args) λx=>Z (U0<|zU x.2 x.1.data.toList 0,H))
    T))
structure St where
 nl:Nat
 nt:Nat
 reg:C (Nat×D)
 tm:Tr D
 df:C Deferred
 H:R
def iR(m i:Nat):Bool:=aB (Nat.mod (Nat.shiftRight m i) 2) 1
def look(l:C<|Nat×D):Nat->D:=
 @dF (Nat×D) (λ_=>Nat->D) (λ_=>top) (λp _ j t=>cr (aB p.1 t) p.2<|j t) l
def jc(s:St)(t:Nat):D:=cr (iR s.nl t) (s.tm.get top t)<|look s.reg t
def ev(s:St)(x:cB):D:=
 @Operand.rec (λ_=>St->D) (λt s=>jc s t) (λv _=>v) (λg _=>.pointer<|Z ⟨g,0,T⟩) (λcs _=>.func (.func cs) #[] #[]) x s
def KB(s:St)(x:aC cB):aC D:=@aP cB (λ_=>aC D) T (λx=>Z<|ev s x) x
def Qk(s:St)(ps:Array<|Nat×cB):C (Nat×D):=mp (λp=>(p.1,ev s p.2)) ps.toList
def sM(s:St)(d:Nat)(v:D)(H:R):St:=
 cr (iR s.nl d) ⟨s.nl,s.nt,s.reg,cr (aD (dh d) s.nt) (s.tm.set top d v) s.tm,s.df,H⟩ ⟨s.nl,s.nt,(d,v)::s.reg,s.tm,s.df,H⟩
def jY(s:St)(d:aC Nat)(v:D)(H:R):St:=
 @aP Nat (λ_=>St) ⟨s.nl,s.nt,s.reg,s.tm,s.df,H⟩ (λd=>sM s d v H) d
abbrev mJ:=FuncId->C D->R->aC (D×R)
inductive R3 where
 |fail
 |DN(v:D)
 |mem(v:D)(H:R)
def rp(o:aC D):R3:=@aP D (λ_=>R3) .fail .DN o
def rm(o:aC<|D×R):R3:=@aP (D×R) (λ_=>R3) .fail (λp=>.mem p.1 p.2) o
def rpm(o:aC D)(q:R3):R3:=@aP D (λ_=>R3->R3) (λq=>q) (λv _=>.DN v) o q
def isU(v:D):Bool:=@aP (C D) (λ_=>Bool) aA (λl=>aB (len l) 0)<|aaU v
def CW(ops:Array Oper)(s:St)(j:Nat):aC (aC Bool):=
 aN (nth ops.toList j) λo=>aN o.dst λt=>
  @aP Bool (λ_=>aC<|aC Bool) (gd (isU<|jc s t)<|Z T) (λb=>Z<|Z b) (kV<|jc s t)
def OZ(ops:Array Oper)(s:St)(g:Nat×Bool):aC Bool:=
 aN (CW ops s g.1) λy=>Z<|@aP Bool (λ_=>Bool) aA (λb=>CK b g.2) y
def sU(ops:Array Oper)(s:St)(g:aC<|Nat×Bool):aC Bool:=
 @aP (Nat×Bool) (λ_=>aC Bool) (Z F) (λg=>OZ ops s g) g
def pF(c:Callee):aX->St->aC (FuncId×C D×C D):=
 @Callee.rec (λ_=>aX->St->aC (FuncId×C D×C D))
  (λcs _ s=>aN (vFn<|ev s cs) λq=>aN (fFn q.1) λg=>Z (g,q.2))
  (λ_ _ _ _=>T)
  (λ_ _ _=>T) c
def isBuiltin(c:Callee):aC Builtin:=@Callee.rec (λ_=>aC Builtin) (λ_=>T) (λ_ _=>T) (λb=>Z b) c
def Cg(b:Builtin):C aH->C D->aX->R->R3:=
 @Builtin.rec (λ_=>C aH->C D->aX->R->R3)
  (λats args P H=>rm<|EZ P ats args H) (λ_ _ _ _=>.fail) (λats args P H=>rm<|Jb P ats args H) (λ_ _ _ _=>.fail) (λ_ _ _ _=>.fail) (λats args P H=>rm<|OX P ats args H) (λ_ _ _ _=>.fail) (λ_ _ _ _=>.fail) (λats args P H=>rpm (one (LP P) ats args)<|rm<|LW P ats args H) (λ_ _ _ _=>.fail) (λ_ args _ _=>rp<|UZ F args) (λ_ args _ _=>rp<|UZ aA args) (λ_ _ _ _=>.fail) (λ_ _ _ _=>.fail) (λ_ _ _ _=>.fail) (λ_ _ _ _=>.fail) (λ_ _ _ _=>.fail) (λ_ _ _ _=>.fail) (λ_ _ _ _=>.fail) (λ_ _ _ _=>.fail) (λ_ args _ H=>rm<|G_ args H) (λats args P H=>rm<|yL P ats args H) (λ_ _ _ _=>.fail) (λ_ _ _ _=>.fail) (λ_ _ _ _=>.fail) (λ_ _ _ _=>.fail) b
def zx(c:Call)(P:aX)(cf:mJ)(s:St):R3:=
 @aP Builtin (λ_=>R3)
  (rm<|aN (pF c.callee P s) λq=>cf q.1 (app q.2.1<|app (mp (ev s) c.args.toList) q.2.2) s.H)
  (λb=>Cg b c.argTypes.toList (mp (ev s) c.args.toList) P s.H) (isBuiltin c.callee)
def Aa(o:Op):aX->mJ->St->R3:=
 @Op.rec (λ_=>aX->mJ->St->R3)
  (λx _ _ s=>.DN<|ev s x) (λx _ _ s=>.DN<|ev s x) (λc a b _ _ s=>rp<|LM (ev s c) (ev s a)<|ev s b) (λe P _ s=>rm<|D_ P e s.H) (λe x _ _ s=>rm<|LQ e (ev s x) s.H) (λt ps P _ s=>rp<|CS P t<|Qk s ps) (λt n ps P _ s=>rm<|vC P t n (Qk s ps) s.H) (λ_ _ _ _ _ _ _=>.fail) (λt x P _ s=>rm<|xV P t (ev s x) s.H) (λt x v P _ s=>rm<|Aw P t (ev s x) (ev s v) s.H) (λ_ _ _ _=>.fail) (λ_ _ _ _=>.fail) (λx _ _ s=>rp<|Qj<|ev s x) (λop t x y _ P _ s=>rp<|mW P op t x y (ev s x)<|ev s y) (λop _ x _ _ s=>rp<|lH<|Op.unary op<|ev s x) (λa b x P _ s=>rpm (D7 P a b<|ev s x)<|rm<|wC P a b (ev s x) s.H) (λ_ _ _ _ _=>.fail) (λ_ _ _ _ _=>.fail) (λcs A j _ _ s=>rp<|Z<|.func cs ⟨mp (ev s) A.toList⟩ ⟨mp (ev s) j.toList⟩) (λt r P _ s=>rm<|vD P t (KB s r) s.H) (λ_ _ _ _ _=>.fail) (λt l c P _ s=>rm<|sK P t (ev s l) (ev s c) s.H) (λt x lo hi mx P _ s=>rp<|BQ P t (ev s x) (KB s lo) (KB s hi)<|KB s mx) (λt x cs P _ s=>rp<|uy P t (ev s x) cs) (λt x cs P _ s=>rp<|D9 P t (ev s x) cs) (λt x i P _ s=>rp<|uw P t (ev s x)<|ev s i) (λt x i P _ s=>rp<|D8 P t (ev s x)<|ev s i) (λt x k ok P _ s=>rm<|uT P t (ev s x) (ev s k) ok s.H) (λt m k v P _ s=>rm<|w_ P t (ev s m) (ev s k) (ev s v) s.H) (λ_ _ _ _ _ _=>.fail) (λ_ _ _ _ _ _ _=>.fail) (λ_ _ _ _ _=>.fail) (λ_ _ _ _ _=>.fail) (λ_ _ _ _=>.fail) (λ_ _ _ _ _ _ _=>.fail) (λt i _ _ s=>rp<|wN (ev s t) i) (λc P cf s=>zx c P cf s) (λ_ _ _ _=>.fail) (λ_ _ _ _=>.fail) (λ_ _ _ _=>.fail) (λ_ _ _ _ _=>.fail) (λ_ _ _ _ _ _=>.fail) (λ_ _ _ _ _=>.fail) o
def tJ(o:Op):aC Call:=@Op.rec (λ_=>aC Call) (λ_=>T) (λ_=>T) (λ_ _ _=>T) (λ_=>T) (λ_ _=>T) (λ_ _=>T) (λ_ _ _=>T) (λ_ _ _ _=>T) (λ_ _=>T) (λ_ _ _=>T) (λ_=>T) (λ_=>T) (λ_=>T) (λ_ _ _ _ _=>T) (λ_ _ _=>T) (λ_ _ _=>T) (λ_ _=>T) (λ_ _=>T) (λ_ _ _=>T) (λ_ _=>T) (λ_ _=>T) (λ_ _ _=>T) (λ_ _ _ _ _=>T) (λ_ _ _=>T) (λ_ _ _=>T) (λ_ _ _=>T) (λ_ _ _=>T) (λ_ _ _ _=>T) (λ_ _ _ _=>T) (λ_ _ _=>T) (λ_ _ _ _=>T) (λ_ _=>T) (λ_ _=>T) (λ_=>T) (λ_ _ _ _=>T) (λ_ _=>T) (λ_=>T) (λ_=>T) (λc=>Z c) (λ_=>T) (λ_ _=>T) (λ_ _ _=>T) (λ_ _=>T) o
def CX(c:Call)(P:aX)(s:St):aC Deferred:=
 aN (@Callee.rec (λ_=>aC cB) (λcs=>Z cs) (λ_ _=>T) (λ_=>T) c.callee) λcs=>
  aN (vFn<|ev s cs) λq=>aN (fFn q.1) λg=>Z ⟨.fn (.func g) ⟨q.2.2⟩,⟨app q.2.1<|mp (ev s) c.args.toList⟩⟩
def F3(o:Oper)(s:St)(r:R3):aC St:=
 @R3.rec (λ_=>aC St) T (λv=>Z<|jY s o.dst v s.H) (λv H=>Z<|jY s o.dst v H) r
def Bi(P:aX)(cf:mJ)(o:Oper)(s:St):aC St:=
 @aP Call (λ_=>aC St) (F3 o s<|Aa o.op P cf s)
  (λc=>aN (CX c P s) λd=>Z<|jY ⟨s.nl,s.nt,s.reg,s.tm,d::s.df,s.H⟩ o.dst undef s.H) (tJ o.op)
def oq(P:aX)(cf:mJ)(ops:Array Oper)(o:Oper)(s:St):aC St:=
 aN (sU ops s o.guard) λb=>cr b (Bi P cf o s)<|Z<|jY s o.dst undef s.H
def oK(P:aX)(cf:mJ)(ops:Array Oper)(l:C Oper):St->aC St:=
 @dF Oper (λ_=>St->aC St) Z (λo _ j s=>aN (oq P cf ops o s) j) l
def pW(a b:Nat):Nat:=cr (aD a b) a b
def iU(s:St):St:=⟨s.nl,s.nt,s.reg,s.tm,s.df,⟨s.H.xO,s.H.bU,s.H.bU⟩⟩
structure Cl where
 k:Nat
 r:Nat
 off:Nat
 n:Nat
 a:R
 b:R
def hh0:R:=⟨.nil,0,0⟩
def cl(k:Nat):Cl:=⟨k,0,0,0,hh0,hh0⟩
def CZ(o:Op):aC (cB×cB):=@Op.rec (λ_=>aC<|cB×cB) (λ_=>T) (λ_=>T) (λ_ _ _=>T) (λ_=>T) (λ_ _=>T) (λ_ _=>T) (λ_ _ _=>T) (λ_ _ _ _=>T) (λ_ _=>T) (λ_ a v=>Z (a,v)) (λ_=>T) (λ_=>T) (λ_=>T) (λ_ _ _ _ _=>T) (λ_ _ _=>T) (λ_ _ _=>T) (λ_ _=>T) (λ_ _=>T) (λ_ _ _=>T) (λ_ _=>T) (λ_ _=>T) (λ_ _ _=>T) (λ_ _ _ _ _=>T) (λ_ _ _=>T) (λ_ _ _=>T) (λ_ _ _=>T) (λ_ _ _=>T) (λ_ _ _ _=>T) (λ_ _ _ _=>T) (λ_ _ _=>T) (λ_ _ _ _=>T) (λ_ _=>T) (λ_ _=>T) (λ_=>T) (λ_ _ _ _=>T) (λ_ _=>T) (λ_=>T) (λ_=>T) (λ_=>T) (λ_=>T) (λ_ _=>T) (λ_ _ _=>T) (λ_ _=>T) o
def Jc(o:Op):aC (aH×cB):=@Op.rec (λ_=>aC<|aH×cB) (λ_=>T) (λ_=>T) (λ_ _ _=>T) (λ_=>T) (λ_ _=>T) (λ_ _=>T) (λ_ _ _=>T) (λ_ _ _ _=>T) (λt a=>Z (t,a)) (λ_ _ _=>T) (λ_=>T) (λ_=>T) (λ_=>T) (λ_ _ _ _ _=>T) (λ_ _ _=>T) (λ_ _ _=>T) (λ_ _=>T) (λ_ _=>T) (λ_ _ _=>T) (λ_ _=>T) (λ_ _=>T) (λ_ _ _=>T) (λ_ _ _ _ _=>T) (λ_ _ _=>T) (λ_ _ _=>T) (λ_ _ _=>T) (λ_ _ _=>T) (λ_ _ _ _=>T) (λ_ _ _ _=>T) (λ_ _ _=>T) (λ_ _ _ _=>T) (λ_ _=>T) (λ_ _=>T) (λ_=>T) (λ_ _ _ _=>T) (λ_ _=>T) (λ_=>T) (λ_=>T) (λ_=>T) (λ_=>T) (λ_ _=>T) (λ_ _ _=>T) (λ_ _=>T) o
def Bz(o:Op):Bool:=@Op.rec (λ_=>Bool) (λ_=>aA) (λ_=>aA) (λ_ _ _=>aA) (λ_=>F) (λ_ _=>F) (λ_ _=>aA) (λ_ _ _=>F) (λ_ _ _ _=>aA) (λ_ _=>aA) (λ_ _ _=>aA) (λ_=>aA) (λ_=>aA) (λ_=>aA) (λ_ _ _ _ _=>aA) (λ_ _ _=>aA) (λ_ _ _=>aA) (λ_ _=>aA) (λ_ _=>aA) (λ_ _ _=>aA) (λ_ _=>F) (λ_ _=>aA) (λ_ _ _=>F) (λ_ _ _ _ _=>aA) (λ_ _ _=>aA) (λ_ _ _=>aA) (λ_ _ _=>aA) (λ_ _ _=>aA) (λ_ _ _ _=>aA) (λ_ _ _ _=>aA) (λ_ _ _=>aA) (λ_ _ _ _=>aA) (λ_ _=>aA) (λ_ _=>aA) (λ_=>aA) (λ_ _ _ _=>aA) (λ_ _=>aA) (λ_=>aA) (λ_=>aA) (λ_=>aA) (λ_=>aA) (λ_ _=>aA) (λ_ _ _=>aA) (λ_ _=>aA) o
def BA(P:aX)(o:Op)(s:St):Cl:=
 (aN (Jc o) λp=>aN (sJ<|ev s p.2) λa=>aN (tLd P p.1) λl=>Z<|Cl.mk 4 a.block a.off (l.getD 1) hh0 hh0).getD (cl 1)
def uJ(P:aX)(o:Op)(s:St)(H:R):Cl:=
 @aP (cB×cB) (λ_=>Cl) (cr (aD s.H.bU H.low) (cr (Bz o) (cl 5)<|BA P o s) ⟨2,0,0,0,s.H,H⟩)
  (λp=>@aP Addr (λ_=>Cl) ⟨2,0,0,0,s.H,H⟩ (λa=>⟨3,a.block,a.off,len<|bY<|ev s p.2,hh0,hh0⟩)<|sJ<|ev s p.1) (CZ o)
def JK(P:aX)(o:Oper)(s:St)(r:R3):aC (St×Cl):=
 @R3.rec (λ_=>aC<|St×Cl) T (λv=>Z (jY s o.dst v s.H,cl 0))
  (λv H=>Z (jY s o.dst v ⟨H.xO,H.bU,pW s.H.low H.low⟩,uJ P o.op s H)) r
def mV(P:aX)(cf:mJ)(ops:Array Oper)(o:Oper)(s:St):aC (St×Cl):=
 aN (sU ops s o.guard) λb=>cr b (JK P o s<|Aa o.op P cf<|iU s)<|Z (jY s o.dst undef s.H,cl 0)
def jV(P:aX)(cf:mJ)(ops:Array Oper)(l:C Oper):St->C Cl->aC (St×C Cl):=
 @dF Oper (λ_=>St->C Cl->aC (St×C Cl)) (λs j=>Z (s,j)) (λo _ A s j=>aN (mV P cf ops o s) λq=>A q.1<|q.2::j) l
def Ay(acc:C Nat)(n:Nat)(l:C Edge):Nat:=
 @dF Edge (λ_=>Nat) 0 (λe _ r=>cr (g_ .any e) (Nat.lor (Nat.lor (Nat.shiftLeft 1 e.on)<|(nth acc<|dQ (dQ n 1) e.on).getD 0) r) r) l
def vE(l:C Oper):C Nat->Nat->C Nat:=
 @dF Oper (λ_=>C Nat->Nat->C Nat) (λj _=>j) (λo _ A j n=>A (Ay j n o.after.toList::j)<|dh n) l
def yM(l:C Oper):Nat->Bool:=
 @dF Oper (λ_=>Nat->Bool) (λ_=>F) (λo _ j n=>cr (all' (λe=>!(g_ .any e)||aD (dh e.on) n) o.after.toList) (j<|dh n) aA) l
def jW{α:Type}(cs:α->α->Bool->Bool)(x:α)(m:Nat)(l:C α):Bool:=@dF α (λ_=>Bool) F (λy r j=>cr (cs x y<|iR m<|len r) j aA) l
def pairs{α:Type}(cs:α->α->Bool->Bool)(ms:C Nat):C α->Bool:=
 @dF Nat (λ_=>C α->Bool) (λ_=>F) (λm _ j xs=>@dF α (λ_=>Bool) F
  (λx r _=>cr (jW cs x m r) (j r) aA) xs) ms
def qM(ops:Array Oper):Bool:=yM ops.toList 0&&pairs (λy x b=>b||x.apart ops y) (vE ops.toList [] 0) (ops.toList.reverse)
def zO(x y:Cl):Bool:=!(aB x.r y.r)||aD (a_ x.off x.n) y.off||aD (a_ y.off y.n) x.off
def oQ(w l:Cl):Bool:=sameAt w.a w.b l.r l.off l.n
def gI(y x:Cl)(b:Bool):Bool:=
 cr (aB y.k 0||aB x.k 0||aB y.k 5||aB x.k 5) F
  (cr (aB x.k 3) (cr (aB y.k 3) (b||zO x y)<|aB y.k 4&&(b||zO x y))
   (cr (aB y.k 3) (b||(aB x.k 4&&zO x y))
    (cr (aB x.k 4) (cr (aB y.k 2) (b||oQ y x) F)
     (cr (aB y.k 4) (cr (aB x.k 2) (b||oQ x y) F)
      (cr (aB x.k 1&&aB y.k 1) F b)))))
def noTwo(l:C Cl):Bool:=all' (λx=>!(aB x.k 2||aB x.k 3)) l
def kZ(ops:Array Oper)(cls:C Cl):Bool:=cr (noTwo cls) F<|pairs gI (vE ops.toList [] 0) cls
def aiJ(o:Op):Bool:=@Op.rec (λ_=>Bool) (λ_=>F) (λ_=>F) (λ_ _ _=>F) (λ_=>F) (λ_ _=>F) (λ_ _=>F) (λ_ _ _=>F) (λ_ _ _ _=>F) (λ_ _=>F) (λ_ _ _=>F) (λ_=>F) (λ_=>F) (λ_=>F) (λ_ _ _ _ _=>F) (λ_ _ _=>F) (λ_ _ _=>F) (λ_ _=>F) (λ_ _=>F) (λ_ _ _=>F) (λ_ _=>F) (λ_ _=>F) (λ_ _ _=>F) (λ_ _ _ _ _=>F) (λ_ _ _=>F) (λ_ _ _=>F) (λ_ _ _=>F) (λ_ _ _=>F) (λ_ _ _ _=>F) (λ_ _ _ _=>F) (λ_ _ _=>F) (λ_ _ _ _=>F) (λ_ _=>F) (λ_ _=>F) (λ_=>F) (λ_ _ _ _=>F) (λ_ _=>F) (λ_=>F) (λ_=>F) (λ_=>F) (λ_=>F) (λ_ _=>F) (λ_ _ _=>F) (λ_ _=>aA) o
def lT(ops:Array Oper):Bool:=all' (λo=>fQ (tJ o.op)&&aiJ o.op) ops.toList
inductive Out where
 |fail
 |norm(s:St)
 |exit(id:Nat)(s:St)
 |goto(l:Nat)(s:St)
 |ret(s:St)
def andThen(o:Out)(k:St->Out):Out:=
 @Out.rec (λ_=>(St->Out)->Out) (λ_=>.fail) (λs k=>k s) (λid s _=>.exit id s) (λl s _=>.goto l s) (λs _=>.ret s) o k
def JL(c:aC Bool)(x y:Out):Out:=@aP Bool (λ_=>Out) .fail (λb=>cr b x y) c
def yN(id:Nat)(o:Out):Out:=
 @Out.rec (λ_=>Nat->Out) (λ_=>.fail) (λs _=>.norm s) (λi s id=>cr (aB i id) (.norm s)<|.exit i s) (λl s _=>.goto l s) (λs _=>.ret s) o id
def zy(n:Nat)(cs:St->Out):St->Out:=@kH (λ_=>St->Out) (λ_=>.fail) (λ_ j s=>andThen (cs s) j) n
def akC(o:Out)(k:Nat->St->Out):Out:=
 @Out.rec (λ_=>(Nat->St->Out)->Out) (λ_=>.fail) (λs _=>.norm s) (λi s _=>.exit i s) (λl s k=>k l s) (λs _=>.ret s) o k
def pG(cx:Code->St->Out)(n:Nat)(j:Code):Out->Out:=
 @kH (λ_=>Out->Out) (λ_=>.fail) (λ_ A o=>akC o λl s=>@aP Code (λ_=>Out) (.goto l s) (λrest=>A<|cx rest s)<|findLabel j l) n
def JM(o:aC St):Out:=@aP St (λ_=>Out) .fail .norm o
def clear(s:St):St:=⟨s.nl,s.nt,[],s.tm,s.df,s.H⟩
def xw(ops:Array Oper)(o:aC<|St×C Cl):Out:=
 @aP (St×C Cl) (λ_=>Out) .fail (λq=>cr (kZ ops q.2) (.norm q.1) .fail) o
def region(P:aX)(cf:mJ)(ops:Array Oper)(j:Bool)(s:St):Out:=
 cr j (cr (lT ops&&qM ops) (xw ops<|jV P cf ops ops.toList (clear s) []) .fail) (JM<|oK P cf ops ops.toList<|clear s)
def exec(P:aX)(cf:mJ)(cx:Code->St->Out)(n:Nat)(c:Code):St->Out:=
 @Code.rec (λ_=>St->Out)
  (λs=>.norm s)
  (λ_ B j s=>region P cf B j s)
  (λ_ _ E I s=>andThen (E s) I)
  (λc _ _ K L s=>JL (kV<|ev s c) (K s)<|L s)
  (λid _ A s=>yN id<|A s)
  (λ_ A s=>zy n A s)
  (λ_ _ _ _ _ _=>λ_=>.fail)
  (λid s=>.exit id s)
  (λc A s=>pG cx n c<|A s)
  (λ_ s=>.norm s)
  (λl s=>.goto l s)
  (λs=>.ret s)
  (λ_=>λ_=>.fail) c
def E6(P:aX)(s:St)(r:ResultVar):aC D:=
 @ResultVar.rec (λ_=>aC D) (λt=>Z<|jc s t) (λa t=>aN (xV P t (jc s a) s.H) λp=>Z p.1) r
def ny(P:aX)(s:St)(l:C ResultVar):aC (C D):=
 @dF ResultVar (λ_=>aC<|C D) (Z []) (λr _ q=>aN (E6 P s r) λv=>aN q λvs=>Z<|v::vs) l
def uO(vs:C D):D:=cr (aB (len vs) 1) ((nth vs 0).getD undef)<|.tuple ⟨vs⟩
def Ql(o:Out):aC St:=@Out.rec (λ_=>aC St) T (λs=>Z s) (λ_ _=>T) (λ_ _=>T) (λs=>Z s) o
def JN(P:aX)(j:Func)(s:St):aC (D×R):=
 gd (aB (len s.df) 0) (aN (ny P s j.results.toList) λvs=>Z (uO vs,s.H))
def aa2(m t:Nat):Nat:=Nat.lor m<|Nat.shiftLeft 1 t
def aiK(x:cB):aC Nat:=@Operand.rec (λ_=>aC Nat) Z (λ_=>T) (λ_=>T) (λ_=>T) x
def aiL(l:C cB)(p:Nat×Nat):Nat:=
 @dF cB (λ_=>Nat) p.1 (λx _ r=>@aP Nat (λ_=>Nat) r (λt=>cr (iR p.2 t) r<|aa2 r t)<|aiK x) l
def aa3(l:C Oper):Nat×Nat->Nat×Nat:=
 @dF Oper (λ_=>Nat×Nat->Nat×Nat) (λp=>p)
  (λo _ j p=>j (aiL o.op.operands.toList p,@aP Nat (λ_=>Nat) p.2 (aa2 p.2) o.dst)) l
def Zg(c:Code):Nat:=@Code.rec (λ_=>Nat) (0)
 (λ_ j _=>(aa3 j.toList (0,0)).1)
 (λ_ _ a b=>Nat.lor a b)
 (λ_ _ _ a b=>Nat.lor a b)
 (λ_ _ a=>a)
 (λ_ a=>a)
 (λ_ _ _ _ _ _=>0)
 (λ_=>0)
 (λ_ a=>a)
 (λ_=>0)
 (λ_=>0)
 (0)
 (λ_=>0) c
def aa4(l:C ResultVar):Nat:=@dF ResultVar (λ_=>Nat) 0 (λr _ n=>aa2 n<|@ResultVar.rec (λ_=>Nat) (λt=>t) (λa _=>a) r) l
def kC(P:aX)(g:FuncId):Nat:=@aP Func (λ_=>Nat) 0 (λj=>Nat.lor (aa4 j.results.toList)<|@aP Code (λ_=>Nat) 0 Zg j.body)<|nth P.funcs.toList g
structure Lv where
 ca:mJ
 cx:Code->St->Out
def Zh(P:aX)(L:Lv)(n:Nat)(g x:Nat)(j:Func)(args:C D)(H:R):aC (D×R):=
 @aP Code (λ_=>aC<|D×R) (Zf P x j.resultTypes.toList args H)
  (λc=>gd (aD (len args) j.ntmps)<|aN (Ql<|exec P L.ca L.cx n c ⟨kC P g,j.ntmps,[],Tr.uY top args 0 .nil,[],H⟩) λs=>JN P j s) j.body
structure Xt where
 c:FuncId->Nat
 o:FuncId->C D->R->aC (D×R)
instance:CoeFun Xt (λ_=>FuncId->Nat):=⟨Xt.c⟩
def orO(o d:aC<|D×R):aC (D×R):=@aP (D×R) (λ_=>aC<|D×R) d Z o
def C4(P:aX)(X:Xt)(L:Lv)(n:Nat)(g:FuncId)(args:C D)(H:R):aC (D×R):=
 orO (X.o g args H) (aN (nth P.funcs.toList g) λj=>Zh P L n g (X g) j args H)
def lv(P:aX)(X:Xt)(n:Nat):Lv:=
 @kH (λ_=>Lv) ⟨λ_ _ _=>T,λ_ _=>.fail⟩ (λm L=>⟨C4 P X L m,exec P L.ca L.cx m⟩) n
def lW(P:aX)(X:Xt)(n:Nat):mJ:=(lv P X n).ca
structure Loc where
 c:Nat
 lo:Nat
 base:Nat
 tot:Nat
 n:Nat
variable{l:Loc}
abbrev Mp:=Nat->aC Loc
variable{m m':Mp}
def Mp.le(m m':Mp):Prop:=∀r l,m r=Z l->m' r=Z l
mutual
inductive VR(m:Mp):D->D->Prop where
 |sc (v:D) (h:o7 v=F):VR m v v
 |top (v:D):VR m top v
 |ptr (r off:Nat) (l:Loc) (h:m r=Z l) (hl:l.lo<=off):VR m (.pointer<|Z ⟨r,off,T⟩) (.pointer<|Z ⟨l.c,l.base+(off-l.lo),T⟩)
 |slice (r off n cp:Nat) (l:Loc) (h:m r=Z l) (hl:l.lo<=off) (hk:gW cp=F) (hn:n<=cp):
  VR m (.slice (Z ⟨r,off,T⟩) n cp) (.slice (Z ⟨l.c,l.base+(off-l.lo),T⟩) n cp)
 |uP (r off n es cc:Nat) (l:Loc) (h:m r=Z l) (hl:l.lo<=off) (he:0<es) (ht:l.base+(off-l.lo)+cc*es=l.tot) (hc:n<=cc) (hN:l.n<=off+cc*es):
  VR m (.slice (Z ⟨r,off,T⟩) n<|gQ es) (.slice (Z ⟨l.c,l.base+(off-l.lo),T⟩) n cc)
 |xy (a a':Addr):VR m (.slice (Z a) 0 0) (.slice (Z a') 0 0)
 |vQ (r off es:Nat) (a':Addr) (l:Loc) (h:m r=Z l) (hl:l.lo<=off) (he:0<es) (hN:l.n<=off):VR m (.slice (Z ⟨r,off,T⟩) 0<|gQ es) (.slice (Z a') 0 0)
 |map (r:Nat) (l:Loc) (h:m r=Z l):VR m (.map<|Z r) (.map<|Z l.c)
 |func (cs:Fn) (x y x' y':C D) (M:mX m x x') (hy:mX m y y'):VR m (.func cs ⟨x⟩ ⟨y⟩) (.func cs ⟨x'⟩ ⟨y'⟩)
 |iface (t:aH) (v v':D) (h:VR m v v'):VR m (.iface t v) (.iface t v')
 |agg (x x':C D) (h:mX m x x'):VR m (.agg ⟨x⟩) (.agg ⟨x'⟩)
 |tuple (x x':C D) (h:mX m x x'):VR m (.tuple ⟨x⟩) (.tuple ⟨x'⟩)
inductive mX(m:Mp):C D->C D->Prop where
 |nil:mX m [] []
 |cons (v v':D) (x x':C D) (h:VR m v v') (M:mX m x x'):mX m (v::x) (v'::x')
end
mutual
theorem VR.mono{m m':Mp}(j:Mp.le m m'):∀{v v':D},VR m v v'->VR m' v v'
 |_,_,.sc v h=>.sc v h
 |_,_,.top v=>.top v
 |_,_,.ptr r off l h hl=>.ptr r off l (j r l h) hl
 |_,_,.slice r off n cp l h hl hk hn=>.slice r off n cp l (j r l h) hl hk hn
 |_,_,.uP r off n es cc l h hl he ht hc hN=>.uP r off n es cc l (j r l h) hl he ht hc hN
 |_,_,.xy a a'=>.xy a a'
 |_,_,.vQ r off es a' l h hl he hN=>.vQ r off es a' l (j r l h) hl he hN
 |_,_,.map r l h=>.map r l<|j r l h
 |_,_,.func cs x y x' y' M hy=>.func cs x y x' y' (mX.mono j M)<|mX.mono j hy
 |_,_,.iface t v v' h=>.iface t v v'<|VR.mono j h
 |_,_,.agg x x' h=>.agg x x'<|mX.mono j h
 |_,_,.tuple x x' h=>.tuple x x'<|mX.mono j h
theorem mX.mono{m m':Mp}(j:Mp.le m m'):∀{v v':C D},mX m v v'->mX m' v v'
 |_,_,.nil=>.nil
 |_,_,.cons v v' x x' h M=>.cons v v' x x' (VR.mono j h)<|mX.mono j M
end
def mX.length{x x':C D}(h:mX m x x'):J x=J x':=by
 induction x generalizing x' with
 |nil=>cases h;rfl
 |cons v x j=>cases h with|cons _ v' _ x' h M=>simp[j M]
def mX.get{x x':C D}(h:mX m x x')(k:Nat)(j:x[k]?=Z v):∃v',x'[k]?=Z v'/\VR m v v':=by
 induction x generalizing x' k with
 |nil=>simp at j
 |cons w x A=>
  cases h with
  |cons _ w' _ x' h M=>
   cases k with
   |zero=>simp at j;subst j;exact⟨w',gD,h⟩
   |succ k=>simpa using A M k (by simpa using j)
def mX.append{x x' y y':C D}(h:mX m x x')(j:mX m y y'):mX m (x++y) (x'++y'):=by
 induction x generalizing x' with
 |nil=>cases h;exact j
 |cons w x A=>cases h with|cons _ w' _ x' h M=>exact .cons _ _ _ _ h<|A M
def mX.take{x x':C D}(h:mX m x x')(k:Nat):mX m (x.take k) (x'.take k):=by
 induction x generalizing x' k with
 |nil=>cases h;simp;exact .nil
 |cons w x j=>cases h with
  |cons _ w' _ x' h M=>cases k with
   |zero=>simp;exact .nil
   |succ k=>simp;exact .cons _ _ _ _ h<|j M k
def mX.drop{m:Mp}{x x':C D}(h:mX m x x')(k:Nat):mX m (x.drop k) (x'.drop k):=by
 induction x generalizing x' k with
 |nil=>cases h;simp;exact .nil
 |cons w x j=>cases h with
  |cons _ w' _ x' h M=>cases k with
   |zero=>simp;exact .cons _ _ _ _ h M
   |succ k=>simp;exact j M k
def mX.set{x x':C D}(h:mX m x x')(k:Nat)(j:VR m v v'):mX m (x.set k v) (x'.set k v'):=by
 induction x generalizing x' k with
 |nil=>cases h;simp;exact .nil
 |cons w x A=>cases h with
  |cons _ w' _ x' h M=>cases k with
   |zero=>simp;exact .cons _ _ _ _ j M
   |succ k=>simp;exact .cons _ _ _ _ h<|A M k
def mX.o7:∀{x:C D},x.all o7=F->mX m x x
 |[],_=>.nil
 |v::x,h=>by simp at h;exact .cons _ _ _ _ (.sc v h.1)<|mX.o7 (by simpa using h.2)
def qX(h:sJ v=Z a):v=.pointer (Z a):=by
 cases v<;>simp[sJ]at h<;>simp[h]
def qN(h:kV v=Z b):v=.bool b:=by
 cases v<;>simp[kV]at h<;>simp[h]
def rZ{p:gm×Int}(h:vw v=Z p):v=.int p.1 p.2:=by
 cases v<;>simp[vw]at h<;>simp[<-h]
def Qm{n:Int}(h:LH n=Z k):n=k:=by
 cases n<;>simp[LH]at h;simp[h]
def E7(h:Bh v=Z n):∃k,v=.int k n:=by
 cases v<;>simp[Bh]at h
 case int k m=>exact⟨k,by rw[Qm h]⟩
def qY{b:aZ}(h:vO v=Z b):v=.string b:=by
 cases v<;>simp[vO]at h<;>simp[h]
def yO(h:Ky v=Z p):v=.slice p.1 p.2.1 p.2.2:=by
 cases v<;>simp[Ky]at h<;>simp[<-h]
def E8{p:aC Nat}(h:Oc v=Z p):v=.map p:=by
 cases v<;>simp[Oc]at h<;>simp[h]
def Qn{p:Fn×C D×C D}(h:vFn v=Z p):v=.func p.1 ⟨p.2.1⟩ ⟨p.2.2⟩:=by
 cases v<;>simp[vFn]at h<;>simp[<-h]
def r_{p:C D}(h:vP v=Z p):v=.agg ⟨p⟩:=by
 cases v<;>simp[vP]at h<;>simp[<-h]
def afC{p:C D}(h:aaU v=Z p):v=.tuple ⟨p⟩:=by
 cases v<;>simp[aaU]at h<;>simp[<-h]
def Qo{cs:Fn}{g:FuncId}(h:fFn cs=Z g):cs=.func g:=by
 cases cs<;>simp[fFn]at h<;>simp[h]
section inv
def VR.of_bool(h:VR m (.bool b) v):v=.bool b:=by cases h;rfl
def VR.of_int{k:gm}{n:Int}(h:VR m (.int k n) v):v=.int k n:=by cases h;rfl
def VR.xX{b:aZ}(h:VR m (.string b) v):v=.string b:=by cases h;rfl
def VR.vF{x:C D}(h:VR m (.agg ⟨x⟩) v):∃x',v=.agg ⟨x'⟩/\mX m x x':=by
 cases h with
 |sc _ h=>simp[Ae.o7]at h
 |agg _ x' h=>exact⟨x',O,h⟩
def VR.Qp{x:C D}(h:VR m (.tuple ⟨x⟩) v):∃x',v=.tuple ⟨x'⟩/\mX m x x':=by
 cases h with
 |sc _ h=>simp[Ae.o7]at h
 |tuple _ x' h=>exact⟨x',O,h⟩
def VR.aa5(h:VR m (.iface t x) v):∃x',v=.iface t x'/\VR m x x':=by
 cases h with
 |sc _ h=>simp[Ae.o7]at h
 |iface _ _ x' h=>exact⟨x',O,h⟩
def VR.aa6{cs:Fn}{x y:C D}(h:VR m (.func cs ⟨x⟩ ⟨y⟩) v):∃x' y',v=.func cs ⟨x'⟩ ⟨y'⟩/\mX m x x'/\mX m y y':=by
 cases h with
 |sc _ h=>simp[Ae.o7]at h
 |func _ _ _ x' y' M j=>exact⟨x',y',O,M,j⟩
def VR.vG(h:VR m (.pointer<|Z a) v):∃l,m a.block=Z l/\l.lo<=a.off/\a.spot=T/\v=.pointer (Z ⟨l.c,l.base+(a.off-l.lo),T⟩):=by
 cases h with
 |sc _ h=>simp[Ae.o7,fQ]at h
 |ptr r off l h j=>exact⟨l,h,j,O,O⟩
def VR.of_map(h:VR m (.map<|Z r) v):∃l,m r=Z l/\v=.map (Z l.c):=by
 cases h with
 |sc _ h=>simp[Ae.o7,fQ]at h
 |map r l h=>exact⟨l,h,O⟩
theorem VR.xY(h:VR m v v')(hs:o7 v=F):v'=v:=by
 cases h<;>first|rfl|(simp[Ae.o7,fQ,Ae.top]at hs)
def mX.xY{x x':C D}(h:mX m x x')(hs:x.all Ae.o7=F):x'=x:=by
 induction x generalizing x' with
 |nil=>cases h;rfl
 |cons w x j=>cases h with
  |cons _ w' _ x' h M=>simp at hs;rw[VR.xY h hs.1,j M<|by simpa using hs.2]
theorem VR.fZ{v v':D}(h:VR m v v')(hs:fZ v=F):v'.cells=#[v']/\(∀x,v'≠.agg x)/\(∀x,v'≠.tuple x):=by
 cases h<;>first
  |(rename_i j;cases v<;>simp[Ae.fZ,Value.cells]at hs|-)
  |(simp[Value.cells];done)
  |(simp[Ae.fZ,Ae.top]at hs;done)
end inv
def aiM(h:dSl d=Z e):d=.slice e:=by cases d<;>simp[dSl]at h;rw[h]
def K8(h:G7 d=Z e):d=.pointer e:=by cases d<;>simp[G7]at h;rw[h]
def Qq{e:Nat×aH}(h:Sb d=Z e):d=.array e.1 e.2:=by cases d<;>simp[Sb]at h;rw[<-h]
def afD{e:aH×aH}(h:aiI d=Z e):d=.map e.1 e.2:=by cases d<;>simp[aiI]at h;rw[<-h]
def U4{e:C Field}(h:Qg d=Z e):d=.struct ⟨e⟩:=by cases d<;>simp[Qg]at h;rw[<-h]
def Hf(h:DL d=F):d=.string:=by cases d<;>simp[DL]at h;rfl
def Xq{k:gm}(h:Od d=Z k):d=.int k:=by cases d<;>simp[Od]at h;rw[h]
def Zi{k:FloatKind}(h:I6 d=Z k):d=.float k:=by cases d<;>simp[I6]at h;rw[h]
def afE{k:gm}(h:KA k=F):k=.u8:=by cases k<;>simp[KA]at h;rfl
theorem Ch{k k':gm}(h:aB (sQ k) (sQ k')=F):k=k':=by cases k<;>cases k'<;>first|rfl|cases h
def si{P:aX}{s:Nat}(h:wM P t=Z s):∃i,P.info? t=Z i/\i.size=s:=by
 obtain⟨i,hi,h⟩:=aM h;cases h;exact⟨i,hi,O⟩
def C5{P:aX}(h:Se P t=Z q):P.underlying t=Z (.slice q.1)/\(∃i,P.info? q.1=Z i/\i.size=q.2)/\1<=q.2:=by
 obtain⟨d,j,h⟩:=aM h;obtain⟨e,A,h⟩:=aM h;obtain⟨s,hs,h⟩:=aM h;obtain⟨I,h⟩:=gN h;cases h;exact⟨by rw[j,aiM A],si hs,aF I⟩
def K9{P:aX}{q:Nat×aH×Nat}(h:Sf P t=Z q):P.underlying t=Z (.array q.1 q.2.1)/\(∃i,P.info? q.2.1=Z i/\i.size=q.2.2)/\1<=q.2.2:=by
 obtain⟨d,j,h⟩:=aM h;obtain⟨e,A,h⟩:=aM h;obtain⟨s,hs,h⟩:=aM h;obtain⟨I,h⟩:=gN h;cases h;exact⟨by rw[j,Qq A],si hs,aF I⟩
def K_{P:aX}{q:aH×aH}(h:vz P t=Z q):P.underlying t=Z (.map q.1 q.2):=by
 obtain⟨d,j,h⟩:=aM h;rw[j,afD h]
def O0{P:aX}(h:I7 P t=F):P.underlying t=Z .string:=by
 unfold I7 at h;cases hd:P.underlying t with
 |none=>rw[hd]at h;cases h
 |some d=>rw[hd]at h;rw[Hf h]
def Si{P:aX}(h:JJ P t=F):P.underlying t=Z (.int .u8):=by
 unfold JJ at h;cases hd:P.underlying t with
 |none=>rw[hd]at h;cases h
 |some d=>
  rw[hd]at h;cases hk:Od d with
  |none=>simp[hk]at h
  |some k=>simp[hk]at h;rw[Xq hk,afE h]
def U5{P:aX}{l:aC Nat}(h:tLd P t=Z l):
 ∃d i,P.underlying t=Z d/\P.info? t=Z i/\((Sc d=F/\l=Z i.size)\/(Sc d=aA/\l=T)):=by
 obtain⟨d,j,h⟩:=aM h;obtain⟨s,hs,h⟩:=aM h;obtain⟨i,hi,rfl⟩:=si hs;refine⟨d,i,j,hi,?_⟩;cases ha:Sc d<;>simp[ha,cr]at h<;>simp[<-h]
def Az{P:aX}(h:CR P t=Z fs):P.underlying t=Z (.struct ⟨fs⟩):=by
 obtain⟨d,j,h⟩:=aM h;rw[j,U4 h]
def O1{P:aX}{cs:Nat}{q:Nat×aC Nat}(h:UW P t cs=Z q):
 ∃fs fd i,P.underlying t=Z (.struct ⟨fs⟩)/\fs[cs]?=Z fd/\fd.offset=q.1/\tLd P fd.type=Z q.2/\P.info? fd.type=Z i/\1<=i.size:=by
 obtain⟨fs,A,h⟩:=aM h;obtain⟨fd,j,h⟩:=aM h;obtain⟨l,B,h⟩:=aM h;obtain⟨s,hs,h⟩:=aM h;obtain⟨I,h⟩:=gN h;cases h;obtain⟨i,hi,rfl⟩:=si hs;exact⟨fs,fd,i,Az A,by rw[<-qw];exact j,O,B,hi,aF I⟩
def Qr(h:I8 z=F):(bY z).all o7=F:=by
 unfold I8 at h;unfold bY;cases ha:vP z with
 |none=>rw[ha]at h;simpa using h
 |some l=>rw[ha]at h;simpa [all_eq]using h
def Zj(h:I8 z=F):VR m z z:=by
 unfold I8 at h;cases ha:vP z with
 |none=>rw[ha]at h;exact .sc z h
 |some l=>
  rw[ha]at h;rw[r_ ha];exact .agg _ _<|mX.o7 (by simpa [all_eq]using h)
def Sj{P:aX}(h:zw P t=Z z):(∃i,P.info? t=Z i/\i.zero=Z z)/\I8 z=F:=by
 obtain⟨i,hi,h⟩:=aM h;obtain⟨A,j,h⟩:=aM h;obtain⟨I,h⟩:=gN h;cases h;exact⟨⟨i,hi,j⟩,I⟩
def E9(v:D):bY v=v.cells.toList:=by
 cases v<;>simp[bY,vP,Value.cells]
def Ak{P:aX}(h:BP P t=Z zs):
 ∃i z,P.info? t=Z i/\i.zero=Z z/\zs=z.cells.toList/\J zs=i.size/\zs.all o7=F:=by
 obtain⟨z,B,h⟩:=aM h;obtain⟨s,hs,h⟩:=aM h;obtain⟨I,h⟩:=gN h;cases h;obtain⟨i,hi,rfl⟩:=si hs;obtain⟨⟨i',hi',A⟩,j⟩:=Sj B;rw[hi]at hi';cases hi';simp only[ig]at I;exact⟨i,z,hi,A,E9 z,bA I,Qr j⟩
section run
variable{P:aX}
def fV(h:P.underlying t=Z d):(underlying t).run P w=.ok d w:=by simp[underlying,h]
def Ea(h:P.info? t=Z i):(typeInfo t).run P w=.ok i w:=by simp[typeInfo,h]
def kD(h:P.info? t=Z i):(sizeOf t).run P w=.ok i.size w:=by simp[sizeOf,Ea h]
def AA(h:P.info? t=Z i)(j:i.zero=Z z):(zeroValue t).run P w=.ok z w:=by simp[zeroValue,Ea h,j]
def xG(h:P.underlying t=Z d):(isAgg t).run P w=.ok (Sc d) w:=by
 simp only[isAgg,dB,fV h,bT];cases d<;>rfl
end run
section ops
variable{P:aX}
def Xr{l:aC Nat}{f cs':C D}{off:Nat}(h:apart l f off=Z v)(hl:tLd P t=Z l)(B:mX m f cs'):
 ∃v',VR m v v'/\∀w,(part t ⟨cs'⟩ off).run P w=.ok v' w:=by
 obtain⟨d,i,E,hi,K⟩:=U5 hl;rcases K with⟨j,rfl⟩|⟨j,rfl⟩
 .obtain⟨I,h⟩:=gN h;cases h;refine⟨.agg ⟨(cs'.drop off).take i.size⟩,?_,λw=>?_⟩
  .rw[FF,OT];exact .agg _ _<|(B.drop off).take _
  .simp only[part,dB,xG E,j,bT,lG,kD hi,dS];simp[FF,OT,List.take_drop]
 .simp only[apart,qw]at h;obtain⟨v',A,L⟩:=B.get off h;refine⟨v',L,λw=>?_⟩;simp[part,xG E,j,A]
def E_{es:Nat}(h:gW n=F):n≠gQ es:=by
 intro e;rw[e]at h;have:=aF h;unfold gQ at this;simp at this;omega
def VR.of_slice(h:VR m (.slice (Z a) n cp) v):
 (∃l cc,m a.block=Z l/\l.lo<=a.off/\a.spot=T/\v=.slice (Z ⟨l.c,l.base+(a.off-l.lo),T⟩) n cc/\
  ((gW cp=F/\cc=cp/\n<=cp)\/(∃es,cp=gQ es/\0<es/\l.base+(a.off-l.lo)+cc*es=l.tot/\n<=cc/\l.n<=a.off+cc*es)))\/
 (∃a',n=0/\(cp=0\/∃es l,cp=gQ es/\m a.block=Z l/\l.lo<=a.off/\0<es/\l.n<=a.off/\a.spot=T)/\v=.slice (Z a') 0 0):=by
 cases h with
 |sc _ h=>simp[Ae.o7,fQ]at h
 |slice r off n cp l h j E I=>exact .inl ⟨l,cp,h,j,O,O,.inl ⟨E,O,I⟩⟩
 |uP r off n es cc l h j A K B hN=>exact .inl ⟨l,cc,h,j,O,O,.inr ⟨es,O,A,K,B,hN⟩⟩
 |xy a a'=>exact .inr ⟨a',O,.inl O,O⟩
 |vQ r off es a' l h j A hN=>exact .inr ⟨a',O,.inr ⟨es,l,O,h,j,A,hN,O⟩,O⟩
def VR.wO(h:VR m (.slice T n cp) v):n=0/\cp=0/\v=.slice T 0 0:=by
 cases h with
 |sc _ h=>
  simp[Ae.o7,fQ]at h;obtain⟨I,W⟩:=h;exact⟨I,W,by rw[I,W]⟩
def Qs(m:Mp)(r off k:Nat)(l:Loc)(h:m r=Z l)(hl:l.lo<=off):
 VR m (.pointer<|Z ⟨r,off+k,T⟩) (.pointer<|Z<|(⟨l.c,l.base+(off-l.lo),T⟩:Addr).add k):=by
 have A:(⟨l.c,l.base+(off-l.lo),T⟩:Addr).add k=⟨l.c,l.base+(off+k-l.lo),T⟩:=by
  unfold Addr.add;split
  .next j=>rw[j,d_]
  .congr 1;show l.base+(off-l.lo)+k=_;omega
 rw[A];exact .ptr r (off+k) l h N
def Qt{i:D}(h:uw P t x i=Z v)(M:VR m x x')(hi:VR m i i'):
 ∃v',VR m v v'/\∀w,(Instr.indexAt t x' i').run P w=.ok v' w:=by
 replace h:=aM h;obtain⟨k,U,h⟩:=h;obtain⟨kk,rfl⟩:=E7 U;have:=hi.of_int;subst this;cases hs:Se P t with
 |some q=>
  rw[hs]at h;obtain⟨N,⟨O,S,A⟩,I⟩:=C5 hs;replace h:=aM h;obtain⟨p,V,h⟩:=h;replace h:=aM h;obtain⟨a,B,h⟩:=h;replace h:=gN h;obtain⟨j,h⟩:=h;cases h;have j:=aF j;rw[yO V,B]at M;rcases M.of_slice with⟨l,cc,K,E,L,rfl,_⟩|⟨Y,h0,_,_⟩
  .refine⟨_,Qs m a.block a.off (k*q.2) l K E,λw=>?_⟩;have W:k<p.2.1:=j;simp[Instr.indexAt,asIntOf,fV N,kD S,A,W]
  .omega
 |none=>
  rw[hs]at h;replace h:=aM h;obtain⟨q,X,h⟩:=h;obtain⟨N,⟨O,S,A⟩,I⟩:=K9 X;replace h:=aM h;obtain⟨a,B,h⟩:=h;replace h:=gN h;obtain⟨j,h⟩:=h;cases h;have j:=aF j;rw[qX B]at M;obtain⟨l,K,E,L,rfl⟩:=M.vG;refine⟨_,Qs m a.block a.off (k*q.2.2) l K E,λw=>?_⟩;have W:k<q.1:=j;simp[Instr.indexAt,kK,asIntOf,fV N,kD S,A,W]
def aa7{i:D}(h:D8 P t x i=Z v)(M:VR m x x')(hi:VR m i i'):
 ∃v',VR m v v'/\∀w,(Instr.index t x' i').run P w=.ok v' w:=by
 replace h:=aM h;obtain⟨k,Y,h⟩:=h;obtain⟨kk,rfl⟩:=E7 Y;have:=hi.of_int;subst this;cases hs:I7 P t with
 |true=>
  rw[hs]at h;have S:=O0 hs;replace h:=aM h;obtain⟨s,hp,h⟩:=h;replace h:=aM h;obtain⟨b,B,h⟩:=h;cases h;rw[qY hp]at M;have:=M.xX;subst this;rw[qw]at B;refine⟨.int .u8 b.toNat,.sc _ O,λw=>?_⟩
  have E:s[k]?=Z b:=by
   rw[<-B];obtain⟨j,L⟩:=bI.1 B;have A:k<s.size:=j;rw[getElem?_pos s k A];simp[B,<-L];rfl
  simp[Instr.index,asIntOf,fV S,E]
 |false=>
  rw[hs]at h;replace h:=aM h;obtain⟨q,hq,h⟩:=h;replace h:=aM h;obtain⟨f,K,h⟩:=h;replace h:=aM h;obtain⟨l,hl,h⟩:=h;replace h:=gN h;obtain⟨j,h⟩:=h;obtain⟨S,⟨ab,wP,N⟩,I⟩:=K9 hq;have j:=aF j;rw[r_ K]at M;obtain⟨V,rfl,X⟩:=M.vF;obtain⟨v',U,hr⟩:=Xr h hl X;refine⟨v',U,λw=>?_⟩;have W:k<q.1:=j;have:=hr w;simp only[Nat.mul_eq]at this;simp[Instr.index,asIntOf,fV S,kD wP,N,W,this]
def Qu{cs:Nat}(h:uy P t x cs=Z v)(M:VR m x x'):
 ∃v',VR m v v'/\∀w,(Instr.fieldAt t x' cs).run P w=.ok v' w:=by
 obtain⟨a,B,h⟩:=aM h;obtain⟨q,L,h⟩:=aM h;cases h;obtain⟨fs,U,i,S,j,K,V,hi,I⟩:=O1 L;rw[qX B]at M;obtain⟨l,E,A,O,rfl⟩:=M.vG;refine⟨_,Qs m a.block a.off q.1 l E A,λw=>?_⟩;have W:i.size≠0:=N;simp[Instr.fieldAt,fV S,j,kK,fieldPlace,kD hi,W,K]
def aa8{cs:Nat}(h:D9 P t x cs=Z v)(M:VR m x x'):
 ∃v',VR m v v'/\∀w,(Instr.field t x' cs).run P w=.ok v' w:=by
 obtain⟨f,E,h⟩:=aM h;obtain⟨q,O,h⟩:=aM h;obtain⟨fs,V,i,U,j,N,L,hi,I⟩:=O1 O;rw[r_ E]at M;obtain⟨B,rfl,K⟩:=M.vF;obtain⟨v',A,S⟩:=Xr h L K;refine⟨v',A,λw=>?_⟩;have:=S w;simp[Instr.field,fV U,j,asAgg,N,this]
end ops
section ops
variable{P:aX}
def AB{s:Sem D}(h:lH s=Z v):o7 v=F/\∀w,s.run P w=.ok v w:=by
 cases s<;>simp only[lH]at h
 case pure ai=>
  obtain⟨I,h⟩:=gN h;cases h;exact⟨I,λw=>rfl⟩
 all_goals cases h
def BR(b:Bool)(x y:β):cr b x y=if b=F then x else y:=by cases b<;>rfl
def Zk(n:Int):qd .i64 n=IntKind.i64.wrap n:=by
 cases n with
 |ofNat k=>
  have e:qd .i64 (.ofNat k)=cr (F&&aD k 9223372036854775807) (.ofNat k) (IntKind.i64.wrap<|.ofNat k):=rfl;rw[e,BR];split
  .next j=>
   simp only[oZ]at j;have:=aF j;exact(IntWalk.i64_in _ (by simp;omega)).symm
  .simp only[]
 |negSucc k=>
  have e:qd .i64 (.negSucc k)=cr (F&&aD k 9223372036854775807) (.negSucc k) (IntKind.i64.wrap<|.negSucc k):=rfl;rw[e,BR];split
  .next j=>
   simp only[oZ]at j;have:=aF j;exact(IntWalk.i64_in _ N).symm
  .simp only[]
def LX(k:gm)(n:Int):qd k n=k.wrap n:=by
 cases k
 case i64=>exact Zk n
 all_goals cases n<;>simp[qd,FH,BR]
def U6(a b:Int):Oe a b=decide (a<b):=by
 rw[iD];cases a<;>cases b<;>simp[Oe,Nat.ble_eq]<;>omega
def LY(a b:Int):FI a b=(a==b):=by
 rw[iD];cases a<;>cases b<;>simp[FI,kU]<;>omega
def LZ(a b:Bool):CK a b=(a==b):=by cases a<;>cases b<;>rfl
def Zl:∀(a b:C Nat),LK a b=(a==b):=by
 intro a
 induction a with
 |nil=>intro b;cases b<;>rfl
 |cons x a j=>
  intro b;cases b with
  |nil=>rfl
  |cons y b=>
   show cr (aB x y) (LK a b) aA=_;rw[j,List.cons_beq_cons,BR]
   by_cases hxy:x=y
   .subst hxy;simp
   .have:aB x y=aA:=by rw[<-dn,kU];exact hxy
    simp[this,hxy]
def afF(a b:C UInt8):(u8L a==u8L b)=(a==b):=by
 rw[iD];simp only[u8L,G6,ni];constructor
 .intro h;exact(List.map_inj_right λx y h=>UInt8.toNat_inj.1 h).1 h
 .intro h;rw[h]
def AF(a b:aZ):tZ a b=(a.toList==b.toList):=by
 unfold tZ;rw[Zl,afF,jb,jb]
def aa9(a b:aZ):strLt a b=Op.bytesLess a.toList b.toList:=by
 unfold strLt;rw[jb,jb]
def afG{k:gm}{a b:Int}(h:Ze op k a b=Z v):o7 v=F/\∀w,(binOp op t (.int k a)<|.int k b).run P w=.ok v w:=by
 have ps:∀(o:tN)(s:Sem D),lH s=Z v->binOp o t (.int k a) (.int k b)=s->o7 v=F/\∀w,(binOp o t (.int k a)<|.int k b).run P w=.ok v w:=by
  intro o s I W;rw[W];exact AB I
 cases op<;>simp only[Ze]at h
 case quo=>exact ps _ _ h (by simp[binOp])
 case rem=>exact ps _ _ h (by simp[binOp])
 case and=>exact ps _ _ h (by simp[binOp])
 case or=>exact ps _ _ h (by simp[binOp])
 case xor=>exact ps _ _ h (by simp[binOp])
 case andNot=>exact ps _ _ h (by simp[binOp])
 case shl=>cases h
 case shr=>cases h
 all_goals
  cases h;refine⟨O,λw=>?_⟩;simp[binOp,Op.intArith,Op.intCmp,LX,U6,LY]
 case leq=>rw[iD];simp
 case geq=>rw[iD];simp
 all_goals rfl
theorem afH{a b:aZ}(h:afB op a b=Z v):o7 v=F/\∀w,(binOp op t (.string a)<|.string b).run P w=.ok v w:=by
 cases op<;>simp only[afB]at h
 case add=>
  simp only[aaV]at h;obtain⟨I,h⟩:=gN h;cases h;refine⟨O,λw=>?_⟩;have W:=aF I;simp only[ig]at W
  have E:¬(((a.size+b.size:Nat):Int)>IntKind.i64.max):=by
   have j:a.size=J a.data.toList:=rfl;have A:b.size=J b.data.toList:=rfl;have B:IntKind.i64.max=9223372036854775807:=jq;have L:J a.data.toList+J b.data.toList<=4611686018427387904:=W;rw[j,A,B];omega
  have K:a++b=⟨⟨app a.data.toList b.data.toList⟩⟩:=by
   rw[uq];apply vM;simp[ByteArray.data_append]
  simp only[binOp,Op.stringOp];rw[if_neg E,K];rfl
 all_goals first
  |cases h;done
  |(cases h
    refine⟨O,λw=>?_⟩;simp[binOp,Op.stringOp,AF,aa9])
def Zm(h:UX op t x y=Z v)(M:VR m x x')(B:VR m y y'):
 VR m v v/\∀w,(binOp op t x' y').run P w=.ok v w:=by
 obtain⟨I,h⟩:=gN h;simp only[bE]at I
 have j:o7 x=F:=by
  have:=aF I.1;cases x<;>simp[yK]at this<;>rfl
 have A:o7 y=F:=by
  have W:=bA I.2;have:=aF I.1;rw[W]at this;cases y<;>simp[yK]at this<;>rfl
 rw[M.xY j,B.xY A];obtain⟨a,b⟩:=AB (P:=P) h;exact⟨.sc v a,b⟩
def Al(hd:P.underlying t=Z d)(h:xU (q9 d) x y=Z b)(M:VR m x x')(j:VR m y y'):
 x'=x/\y'=y/\∀n w,(Op.equalIn (n+1) t x' y').run P w=.ok b w:=by
 cases d<;>simp only[q9]at h
 case int k=>
  have h:(aN (vw x) λa=>aN (vw y) λb=>gd (aB (sQ a.1)<|sQ b.1)<|Z<|FI a.2 b.2)=Z b:=h;obtain⟨p,E,h⟩:=aM h;obtain⟨q,I,h⟩:=aM h;obtain⟨K,h⟩:=gN h;cases h;have A:=rZ E;have B:=rZ I;have K:=Ch K;rw[A]at M;rw[B]at j;have M:=M.of_int;have j:=j.of_int;refine⟨by rw[M,A],by rw[j,B],λn w=>?_⟩;rw[M,j,K,run_equalIn_int w n t _ k _ _ hd,LY]
 case bool=>
  have h:(aN (kV x) λa=>aN (kV y) λb=>Z<|CK a b)=Z b:=h;obtain⟨p,E,h⟩:=aM h;obtain⟨q,I,h⟩:=aM h;cases h;have A:=qN E;have B:=qN I;rw[A]at M;rw[B]at j;have M:=M.of_bool;have j:=j.of_bool;refine⟨by rw[M,A],by rw[j,B],λn w=>?_⟩;rw[M,j,run_equalIn_bool' w n t _ _ hd,LZ]
 case string=>
  have h:(aN (vO x) λa=>aN (vO y) λb=>Z<|tZ a b)=Z b:=h;obtain⟨p,E,h⟩:=aM h;obtain⟨q,I,h⟩:=aM h;cases h;have A:=qY E;have B:=qY I;rw[A]at M;rw[B]at j;have M:=M.xX;have j:=j.xX;refine⟨by rw[M,A],by rw[j,B],λn w=>?_⟩;rw[M,j,run_equalIn_string w n t _ _ hd,AF]
 all_goals cases h
end ops
section ops
variable{P:aX}
theorem xZ(h:1<=q9 d):Sc d=aA:=by cases d<;>first|rfl|simp[q9]at h
def xg{cs:Field}(h:o8 P (cs::fs) k=Z ks):
 ∃d r,P.underlying cs.type=Z d/\o8 P fs (k+1)=Z r/\cs.offset=k/\cs.name≠ "_" /\1<=q9 d/\ks=q9 d::r:=by
 have h:(aN (P.underlying cs.type) λd=>aN (o8 P fs<|k+1) λr=>gd (aB cs.offset k&&!(cs.name== "_")&&aD 1 (q9 d))<|Z<|q9 d::r)=Z ks:=h;obtain⟨d,hd,h⟩:=aM h;obtain⟨r,hr,h⟩:=aM h;obtain⟨hg,h⟩:=gN h;cases h;simp only[bE,pq,um]at hg;exact⟨d,r,hd,hr,bA hg.1.1,hg.1.2,aF hg.2,O⟩
def vR{xs:C D}(h:om (k::ks) xs ys=Z b):
 ∃x j y A c,xs=x::j/\ys=y::A/\xU k x y=Z c/\((c=F/\om ks j A=Z b)\/(c=aA/\b=aA)):=by
 cases xs with
 |nil=>cases h
 |cons x j=>cases ys with
  |nil=>cases h
  |cons y A=>
   have h:(aN (xU k x y) λc=>cr c (om ks j A)<|Z aA)=Z b:=h;obtain⟨c,B,h⟩:=aM h;cases c
   .cases h;exact⟨x,j,y,A,aA,O,O,B,.inr ⟨O,O⟩⟩
   .exact⟨x,j,y,A,F,O,O,B,.inl ⟨O,h⟩⟩
def vS{f:C D}{off:Nat}(hd:P.underlying t=Z d)(j:Sc d=aA)(A:f[off]?=Z v):
 (part t ⟨f⟩ off).run P w=.ok v w:=by
 simp[part,xG hd,j,A]
theorem JO:∀(fs:C Field)(k:Nat)(ks:C Nat)(xs ys X' j:C D)(b:Bool),o8 P fs k=Z ks->om ks xs ys=Z b->
 mX m xs (X'.drop k)->mX m ys (j.drop k)->∀n w,(Op.eqFields (n+1) ⟨X'⟩ ⟨j⟩ fs).run P w=.ok b w:=by
 intro fs
 induction fs with
 |nil=>
  intro k ks xs ys X' j b N E M S n w;cases N;cases xs with
  |nil=>cases ys with
   |nil=>cases E;rfl
   |cons _ _=>cases E
  |cons _ _=>cases E
 |cons cs fs ih=>
  intro k ks xs ys X' j b N E M S n w;obtain⟨d,r,L,hr,ho,hn,I,rfl⟩:=xg N;obtain⟨x,xr,y,yr,c,rfl,rfl,K,A⟩:=vR E;generalize hX:X'.drop k=X1 at M;generalize hY:j.drop k=Y1 at S;cases M with
  |cons _ x' _ V O Dz=>
   cases S with
   |cons _ y' _ W U U7=>
    have gx:X'[k]?=Z x':=by
     have:=fq (·[0]?) hX;simpa using this
    have gy:j[k]?=Z y':=by
     have:=fq (·[0]?) hY;simpa using this
    have dx:X'.drop (k+1)=V:=by rw[<-pN,hX];rfl
    have dy:j.drop (k+1)=W:=by rw[<-pN,hY];rfl
    obtain⟨ex,ey,he⟩:=Al (t:=cs.type) L K O U;have X:=vS (w:=w) L (xZ I) gx;have Y:=vS (w:=w) L (xZ I) gy;rw[<-ho]at X Y;simp only[Op.eqFields,hn,ne_eq,nT,lG,dB,X,Y,bT,he n w,Sem.run_ite,dS];rcases A with⟨rfl,B⟩|⟨rfl,rfl⟩
    .simp only[vL,dG,lQ];exact ih (k+1) r xr yr X' j b hr B (by rw[dx];exact Dz) (by rw[dy];exact U7) n w
    .simp
def aba(x:α)(n:Nat):aaW x n=aY n x:=by
 induction n with
 |zero=>rfl
 |succ n j=>exact fq (x::·) j
theorem U8(hd:P.underlying e=Z d)(I:1<=q9 d)(hs:P.cellsOf e=1):∀(c k:Nat)(xs ys X' j:C D)(b:Bool),
 om (aY c<|q9 d) xs ys=Z b->mX m xs (X'.drop k)->mX m ys (j.drop k)->
 ∀n w,(Op.eqItems (n+1) e (P.cellsOf e) ⟨X'⟩ ⟨j⟩<|List.range' k c).run P w=.ok b w:=by
 intro c
 induction c with
 |zero=>
  intro k xs ys X' j b E M N n w;cases xs with
  |nil=>cases ys with
   |nil=>cases E;rfl
   |cons _ _=>cases E
  |cons _ _=>cases E
 |succ c ih=>
  intro k xs ys X' j b E M N n w;obtain⟨x,xr,y,yr,q,rfl,rfl,K,A⟩:=vR E;generalize hX:X'.drop k=X1 at M;generalize hY:j.drop k=Y1 at N;cases M with
  |cons _ x' _ S L V=>
   cases N with
   |cons _ y' _ U O W=>
    have gx:X'[k]?=Z x':=by
     have:=fq (·[0]?) hX;simpa using this
    have gy:j[k]?=Z y':=by
     have:=fq (·[0]?) hY;simpa using this
    have X:X'.drop (k+1)=S:=by rw[<-pN,hX];rfl
    have Y:j.drop (k+1)=U:=by rw[<-pN,hY];rfl
    obtain⟨ex,ey,he⟩:=Al (t:=e) hd K L O;have p1:=vS (w:=w) hd (xZ I) gx;have p2:=vS (w:=w) hd (xZ I) gy;rw[List.range'_succ];simp only[Op.eqItems,dB,hs,dN,p1,p2,bT,he n w,Sem.run_ite,dS];rcases A with⟨rfl,B⟩|⟨rfl,rfl⟩
    .simp only[vL,dG,lQ];have:=ih (k+1) xr yr X' j b B (by rw[X];exact V) (by rw[Y];exact W) n w;rw[hs]at this;exact this
    .simp
def O3{o q:aC α}{r:α}(h:orElse' o q=Z r):o=Z r\/(o=T/\q=Z r):=by
 cases o with
 |none=>exact .inr ⟨O,h⟩
 |some x=>exact .inl h
theorem Ci(h:Qh P t=Z ks):
 ∃cs g d fs r i,P.underlying t=Z (.struct ⟨[cs,g]⟩)/\P.stoodInHeld t=aA/\cs.offset=0/\cs.name≠ "_" /\P.underlying cs.type=Z d/\1<=q9 d/\
  g.offset=1/\g.name≠ "_" /\P.underlying g.type=Z (.struct ⟨fs⟩)/\P.stoodInHeld g.type=aA/\o8 P fs 0=Z r/\P.info? g.type=Z i/\i.size=J r/\ks=q9 d::r:=by
 obtain⟨fs,hfs,h⟩:=aM h;obtain⟨hs,h⟩:=gN h
 match fs,hfs,h with
 |[cs,g],hfs,h=>
  replace h:(aN (P.underlying cs.type) λd=>aN (CR P g.type) λgs=>aN (G9 P g.type) λks=>aN (wM P g.type) λs=>
   gd (aB cs.offset 0&&!(cs.name== "_")&&aD 1 (q9 d)&&(aB g.offset 1&&!(g.name== "_")&&aB s (len ks))) (Z<|q9 d::ks))=Z ks:=h
  obtain⟨d,hd,h⟩:=aM h;obtain⟨gs,hgs,h⟩:=aM h;obtain⟨r,hr,h⟩:=aM h;obtain⟨s,hz,h⟩:=aM h;obtain⟨hg,h⟩:=gN h;cases h;obtain⟨gs',hgs',hr⟩:=aM hr;rw[hgs]at hgs';cases hgs';obtain⟨hs2,hr⟩:=gN hr;obtain⟨i,hi,rfl⟩:=si hz;simp only[bE,pq,um]at hg
  exact⟨cs,g,d,gs,r,i,Az hfs,by simpa using hs,bA hg.1.1.1,hg.1.1.2,hd,aF hg.1.2,
   bA hg.2.1.1,hg.2.1.2,Az hgs,by simpa using hs2,hr,hi,by have:=bA hg.2.2;rw[this,ig],rfl⟩
 |[],hfs,h=>cases h
 |[_],hfs,h=>cases h
 |_::_::_::_,hfs,h=>cases h
theorem Hg:∀(ks:C Nat)(xs ys:C D)(b:Bool),om ks xs ys=Z b->om ks (xs.take<|J ks) (ys.take<|J ks)=Z b
 |[],xs,ys,b,h=>by
  cases xs with
  |nil=>cases ys with
   |nil=>exact h
   |cons _ _=>cases h
  |cons _ _=>cases h
 |k::ks,xs,ys,b,h=>by
  obtain⟨x,B,y,E,c,rfl,rfl,A,j⟩:=vR h;show(aN (xU k x y) λc=>cr c (om ks (B.take<|J ks)<|E.take<|J ks)<|Z aA)=Z b;rw[A];rcases j with⟨rfl,I⟩|⟨rfl,rfl⟩
  .exact Hg ks B E b I
  .rfl
def Jd{f:C D}{off:Nat}(hd:P.underlying t=Z (.struct ⟨fs⟩))(hi:P.info? t=Z i):
 (part t ⟨f⟩ off).run P w=.ok (.agg ⟨(f.drop off).take i.size⟩) w:=by
 simp only[part,dB,xG hd,bT,kD hi];simp[Sc,List.take_drop,kD hi]
def Zn{cs:Field}{r:C Nat}{xs Y':C D}(ho:cs.offset=0)(hn:cs.name≠ "_")(hd:P.underlying cs.type=Z d)(I:1<=q9 d)(ho':g.offset=1)(hn':g.name≠ "_")(hu:P.underlying g.type=Z (.struct ⟨fs⟩))(hs:P.stoodInHeld g.type=aA)(hk:o8 P fs 0=Z r)(hi:P.info? g.type=Z i)(hsz:i.size=J r)(hc:om (q9 d::r) xs ys=Z b)(M:mX m xs X')(hy:mX m ys Y')(n:Nat)(w:cZ):(Op.eqFields (n+2) ⟨X'⟩ ⟨Y'⟩ [cs,g]).run P w=.ok b w:=by
 obtain⟨x,xr,y,yr,c,rfl,rfl,hce,hcase⟩:=vR hc;cases M with
 |cons _ x' _ xr' hxv Dz=>
  cases hy with
  |cons _ y' _ yr' hyv U7=>
   obtain⟨ex,ey,he⟩:=Al (t:=cs.type) hd hce hxv hyv;have p1:=vS (w:=w) (f:=x'::xr') (off:=0) hd (xZ I) O;have p2:=vS (w:=w) (f:=y'::yr') (off:=0) hd (xZ I) O;have q1:=Jd (w:=w) (f:=x'::xr') (off:=1) hu hi;have q2:=Jd (w:=w) (f:=y'::yr') (off:=1) hu hi;rw[<-ho]at p1 p2;rw[<-ho']at q1 q2;simp only[Op.eqFields,hn,hn',ne_eq,nT,lG,dB,p1,p2,bT,he (n+1) w,Sem.run_ite,dS];rcases hcase with⟨rfl,hrest⟩|⟨rfl,rfl⟩
   .simp only[vL,dG,lQ,q1,q2,bT];have hf:P.fieldsOf g.type=⟨fs⟩:=by simp[Program.fieldsOf,hu]
    have:=JO fs 0 r _ _ _ _ b hk (Hg r xr yr b hrest) (by simpa using Dz.take (J r)) (by simpa using U7.take (J r)) n w;rw[ho',run_equalIn_struct w (n+1) g.type _ _ (by rw[hf];exact hu) hs,hf];simp only[ug,jE,hsz,this,bT];cases b<;>simp
   .simp
def Je{q:Sum Nat (C Nat)}(h:tEq P t=Z q):
 (∃d,P.underlying t=Z d/\q=.inl (q9 d)/\1<=q9 d)\/
 (∃fs ks,P.underlying t=Z (.struct ⟨fs⟩)/\P.stoodInHeld t=aA/\o8 P fs 0=Z ks/\q=.inr ks)\/
 (∃n e d i,P.underlying t=Z (.array n e)/\P.underlying e=Z d/\P.info? e=Z i/\i.size=1/\1<=q9 d/\q=.inr (aY n<|q9 d))\/(∃ks,Qh P t=Z ks/\q=.inr ks):=by
 obtain⟨d,L,h⟩:=aM h;cases hb:aD 1 (q9 d)with
 |true=>rw[hb]at h;cases h;exact .inl ⟨d,L,O,aF hb⟩
 |false=>
  rw[hb]at h;have h:(aN (orElse' (orElse' (G9 P t)<|ahn P t)<|Qh P t) λl=>Z<|Sum.inr l)=Z q:=h;obtain⟨l,A,h⟩:=aM h;cases h;rcases O3 A with A|⟨_,A⟩;rcases O3 A with hs|⟨_,K⟩
  .right;left;have h:=hs;obtain⟨fs,I,h⟩:=aM h;obtain⟨j,h⟩:=gN h;exact⟨fs,l,Az I,by simpa using j,h,O⟩
  .right;right;left;have h:=K;obtain⟨N,E,h⟩:=aM h;obtain⟨a,B,h⟩:=aM h;obtain⟨e,M,h⟩:=aM h;obtain⟨s,hs,h⟩:=aM h;obtain⟨j,h⟩:=gN h;cases h;obtain⟨i,hi,rfl⟩:=si hs;simp only[bE]at j;exact⟨a.1,a.2,e,i,by rw[E,Qq B],M,hi,bA j.1,aF j.2,by rw[aba]⟩
  .exact .inr<|.inr<|.inr ⟨l,A,O⟩
def U9(h:P.info? e=Z i):P.cellsOf e=i.size:=by simp[Program.cellsOf,h]
def abb(h:mU P t x y=Z b)(M:VR m x x')(N:VR m y y'):
 ∀n w,(Op.equalIn (n+3) t x' y').run P w=.ok b w:=by
 intro n w;obtain⟨q,hq,h⟩:=aM h;rcases Je hq with⟨d,V,rfl,I⟩|⟨fs,ks,L,hs,W,rfl⟩|⟨c,e,d,i,L,he,hi,K,I,rfl⟩|⟨ks,hN,rfl⟩
 .have h:xU (q9 d) x y=Z b:=h;exact(Al V h M N).2.2 (n+2) w
 .have h:(aN (vP x) λa=>aN (vP y) λb=>om ks a b)=Z b:=h;obtain⟨xs,j,h⟩:=aM h;obtain⟨ys,A,h⟩:=aM h;rw[r_ j]at M;rw[r_ A]at N;obtain⟨B,rfl,O⟩:=M.vF;obtain⟨E,rfl,S⟩:=N.vF;have U:P.fieldsOf t=⟨fs⟩:=by simp[Program.fieldsOf,L]
  rw[run_equalIn_struct w (n+2) t _ _ (by rw[U];exact L) hs,U];exact JO fs 0 ks xs ys B E b W h (by simpa using O) (by simpa using S) (n+1) w
 .have h:(aN (vP x) λa=>aN (vP y) λb=>om (aY c<|q9 d) a b)=Z b:=h;obtain⟨xs,j,h⟩:=aM h;obtain⟨ys,A,h⟩:=aM h;rw[r_ j]at M;rw[r_ A]at N;obtain⟨B,rfl,O⟩:=M.vF;obtain⟨E,rfl,S⟩:=N.vF;rw[run_equalIn_array w (n+2) _ _ L hi,List.range_eq_range'];exact U8 he I (by rw[U9 hi,K]) c 0 xs ys B E b h (by simpa using O) (by simpa using S) (n+1) w
 .obtain⟨cs,g,d,fs,r,i,L,hs,ho,hn,V,I,Y,X,ac,ab,W,hi,K,rfl⟩:=Ci hN;have h:(aN (vP x) λa=>aN (vP y) λb=>om (q9 d::r) a b)=Z b:=h;obtain⟨xs,j,h⟩:=aM h;obtain⟨ys,A,h⟩:=aM h;rw[r_ j]at M;rw[r_ A]at N;obtain⟨B,rfl,O⟩:=M.vF;obtain⟨E,rfl,S⟩:=N.vF;have U:P.fieldsOf t=⟨[cs,g]⟩:=by simp[Program.fieldsOf,L]
  rw[run_equalIn_struct w (n+2) t _ _ (by rw[U];exact L) hs,U];exact Zn ho hn V I Y X ac ab W hi K h O S n w
def L5(h:mU P t x y=Z b)(M:VR m x x')(j:VR m y y')(w:cZ):
 (Op.equal t x' y').run P w=.ok b w:=by
 have:=abb h M j 9997 w;exact this
end ops
section ops
variable{P:aX}
theorem Jf(h:1<=q9 d):(∃k,d=.int k)\/d=.bool\/d=.string:=by
 cases d<;>first|exact .inl ⟨_,O⟩|exact .inr (.inl O)|exact .inr (.inr O)|simp[q9]at h
def Hl(hd:P.underlying t=Z d)(h:1<=q9 d)(n:Nat):P.eqGuardType (n+1) t=aA:=by
 unfold Program.eqGuardType;rw[hd];rcases Jf h with⟨k,rfl⟩|rfl|rfl<;>rfl
def O4:∀(fs:C Field)(k:Nat)(ks:C Nat),o8 P fs k=Z ks->∀n,fs.any (λcs=>cs.name != "_" &&P.eqGuardType (n+1) cs.type)=aA:=by
 intro fs
 induction fs with
 |nil=>intros;rfl
 |cons cs fs E=>
  intro k ks A n;obtain⟨d,r,j,B,L,K,I,rfl⟩:=xg A;simp only[List.any_cons,E _ _ B n,nP,Hl j I n,pM]
def abd{cs:Field}{r:C Nat}(hd:P.underlying cs.type=Z d)(I:1<=q9 d)(j:P.underlying g.type=Z (.struct ⟨fs⟩))(hk:o8 P fs 0=Z r)(n:Nat):[cs,g].any (λcs=>cs.name != "_" &&P.eqGuardType (n+2) cs.type)=aA:=by
 have W:P.eqGuardType (n+2) g.type=aA:=by
  unfold Program.eqGuardType;rw[j];have:=O4 fs 0 r hk n;simpa using this
 simp only[List.any_cons,List.any_nil,W,Hl hd I<|n+1,pM,nP]
def afI{q:Sum Nat (C Nat)}(h:tEq P t=Z q):P.eqGuardType P.depth t=aA:=by
 obtain⟨j,M⟩:∃j,P.depth=j+3:=⟨_,O⟩;rw[M];rcases Je h with⟨d,B,rfl,I⟩|⟨fs,ks,A,hs,E,rfl⟩|⟨c,e,d,i,A,N,hi,K,I,rfl⟩|⟨ks,hN,rfl⟩
 .exact Hl B I<|j+2
 .unfold Program.eqGuardType;rw[A];have:=O4 fs 0 ks E<|j+1;simpa using this
 .unfold Program.eqGuardType;rw[A];exact Hl N I<|j+1
 .obtain⟨cs,g,d,fs,r,i,A,hs,X,W,B,I,U,S,L,V,E,hi,K,rfl⟩:=Ci hN;unfold Program.eqGuardType;rw[A];have:=abd (cs:=cs) B I L E j;simpa using this
theorem VR.uu(h:VR m x x')(I:1<=(Ae.uu x).1):Ae.uu x'=Ae.uu x:=by
 cases h<;>first|rfl|(simp[Ae.uu,Ae.top]at I)
def F4(h:1<=(uu x).1):
 (∃a,x=.pointer a/\uu x=(1,a.isNone))\/(∃a l c,x=.slice a l c/\uu x=(2,a.isNone))\/(∃r,x=.map r/\uu x=(3,r.isNone))\/
 (∃cs y z,x=.func cs y z/\uu x=(4,aA))\/(x=.nilFunc/\uu x=(4,F))\/(∃t v,x=.iface t v/\uu x=(5,aA))\/(x=.nilIface/\uu x=(5,F)):=by
 cases x<;>simp[uu]at h|-
 case pointer a=>cases a<;>rfl
 case slice a l c=>cases a<;>rfl
 case map a=>cases a<;>rfl
def U'(h:1<=CQ d):(∃e,d=.pointer e/\CQ d=1)\/(∃e,d=.slice e/\CQ d=2)\/(∃k e,d=.map k e/\CQ d=3)\/(∃p r v,d=.func p r v/\CQ d=4)\/(∃ms,d=.interface ms/\CQ d=5):=by
 cases d<;>simp[CQ]at h|-
set_option maxHeartbeats 2000000 in
theorem Zo(ht:I9 P t=k)(I:1<=k)(M:uu x=(k,b))(K:uu y=(k,F))(w:cZ):
 (Op.equal t x y).run P w=.ok b w/\(Op.equal t y x).run P w=.ok b w:=by
 unfold I9 at ht;cases hu:P.underlying t with
 |none=>rw[hu]at ht;simp at ht;omega
 |some d=>
  rw[hu]at ht;have ht:CQ d=k:=ht;have S:1<=(uu x).1:=by rw[M];exact I
  have V:1<=(uu y).1:=by rw[K];exact I
  have O:1<=CQ d:=N;rcases U' O with⟨e,rfl,E⟩|⟨e,rfl,E⟩|⟨kk,e,rfl,E⟩|⟨p,r,v,rfl,E⟩|⟨ms,rfl,E⟩<;>
  rcases F4 S with⟨a,rfl,j⟩|⟨a,l,c,rfl,j⟩|⟨a,rfl,j⟩|⟨cs,q,z,rfl,j⟩|⟨rfl,j⟩|⟨tt,v,rfl,j⟩|⟨rfl,j⟩<;>
  (rw[j]at M;rw[yJ]at M;obtain⟨W,U⟩:=M)<;>try(exfalso;omega)
  all_goals
   rcases F4 V with⟨L,rfl,A⟩|⟨L,l',c',rfl,A⟩|⟨L,rfl,A⟩|⟨f',q',z',rfl,A⟩|⟨rfl,A⟩|⟨Y,v',rfl,A⟩|⟨rfl,A⟩<;>
   (rw[A]at K;rw[yJ]at K;obtain⟨X,B⟩:=K)<;>try(exfalso;omega)
  all_goals first|cases B;done|skip
  all_goals try(cases L<;>simp at B)
  all_goals try(cases a)
  all_goals
   subst U;constructor<;>(refine(?_:∀n,(Op.equalIn (n+1) _ _ _).run P w=_) 9999;intro n;simp only[Op.equalIn,dB,fV hu,bT,dS];(try rfl))
def abe(ht:I_ P t=F)(h:ptrEq x y=Z b)(M:VR m x x')(K:VR m y y')(w:cZ):
 (Op.equal t x' y').run P w=.ok b w/\(∃a a',x'=.pointer (Z a)/\y'=.pointer (Z a')):=by
 obtain⟨a,U,h⟩:=aM h;obtain⟨c,W,h⟩:=aM h;obtain⟨hg,h⟩:=gN h;cases h;rw[qX U]at M;rw[qX W]at K;obtain⟨l,E,ab,ac,rfl⟩:=M.vG;obtain⟨l',j,L,S,rfl⟩:=K.vG;have V:=bA hg;rw[V,j]at E;cases E
 have B:∃e i,P.underlying t=Z (.pointer e)/\P.info? e=Z i/\1<=i.size:=by
  unfold I_ at ht;cases hq:(aN (P.underlying t) λd=>aN (G7 d) λe=>aN (wM P e) λs=>gd (aD 1 s)<|Z ())with
  |none=>rw[hq]at ht;cases ht
  |some ai=>
   have h:=hq;obtain⟨d,X,h⟩:=aM h;obtain⟨e,Y,h⟩:=aM h;obtain⟨s,hs,h⟩:=aM h;obtain⟨I,h⟩:=gN h;obtain⟨i,hi,rfl⟩:=si hs;exact⟨e,i,by rw[X,K8 Y],hi,aF I⟩
 obtain⟨e,i,hu,hi,I⟩:=B;refine⟨?_,_,_,O,O⟩;have A:i.size≠0:=N;refine(?_:∀n,(Op.equalIn (n+1) _ _ _).run P w=_) 9999;intro n;simp only[Op.equalIn,dB,fV hu,bT,kD hi,ne_eq,A,nT,lG,sameAddr,BEq.rfl,Sem.run_ite,dS];congr 1;rw[iD];simp only[ni,Addr.mk.injEq,zq,true_and];rw[show(aB a.off c.off=F)=(a.off=c.off)from by simp[kU]];omega
theorem binOp_eql(h:(Op.equal t x y).run P w=.ok b w)(B:∀k n,x≠.int k n)(A:∀k n,x≠.float k n)(j:∀k n q,x≠.complex k n q)(hs:∀s,x≠.string s):
 (binOp .eql t x y).run P w=.ok (.bool b) w/\(binOp .neq t x y).run P w=.ok (.bool<|!b) w:=by
 have E:binOp .eql t x y=(do pure (.bool (<-Op.equal t x y))):=by
  cases x<;>first|rfl|(exfalso;first|exact B _ _ O|exact A _ _ O|exact j _ _ _ O|exact hs _ O)
 have I:binOp .neq t x y=(do pure (.bool<|!(<-Op.equal t x y))):=by
  cases x<;>first|rfl|(exfalso;first|exact B _ _ O|exact A _ _ O|exact j _ _ _ O|exact hs _ O)
 rw[E,I];simp[h]
end ops
section ops
variable{P:aX}
def zk{o:cB}(h:vB o=F):∃v,o=.const v/\(uu v).2=F:=by
 cases o<;>simp[vB]at h;exact⟨_,O,h⟩
theorem o_(w:cZ)(h:vB ox=F\/vB oy=F\/x≠.nilIface\/y≠.nilIface)(W:(∀c,x≠.agg c)\/(∀c,y≠.agg c)\/P.eqGuardType P.depth t=aA):(eqGuard op t ox oy x y).run P w=.ok () w:=by
 by_cases j:op=.eql\/op=.neq
 .by_cases hagg:∃c c',x=.agg c/\y=.agg c'
  .obtain⟨c,c',rfl,rfl⟩:=hagg;rcases W with W|W|W
   .exact absurd O<|W c
   .exact absurd O<|W c'
   .exact run_eqGuard_agg w op t ox oy c c' W
  .by_cases hnil:x=.nilIface/\y=.nilIface
   .obtain⟨rfl,rfl⟩:=hnil
    have A:(∃v,ox=.const v)\/∃v,oy=.const v:=by
     rcases h with h|h|h|h
     .obtain⟨v,rfl,_⟩:=zk h;exact .inl ⟨_,O⟩
     .obtain⟨v,rfl,_⟩:=zk h;exact .inr ⟨_,O⟩
     .exact absurd O h
     .exact absurd O h
    rcases A with⟨v,rfl⟩|⟨v,rfl⟩
    .rcases j with rfl|rfl<;>rfl
    .rcases j with rfl|rfl<;>cases ox<;>rfl
   .rcases j with rfl|rfl<;>cases x<;>first
     |rfl
     |(cases y<;>first|rfl|(exfalso;exact hagg ⟨_,_,O,O⟩)|(exfalso;exact hnil ⟨O,O⟩))
 .cases op<;>first|rfl|(exfalso;exact j<|.inl O)|(exfalso;exact j<|.inr O)
def Xu{op:tN}{ox oy:cB}{c c':D}(h:OV (I9 P t) c x=Z b)(M:VR m x x')(L:VR m c c')(S:(uu c).2=F)(w:cZ):
 (Op.equal t x' c').run P w=.ok b w/\(Op.equal t c' x').run P w=.ok b w/\(∀q,x'≠.agg q)/\1<=(uu x').1/\1<=(uu c').1:=by
 obtain⟨B,h⟩:=gN h;cases h;simp only[bE]at B;have I:=aF B.1.1;have W:=bA B.1.2;have K:=bA B.2;have ex:=M.uu N;have E:=L.uu N;have A:uu x'=(I9 P t,(uu x).2):=by rw[ex,<-W]
 have j:uu c'=(I9 P t,F):=by rw[E,<-K,<-S]
 have:=Zo O I A j w;refine⟨this.1,this.2,?_,by rw[A];exact I,by rw[j];exact I⟩;intro q U;rw[U]at A;simp[uu]at A;omega
def L6(x:D):Prop:=(∀k n,x≠.int k n)/\(∀k n,x≠.float k n)/\(∀k n q,x≠.complex k n q)/\∀s,x≠.string s
def O5(h:1<=(uu x).1):L6 x:=by
 refine⟨?_,?_,?_,?_⟩<;>(intros;intro e;rw[e]at h;simp[uu]at h)
def aiN(h:aeq P t ox oy x y=Z b)(M:VR m x x')(K:VR m y y')(X:∀c,ox=.const c->x=c)(Y:∀c,oy=.const c->y=c)(E:vw x=T/\vO x=T/\yK x=0)(w:cZ):
 (Op.equal t x' y').run P w=.ok b w/\(eqGuard op t ox oy x' y').run P w=.ok () w/\L6 x':=by
 unfold aeq at h;cases hcy:vB oy with
 |true=>
  rw[hcy]at h;obtain⟨v,N,V⟩:=zk hcy;have:=Y v N;subst this;obtain⟨I,W,S,h4,h5⟩:=Xu (op:=op) (ox:=ox) (oy:=oy) h M K V w;exact⟨I,o_ w (.inr<|.inl hcy)<|.inl S,O5 h4⟩
 |false=>
  rw[hcy]at h;cases hcx:vB ox with
  |true=>
   rw[hcx]at h;obtain⟨v,N,V⟩:=zk hcx;have:=X v N;subst this;obtain⟨I,W,S,h4,h5⟩:=Xu (op:=op) (ox:=ox) (oy:=oy) h K M V w;exact⟨W,o_ w (.inl hcx)<|.inr<|.inl S,O5 h5⟩
  |false=>
   rw[hcx]at h;cases B:I_ P t with
   |true=>
    rw[B]at h;obtain⟨I,a,a',rfl,rfl⟩:=abe B h M K w;exact⟨I,o_ w (.inr<|.inr<|.inl<|gD)<|.inl<|gD,by simp[L6]⟩
   |false=>
    rw[B]at h;have h:mU P t x y=Z b:=h;have I:=L5 h M K w;have N:=h;obtain⟨q,hq,h⟩:=aM h;have A:=afI hq;rcases Je hq with⟨d,hd,rfl,U⟩|⟨fs,ks,hu,hs,U,rfl⟩|⟨c,e,d,i,hu,he,hi,ab,U,rfl⟩|⟨ks,hN,rfl⟩
    .have h:xU (q9 d) x y=Z b:=h;obtain⟨ex,ey,_⟩:=Al (t:=t) hd h M K;subst ex;subst ey
     have O:∃z,x'=.bool z:=by
      rcases Jf U with⟨k,rfl⟩|rfl|rfl
      .have h:(aN (vw x') λa=>aN (vw y') λb=>gd (aB (sQ a.1)<|sQ b.1)<|Z<|FI a.2 b.2)=Z b:=h;rw[E.1]at h;cases h
      .have h:(aN (kV x') λa=>aN (kV y') λb=>Z<|CK a b)=Z b:=h;obtain⟨p,B,h⟩:=aM h;exact⟨p,qN B⟩
      .have h:(aN (vO x') λa=>aN (vO y') λb=>Z<|tZ a b)=Z b:=h;rw[E.2.1]at h;cases h
     obtain⟨z,rfl⟩:=O;exact⟨I,o_ w (.inr<|.inr<|.inl<|gD)<|.inl<|gD,by simp[L6]⟩
    .have h:(aN (vP x) λa=>aN (vP y) λb=>om ks a b)=Z b:=h;obtain⟨xs,j,h⟩:=aM h;rw[r_ j]at M;obtain⟨L,rfl,Dz⟩:=M.vF;exact⟨I,o_ w (.inr<|.inr<|.inl<|gD)<|.inr<|.inr A,by simp[L6]⟩
    .have h:(aN (vP x) λa=>aN (vP y) λb=>om (aY c<|q9 d) a b)=Z b:=h;obtain⟨xs,j,h⟩:=aM h;rw[r_ j]at M;obtain⟨L,rfl,Dz⟩:=M.vF;exact⟨I,o_ w (.inr<|.inr<|.inl<|gD)<|.inr<|.inr A,by simp[L6]⟩
    .have h:(aN (vP x) λa=>aN (vP y) λb=>om ks a b)=Z b:=h;obtain⟨xs,j,h⟩:=aM h;rw[r_ j]at M;obtain⟨L,rfl,Dz⟩:=M.vF;exact⟨I,o_ w (.inr<|.inr<|.inl<|gD)<|.inr<|.inr A,by simp[L6]⟩
def vT(I:(eqGuard op t ox oy x y).run P w=.ok () w)(W:(binOp op t x y).run P w=.ok v w):
 (do eqGuard op t ox oy x y;binOp op t x y:Sem D).run P w=.ok v w:=by
 simp[I,W]
theorem aiO(h:mW P op t ox oy x y=Z v)(M:VR m x x')(j:VR m y y')(U:∀c,ox=.const c->x=c)(V:∀c,oy=.const c->y=c):
 VR m v v/\∀w,(do eqGuard op t ox oy x' y';binOp op t x' y':Sem D).run P w=.ok v w:=by
 unfold mW at h;cases hi:vw x with
 |some a=>
  rw[hi]at h;have E:=rZ hi;rw[E]at M;have M:=M.of_int;have g:∀w,(eqGuard op t ox oy x' y').run P w=.ok () w:=λw=>o_ w (.inr<|.inr<|.inl (by rw[M];simp))<|.inl (by rw[M];simp);cases hsh:K6 op with
  |true=>
   rw[hsh]at h;have h:aaX op t x y=Z v:=h;obtain⟨p,hp,h⟩:=aM h;obtain⟨q,X,h⟩:=aM h;have A:=rZ X;rw[A]at j;have j:=j.of_int;obtain⟨hs,L⟩:=AB (P:=P) h;refine⟨.sc _ hs,λw=>vT (g w) ?_⟩;rw[M,j,<-E,<-A];exact L w
  |false=>
   rw[hsh]at h;have h:(aN (vw y) λb=>gd (aB (sQ a.1)<|sQ b.1)<|Ze op a.1 a.2 b.2)=Z v:=h;obtain⟨q,X,h⟩:=aM h;obtain⟨S,h⟩:=gN h;have A:=rZ X;rw[A]at j;have j:=j.of_int;have S:=Ch S;obtain⟨hs,L⟩:=afG (P:=P) (t:=t) h;refine⟨.sc _ hs,λw=>vT (g w) ?_⟩;rw[M,j,<-S];exact L w
 |none=>
  rw[hi]at h;cases hst:vO x with
  |some a=>
   rw[hst]at h;have h:(aN (vO y) λb=>afB op a b)=Z v:=h;obtain⟨b,B,h⟩:=aM h;have E:=qY hst;have A:=qY B;rw[E]at M;rw[A]at j;have M:=M.xX;have j:=j.xX;obtain⟨hs,L⟩:=afH (P:=P) (t:=t) h;refine⟨.sc _ hs,λw=>vT (o_ w (.inr<|.inr<|.inl (by rw[M];simp))<|.inl (by rw[M];simp)) ?_⟩;rw[M,j];exact L w
  |none=>
   rw[hst]at h;cases Og:aD 1 (yK x)with
   |true=>
    rw[Og]at h;have h:UX op t x y=Z v:=h;have h0:=h;obtain⟨hv,L⟩:=Zm (P:=P) h M j
    have Y:o7 x=F:=by
     have:=aF Og;cases x<;>simp[yK]at this<;>rfl
    have M:=M.xY Y
    have N:(x'≠.nilIface)/\∀c,x'≠.agg c:=by
     rw[M];have:=aF Og;constructor
     .intro e;rw[e]at this;simp[yK]at this
     .intro c e;rw[e]at this;simp[yK]at this
    exact⟨hv,λw=>vT (o_ w (.inr<|.inr<|.inl N.1)<|.inl N.2)<|L w⟩
   |false=>
    rw[Og]at h;have h:D6 op (aeq P t ox oy x y)=Z v:=h
    have hz:yK x=0:=by
     rcases gK (yK x)with h0|h0
     .exact h0
     .rw[aG h0]at Og;cases Og
    have K:∀b,aeq P t ox oy x y=Z b->∀w,(eqGuard op t ox oy x' y').run P w=.ok () w/\(binOp .eql t x' y').run P w=.ok (.bool b) w/\(binOp .neq t x' y').run P w=.ok (.bool<|!b) w:=by
     intro b B w;obtain⟨I,W,h3,h4,h5,h6⟩:=aiN (op:=op) B M j U V ⟨hi,hst,hz⟩ w;exact⟨W,binOp_eql I h3 h4 h5 h6⟩
    cases op<;>simp only[D6,Av]at h
    case eql=>
     have h:(aN (aeq P t ox oy x y) λb=>Z<|aR b)=Z v:=h;obtain⟨b,B,h⟩:=aM h;cases h;exact⟨.sc _ O,λw=>vT (K b B w).1 (K b B w).2.1⟩
    case neq=>
     have h:(aN (aeq P t ox oy x y) λb=>Z<|aR<|!b)=Z v:=h;obtain⟨b,B,h⟩:=aM h;cases h;exact⟨.sc _ O,λw=>vT (K b B w).1 (K b B w).2.2⟩
    all_goals cases h
end ops
section ops
variable{P:aX}
def afJ{c a b c' a' b':D}(h:LM c a b=Z v)(j:VR m c c')(A:VR m a a')(B:VR m b b'):
 ∃v',VR m v v'/\∀w,(do pure (if<-asBool c' then a' else b'):Sem D).run P w=.ok v' w:=by
 obtain⟨t,E,h⟩:=aM h;cases h;rw[qN E]at j;have:=j.of_bool;subst this;cases t
 .exact⟨b',B,λw=>by simp[asBool]⟩
 .exact⟨a',A,λw=>by simp[asBool]⟩
theorem afK{op:UnOp}(h:lH (Op.unary op x)=Z v)(M:VR m x x'):VR m v v/\∀w,(Op.unary op x').run P w=.ok v w:=by
 obtain⟨hs,j⟩:=AB (P:=P) h
 have:x'=x:=by
  apply M.xY;cases x<;>first|rfl|(exfalso;cases op<;>simp[Op.unary,lH,stuck]at h;done)|skip
  case pointer a=>cases a<;>first|rfl|(exfalso;cases op<;>simp[Op.unary,lH,stuck,unsupported]at h)
 subst this;exact⟨.sc _ hs,j⟩
theorem afL{d:aH}(h:D7 P s d x=Z v)(M:VR m x x'):VR m v v/\∀w,(convert s d x').run P w=.ok v w:=by
 replace h:=aM h;obtain⟨I,B,h⟩:=h;replace h:=aM h;obtain⟨j,A,h⟩:=h;cases hi:vw x with
 |some a=>
  rw[hi]at h;have E:=rZ hi;rw[E]at M;have M:=M.of_int;subst M;cases hk:Od j with
  |some k=>
   replace h:(@aP gm (λ_=>aC D) (cr (DL j) (Z<|.string<|Utf8.encode a.2)<|aN (I6 j) λk=>lH<|Conv.intToFloat k a.2) (λk=>Z<|.int k<|qd k a.2)<|Od j)=Z v:=h;rw[hk]at h;cases h;have:=Xq hk;subst this;exact⟨.sc _ O,λw=>by simp[convert,fV B,fV A,Conv.intToInt,LX]⟩
  |none=>
   replace h:(@aP gm (λ_=>aC D) (cr (DL j) (Z<|.string<|Utf8.encode a.2)<|aN (I6 j) λk=>lH<|Conv.intToFloat k a.2) (λk=>Z<|.int k<|qd k a.2)<|Od j)=Z v:=h;rw[hk]at h;cases hs:DL j with
   |true=>
    rw[hs]at h;cases h;have:=Hf hs;subst this;exact⟨.sc _ O,λw=>by simp[convert,fV B,fV A,Conv.intToString]⟩
   |false=>
    rw[hs]at h;replace h:(aN (I6 j) λk=>lH<|Conv.intToFloat k a.2)=Z v:=h;replace h:=aM h;obtain⟨k,L,h⟩:=h;have:=Zi L;subst this;obtain⟨hs,S⟩:=AB (P:=P) h;exact⟨.sc _ hs,λw=>by simp[convert,fV B,fV A,S]⟩
 |none=>
  rw[hi]at h;replace h:(aN (vO x) λb=>gd (DL j)<|Z<|.string b)=Z v:=h;replace h:=aM h;obtain⟨b,K,h⟩:=h;replace h:=gN h;obtain⟨N,h⟩:=h;cases h;rw[qY K]at M;have M:=M.xX;subst M;have:=Hf N;subst this;refine⟨.sc _ O,λw=>?_⟩;cases I<;>simp[convert,fV B,fV A]
def U_{i:Nat}(h:wN x i=Z v)(M:VR m x x'):∃v',VR m v v'/\∀w,(Instr.extract x' i).run P w=.ok v' w:=by
 obtain⟨l,B,h⟩:=aM h;rw[afC B]at M;obtain⟨l',rfl,E⟩:=M.Qp;rw[qw]at h;obtain⟨v',j,A⟩:=E.get i h;exact⟨v',A,λw=>by simp[Instr.extract,j]⟩
def Sl(h:Qj x=Z v)(M:VR m x x')(ρ:cB->D)(o:Oper)(A:cB)(ho:o.op=.nilCheck A)(j:ρ A=x'):
 VR m v x'/\∀w,(execOp ρ o).run P w=.ok (.value x') w:=by
 unfold Qj at h;cases hp:sJ x with
 |some a=>
  rw[hp]at h;cases h;refine⟨M,λw=>?_⟩;rw[qX hp]at M;obtain⟨l,L,I,K,rfl⟩:=M.vG;simp[execOp,ho,j]
 |none=>
  rw[hp]at h;replace h:(aN (vFn x) λcs=>aN (fFn cs.1) λ_=>Z x)=Z v:=h;obtain⟨cs,B,h⟩:=aM h;obtain⟨g,E,h⟩:=aM h;cases h;refine⟨M,λw=>?_⟩;rw[Qn B,Qo E]at M;obtain⟨N,O,rfl,_,_⟩:=M.aa6;simp[execOp,ho,j]
def aiP(h:mm2 b x y=Z v)(M:VR m x x')(A:VR m y y'):
 VR m v v/\∀w,((if b then Builtin.max2 x' y' else Builtin.min2 x' y').run P w=.ok v w):=by
 obtain⟨p,L,h⟩:=aM h;obtain⟨q,N,h⟩:=aM h;obtain⟨K,h⟩:=gN h;cases h;have B:=rZ L;have E:=rZ N;rw[B]at M;rw[E]at A;have M:=M.of_int;have A:=A.of_int;have I:=Ch K;subst M;subst A;cases b
 .have e:cr (cr aA (Oe p.2 q.2)<|Oe q.2 p.2) y x=if q.2<p.2 then y else x:=by
   show cr (Oe q.2 p.2) y x=_;rw[BR,U6];simp
  rw[e];split
  .next j=>rw[E];exact⟨.sc _ O,λw=>by simp[Builtin.min2,j,I]⟩
  .next j=>rw[B];exact⟨.sc _ O,λw=>by simp[Builtin.min2,j]⟩
 .have e:cr (cr F (Oe p.2 q.2)<|Oe q.2 p.2) y x=if p.2<q.2 then y else x:=by
   show cr (Oe p.2 q.2) y x=_;rw[BR,U6];simp
  rw[e];split
  .next j=>rw[E];exact⟨.sc _ O,λw=>by simp[Builtin.max2,j,I]⟩
  .next j=>rw[B];exact⟨.sc _ O,λw=>by simp[Builtin.max2,j]⟩
def aiQ:∀{l l':C D}{x v x':D},mmL b l x=Z v->VR m x x'->mX m l l'->
 ∃v',VR m v v'/\∀w,((l'.foldlM (if b then Builtin.max2 else Builtin.min2) x':Sem D).run P w=.ok v' w):=by
 intro l
 induction l with
 |nil=>
  intro l' x v x' h M B;cases B;cases h;exact⟨x',M,λw=>gD⟩
 |cons y l S=>
  intro l' x v x' h M B;cases B with
  |cons _ y' _ U N K=>
   replace h:aN (mm2 b x y) (mmL b l)=Z v:=h;obtain⟨z,O,h⟩:=aM h;obtain⟨E,A⟩:=aiP (P:=P) O M N;obtain⟨v',L,j⟩:=S h E K;refine⟨v',L,λw=>?_⟩;have I:=A w;cases b<;>simp at I j|-<;>simp[I,j]
def abf{ats:Array aH}(h:UZ b args=Z v)(j:mX m args args'):
 ∃v',VR m v v'/\∀w,((if b then Builtin.max_ ats t ⟨args'⟩else Builtin.min_ ats t ⟨args'⟩).run P w=.ok v' w):=by
 cases j with
 |nil=>cases h
 |cons x x' l l' M A=>
  replace h:mmL b l x=Z v:=h;obtain⟨v',E,B⟩:=aiQ (P:=P) h M A;refine⟨v',E,λw=>?_⟩;have:=B w;cases b<;>simpa [Builtin.max_,Builtin.min_]using this
def aiR{cs:aH->D->aC D}(h:one cs ats args=Z v):∃t x,ats[0]?=Z t/\args[0]?=Z x/\cs t x=Z v:=by
 obtain⟨t,j,h⟩:=aM h;obtain⟨x,M,h⟩:=aM h;exact⟨t,x,by rw[<-qw];exact j,by rw[<-qw];exact M,h⟩
def afM(h:one (LP P) ats args=Z v)(V:mX m args args'):
 VR m v v/\∀w,(lU ⟨ats⟩ t ⟨args'⟩).run P w=.ok v w:=by
 obtain⟨t,x,K,M,h⟩:=aiR h;obtain⟨x',j,A⟩:=V.get 0 M;obtain⟨d,E,h⟩:=aM h;cases I:DL d with
 |true=>
  rw[I]at h;have:=Hf I;subst this;replace h:(aN (vO x) λs=>Z<|bq .i64<|.ofNat<|len s.data.toList)=Z v:=h;obtain⟨s,hs,h⟩:=aM h;cases h;rw[qY hs]at A;have:=A.xX;subst this;refine⟨.sc _ O,λw=>?_⟩;simp[lU,K,j,fV E,goInt,ig]
 |false=>
  rw[I]at h
  have h:(cr (aB (CQ d) 2) (aN (Ky x) λp=>Z<|.int .i64<|.ofNat p.2.1)
   (cr (aB (CQ d) 3) (aN (Oc x) λr=>gd (fQ r)<|Z<|.int .i64 0)
    (aN (Sb d) λa=>Z<|.int .i64<|.ofNat a.1)))=Z v:=h
  cases W:aB (CQ d) 2 with
  |true=>
   rw[W]at h;replace h:(aN (Ky x) λp=>Z<|bq .i64<|.ofNat p.2.1)=Z v:=h;obtain⟨p,Y,h⟩:=aM h;cases h;have S:=bA W;have B:∃e,d=.slice e:=by cases d<;>simp[CQ]at S;exact⟨_,O⟩
   obtain⟨e,rfl⟩:=B;rw[yO Y]at A;refine⟨.sc _ O,λw=>?_⟩;cases hpa:p.1 with
   |none=>
    rw[hpa]at A;obtain⟨L,S,rfl⟩:=A.wO;simp[lU,K,j,fV E,goInt,L]
   |some a=>
    rw[hpa]at A;rcases A.of_slice with⟨l,cc,_,_,_,rfl,_⟩|⟨a',L,_,rfl⟩
    .simp[lU,K,j,fV E,goInt]
    .simp[lU,K,j,fV E,goInt,L]
  |false=>
   rw[W]at h
   have h:(cr (aB (CQ d) 3) (aN (Oc x) λr=>gd (fQ r)<|Z<|.int .i64 0)
    (aN (Sb d) λa=>Z<|.int .i64<|.ofNat a.1))=Z v:=h
   cases h3:aB (CQ d) 3 with
   |true=>
    rw[h3]at h;replace h:(aN (Oc x) λr=>gd (fQ r)<|Z<|bq .i64 0)=Z v:=h;obtain⟨r,hr,h⟩:=aM h;obtain⟨X,h⟩:=gN h;cases h;have U:=bA h3;have B:∃k e,d=.map k e:=by cases d<;>simp[CQ]at U;exact⟨_,_,O⟩
    obtain⟨k,e,rfl⟩:=B;cases r with
    |some _=>cases X
    |none=>
     rw[E8 hr]at A;have:=A.xY O;subst this;exact⟨.sc _ O,λw=>by simp[lU,K,j,fV E,goInt]⟩
   |false=>
    rw[h3]at h;replace h:(aN (Sb d) λa=>Z<|bq .i64<|.ofNat a.1)=Z v:=h;obtain⟨a,N,h⟩:=aM h;cases h;have:=Qq N;subst this;exact⟨.sc _ O,λw=>by simp[lU,K,j,fV E,goInt]⟩
end ops
section ops
variable{P:aX}
inductive OR(m:Mp):aC D->aC D->Prop where
 |nn:OR m T T
 |ss (v v':D) (h:VR m v v'):OR m (Z v) (Z v')
def Zp{o:aC D}{d:Nat}(h:pz o d=Z n):(o=T/\n=d)\/∃k,o=Z (.int k n):=by
 cases o with
 |none=>cases h;exact .inl ⟨O,O⟩
 |some v=>
  have h:Bh v=Z n:=h;obtain⟨k,rfl⟩:=E7 h;exact .inr ⟨k,O⟩
def OR.nat{o o':aC D}{d:Nat}(ho:OR m o o')(h:pz o d=Z n):(o'=T/\o=T/\n=d)\/∃k,o'=Z (.int k n)/\o=Z (.int k n):=by
 rcases Zp h with⟨rfl,rfl⟩|⟨k,rfl⟩
 .cases ho;exact .inl ⟨O,O,O⟩
 .cases ho with
  |ss _ v' j=>have:=j.of_int;subst this;exact .inr ⟨k,O,O⟩
def Fb{k:gm}{y:Nat}{j:BoundsCode}(h:n<=y):(Instr.sliceBound (.int k n) y j).run P w=.ok n w:=by
 have:(n:Int)<=y:=N;simp[Instr.sliceBound,asIntOf,this,h]
theorem C6{isS:Bool}{l:Nat}(A:OR m lo lo')(j:OR m hi hi')(B:OR m mx Xv)(K:pz lo 0=Z l)(E:pz hi ln=Z h)(em:pz mx cp=Z mm)(I:l<=h)(W:h<=mm)(L:mm<=cp)(M:hi=T->mx=T):
 (Instr.sliceBounds isS ln cp lo' hi' Xv).run P w=.ok (l,h,mm) w:=by
 rcases A.nat K with⟨rfl,_,rfl⟩|⟨N,rfl,_⟩<;>rcases j.nat E with⟨rfl,rfl,rfl⟩|⟨S,rfl,rfl⟩<;>rcases B.nat em with⟨rfl,rfl,rfl⟩|⟨U,rfl,rfl⟩
 all_goals first
  |(exfalso;have:=M O;cases this;done)
  |simp[Instr.sliceBounds,Fb I,Fb W,Fb L,Fb<|aQ I W]
def Fe(l:Loc)(off k:Nat)(hl:l.lo<=off):(⟨l.c,l.base+(off-l.lo),T⟩:Addr).add k=⟨l.c,l.base+(off+k-l.lo),T⟩:=by
 unfold Addr.add;split
 .next j=>rw[j,d_]
 .congr 1;show l.base+(off-l.lo)+k=_;omega
def L8{o:aC α}(h:fQ o=F):o=T:=by cases o<;>simp[fQ]at h;rfl
def abg{s:aZ}(K:P.underlying t=Z .string)(h:Qi s lo hi=Z v)(A:OR m lo lo')(j:OR m hi hi'):
 VR m v v/\∀w,(l_ t (.string s) lo' hi' T).run P w=.ok v w:=by
 have⟨l,hl,h⟩:=aM h;have⟨hh,Zq,h⟩:=aM h;have⟨hg,h⟩:=gN h;cases h;simp only[bE,ig]at hg Zq;have I:=aF hg.1;have W:=aF hg.2;have E:s.size=J s.data.toList:=rfl;refine⟨.sc _ O,λw=>?_⟩;have e:=C6 (P:=P) (isS:=aA) (ln:=s.size) (cp:=s.size) (w:=w) A j (OR.nn (m:=m)) hl Zq O I W (ax _) λ_=>rfl
 have B:s.extract l hh=⟨⟨tk (hh-l)<|dp l s.data.toList⟩⟩:=by
  apply vM;rw[FF,OT];rw[rD,<-jN,Array.toList_extract]
 simp[l_,Instr.slice,fV K,e,B]
def Am{l:Nat}(O:P.underlying t=Z (.slice e))(A:P.info? e=Z i)(B:OR m lo lo')(j:OR m hi hi')(E:OR m mx Xv)(L:pz lo 0=Z l)(K:pz hi ln=Z h)(em:pz mx cp=Z mm)(I:l<=h)(W:h<=mm)(M:mm<=cp)(N:hi=T->mx=T):
 (l_ t (.slice (Z a) ln cp) lo' hi' Xv).run P w=.ok (.slice (Z (if mm=l then a else a.add (l*i.size))) (h-l)<|mm-l) w:=by
 have e:=C6 (P:=P) (isS:=F) (w:=w) B j E L K em I W M N;simp only[l_,Instr.slice,dB,fV O,bT,e,kD A,dS];split<;>simp
def afN{lv:D}(hq:Se P t=Z q)(hp:Ky x=Z p)(h:Xm q.2 p lo hi mx=Z lv)(M:VR m x x')(L:OR m lo lo')(K:OR m hi hi')(S:OR m mx Xv):
 ∃v',VR m lv v'/\∀w,(l_ t x' lo' hi' Xv).run P w=.ok v' w:=by
 have⟨hu,⟨inf,wP,hsz⟩,hq1⟩:=C5 hq;rw[yO hp]at M;have⟨pa,n,cp⟩:=p;simp only at M;cases pa with
 |none=>
  replace h:(aN (pz lo 0) λl=>aN (pz hi 0) λh=>aN (pz mx 0) λm=>gd (aB l 0&&aB h 0&&aB m 0&&aB n 0&&aB cp 0&&(!(fQ hi)||fQ mx))<|Z<|.slice T 0 0)=Z lv:=h;have⟨l,hl,h⟩:=aM h;have⟨hh,Zq,h⟩:=aM h;have⟨mm,hmm,h⟩:=aM h;have⟨hg,h⟩:=gN h;cases h;simp only[bE]at hg;have⟨⟨⟨⟨⟨B,I⟩,g3⟩,U⟩,g5⟩,g6⟩:=hg;have B:=bA B;have I:=bA I;have g3:=bA g3;subst B;subst I;subst g3;obtain⟨_,_,rfl⟩:=M.wO;refine⟨.slice T 0 0,.sc _ O,λw=>?_⟩
  have e:=C6 (P:=P) (isS:=F) (w:=w) L K S hl Zq hmm (ax _) (ax _) (ax _) (by
   intro e;rw[e]at g6;simp[fQ]at g6;cases mx with
   |none=>rfl
   |some _=>simp[fQ]at g6)
  simp[l_,Instr.slice,fV hu,e,kD wP]
 |some a=>
  replace h:(aN (pz lo 0) λl=>aN (pz hi n) λh=>
   cr (gW cp)
    (aN (pz mx cp) λm=>gd (aD l h&&aD h m&&aD m cp&&(!(fQ hi)||fQ mx))
     (Z<|.slice (Z ⟨a.block,sS m l a.off q.2,T⟩) (dQ h l)<|dQ m l))
    (gd (aB cp<|gQ q.2) (@aP D (λ_=>aC D)
     (gd (aD l h&&aD h n)<|Z<|.slice (Z ⟨a.block,a_ a.off<|bO l q.2,T⟩) (dQ h l) cp)
     (λmv=>aN (Bh mv) λm=>gd (aD l h&&aD h m&&aD m n&&!(fQ hi)&&gW m)
      (Z<|.slice (Z ⟨a.block,sS m l a.off q.2,T⟩) (dQ h l)<|dQ m l)) mx)))=Z lv:=h
  have⟨l,hl,h⟩:=aM h;have⟨hh,Zq,h⟩:=aM h
  have ad:(!(fQ hi)||fQ mx)=F->hi=T->mx=T:=by
   intro g e;rw[e]at g;simp[fQ]at g;cases mx with
   |none=>rfl
   |some _=>simp[fQ]at g
  cases hk:gW cp with
  |true=>
   rw[hk]at h
   replace h:(aN (pz mx cp) λm=>gd (aD l hh&&aD hh m&&aD m cp&&(!(fQ hi)||fQ mx))
    (Z<|u (Z ⟨a.block,sS m l a.off q.2,T⟩) (dQ hh l)<|dQ m l))=Z lv:=h
   have⟨mm,hmm,h⟩:=aM h;have⟨hg,h⟩:=gN h;cases h;simp only[bE]at hg;have⟨⟨⟨B,I⟩,g3⟩,U⟩:=hg;have B:=aF B;have I:=aF I;have g3:=aF g3;have U:=ad U
   have V:gW (mm-l)=F:=by
    have:=aF hk;exact aG N
   rcases M.of_slice with⟨A,cc,X,j,ac,rfl,⟨_,rfl,_⟩|⟨es,W,_⟩⟩|⟨a',W,E,rfl⟩
   .refine⟨_,?_,λw=>Am hu wP L K S hl Zq hmm B I g3 U⟩;unfold sS
    by_cases hml:mm=l
    .rw[show aB mm l=F from by rw[kU];exact hml,if_pos hml];exact .slice _ _ _ _ A X j V (by show hh-l<=_-l;omega)
    .rw[show aB mm l=aA from by rw[<-dn,kU];exact hml,if_neg hml,hsz,Fe A a.off _ j];exact .slice _ _ _ _ A X (by show A.lo<=a.off+l*q.2;omega) V (by show hh-l<=_-l;omega)
   .exact absurd W<|E_ hk
   .rcases E with E|⟨es,_,E,_⟩
    .subst W;subst E;have:mm=0:=N;subst this;have:hh=0:=N;subst this;have:l=0:=N;subst this;refine⟨_,?_,λw=>Am hu wP L K S hl Zq hmm B I g3 U⟩;exact .xy _ _
    .exact absurd E<|E_ hk
  |false=>
   rw[hk]at h
   replace h:(gd (aB cp<|gQ q.2) (@aP D (λ_=>aC D)
    (gd (aD l hh&&aD hh n)<|Z<|u (Z ⟨a.block,a_ a.off<|bO l q.2,T⟩) (dQ hh l) cp)
    (λmv=>aN (Bh mv) λm=>gd (aD l hh&&aD hh m&&aD m n&&!(fQ hi)&&gW m)
     (Z<|.slice (Z ⟨a.block,sS m l a.off q.2,T⟩) (dQ hh l)<|dQ m l)) mx))=Z lv:=h
   have⟨JP,h⟩:=gN h;have JP:=bA JP;cases mx with
   |none=>
    replace h:(gd (aD l hh&&aD hh n)<|Z<|u (Z ⟨a.block,a_ a.off<|bO l q.2,T⟩) (dQ hh l) cp)=Z lv:=h;have⟨hg,h⟩:=gN h;cases h;simp only[bE]at hg;have B:=aF hg.1;have I:=aF hg.2;cases S;rcases M.of_slice with⟨A,cc,X,j,ac,rfl,⟨Y,rfl,_⟩|⟨es,W,e0,E,e3,e9⟩⟩|⟨a',W,E,rfl⟩
    .rw[Y]at hk;cases hk
    .refine⟨_,?_,λw=>Am hu wP L K (OR.nn (m:=m)) hl Zq O B (aQ I e3) (ax _) λ_=>rfl⟩
     have ag:es=q.2:=by
      have:=W.symm.trans JP;unfold gQ at this;exact Nat.add_left_cancel this
     subst ag
     by_cases hml:cc=l
     .rw[if_pos hml];have e4:hh-l=0:=N;have e5:cc-l=0:=N;rw[show dQ hh l=0 from e4,e4,e5];rw[JP];exact .vQ _ _ _ _ A X (by show A.lo<=a.off+l*q.2;omega) e0 (by show A.n<=a.off+l*q.2;rw[<-hml];exact e9)
     .rw[if_neg hml,hsz,Fe A a.off _ j,JP];refine .uP _ _ _ _ _ A X (by show A.lo<=a.off+l*q.2;omega) e0 ?_ (by show hh-l<=cc-l;omega) ?_;show A.base+(a.off+l*q.2-A.lo)+(cc-l)*q.2=A.tot;rw[<-E,Nat.sub_mul];have:l*q.2<=cc*q.2:=fA _ N;omega
      .show A.n<=a.off+l*q.2+(cc-l)*q.2;rw[Nat.sub_mul];have:l*q.2<=cc*q.2:=fA _ N;omega
    .subst W;refine⟨_,?_,λw=>Am hu wP L K (OR.nn (m:=m)) hl Zq O B N (ax _) λ_=>rfl⟩;have e3:hh-l=0:=N;have e4:0-l=0:=N;have e5:l=0:=N;rw[show dQ hh l=0 from e3,e3,e4];rcases E with E|⟨es,l2,E,f1,f2,f3,f4,f5⟩
     .subst E;cases hk
     .rw[E];exact .vQ _ _ _ _ l2 f1 (by show l2.lo<=a.off+l*q.2;rw[e5];omega) f3 (by show l2.n<=a.off+l*q.2;rw[e5];omega)
   |some mv=>
    replace h:(aN (Bh mv) λm=>gd (aD l hh&&aD hh m&&aD m n&&!(fQ hi)&&gW m)
     (Z<|u (Z ⟨a.block,sS m l a.off q.2,T⟩) (dQ hh l)<|dQ m l))=Z lv:=h
    have⟨mm,hmm,h⟩:=aM h;have⟨hg,h⟩:=gN h;cases h;simp only[bE]at hg;have⟨⟨⟨⟨B,I⟩,g3⟩,U⟩,g5⟩:=hg;have B:=aF B;have I:=aF I;have g3:=aF g3;have U:hi=T->Z mv=T:=by intro e;rw[e]at U;simp[fQ]at U
    have ab:∀c,pz (Z mv) c=Z mm:=λc=>hmm
    have V:gW (mm-l)=F:=by
     have:=aF g5;exact aG N
    rcases M.of_slice with⟨A,cc,X,j,ac,rfl,⟨Y,rfl,_⟩|⟨es,W,e0,E,e3,e9⟩⟩|⟨a',W,E,rfl⟩
    .rw[Y]at hk;cases hk
    .refine⟨_,?_,λw=>Am hu wP L K S hl Zq (ab _) B I (aQ g3 e3) U⟩;unfold sS
     by_cases hml:mm=l
     .rw[show aB mm l=F from by rw[kU];exact hml,if_pos hml];exact .slice _ _ _ _ A X j V (by show hh-l<=_-l;omega)
     .rw[show aB mm l=aA from by rw[<-dn,kU];exact hml,if_neg hml,hsz,Fe A a.off _ j];exact .slice _ _ _ _ A X (by show A.lo<=a.off+l*q.2;omega) V (by show hh-l<=_-l;omega)
    .subst W;refine⟨_,?_,λw=>Am hu wP L K S hl Zq (ab _) B I g3 U⟩;have:mm=0:=N;subst this;have:hh=0:=N;subst this;have:l=0:=N;subst this;exact .xy _ _
def abh{q:Nat×aH×Nat}{lv:D}(W:Sf P t=Z q)(V:sJ x=Z a)(h:UY q.1 q.2.2 a lo hi mx=Z lv)(M:VR m x x')(L:OR m lo lo')(K:OR m hi hi')(S:OR m mx Xv):
 ∃v',VR m lv v'/\∀w,(l_ t x' lo' hi' Xv).run P w=.ok v' w:=by
 have⟨hu,⟨inf,wP,hsz⟩,hq1⟩:=K9 W;rw[qX V]at M;obtain⟨j,U,A,X,rfl⟩:=M.vG;have⟨l,hl,h⟩:=aM h;have⟨hh,Zq,h⟩:=aM h;have⟨hg,h⟩:=gN h;cases h;simp only[bE]at hg;have⟨⟨⟨E,I⟩,g3⟩,g4⟩:=hg;have E:=aF E;have I:=aF I;have g3:=L8 g3;subst g3;cases S;have e:=λw=>C6 (P:=P) (isS:=aA) (cp:=q.1) (w:=w) L K (OR.nn (m:=m)) hl Zq O E I (ax _) λ_=>rfl
 have B:gW (q.1-l)=F:=by
  have:=aF g4;exact aG N
 refine⟨.slice (Z (if q.1=l then⟨j.c,j.base+(a.off-j.lo),T⟩else(⟨j.c,j.base+(a.off-j.lo),T⟩:Addr).add (l*inf.size))) (hh-l)<|q.1-l,?_,λw=>?_⟩
 .unfold sS
  by_cases hml:q.1=l
  .rw[show aB q.1 l=F from by rw[kU];exact hml,if_pos hml];exact .slice _ _ _ _ j U A B (by show hh-l<=_-l;omega)
  .rw[show aB q.1 l=aA from by rw[<-dn,kU];exact hml,if_neg hml,hsz,Fe j a.off _ A];exact .slice _ _ _ _ j U (by show j.lo<=a.off+l*q.2.2;omega) B (by show hh-l<=_-l;omega)
 .simp only[l_,kK,dB,fV hu,bT,dS,e w,kD wP]
def abj{lv:D}(h:BQ P t x lo hi mx=Z lv)(M:VR m x x')(A:OR m lo lo')(j:OR m hi hi')(B:OR m mx Xv):
 ∃v',VR m lv v'/\∀w,(l_ t x' lo' hi' Xv).run P w=.ok v' w:=by
 unfold BQ at h;cases hs:Se P t with
 |some q=>
  rw[hs]at h;replace h:(aN (Ky x) λp=>Xm q.2 p lo hi mx)=Z lv:=h;have⟨p,hp,h⟩:=aM h;exact afN hs hp h M A j B
 |none=>
  rw[hs]at h;cases hst:I7 P t with
  |true=>
   rw[hst]at h;replace h:(aN (vO x) λs=>gd (fQ mx)<|Qi s lo hi)=Z lv:=h;have⟨s,hs1,h⟩:=aM h;have⟨hg,h⟩:=gN h;have g3:=L8 hg;subst g3;cases B;rw[qY hs1]at M;have:=M.xX;subst this;have⟨I,W⟩:=abg (P:=P) (O0 hst) h A j;exact⟨_,I,W⟩
  |false=>
   rw[hst]at h;replace h:(aN (Sf P t) λq=>aN (sJ x) λa=>UY q.1 q.2.2 a lo hi mx)=Z lv:=h;have⟨q,hq,h⟩:=aM h;have⟨a,ha,h⟩:=aM h;exact abh hq ha h M A j B
end ops
section ops
variable{P:aX}
def Va{l:C D}(h:aB (len l) 1=F)(M:nth l 0=Z x):l=[x]:=by
 have:=bA h;rw[ig]at this
 match l,this with
 |[y],_=>cases M;rfl
def Cj(x:α):∀(k:Nat)(l:C α),setAt x k l=l.set k x:=by
 intro k
 induction k with
 |zero=>intro l;cases l<;>rfl
 |succ k j=>intro l;cases l with
  |nil=>rfl
  |cons y r=>exact fq (y::·)<|j r
def Vb:∀(vs:C D)(k:Nat)(f:C D),Ja vs k f=(vs.zipIdx k).foldl (λf p=>f.set p.2 p.1) f:=by
 intro vs
 induction vs with
 |nil=>intros;rfl
 |cons v vs j=>
  intro k f;show Ja vs (k+1) (setAt v k f)=_;rw[j,Cj];rfl
def abk:∀(vs vs':C D)(k:Nat)(f cs':C D),mX m vs vs'->mX m f cs'->mX m (Ja vs k f) (Ja vs' k cs'):=by
 intro vs
 induction vs with
 |nil=>intro vs' k f cs' h j;cases h;exact j
 |cons v vs I=>
  intro vs' k f cs' h j;cases h with
  |cons _ v' _ A E B=>
   show mX m (Ja vs (k+1)<|setAt v k f)<|Ja A (k+1)<|setAt v' k cs';rw[Cj,Cj];exact I A (k+1) _ _ B<|j.set k E
def Zr(f:Array D)(off:Nat):∀(l:C<|D×Nat)(a:Array D),(l.foldl (λ(f:Array D) p=>f.setIfInBounds (off+p.2) p.1) a).toList=
 l.foldl (λ(f:C D) p=>f.set (off+p.2) p.1) a.toList:=by
 intro l
 induction l with
 |nil=>intro a;rfl
 |cons p l j=>intro a;simp only[lF];rw[j];simp
def Zs:∀(vs:C D)(off k:Nat)(f:C D),(vs.zipIdx k).foldl (λ(f:C D) p=>f.set (off+p.2) p.1) f=(vs.zipIdx<|off+k).foldl (λf p=>f.set p.2 p.1) f:=by
 intro vs
 induction vs with
 |nil=>intros;rfl
 |cons v vs j=>intro off k f;simp only[List.zipIdx_cons,lF];rw[j off (k+1)];rfl
def Vd(vs:Array D)(off:Nat)(a:Array D):(vs.zipIdx.foldl (λ(f:Array D)(p:D×Nat)=>f.setIfInBounds (off+p.2) p.1) a)=⟨Ja vs.toList off a.toList⟩:=by
 rw[<-jN,<-Array.foldl_toList,Zr a,Vb];simp only[Array.toList_zipIdx];rw[Zs];simp
inductive PRs(m:Mp):C (Nat×D)->C (Nat×D)->Prop where
 |nil:PRs m [] []
 |cons (k:Nat) (v v':D) (l l':C<|Nat×D) (h:VR m v v') (hl:PRs m l l'):PRs m ((k,v)::l) ((k,v')::l')
theorem C8(h:VR m v v')(L:v≠top):mX m (bY v) (bY v'):=by
 cases h with
 |sc _ h=>
  have:bY v=[v]:=by cases v<;>first|rfl|simp[o7]at h
  rw[this];exact .cons _ _ _ _ (.sc _ h) .nil
 |top=>exact absurd O L
 |ptr r off l h j=>exact .cons _ _ _ _ (.ptr r off l h j) .nil
 |slice r off n cp l h j K E=>exact .cons _ _ _ _ (.slice r off n cp l h j K E) .nil
 |uP r off n es cc l h j B N I hN=>exact .cons _ _ _ _ (.uP r off n es cc l h j B N I hN) .nil
 |xy a A=>exact .cons _ _ _ _ (.xy a A) .nil
 |vQ r off es A l h j B hN=>exact .cons _ _ _ _ (.vQ r off es A l h j B hN) .nil
 |map r l h=>exact .cons _ _ _ _ (.map r l h) .nil
 |func cs x y x' y' M S=>exact .cons _ _ _ _ (.func cs x y x' y' M S) .nil
 |iface t v v' h=>exact .cons _ _ _ _ (.iface t v v' h) .nil
 |agg x x' h=>exact h
 |tuple x x' h=>exact .cons _ _ _ _ (.tuple x x' h) .nil
def O6(h:rJ v=F):v≠top:=by intro e;rw[e]at h;cases h
def Eb(v:D):v.cells=⟨bY v⟩:=by rw[E9]
def Qv(j:Nat->aC (Nat×Nat)):∀(ps ps':C<|Nat×D)(f cs' r:C D),FJ j ps f=Z r->PRs m ps ps'->mX m f cs'->
 ∃r',Instr.fill j ⟨cs'⟩ ps'=Z ⟨r'⟩/\mX m r r':=by
 intro ps
 induction ps with
 |nil=>intro ps' f cs' r h I B;cases I;cases h;exact⟨cs',O,B⟩
 |cons p ps U=>
  intro ps' f cs' r h I B;cases I with
  |cons k v v' _ l' S N=>
   replace h:(aN (j k) λq=>gd (rJ v&&aB (len<|bY v) q.2&&aD (a_ q.1 q.2) (len f))<|FJ j ps<|Ja (bY v) q.1 f)=Z r:=h;have⟨q,hq,h⟩:=aM h;have⟨hg,h⟩:=gN h;simp only[bE,ig]at hg;have L:=O6 hg.1.1;have M:=bA hg.1.2;have g3:=aF hg.2;have A:=C8 S L;have⟨r',hr',hrr⟩:=U l' _ (Ja (bY v') q.1 cs') r h N<|abk _ _ _ _ _ A B;refine⟨r',?_,hrr⟩;unfold Instr.fill;rw[hq];have E:v'.cells.size=q.2:=by rw[Eb];show(bY v').length=_;rw[<-A.length,M]
   have K:¬(q.1+v'.cells.size>(⟨cs'⟩:Array D).size):=by
    rw[E];show¬(q.1+q.2>J cs');rw[<-B.length];have:q.1+q.2<=J f:=g3;omega
   simp only[E,ne_eq,vv,decide_false,tu,nS];rw[E]at K;rw[if_neg K];rw[Vd,Eb];exact hr'
def Zt:∀(fs:C Field)(pl:C<|Nat×Nat),places P fs=Z pl->fs.mapM (λcs=>(P.info? cs.type).map λi=>(cs.offset,i.size))=Z pl:=by
 intro fs
 induction fs with
 |nil=>intro pl h;cases h;rfl
 |cons cs fs j=>
  intro pl h;replace h:(aN (wM P cs.type) λs=>aN (places P fs) λl=>Z<|(cs.offset,s)::l)=Z pl:=h;have⟨s,hs,h⟩:=aM h;have⟨l,hl,h⟩:=aM h;cases h;obtain⟨i,hi,rfl⟩:=si hs;simp[xR,hi,j l hl]
def abl(h:CS P t ps=Z v)(I:PRs m ps ps'):
 ∃v',VR m v v'/\∀w,(Instr.build t ⟨ps'⟩).run P w=.ok v' w:=by
 have⟨z,hz,h⟩:=aM h;have⟨i,z0,hi,hz0,hze,hlen,hs⟩:=Ak hz;have A:mX m z z:=mX.o7 hs;have j:z0.cells=⟨z⟩:=by rw[hze]
 cases hpl:Xl P t with
 |some pl=>
  rw[hpl]at h;replace h:(aN (FJ (nth pl) ps z) λf=>Z<|dP ⟨f⟩)=Z v:=h;have⟨f,hcs,h⟩:=aM h;cases h;have⟨cs',hcs',hr⟩:=Qv (nth pl) ps ps' z z f hcs I A;refine⟨.agg ⟨cs'⟩,.agg _ _ hr,λw=>run_build w t ⟨ps'⟩ ⟨cs'⟩ ?_⟩;have h:=hpl;have⟨fs,hfs,h⟩:=aM h;have E:=Az hfs;have B:=Zt fs pl h;unfold Program.built;rw[hi,E];simp only[hz0,B,j];rw[<-hcs'];congr 1;funext k;rw[qw];simp
 |none=>
  rw[hpl]at h;replace h:(aN (Sf P t) λq=>aN (FJ (λk=>Z (bO k q.2.2,q.2.2)) ps z) λf=>Z<|dP ⟨f⟩)=Z v:=h;have⟨q,hq,h⟩:=aM h;have⟨f,hcs,h⟩:=aM h;cases h;have⟨E,⟨inf,wP,hsz⟩,hq1⟩:=K9 hq;have⟨cs',hcs',hr⟩:=Qv _ ps ps' z z f hcs I A;refine⟨.agg ⟨cs'⟩,.agg _ _ hr,λw=>run_build w t ⟨ps'⟩ ⟨cs'⟩ ?_⟩;unfold Program.built;rw[hi,E];simp only[hz0,wP,j,hsz];exact hcs'
end ops
inductive D3(m:Mp):C (D×D)->C MapEntry->Prop where
 |nil:D3 m [] []
 |cons (k v:D) (e:MapEntry) (l:C<|D×D) (l':C MapEntry) (hk:VR m k e.key) (hv:VR m v e.val) (hl:D3 m l l'):D3 m ((k,v)::l) (e::l')
def D3.mono{m m':Mp}(j:Mp.le m m'){l:C (D×D)}{l':C MapEntry}(h:D3 m l l'):D3 m' l l':=by
 induction h with
 |nil=>exact .nil
 |cons k v e l l' A B _ E=>exact .cons k v e l l' (A.mono j) (B.mono j) E
def wQ(m:Mp)(l:Loc):nE->Obj->Prop
 |.dead,_=>True
 |.row az,.cells f ty fr=>(ty=az.ty/\l.base=0)/\az.n=l.n/\f.size=l.tot/\l.lo<=az.n/\l.base+(az.n-l.lo)<=l.tot/\
  (az.mR=aA->fr.2<=l.base+(az.fz-l.lo))/\
  ∀i,l.lo<=i->i<az.n->∃v,f[l.base+(i-l.lo)]?=Z v/\VR m (az.cells.get top i) v
 |.map es,.map BB _=>D3 m es BB.toList
 |.OU s p,.stringIter s' p'=>s'=s/\p'=p/\l.base=0
 |_,_=>False
theorem wQ.mono{m m':Mp}(j:Mp.le m m'){l:Loc}{o:nE}{ob:Obj}(h:wQ m l o ob):wQ m' l o ob:=by
 cases o<;>cases ob<;>first|exact h|skip
 case row.cells az f ty fr=>
  have⟨I,hn,W,h3,h4,h5,h6⟩:=h;exact⟨I,hn,W,h3,h4,h5,λi a b=>let⟨v,hv,hr⟩:=h6 i a b;⟨v,hv,hr.mono j⟩⟩
 case map.map es BB c=>exact D3.mono j h
structure RH(m:Mp)(H:R)(w:cZ):Prop where
 dom:∀r l,m r=Z l->r<H.bU
 ok:∀r l,m r=Z l->∃o,w.heap[l.c]?=Z o/\wQ m l (H.obj r) o
 sep:∀r r' l l',m r=Z l->m r'=Z l'->H.obj r≠.dead->H.obj r'≠.dead->l.c=l'.c->r=r'
structure Ex(m m':Mp)(H Q:R)(w w':cZ):Prop where
 le:Mp.le m m'
 new:∀r l,m' r=Z l->m r=T->H.bU<=r
 fresh:∀r l,m' r=Z l->m r=T->l.c<w.heap.size->∃r0 l0,m r0=Z l0/\l0.c=l.c/\Q.low<=r0
 os:w'.os=w.os
 tape:w'.tape=w.tape
 output:w'.output=w.output
 size:w.heap.size<=w'.heap.size
 keep:∀c,c<w.heap.size->(∀r l,m r=Z l->l.c=c->r<Q.low)->w'.heap[c]?=w.heap[c]?
 bU:H.bU<=Q.bU
 low:Q.low<=H.low
 xO:∀r,r<H.bU->r<Q.low->Q.obj r=H.obj r
 hid:∀r,r<H.bU->m r=T->Q.obj r=H.obj r
def qD(h:w.heap[c]?=Z o):c<w.heap.size:=(eZ.1 h).1
def Ex.refl(m:Mp)(H:R)(w:cZ):Ex m m H H w w where
 le:=λ_ _ h=>h
 new:=λr l h j=>by rw[h]at j;cases j
 fresh:=λr l h j=>by rw[h]at j;cases j
 os:=rfl
 tape:=rfl
 output:=rfl
 size:=ax _
 keep:=λ_ _ _=>rfl
 bU:=ax _
 low:=ax _
 xO:=λ_ _ _=>rfl
 hid:=λ_ _ _=>rfl
theorem Ex.trans{B m2:Mp}{H1 H2:R}{O S:cZ}(a:Ex m B H H1 w O)(b:Ex B m2 H1 H2 O S):Ex m m2 H H2 w S where
 le:=λr l h=>b.le r l<|a.le r l h
 new:=λr l h K=>by
  cases I:B r with
  |none=>exact aQ a.bU<|b.new r l h I
  |some E=>
   have:=b.le r E I;rw[h]at this;cases this;exact a.new r l I K
 fresh:=λr l h K A=>by
  cases I:B r with
  |none=>
   have⟨r0,j,e1,e2,e3⟩:=b.fresh r l h I<|aO A a.size;cases h0:m r0 with
   |some N=>
    have:=a.le r0 N h0;rw[e1]at this;cases this;exact⟨r0,j,h0,e2,e3⟩
   |none=>
    have⟨r1,E,f1,f2,f3⟩:=a.fresh r0 j e1 h0 (by rw[e2];exact A);exact⟨r1,E,f1,f2.trans e2,aQ b.low f3⟩
  |some E=>
   have:=b.le r E I;rw[h]at this;cases this;have⟨r0,j,e1,e2,e3⟩:=a.fresh r l I K A;exact⟨r0,j,e1,e2,aQ b.low e3⟩
 os:=b.os.trans a.os
 tape:=b.tape.trans a.tape
 output:=b.output.trans a.output
 size:=aQ a.size b.size
 keep:=λc L M=>by
  rw[b.keep c (aO L a.size),a.keep c L]
  .exactλr l I W=>aO (M r l I W) b.low
  .intro r l I W;cases h0:m r with
   |some j=>
    have:=a.le r j h0;rw[I]at this;cases this;exact M r l h0 W
   |none=>
    have⟨r0,j,e1,e2,e3⟩:=a.fresh r l I h0 (by rw[W];exact L);have:=M r0 j e1<|e2.trans W;have:=b.low;omega
 bU:=aQ a.bU b.bU
 low:=aQ b.low a.low
 xO:=λr I W=>(b.xO r (aO I a.bU) W).trans<|a.xO r I<|aO W b.low
 hid:=λr I W=>by
  have U:B r=T:=by
   cases h0:B r with
   |none=>rfl
   |some l=>have:=a.new r l h0 W;omega
  exact(b.hid r (aO I a.bU) U).trans<|a.hid r I W
def x_(H:R)(r:Nat)(o:nE)(r':Nat):(H.put r o).obj r'=if r'=r then o else H.obj r':=Tr.w9 _ _ _ _ _
def Ab(H:R)(o:nE)(r':Nat):(H.new o).obj r'=if r'=H.bU then o else H.obj r':=Tr.w9 _ _ _ _ _
def Lb(H:R)(r:Nat)(o:nE):(H.put r o).low<=r/\(H.put r o).low<=H.low:=by
 have e:(H.put r o).low=cr (aD H.low r) H.low r:=rfl;rw[e,BR];split
 .next h=>exact⟨aF h,ax _⟩
 .next h=>exact⟨ax _,by have:¬H.low<=r:=λj=>h<|aG j;omega⟩
def Mp.add(m:Mp)(r:Nat)(l:Loc):Mp:=λk=>if k=r then Z l else m k
def Mp.abm(h:m r=T):Mp.le m (m.add r l):=by
 intro k l' j;unfold Mp.add;split
 .next e=>rw[e]at j;rw[h]at j;cases j
 .exact j
theorem RH.O7(j:RH m H w):m H.bU=T:=by
 cases h:m H.bU with
 |none=>rfl
 |some l=>exact absurd (j.dom _ _ h)<|mG _
def RH.alloc(L:RH m H w)(o:nE)(ob:Obj)(lo base tot n:Nat)(V:wQ m ⟨w.heap.size,lo,base,tot,n⟩ o ob):
 RH (m.add H.bU ⟨w.heap.size,lo,base,tot,n⟩) (H.new o) (w.alloc ob)/\Ex m (m.add H.bU ⟨w.heap.size,lo,base,tot,n⟩) H (H.new o) w (w.alloc ob):=by
 have hn:=L.O7;have A:=Mp.abm (l:=⟨w.heap.size,lo,base,tot,n⟩) hn;have j:∀r l,m r=Z l->l.c<w.heap.size:=λr l h=>let⟨_,ho,_⟩:=L.ok r l h;qD ho;refine⟨⟨?_,?_,?_⟩,?_⟩
 .intro r l h;show r<H.bU+1;unfold Mp.add at h;split at h
  .omega
  .have:=L.dom r l h;omega
 .intro r l h;unfold Mp.add at h;split at h
  .next e=>
   cases h;refine⟨ob,by show(w.heap.push ob)[w.heap.size]?=_;simp,?_⟩;rw[Ab,if_pos e];exact V.mono A
  .next e=>
   have⟨L9,ho,hk⟩:=L.ok r l h;refine⟨L9,?_,?_⟩
   .have:=qD ho;show(w.heap.push ob)[l.c]?=_;rw[qj,if_neg N];exact ho
   .rw[Ab,if_neg e];exact hk.mono A
 .intro r Y l l' h E X K M;unfold Mp.add at h E;split at h<;>split at E
  .next e B=>rw[e,B]
  .next e B=>cases h;have:=j Y l' E;simp at M;omega
  .next e B=>cases E;have:=j r l h;simp at M;omega
  .next e B=>
   rw[Ab,if_neg e]at X;rw[Ab,if_neg B]at K;exact L.sep r Y l l' h E X K M
 .refine⟨A,?_,?_,O,O,O,by show w.heap.size<=(w.heap.push ob).size;simp,?_,jv _,ax _,?_,?_⟩
  .intro r l h S;unfold Mp.add at h;split at h
   .next e=>omega
   .rw[S]at h;cases h
  .intro r l h S U;unfold Mp.add at h;split at h
   .next e=>cases h;simp at U
   .rw[S]at h;cases h
  .intro c M _;show(w.heap.push ob)[c]?=_;rw[qj,if_neg N]
  .intro r I W;rw[Ab,if_neg N]
  .intro r I W;rw[Ab,if_neg N]
def RH.drew(j:RH m H w):RH m H w.drew:=⟨j.dom,j.ok,j.sep⟩
def Ex.drew(m:Mp)(H:R)(w:cZ):Ex m m H H w w.drew:={Ex.refl m H w with os:=rfl,tape:=rfl,output:=rfl,size:=ax _,keep:=λ_ _ _=>rfl}
theorem RH.update(S:RH m H w)(r:Nat)(l:Loc)(o':nE)(L9:Obj)(X:m r=Z l)(hd:H.obj r≠.dead)(ab:wQ m l o' L9)(hb:w'.heap[l.c]?=Z L9)(hs:w'.heap.size=w.heap.size)(ho:∀c,c≠l.c->w'.heap[c]?=w.heap[c]?)(I:w'.os=w.os)(W:w'.tape=w.tape)(h3:w'.output=w.output):RH m (H.put r o') w'/\Ex m m H (H.put r o') w w':=by
 have V:=Lb H r o';refine⟨⟨S.dom,?_,?_⟩,?_⟩
 .intro E M j;rw[x_]
  by_cases e:E=r
  .subst e;rw[j]at X;cases X;exact⟨L9,hb,by rw[if_pos O];exact ab⟩
  .rw[if_neg e];have⟨ob1,g1,U⟩:=S.ok E M j
   by_cases K:M.c=l.c
   .refine⟨L9,by rw[K];exact hb,?_⟩
    by_cases hdd:H.obj E=.dead
    .rw[hdd];trivial
    .exact absurd (S.sep E r M l j X hdd hd K) e
   .exact⟨ob1,by rw[ho _ K];exact g1,U⟩
 .intro E Y M l2 j L A B K;rw[x_]at A B
  by_cases e1:E=r<;>by_cases e2:Y=r
  .rw[e1,e2]
  .subst e1;rw[if_neg e2]at B;exact S.sep E Y M l2 j L hd B K
  .subst e2;rw[if_neg e1]at A;exact S.sep E Y M l2 j L A hd K
  .rw[if_neg e1]at A;rw[if_neg e2]at B;exact S.sep E Y M l2 j L A B K
 .refine⟨λ_ _ h=>h,(λr l h h'=>absurd (h.symm.trans h') gD),(λr l h h'=>absurd (h.symm.trans h') gD),I,W,h3,(by rw[hs];exact ax _),?_,ax _,V.2,?_,?_⟩
  .intro c K hk;apply ho;intro e;have:=hk r l X e.symm;omega
  .intro E g1 U;rw[x_,if_neg N]
  .intro E g1 U;rw[x_,if_neg (by intro e;subst e;rw[X]at U;cases U)]
section mem
variable{P:aX}
def Xw(d:D)(t:Tr D):∀(n k:Nat),(Tr.FW d t k n).length=n:=by
 intro n
 induction n with
 |zero=>intro k;rfl
 |succ n j=>intro k;rw[Tr.zu];simp[j]
def Xx(d:D)(t:Tr D):∀(n k j:Nat),j<n->(Tr.FW d t k n)[j]?=Z (t.get d<|k+j):=by
 intro n
 induction n with
 |zero=>intro k j h;omega
 |succ n A=>
  intro k j h;rw[Tr.zu];cases j with
  |zero=>rfl
  |succ j=>rw[eP,A (k+1) j N,show k+1+j=k+(j+1)from N]
def cell_of{fr:Nat×Nat}(h:w.heap[c]?=Z (.cells f ty fr))(k:Nat):w.cell? ⟨c,k,T⟩=f[k]?:=by
 simp[World.cell?,h]
def row_of(A:RH m H w){az:Row}(j:m r=Z l)(ho:H.obj r=.row az):
 ∃f fr,w.heap[l.c]?=Z (.cells f az.ty fr)/\az.n=l.n/\f.size=l.tot/\l.lo<=az.n/\l.base+(az.n-l.lo)<=l.tot/\
  (az.mR=aA->fr.2<=l.base+(az.fz-l.lo))/\
  ∀i,l.lo<=i->i<az.n->∃v,f[l.base+(i-l.lo)]?=Z v/\VR m (az.cells.get top i) v:=by
 have⟨o,hb,hk⟩:=A.ok r l j;rw[ho]at hk;cases o with
 |cells f ty fr=>
  have⟨I,hn,W,h3,h4,h5,h6⟩:=hk;exact⟨f,fr,by rw[hb,I.1],hn,W,h3,h4,h5,h6⟩
 |_=>exact hk.elim
def base_of(A:RH m H w){az:Row}(j:m r=Z l)(ho:H.obj r=.row az):l.base=0:=by
 have⟨o,hb,hk⟩:=A.ok r l j;rw[ho]at hk;cases o with
 |cells f ty fr=>exact hk.1.2
 |_=>exact hk.elim
def afO(A:RH m H w){off:Nat}(h:H.cell r off=Z v)(j:m r=Z l)(hl:l.lo<=off):
 ∃v',w.cell? ⟨l.c,l.base+(off-l.lo),T⟩=Z v'/\VR m v v':=by
 have⟨az,hR,h⟩:=aM h;have⟨hg,h⟩:=gN h;cases h;have⟨f,fr,hb,_,_,_,_,_,h6⟩:=row_of A j<|vN hR;have⟨v',hv,hr⟩:=h6 off hl<|aF hg;exact⟨v',by rw[cell_of hb,hv],hr⟩
def Hq(M:RH m H w){off:Nat}(h:H.read r off k=Z vs)(K:m r=Z l)(hl:l.lo<=off):
 ∃vs',mX m vs vs'/\J vs'=k/\∀j v,vs'[j]?=Z v->w.cell? ((⟨l.c,l.base+(off-l.lo),T⟩:Addr).add j)=Z v:=by
 cases k with
 |zero=>cases h;exact⟨[],.nil,O,gD⟩
 |succ k=>
  replace h:(aN (xN<|H.obj r) λw=>gd (aD (a_ off<|k+1) w.n)<|Z<|Tr.FW top w.cells off<|k+1)=Z vs:=h;have⟨az,hR,h⟩:=aM h;have⟨E,h⟩:=gN h;cases h;have E:off+(k+1)<=az.n:=aF E;have⟨f,fr,hb,_,_,_,_,_,h6⟩:=row_of M K<|vN hR
  have B:∀n i,i+n=k+1->∃vs',mX m (Tr.FW top az.cells (off+i) n) vs'/\J vs'=n/\∀j v,vs'[j]?=Z v->w.cell? ((⟨l.c,l.base+(off-l.lo),T⟩:Addr).add<|i+j)=Z v:=by
   intro n
   induction n with
   |zero=>intro i _;exact⟨[],.nil,O,gD⟩
   |succ n L=>
    intro i hi;have⟨vs',I,W,h3⟩:=L (i+1) N;have⟨v',hv,hr⟩:=h6 (off+i) N N;refine⟨v'::vs',.cons _ _ _ _ hr I,by simp[W],?_⟩;intro j v A;cases j with
    |zero=>
     simp at A;subst A;rw[Fe l off _ hl,cell_of hb];exact hv
    |succ j=>
     have:=h3 j v<|nZ A;rw[show i+(j+1)=i+1+j from N];exact this
  have⟨vs',I,W,h3⟩:=B (k+1) 0 N;exact⟨vs',I,W,λj v A=>by have:=h3 j v A;rwa [bB]at this⟩
def Ac(A:RH m H w){off:Nat}(h:H.read r off k=Z vs)(j:m r=Z l)(hl:l.lo<=off):
 ∃vs',mX m vs vs'/\J vs'=k/\(loadCells ⟨l.c,l.base+(off-l.lo),T⟩ k).run P w=.ok ⟨vs'⟩ w:=by
 have⟨vs',I,W,h3⟩:=Hq A h j hl;refine⟨vs',I,W,?_⟩;rw[<-W];exact run_loadCells_list w _ vs' h3
def Xy(E:RH m H w)(h:xV P t x H=Z (v,Q))(M:VR m x x'):
 Q=H/\∃v',VR m v v'/\(Instr.loadAt t x').run P w=.ok v' w:=by
 have⟨a,ha,h⟩:=aM h;have⟨l0,hl0,h⟩:=aM h;rw[qX ha]at M;obtain⟨l,B,A,L,rfl⟩:=M.vG;have⟨d,i,hd,hi,K⟩:=U5 hl0;rcases K with⟨j,rfl⟩|⟨j,rfl⟩
 .replace h:(aN (H.read a.block a.off i.size) λvs=>Z (dP ⟨vs⟩,H))=Z (v,Q):=h;have⟨vs,hvs,h⟩:=aM h;cases h;have⟨vs',I,W,h3⟩:=Ac (P:=P) E hvs B A;exact⟨O,.agg ⟨vs'⟩,.agg _ _ I,by simp[Instr.loadAt,kK,loadVar,xG hd,j,kD hi,h3]⟩
 .replace h:(aN (H.cell a.block a.off) λv=>Z (v,H))=Z (v,Q):=h;have⟨ai,hu,h⟩:=aM h;cases h;have⟨v',I,W⟩:=afO E hu B A;exact⟨O,v',W,by simp[Instr.loadAt,kK,loadVar,xG hd,j,I]⟩
def Qw(w:cZ)(c k:Nat)(v:D)(f:Array D)(ty:aH)(fr:Nat×Nat)(h:w.heap[c]?=Z (.cells f ty fr)):
 (w.setCell ⟨c,k,T⟩ v).heap[c]?=Z (.cells (f.setIfInBounds k v) ty fr):=by
 simp only[World.setCell];rw[jD]
 first|done|simp[h]
def Oh(w:cZ)(c k:Nat)(v:D)(c':Nat)(h:c'≠c):(w.setCell ⟨c,k,T⟩ v).heap[c']?=w.heap[c']?:=by
 simp only[World.setCell];rw[jD,if_neg<|qJ h]
theorem AJ(c o:Nat)(ty:aH)(fr:Nat×Nat):∀(vs:C D)(i:Nat)(f:Array D)(w:cZ),w.heap[c]?=Z (.cells f ty fr)->
 (∀v∈vs,v.oneCell'=F)->o+i+J vs<=f.size->(∀j,fr.1<=j->j<fr.2->j<f.size->j<o+i)->
 ∃w' cs',(storeCells ⟨c,o,T⟩ vs i).run P w=.ok () w'/\w'.heap[c]?=Z (.cells cs' ty fr)/\cs'.size=f.size/\
  (∀j,cs'[j]?=if o+i<=j/\j<o+i+J vs then vs[j-(o+i)]? else f[j]?)/\(∀c',c'≠c->w'.heap[c']?=w.heap[c']?)/\w'.heap.size=w.heap.size/\
  w'.os=w.os/\w'.tape=w.tape/\w'.output=w.output:=by
 intro vs
 induction vs with
 |nil=>
  intro i f w L _ _ _;refine⟨w,f,by simp[storeCells],L,rfl,?_,λ_ _=>rfl,rfl,rfl,rfl,rfl⟩;intro j;rw[if_neg (by simp only[qH];omega)]
 |cons v vs ih=>
  intro i f w L B S O;have A:o+i<f.size:=by simp at S;omega
  have K:(⟨c,o,T⟩:Addr).add i=⟨c,o+i,T⟩:=by
   unfold Addr.add;split
   .next Y=>rw[Y,d_]
   .rfl
  have E:w.cell? ⟨c,o+i,T⟩=Z f[o+i]:=by rw[cell_of L,bJ A]
  have U:w.frozen? ⟨c,o+i,T⟩=aA:=by
   simp only[World.frozen?,L];rw[<-dn,bE];rintro⟨a,b⟩;have:=O (o+i) (nZ a) (nZ b) A;omega
  have V:(store ((⟨c,o,T⟩:Addr).add i) v).run P w=.ok () (w.setCell ⟨c,o+i,T⟩ v):=by
   rw[K,run_store P w _ v .plain<|B v gD,E];simp[U]
  have⟨w',cs',I,W,h3,h4,h5,h6,h7,h8,h9⟩:=ih (i+1) (f.setIfInBounds (o+i) v) (w.setCell ⟨c,o+i,T⟩ v) (Qw w c (o+i) v f ty fr L)
   (λX hu=>B X<|by simp[hu]) (by simp at S|-;omega) (λj a b d=>by have:=O j a b<|nZ d;omega)
  refine⟨w',cs',?_,W,by rw[h3];simp,?_,?_,by rw[h6];simp,h7,h8,h9⟩
  .simp only[storeCells,dB,V,bT];exact I
  .intro j;rw[h4 j]
   by_cases e:j=o+i
   .subst e;rw[if_neg N,if_pos gD];simp[A]
   .by_cases g:o+(i+1)<=j/\j<o+(i+1)+J vs
    .rw[if_pos g,if_pos K4,show j-(o+i)=(j-(o+(i+1)))+1 from N];rfl
    .rw[if_neg g,if_neg K4];simp[lC (qJ e)]
  .intro c' M;rw[h5 c' M,Oh _ _ _ _ _ M]
theorem Ve(h:VR m v v')(hs:fZ v=F):v'.oneCell'=F:=by
 have⟨_,I,W⟩:=h.fZ hs;cases v'<;>first|rfl|exact absurd O (I _)|exact absurd O<|W _
def Ec:∀{vs vs':C D},mX m vs vs'->vs.all fZ=F->∀v∈vs',v.oneCell'=F:=by
 intro vs
 induction vs with
 |nil=>intro vs' h _;cases h;simp
 |cons v vs I=>
  intro vs' h j;cases h with
  |cons _ v' _ K E B=>
   simp at j;intro A hu;rcases bW.1 hu with rfl|hu
   .exact Ve E j.1
   .exact I B (nZ j.2) A hu
def Ee(E:RH m H w){off:Nat}(h:H.write r off vs=Z Q)(B:mX m vs vs')(L:m r=Z l)(hl:l.lo<=off):
 ∃w',(storeCells ⟨l.c,l.base+(off-l.lo),T⟩ vs').run P w=.ok () w'/\RH m Q w'/\Ex m m H Q w w':=by
 cases B with
 |nil=>cases h;exact⟨w,by simp[storeCells],E,Ex.refl _ _ _⟩
 |cons v v' x x' M X=>
  have B:mX m (v::x) (v'::x'):=.cons _ _ _ _ M X
  replace h:(aN (xN<|H.obj r) λw=>
   gd (!w.mR&&aD (a_ off<|len<|v::x) w.n&&aD w.fz off&&all' fZ (v::x))
   (Z<|H.put r<|.row ⟨w.ty,Tr.uY top (v::x) off w.cells,w.n,aA,w.fz⟩))=Z Q:=h
  have⟨az,hR,h⟩:=aM h;have⟨hg,h⟩:=gN h;cases h;have I:=vN hR;simp only[bE,ig,all_eq]at hg;have⟨⟨⟨g0,S⟩,U⟩,g3⟩:=hg;have S:off+(v::x).length<=az.n:=aF S;have U:=aF U;have⟨f,fr,hb,hnn,W,h3,h4,h5,h6⟩:=row_of E L I;have A:(v'::x').length=(v::x).length:=(mX.length B).symm
  have⟨w',cs',e1,e2,e3,e4,e5,e6,e7,e8,e9⟩:=AJ (P:=P) l.c (l.base+(off-l.lo)) az.ty fr (v'::x') 0 f w hb (Ec B g3) (by rw[A];omega)
   (λj a b d=>by have:=h5<|nZ g0;omega)
  have V:=RH.update E r l (.row ⟨az.ty,Tr.uY top (v::x) off az.cells,az.n,aA,az.fz⟩) (.cells cs' az.ty fr) L (by rw[I];simp) ?_ e2 e6 e5 e7 e8 e9
  .exact⟨w',e1,V.1,V.2⟩
  .refine⟨⟨O,base_of E L I⟩,hnn,by rw[e3];exact W,h3,h4,λ_=>h5<|nZ g0,?_⟩;intro i a b;rw[Tr.nY]
   by_cases hin:off<=i/\i<off+(v::x).length
   .have K:(v::x)[i-off]?=Z ((v::x).getD (i-off) top):=by
     rw[aU,av N];rfl
    have⟨ai,hu1,hu2⟩:=B.get (i-off) K;refine⟨ai,?_,by rw[if_pos hin];exact hu2⟩;rw[e4,if_pos (by rw[A];omega),show l.base+(i-l.lo)-(l.base+(off-l.lo)+0)=i-off from N];exact hu1
   .have⟨ai,hu1,hu2⟩:=h6 i a b;refine⟨ai,?_,by rw[if_neg hin];exact hu2⟩;rw[e4,if_neg (by rw[A];omega)];exact hu1
def abn(V:RH m H w)(h:Aw P t x y H=Z (v,Q))(M:VR m x x')(U:VR m y y'):
 v=undef/\∃w',(Instr.storeAt t x' y').run P w=.ok () w'/\RH m Q w'/\Ex m m H Q w w':=by
 have⟨a,ha,h⟩:=aM h;have⟨s,hs,h⟩:=aM h;have⟨hg,h⟩:=gN h;have⟨H1,j,h⟩:=aM h;cases h;obtain⟨i,hi,rfl⟩:=si hs;rw[qX ha]at M;obtain⟨l,N,E,S,rfl⟩:=M.vG;have A:=bA hg;rw[ig]at A
 have I:y≠top:=by
  intro e;subst e
  replace j:(aN (xN<|H.obj a.block) λw=>
   gd (!w.mR&&aD (a_ a.off<|len [top]) w.n&&aD w.fz a.off&&all' fZ [top])
   (Z<|H.put a.block<|.row ⟨w.ty,Tr.uY top [top] a.off w.cells,w.n,aA,w.fz⟩))=Z Q:=j
  have h:=j;have⟨az,hR,h⟩:=aM h;have⟨hg,h⟩:=gN h;simp[all_eq,fZ,top]at hg
 have L:=C8 U I;have⟨w',e1,e2,e3⟩:=Ee (P:=P) V j L N E;refine⟨O,w',?_,e2,e3⟩;have K:y'.cells.size=i.size:=by rw[Eb];show(bY y').length=_;rw[<-L.length,A]
 have B:y'.cells.toList=bY y':=(E9 y').symm;simp only[Instr.storeAt,kK,storeVar,dB,dS,bT,kD hi,K,ne_eq,vv,lQ,B];exact e1
def yC(P:aX)(m:Mp)(H:R)(w:cZ)(s:Sem D)(v:D)(Q:R):Prop:=
 ∃m' j w',s.run P w=.ok j w'/\VR m' v j/\RH m' Q w'/\Ex m m' H Q w w'
def Zu(A:mX m vs vs')(c:Nat):wQ m ⟨c,0,0,J vs',J vs⟩ (rowOf ty vs) (.cells ⟨vs'⟩ ty):=by
 refine⟨⟨O,O⟩,ig vs,O,bD _,?_,?_,?_⟩
 .show 0+(len vs-0)<=J vs';rw[ig,A.length];omega
 .intro _;exact bD _
 .intro i a b;have b:i<len vs:=b;rw[ig]at b;rw[show(Tr.uY top vs 0 .nil).get top i=vs.getD i top from by rw[Tr.nY,if_pos N];rfl];have j:vs[i]?=Z (vs.getD i top):=by rw[aU,av b];rfl
  have⟨ai,I,W⟩:=A.get i j;exact⟨ai,nZ I,W⟩
def Ff(A:RH m H w)(j:mX m vs vs'):
 ∃l m',m' H.bU=Z l/\l.c=w.heap.size/\l.lo=0/\l.base=0/\l.tot=J vs'/\l.n=J vs/\(newRow ty ⟨vs'⟩).run P w=.ok ⟨w.heap.size,0,T⟩ (w.alloc<|.cells ⟨vs'⟩ ty)/\
  RH m' (H.new<|rowOf ty vs) (w.alloc<|.cells ⟨vs'⟩ ty)/\Ex m m' H (H.new<|rowOf ty vs) w (w.alloc<|.cells ⟨vs'⟩ ty):=by
 have:=A.alloc (rowOf ty vs) (.cells ⟨vs'⟩ ty) 0 0 (J vs') (J vs)<|Zu j _;refine⟨⟨w.heap.size,0,0,J vs',J vs⟩,_,?_,O,O,O,O,O,?_,this.1,this.2⟩
 .simp[Mp.add]
 .simp[newRow]
def Xz(h:m' n=Z l)(I:l.lo=0)(W:l.base=0):VR m' (OW n) (.pointer<|Z ⟨l.c,0,T⟩):=by
 have:=VR.ptr (m:=m') n 0 l h N;rw[I,W]at this;exact this
def abo(A:RH m H w)(h:D_ P e H=Z (v,Q)):yC P m H w (Instr.alloc e F<|.tuple #[]) v Q:=by
 have⟨z,hz,h⟩:=aM h;cases h;have⟨i,z0,hi,hz0,hze,hlen,hs⟩:=Ak hz;have⟨l,m',a1,a2,a3,a4,a5,a9,a6,a7,a8⟩:=Ff (P:=P) (ty:=e) A<|mX.o7 (m:=m) hs;refine⟨m',_,_,?_,Xz a1 a3 a4,a7,a8⟩;have j:z0.cells=⟨z⟩:=by rw[hze]
 simp only[Instr.alloc,newVar,dB,AA hi hz0,bT,j,a6,dS,a2]
def aiS(j:RH m H w)(h:LQ e x H=Z (v,Q))(M:VR m x x'):yC P m H w (Instr.box e x') v Q:=by
 have⟨hg,h⟩:=gN h;cases h;have⟨l,m',a1,a2,a3,a4,a5,a9,a6,a7,a8⟩:=Ff (P:=P) (ty:=e) j<|C8 M<|O6 hg;refine⟨m',_,_,?_,Xz a1 a3 a4,a7,a8⟩;simp only[Instr.box,newVar,dB,bT,Eb,a6,dS,a2]
end mem
section mem
variable{P:aX}
def Sn(z:C D):∀n,(pV z n).length=n*J z:=by
 intro n
 induction n with
 |zero=>show([]:C D).length=_;simp
 |succ n j=>show(app z<|pV z n).length=_;rw[uq,aS,j,jR];omega
theorem abp(z:C D):∀n i,i<n*J z->(pV z n)[i]?=z[i %(J z)]?:=by
 intro n
 induction n with
 |zero=>intro i h;omega
 |succ n j=>
  intro i h;rw[show pV z (n+1)=z++pV z n from uq _ _]
  by_cases hi:i<J z
  .rw[bX hi,wu hi]
  .rw[eD N,j _ (by rw[jR]at h;omega),<-Nat.mod_eq_sub_mod N]
theorem L_(z:C D)(n:Nat):((Array.range<|n*J z).map λi=>(⟨z⟩:Array D)[i %(⟨z⟩:Array D).size]!)=⟨pV z n⟩:=by
 rw[<-jN];apply iV;intro i;simp only[Array.toList_map,Array.toList_range]
 by_cases hi:i<n*J z
 .rw[abp z n i hi,bK,uh hi]
  have A:0<J z:=by
   rcases gK (J z)with h0|h0
   .rw[h0]at hi;omega
   .exact h0
  have j:i %(J z)<J z:=o9 _ A;simp[av j,j]
 .rw[dw (nZ hi),dw (by rw[Sn];omega)]
def Jh{z:C D}(h:z.all o7=F):∀n,(pV z n).all o7=F:=by
 intro n
 induction n with
 |zero=>rfl
 |succ n j=>rw[show pV z (n+1)=z++pV z n from uq _ _,List.all_append,h,j];rfl
def abq(h:m' n=Z l)(I:l.lo=0)(W:l.base=0)(A:gW c=F)(j:k<=c):VR m' (.slice (Z ⟨n,0,T⟩) k c) (.slice (Z ⟨l.c,0,T⟩) k c):=by
 have:=VR.slice (m:=m') n 0 k c l h N A j;rw[I,W]at this;exact this
def Vf(V:RH m H w)(h:vC P t n ps H=Z (v,Q))(U:PRs m ps ps'):
 yC P m H w (Instr.buildSlice t n ⟨ps'⟩) v Q:=by
 have⟨q,hq,h⟩:=aM h;have⟨z,hz,h⟩:=aM h;have⟨E,h⟩:=gN h;have⟨f,hcs,h⟩:=aM h;cases h;have⟨hu,⟨inf,wP,hsz⟩,hq1⟩:=C5 hq;have⟨i,z0,hi,hz0,hze,hlen,hs⟩:=Ak hz;rw[wP]at hi;cases hi;have E:=aF E;have E:n*q.2<=16777216:=E;have B:mX m (pV z n) (pV z n):=mX.o7<|Jh hs n;have⟨cs',hcs',hr⟩:=Qv _ ps ps' _ _ f hcs U B;have⟨l,m',a1,a2,a3,a4,a5,a9,a6,a7,a8⟩:=Ff (P:=P) (ty:=q.1) V hr
 have O:gW n=F:=by
  apply aG;have:n*1<=n*q.2:=gM n hq1;omega
 refine⟨m',_,_,?_,abq a1 a3 a4 O N,a7,a8⟩;have L:z0.cells=⟨z⟩:=by rw[hze]
 have A:Instr.fill (λk=>Z (k*q.2,q.2)) ⟨pV z n⟩ ps'=Z ⟨cs'⟩:=hcs';have K:¬(n*q.2>2^24):=N;have j:=L_ z n;rw[hlen,hsz]at j
 by_cases h0:n*q.2=0
 .have S:n=0:=by
   rcases gK n with e|e
   .exact e
   .have:=tF e (show 0<q.2 from hq1);omega
  subst S;have I:Instr.fill (λk=>Z (k*q.2,q.2)) #[] ps'=Z ⟨cs'⟩:=A;have M:∀cs:Nat->D,Array.map cs (Array.range 0)=#[]:=λcs=>gD;simp[Instr.buildSlice,fV hu,kD wP,hsz,I,a6,a2,M]
 .simp only[Instr.buildSlice,dB,fV hu,bT,kD wP,hsz,K,lQ,h0,AA wP hz0,L,dS,j,A,a6,a2]
def Qx(rh:RH m H w)(h:sK P t x y H=Z (v,Q))(M:VR m x x')(Y:VR m y y'):
 yC P m H w (Instr.makeSlice t x' y') v Q:=by
 have⟨q,hq,h⟩:=aM h;have⟨i0,j,h⟩:=aM h;have⟨z,hz,h⟩:=aM h;have⟨n,L,h⟩:=aM h;have⟨c,hc,h⟩:=aM h;have⟨hg,h⟩:=gN h;cases h;have⟨hu,⟨inf,wP,hsz⟩,hq1⟩:=C5 hq;have⟨i,z0,hi,hz0,hze,hlen,hs⟩:=Ak hz;rw[wP]at hi;cases hi;have j:P.info? q.1=Z i0:=j;rw[wP]at j;cases j;obtain⟨k1,rfl⟩:=E7 L;obtain⟨k2,rfl⟩:=E7 hc;have:=M.of_int;subst this;have:=Y.of_int;subst this;simp only[bE]at hg;have g1:=aF hg.1.1;have V:=aF hg.1.2;have g3:=aF hg.2;have⟨l,m',a1,a2,a3,a4,a5,a9,a6,a7,a8⟩:=Ff (P:=P) (ty:=q.1) rh<|mX.o7 (m:=m)<|Jh hs c;have X:gW c=F:=aG N;refine⟨m',_,_,?_,abq a1 a3 a4 X N,a7,a8⟩;have S:z0.cells=⟨z⟩:=by rw[hze]
 have A:=L_ z c;rw[hlen]at A;have w1:IntKind.i64.wrap (n:Int)=n:=IntWalk.i64_in _ N;have w2:IntKind.i64.wrap (c:Int)=c:=IntWalk.i64_in _ N;have W:i0.bytes*c<=1048576*16777216:=jh g3 V
 have K:¬((2:Int)^48<(i0.bytes:Int)*(c:Int)):=by
  have:(i0.bytes:Int)*(c:Int)=((i0.bytes*c:Nat):Int):=gD;rw[this];omega
 by_cases h0:c*q.2=0
 .have L:c=0:=by
   rcases gK c with e|e
   .exact e
   .have:=tF e (show 0<q.2 from hq1);omega
  subst L;have O:n=0:=N;subst O;have E:(newRow q.1 #[]).run P w=.ok ⟨w.heap.size,0,T⟩ (w.alloc<|.cells #[] q.1):=a6;have w0:IntKind.i64.wrap 0=0:=IntWalk.i64_in _ N;have U:∀cs:Nat->D,Array.map cs (Array.range 0)=#[]:=λcs=>gD;simp[Instr.makeSlice,fV hu,asInt,asIntOf,Ea wP,w0,kD wP,hsz,a2];rw[U,E];rfl
 .have I:Array.map (λx=>z[x %(J z)]?.getD default) (Array.range<|c*q.2)=⟨pV z c⟩:=by
   rw[<-A,hsz];congr 1;funext x;simp
  have B:¬((((c:Int)<0\/281474976710656<(i0.bytes:Int)*(c:Int))\/(n:Int)<0)\/c<n):=by
   rintro(((h|h)|h)|h)
   .omega
   .exact K h
   .omega
   .omega
  simp[Instr.makeSlice,fV hu,asInt,asIntOf,Ea wP,w1,w2,kD wP,hsz,h0,AA wP hz0,S,a2];rw[if_neg B,I,a6];rfl
end mem
section mem
variable{P:aX}
def D3.length{l:C (D×D)}(h:D3 m l l'):J l=J l':=by
 induction h with
 |nil=>rfl
 |cons _ _ _ _ _ _ _ _ j=>simp[j]
def Qy(hd:P.underlying t=Z d)(I:1<=q9 d)(em:Bool)(n:Nat)(w:cZ):(iF em (n+1) t v).run P w=.ok () w:=by
 rcases Jf I with⟨j,rfl⟩|rfl|rfl<;>simp[iF,fV hd]
def O8:∀(fs:C Field)(k:Nat)(ks:C Nat)(X':C D),o8 P fs k=Z ks->k+J fs<=J X'->
 ∀cs∈fs,cs.name≠ "_" /\∀(em:Bool) n w,∃a,(part cs.type ⟨X'⟩ cs.offset).run P w=.ok a w/\(iF em (n+1) cs.type a).run P w=.ok () w:=by
 intro fs
 induction fs with
 |nil=>intro k ks X' _ _ cs E;cases E
 |cons cs fs O=>
  intro k ks X' K B g hg;obtain⟨d,r,A,N,M,L,I,rfl⟩:=xg K;rcases bW.1 hg with rfl|hg
  .refine⟨L,λem n w=>?_⟩;have j:g.offset<J X':=by rw[M];simp at B;omega
   exact⟨_,vS A (xZ I)<|av j,Qy A I em n w⟩
  .exact O (k+1) r X' N (by simp at B;omega) g hg
theorem Ef:∀(ks:C Nat)(xs ys:C D)(b:Bool),om ks xs ys=Z b->b=F->J xs=J ks:=by
 intro ks
 induction ks with
 |nil=>
  intro xs ys b h B;cases xs with
  |nil=>rfl
  |cons _ _=>cases h
 |cons k ks K=>
  intro xs ys b h B;obtain⟨x,L,y,M,c,rfl,rfl,E,j⟩:=vR h;rcases j with⟨_,I⟩|⟨_,A⟩
  .simp[K L M b I B]
  .rw[B]at A;cases A
def Eg:∀(fs:C Field)(k:Nat)(ks:C Nat),o8 P fs k=Z ks->J ks=J fs:=by
 intro fs
 induction fs with
 |nil=>intro k ks h;cases h;rfl
 |cons cs fs A=>
  intro k ks h;obtain⟨d,r,B,j,K,E,I,rfl⟩:=xg h;simp[A _ _ j]
def checkN{cs:Field}{r:C Nat}(hu0:P.underlying t=Z (.struct ⟨[cs,g]⟩))(ho:cs.offset=0)(hn:cs.name≠ "_")(hd:P.underlying cs.type=Z d)(I:1<=q9 d)(ho':g.offset=1)(hn':g.name≠ "_")(hu:P.underlying g.type=Z (.struct ⟨fs⟩))(hk:o8 P fs 0=Z r)(hi:P.info? g.type=Z i)(hsz:i.size=J r)(hlen:J X'=J r+1)(em:Bool)(n:Nat)(w:cZ):
 (iF em (n+3) t<|.agg ⟨X'⟩).run P w=.ok () w:=by
 have go:∀(fs:C Field)(n:Nat)(t:aH)(X':C D),P.underlying t=Z (.struct ⟨fs⟩)->(∀cs∈fs,cs.name≠ "_" /\∃a,(part cs.type ⟨X'⟩ cs.offset).run P w=.ok a w/\(iF em n cs.type a).run P w=.ok () w)->
  (iF em (n+1) t<|.agg ⟨X'⟩).run P w=.ok () w:=by
  intro fs n t X' hu each;rw[iF];simp only[dB,fV hu,bT];rw[<-Array.forIn_toList];simp only[];clear hu;generalize fs=L at each
  induction L with
  |nil=>simp
  |cons cs L ih=>
   obtain⟨hn,a,p1,p2⟩:=each cs<|gD;simp only[xm,dB,hn,ne_eq,nT,lG,bT,p1,p2,dS];exact ih λy hy=>each y (by simp[hy])
 refine go _ (n+2) t X' hu0 λq hq=>?_
 match X',hlen with
 |x::X,hlen=>
 simp only[bW,List.not_mem_nil,jo]at hq;rcases hq with rfl|rfl
 .exact⟨hn,x,by rw[ho];exact vS hd (xZ I) O,Qy hd I em (n+1) w⟩
 .refine⟨hn',_,Jd hu hi,go fs (n+1) _ _ hu λcs hf=>?_⟩;have:=O8 fs 0 r (X.take i.size) hk (by have:=Eg fs 0 r hk;simp at hlen|-;omega) cs hf;obtain⟨e1,e2⟩:=this;obtain⟨a,e3,e4⟩:=e2 em n w;exact⟨e1,a,by rw[ho'];exact e3,e4⟩
def JR(h:mU P t x x=Z F)(M:VR m x x')(em:Bool)(n:Nat)(w:cZ):(iF em (n+3) t x').run P w=.ok () w:=by
 obtain⟨q,hq,h⟩:=aM h;rcases Je hq with⟨d,X,rfl,I⟩|⟨fs,ks,S,hs,V,rfl⟩|⟨c,e,d,i,S,he,hi,N,I,rfl⟩|⟨ks,hN,rfl⟩
 .exact Qy X I em (n+2) w
 .replace h:(aN (vP x) λa=>aN (vP x) λb=>om ks a b)=Z F:=h;obtain⟨xs,K,h⟩:=aM h;obtain⟨ys,W,h⟩:=aM h;rw[r_ K]at M;obtain⟨E,rfl,U⟩:=M.vF
  have B:0+J fs<=J E:=by
   rw[<-U.length,Ef ks xs ys F h O,Eg fs 0 ks V];omega
  have A:=O8 fs 0 ks E V B;rw[iF];simp only[dB,fV S,bT];rw[<-Array.forIn_toList];simp only[];clear V hq B S;generalize fs=L at A
  induction L with
  |nil=>simp
  |cons cs L ih=>
   obtain⟨hn,hp⟩:=A cs<|gD;obtain⟨a,p1,p2⟩:=hp em (n+1) w;simp only[xm,dB,hn,ne_eq,nT,lG,bT,p1,p2,dS];exact ih λy hy=>A y (by simp[hy])
 .replace h:(aN (vP x) λa=>aN (vP x) λb=>om (aY c<|q9 d) a b)=Z F:=h;obtain⟨xs,K,h⟩:=aM h;obtain⟨ys,W,h⟩:=aM h;rw[r_ K]at M;obtain⟨E,rfl,U⟩:=M.vF
  have B:J E=c:=by
   rw[<-U.length,Ef _ xs ys F h O];simp
  rw[iF];simp only[dB,fV S,bT];simp only[Std.Legacy.Range.forIn_eq_forIn_range',Std.Legacy.Range.size,mD,Nat.add_one_sub_one,Nat.div_one]
  have A:∀j∈List.range' 0 c,∃a,(part e ⟨E⟩<|j*i.size).run P w=.ok a w/\(iF em (n+2) e a).run P w=.ok () w:=by
   intro j Y;have Y:j<J E:=by rw[B];simpa using Y
   refine⟨E[j],?_,Qy he I em (n+1) w⟩;rw[N,dN];exact vS he (xZ I)<|av Y
  clear B hq h S;generalize List.range' 0 c=L at A
  induction L with
  |nil=>simp
  |cons j L ih=>
   obtain⟨a,p1,p2⟩:=A j<|gD;simp only[xm,dB,kD hi,bT,p1,p2,dS];exact ih λy hy=>A y (by simp[hy])
 .obtain⟨cs,g,d,fs,r,i,S,hs,ho,hn,X,I,ac,ab,ad,ag,V,hi,N,rfl⟩:=Ci hN;replace h:(aN (vP x) λa=>aN (vP x) λb=>om (q9 d::r) a b)=Z F:=h;obtain⟨xs,K,h⟩:=aM h;obtain⟨ys,W,h⟩:=aM h;rw[r_ K]at M;obtain⟨E,rfl,U⟩:=M.vF;exact checkN S ho hn X I ac ab ad V hi N (by rw[<-U.length,Ef _ xs ys F h O];rfl) em n w
def Ma(hd:P.underlying t=Z d)(h:xU (q9 d) x y=Z b)(M:VR m x x')(A:VR m y y'):Instr.sameNow d x' y'=Z b:=by
 obtain⟨rfl,rfl,_⟩:=Al (t:=t) hd h M A;cases d<;>simp only[q9]at h
 case int k=>
  replace h:(aN (vw x') λa=>aN (vw y') λb=>gd (aB (sQ a.1)<|sQ b.1)<|Z<|FI a.2 b.2)=Z b:=h;have⟨p,hp,h⟩:=aM h;have⟨q,hq,h⟩:=aM h;have⟨j,h⟩:=gN h;cases h;rw[rZ hp,rZ hq];have j:=Ch j;simp[Instr.sameNow,j,LY]
 case bool=>
  replace h:(aN (kV x') λa=>aN (kV y') λb=>Z<|CK a b)=Z b:=h;have⟨p,hp,h⟩:=aM h;have⟨q,hq,h⟩:=aM h;cases h;rw[qN hp,qN hq];simp[Instr.sameNow,LZ]
 case string=>
  replace h:(aN (vO x') λa=>aN (vO y') λb=>Z<|tZ a b)=Z b:=h;have⟨p,hp,h⟩:=aM h;have⟨q,hq,h⟩:=aM h;cases h;rw[qY hp,qY hq];simp[Instr.sameNow,AF,beq_toListBytes]
 all_goals cases h
def Vg(m:Mp):aC (Nat×D)->aC (Nat×D)->Prop
 |none,T=>True
 |some p,Z q=>p.1=q.1/\VR m p.2 q.2
 |_,_=>False
def F5{k:D}{e:D×D}{i:Nat}{r:aC (Nat×D)}(h:t_ P kt k (e::es) i=Z r):
 (mU P kt k e.1=Z F/\r=Z (i,e.2))\/(mU P kt k e.1=Z aA/\t_ P kt k es (i+1)=Z r):=by
 replace h:(aN (mU P kt k e.1) λb=>cr b (Z<|Z (i,e.2))<|t_ P kt k es<|i+1)=Z r:=h;have⟨b,hb,h⟩:=aM h;cases b
 .exact .inr ⟨hb,h⟩
 .cases h;exact .inl ⟨hb,O⟩
def Vh{k:D}(hd:P.underlying kt=Z d)(L:tEq P kt=Z (.inl<|q9 d))(hk:VR m k k'):∀{es:C (D×D)}{BB:C MapEntry},D3 m es BB->∀(i:Nat)(r:aC<|Nat×D),
 t_ P kt k es i=Z r->∃r',lI d k' BB i=Z r'/\Vg m r r':=by
 intro es BB E
 induction E with
 |nil=>intro i r h;cases h;exact⟨T,O,trivial⟩
 |cons K v e l l' A M S N=>
  intro i r h
  have j:∀b,mU P kt k K=Z b->xU (q9 d) k K=Z b:=by
   intro b B;unfold mU at B;rw[L]at B;exact B
  rcases F5 h with⟨I,rfl⟩|⟨I,W⟩
  .have:=Ma hd (j _ I) hk A;exact⟨Z (i,e.val),by simp[lI,this],rfl,M⟩
  .have:=Ma hd (j _ I) hk A;have⟨r',h3,h4⟩:=N (i+1) r W;exact⟨r',by simp[lI,this,h3],h4⟩
def Oi{k:D}(hk:VR m k k')(w:cZ):∀{es:C (D×D)}{BB:C MapEntry},D3 m es BB->∀(i:Nat)(r:aC<|Nat×D),
 t_ P kt k es i=Z r->∃r',(Instr.findAsking kt k' BB i).run P w=.ok r' w/\Vg m r r':=by
 intro es BB A
 induction A with
 |nil=>intro i r h;cases h;exact⟨T,O,trivial⟩
 |cons L v e l l' j B K E=>
  intro i r h;rcases F5 h with⟨I,rfl⟩|⟨I,W⟩
  .have:=L5 I hk j w;exact⟨Z (i,e.val),by simp[Instr.findAsking,this],rfl,B⟩
  .have:=L5 I hk j w;have⟨r',h3,h4⟩:=E (i+1) r W;exact⟨r',by simp[Instr.findAsking,this,h3],h4⟩
def Mc{k:D}{r:aC (Nat×D)}(hk:VR m k k')(A:D3 m es BB)(h:t_ P kt k es 0=Z r)(E:mU P kt k k=Z F)(w:cZ):
 ∃r',(Instr.findKey kt k' BB).run P w=.ok r' w/\Vg m r r':=by
 have h0:=E;replace E:(aN (tEq P kt) λq=>@Sum.rec Nat (C Nat) (λ_=>aC Bool) (λn=>xU n k k) (λl=>aN (vP k) λa=>aN (vP k) λb=>om l a b) q)=Z F:=E;obtain⟨q,M,Y⟩:=aM E;have ask:=Oi hk w A 0 r h
 have N:∃d,P.underlying kt=Z d:=by
  rcases Je M with⟨d,B,_⟩|⟨fs,ks,j,_⟩|⟨c,e,d,i,j,_⟩|⟨ks,hN,_⟩
  .exact⟨_,B⟩
  .exact⟨_,j⟩
  .exact⟨_,j⟩
  .obtain⟨_,_,_,_,_,_,j,_⟩:=Ci hN;exact⟨_,j⟩
 obtain⟨d,B⟩:=N;cases hfn:lI d k' BB 0 with
 |none=>
  obtain⟨r',I,W⟩:=ask;exact⟨r',by simp[Instr.findKey,fV B,hfn,I],W⟩
 |some r0=>
  refine⟨r0,by simp[Instr.findKey,fV B,hfn],?_⟩;rcases Je M with⟨V,K,rfl,I⟩|⟨fs,ks,j,_,_,rfl⟩|⟨c,e,V,i,j,_,_,_,_,rfl⟩|⟨ks,hN,rfl⟩
  .rw[B]at K;cases K;obtain⟨r',O,X⟩:=Vh B M hk A 0 r h;rw[hfn]at O;cases O;exact X
  .rw[B]at j;cases j;cases A with
   |nil=>cases h;simp[lI]at hfn;subst hfn;trivial
   |cons U v e l l' L E S=>simp[lI,Instr.sameNow]at hfn
  .rw[B]at j;cases j;cases A with
   |nil=>cases h;simp[lI]at hfn;subst hfn;trivial
   |cons U v e l l' L E S=>simp[lI,Instr.sameNow]at hfn
  .obtain⟨_,_,_,_,_,_,j,_⟩:=Ci hN;rw[B]at j;cases j;cases A with
   |nil=>cases h;simp[lI]at hfn;subst hfn;trivial
   |cons U v e l l' L E S=>simp[lI,Instr.sameNow]at hfn
end mem
section mem
variable{P:aX}
def Sq{k:D}{ai:Unit}(h:Bw P t k=Z ai):mU P t k k=Z F:=by
 have⟨b,hb,h⟩:=aM h;have⟨hg,h⟩:=gN h;rw[hb,hg]
def AL{es:Array MapEntry}{cl:Nat}(h:w.heap[c]?=Z (.map es cl)):(getObj c).run P w=.ok (.map es cl) w:=by
 simp[getObj,Sem.run,h]
def Oj(w:cZ)(c:Nat)(o:Obj):cZ:={w with heap:=w.heap.setIfInBounds c o}
def Me{es A:Array MapEntry}{cl j:Nat}(h:w.heap[c]?=Z (.map es cl)):(setObj c<|.map A j).run P w=.ok () (Oj w c<|.map A j):=by
 simp[setObj,Sem.run,h,Oj]
def XA{j:Obj}(h:w.heap[c]?=Z j):(Oj w c o).heap[c]?=Z o:=by
 have:=qD h;simp[Oj,this]
def XB(h:c'≠c):(Oj w c o).heap[c']?=w.heap[c']?:=by
 simp only[Oj];exact lC<|qJ h
def O9:(Oj w c o).heap.size=w.heap.size:=by simp[Oj]
def Vi(E:RH m H w){r r':aC D}(h:vD P t r H=Z (v,Q))(A:OR m r r'):
 yC P m H w (Instr.makeMap t r') v Q:=by
 have⟨q,hq,h⟩:=aM h;have⟨j,h⟩:=gN h;cases h;have B:=K_ hq;have:=E.alloc (.map []) (.map #[] 0) 0 0 0 0 (show D3 m [] []from .nil);refine⟨_,.map<|Z w.heap.size,w.alloc<|.map #[] 0,?_,?_,this.1,this.2⟩
 .cases A with
  |nn=>simp[Instr.makeMap]
  |ss x x' M=>
   replace j:(!(fQ<|vw x))=F:=j;cases hv:vw x with
   |none=>rw[hv]at j;cases j
   |some p=>
    rw[rZ hv]at M;have:=M.of_int;subst this;simp[Instr.makeMap,fV B,asInt,asIntOf]
 .exact VR.map H.bU ⟨w.heap.size,0,0,0,0⟩ (by simp[Mp.add])
def Vj(A:RH m H w)(j:m r=Z l)(ho:H.obj r=.map es):∃BB cl,w.heap[l.c]?=Z (.map BB cl)/\D3 m es BB.toList:=by
 have⟨o,hb,hk⟩:=A.ok r l j;rw[ho]at hk;cases o with
 |map BB cl=>exact⟨BB,cl,hb,hk⟩
 |_=>exact hk.elim
def Zv(rh:RH m H w){k:D}(h:uT P t x k ok H=Z (v,Q))(M:VR m x x')(hk:VR m k k'):
 Q=H/\∃v',VR m v v'/\(Instr.lookup t x' k' ok).run P w=.ok v' w:=by
 obtain⟨q,hq,h⟩:=aM h;obtain⟨z,hz,h⟩:=aM h;obtain⟨es,W,h⟩:=aM h;obtain⟨ai,hu,h⟩:=aM h;obtain⟨cs,hf,h⟩:=aM h;have I:=K_ hq;have L:=Sq hu;obtain⟨⟨i,hi,S⟩,UN⟩:=Sj hz;have U:VR m z z:=Zj UN
 have pre:∃BB:Array MapEntry,D3 m es BB.toList/\((x'=.map T/\BB=#[])\/∃c cl,x'=.map (Z c)/\w.heap[c]?=Z (.map BB cl)):=by
  have h:=W;obtain⟨mr,X,h⟩:=aM h;rw[E8 X]at M;cases mr with
  |none=>
   have:=M.xY O;subst this;cases h;exact⟨#[],.nil,.inl ⟨O,O⟩⟩
  |some r=>
   obtain⟨l,hm,rfl⟩:=M.of_map;replace h:LG (H.obj r)=Z es:=h;obtain⟨BB,cl,K,V⟩:=Vj rh hm<|K5 h;exact⟨BB,V,.inr ⟨_,_,O,K⟩⟩
 obtain⟨BB,V,B⟩:=pre;obtain⟨r',j,E⟩:=Mc hk V hf L w;have A:=JR L hk BB.isEmpty 9997 w;have A:(iF BB.isEmpty 10000 q.1 k').run P w=.ok () w:=A;cases cs with
 |none=>
  cases r' with
  |some _=>exact E.elim
  |none=>
   replace h:Z (okd ok z aA H)=Z (v,Q):=h;have N:v=(if ok then .tuple #[z,.bool aA]else z)/\Q=H:=by cases ok<;>(cases h;exact⟨O,O⟩)
   refine⟨N.2,(if ok then .tuple #[z,.bool aA]else z),?_,?_⟩
   .rw[N.1];cases ok
    .exact U
    .exact .tuple _ _<|.cons _ _ _ _ U<|.cons _ _ _ _ (.sc _ O) .nil
   .rcases B with⟨rfl,rfl⟩|⟨c,cl,rfl,K⟩
    .have A:(iF F 10000 q.1 k').run P w=.ok () w:=A;have j:(Instr.findKey q.1 k' []).run P w=.ok T w:=j;simp[Instr.lookup,fV I,A,j,AA hi S]
    .simp[Instr.lookup,fV I,AL K,A,j,AA hi S]
 |some p=>
  cases r' with
  |none=>exact E.elim
  |some p'=>
   replace h:Z (okd ok p.2 F H)=Z (v,Q):=h;have N:v=(if ok then .tuple #[p.2,.bool F]else p.2)/\Q=H:=by cases ok<;>(cases h;exact⟨O,O⟩)
   obtain⟨j',Y⟩:=p';refine⟨N.2,(if ok then .tuple #[Y,.bool F]else Y),?_,?_⟩
   .rw[N.1];cases ok
    .exact E.2
    .exact .tuple _ _<|.cons _ _ _ _ E.2<|.cons _ _ _ _ (.sc _ O) .nil
   .rcases B with⟨rfl,rfl⟩|⟨c,cl,rfl,K⟩
    .have A:(iF F 10000 q.1 k').run P w=.ok () w:=A;have j:(Instr.findKey q.1 k' []).run P w=.ok (Z (j',Y)) w:=j;simp[Instr.lookup,fV I,A,j]
    .simp[Instr.lookup,fV I,AL K,A,j]
def afP(I:RH m H w)(h:LW P ats args H=Z (v,Q))(A:mX m args args'):
 Q=H/\VR m v v/\(lU ⟨ats⟩ t ⟨args'⟩).run P w=.ok v w:=by
 have⟨t0,ht,h⟩:=aM h;have⟨x,M,h⟩:=aM h;have⟨q,hq,h⟩:=aM h;have⟨es,hes,h⟩:=aM h;cases h;have j:=K_ hq;rw[qw]at ht M;have⟨x',hx',Dz⟩:=A.get 0 M;refine⟨O,.sc _ O,?_⟩;have h:=hes;have⟨mr,hmr,h⟩:=aM h;rw[E8 hmr]at Dz;cases mr with
 |none=>
  have:=Dz.xY O;subst this;cases h;simp[lU,ht,hx',fV j,goInt,len]
 |some r=>
  obtain⟨l,E,rfl⟩:=Dz.of_map;replace h:LG (H.obj r)=Z es:=h;have⟨BB,cl,hb,he⟩:=Vj I E<|K5 h;have B:=he.length;simp[lU,ht,hx',fV j,goInt,AL hb,ig,B]
def JS(h:xU k x y=Z F)(M:VR m x x')(j:VR m y y'):x'=y'/\∀n,Instr.sameBits n y' x'=F:=by
 unfold xU at h;rw[BR]at h;split at h
 .have⟨a,ha,h⟩:=aM h;have⟨b,hb,h⟩:=aM h;have⟨hg,h⟩:=gN h;rw[rZ ha]at M;rw[rZ hb]at j;have:=M.of_int;subst this;have:=j.of_int;subst this;have E:=Ch hg;simp only[vo,LY,ni]at h;exact⟨by rw[E,h],λn=>by cases n<;>simp[Instr.sameBits,E,h]⟩
 .rw[BR]at h;split at h
  .have⟨a,ha,h⟩:=aM h;have⟨b,hb,h⟩:=aM h;rw[qN ha]at M;rw[qN hb]at j;have:=M.of_bool;subst this;have:=j.of_bool;subst this;simp only[vo,LZ,ni]at h;exact⟨by rw[h],λn=>by cases n<;>simp[Instr.sameBits,h]⟩
  .rw[BR]at h;split at h
   .have⟨a,ha,h⟩:=aM h;have⟨b,hb,h⟩:=aM h;rw[qY ha]at M;rw[qY hb]at j;have:=M.xX;subst this;have:=j.xX;subst this;simp only[vo,AF]at h;have I:a.toList=b.toList:=nZ h;rw[jb,jb]at I;have A:a=b:=vM<|jN.1 I;subst A;have B:(a==a)=F:=by rw[beq_toListBytes];simp
    exact⟨O,λn=>by cases n<;>simp[Instr.sameBits,B]⟩
   .cases h
def Qz:∀(ks:C Nat)(xs ys xs' j:C D),om ks xs ys=Z F->mX m xs xs'->mX m ys j->
 xs'=j/\∀n,(j.zip xs').all (λ(x,y)=>Instr.sameBits n x y)=F:=by
 intro ks
 induction ks with
 |nil=>
  intro xs ys xs' j h M K;cases xs with
  |nil=>cases ys with
   |nil=>cases M;cases K;exact⟨O,λn=>rfl⟩
   |cons _ _=>cases h
  |cons _ _=>cases h
 |cons k ks X=>
  intro xs ys xs' j h M K;obtain⟨x,Y,y,yr,c,rfl,rfl,E,A⟩:=vR h;rcases A with⟨rfl,W⟩|⟨_,B⟩
  .cases M with
   |cons _ x' _ N I U=>
    cases K with
    |cons _ y' _ S L V=>
     have⟨e1,e2⟩:=JS E I L;have⟨f1,f2⟩:=X Y yr N S W U V;exact⟨by rw[e1,f1],λn=>by simp only[List.zip_cons_cons,yI,e2 n,f2 n,Bool.and_self]⟩
  .cases B
def Vk(h:mU P t x y=Z F)(M:VR m x x')(j:VR m y y'):x'=y'/\∀n,Instr.sameBits (n+1) y' x'=F:=by
 have⟨q,hq,h⟩:=aM h;cases q with
 |inl k=>
  replace h:xU k x y=Z F:=h;have⟨a,b⟩:=JS h M j;exact⟨a,λn=>b _⟩
 |inr l=>
  replace h:(aN (vP x) λa=>aN (vP y) λb=>om l a b)=Z F:=h;have⟨xs,hxs,h⟩:=aM h;have⟨ys,hys,h⟩:=aM h;rw[r_ hxs]at M;rw[r_ hys]at j;obtain⟨A,rfl,E⟩:=M.vF;obtain⟨B,rfl,I⟩:=j.vF;have⟨a,b⟩:=Qz l xs ys A B h E I;refine⟨by rw[a],λn=>?_⟩;have:=b n;simp only[Instr.sameBits,bE];exact⟨by rw[a];simp,this⟩
def D3.set{l:C MapEntry}(h:D3 m es l):∀(j:Nat)(k v:D)(e':MapEntry),VR m k e'.key->VR m v e'.val->D3 m (es.set j (k,v)) (l.set j e'):=by
 induction h with
 |nil=>intro j k v e' _ _;exact .nil
 |cons N S B O A E L K M=>
  intro j k v e' I W;cases j with
  |zero=>exact .cons k v e' O A I W K
  |succ j=>exact .cons N S B _ _ E L<|M j k v e' I W
def D3.push{l:C MapEntry}(h:D3 m es l)(k v:D)(e':MapEntry)(I:VR m k e'.key)(W:VR m v e'.val):D3 m (es++[(k,v)]) (l++[e']):=by
 induction h with
 |nil=>exact .cons k v e' [] [] I W .nil
 |cons K M j O L A B N E=>exact .cons K M j _ _ A B E
def D3.get{l:C MapEntry}(h:D3 m es l):∀(j:Nat)(p:D×D),es[j]?=Z p->∃e,l[j]?=Z e/\VR m p.1 e.key/\VR m p.2 e.val:=by
 induction h with
 |nil=>intro j p A;simp at A
 |cons N U B S L E I M K=>
  intro j p A;cases j with
  |zero=>simp at A;subst A;exact⟨B,O,E,I⟩
  |succ j=>simpa using K j p (nZ A)
def Zw{k:D}:∀(es:C<|D×D)(i j:Nat)(v:D),t_ P kt k es i=Z (Z (j,v))->i<=j/\∃k0,es[j-i]?=Z (k0,v)/\mU P kt k k0=Z F:=by
 intro es
 induction es with
 |nil=>intro i j v h;cases h
 |cons e es A=>
  intro i j v h;rcases F5 h with⟨I,W⟩|⟨I,W⟩
  .simp at W;obtain⟨rfl,rfl⟩:=W;exact⟨ax _,e.1,gD,I⟩
  .have⟨a,k0,b,c⟩:=A (i+1) j v W;refine⟨N,k0,?_,c⟩;rw[show j-i=(j-(i+1))+1 from N];simpa using b
theorem Ol(BB:Array MapEntry)(j:Nat)(e:MapEntry)(A:BB[j]?=Z e)(cs:MapEntry->MapEntry):(BB.modify j cs).toList=BB.toList.set j (cs e):=by
 apply iV;intro i;have B:=(eZ.1 A).1;rw[fD,jD,dU,<-fD]
 by_cases h:j=i
 .subst h;rw[if_pos O,if_pos O,fD,A];simp[B]
 .rw[if_neg h,if_neg h]
def Zx(rh:RH m H w){k:D}(h:w_ P t x k y H=Z (v,Q))(M:VR m x x')(hk:VR m k k')(hy:VR m y y'):
 v=undef/\∃w',(Instr.mapUpdate t x' k' y').run P w=.ok () w'/\RH m Q w'/\Ex m m H Q w w':=by
 obtain⟨q,hq,h⟩:=aM h;obtain⟨mr,ag,h⟩:=aM h;obtain⟨r,hr,h⟩:=aM h;obtain⟨es,N,h⟩:=aM h;obtain⟨ai,hu,h⟩:=aM h;obtain⟨cs,hf,h⟩:=aM h;subst hr;have U:=K_ hq;have S:=Sq hu;rw[E8 ag]at M;obtain⟨l,hm,rfl⟩:=M.of_map;obtain⟨BB,cl,K,V⟩:=Vj rh hm<|K5 N;obtain⟨r',A,I⟩:=Mc hk V hf S w;have L:(iF aA 10000 q.1 k').run P w=.ok () w:=JR S hk aA 9997 w;have O':H.obj r≠.dead:=by rw[K5 N];simp
 cases cs with
 |none=>
  cases r' with
  |some _=>exact I.elim
  |none=>
   replace h:Z (undef,H.put r<|.map<|app es [(k,y)])=Z (v,Q):=h;cases h
   have B:D3 m (app es [(k,y)]) (BB.push {key:=k',val:=y',born:=cl}).toList:=by
    rw[uq,Array.toList_push];exact V.push k y _ hk hy
   have:=RH.update rh r l (.map<|app es [(k,y)]) (.map (BB.push {key:=k',val:=y',born:=cl})<|cl+1) hm O' B (XA K) O9 (λc X=>XB X) O O O;refine⟨O,Oj w l.c<|.map (BB.push {key:=k',val:=y',born:=cl})<|cl+1,?_,this.1,this.2⟩;simp[Instr.mapUpdate,fV U,AL K,L,A,Me K]
 |some p=>
  cases r' with
  |none=>exact I.elim
  |some p'=>
   obtain⟨j,v0⟩:=p;obtain⟨j',ao⟩:=p';obtain⟨rfl,an⟩:=I;replace h:Z (undef,H.put r<|.map<|setAt (k,y) j es)=Z (v,Q):=h;cases h;obtain⟨_,k0,ac,ad⟩:=Zw es 0 j v0 hf;obtain⟨e,E,Y,am⟩:=V.get j _ (by simpa using ac);rw[fD]at E;obtain⟨ab,W⟩:=Vk ad hk Y
   have al:(Instr.keyThatStays e.key k').run P w=.ok k' w:=by
    have:=W 9999;simp[Instr.keyThatStays,this]
   have B:D3 m (setAt (k,y) j es) (BB.modify j λe=>{e with key:=k',val:=y'}).toList:=by
    rw[Cj,Ol BB j e E];exact V.set j k y _ hk hy
   have:=RH.update rh r l (.map<|setAt (k,y) j es) (.map (BB.modify j λe=>{e with key:=k',val:=y'}) cl) hm O' B (XA K) O9 (λc X=>XB X) O O O;refine⟨O,Oj w l.c<|.map (BB.modify j λe=>{e with key:=k',val:=y'}) cl,?_,this.1,this.2⟩;simp[Instr.mapUpdate,fV U,AL K,L,A,E,al,Me K]
end mem
section mem
variable{P:aX}
def yP(s:C UInt8):qL s=s.map λb=>.int .u8 b.toNat:=by rw[qL,G6];rfl
def JU(s:C UInt8):(qL s).all o7=F:=by
 rw[yP];simp[o7]
def Eh(S:RH m H w){e:Nat×C D}(h:appended H sz x=Z e)(M:VR m x x'):
 (∀w,(mg x').run P w=.ok e.1 w)/\∃vs',mX m e.2 vs'/\J vs'=e.1*sz/\(eH sz e.1 x').run P w=.ok ⟨vs'⟩ w:=by
 unfold appended at h;cases hs:vO x with
 |some s=>
  rw[hs]at h;replace h:(gd (aB sz 1)<|Z (len s.data.toList,qL s.data.toList))=Z e:=h;have⟨j,h⟩:=gN h;cases h;have j:=bA j;subst j;rw[qY hs]at M;have:=M.xX;subst this;have L:s.size=J s.data.toList:=rfl;refine⟨λw=>by simp[mg,ig],qL s.data.toList,mX.o7<|JU _,by rw[yP];simp[ig],?_⟩
  have:(s.extract 0 s.size).data=s.data:=by
   rw[rD];show s.data.extract 0 s.data.size=s.data;simp
  simp only[eH,ig];rw[show J s.data.toList=s.size from O,this,yP];show Result.ok _ w=Result.ok _ w;congr 1;rw[<-jN];simp
 |none=>
  rw[hs]at h
  replace h:(aN (Ky x) λp=>@aP Addr (λ_=>aC<|Nat×C D) (gd (aB p.2.1 0)<|Z (0,[]))
   (λa=>aN (H.read a.block a.off<|bO p.2.1 sz) λl=>Z (p.2.1,l)) p.1)=Z e:=h
  have⟨p,hp,h⟩:=aM h;rw[yO hp]at M;have⟨pa,n,cp⟩:=p;cases pa with
  |none=>
   obtain⟨I,W,rfl⟩:=M.wO;replace h:(gd (aB n 0)<|Z (0,([]:C D)))=Z e:=h;have⟨j,h⟩:=gN h;cases h;exact⟨λw=>by simp[mg],[],.nil,gD,by simp[eH]⟩
  |some a=>
   replace h:(aN (H.read a.block a.off<|bO n sz) λl=>Z (n,l))=Z e:=h;have⟨l,hl,h⟩:=aM h;cases h;simp only at M;rcases M.of_slice with⟨X,cc,E,A,K,rfl,_⟩|⟨U,B,V,rfl⟩
   .have⟨vs',I,W,h3⟩:=Ac (P:=P) S hl E A;exact⟨λw=>by simp[mg],vs',I,W,by simp only[eH];exact h3⟩
   .subst B;have N:bO 0 sz=0:=jm sz;rw[N]at hl;cases hl;refine⟨λw=>by simp[mg],[],.nil,gD,?_⟩;simp[eH,loadCells,loadCellsFrom]
def Zy(n:Nat):∀(r c:Nat),Builtin.growBy n r c<=max c (n+(n+768)/4):=by
 intro r
 induction r with
 |zero=>intro c;simp[Builtin.growBy];omega
 |succ r j=>
  intro c;unfold Builtin.growBy;split
  .omega
  .next h=>
   have:=j<|c+(c+768)/4;omega
def Vl{j:Nat}(h:cap<j):Builtin.nextslicecap j cap<=2*j+768:=by
 unfold Builtin.nextslicecap;split
 .omega
 .split
  .omega
  .have:=Zy j 4 cap;omega
def Om(zs:C D)(n:Nat):(Builtin.zeroCells ⟨zs⟩ n).toList.length=n*J zs:=by simp[Builtin.zeroCells]
theorem abr{z0:D}{base:aC Addr}(j:args'[0]?=Z (.slice base ln cc))(A:args'[1]?=Z x')(ht:ats[0]?=Z t)(ag:ats[1]?=Z t2)(hu:P.underlying t=Z (.slice e))(al:P.underlying t2=Z d2)(K:∀kk,d2≠.int kk)(hi:P.info? e=Z i)(hz:i.zero=Z z0)(am:z0.cells=⟨zs⟩)(an:J zs=i.size)(hb:i.bytes<=1048576)(ao:1<=i.bytes)(ap:ln<=16777216)(hk:k<=16777216)(B:cc<ln+k)(L:∀w,(mg x').run P w=.ok k w)(S:(eH i.size ln<|.slice base ln cc).run P w.drew=.ok ⟨old⟩ w.drew)(M:(eH i.size k x').run P w.drew=.ok ⟨vs'⟩ w.drew):
 ∃cap rest,ln+k<=cap/\J rest=(cap-(ln+k))*i.size/\
  (mh ⟨ats⟩ ty ⟨args'⟩).run P w=.ok (.slice (Z ⟨w.drew.heap.size,0,T⟩) (ln+k) cap) (w.drew.alloc<|.cells ⟨old++vs'++rest⟩ e):=by
 refine⟨(Question.appendCap (ln+k) cc e).cut<|w.tape w.drawn<|.appendCap (ln+k) cc e,(Builtin.zeroCells ⟨zs⟩<|(Question.appendCap (ln+k) cc e).cut (w.tape w.drawn<|.appendCap (ln+k) cc e)-(ln+k)).toList,?_,?_,?_⟩
 .simp[Question.cut]
 .rw[Om,an]
 .have aq:(match d2 with|.int _=>F|_=>aA)=aA:=by cases d2<;>first|rfl|exact absurd O (K _)
  have ac:Builtin.nextslicecap (ln+k) cc*i.bytes<=2^48:=by
   have I:=Vl B;have W:2*(ln+k)+768<=67109632:=N;exact aQ (jh (aQ I W) hb) gD
  have ad:¬(ln+k<=cc):=N;have ab:i.bytes≠0:=N;have V:¬(Builtin.nextslicecap (ln+k) cc*i.bytes>2^48):=N;have hf:(Question.appendCap (ln+k) cc e).forced=aA:=rfl;have Y:(⟨ats⟩:Array aH)[0]?=Z t:=nZ ht;have U:(⟨ats⟩:Array aH)[1]?=Z t2:=nZ ag;have X:∀n,(askRoom n).run P w.drew=.ok () w.drew:=λn=>run_askRoom P w.drew n;have j:(⟨args'⟩:Array D)[0]?=Z (.slice base ln cc):=nZ j;have A:(⟨args'⟩:Array D)[1]?=Z x':=nZ A;cases d2
  case int kk=>exact absurd O<|K kk
  all_goals
   simp only[mh,Y,U,j,A,dB,fV hu,fV al,bT,kD hi,dS,dG,lQ,L,ad,
    Ea hi,ab,or_self,and_false,V,run_choose,hf,World.drew_eq,X,S,M,AA hi hz,am,xQ,lG]
  all_goals
   generalize Builtin.zeroCells ⟨zs⟩ _=zc;have E:((⟨old⟩:Array D)++(⟨vs'⟩:Array D)++zc)=⟨old++vs'++zc.toList⟩:=by rw[<-jN];simp
   rw[E];rfl
def zz(j:args'[0]?=Z (.slice (Z a) ln cc))(A:args'[1]?=Z x')(ht:ats[0]?=Z t)(S:ats[1]?=Z t2)(V:P.underlying t=Z (.slice e))(U:P.underlying t2=Z d2)(M:∀kk,d2≠.int kk)(hi:P.info? e=Z i)(B:ln+k<=cc)(E:∀w,(mg x').run P w=.ok k w)(I:(eH i.size k x').run P w=.ok ⟨vs'⟩ w)(N:(storeCells (a.add<|ln*i.size) vs').run P w=.ok () w'):
 (mh ⟨ats⟩ ty ⟨args'⟩).run P w=.ok (.slice (Z a) (ln+k) cc) w':=by
 have L:(⟨ats⟩:Array aH)[0]?=Z t:=nZ ht;have K:(⟨ats⟩:Array aH)[1]?=Z t2:=nZ S;have j:(⟨args'⟩:Array D)[0]?=Z (.slice (Z a) ln cc):=nZ j;have A:(⟨args'⟩:Array D)[1]?=Z x':=nZ A;cases d2
 case int kk=>exact absurd O<|M kk
 all_goals
  simp only[mh,L,K,j,A,dB,fV V,fV U,bT,kD hi,dS,dG,lQ,E,B,
   I,xQ,lG,N]
def Sr(j:args'[0]?=Z (.slice T 0 cc))(A:args'[1]?=Z x')(ht:ats[0]?=Z t)(M:ats[1]?=Z t2)(S:P.underlying t=Z (.slice e))(N:P.underlying t2=Z d2)(L:∀kk,d2≠.int kk)(hi:P.info? e=Z i)(B:∀w,(mg x').run P w=.ok 0 w)(E:(eH i.size 0 x').run P w=.ok #[] w):
 (mh ⟨ats⟩ ty ⟨args'⟩).run P w=.ok (.slice T 0 cc) w:=by
 have K:(⟨ats⟩:Array aH)[0]?=Z t:=nZ ht;have I:(⟨ats⟩:Array aH)[1]?=Z t2:=nZ M;have j:(⟨args'⟩:Array D)[0]?=Z (.slice T 0 cc):=nZ j;have A:(⟨args'⟩:Array D)[1]?=Z x':=nZ A;cases d2
 case int kk=>exact absurd O<|L kk
 all_goals
  simp only[mh,K,I,j,A,dB,fV S,fV N,bT,kD hi,dS,dG,lQ,B,d_,bD,
   E,xQ,lG]
def afQ(h:aky P t t2=Z q):P.underlying t=Z (.slice q.1)/\1<=q.2/\∃i A zs d2,P.info? q.1=Z i/\i.size=q.2/\i.zero=Z A/\A.cells=⟨zs⟩/\J zs=i.size/\
 zs.all o7=F/\P.underlying t2=Z d2/\(∀kk,d2≠.int kk)/\i.bytes<=1048576/\1<=i.bytes:=by
 have⟨q',hq,h⟩:=aM h;have⟨i0,j,h⟩:=aM h;have⟨zs,hzs,h⟩:=aM h;have⟨d2,hd2,h⟩:=aM h;have⟨hg,h⟩:=gN h;cases h;have⟨hu,⟨i,hi,hsz⟩,I⟩:=C5 hq;have j:P.info? q.1=Z i0:=j;rw[hi]at j;cases j;have⟨i2,A,hi2,hz0,hze,hlen,hs⟩:=Ak hzs;rw[hi]at hi2;cases hi2;simp only[bE]at hg;refine⟨hu,I,_,A,zs,d2,hi,hsz,hz0,by rw[hze],hlen,hs,hd2,?_,aF hg.1.2,aF hg.2⟩;intro kk e;subst e;have:=hg.1.1;simp[Od,fQ]at this
end mem
section mem
variable{P:aX}
def RH.afR(S:RH m H w)(r:Nat)(l l':Loc)(o':nE)(L9:Obj)(U:m r=Z l)(hd:H.obj r≠.dead)(hc:l'.c=l.c)(ab:wQ m l' o' L9)(hb:w'.heap[l.c]?=Z L9)(hs:w'.heap.size=w.heap.size)(ho:∀c,c≠l.c->w'.heap[c]?=w.heap[c]?)(I:w'.os=w.os)(W:w'.tape=w.tape)(h3:w'.output=w.output):
 RH (m.add H.bU l') ((H.put r .dead).new o') w'/\Ex m (m.add H.bU l') H ((H.put r .dead).new o') w w':=by
 have hn:=S.O7;have V:=Mp.abm (l:=l') hn;have M:=Lb H r .dead;have al:r≠H.bU:=λe=>by have:=S.dom r l U;omega
 have DR:∀k,((H.put r .dead).new o').obj k=if k=H.bU then o' else if k=r then .dead else H.obj k:=by
  intro k;rw[Ab];show(if k=H.bU then o' else(H.put r .dead).obj k)=_;rw[x_]
 have ac:l.c<w.heap.size:=by have⟨_,g,_⟩:=S.ok r l U;exact qD g
 refine⟨⟨?_,?_,?_⟩,?_⟩
 .intro k lk B;show k<H.bU+1;unfold Mp.add at B;split at B
  .omega
  .have:=S.dom k lk B;omega
 .intro k lk B;rw[DR];unfold Mp.add at B;split at B
  .next e=>
   cases B;rw[if_pos e];exact⟨L9,by rw[hc];exact hb,ab.mono V⟩
  .next e=>
   rw[if_neg e];have⟨ob1,g1,X⟩:=S.ok k lk B
   by_cases E:lk.c=l.c
   .refine⟨L9,by rw[E];exact hb,?_⟩
    by_cases hkr:k=r
    .rw[if_pos hkr];trivial
    .rw[if_neg hkr]
     by_cases hdd:H.obj k=.dead
     .rw[hdd];trivial
     .exact absurd (S.sep k r lk l B U hdd hd E) hkr
   .refine⟨ob1,by rw[ho _ E];exact g1,?_⟩;split
    .trivial
    .exact X.mono V
 .intro Y k2 l1 l2 K L j A E;rw[DR]at j A;unfold Mp.add at K L
  by_cases e1:Y=H.bU<;>by_cases e2:k2=H.bU
  .rw[e1,e2]
  .rw[if_pos e1]at K;cases K;rw[if_neg e2]at L A
   by_cases hkr:k2=r
   .rw[if_pos hkr]at A;exact absurd O A
   .rw[if_neg hkr]at A;exact absurd (S.sep k2 r l2 l L U A hd<|by rw[<-E,hc]) hkr
  .rw[if_pos e2]at L;cases L;rw[if_neg e1]at K j
   by_cases hkr:Y=r
   .rw[if_pos hkr]at j;exact absurd O j
   .rw[if_neg hkr]at j;exact absurd (S.sep Y r l1 l K U j hd<|by rw[E,hc]) hkr
  .rw[if_neg e1]at K j;rw[if_neg e2]at L A
   by_cases akI:Y=r
   .rw[if_pos akI]at j;exact absurd O j
   .by_cases akJ:k2=r
    .rw[if_pos akJ]at A;exact absurd O A
    .rw[if_neg akI]at j;rw[if_neg akJ]at A;exact S.sep Y k2 l1 l2 K L j A E
 .refine⟨V,?_,?_,I,W,h3,by rw[hs];exact ax _,?_,jv _,M.2,?_,?_⟩
  .intro k lk B h0;unfold Mp.add at B;split at B
   .next e=>omega
   .rw[h0]at B;cases B
  .intro k lk B h0 ag;unfold Mp.add at B;split at B
   .next e=>cases B;exact⟨r,l,U,hc.symm,M.1⟩
   .rw[h0]at B;cases B
  .intro c ad B;apply ho;intro e;have:=B r l U e.symm;have h9:((H.put r .dead).new o').low<=r:=M.1;omega
  .intro k g1 X;have h9:((H.put r .dead).new o').low<=r:=M.1;rw[DR,if_neg N,if_neg N]
  .intro k g1 X;rw[DR,if_neg N,if_neg (by intro e;subst e;rw[U]at X;cases X)]
def RH.kill(M:RH m H w)(r:Nat)(W:m r≠T):RH m (H.put r .dead) w/\Ex m m H (H.put r .dead) w w:=by
 have B:=Lb H r .dead;refine⟨⟨M.dom,?_,?_⟩,{Ex.refl m H w with bU:=ax _,low:=B.2,xO:=?_,hid:=?_,keep:=λ_ _ _=>rfl,fresh:=λr l h S=>absurd (h.symm.trans S) gD}⟩
 .intro k lk V;have⟨o,I,E⟩:=M.ok k lk V;refine⟨o,I,?_⟩;rw[x_];split
  .trivial
  .exact E
 .intro X Y l1 l2 K L j A U;rw[x_]at j A;split at j
  .exact absurd O j
  .split at A
   .exact absurd O A
   .exact M.sep X Y l1 l2 K L j A U
 .intro k I E;rw[x_,if_neg N]
 .intro k I E;rw[x_,if_neg (by intro e;subst e;exact W E)]
def QA(rh:RH m H w)(L:mX m old old')(ab:mX m vs vs')(X:J old=ln*sz)(Y:J vs=k*sz)(B:ln+k<=cap)(E:J rest=(cap-(ln+k))*sz)(hs:1<=sz):
 ∃m',VR m' (.slice (Z ⟨H.bU,0,T⟩) (ln+k)<|gQ sz) (.slice (Z ⟨w.heap.size,0,T⟩) (ln+k) cap)/\
  RH m' (H.new<|rowOf e<|old++vs) (w.alloc<|.cells ⟨old'++vs'++rest⟩ e)/\Ex m m' H (H.new<|rowOf e<|old++vs) w (w.alloc<|.cells ⟨old'++vs'++rest⟩ e):=by
 have M:mX m (old++vs) (old'++vs'):=L.append ab;have j:(old++vs).length=(ln+k)*sz:=by rw[aS,X,Y,iC]
 have A:(old'++vs').length=(ln+k)*sz:=by rw[<-M.length,j]
 have S:(old'++vs'++rest).length=cap*sz:=by
  rw[aS,A,E,<-iC];congr 1;omega
 have K:(ln+k)*sz<=cap*sz:=fA _ B
 have V:wQ m ⟨w.heap.size,0,0,cap*sz,(ln+k)*sz⟩ (rowOf e<|old++vs) (.cells ⟨old'++vs'++rest⟩ e):=by
  refine⟨⟨O,O⟩,by show len (old++vs)=_;rw[ig,j],S,bD _,?_,?_,?_⟩
  .show 0+(len (old++vs)-0)<=cap*sz;rw[ig,j];omega
  .intro _;exact bD _
  .intro i a b;have b:i<len (old++vs):=b;rw[ig]at b;rw[show(Tr.uY top (old++vs) 0 .nil).get top i=(old++vs).getD i top from by rw[Tr.nY,if_pos N];rfl];have U:(old++vs)[i]?=Z ((old++vs).getD i top):=by rw[aU,av b];rfl
   have⟨ai,I,W⟩:=M.get i U;refine⟨ai,?_,W⟩;simp only[wK,bB,mD];rw[bX (by rw[A,<-j];exact b)];exact I
 have:=rh.alloc (rowOf e<|old++vs) (.cells ⟨old'++vs'++rest⟩ e) 0 0 (cap*sz) ((ln+k)*sz) V;refine⟨_,?_,this.1,this.2⟩;have hr:=VR.uP (m:=m.add H.bU ⟨w.heap.size,0,0,cap*sz,(ln+k)*sz⟩) H.bU 0 (ln+k) sz cap ⟨w.heap.size,0,0,cap*sz,(ln+k)*sz⟩ (by simp[Mp.add]) (ax _) hs gD B (by simp;exact K);exact hr
end mem
section mem
variable{P:aX}
def Mf(c b off lo k:Nat)(hl:lo<=off):(⟨c,b+(off-lo),T⟩:Addr).add k=⟨c,b+(off+k-lo),T⟩:=by
 unfold Addr.add;split
 .next j=>rw[j,d_]
 .simp only[Addr.mk.injEq,true_and,zq];omega
theorem O_(rh:RH m H w)(r:Nat)(hm:m r≠T){ak:Tr D}{off fz:Nat}(E:mX m old old')(M:mX m vs vs')(V:J old=ln*sz)(X:J vs=k*sz)(hC:∀j,j<ln*sz->old[j]?=Z (ak.get top<|off+j))(B:ln+k<=cap)(K:J rest=(cap-(ln+k))*sz)(hs:1<=sz):
 ∃m',VR m' (.slice (Z ⟨H.bU,off,T⟩) (ln+k)<|gQ sz) (.slice (Z ⟨w.heap.size,0,T⟩) (ln+k) cap)/\
  RH m' ((H.put r .dead).new<|.row ⟨e,Tr.uY top vs (off+ln*sz) ak,off+(ln+k)*sz,aA,fz⟩) (w.alloc<|.cells ⟨old'++vs'++rest⟩ e)/\
  Ex m m' H ((H.put r .dead).new<|.row ⟨e,Tr.uY top vs (off+ln*sz) ak,off+(ln+k)*sz,aA,fz⟩) w (w.alloc<|.cells ⟨old'++vs'++rest⟩ e):=by
 have⟨rk,ek⟩:=rh.kill r hm;have A:J old'=ln*sz:=by rw[<-E.length,V]
 have On:J vs'=k*sz:=by rw[<-M.length,X]
 have ac:(ln+k)*sz=ln*sz+k*sz:=iC ..
 have L:(old'++vs'++rest).length=cap*sz:=by
  rw[aS,aS,A,On,K,<-iC,<-iC];congr 1;omega
 have ab:(ln+k)*sz<=cap*sz:=fA _ B
 have U:wQ m ⟨w.heap.size,off,0,cap*sz,off+(ln+k)*sz⟩ (.row ⟨e,Tr.uY top vs (off+ln*sz) ak,off+(ln+k)*sz,aA,fz⟩) (.cells ⟨old'++vs'++rest⟩ e):=by
  refine⟨⟨O,O⟩,O,L,pZ _ _,?_,?_,?_⟩
  .show 0+(off+(ln+k)*sz-off)<=cap*sz;omega
  .intro _;exact bD _
  .intro i a b;have b:i<off+(ln+k)*sz:=b;have a:off<=i:=a;simp only[wK,bB];rw[Tr.nY,cz]
   by_cases hin:off+ln*sz<=i/\i<off+ln*sz+J vs
   .rw[if_pos hin]
    have S:vs[i-(off+ln*sz)]?=Z (vs.getD (i-(off+ln*sz)) top):=by
     rw[aU,av N];rfl
    have⟨ai,I,W⟩:=M.get _ S;refine⟨ai,?_,W⟩;rw[eD N,A,bX N,show i-off-ln*sz=i-(off+ln*sz)from N];exact I
   .rw[if_neg hin];have hi:i-off<ln*sz:=N;have Y:=hC (i-off) hi;rw[show off+(i-off)=i from N]at Y;have⟨ai,I,W⟩:=E.get _ Y;refine⟨ai,?_,W⟩;rw[bX N];exact I
 have:=rk.alloc _ (.cells ⟨old'++vs'++rest⟩ e) off 0 (cap*sz) (off+(ln+k)*sz) U;refine⟨_,?_,this.1,ek.trans this.2⟩
 have hr:=VR.uP (m:=m.add (H.put r .dead).bU ⟨w.heap.size,off,0,cap*sz,off+(ln+k)*sz⟩) H.bU off (ln+k) sz cap ⟨w.heap.size,off,0,cap*sz,off+(ln+k)*sz⟩ (by
  show(if H.bU=H.bU then _ else _)=_;rw[if_pos O]) (ax _) hs gD B (by show off+(ln+k)*sz<=off+cap*sz;omega)
 simpa using hr
def Zz(U:RH m H w){off:Nat}{az:Row}(L:m r=Z l)(E:H.obj r=.row az)(B:az.mR=aA)(K:l.lo<=off)(A:mX m vs vs')(S:J vs=k*sz)(M:vs.all fZ=F)(ac:off+ln*sz<=az.n)(ab:az.fz<=off+ln*sz)(ht:l.base+(off-l.lo)+cc*sz=l.tot)(V:ln+k<=cc)(hs:1<=sz):
 ∃m' w',(storeCells ⟨l.c,l.base+(off+ln*sz-l.lo),T⟩ vs').run P w=.ok () w'/\
  VR m' (.slice (Z ⟨H.bU,off,T⟩) (ln+k)<|gQ sz) (.slice (Z ⟨l.c,l.base+(off-l.lo),T⟩) (ln+k) cc)/\
  RH m' ((H.put r .dead).new<|.row ⟨az.ty,Tr.uY top vs (off+ln*sz) az.cells,off+(ln+k)*sz,aA,az.fz⟩) w'/\
  Ex m m' H ((H.put r .dead).new<|.row ⟨az.ty,Tr.uY top vs (off+ln*sz) az.cells,off+(ln+k)*sz,aA,az.fz⟩) w w':=by
 have⟨f,fr,hb,hnn,W,h3,h4,h5,h6⟩:=row_of U L E;have On:J vs'=k*sz:=by rw[<-A.length,S]
 have ad:(ln+k)*sz=ln*sz+k*sz:=iC ..
 have X:(ln+k)*sz<=cc*sz:=fA _ V
 have⟨w',cs',e1,e2,e3,e4,e5,e6,e7,e8,e9⟩:=AJ (P:=P) l.c (l.base+(off+ln*sz-l.lo)) az.ty fr vs' 0 f w hb (Ec A M) N
  (λj a b d=>by have:=h5 B;omega)
 have Y:=RH.afR U r l ⟨l.c,l.lo,l.base,l.tot,off+(ln+k)*sz⟩ (.row ⟨az.ty,Tr.uY top vs (off+ln*sz) az.cells,off+(ln+k)*sz,aA,az.fz⟩) (.cells cs' az.ty fr) L (by rw[E];simp) O ?_ e2 e6 e5 e7 e8 e9
 .refine⟨_,w',e1,?_,Y.1,Y.2⟩;exact VR.uP (m:=m.add H.bU ⟨l.c,l.lo,l.base,l.tot,off+(ln+k)*sz⟩) H.bU off (ln+k) sz cc ⟨l.c,l.lo,l.base,l.tot,off+(ln+k)*sz⟩ (by simp[Mp.add]) K hs ht V (by show off+(ln+k)*sz<=off+cc*sz;omega)
 .refine⟨⟨O,base_of (l:=l) U L E⟩,O,by rw[e3];exact W,?_,?_,λ_=>h5 B,?_⟩
  .show l.lo<=off+(ln+k)*sz;omega
  .show l.base+(off+(ln+k)*sz-l.lo)<=l.tot;omega
  .intro i a b;have b:i<off+(ln+k)*sz:=b;have a:l.lo<=i:=a;show∃v,cs'[l.base+(i-l.lo)]?=Z v/\VR m ((Tr.uY top vs (off+ln*sz) az.cells).get top i) v;rw[Tr.nY]
   by_cases hin:off+ln*sz<=i/\i<off+ln*sz+J vs
   .have I:vs[i-(off+ln*sz)]?=Z (vs.getD (i-(off+ln*sz)) top):=by
     rw[aU,av N];rfl
    have⟨ai,hu1,hu2⟩:=A.get _ I;refine⟨ai,?_,by rw[if_pos hin];exact hu2⟩;rw[e4,if_pos N,show l.base+(i-l.lo)-(l.base+(off+ln*sz-l.lo)+0)=i-(off+ln*sz)from N];exact hu1
   .have⟨ai,hu1,hu2⟩:=h6 i a N;refine⟨ai,?_,by rw[if_neg hin];exact hu2⟩;rw[e4,if_neg N];exact hu1
end mem
section mem
variable{P:aX}
theorem ZA(V:RH m H w)(h:EZ P ats args H=Z (v,Q))(ha:mX m args args'):
 yC P m H w (mh ⟨ats⟩ ty ⟨args'⟩) v Q:=by
 have⟨t,ht,h⟩:=aM h;have⟨t2,ht2,h⟩:=aM h;have⟨s,hs,h⟩:=aM h;have⟨x,M,h⟩:=aM h;have⟨q,hq,h⟩:=aM h;have⟨p,hp,h⟩:=aM h;have⟨e,he,h⟩:=aM h;have⟨hk,h⟩:=gN h;rw[qw]at ht ht2 hs M;have hk:=aF hk;have⟨hu,hsz1,i,z0,zs,d2,hi,hsz,hz0,hzc,hzl,hzs,hu2,hd2,hb,hb1⟩:=afQ hq;have⟨s',hs0,K⟩:=ha.get 0 hs;have⟨x',hx0,Jg⟩:=ha.get 1 M;rw[yO hp]at K hs;have⟨base,ln,cp⟩:=p;have⟨k,vs⟩:=e;simp only at K hs hk;have⟨hlen,vs',hvs,On,hnew⟩:=Eh (P:=P) V he Jg;have⟨_,vsd,ZB,anH,abu⟩:=Eh (P:=P) V.drew he Jg;have ac:J vs=k*q.2:=by rw[hvs.length];exact On
 simp only at hlen hvs On hnew ZB anH abu;cases k with
 |zero=>
  replace h:Z (s,H)=Z (v,Q):=h;have ap:v=s/\Q=H:=by cases h;exact⟨O,O⟩
  rw[ap.1,ap.2,yO hp];simp only;have a4:vs'=[]:=jf (by rw[On,jm]);subst a4;cases base with
  |none=>
   have⟨L,e2,e3⟩:=K.wO;subst L e2 e3;exact⟨m,_,w,Sr hs0 hx0 (nZ ht) (nZ ht2) hu hu2 hd2 hi hlen (by rw[<-hsz]at hnew;exact hnew),K,V,Ex.refl _ _ _⟩
  |some a=>
   rcases K.of_slice with⟨lc,cc,hm,B,Y,L,E⟩|⟨a',L,e2,e3⟩
   .subst L
    have ar:ln+0<=cc:=by
     rcases E with⟨_,I,W⟩|⟨_,_,_,_,I,_⟩<;>omega
    exact⟨m,_,w,zz (vs':=[]) hs0 hx0 (nZ ht) (nZ ht2) hu hu2 hd2 hi ar hlen (by rw[hsz];exact hnew)<|by simp[storeCells],K,V,Ex.refl _ _ _⟩
   .subst L e3;exact⟨m,_,w,zz (vs':=[]) hs0 hx0 (nZ ht) (nZ ht2) hu hu2 hd2 hi (ax _) hlen (by rw[hsz];exact hnew)<|by simp[storeCells],K,V,Ex.refl _ _ _⟩
 |succ k=>
  have U:∀(X:aC Addr)(S cc:Nat)(ad:C D),args'[0]?=Z (.slice X S cc)->S<=16777216->cc<S+(k+1)->
   (eH q.2 S<|.slice X S cc).run P w.drew=.ok ⟨ad⟩ w.drew->
   ∃cap rest,S+(k+1)<=cap/\J rest=(cap-(S+(k+1)))*q.2/\
    (mh ⟨ats⟩ ty ⟨args'⟩).run P w=.ok (.slice (Z ⟨w.drew.heap.size,0,T⟩) (S+(k+1)) cap) (w.drew.alloc<|.cells ⟨ad++vsd++rest⟩ q.1):=by
   intro X S cc ad h0 I W h3;rw[<-hsz]at h3 abu;have:=abr (P:=P) (w:=w) (ty:=ty) (old:=ad) (vs':=vsd) h0 hx0 (nZ ht) (nZ ht2) hu hu2 hd2 hi hz0 hzc hzl hb hb1 I hk W hlen h3 abu;rw[hsz]at this;exact this
  cases base with
  |none=>
   have⟨L,e2,e3⟩:=K.wO;subst L e2 e3;replace h:(gd (aB 0 0&&aB 0 0)<|Z<|zN q.1 q.2 (k+1) vs H)=Z (v,Q):=h;have⟨hg,h⟩:=gN h;cases h;have⟨cap,rest,c1,c2,c3⟩:=U T 0 0 [] hs0 N N (by simp[eH]);have⟨m',g1,g2,g3⟩:=QA (e:=q.1) (ln:=0) (old:=[]) (old':=[]) (vs:=vs) (vs':=vsd) (rest:=rest) (k:=k+1) (cap:=cap) (sz:=q.2) V.drew .nil ZB gD ac c1 c2 hsz1;rw[bB]at g1 c3;exact⟨m',_,_,c3,g1,g2,(Ex.drew m H w).trans g3⟩
  |some a=>
   replace h:(gd (aD ln 16777216)<|cr (gW cp) (xW q a ln cp (k+1) vs H)<|gd (aB cp<|gQ q.2)<|uA q a ln cp (k+1) vs H)=Z (v,Q):=h;have⟨ag,h⟩:=gN h;have ag:=aF ag;cases hkc:gW cp with
   |true=>
    rw[hkc]at h
    replace h:(cr (aD (a_ ln<|k+1) cp)
     (aN (H.write a.block (a_ a.off<|bO ln q.2) vs) λQ=>Z (.slice (Z a) (a_ ln<|k+1) cp,Q))
     (aN (H.read a.block a.off<|bO ln q.2) λold=>Z<|zN q.1 q.2 (a_ ln<|k+1) (app old vs) H))=Z (v,Q):=h
    rcases K.of_slice with⟨lc,cc,hm,B,Y,L,E⟩|⟨a',L,e2,e3⟩
    .subst L
     obtain⟨rfl,a5⟩:cc=cp/\ln<=cp:=by
      rcases E with⟨_,I,W⟩|⟨es,I,_⟩
      .exact⟨I,W⟩
      .exact absurd I<|E_ hkc
     by_cases A:ln+(k+1)<=cc
     .rw[show aD (a_ ln<|k+1) cc=F from aG A]at h;replace h:(aN (H.write a.block (a_ a.off<|bO ln q.2) vs) λQ=>Z (u (Z a) (a_ ln<|k+1) cc,Q))=Z (v,Q):=h;have⟨H1,hH1,h⟩:=aM h;cases h;have⟨w',r1,r2,r3⟩:=Ee (P:=P) V hH1 hvs hm<|aQ B<|pZ _ _;refine⟨m,_,w',zz (vs':=vs') hs0 hx0 (nZ ht) (nZ ht2) hu hu2 hd2 hi A hlen (by rw[hsz];exact hnew) (by rw[Mf _ _ _ _ _ B,hsz];exact r1),?_,r2,r3⟩;have⟨ab,ao,asp⟩:=a;simp only at Y hm B;subst Y;exact VR.slice ab ao (ln+(k+1)) cc lc hm B hkc A
     .rw[show aD (a_ ln<|k+1) cc=aA from by rw[<-dn];exactλhh=>A<|aF hh]at h;replace h:(aN (H.read a.block a.off<|bO ln q.2) λold=>Z<|zN q.1 q.2 (a_ ln<|k+1) (app old vs) H)=Z (v,Q):=h;have⟨old,hold,h⟩:=aM h;cases h;have⟨old',o1,o2,o3⟩:=Ac (P:=P) V.drew hold hm B;have⟨cap,rest,c1,c2,c3⟩:=U _ ln cc old' hs0 ag N (by simp only[eH];exact o3);have⟨m',g1,g2,g3⟩:=QA (e:=q.1) (ln:=ln) (vs:=vs) (vs':=vsd) (rest:=rest) (k:=k+1) (cap:=cap) (sz:=q.2) V.drew o1 ZB (by rw[o1.length];exact o2) ac c1 c2 hsz1;rw[uq];exact⟨m',_,_,c3,g1,g2,(Ex.drew m H w).trans g3⟩
    .subst L e3
     have aE:cp=0:=by
      rcases e2 with I|⟨es,l,I,_⟩
      .exact I
      .exact absurd I<|E_ hkc
     subst aE;rw[show aD (a_ 0<|k+1) 0=aA from by rw[<-dn];intro hh;have:=aF hh;simp at this]at h;replace h:(aN (H.read a.block a.off<|bO 0 q.2) λold=>Z<|zN q.1 q.2 (a_ 0<|k+1) (app old vs) H)=Z (v,Q):=h;rw[show bO 0 q.2=0 from jm _]at h;replace h:Z (zN q.1 q.2 (a_ 0<|k+1) (app [] vs) H)=Z (v,Q):=h;cases h;have⟨cap,rest,c1,c2,c3⟩:=U _ 0 0 [] hs0 N N (by simp[eH,loadCells,loadCellsFrom]);have⟨m',g1,g2,g3⟩:=QA (e:=q.1) (ln:=0) (old:=[]) (old':=[]) (vs:=vs) (vs':=vsd) (rest:=rest) (k:=k+1) (cap:=cap) (sz:=q.2) V.drew .nil ZB gD ac c1 c2 hsz1;exact⟨m',_,_,c3,g1,g2,(Ex.drew m H w).trans g3⟩
   |false=>
    rw[hkc]at h;replace h:(gd (aB cp<|gQ q.2)<|uA q a ln cp (k+1) vs H)=Z (v,Q):=h;have⟨JP,h⟩:=gN h;have JP:=bA JP;have⟨az,hR,h⟩:=aM h;have⟨hgR,h⟩:=gN h;have JQ:=vN hR;simp only[bE]at hgR;have am:az.ty=q.1:=bA hgR.1
    by_cases hin:a.off+(ln+(k+1))*q.2<=az.n
    .rw[show aD (a_ a.off<|bO (a_ ln<|k+1) q.2) az.n=F from aG hin]at h;replace h:(aN (H.write a.block (a_ a.off<|bO ln q.2) vs) λQ=>Z (u (Z a) (a_ ln<|k+1) cp,Q))=Z (v,Q):=h;have⟨H1,hH1,h⟩:=aM h;cases h;rcases K.of_slice with⟨lc,cc,hm,B,Y,L,E⟩|⟨a',L,e2,e3⟩
     .subst L
      obtain⟨es,I,W,h3,h4,h5⟩:∃es,cp=gQ es/\0<es/\lc.base+(a.off-lc.lo)+cc*es=lc.tot/\ln<=cc/\lc.n<=a.off+cc*es:=by
       rcases E with⟨I,_⟩|I
       .rw[hkc]at I;cases I
       .exact I
      have al:es=q.2:=by
       rw[JP]at I;have aq:18446744073709551616+q.2=18446744073709551616+es:=I;omega
      subst al;have⟨_,_,_,hnn,_⟩:=row_of V hm JQ
      have A:ln+(k+1)<=cc:=by
       rw[hnn]at hin;exact tY (c:=q.2) N W
      have⟨w',r1,r2,r3⟩:=Ee (P:=P) V hH1 hvs hm<|aQ B<|pZ _ _;refine⟨m,_,w',zz (vs':=vs') hs0 hx0 (nZ ht) (nZ ht2) hu hu2 hd2 hi A hlen (by rw[hsz];exact hnew) (by rw[Mf _ _ _ _ _ B,hsz];exact r1),?_,r2,r3⟩;have⟨ab,ao,asp⟩:=a;simp only at Y hm B h3 h5;subst Y;rw[JP];exact VR.uP ab ao (ln+(k+1)) q.2 cc lc hm B W h3 A h5
     .subst L
      obtain⟨es,l,I,W,h3,h4,h5,h6⟩:∃es l,cp=gQ es/\m a.block=Z l/\l.lo<=a.off/\0<es/\l.n<=a.off/\a.spot=T:=by
       rcases e2 with I|I
       .rw[I]at hkc;simp[gW]at hkc
       .exact I
      have⟨_,_,_,hnn,_⟩:=row_of V W JQ;have:1*1<=(0+(k+1))*q.2:=jh N hsz1;omega
    .rw[show aD (a_ a.off<|bO (a_ ln<|k+1) q.2) az.n=aA from by rw[<-dn];exactλhh=>hin<|aF hh]at h
     replace h:(gd (aD (a_ a.off<|bO ln q.2) az.n&&aD az.fz (a_ a.off<|bO ln q.2)&&all' fZ vs)
      (Z (u (Z ⟨H.bU,a.off,T⟩) (a_ ln<|k+1) cp,
      (H.put a.block .dead).new (.row ⟨az.ty,Tr.uY top vs (a_ a.off<|bO ln q.2) az.cells,a_ a.off<|bO (a_ ln<|k+1) q.2,aA,az.fz⟩))))=Z (v,Q):=h
     have⟨hg,h⟩:=gN h;cases h;simp only[bE,all_eq]at hg;have an:a.off+ln*q.2<=az.n:=aF hg.1.1;have a0:az.fz<=a.off+ln*q.2:=aF hg.1.2;have a1:=hg.2;rcases K.of_slice with⟨lc,cc,hm,B,Y,L,E⟩|⟨a',L,e2,e3⟩
     .subst L
      obtain⟨es,I,W,h3,h4,h5⟩:∃es,cp=gQ es/\0<es/\lc.base+(a.off-lc.lo)+cc*es=lc.tot/\ln<=cc/\lc.n<=a.off+cc*es:=by
       rcases E with⟨I,_⟩|I
       .rw[hkc]at I;cases I
       .exact I
      have al:es=q.2:=by
       rw[JP]at I;have aq:18446744073709551616+q.2=18446744073709551616+es:=I;omega
      subst al
      by_cases A:ln+(k+1)<=cc
      .have⟨m',w',r1,r2,r3,r4⟩:=Zz (P:=P) V (ln:=ln) hm JQ (nZ hgR.2) B hvs ac a1 an a0 h3 A hsz1;rw[JP];exact⟨m',_,w',zz (vs':=vs') hs0 hx0 (nZ ht) (nZ ht2) hu hu2 hd2 hi A hlen (by rw[hsz];exact hnew) (by rw[Mf _ _ _ _ _ B,hsz];exact r1),r2,r3,r4⟩
      .have a3:H.read a.block a.off (ln*q.2)=Z (Tr.FW top az.cells a.off<|ln*q.2):=by
        cases hz:ln*q.2 with
        |zero=>rfl
        |succ n=>
         show(aN (xN<|H.obj a.block) λw=>gd (aD (a_ a.off<|n+1) w.n)<|Z<|Tr.FW top w.cells a.off<|n+1)=_;rw[hR];show(gd (aD (a_ a.off<|n+1) az.n) _)=_;rw[show aD (a_ a.off<|n+1) az.n=F from aG (by rw[<-hz];exact an)];rfl
       have⟨old',o1,o2,o3⟩:=Ac (P:=P) V.drew a3 hm B;have⟨cap,rest,c1,c2,c3⟩:=U _ ln cc old' hs0 ag N (by simp only[eH];exact o3);have⟨m',g1,g2,g3⟩:=O_ (e:=az.ty) (fz:=az.fz) (off:=a.off) (ak:=az.cells) (ln:=ln) (vs:=vs) (vs':=vsd) (rest:=rest) (k:=k+1) (cap:=cap) (sz:=q.2) V.drew a.block (by rw[hm];simp) o1 ZB (by rw[o1.length];exact o2) ac (λj hj=>Xx _ _ _ _ _ hj) c1 c2 hsz1;rw[JP,<-am]at*;exact⟨m',_,_,c3,g1,g2,(Ex.drew m H w).trans g3⟩
     .have a2:m a.block≠T:=by
       rcases e2 with I|⟨es,l,I,W,_⟩
       .rw[I]at hkc;simp[gW]at hkc
       .rw[W];simp
      subst L e3;have⟨cap,rest,c1,c2,c3⟩:=U _ 0 0 [] hs0 N N (by simp[eH,loadCells,loadCellsFrom]);have⟨m',g1,g2,g3⟩:=O_ (e:=az.ty) (fz:=az.fz) (off:=a.off) (ak:=az.cells) (old:=[]) (old':=[]) (ln:=0) (vs:=vs) (vs':=vsd) (rest:=rest) (k:=k+1) (cap:=cap) (sz:=q.2) V.drew a.block a2 .nil ZB gD ac (λj hj=>N) c1 c2 hsz1;rw[JP];rw[<-am]at c3;exact⟨m',_,_,c3,g1,g2,(Ex.drew m H w).trans g3⟩
end mem
section mem
variable{P:aX}
def ZC(O:RH m H w){e:Nat×C D}(h:appended H sz x=Z e)(M:VR m x x'):
 (∀w,(mg x').run P w=.ok e.1 w)/\∃vs',mX m e.2 vs'/\J vs'=e.1*sz/\∀n,n<=e.1->(eH sz n x').run P w=.ok ⟨vs'.take<|n*sz⟩ w:=by
 refine⟨(Eh (P:=P) O h M).1,?_⟩;unfold appended at h;cases hs:vO x with
 |some s=>
  rw[hs]at h;replace h:(gd (aB sz 1)<|Z (len s.data.toList,qL s.data.toList))=Z e:=h;have⟨B,h⟩:=gN h;cases h;have B:=bA B;subst B;rw[qY hs]at M;have:=M.xX;subst this;refine⟨qL s.data.toList,mX.o7<|JU _,by rw[yP];simp[ig],?_⟩;intro n L;have U:(s.extract 0 n).data=s.data.extract 0 n:=by rw[rD]
  simp only[eH];rw[U,yP,dN];show Result.ok _ w=Result.ok _ w;congr 1;rw[<-jN];simp
 |none=>
  rw[hs]at h
  replace h:(aN (Ky x) λp=>@aP Addr (λ_=>aC<|Nat×C D) (gd (aB p.2.1 0)<|Z (0,[]))
   (λa=>aN (H.read a.block a.off<|bO p.2.1 sz) λl=>Z (p.2.1,l)) p.1)=Z e:=h
  have⟨p,hp,h⟩:=aM h;rw[yO hp]at M;have⟨pa,n,cp⟩:=p;cases pa with
  |none=>
   obtain⟨I,W,rfl⟩:=M.wO;replace h:(gd (aB n 0)<|Z (0,([]:C D)))=Z e:=h;have⟨B,h⟩:=gN h;cases h;exact⟨[],.nil,gD,λn L=>by simp[eH]⟩
  |some a=>
   replace h:(aN (H.read a.block a.off<|bO n sz) λl=>Z (n,l))=Z e:=h;have⟨l,hl,h⟩:=aM h;cases h;simp only at M;rcases M.of_slice with⟨N,cc,X,K,Y,rfl,_⟩|⟨a',S,e2,rfl⟩
   .have⟨vs',I,W,h3⟩:=Hq O hl X K;refine⟨vs',I,W,?_⟩;intro k V;simp only[eH]
    have A:(vs'.take<|k*sz).length=k*sz:=by
     rw[dX,W];exact jI<|fA _ V
    rw[show k*sz=(vs'.take<|k*sz).length from A.symm];rw[A]
    have:=run_loadCells_list (P:=P) w ⟨N.c,N.base+(a.off-N.lo),T⟩ (vs'.take<|k*sz) (λj v E=>h3 j v (by
     rw[iB]at E;split at E
     .exact E
     .cases E))
    rw[A]at this;exact this
   .subst S;have hz:bO 0 sz=0:=jm sz;rw[hz]at hl;cases hl;refine⟨[],.nil,gD,?_⟩;intro n L;have:n=0:=nZ L;subst this;simp[eH,loadCells,loadCellsFrom]
def afT(N:RH m H w)(h:OX P ats args H=Z (v,Q))(ha:mX m args args'):
 yC P m H w (Builtin.copy_ ⟨ats⟩ ty ⟨args'⟩) v Q:=by
 have⟨t,ht,h⟩:=aM h;have⟨d,hd,h⟩:=aM h;have⟨x,M,h⟩:=aM h;have⟨q,hq,h⟩:=aM h;have⟨p,hp,h⟩:=aM h;have⟨e,he,h⟩:=aM h;rw[qw]at ht hd M;have⟨hu,⟨i,hi,hsz⟩,hs1⟩:=C5 hq;have⟨d',hd0,A⟩:=ha.get 0 hd;have⟨x',hx0,Jg⟩:=ha.get 1 M;rw[yO hp]at A;have⟨base,ln,cp⟩:=p;have⟨k,vs⟩:=e;have⟨hlen,vs',hvs,hvl,Vm⟩:=ZC (P:=P) N he Jg;simp only at A hlen hvs hvl Vm;have I:(⟨ats⟩:Array aH)[0]?=Z t:=nZ ht;have B:(⟨args'⟩:Array D)[0]?=Z d':=nZ hd0;have E:(⟨args'⟩:Array D)[1]?=Z x':=nZ hx0;cases base with
 |none=>
  have⟨S,Y,e3⟩:=A.wO;subst S Y e3;replace h:(gd (aB 0 0)<|Z (bq .i64 0,H))=Z (v,Q):=h;have⟨hg,h⟩:=gN h;cases h;have L:=Vm 0<|bD _;refine⟨m,_,w,?_,.sc _ O,N,Ex.refl _ _ _⟩;have K:Nat.min k 0=0:=Nat.min_zero k;simp[Builtin.copy_,I,B,E,fV hu,hlen,kD hi,hsz,K,L,goInt]
 |some a=>
  replace h:(aN (H.write a.block a.off<|tk (bO (cr (aD k ln) k ln) q.2) vs) λQ=>Z (bq .i64<|.ofNat<|cr (aD k ln) k ln,Q))=Z (v,Q):=h
  have hb:cr (aD k ln) k ln=Nat.min k ln:=by
   by_cases hh:k<=ln
   .rw[show aD k ln=F from aG hh];exact(jI hh).symm
   .rw[show aD k ln=aA from by rw[<-dn];exactλg=>hh<|aF g];exact(wo<|Nat.le_of_not_le hh).symm
  rw[hb,FF]at h;have⟨H1,j,h⟩:=aM h;cases h;have L:=Vm (Nat.min k ln)<|Nat.min_le_left _ _;have V:mX m (vs.take<|bO (Nat.min k ln) q.2) (vs'.take<|Nat.min k ln*q.2):=hvs.take _;rcases A.of_slice with⟨lc,cc,hm,U,ab,rfl,_⟩|⟨a',S,Y,rfl⟩
  .have⟨w',r1,r2,r3⟩:=Ee (P:=P) N j V hm U;refine⟨m,_,w',?_,.sc _ O,r2,r3⟩;simp only[Builtin.copy_,I,B,E,dB,fV hu,bT,hlen,kD hi,hsz,L,r1,dS];rfl
  .subst S;have hz:bO (Nat.min k 0) q.2=0:=by rw[show Nat.min k 0=0 from Nat.min_zero k];exact jm _
   rw[hz]at j
   have X:Q=H:=by
    replace j:Z H=Z Q:=j;cases j;rfl
   subst X;refine⟨m,_,w,?_,.sc _ O,N,Ex.refl _ _ _⟩;have W:Nat.min k 0*q.2=0:=hz;simp only[Builtin.copy_,I,B,E,dB,fV hu,bT,hlen,kD hi,hsz,L,W,kT,storeCells,dS];rfl
def abv(W:RH m H w)(h:Jb P ats args H=Z (v,Q))(Y:mX m args args'):
 yC P m H w (Builtin.clear_ ⟨ats⟩ ty ⟨args'⟩) v Q:=by
 have⟨t,ht,h⟩:=aM h;have⟨d,hd,h⟩:=aM h;have⟨q,hq,h⟩:=aM h;have⟨z,hz,h⟩:=aM h;have⟨p,hp,h⟩:=aM h;rw[qw]at ht hd;have⟨hu,⟨inf,hi,hsz⟩,hs1⟩:=C5 hq;have⟨i,z0,hi',hz0,hze,hlen,hs⟩:=Ak hz;rw[hi]at hi';cases hi';have⟨d',hd0,E⟩:=Y.get 0 hd;rw[yO hp]at E;have⟨base,ln,cp⟩:=p;have B:(⟨ats⟩:Array aH)[0]?=Z t:=nZ ht;have A:(⟨args'⟩:Array D)[0]?=Z d':=nZ hd0;have M:VR m (.tuple #[]) (.tuple #[]):=.tuple [] [] .nil;cases base with
 |none=>
  have⟨K,X,e3⟩:=E.wO;subst K X e3;replace h:Z ((.tuple #[]:D),H)=Z (v,Q):=h;cases h;refine⟨m,_,w,?_,M,W,Ex.refl _ _ _⟩;simp[Builtin.clear_,B,A,fV hu]
 |some a=>
  replace h:(aN (H.write a.block a.off<|pV z ln) λQ=>Z ((.tuple #[]:D),Q))=Z (v,Q):=h;have⟨H1,j,h⟩:=aM h;cases h;have S:z0.cells=⟨z⟩:=by rw[hze]
  have N:mX m (pV z ln) (pV z ln):=mX.o7 (m:=m)<|Jh hs ln
  have U:Builtin.zeroCells z0.cells ln=⟨pV z ln⟩:=by
   rw[S];exact L_ z ln
  rcases E.of_slice with⟨V,cc,hm,L,ab,rfl,_⟩|⟨a',K,X,rfl⟩
  .have⟨w',I,r2,r3⟩:=Ee (P:=P) W j N hm L;refine⟨m,_,w',?_,M,r2,r3⟩;cases ln with
   |zero=>
    have hw:w'=w:=by
     have I:(storeCells ⟨V.c,V.base+(a.off-V.lo),T⟩ ([]:C D)).run P w=.ok () w':=I;simp[storeCells]at I;exact I.symm
    subst hw;simp[Builtin.clear_,B,A,fV hu]
   |succ ln=>
    simp only[Builtin.clear_,B,A,dB,fV hu,bT,AA hi hz0,U,I,dS]
  .subst K
   have O:Q=H:=by
    replace j:Z H=Z Q:=j;cases j;rfl
   subst O;refine⟨m,_,w,?_,M,W,Ex.refl _ _ _⟩;simp[Builtin.clear_,B,A,fV hu]
def D3.erase{l:C MapEntry}(h:D3 m es l):∀(j:Nat),D3 m (es.eraseIdx j) (l.eraseIdx j):=by
 induction h with
 |nil=>intro j;exact .nil
 |cons L N A O M B I E K=>
  intro j;cases j with
  |zero=>exact E
  |succ j=>exact .cons L N A _ _ B I<|K j
end mem
section mem
variable{P:aX}
def ZD(f0:∀ats ty n c w,(cs ats ty #[.slice T n c]).run P w=.ok (.pointer T) w)(f1:∀ats ty a n c w,(cs ats ty #[.slice (Z a) n (c+1)]).run P w=.ok (.pointer<|Z a) w)(rh:RH m H w){ats:Array aH}(h:G_ args H=Z (v,Q))(ha:mX m args args'):
 yC P m H w (cs ats ty ⟨args'⟩) v Q:=by
 have⟨S,h⟩:=gN h;have⟨x,M,h⟩:=aM h;have⟨p,hp,h⟩:=aM h;rw[qw]at M;rw[ig]at S;have S:=bA S;have⟨x',hx0,U⟩:=ha.get 0 M;have V:J args'=1:=by rw[<-ha.length,S]
 have he:args'=[x']:=by
  match args',V,hx0 with
  |[y],_,Y=>cases Y;rfl
 subst he;rw[yO hp]at U;have⟨base,ln,cp⟩:=p;cases base with
 |none=>
  have⟨j,K,X⟩:=U.wO;subst j K X;replace h:Z (bG T,H)=Z (v,Q):=h;cases h;exact⟨m,_,w,f0 ats ty 0 0 w,.sc _ O,rh,Ex.refl _ _ _⟩
 |some a=>
  replace h:(gd (aD 1 ln||(gW cp&&aD 1 cp))<|Z (bG<|Z a,H))=Z (v,Q):=h;have⟨L,h⟩:=gN h;cases h;simp only[lD,bE]at L;rcases U.of_slice with⟨lc,cc,hm,B,E,j,A⟩|⟨a',j,K,X⟩
  .subst j
   have ac:cc≠0:=by
    rcases A with⟨Y,I,W⟩|⟨es,I,W,h3,h4,h5⟩
    .simp only at I W;rcases L with g|g
     .have:=aF g;omega
     .have:=aF g.2;omega
    .rcases L with g|g
     .have:=aF g;simp only at h4;omega
     .exact absurd I<|E_ g.1
   refine⟨m,_,w,(by obtain⟨k,rfl⟩:∃k,cc=k+1:=⟨cc-1,N⟩;exact f1 ats ty _ _ k w),?_,rh,Ex.refl _ _ _⟩;have⟨ab,ao,asp⟩:=a;simp only at E hm B;subst E;exact VR.ptr ab ao lc hm B
  .exfalso;simp only at j K;subst j;rcases L with g|g
   .simp at g
   .rcases K with I|⟨es,l,I,_⟩
    .subst I;simp at g
    .exact absurd I<|E_ g.1
theorem Oo(w:cZ)(e:aH)(s:aZ):
 Lib.bytesWorld w e s=w.drew.alloc (.cells (kL w e s) e ((kL w e s).size,(kL w e s).size+1)):=by
 unfold Lib.bytesWorld World.freeze;rw[if_neg N];unfold World.alloc;congr 1;apply uM;intro i;rw[jD];have j:w.drew.heap=w.heap:=rfl;simp only[j]
 by_cases hi:w.heap.size=i
 .subst hi;simp
 .rw[if_neg hi];rw[qj,qj,if_neg<|qJ hi,if_neg<|qJ hi]
def Ss(V:RH m H w){d:aH}{ai:fM}(h:FX P q x H=Z (v,Q))(M:VR m x x')(hs:P.underlying s=Z ai)(hd:P.underlying d=Z (.slice q.1)):yC P m H w (convert s d x') v Q:=by
 have⟨b,hb,h⟩:=aM h;have⟨E,h⟩:=gN h;cases h;simp only[bE]at E;rw[qY hb]at M;have:=M.xX;subst this;have A:=Lib.run_convert_string_bytes (P:=P) w s d q.1 b hs hd<|Si E.2;rw[Oo]at A;have B:b.size=J b.data.toList:=rfl;have j:b.size<=grownCap w b.size 0 q.1:=by simp[grownCap,Question.cut]
 have I:(kL w q.1 b).size=grownCap w b.size 0 q.1:=by
  simp[kL];have:b.data.size=b.size:=rfl;omega
 have K:wQ m ⟨w.drew.heap.size,0,0,grownCap w b.size 0 q.1,b.size⟩ (.row ⟨q.1,Tr.uY top (qL b.data.toList) 0 .nil,len b.data.toList,F,0⟩)
  (.cells (kL w q.1 b) q.1 ((kL w q.1 b).size,(kL w q.1 b).size+1)):=by
  refine⟨⟨O,O⟩,by rw[ig];rfl,I,bD _,?_,?_,?_⟩
  .show 0+(len b.data.toList-0)<=_;rw[ig,<-B];simpa using j
  .intro S;cases S
  .intro i a c;have c:i<len b.data.toList:=c;rw[ig]at c;show∃v,(kL w q.1 b)[0+(i-0)]?=Z v/\VR m ((Tr.uY top (qL b.data.toList) 0 .nil).get top i) v;have L:(qL b.data.toList).length=J b.data.toList:=by rw[yP];simp
   rw[Tr.nY,if_pos N,yP];have hi:i<b.data.size:=nZ c;refine⟨.int .u8 b.data[i].toNat,?_,?_⟩
   .have hi':i<b.size:=hi;simp[kL,Array.getElem?_append,hi,hi']
   .rw[aU];have E:((b.data.toList.map λb=>bq .u8 b.toNat)[i]?.getD top)=bq .u8 b.data[i].toNat:=by simp[bJ hi]
    rw[mD,E];exact .sc _ O
 have:=V.drew.alloc _ _ 0 0 (grownCap w b.size 0 q.1) b.size K;refine⟨_,_,_,A,?_,this.1,(Ex.drew m H w).trans this.2⟩
 have U:=VR.uP (m:=m.add H.bU ⟨w.drew.heap.size,0,0,grownCap w b.size 0 q.1,b.size⟩) H.bU 0 b.size 1 (grownCap w b.size 0 q.1) ⟨w.drew.heap.size,0,0,grownCap w b.size 0 q.1,b.size⟩
  (by simp[Mp.add]) (ax _) N gD j (nZ j)
 rw[ig,<-B];exact U
theorem Pb:∀{l l':C D}{bs:C UInt8},uz l=Z bs->mX m l l'->l'=bs.map (λb=>bq .u8 b.toNat):=by
 intro l
 induction l with
 |nil=>intro l' bs h j;cases j;cases h;rfl
 |cons x l E=>
  intro l' bs h j;replace h:(aN (vw x) λp=>aN (LH p.2) λn=>gd (KA p.1&&aD n 255)<|aN (uz l) λbs=>Z<|jS n::bs)=Z bs:=h;have⟨p,hp,h⟩:=aM h;have⟨n,hn,h⟩:=aM h;have⟨hg,h⟩:=gN h;have⟨r,hr,h⟩:=aM h;cases h;cases j with
  |cons _ v' _ K I W=>
   simp only[bE]at hg;have B:=aF hg.2;rw[rZ hp]at I;have:=I.of_int;subst this
   have A:p.1=.u8:=by
    have:=hg.1;cases hp1:p.1<;>rw[hp1]at this<;>first|rfl|(simp[KA]at this)
   rw[E hr W,A,Qm hn];simp;omega
def Su(L:RH m H w){d:aH}(h:FY P q x H=Z (v,Q))(M:VR m x x')(hs:P.underlying s=Z (.slice q.1))(hd:P.underlying d=Z .string):yC P m H w (convert s d x') v Q:=by
 have⟨p,hp,h⟩:=aM h;have⟨hg,h⟩:=gN h;simp only[bE]at hg;have A:=Si hg.2;rw[yO hp]at M;have⟨base,ln,cp⟩:=p;cases base with
 |none=>
  have⟨B,X,N⟩:=M.wO;subst B X N;replace h:Z (aJ ⟨⟨[]⟩⟩,H)=Z (v,Q):=h;cases h;refine⟨m,_,w,?_,.sc _ O,L,Ex.refl _ _ _⟩;rw[run_convert_bytes_string w s d q.1 T 0 0 hs A hd];rfl
 |some a=>
  replace h:(aN (H.read a.block a.off ln) λl=>aN (uz l) λE=>Z (aJ ⟨⟨E⟩⟩,H))=Z (v,Q):=h;have⟨l,K,h⟩:=aM h;have⟨E,hbs,h⟩:=aM h;cases h;rcases M.of_slice with⟨lc,cc,hm,V,ab,B,Y⟩|⟨a',B,X,N⟩
  .subst B;have⟨vs',I,W,h3⟩:=Hq L K hm V;have he:=Pb hbs I;have U:J E=ln:=by rw[<-W,he];simp
   refine⟨m,_,w,?_,.sc _ O,L,Ex.refl _ _ _⟩;simp only;rw[<-U]
   exact run_convert_bytes_back w s d q.1 _ cc E hs A hd (λj S=>by
    apply h3 j;rw[he];simp[S])
  .simp only at B;subst B N;replace K:Z ([]:C D)=Z l:=K;cases K;cases hbs;refine⟨m,_,w,?_,.sc _ O,L,Ex.refl _ _ _⟩;exact run_convert_bytes_back w s d q.1 _ 0 [] hs A hd (λj S=>by simp at S)
end mem
section mem
variable{P:aX}
def Mg(A:RH m H w){az:Row}(j:m r=Z l)(ho:H.obj r=.row az):w.shape? l.c=Z (az.ty,l.tot):=by
 have⟨f,fr,hb,_,W,_⟩:=row_of A j ho;simp[World.shape?,hb,W]
def Mh{s:aH×Nat}(h:w.shape? a.block=Z s):(Conv.seenAt a).run P w=.ok a w:=by
 simp[Conv.seenAt,viewAt,h]
def XC(B:G8 du=F):∃(hx:aH->aH->fM->fM->D->Sem D)(ae:aH->aH->fM->fM->D->Sem D)(rg:Addr->aH->Sem D),
 (∀s d x,convert s d x=do let a<-underlying s;let b<-underlying d;hx s d a b x)/\
 (∀s d e x,hx s d (.pointer e) du x=do let p<-underlying s;let q<-underlying d;ae s d p q x)/\
 (∀s d e x,hx s d du (.pointer e) x=do let p<-underlying s;let q<-underlying d;ae s d p q x)/\
 (∀s d e a,ae s d (.pointer e) du (.pointer<|Z a)=do
  let z<-Conv.seenAt a
  let j:=match<-cellsIn z.block with
   |some A=>z.off>=A&&z.spot.isNone
   |none=>aA
  if(<-sizeOf e)=0||j then pure (.pointer<|Z ⟨<-newObj (.view z e),0,T⟩)else
  pure (.pointer<|Z z))/\
 (∀s d ai a,ae s d du (.pointer ai) (.pointer<|Z a)=do
  let a<-Conv.seenAt a
  if(<-sizeOf ai)=0||(<-variablesAt a ai 1)then pure (.pointer<|Z a)
  else rg a ai):=by
 cases du<;>first|(replace B:aA=F:=B;cases B;done)|exact⟨_,_,_,λ_ _ _=>rfl,λ_ _ _ _=>rfl,λ_ _ _ _=>rfl,λ_ _ _ _=>rfl,λ_ _ _ _=>rfl⟩
def Ji(K:RH m H w){d:aH}(h:LU P e x H=Z (v,Q))(M:VR m x x')(hs:P.underlying s=Z (.pointer e))(V:G8 du=F)(hd:P.underlying d=Z du):yC P m H w (convert s d x') v Q:=by
 have⟨a,ha,h⟩:=aM h;have⟨sz,hsz,h⟩:=aM h;have⟨az,hR,h⟩:=aM h;have⟨hg,h⟩:=gN h;cases h;have I:=M;rw[qX ha]at M;have L:=vN hR;obtain⟨l,O,S,U,rfl⟩:=M.vG;simp only[bE]at hg;have X:=aF hg.1;have Y:a.off+1<=az.n:=aF hg.2;have⟨i,hi,hsz⟩:=si hsz;have A:=Mg K O L;have⟨f,fr,hb,hnn,W,h3,h4,h5,h6⟩:=row_of K O L;refine⟨m,_,w,?_,I,K,Ex.refl _ _ _⟩;have E:=Mh (P:=P) (w:=w) (a:=⟨l.c,l.base+(a.off-l.lo),T⟩) A;have j:¬(l.tot<=l.base+(a.off-l.lo)):=N;have B:i.size≠0:=N;have⟨hx,ae,rg,c1,c2,c3,c4,c5⟩:=XC V;rw[c1];simp only[dB,fV hs,fV hd,bT,c2,c4];simp[E,cellsIn,A,kD hi,B,j]
def Pd{s:Nat}(E:P.cellsOf e=s)(hs:1<=s)(j off n:Nat)(I:off %s=0)(K:off/s+n<=j):liesAt P P.depth e j off e n=F:=by
 have B:P.depth=(2*(P.types.size+Made.depth)+1)+1:=rfl;rw[B];simp only[liesAt,lD];left;rw[B];have A:s≠0:=N;simp[rowAt,E,K,I,A,sameLayout]
def Hr(h:P.info? t=Z i):P.cellsOf t=i.size:=by
 simp[Program.cellsOf,h]
def Jj(B:RH m H w){d:aH}(h:LV P e x H=Z (v,Q))(M:VR m x x')(hu:G8 du=F)(hs:P.underlying s=Z du)(hd:P.underlying d=Z (.pointer e)):yC P m H w (convert s d x') v Q:=by
 have⟨a,ha,h⟩:=aM h;have⟨sz,hsz,h⟩:=aM h;have⟨az,hR,h⟩:=aM h;have⟨hg,h⟩:=gN h;cases h;have O:=M;rw[qX ha]at M;have E:=vN hR;obtain⟨l,K,Y,ab,rfl⟩:=M.vG;simp only[bE]at hg;have U:=aF hg.1.1.1;have V:az.ty=e:=bA hg.1.1.2;have g3:=bA hg.1.2;have g4:=aF hg.2;have⟨i,hi,hsz⟩:=si hsz;have j:=Mg B K E;have I:=base_of B K E;have⟨f,fr,hb,hnn,W,h3,h4,h5,h6⟩:=row_of B K E;refine⟨m,_,w,?_,O,B,Ex.refl _ _ _⟩;have A:l.base+(a.off-l.lo)=0:=N;rw[A];have L:=Mh (P:=P) (w:=w) (a:=⟨l.c,0,T⟩) j;have S:P.cellsOf e=sz:=by rw[Hr hi,hsz]
 have X:=Pd (P:=P) S U (l.tot/sz) 0 1 (Nat.zero_mod _) (by
  rw[Nat.zero_div];have:sz<=l.tot:=N;have:=Nat.div_pos this N;omega)
 rw[V]at j;have⟨hx,ae,rg,c1,c2,c3,c4,c5⟩:=XC hu;rw[c1];simp only[dB,fV hs,fV hd,bT,c3,c5];simp[L,variablesAt,j,kD hi,S,X]
end mem
section mem
variable{P:aX}
def ZE{o:Nat}{fr:Nat×Nat}(h:w.heap[c]?=Z (.cells f ty fr))(j:n≠0):
 (w.freeze ⟨c,o,T⟩ n).heap[c]?=Z (.cells f ty (if fr.1==fr.2 then(o,o+n)else(min fr.1 o,max fr.2<|o+n))):=by
 unfold World.freeze;rw[if_neg j];simp[jD,h]
def ZF{o:Nat}(h:c'≠c):(w.freeze ⟨c,o,T⟩ n).heap[c']?=w.heap[c']?:=by
 unfold World.freeze;split
 .rfl
 .simp[jD,qJ h]
def Sw:(w.freeze a n).heap.size=w.heap.size:=by
 unfold World.freeze;split
 .rfl
 .simp
def ZG{w:cZ}{a:Addr}{n:Nat}:(w.freeze a n).os=w.os/\(w.freeze a n).tape=w.tape/\(w.freeze a n).output=w.output:=by
 unfold World.freeze;split<;>exact⟨O,O,O⟩
def akK(cs:Array aH->aH->Array D->Sem D):Prop:=∃(j A:Sem Unit)(E1 B E:Sem D),∀(ats:Array aH)(ty:aH)(q:aC Addr)(k:gm)(z:Int),cs ats ty #[.pointer q,.int k z]=
    (do
     let n<-asInt (.int k z)
     let Z pt:=ats[0]?|E1
     if n<0 then j
     if n>IntKind.i64.max then A
     match q with
     |none=>
      if n=0 then pure (.string .empty)
      else B
     |some a=>
      if n=0 then pure (.string .empty)
      else if<-variablesAt a (<-elemOf pt) n.toNat then do
       let s<-loadBytes a .empty n.toNat
       freeze a n.toNat
       pure (.string s)
      else E)
theorem Sy(hf:akK cs)(S:RH m H w)(h:yL P ats args H=Z (v,Q))(ha:mX m args args'):
 yC P m H w (cs ⟨ats⟩ ty ⟨args'⟩) v Q:=by
 have⟨E2,E3,E1,E4,E5,A⟩:=hf;have⟨hl,h⟩:=gN h;have⟨pt,hpt,h⟩:=aM h;have⟨p,hp,h⟩:=aM h;have⟨nv,hnv,h⟩:=aM h;have⟨n,hn,h⟩:=aM h;rw[qw]at hpt hp hnv;rw[ig]at hl;have hl:=bA hl;have⟨p',hp0,hpp⟩:=ha.get 0 hp;have⟨n',hn0,hnn⟩:=ha.get 1 hnv;have an:J args'=2:=by rw[<-ha.length,hl]
 have he:args'=[p',n']:=by
  match args',an,hp0,hn0 with
  |[y,z],_,h0,I=>cases h0;cases I;rfl
 subst he;obtain⟨k,rfl⟩:=E7 hn;have:=hnn.of_int;subst this;have E:(⟨ats⟩:Array aH)[0]?=Z pt:=nZ hpt;have B:IntKind.i64.max=9223372036854775807:=rfl;have A:=A ⟨ats⟩ ty;cases n with
 |zero=>
  replace h:(gd (aB (uu p).1 1)<|Z (aJ ⟨⟨[]⟩⟩,H))=Z (v,Q):=h;have⟨L,h⟩:=gN h;cases h;have L:=bA L;have hv:=hpp.uu N
  have:∃a,p'=.pointer a:=by
   rcases F4 (x:=p') (by rw[hv];omega)with I|⟨_,_,_,_,I⟩|⟨_,_,I⟩|⟨_,_,_,_,I⟩|⟨_,I⟩|⟨_,_,_,I⟩|⟨_,I⟩
   .have⟨a,I,_⟩:=I;exact⟨a,I⟩
   all_goals(rw[hv]at I;rw[I]at L;simp at L)
  obtain⟨a,rfl⟩:=this;refine⟨m,_,w,?_,.sc _ O,S,Ex.refl _ _ _⟩;cases a with
  |none=>rw[A];simp[E,asInt,asIntOf,B];rfl
  |some a=>rw[A];simp[E,asInt,asIntOf,B];rfl
 |succ n=>
  replace h:(aN (sJ p) λa=>Xn P pt a (n+1) H)=Z (v,Q):=h;have⟨a,hav,h⟩:=aM h;have⟨d,hd,h⟩:=aM h;have⟨e,he,h⟩:=aM h;have⟨s,hs,h⟩:=aM h;have⟨az,hR,h⟩:=aM h;have⟨L,h⟩:=gN h;have⟨bs,hbs,h⟩:=aM h;cases h;rw[qX hav]at hpp;obtain⟨l,V,ao,a0,rfl⟩:=hpp.vG;have JQ:=vN hR;simp only[bE]at L;have⟨⟨⟨⟨g1,g2⟩,g3⟩,g4⟩,g5⟩:=L;have g2:az.ty=e:=bA g2;have g3:s=1:=bA g3;have g4:a.off+(n+1)<=az.n:=aF g4;have g5:=aF g5;have aq:P.underlying pt=Z (.pointer e):=by rw[hd,K8 he]
  have⟨i,hi,hsz⟩:=si hs;have hc:P.cellsOf e=1:=by rw[Hr hi,hsz,g3]
  have Y:=Mg S V JQ;rw[g2]at Y;have⟨f,fr,hb,hrn,W,h3,h4,h5,h6⟩:=row_of S V JQ
  have ar:H.read a.block a.off (n+1)=Z (Tr.FW top az.cells a.off<|n+1):=by
   show(aN (xN<|H.obj a.block) λw=>gd (aD (a_ a.off<|n+1) w.n)<|Z<|Tr.FW top w.cells a.off<|n+1)=_;rw[hR];show(gd (aD (a_ a.off<|n+1) az.n) _)=_;rw[show aD (a_ a.off<|n+1) az.n=F from aG g4];rfl
  have⟨vs',r1,r2,r3⟩:=Hq S ar V ao;have ab:=Pb hbs r1;have al:J bs=n+1:=by rw[<-r2,ab];simp
  have U:=Lib.run_loadBytes (P:=P) w bs ⟨l.c,l.base+(a.off-l.lo),T⟩ .empty λj x hj=>r3 j _ (by rw[ab];simp[hj]);rw[al]at U;have M:=Pd (P:=P) hc (ax _) l.tot (l.base+(a.off-l.lo)) (n+1) (Nat.mod_one _) (by rw[Nat.div_one];omega)
  have DR:wQ m l (.row ⟨az.ty,az.cells,az.n,az.mR,cr (aD az.fz<|a_ a.off<|n+1) (a_ a.off<|n+1) az.fz⟩)
   (.cells f az.ty (if fr.1==fr.2 then(l.base+(a.off-l.lo),l.base+(a.off-l.lo)+(n+1))else(min fr.1<|l.base+(a.off-l.lo),max fr.2<|l.base+(a.off-l.lo)+(n+1)))):=by
   refine⟨⟨O,base_of S V JQ⟩,hrn,W,h3,h4,?_,h6⟩;intro aE;have h5:=h5 aE
   have am:cr (aD az.fz<|a_ a.off<|n+1) (a_ a.off<|n+1) az.fz=max az.fz (a.off+(n+1)):=by
    by_cases hh:az.fz<=a.off+(n+1)
    .rw[show aD az.fz (a_ a.off<|n+1)=F from aG hh];exact(Nat.max_eq_right hh).symm
    .rw[show aD az.fz (a_ a.off<|n+1)=aA from by rw[<-dn];exactλg=>hh<|aF g];exact(xu<|Nat.le_of_not_le hh).symm
   show _<=l.base+(cr (aD az.fz<|a_ a.off<|n+1) (a_ a.off<|n+1) az.fz-l.lo);rw[am];split
   .simp only;omega
   .simp only;omega
  have K:=@ZG w ⟨l.c,l.base+(a.off-l.lo),T⟩<|n+1;have:=RH.update S a.block l _ _ V (by rw[JQ];simp) DR (ZE (o:=l.base+(a.off-l.lo)) hb<|p9 n) Sw (λc hc=>ZF hc) K.1 K.2.1 K.2.2;refine⟨m,_,w.freeze ⟨l.c,l.base+(a.off-l.lo),T⟩<|n+1,?_,.sc _ O,this.1,this.2⟩;have X:¬((n+1:Nat):Int)<0:=N;have ad:¬((9223372036854775807:Int)<((n+1:Nat):Int)):=N;have ap:((n+1:Nat):Int)≠0:=N;have ac:((n+1:Nat):Int).toNat=n+1:=N;rw[A];simp only[asInt,asIntOf,dB,dS,bT,E,B,X,ad,ap,lQ,gt_iff_lt,variablesAt,Y,elemOf,fV aq,run_program,run_shape,ac,hc,Nat.div_one,M,lG,U,run_freeze];have ag:ByteArray.empty.data++bs.toArray=(⟨bs⟩:Array UInt8):=by rw[<-jN];simp
  rw[ag]
end mem
end Go.Ae
