/-
  Part 01 of the proof. No condition.
-/
import Derived.Test.YtpngmpbmokhmiaaGreatDoorRows
import Derived.Test.YtpngmpbmokhmiaaGreatDoorProg
import Derived.Below
import Derived.RowKit3
import Derived.Lib.Bytealg
import Derived.Calls
import Derived.Control
import Derived.Orders
import Derived.Scope
import Derived.Laws.Externs
import Derived.Laws.Tables
import Derived.Lib.UnsafeStr
import Derived.Lib.ConvBytes
import Derived.Laws.BytesString
import Derived.Laws.IdiomStrings
import Derived.Laws.Sem
import Derived.Laws.Cells
import Derived.Laws.World
import Derived.Laws.StructEq
import Derived.IntWalk
import Derived.Laws.Strings
import Derived.ChangeKeysEq
import Derived.Sort.AssemblyPlain
import Derived.Sort.Grow
import Derived.ProofKit
import Derived.OpenShut
import Derived.Carry
import Derived.Deep.Slices
import Derived.Deep.Fields
import Derived.ChangeSame
import Derived.LaidMore
import Derived.Lay
import Derived.JoinedOf
import Derived.SevenTiedAt
import Derived.Stop.Joined
set_option linter.unusedVariables false
set_option linter.unusedSimpArgs false
set_option maxRecDepth 100000
set_option maxHeartbeats 4000000
set_option linter.defProp false
open Option renaming some->Z,none->T,rec->aQ
open Bool renaming true->f,false->aA,rec->ik
open Go renaming Value->C,TypeId->aI,Program->aX,World->cZ,Operand->cz,IntKind->f_,TypeDesc->fK,BinOp->tH
open Go.Value renaming int->a_,slice->J,bool->aO,string->aJ,pointer->bG,agg->dN
open Nat renaming rec->kD,beq->aB,succ->dh,ble->aD,add->bq,mul->bP,sub->dP
open List renaming rec->dF,length->u,replicate->aY
open Go.TypeDesc renaming rec->kP
open UInt8 renaming ofNat->jP
open Go.Region renaming binds->gY
open Go.Sem renaming run_bind->dD,run_pure->dR
open Go.Result renaming andThen_ok->bR
open Go.Instr renaming sureAddr->kG,sliceAt->l_,checkKey->iE,findNow->lH
open Go.ByteArray renaming toList_eq->jc
open Go.Builtin renaming len_->lU,lenOf->mg,firstCells->eG,append_->mh
open Go.Lib renaming bytesCells->kH
def O := @rfl
abbrev D:=List
abbrev aC:=Option
abbrev aZ:=ByteArray
def jj:=@if_pos
def jx:=@if_neg
noncomputable section
def N{p:Prop}(h:p:=by omega):p:=h
def fQ{p:Prop}(h:p:=by kernel_rfl):p:=h
def yX{p:Prop}(h:p:=by intros;rfl):p:=h
def jg{p:Prop}(h:p:=by decide):p:=h
def gB{p:Prop}(h:p:=by simp):p:=h
def N7{p:Prop}(h:p:=by simp;omega):p:=h
def om{p q:Prop}(h:p)(ay:p->q:=by intro h;simpa using h):q:=ay h
def uF:=@Array.ext_getElem?
def iG:=@Array.getD_eq_getD_getElem?
def tL:=@Array.getElem?_append_left
def bI:=@Array.getElem?_eq_getElem
def eX:=@Array.getElem?_eq_some_iff
def wC:=@Array.getElem?_mapIdx
def jA:=@Array.getElem?_modify
def qj:=@Array.getElem?_push
def lq:=@Array.getElem?_setIfInBounds_ne
def fC:=@Array.getElem?_toList
def qo:=@Array.length_toList
def jJ:=@Array.toList_inj
def bE:=@Bool.and_eq_true
def pK:=@Bool.and_false
def fM:=@Bool.eq_iff_iff
def dG:=@Bool.false_eq_true
def sZ:=@Bool.false_or
def dw:=@Bool.not_eq_true
def nQ:=@Bool.not_eq_true'
def rV:=@Bool.not_false
def vI:=@Bool.not_true
def lu:=@Bool.or_eq_true
def nR:=@Bool.or_false
def nS:=@Bool.true_and
def rF:=@ByteArray.data_extract
def vJ:=@ByteArray.ext
def gQ:=@Classical.byContradiction
def mZ:=@Classical.choose_spec
def uw:=@Decidable.byContradiction
def tN:=@Int.fdiv_eq_ediv_of_nonneg
def lX:=@Int.le_refl
def wQ:=@Int.le_trans
def jG:=@Int.natCast_nonneg
def kV:=@Int.toNat_natCast
def gT:=@List.Perm.append_left
def rG:=@List.Perm.append_right
def rW:=@List.Perm.refl
def uL:=@List.Perm.symm
def yB:=@List.all_cons
def fD:=@List.all_eq_true
def cK:=@List.append_assoc
def xK:=@List.append_eq
def bF:=@List.append_nil
def wD:=@List.concat_eq_append
def kK:=@List.cons.inj
def bQ:=@List.cons_append
def oL:=@List.dropLast_concat_getLast
def rX:=@List.drop_append_of_le_length
def pM:=@List.drop_drop
def eH:=@List.drop_eq_getElem_cons
def rJ:=@List.drop_of_length_le
def tV:=@List.drop_succ_cons
def jQ:=@List.drop_zero
def iL:=@List.eq_nil_of_length_eq_zero
def wE:=@List.eq_nil_or_concat
def qp:=@List.eq_of_mem_replicate
def ja:=@List.ext_getElem
def iQ:=@List.ext_getElem?
def uG:=@List.filter_append
def pX:=@List.filter_cons
def uy:=@List.findIdx?_eq_none_iff
def lY:=@List.flatMap_cons
def iR:=@List.foldl_append
def lz:=@List.foldl_cons
def wY:=@List.forIn_cons
def aW:=@List.getD_eq_getElem?_getD
def rM:=@List.getElem!_toArray
def tq:=@List.getElem?_append
def bZ:=@List.getElem?_append_left
def eB:=@List.getElem?_append_right
def iA:=@List.getElem?_cons_succ
def uT:=@List.getElem?_cons_zero
def qW:=@List.getElem?_drop
def av:=@List.getElem?_eq_getElem
def dB:=@List.getElem?_eq_none
def bK:=@List.getElem?_eq_some_iff
def bL:=@List.getElem?_map
def tX:=@List.getElem?_range
def lZ:=@List.getElem?_replicate
def dX:=@List.getElem?_set
def iq:=@List.getElem?_take
def wF:=@List.getElem?_toArray
def jy:=@List.getElem_append_left
def iD:=@List.getElem_map
def bH:=@List.getElem_mem
def iM:=@List.getElem_of_mem
def lQ:=@List.getElem_range
def vU:=@List.getElem_set
def wG:=@List.getElem_set_self
def nT:=@List.getElem_take
def aU:=@List.length_append
def cO:=@List.length_cons
def vW:=@List.length_drop
def eP:=@List.length_eq_zero_iff
def m_:=@List.length_filter_le
def aM:=@List.length_map
def qG:=@List.length_nil
def l6:=@List.length_range
def jX:=@List.length_replicate
def bU:=@List.length_set
def sG:=@List.length_singleton
def dS:=@List.length_take
def xL:=@List.mapM_cons
def dK:=@List.map_append
def i_:=@List.map_cons
def uz:=@List.map_map
def kI:=@List.map_nil
def ko:=@List.map_replicate
def gW:=@List.map_set
def qA:=@List.map_take
def vX:=@List.map_toArray
def cB:=@List.mem_append
def dM:=@List.mem_append_left
def dL:=@List.mem_append_right
def bW:=@List.mem_cons
def bJ:=@List.mem_cons_of_mem
def aK:=@List.mem_cons_self
def sV:=@List.mem_flatMap
def kL:=@List.mem_iff_getElem
def bT:=@List.mem_map
def fq:=@List.mem_nil_iff
def aT:=@List.mem_of_getElem?
def lV:=@List.mem_of_mem_drop
def fG:=@List.mem_of_mem_take
def iT:=@List.mem_or_eq_of_mem_set
def jR:=@List.mem_range
def aS:=@List.mem_singleton
def bX:=@List.nil_append
def l7:=@List.nodup_append
def jD:=@List.nodup_cons
def ji:=@List.nodup_nil
def nU:=@List.pairwise_append
def lI:=@List.pairwise_iff_getElem
def jE:=@List.pairwise_singleton
def aG:=@List.perm_append_comm
def mH:=@List.perm_append_comm_assoc
def jK:=@List.perm_middle
def iO:=@List.prefix_refl
def wZ:=@List.range_succ
def nV:=@List.set_append_left
def sH:=@List.set_append_right
def kC:=@List.set_cons_succ
def qX:=@List.set_cons_zero
def sI:=@List.set_getElem_self
def fB:=@List.sublist_append_left
def nL:=@List.sum_append
def tY:=@List.sum_append_nat
def qB:=@List.sum_cons
def zB:=@List.sum_nil
def dU:=@List.take_add_one
def jb:=@List.take_append_drop
def lS:=@List.take_append_of_le_length
def xM:=@List.take_left
def jL:=@List.take_length
def dV:=@List.take_of_length_le
def jS:=@List.take_succ_cons
def kR:=@List.take_zero
def iH:=@Nat.add_mul
def jo:=@Nat.add_sub_cancel
def kM:=@Nat.add_sub_cancel_left
def dZ:=@Nat.add_zero
def kS:=@Nat.beq_eq
def dW:=@Nat.beq_refl
def aH:=@Nat.ble_eq_true_of_le
def vY:=@Nat.div_eq_of_lt
def bA:=@Nat.eq_of_beq_eq_true
def gX:=@Nat.eq_zero_or_pos
def uU:=@Nat.exists_eq_add_of_le
def qH:=@Nat.le_add_left
def pY:=@Nat.le_add_right
def nM:=@Nat.le_max_left
def kE:=@Nat.le_max_right
def uV:=@Nat.le_mul_of_pos_right
def aF:=@Nat.le_of_ble_eq_true
def rQ:=@Nat.le_of_eq
def pZ:=@Nat.le_of_not_lt
def ax:=@Nat.le_refl
def jr:=@Nat.le_succ
def uW:=@Nat.le_succ_of_le
def aR:=@Nat.le_trans
def mI:=@Nat.lt_irrefl
def aP:=@Nat.lt_of_lt_of_le
def dH:=@Nat.lt_or_ge
def pz:=@Nat.lt_succ_of_le
def dI:=@Nat.lt_succ_self
def kW:=@Nat.lt_trichotomy
def w9:=@Nat.max_eq_left
def jF:=@Nat.min_eq_left
def vZ:=@Nat.min_eq_right
def v_:=@Nat.mod_eq_of_lt
def o8:=@Nat.mod_lt
def wR:=@Nat.mul_comm
def jk:=@Nat.mul_le_mul
def g_:=@Nat.mul_le_mul_left
def fH:=@Nat.mul_le_mul_right
def dY:=@Nat.mul_one
def uX:=@Nat.mul_pos
def fI:=@Nat.not_le_of_lt
def fu:=@Nat.not_lt_of_le
def iN:=@Nat.not_lt_zero
def uY:=@Nat.or_lt_two_pow
def lW:=@Nat.pow_le_pow_right
def tu:=@Nat.pow_lt_pow_right
def uA:=@Nat.shiftRight_eq_div_pow
def kJ:=@Nat.sub_self
def mD:=@Nat.sub_zero
def wh:=@Nat.succ_le_succ
def jN:=@Nat.succ_mul
def p8:=@Nat.succ_ne_zero
def wS:=@Nat.succ_pos
def qz:=@Nat.testBit_eq_decide_div_mod_eq
def rO:=@Nat.testBit_lt_two_pow
def xN:=@Nat.testBit_or
def w_:=@Nat.two_pow_pos
def bB:=@Nat.zero_add
def bD:=@Nat.zero_le
def jq:=@Nat.zero_mul
def qI:=@Ne.symm
def p9:=@Option.getD_some
def eO:=@Option.some.inj
def uZ:=@Option.some.injEq
def zC:=@Prod.ext_iff
def yC:=@Prod.mk.injEq
def zf:=@and_true
def tZ:=@beq_eq_false_iff_ne
def ni:=@beq_iff_eq
def yY:=@cond_false
def zQ:=@cond_true
def eY:=@congrArg
def wm:=@decide_eq_decide
def dQ:=@decide_eq_false
def bY:=@decide_eq_true
def kX:=@decide_eq_true_eq
def wT:=@getElem!_pos
def lN:=@if_false
def lC:=@if_true
def nW:=@not_false_eq_true
def u_:=@not_true_eq_false
def oQ:=@of_decide_eq_false
def gF:=@of_decide_eq_true
def je:=@or_false
namespace Go.Ae
variable{e kt s t t2 ty:aI}{i' k' v v' x x' y y' z:C}{w w':cZ}{i:TypeInfo}{b ok:Bool}{d d2 du:fK}{α β:Type}{X' args args' old old' rest vs vs' ys zs:D C}{ats:D aI}{es:D (C×C)}{c c' cap cc cp h k ln mm n r sz:Nat}{a:Addr}{fs:D Field}{ay:Array aI->aI->Array C->Sem C}{op:tH}{q:aI×Nat}{p:aC Addr×Nat×Nat}{hi hi' lo lo' mx XC:aC C}{ks:D Nat}{Bo l':D MapEntry}{o ob:Obj}{ox oy:cz}{F:Array C}{ps ps':D (Nat×C)}{g:Field}
def qJ{a:Bool}(x:a=f)(y:b=f):(a&&b)=f:=by rw[x,y];rfl
inductive Tr(α:Type)where
 |nil
 |node(l:Tr α)(v:α)(r:Tr α)
namespace Tr
variable{α:Type}
def get(d:α)(t:Tr α):Nat->α:=
 @Tr.rec α (λ_=>Nat->α) (λ_=>d)
  (λ_ v _ j A k=>@kD (λ_=>α) v (λk _=>@ik (λ_=>α) (A<|Nat.div k 2) (j<|Nat.div k 2)<|aB (Nat.mod k 2) 0) k) t
def Sb(d:α)(x:α):Nat->Tr α->Nat->Tr α:=
 @kD (λ_=>Tr α->Nat->Tr α) (λt _=>t) (λ_ j t k=>
  @kD (λ_=>Tr α) (@Tr.rec α (λ_=>Tr α) (.node .nil x .nil) (λl _ r _ _=>.node l x r) t)
   (λk _=>@Tr.rec α (λ_=>Tr α)
    (@ik (λ_=>Tr α) (.node .nil d<|j .nil<|Nat.div k 2) (.node (j .nil<|Nat.div k 2) d .nil)<|aB (Nat.mod k 2) 0)
    (λl v r _ _=>@ik (λ_=>Tr α) (.node l v<|j r<|Nat.div k 2) (.node (j l<|Nat.div k 2) v r)<|aB (Nat.mod k 2) 0) t) k)
def set(d:α)(t:Tr α)(k:Nat)(x:α):Tr α:=Sb d x (dh k) t k
def get_nil(d:α)(k:Nat):(Tr.nil:Tr α).get d k=d:=by cases k<;>rfl
def G4(d:α)(l:Tr α)(v:α)(r:Tr α):(Tr.node l v r).get d 0=v:=rfl
def Ai(d:α)(l:Tr α)(v:α)(r:Tr α)(k:Nat):(Tr.node l v r).get d (k+1)=bif aB (k %2) 0 then l.get d (k/2)else r.get d (k/2):=by
 show @ik (λ_=>α) (r.get d<|k/2) (l.get d<|k/2) (aB (k %2) 0)=_;cases aB (k %2) 0<;>rfl
def afy(k:Nat):aB (k %2) 0=decide (k %2=0):=by
 rw[fM];simp[kS]
def aaZ(d:α)(ay k:Nat)(x:α):Sb d x (ay+1) .nil (k+1)=bif aB (k %2) 0 then .node (Sb d x ay .nil<|k/2) d .nil else .node .nil d (Sb d x ay .nil<|k/2):=by
 show @ik (λ_=>Tr α) _ _ (aB (k %2) 0)=_;cases aB (k %2) 0<;>rfl
def Zk(d:α)(ay k:Nat)(x:α)(l:Tr α)(v:α)(r:Tr α):Sb d x (ay+1) (.node l v r) (k+1)=bif aB (k %2) 0 then .node (Sb d x ay l<|k/2) v r else .node l v (Sb d x ay r<|k/2):=by
 show @ik (λ_=>Tr α) _ _ (aB (k %2) 0)=_;cases aB (k %2) 0<;>rfl
def aa0(d:α)(ay:Nat):∀(t:Tr α)(k:Nat)(x:α)(j:Nat),k<ay->
 (Sb d x ay t k).get d j=if j=k then x else t.get d j:=by
 induction ay with
 |zero=>intro t k x j h;omega
 |succ ay B=>
  intro t k x j h;cases k with
  |zero=>
   cases t with
   |nil=>
    show(Tr.node .nil x .nil).get d j=_;cases j with
    |zero=>simp[G4]
    |succ j=>rw[Ai,get_nil,jx N,get_nil];cases aB (j %2) 0<;>rfl
   |node l v r=>
    show(Tr.node l x r).get d j=_;cases j with
    |zero=>simp[G4]
    |succ j=>rw[Ai,Ai,jx N]
  |succ k=>
   have A:k/2<ay:=N;cases t with
   |nil=>
    rw[aaZ];cases j with
    |zero=>cases hb:aB (k %2) 0<;>simp[G4,get_nil]
    |succ j=>
     by_cases hjk:j=k
     .subst hjk;cases hb:aB (j %2) 0<;>simp only[zQ,yY,Ai,hb,B _ _ _ _ A,lC]
     .rw[jx N];cases hb:aB (k %2) 0<;>cases hc:aB (j %2) 0<;>simp only[zQ,yY,Ai,hc,get_nil]
      .rw[B _ _ _ _ A,jx,get_nil];rw[afy]at hb hc;simp at hb hc;omega
      .rw[B _ _ _ _ A,jx,get_nil];rw[afy]at hb hc;simp at hb hc;omega
   |node l v r=>
    rw[Zk];cases j with
    |zero=>cases hb:aB (k %2) 0<;>simp[G4]
    |succ j=>
     by_cases hjk:j=k
     .subst hjk;cases hb:aB (j %2) 0<;>simp only[zQ,yY,Ai,hb,B _ _ _ _ A,lC]
     .rw[jx N];cases hb:aB (k %2) 0<;>cases hc:aB (j %2) 0<;>simp only[zQ,yY,Ai,hc]
      .rw[B _ _ _ _ A,jx];rw[afy]at hb hc;simp at hb hc;omega
      .rw[B _ _ _ _ A,jx];rw[afy]at hb hc;simp at hb hc;omega
def wU(d:α)(t:Tr α)(k:Nat)(x:α)(j:Nat):(t.set d k x).get d j=if j=k then x else t.get d j:=
 aa0 d (k+1) t k x j N
def uS(d:α)(l:D α):Nat->Tr α->Tr α:=
 @dF α (λ_=>Nat->Tr α->Tr α) (λ_ t=>t) (λx _ j k t=>j (dh k)<|t.set d k x) l
def afz(d:α)(k:Nat)(t:Tr α):uS d [] k t=t:=rfl
def aa1(d:α)(x:α)(l:D α)(k:Nat)(t:Tr α):uS d (x::l) k t=uS d l (k+1) (t.set d k x):=rfl
theorem oh(d:α):∀(l:D α)(k:Nat)(t:Tr α)(j:Nat),
 (uS d l k t).get d j=if k<=j/\j<k+u l then l.getD (j-k) d else t.get d j:=by
 intro l
 induction l with
 |nil=>intro k t j;simp[afz];intro I B;omega
 |cons x l A=>
  intro k t j;simp only[aa1,A,wU,cO]
  by_cases h:k+1<=j/\j<k+1+u l
  .rw[jj h,jj N,show j-k=(j-(k+1))+1 from N];rfl
  .rw[jx h]
   by_cases hj:j=k
   .subst hj;simp
   .rw[jx hj,jx N]
def FX(d:α)(t:Tr α)(k n:Nat):D α:=
 @kD (λ_=>Nat->D α) (λ_=>[]) (λ_ j k=>t.get d k::j (dh k)) n k
def DW(d:α)(t:Tr α)(k:Nat):FX d t k 0=[]:=rfl
def zg(d:α)(t:Tr α)(k n:Nat):FX d t k (n+1)=t.get d k::FX d t (k+1) n:=rfl
end Tr
def aN{α β:Type}(o:aC α)(k:α->aC β):aC β:=
 @aQ α (λ_=>(α->aC β)->aC β) (λ_=>T) (λx k=>k x) o k
def LG(x:α)(k:α->aC β):aN (Z x) k=k x:=rfl
def aL{o:aC α}{k:α->aC β}{r:β}(h:aN o k=Z r):∃x,o=Z x/\k x=Z r:=by
 cases o with
 |none=>cases h
 |some x=>exact⟨x,O,h⟩
def gd{β:Type}(b:Bool)(o:aC β):aC β:=
 @ik (λ_=>aC β->aC β) (λ_=>T) (λo=>o) b o
def gJ{o:aC β}{r:β}(h:gd b o=Z r):b=f/\o=Z r:=by
 cases b with
 |false=>cases h
 |true=>exact⟨O,h⟩
def Bh(o:aC β):gd f o=o:=rfl
def b_{β:Type}(b:Bool)(x y:β):β:=@ik (λ_=>β->β->β) (λ_ y=>y) (λx _=>x) b x y
def oU(x y:β):b_ f x y=x:=rfl
def lK(x y:β):b_ aA x y=y:=rfl
def nth{α:Type}(l:D α):Nat->aC α:=
 @dF α (λ_=>Nat->aC α) (λ_=>T) (λx _ j k=>@kD (λ_=>aC α) (Z x) (λk _=>j k) k) l
def qw(l:D α):∀k,nth l k=l[k]?:=by
 induction l with
 |nil=>intro k;cases k<;>rfl
 |cons x l j=>intro k;cases k with
  |zero=>rfl
  |succ k=>exact(j k).trans<|gB
def len{α:Type}(l:D α):Nat:=@dF α (λ_=>Nat) 0 (λ_ _ n=>dh n) l
def h_(l:D α):len l=u l:=by
 induction l with
 |nil=>rfl
 |cons x l j=>exact eY dh j
def mp{α β:Type}(ay:α->β)(l:D α):D β:=@dF α (λ_=>D β) [] (λx _ r=>ay x::r) l
def G5(ay:α->β)(l:D α):mp ay l=l.map ay:=by
 induction l with
 |nil=>rfl
 |cons x l j=>exact eY (ay x::·) j
def app{α:Type}(a b:D α):D α:=@dF α (λ_=>D α) b (λx _ r=>x::r) a
def uH(a b:D α):app a b=a++b:=by
 induction a with
 |nil=>rfl
 |cons x l j=>exact eY (x::·) j
def all'{α:Type}(ay:α->Bool)(l:D α):Bool:=@dF α (λ_=>Bool) f (λx _ r=>b_ (ay x) r aA) l
def all_eq(ay:α->Bool)(l:D α):all' ay l=l.all ay:=by
 induction l with
 |nil=>rfl
 |cons x l j=>
  show b_ (ay x) (all' ay l) aA=_;rw[j,yB];cases ay x<;>rfl
def tk{α:Type}(n:Nat):D α->D α:=@kD (λ_=>D α->D α) (λ_=>[]) (λ_ j l=>@dF α (λ_=>D α) [] (λx r _=>x::j r) l) n
def FF(n:Nat):∀(l:D α),tk n l=l.take n:=by
 induction n with
 |zero=>intro l;show[]=l.take 0;simp
 |succ n j=>intro l;cases l with
  |nil=>rfl
  |cons x l=>exact eY (x::·)<|j l
def dp{α:Type}(n:Nat):D α->D α:=@kD (λ_=>D α->D α) (λl=>l) (λ_ j l=>@dF α (λ_=>D α) [] (λ_ r _=>j r) l) n
def OP(n:Nat):∀(l:D α),dp n l=l.drop n:=by
 induction n with
 |zero=>intro l;rfl
 |succ n j=>intro l;cases l with
  |nil=>rfl
  |cons x l=>exact j l
structure Row where
 ty:aI
 cells:Tr C
 n:Nat
 mR:Bool
 fz:Nat
inductive nI where
 |dead
 |row(r:Row)
 |map(es:D<|C×C)
 |OQ(s:aZ)(pos:Nat)
def xH(o:nI):aC Row:=@nI.rec (λ_=>aC Row) T (λr=>Z r) (λ_=>T) (λ_ _=>T) o
def LH(o:nI):aC (D<|C×C):=@nI.rec (λ_=>aC<|D<|C×C) T (λ_=>T) (λm=>Z m) (λ_ _=>T) o
def vK{o:nI}{r:Row}(h:xH o=Z r):o=.row r:=by cases o<;>cases h;rfl
def K7{o:nI}{r:D (C×C)}(h:LH o=Z r):o=.map r:=by cases o<;>cases h;rfl
def top:C:=.chan<|Z 0
structure R where
 xI:Tr nI
 bV:Nat
 low:Nat
variable{H Q:R}
def R.obj(H:R)(r:Nat):nI:=H.xI.get .dead r
def R.put(H:R)(r:Nat)(o:nI):R:=⟨H.xI.set .dead r o,H.bV,b_ (aD H.low r) H.low r⟩
def R.new(H:R)(o:nI):R:=⟨H.xI.set .dead H.bV o,dh H.bV,H.low⟩
def rowOf(ty:aI)(vs:D C):nI:=.row ⟨ty,Tr.uS top vs 0 .nil,len vs,aA,0⟩
def gK(es:Nat):Nat:=bq 18446744073709551616 es
def gZ(c:Nat):Bool:=aD c 9223372036854775807
def gI(v:C):Bool:=
 @Value.rec (λ_=>Bool) (λ_=>PUnit) (λ_=>PUnit)
  (λ_=>f)
  (λ_ _=>f)
  (λ_ _=>f)
  (λ_ _ _=>f)
  (λ_=>f)
  (λ_=>f)
  (λ_ _ _=>f)
  (λ_=>f)
  (λr=>aA)
  (λ_ _ _ _ _=>f)
  (f)
  (λ_ _ _=>f)
  (f)
  (λF _=>aA)
  (λvs _=>aA)
  (λ_ _=>⟨⟩) ⟨⟩ (λ_ _ _ _=>⟨⟩) v
def rP(v:C):Bool:=
 @Value.rec (λ_=>Bool) (λ_=>PUnit) (λ_=>PUnit)
  (λ_=>f)
  (λ_ _=>f)
  (λ_ _=>f)
  (λ_ _ _=>f)
  (λ_=>f)
  (λ_=>f)
  (λ_ _ _=>f)
  (λ_=>f)
  (λr=>aA)
  (λ_ _ _ _ _=>f)
  (f)
  (λ_ _ _=>f)
  (f)
  (λ_ _=>f)
  (λ_ _=>f)
  (λ_ _=>⟨⟩) ⟨⟩ (λ_ _ _ _=>⟨⟩) v
def sJ(v:C):aC Addr:=
 @Value.rec (λ_=>aC Addr) (λ_=>PUnit) (λ_=>PUnit)
  (λ_=>T)
  (λ_ _=>T)
  (λ_ _=>T)
  (λ_ _ _=>T)
  (λ_=>T)
  (λa=>a)
  (λ_ _ _=>T)
  (λ_=>T)
  (λ_=>T)
  (λ_ _ _ _ _=>T)
  (T)
  (λ_ _ _=>T)
  (T)
  (λ_ _=>T)
  (λ_ _=>T)
  (λ_ _=>⟨⟩) ⟨⟩ (λ_ _ _ _=>⟨⟩) v
def kT(v:C):aC Bool:=
 @Value.rec (λ_=>aC Bool) (λ_=>PUnit) (λ_=>PUnit)
  (λb=>Z b)
  (λ_ _=>T)
  (λ_ _=>T)
  (λ_ _ _=>T)
  (λ_=>T)
  (λ_=>T)
  (λ_ _ _=>T)
  (λ_=>T)
  (λ_=>T)
  (λ_ _ _ _ _=>T)
  (T)
  (λ_ _ _=>T)
  (T)
  (λ_ _=>T)
  (λ_ _=>T)
  (λ_ _=>⟨⟩) ⟨⟩ (λ_ _ _ _=>⟨⟩) v
def vg(v:C):aC (f_×Int):=
 @Value.rec (λ_=>aC<|f_×Int) (λ_=>PUnit) (λ_=>PUnit)
  (λ_=>T)
  (λk n=>Z (k,n))
  (λ_ _=>T)
  (λ_ _ _=>T)
  (λ_=>T)
  (λ_=>T)
  (λ_ _ _=>T)
  (λ_=>T)
  (λ_=>T)
  (λ_ _ _ _ _=>T)
  (T)
  (λ_ _ _=>T)
  (T)
  (λ_ _=>T)
  (λ_ _=>T)
  (λ_ _=>⟨⟩) ⟨⟩ (λ_ _ _ _=>⟨⟩) v
def LJ(n:Int):aC Nat:=@Int.rec (λ_=>aC Nat) (λm=>Z m) (λ_=>T) n
def AZ(v:C):aC Nat:=
 @Value.rec (λ_=>aC Nat) (λ_=>PUnit) (λ_=>PUnit)
  (λ_=>T)
  (λk n=>LJ n)
  (λ_ _=>T)
  (λ_ _ _=>T)
  (λ_=>T)
  (λ_=>T)
  (λ_ _ _=>T)
  (λ_=>T)
  (λ_=>T)
  (λ_ _ _ _ _=>T)
  (T)
  (λ_ _ _=>T)
  (T)
  (λ_ _=>T)
  (λ_ _=>T)
  (λ_ _=>⟨⟩) ⟨⟩ (λ_ _ _ _=>⟨⟩) v
def vL(v:C):aC aZ:=
 @Value.rec (λ_=>aC aZ) (λ_=>PUnit) (λ_=>PUnit)
  (λ_=>T)
  (λ_ _=>T)
  (λ_ _=>T)
  (λ_ _ _=>T)
  (λs=>Z s)
  (λ_=>T)
  (λ_ _ _=>T)
  (λ_=>T)
  (λ_=>T)
  (λ_ _ _ _ _=>T)
  (T)
  (λ_ _ _=>T)
  (T)
  (λ_ _=>T)
  (λ_ _=>T)
  (λ_ _=>⟨⟩) ⟨⟩ (λ_ _ _ _=>⟨⟩) v
def Ku(v:C):aC (aC Addr×Nat×Nat):=
 @Value.rec (λ_=>aC<|aC Addr×Nat×Nat) (λ_=>PUnit) (λ_=>PUnit)
  (λ_=>T)
  (λ_ _=>T)
  (λ_ _=>T)
  (λ_ _ _=>T)
  (λ_=>T)
  (λ_=>T)
  (λa l c=>Z (a,l,c))
  (λ_=>T)
  (λ_=>T)
  (λ_ _ _ _ _=>T)
  (T)
  (λ_ _ _=>T)
  (T)
  (λ_ _=>T)
  (λ_ _=>T)
  (λ_ _=>⟨⟩) ⟨⟩ (λ_ _ _ _=>⟨⟩) v
def Oa(v:C):aC (aC Nat):=
 @Value.rec (λ_=>aC<|aC Nat) (λ_=>PUnit) (λ_=>PUnit)
  (λ_=>T)
  (λ_ _=>T)
  (λ_ _=>T)
  (λ_ _ _=>T)
  (λ_=>T)
  (λ_=>T)
  (λ_ _ _=>T)
  (λr=>Z r)
  (λ_=>T)
  (λ_ _ _ _ _=>T)
  (T)
  (λ_ _ _=>T)
  (T)
  (λ_ _=>T)
  (λ_ _=>T)
  (λ_ _=>⟨⟩) ⟨⟩ (λ_ _ _ _=>⟨⟩) v
def fFn(ay:Fn):aC FuncId:=@Fn.rec (λ_=>aC FuncId) (λay=>Z ay) (λ_=>T) (λ_ _=>T) (λ_ _ _ _=>T) (λ_=>T) ay
def vFn(v:C):aC (Fn×D C×D C):=
 @Value.rec (λ_=>aC<|Fn×D C×D C) (λ_=>PUnit) (λ_=>PUnit)
  (λ_=>T)
  (λ_ _=>T)
  (λ_ _=>T)
  (λ_ _ _=>T)
  (λ_=>T)
  (λ_=>T)
  (λ_ _ _=>T)
  (λ_=>T)
  (λ_=>T)
  (λay x y _ _=>Z (ay,x.toList,y.toList))
  (T)
  (λ_ _ _=>T)
  (T)
  (λ_ _=>T)
  (λ_ _=>T)
  (λ_ _=>⟨⟩) ⟨⟩ (λ_ _ _ _=>⟨⟩) v
def vM(v:C):aC (D C):=
 @Value.rec (λ_=>aC<|D C) (λ_=>PUnit) (λ_=>PUnit)
  (λ_=>T)
  (λ_ _=>T)
  (λ_ _=>T)
  (λ_ _ _=>T)
  (λ_=>T)
  (λ_=>T)
  (λ_ _ _=>T)
  (λ_=>T)
  (λ_=>T)
  (λ_ _ _ _ _=>T)
  (T)
  (λ_ _ _=>T)
  (T)
  (λF _=>Z F.toList)
  (λ_ _=>T)
  (λ_ _=>⟨⟩) ⟨⟩ (λ_ _ _ _=>⟨⟩) v
def aa2(v:C):aC (D C):=
 @Value.rec (λ_=>aC<|D C) (λ_=>PUnit) (λ_=>PUnit)
  (λ_=>T)
  (λ_ _=>T)
  (λ_ _=>T)
  (λ_ _ _=>T)
  (λ_=>T)
  (λ_=>T)
  (λ_ _ _=>T)
  (λ_=>T)
  (λ_=>T)
  (λ_ _ _ _ _=>T)
  (T)
  (λ_ _ _=>T)
  (T)
  (λ_ _=>T)
  (λvs _=>Z vs.toList)
  (λ_ _=>⟨⟩) ⟨⟩ (λ_ _ _ _=>⟨⟩) v
def fT{α:Type}(o:aC α):Bool:=@aQ α (λ_=>Bool) f (λ_=>aA) o
def t_(v:C):Nat×Bool:=
 @Value.rec (λ_=>Nat×Bool) (λ_=>PUnit) (λ_=>PUnit)
  (λ_=>(0,aA))
  (λ_ _=>(0,aA))
  (λ_ _=>(0,aA))
  (λ_ _ _=>(0,aA))
  (λ_=>(0,aA))
  (λa=>(1,fT a))
  (λa l c=>(2,fT a))
  (λr=>(3,fT r))
  (λ_=>(0,aA))
  (λay x y _ _=>(4,aA))
  ((4,f))
  (λt v _=>(5,aA))
  ((5,f))
  (λ_ _=>(0,aA))
  (λ_ _=>(0,aA))
  (λ_ _=>⟨⟩) ⟨⟩ (λ_ _ _ _=>⟨⟩) v
def LK(v:C):Bool:=
 @Value.rec (λ_=>Bool) (λ_=>PUnit) (λ_=>PUnit)
  (λ_=>aA)
  (λ_ _=>aA)
  (λ_ _=>aA)
  (λ_ _ _=>aA)
  (λ_=>aA)
  (λa=>fT a)
  (λ_ _ _=>aA)
  (λr=>fT r)
  (λ_=>aA)
  (λ_ _ _ _ _=>aA)
  (f)
  (λ_ _ _=>aA)
  (f)
  (λ_ _=>aA)
  (λ_ _=>aA)
  (λ_ _=>⟨⟩) ⟨⟩ (λ_ _ _ _=>⟨⟩) v
def rY{α:Type}(o:aC α):Bool:=@aQ α (λ_=>Bool) aA (λ_=>f) o
def cr(v:C):D C:=@aQ (D C) (λ_=>D C) [v] (λl=>l)<|vM v
def oZ(v:C):Bool:=
 @Value.rec (λ_=>Bool) (λ_=>PUnit) (λ_=>PUnit)
  (λb=>f)
  (λk n=>f)
  (λk b=>f)
  (λk x y=>f)
  (λs=>f)
  (λa=>fT a)
  (λa l c=>fT a&&aB l 0&&aB c 0)
  (λr=>fT r)
  (λ_=>aA)
  (λ_ _ _ _ _=>aA)
  (f)
  (λ_ _ _=>aA)
  (f)
  (λ_ _=>aA)
  (λ_ _=>aA)
  (λ_ _=>⟨⟩) ⟨⟩ (λ_ _ _ _=>⟨⟩) v
def CL(d:fK):Nat:=
 @kP (λ_=>Nat)
  (0) (0) (λ_=>0) (λ_=>0) (λ_=>0) (0) (0) (λe=>1) (λe=>2) (λ_ _=>0) (λk e=>3) (λ_ _=>0) (λ_=>0) (λp r v=>4) (λj=>5) (λ_=>0) (λ_ _=>0) d
def dSl(d:fK):aC aI:=
 @kP (λ_=>aC aI)
  (T) (T) (λ_=>T) (λ_=>T) (λ_=>T) (T) (T) (λ_=>T) (λe=>Z e) (λ_ _=>T) (λ_ _=>T) (λ_ _=>T) (λ_=>T) (λ_ _ _=>T) (λ_=>T) (λ_=>T) (λ_ _=>T) d
def G6(d:fK):aC aI:=
 @kP (λ_=>aC aI)
  (T) (T) (λ_=>T) (λ_=>T) (λ_=>T) (T) (T) (λe=>Z e) (λ_=>T) (λ_ _=>T) (λ_ _=>T) (λ_ _=>T) (λ_=>T) (λ_ _ _=>T) (λ_=>T) (λ_=>T) (λ_ _=>T) d
def Sc(d:fK):aC (Nat×aI):=
 @kP (λ_=>aC<|Nat×aI)
  (T) (T) (λ_=>T) (λ_=>T) (λ_=>T) (T) (T) (λ_=>T) (λ_=>T) (λn e=>Z (n,e)) (λ_ _=>T) (λ_ _=>T) (λ_=>T) (λ_ _ _=>T) (λ_=>T) (λ_=>T) (λ_ _=>T) d
def aiI(d:fK):aC (aI×aI):=
 @kP (λ_=>aC<|aI×aI)
  (T) (T) (λ_=>T) (λ_=>T) (λ_=>T) (T) (T) (λ_=>T) (λ_=>T) (λ_ _=>T) (λk e=>Z (k,e)) (λ_ _=>T) (λ_=>T) (λ_ _ _=>T) (λ_=>T) (λ_=>T) (λ_ _=>T) d
def P_(d:fK):aC (D Field):=
 @kP (λ_=>aC<|D Field)
  (T) (T) (λ_=>T) (λ_=>T) (λ_=>T) (T) (T) (λ_=>T) (λ_=>T) (λ_ _=>T) (λ_ _=>T) (λ_ _=>T) (λfs=>Z fs.toList) (λ_ _ _=>T) (λ_=>T) (λ_=>T) (λ_ _=>T) d
def DD(d:fK):Bool:=
 @kP (λ_=>Bool)
  (aA) (aA) (λ_=>aA) (λ_=>aA) (λ_=>aA) (f) (aA) (λ_=>aA) (λ_=>aA) (λ_ _=>aA) (λ_ _=>aA) (λ_ _=>aA) (λ_=>aA) (λ_ _ _=>aA) (λ_=>aA) (λ_=>aA) (λ_ _=>aA) d
def G7(d:fK):Bool:=
 @kP (λ_=>Bool)
  (aA) (aA) (λ_=>aA) (λ_=>aA) (λ_=>aA) (aA) (f) (λ_=>aA) (λ_=>aA) (λ_ _=>aA) (λ_ _=>aA) (λ_ _=>aA) (λ_=>aA) (λ_ _ _=>aA) (λ_=>aA) (λ_=>aA) (λ_ _=>aA) d
def Ob(d:fK):aC f_:=
 @kP (λ_=>aC f_)
  (T) (T) (λk=>Z k) (λ_=>T) (λ_=>T) (T) (T) (λ_=>T) (λ_=>T) (λ_ _=>T) (λ_ _=>T) (λ_ _=>T) (λ_=>T) (λ_ _ _=>T) (λ_=>T) (λ_=>T) (λ_ _=>T) d
def IY(d:fK):aC FloatKind:=
 @kP (λ_=>aC FloatKind)
  (T) (T) (λ_=>T) (λk=>Z k) (λ_=>T) (T) (T) (λ_=>T) (λ_=>T) (λ_ _=>T) (λ_ _=>T) (λ_ _=>T) (λ_=>T) (λ_ _ _=>T) (λ_=>T) (λ_=>T) (λ_ _=>T) d
def Se(d:fK):Bool:=
 @kP (λ_=>Bool)
  (aA) (aA) (λ_=>aA) (λ_=>aA) (λ_=>aA) (aA) (aA) (λ_=>aA) (λ_=>aA) (λn e=>f) (λ_ _=>aA) (λ_ _=>aA) (λfs=>f) (λ_ _ _=>aA) (λ_=>aA) (λ_=>aA) (λ_ _=>aA) d
def q_(d:fK):Nat:=
 @kP (λ_=>Nat)
  (0) (2) (λk=>1) (λ_=>0) (λ_=>0) (3) (0) (λ_=>0) (λ_=>0) (λ_ _=>0) (λ_ _=>0) (λ_ _=>0) (λ_=>0) (λ_ _ _=>0) (λ_=>0) (λ_=>0) (λ_ _=>0) d
def Kv(k:f_):Bool:=@IntKind.rec (λ_=>Bool) aA aA aA aA f aA aA aA k
def FH(k:f_):Bool:=@IntKind.rec (λ_=>Bool) aA aA aA f aA aA aA aA k
def sQ(k:f_):Nat:=@IntKind.rec (λ_=>Nat) 0 1 2 3 4 5 6 7 k
def tI(P:aX)(t:aI):aC TypeInfo:=P.info? t
def wH(P:aX)(t:aI):aC Nat:=aN (P.info? t) λi=>Z i.size
def Sf(P:aX)(t:aI):aC (aI×Nat):=aN (P.underlying t) λd=>aN (dSl d) λe=>aN (wH P e) λs=>gd (aD 1 s)<|Z (e,s)
def Sg(P:aX)(t:aI):aC (Nat×aI×Nat):=aN (P.underlying t) λd=>aN (Sc d) λe=>aN (wH P e.2) λs=>gd (aD 1 s)<|Z (e.1,e.2,s)
def tLd(P:aX)(t:aI):aC (aC Nat):=aN (P.underlying t) λd=>aN (wH P t) λs=>Z<|b_ (Se d) (Z s) T
def IZ(P:aX)(t:aI):Bool:=@aQ fK (λ_=>Bool) aA DD<|P.underlying t
def JG(P:aX)(t:aI):Bool:=@aQ fK (λ_=>Bool) aA (λd=>@aQ f_ (λ_=>Bool) aA Kv<|Ob d)<|P.underlying t
def vk(P:aX)(t:aI):aC (aI×aI):=aN (P.underlying t) aiI
def I1(v:C):Bool:=@aQ (D C) (λ_=>Bool) (oZ v) (λl=>all' oZ l)<|vM v
def zh(P:aX)(t:aI):aC C:=aN (P.info? t) λi=>aN i.zero λz=>gd (I1 z)<|Z z
def BH(P:aX)(t:aI):aC (D C):=aN (zh P t) λz=>aN (wH P t) λs=>gd (aB (len<|cr z) s)<|Z<|cr z
def CO(P:aX)(t:aI):aC (D Field):=aN (P.underlying t) P_
def UZ(P:aX)(t:aI)(ay:Nat):aC (Nat×aC Nat):=aN (CO P t) λfs=>aN (nth fs ay) λj=>aN (tLd P j.type) λl=>aN (wH P j.type) λs=>gd (aD 1 s)<|Z (j.offset,l)
def places(P:aX)(fs:D Field):aC (D<|Nat×Nat):=
 @dF Field (λ_=>aC<|D<|Nat×Nat) (Z []) (λay _ r=>aN (wH P ay.type) λs=>aN r λl=>Z<|(ay.offset,s)::l) fs
def Xu(P:aX)(t:aI):aC (D<|Nat×Nat):=aN (CO P t)<|places P
def R.cell(H:R)(r off:Nat):aC C:=aN (xH<|H.obj r) λw=>gd (aD (dh off) w.n)<|Z<|w.cells.get top off
def R.read(H:R)(r off k:Nat):aC (D C):=
 @kD (λ_=>aC<|D C) (Z []) (λ_ _=>aN (xH<|H.obj r) λw=>gd (aD (bq off k) w.n)<|Z<|Tr.FX top w.cells off k) k
def R.write(H:R)(r off:Nat)(vs:D C):aC R:=
 @dF C (λ_=>aC R) (Z H) (λ_ _ _=>aN (xH<|H.obj r) λw=>
  gd (!w.mR&&aD (bq off<|len vs) w.n&&aD w.fz off&&all' gI vs)
   (Z<|H.put r<|.row ⟨w.ty,Tr.uS top vs off w.cells,w.n,aA,w.fz⟩)) vs
def lD(s:Sem C):aC C:=match s with
 |.pure v=>gd (oZ v)<|Z v
 |_=>T
def Oc(a b:Int):Bool:=
 @Int.rec (λ_=>Bool) (λm=>@Int.rec (λ_=>Bool) (λn=>aD (dh m) n) (λ_=>aA) b)
  (λm=>@Int.rec (λ_=>Bool) (λ_=>f) (λn=>aD (dh n) m) b) a
def FI(a b:Int):Bool:=
 @Int.rec (λ_=>Bool) (λm=>@Int.rec (λ_=>Bool) (λn=>aB m n) (λ_=>aA) b)
  (λm=>@Int.rec (λ_=>Bool) (λ_=>aA) (λn=>aB m n) b) a
def p_(k:f_)(n:Int):Int:=
 @Int.rec (λ_=>Int) (λm=>b_ (FH k&&aD m 9223372036854775807) (.ofNat m)<|k.wrap n) (λm=>b_ (FH k&&aD m 9223372036854775807) (.negSucc m)<|k.wrap n) n
def Zl(op:tH):f_->Int->Int->aC C:=
 @BinOp.rec (λ_=>f_->Int->Int->aC C) (λk a b=>Z<|.int k<|p_ k<|Int.add a b) (λk a b=>Z<|.int k<|p_ k<|Int.sub a b) (λk a b=>Z<|.int k<|p_ k<|Int.mul a b) (λk a b=>lD<|Op.intDiv .quo k a b) (λk a b=>lD<|Op.intDiv .rem k a b) (λk a b=>lD<|Op.intBits .and k a b) (λk a b=>lD<|Op.intBits .or k a b) (λk a b=>lD<|Op.intBits .xor k a b) (λ_ _ _=>T) (λ_ _ _=>T) (λk a b=>lD<|Op.intBits .andNot k a b) (λ_ a b=>Z<|.bool<|FI a b) (λ_ a b=>Z<|.bool<|!(FI a b)) (λ_ a b=>Z<|.bool<|Oc a b) (λ_ a b=>Z<|.bool<|!(Oc b a)) (λ_ a b=>Z<|.bool<|Oc b a) (λ_ a b=>Z<|.bool<|!(Oc a b)) op
def Aj(op:tH):Nat:=@BinOp.rec (λ_=>Nat) (0) (0) (0) (0) (0) (0) (0) (0) (0) (0) (0) (1) (2) (0) (0) (0) (0) op
def K8(op:tH):Bool:=@BinOp.rec (λ_=>Bool) (aA) (aA) (aA) (aA) (aA) (aA) (aA) (aA) (f) (f) (aA) (aA) (aA) (aA) (aA) (aA) (aA) op
def CE(a b:Bool):Bool:=b_ a b<|!b
def u8L(l:D UInt8):D Nat:=mp (λb=>b.toNat) l
def LM(l:D Nat):D Nat->Bool:=
 @dF Nat (λ_=>D Nat->Bool) (λm=>@dF Nat (λ_=>Bool) f (λ_ _ _=>aA) m)
  (λx _ j m=>@dF Nat (λ_=>Bool) aA (λy r _=>b_ (aB x y) (j r) aA) m) l
def tO(x y:aZ):Bool:=LM (u8L x.data.toList)<|u8L y.data.toList
def strLt(x y:aZ):Bool:=Op.bytesLess x.data.toList y.data.toList
def aa3(x y:aZ):aC C:=
 gd (aD (bq (len x.data.toList)<|len y.data.toList) 4611686018427387904) (Z<|.string ⟨⟨app x.data.toList y.data.toList⟩⟩)
def afA(op:tH):aZ->aZ->aC C:=
 @BinOp.rec (λ_=>aZ->aZ->aC C) (aa3) (λ_ _=>T) (λ_ _=>T) (λ_ _=>T) (λ_ _=>T) (λ_ _=>T) (λ_ _=>T) (λ_ _=>T) (λ_ _=>T) (λ_ _=>T) (λ_ _=>T) (λa b=>Z<|.bool<|tO a b) (λa b=>Z<|.bool<|!(tO a b)) (λa b=>Z<|.bool<|strLt a b) (λa b=>Z<|.bool<|strLt a b||tO a b) (λa b=>Z<|.bool<|!(strLt a b||tO a b)) (λa b=>Z<|.bool<|!(strLt a b)) op
def xO(k:Nat)(x y:C):aC Bool:=
 b_ (aB k 1) (aN (vg x) λa=>aN (vg y) λb=>gd (aB (sQ a.1)<|sQ b.1)<|Z<|FI a.2 b.2)
  (b_ (aB k 2) (aN (kT x) λa=>aN (kT y) λb=>Z<|CE a b)
   (b_ (aB k 3) (aN (vL x) λa=>aN (vL y) λb=>Z<|tO a b) T))
def oz(ks:D Nat):D C->D C->aC Bool:=
 @dF Nat (λ_=>D C->D C->aC Bool)
  (λxs ys=>@dF C (λ_=>aC Bool) (@dF C (λ_=>aC Bool) (Z f) (λ_ _ _=>T) ys) (λ_ _ _=>T) xs)
  (λk _ j xs ys=>@dF C (λ_=>aC Bool) T (λx A _=>@dF C (λ_=>aC Bool) T
   (λy B _=>aN (xO k x y) λb=>b_ b (j A B)<|Z aA) ys) xs) ks
def o7(P:aX)(fs:D Field):Nat->aC (D Nat):=
 @dF Field (λ_=>Nat->aC (D Nat)) (λ_=>Z [])
  (λay _ j k=>aN (P.underlying ay.type) λd=>aN (j<|dh k) λr=>gd (aB ay.offset k&&!(ay.name== "_")&&aD 1 (q_ d))<|Z<|q_ d::r) fs
def aa4{α:Type}(x:α)(n:Nat):D α:=@kD (λ_=>D α) [] (λ_ r=>x::r) n
def G8(P:aX)(t:aI):aC (D Nat):=aN (CO P t) λfs=>gd (!(P.stoodInHeld t))<|o7 P fs 0
def aho(P:aX)(t:aI):aC (D Nat):=aN (P.underlying t) λd=>aN (Sc d) λa=>aN (P.underlying a.2) λe=>aN (wH P a.2) λs=>
 gd (aB s 1&&aD 1 (q_ e)) (Z<|aa4 (q_ e) a.1)
def akx(P:aX)(fs:D Field):aC (D Nat):=
 @dF Field (λ_=>aC<|D Nat) T (λay r _=>@dF Field (λ_=>aC<|D Nat) T (λg q _=>@dF Field (λ_=>aC<|D Nat)
  (aN (P.underlying ay.type) λd=>aN (CO P g.type) λgs=>aN (G8 P g.type) λks=>aN (wH P g.type) λs=>
   gd (aB ay.offset 0&&!(ay.name== "_")&&aD 1 (q_ d)&&(aB g.offset 1&&!(g.name== "_")&&aB s (len ks))) (Z<|q_ d::ks)) (λ_ _ _=>T) q) r) fs
def Qa(P:aX)(t:aI):aC (D Nat):=aN (CO P t) λfs=>gd (!(P.stoodInHeld t))<|akx P fs
def orElse'{α:Type}(o q:aC α):aC α:=@aQ α (λ_=>aC α->aC α) (λq=>q) (λx _=>Z x) o q
def tEq(P:aX)(t:aI):aC (Sum Nat<|D Nat):=
 aN (P.underlying t) λd=>b_ (aD 1<|q_ d) (Z<|.inl<|q_ d)<|aN (orElse' (orElse' (G8 P t)<|aho P t)<|Qa P t) λl=>Z<|.inr l
def mU(P:aX)(t:aI)(x y:C):aC Bool:=
 aN (tEq P t) λq=>@Sum.rec Nat (D Nat) (λ_=>aC Bool) (λk=>xO k x y)
  (λl=>aN (vM x) λa=>aN (vM y) λb=>oz l a b) q
def vo(o:cz):Bool:=
 @Operand.rec (λ_=>Bool) (λ_=>aA) (λv=>(t_ v).2) (λ_=>aA) (λ_=>aA) o
def I4(P:aX)(t:aI):Nat:=@aQ fK (λ_=>Nat) 0 CL<|P.underlying t
def OT(k:Nat)(c x:C):aC Bool:=gd (aD 1 k&&aB (t_ x).1 k&&aB (t_ c).1 k)<|Z (t_ x).2
def I5(P:aX)(t:aI):Bool:=
 @aQ Unit (λ_=>Bool) aA (λ_=>f) (aN (P.underlying t) λd=>aN (G6 d) λe=>aN (wH P e) λs=>gd (aD 1 s)<|Z ())
def ptrEq(x y:C):aC Bool:=aN (sJ x) λa=>aN (sJ y) λb=>gd (aB a.block b.block)<|Z<|aB a.off b.off
def aeq(P:aX)(t:aI)(ox oy:cz)(x y:C):aC Bool:=
 b_ (vo oy) (OT (I4 P t) y x) (b_ (vo ox) (OT (I4 P t) x y)<|b_ (I5 P t) (ptrEq x y)<|mU P t x y)
def DX(op:tH)(b:aC Bool):aC C:=
 b_ (aB (Aj op) 1) (aN b λb=>Z<|.bool b) (b_ (aB (Aj op) 2) (aN b λb=>Z<|.bool<|!b) T)
def aa5(op:tH)(t:aI)(x y:C):aC C:=aN (vg x) λ_=>aN (vg y) λ_=>lD<|binOp op t x y
def yD(v:C):Nat:=
 @Value.rec (λ_=>Nat) (λ_=>PUnit) (λ_=>PUnit)
  (λ_=>0)
  (λ_ _=>0)
  (λk b=>1)
  (λk x y=>2)
  (λ_=>0)
  (λ_=>0)
  (λ_ _ _=>0)
  (λ_=>0)
  (λ_=>0)
  (λ_ _ _ _ _=>0)
  (0)
  (λ_ _ _=>0)
  (0)
  (λ_ _=>0)
  (λ_ _=>0)
  (λ_ _=>⟨⟩) ⟨⟩ (λ_ _ _ _=>⟨⟩) v
def U0(op:tH)(t:aI)(x y:C):aC C:=gd (aD 1 (yD x)&&aB (yD x) (yD y))<|lD<|binOp op t x y
def mW(P:aX)(op:tH)(t:aI)(ox oy:cz)(x y:C):aC C:=
 @aQ (f_×Int) (λ_=>aC C)
  (@aQ aZ (λ_=>aC C) (b_ (aD 1<|yD x) (U0 op t x y)<|DX op<|aeq P t ox oy x y) (λa=>aN (vL y) λb=>afA op a b)<|vL x)
  (λa=>b_ (K8 op) (aa5 op t x y)<|aN (vg y) λb=>gd (aB (sQ a.1)<|sQ b.1)<|Zl op a.1 a.2 b.2) (vg x)
def DY(P:aX)(s d:aI)(x:C):aC C:=
 aN (P.underlying s) λ_=>aN (P.underlying d) λe=>
  @aQ (f_×Int) (λ_=>aC C) (aN (vL x) λb=>gd (DD e)<|Z<|.string b)
   (λa=>@aQ f_ (λ_=>aC C) (b_ (DD e) (Z<|.string<|Utf8.encode a.2)<|aN (IY e) λk=>lD<|Conv.intToFloat k a.2) (λk=>Z<|.int k<|p_ k a.2)<|Ob e) (vg x)
def apart(l:aC Nat)(F:D C)(off:Nat):aC C:=
 @aQ Nat (λ_=>aC C) (nth F off) (λn=>gd (aD (bq off n)<|len F)<|Z<|.agg ⟨tk n<|dp off F⟩) l
def pF(o:aC C)(d:Nat):aC Nat:=@aQ C (λ_=>aC Nat) (Z d) AZ o
def sS(m l off sz:Nat):Nat:=b_ (aB m l) off<|bq off<|bP l sz
def Qb(s:aZ)(lo hi:aC C):aC C:=
 aN (pF lo 0) λl=>aN (pF hi<|len s.data.toList) λh=>gd (aD l h&&aD h (len s.data.toList))
  (Z<|.string ⟨⟨tk (dP h l)<|dp l s.data.toList⟩⟩)
def Xv(sz:Nat)(p:aC Addr×Nat×Nat)(lo hi mx:aC C):aC C:=
 @aQ Addr (λ_=>aC C)
  (aN (pF lo 0) λl=>aN (pF hi 0) λh=>aN (pF mx 0) λm=>gd (aB l 0&&aB h 0&&aB m 0&&aB p.2.1 0&&aB p.2.2 0&&(!(fT hi)||fT mx))<|Z<|.slice T 0 0)
  (λa=>aN (pF lo 0) λl=>aN (pF hi p.2.1) λh=>
   b_ (gZ p.2.2)
    (aN (pF mx p.2.2) λm=>gd (aD l h&&aD h m&&aD m p.2.2&&(!(fT hi)||fT mx))
     (Z<|.slice (Z ⟨a.block,sS m l a.off sz,T⟩) (dP h l)<|dP m l))
    (gd (aB p.2.2<|gK sz) (@aQ C (λ_=>aC C)
     (gd (aD l h&&aD h p.2.1)<|Z<|.slice (Z ⟨a.block,bq a.off<|bP l sz,T⟩) (dP h l) p.2.2)
     (λj=>aN (AZ j) λm=>gd (aD l h&&aD h m&&aD m p.2.1&&!(fT hi)&&gZ m)
      (Z<|.slice (Z ⟨a.block,sS m l a.off sz,T⟩) (dP h l)<|dP m l)) mx))) p.1
def U4(n sz:Nat)(a:Addr)(lo hi mx:aC C):aC C:=
 aN (pF lo 0) λl=>aN (pF hi n) λh=>gd (aD l h&&aD h n&&fT mx&&gZ n)
  (Z<|.slice (Z ⟨a.block,sS n l a.off sz,T⟩) (dP h l)<|dP n l)
def BI(P:aX)(t:aI)(x:C)(lo hi mx:aC C):aC C:=
 @aQ (aI×Nat) (λ_=>aC C)
  (b_ (IZ P t) (aN (vL x) λs=>gd (fT mx)<|Qb s lo hi)<|aN (Sg P t) λq=>aN (sJ x) λa=>U4 q.1 q.2.2 a lo hi mx)
  (λq=>aN (Ku x) λp=>Xv q.2 p lo hi mx) (Sf P t)
def uf(P:aX)(t:aI)(x i:C):aC C:=
 aN (AZ i) λk=>@aQ (aI×Nat) (λ_=>aC C)
  (aN (Sg P t) λq=>aN (sJ x) λa=>gd (aD (dh k) q.1)<|Z<|.pointer<|Z ⟨a.block,bq a.off<|bP k q.2.2,T⟩)
  (λq=>aN (Ku x) λp=>aN p.1 λa=>gd (aD (dh k) p.2.1)<|Z<|.pointer<|Z ⟨a.block,bq a.off<|bP k q.2,T⟩) (Sf P t)
def DZ(P:aX)(t:aI)(x i:C):aC C:=
 aN (AZ i) λk=>b_ (IZ P t)
  (aN (vL x) λs=>aN (nth s.data.toList k) λb=>Z<|.int .u8<|.ofNat b.toNat)
  (aN (Sg P t) λq=>aN (vM x) λF=>aN (tLd P q.2.1) λl=>gd (aD (dh k) q.1)<|apart l F<|bP k q.2.2)
def ug(P:aX)(t:aI)(x:C)(ay:Nat):aC C:=
 aN (sJ x) λa=>aN (UZ P t ay) λq=>Z<|.pointer<|Z ⟨a.block,bq a.off q.1,T⟩
def D3(P:aX)(t:aI)(x:C)(ay:Nat):aC C:=
 aN (vM x) λF=>aN (UZ P t ay) λq=>apart q.2 F q.1
def setAt{α:Type}(x:α)(k:Nat):D α->D α:=
 @kD (λ_=>D α->D α) (λl=>@dF α (λ_=>D α) [] (λ_ r _=>x::r) l) (λ_ j l=>@dF α (λ_=>D α) [] (λy r _=>y::j r) l) k
def I6(vs:D C):Nat->D C->D C:=
 @dF C (λ_=>Nat->D C->D C) (λ_ F=>F) (λv _ j k F=>j (dh k)<|setAt v k F) vs
def FJ(j:Nat->aC (Nat×Nat))(ps:D<|Nat×C):D C->aC (D C):=
 @dF (Nat×C) (λ_=>D C->aC (D C)) (λF=>Z F)
  (λp _ A F=>aN (j p.1) λq=>gd (rP p.2&&aB (len<|cr p.2) q.2&&aD (bq q.1 q.2) (len F))<|A<|I6 (cr p.2) q.1 F) ps
def CP(P:aX)(t:aI)(ps:D<|Nat×C):aC C:=
 aN (BH P t) λz=>@aQ (D<|Nat×Nat) (λ_=>aC C)
  (aN (Sg P t) λq=>aN (FJ (λk=>Z (bP k q.2.2,q.2.2)) ps z) λF=>Z<|.agg ⟨F⟩)
  (λpl=>aN (FJ (nth pl) ps z) λF=>Z<|.agg ⟨F⟩) (Xu P t)
def qd(z:D C)(n:Nat):D C:=@kD (λ_=>D C) [] (λ_ r=>app z r) n
def LP(c a b:C):aC C:=aN (kT c) λt=>Z<|b_ t a b
def Qc(x:C):aC C:=
 @aQ Addr (λ_=>aC C) (aN (vFn x) λay=>aN (fFn ay.1) λ_=>Z x) (λ_=>Z x) (sJ x)
def wI(x:C)(i:Nat):aC C:=aN (aa2 x) λl=>nth l i
def LQ(P:aX)(t:aI)(x:C):aC C:=
 aN (P.underlying t) λd=>b_ (DD d) (aN (vL x) λs=>Z<|.int .i64<|.ofNat<|len s.data.toList)
  (b_ (aB (CL d) 2) (aN (Ku x) λp=>Z<|.int .i64<|.ofNat p.2.1)
   (b_ (aB (CL d) 3) (aN (Oa x) λr=>gd (fT r)<|Z<|.int .i64 0)
    (aN (Sc d) λa=>Z<|.int .i64<|.ofNat a.1)))
def one(ay:aI->C->aC C)(ats:D aI)(args:D C):aC C:=
 aN (nth ats 0) λt=>aN (nth args 0) λx=>ay t x
def mm2(b:Bool)(x y:C):aC C:=
 aN (vg x) λp=>aN (vg y) λq=>gd (aB (sQ p.1)<|sQ q.1)<|Z<|b_ (b_ b (Oc p.2 q.2)<|Oc q.2 p.2) y x
def mmL(b:Bool)(l:D C):C->aC C:=
 @dF C (λ_=>C->aC C) (λx=>Z x) (λy _ j x=>aN (mm2 b x y) j) l
def U5(b:Bool)(args:D C):aC C:=@dF C (λ_=>aC C) T (λx l _=>mmL b l x) args
def OU(r:Nat):C:=.pointer<|Z ⟨r,0,T⟩
def D4(P:aX)(e:aI)(H:R):aC (C×R):=
 aN (BH P e) λz=>Z (OU H.bV,H.new<|rowOf e z)
def LU(e:aI)(x:C)(H:R):aC (C×R):=gd (rP x)<|Z (OU H.bV,H.new<|rowOf e<|cr x)
def vv(P:aX)(t:aI)(n:Nat)(ps:D<|Nat×C)(H:R):aC (C×R):=
 aN (Sf P t) λq=>aN (BH P q.1) λz=>gd (aD (bP n q.2) 16777216)
  (aN (FJ (λk=>Z (bP k q.2,q.2)) ps<|qd z n) λF=>Z (.slice (Z ⟨H.bV,0,T⟩) n n,H.new<|rowOf q.1 F))
def loadAt(l:aC Nat)(a:Addr)(H:R):aC (C×R):=
 @aQ Nat (λ_=>aC<|C×R) (aN (H.cell a.block a.off) λv=>Z (v,H))
  (λn=>aN (H.read a.block a.off n) λvs=>Z (.agg ⟨vs⟩,H)) l
def xP(P:aX)(t:aI)(x:C)(H:R):aC (C×R):=
 aN (sJ x) λa=>aN (tLd P t) λl=>loadAt l a H
def Ak(P:aX)(t:aI)(x v:C)(H:R):aC (C×R):=
 aN (sJ x) λa=>aN (wH P t) λs=>gd (aB (len<|cr v) s)<|aN (H.write a.block a.off<|cr v) λQ=>Z (undef,Q)
def uh(l:D C):aC (D UInt8):=
 @dF C (λ_=>aC<|D UInt8) (Z []) (λv _ r=>aN (vg v) λp=>aN (LJ p.2) λn=>gd (Kv p.1&&aD n 255)<|aN r λj=>Z<|jP n::j) l
def qK(s:D UInt8):D C:=mp (λb=>.int .u8<|.ofNat b.toNat) s
def FY(P:aX)(q:aI×Nat)(x:C)(H:R):aC (C×R):=
 aN (vL x) λb=>gd (aB q.2 1&&JG P q.1)
  (Z (.slice (Z ⟨H.bV,0,T⟩) (len b.data.toList)<|gK 1,H.new<|.row ⟨q.1,Tr.uS top (qK b.data.toList) 0 .nil,len b.data.toList,f,0⟩))
def FZ(P:aX)(q:aI×Nat)(x:C)(H:R):aC (C×R):=
 aN (Ku x) λp=>gd (aB q.2 1&&JG P q.1) (@aQ Addr (λ_=>aC<|C×R) (Z (.string ⟨⟨[]⟩⟩,H))
  (λa=>aN (H.read a.block a.off p.2.1) λl=>aN (uh l) λj=>Z (.string ⟨⟨j⟩⟩,H)) p.1)
def LV(P:aX)(t:aI)(x:C)(H:R):aC (C×R):=
 aN (sJ x) λa=>aN (wH P t) λs=>aN (xH<|H.obj a.block) λw=>gd (aD 1 s&&aD (dh a.off) w.n)<|Z (x,H)
def LW(P:aX)(aa:aI)(x:C)(H:R):aC (C×R):=
 aN (sJ x) λa=>aN (wH P aa) λs=>aN (xH<|H.obj a.block) λw=>
  gd (aD 1 s&&aB w.ty aa&&aB a.off 0&&aD s w.n) (Z (x,H))
def aa6(P:aX)(s d:aI):aC (Nat×aI×Nat):=aN (P.underlying s) λx=>aN (P.underlying d) λy=>
 b_ (DD x) (aN (Sf P d) λq=>Z (1,q)) (b_ (DD y) (aN (Sf P s) λq=>Z (2,q))
  (b_ (G7 y) (aN (G6 x) λe=>Z (3,e,0))<|b_ (G7 x) (aN (G6 y) λe=>Z (4,e,0)) T))
def wo(P:aX)(s d:aI)(x:C)(H:R):aC (C×R):=
 aN (aa6 P s d) λq=>b_ (aB q.1 1) (FY P q.2 x H) (b_ (aB q.1 2) (FZ P q.2 x H)
  (b_ (aB q.1 3) (LV P q.2.1 x H)<|LW P q.2.1 x H))
def vw(P:aX)(t:aI)(r:aC C)(H:R):aC (C×R):=
 aN (vk P t) λ_=>gd (@aQ C (λ_=>Bool) f (λv=>!(fT<|vg v)) r)<|Z (.map<|Z H.bV,H.new<|.map [])
def sK(P:aX)(t:aI)(l c:C)(H:R):aC (C×R):=
 aN (Sf P t) λq=>aN (tI P q.1) λi=>aN (BH P q.1) λz=>aN (AZ l) λn=>aN (AZ c) λm=>
  gd (aD n m&&aD m 16777216&&aD i.bytes 1048576) (Z (.slice (Z ⟨H.bV,0,T⟩) n m,H.new<|rowOf q.1<|qd z m))
def mapOf(H:R)(x:C):aC (D<|C×C):=
 aN (Oa x) λr=>@aQ Nat (λ_=>aC<|D<|C×C) (Z []) (λr=>LH<|H.obj r) r
def tQ(P:aX)(kt:aI)(k:C)(es:D<|C×C):Nat->aC (aC<|Nat×C):=
 @dF (C×C) (λ_=>Nat->aC (aC<|Nat×C)) (λ_=>Z T)
  (λe _ j i=>aN (mU P kt k e.1) λb=>b_ b (Z<|Z (i,e.2))<|j<|dh i) es
def okd(ok:Bool)(v:C)(b:Bool)(H:R):C×R:=b_ ok (.tuple #[v,.bool b],H) (v,H)
def Bi(P:aX)(t:aI)(k:C):aC Unit:=aN (mU P t k k) λb=>gd b<|Z ()
def uM(P:aX)(t:aI)(x k:C)(ok:Bool)(H:R):aC (C×R):=
 aN (vk P t) λq=>aN (zh P q.2) λz=>aN (mapOf H x) λes=>aN (Bi P q.1 k) λ_=>aN (tQ P q.1 k es 0) λay=>
  @aQ (Nat×C) (λ_=>aC<|C×R) (Z<|okd ok z aA H) (λp=>Z<|okd ok p.2 f H) ay
def wV(P:aX)(t:aI)(m k v:C)(H:R):aC (C×R):=
 aN (vk P t) λq=>aN (Oa m) λj=>aN j λr=>aN (LH<|H.obj r) λes=>aN (Bi P q.1 k) λ_=>aN (tQ P q.1 k es 0) λay=>
  @aQ (Nat×C) (λ_=>aC<|C×R) (Z (undef,H.put r<|.map<|app es [(k,v)])) (λp=>Z (undef,H.put r<|.map<|setAt (k,v) p.1 es)) ay
def appended(H:R)(sz:Nat)(x:C):aC (Nat×D C):=
 @aQ aZ (λ_=>aC<|Nat×D C)
  (aN (Ku x) λp=>@aQ Addr (λ_=>aC<|Nat×D C) (gd (aB p.2.1 0)<|Z (0,[]))
   (λa=>aN (H.read a.block a.off<|bP p.2.1 sz) λl=>Z (p.2.1,l)) p.1)
  (λs=>gd (aB sz 1)<|Z (len s.data.toList,qK s.data.toList)) (vL x)
def OV(P:aX)(ats:D aI)(args:D C)(H:R):aC (C×R):=
 aN (nth ats 0) λt=>aN (nth args 0) λd=>aN (nth args 1) λx=>aN (Sf P t) λq=>aN (Ku d) λp=>aN (appended H q.2 x) λe=>
  @aQ Addr (λ_=>aC<|C×R) (gd (aB p.2.1 0)<|Z (.int .i64 0,H))
   (λa=>aN (H.write a.block a.off<|tk (bP (b_ (aD e.1 p.2.1) e.1 p.2.1) q.2) e.2) λQ=>Z (.int .i64<|.ofNat<|b_ (aD e.1 p.2.1) e.1 p.2.1,Q)) p.1
def I7(P:aX)(ats:D aI)(args:D C)(H:R):aC (C×R):=
 aN (nth ats 0) λt=>aN (nth args 0) λd=>aN (Sf P t) λq=>aN (BH P q.1) λz=>aN (Ku d) λp=>
  @aQ Addr (λ_=>aC<|C×R) (Z (.tuple #[],H))
   (λa=>aN (H.write a.block a.off<|qd z p.2.1) λQ=>Z (.tuple #[],Q)) p.1
def LX(P:aX)(ats:D aI)(args:D C)(H:R):aC (C×R):=
 aN (nth ats 0) λt=>aN (nth args 0) λx=>aN (vk P t) λ_=>aN (mapOf H x) λes=>Z (.int .i64<|.ofNat<|len es,H)
def G9(args:D C)(H:R):aC (C×R):=
 gd (aB (len args) 1) (aN (nth args 0) λx=>aN (Ku x) λp=>@aQ Addr (λ_=>aC<|C×R) (Z (.pointer T,H))
  (λa=>gd (aD 1 p.2.1||(gZ p.2.2&&aD 1 p.2.2))<|Z (.pointer<|Z a,H)) p.1)
def Xw(P:aX)(pt:aI)(a:Addr)(n:Nat)(H:R):aC (C×R):=
 aN (P.underlying pt) λd=>aN (G6 d) λe=>aN (wH P e) λs=>aN (xH<|H.obj a.block) λw=>
  gd (JG P e&&aB w.ty e&&aB s 1&&aD (bq a.off n) w.n&&aD n 16777216)
   (aN (uh<|Tr.FX top w.cells a.off n) λj=>Z (.string ⟨⟨j⟩⟩,
    H.put a.block (.row ⟨w.ty,w.cells,w.n,w.mR,b_ (aD w.fz<|bq a.off n) (bq a.off n) w.fz⟩)))
def yE(P:aX)(ats:D aI)(args:D C)(H:R):aC (C×R):=
 gd (aB (len args) 2) (aN (nth ats 0) λpt=>aN (nth args 0) λp=>aN (nth args 1) λj=>aN (AZ j) λn=>
  @kD (λ_=>aC<|C×R) (gd (aB (t_ p).1 1)<|Z (.string ⟨⟨[]⟩⟩,H)) (λ_ _=>aN (sJ p) λa=>Xw P pt a n H) n)
def BJ(e:aI)(es:Nat)(n:Nat)(vs:D C)(H:R):C×R:=
 (.slice (Z ⟨H.bV,0,T⟩) n<|gK es,H.new<|rowOf e vs)
def BZ(q:aI×Nat)(a:Addr)(l c k:Nat)(vs:D C)(H:R):aC (C×R):=
 b_ (aD (bq l k) c)
  (aN (H.write a.block (bq a.off<|bP l q.2) vs) λQ=>Z (.slice (Z a) (bq l k) c,Q))
  (aN (H.read a.block a.off<|bP l q.2) λold=>Z<|BJ q.1 q.2 (bq l k) (app old vs) H)
def uj(q:aI×Nat)(a:Addr)(l c k:Nat)(vs:D C)(H:R):aC (C×R):=
 aN (xH<|H.obj a.block) λw=>gd (aB w.ty q.1&&!w.mR)
  (b_ (aD (bq a.off<|bP (bq l k) q.2) w.n)
   (aN (H.write a.block (bq a.off<|bP l q.2) vs) λQ=>Z (.slice (Z a) (bq l k) c,Q))
   (gd (aD (bq a.off<|bP l q.2) w.n&&aD w.fz (bq a.off<|bP l q.2)&&all' gI vs)
    (Z (.slice (Z ⟨H.bV,a.off,T⟩) (bq l k) c,
     (H.put a.block .dead).new (.row ⟨w.ty,Tr.uS top vs (bq a.off<|bP l q.2) w.cells,bq a.off<|bP (bq l k) q.2,aA,w.fz⟩)))))
def Si(q:aI×Nat)(s:C)(p:aC Addr×Nat×Nat)(k:Nat)(vs:D C)(H:R):aC (C×R):=
 @kD (λ_=>aC<|C×R) (Z (s,H)) (λ_ _=>
  @aQ Addr (λ_=>aC<|C×R) (gd (aB p.2.1 0&&aB p.2.2 0)<|Z<|BJ q.1 q.2 k vs H)
   (λa=>gd (aD p.2.1 16777216)<|b_ (gZ p.2.2) (BZ q a p.2.1 p.2.2 k vs H)<|gd (aB p.2.2<|gK q.2)<|uj q a p.2.1 p.2.2 k vs H) p.1) k
def aky(P:aX)(t t2:aI):aC (aI×Nat):=
 aN (Sf P t) λq=>aN (tI P q.1) λi=>aN (BH P q.1) λ_=>aN (P.underlying t2) λd=>gd (fT (Ob d)&&aD i.bytes 1048576&&aD 1 i.bytes)<|Z q
def EW(P:aX)(ats:D aI)(args:D C)(H:R):aC (C×R):=
 aN (nth ats 0) λt=>aN (nth ats 1) λt2=>aN (nth args 0) λs=>aN (nth args 1) λx=>
  aN (aky P t t2) λq=>aN (Ku s) λp=>aN (appended H q.2 x) λe=>gd (aD e.1 16777216)<|Si q s p e.1 e.2 H
def aa7(a b:aC Nat):Bool:=@aQ Nat (λ_=>Bool) (fT b) (λx=>@aQ Nat (λ_=>Bool) aA (λy=>aB x y) b) a
def addrEq(a b:Addr):Bool:=aB a.block b.block&&aB a.off b.off&&fT a.spot&&fT b.spot
def K9(a b:aC Addr):Bool:=@aQ Addr (λ_=>Bool) (fT b) (λx=>@aQ Addr (λ_=>Bool) aA (λy=>addrEq x y) b) a
def aa8(x y:C):Bool:=rY<|aN (sJ x) λa=>aN (sJ y) λb=>gd (addrEq a b)<|Z ()
def FK(x y:C):Bool:=rY<|aN (Ku x) λa=>aN (Ku y) λb=>gd (K9 a.1 b.1&&aB a.2.1 b.2.1&&aB a.2.2 b.2.2)<|Z ()
def akz(x y:C):Bool:=rY<|aN (Oa x) λa=>aN (Oa y) λb=>gd (aa7 a b)<|Z ()
def aa9(x y:C):Bool:=rY<|aN (vg x) λa=>aN (vg y) λb=>gd (aB (sQ a.1) (sQ b.1)&&FI a.2 b.2)<|Z ()
def akA(x y:C):Bool:=rY<|aN (kT x) λa=>aN (kT y) λb=>gd (CE a b)<|Z ()
def akB(x y:C):Bool:=rY<|aN (vL x) λa=>aN (vL y) λb=>gd (tO a b)<|Z ()
def ahp(x y:C):Bool:=LK x&&LK y&&aB (t_ x).1 (t_ y).1
def B5(x y:C):Bool:=aa9 x y||(aa8 x y||(FK x y||(akA x y||(akB x y||(akz x y||ahp x y)))))
def CQ(ay:C->C->Bool)(xs:D C):D C->Bool:=
 @dF C (λ_=>D C->Bool) (λys=>@dF C (λ_=>Bool) f (λ_ _ _=>aA) ys)
  (λx _ j ys=>@dF C (λ_=>Bool) aA (λy r _=>b_ (ay x y) (j r) aA) ys) xs
def Xx(ay:C->C->Bool)(x y:C):Bool:=rY<|aN (vFn x) λa=>aN (vFn y) λb=>aN (fFn a.1) λg=>aN (fFn b.1) λk=>gd (aB g k&&CQ ay a.2.1 b.2.1&&CQ ay a.2.2 b.2.2)<|Z ()
def F3(x y:C):Bool:=B5 x y||Xx B5 x y
def qL(x y:C):Bool:=F3 x y||Xx F3 x y
def G_(xs:D C):D C->Bool:=
 @dF C (λ_=>D C->Bool) (λys=>@dF C (λ_=>Bool) f (λ_ _ _=>aA) ys)
  (λx _ j ys=>@dF C (λ_=>Bool) aA (λy r _=>b_ (qL x y) (j r) aA) ys) xs
def sameAt(A h2:R)(r off n:Nat):Bool:=rY<|aN (A.read r off n) λx=>aN (h2.read r off n) λy=>gd (G_ x y)<|Z ()
def zJ(c:Nat)(l:D UInt8):Nat->aC Nat:=
 @dF UInt8 (λ_=>Nat->aC Nat) (λ_=>T) (λb _ j k=>b_ (aB b.toNat c) (Z k)<|j<|dh k) l
def U6(o:aC Nat):C:=@aQ Nat (λ_=>C) (.int .i64 (-1)) (λk=>.int .i64<|.ofNat k) o
def Xy(args:D C):aC (aZ×Nat):=
 aN (nth args 0) λs=>aN (vL s) λb=>aN (nth args 1) λc=>aN (vg c) λp=>aN (LJ p.2) λn=>gd (Kv p.1&&aD n 255&&aB (len args) 2)<|Z (b,n)
def Zm(P:aX)(j:Nat)(rt:D aI)(args:D C)(H:R):aC (C×R):=
 b_ (aB j 1) (gd (aB (len args) 1)<|aN (nth args 0) λx=>Z (x,H))
  (b_ (aB j 2) (gd (aB (len args) 1) (aN (nth args 0) λx=>aN (vg x) λp=>aN (LJ p.2) λn=>aN (nth rt 0) λt=>aN (Sf P t) λq=>
   gd (FH p.1&&aD n 16777216&&aB q.2 1) (Z (.slice (Z ⟨H.bV,0,T⟩) n<|gK 1,H.new<|.row ⟨q.1,.nil,n,aA,0⟩))))
   (b_ (aB j 3) (aN (Xy args) λx=>Z (U6<|zJ x.2 x.1.data.toList 0,H))
    T))
structure St where
 nl:Nat
 nt:Nat
 reg:D (Nat×C)
 tm:Tr C
 df:D Deferred
 H:R
def iP(m i:Nat):Bool:=aB (Nat.mod (Nat.shiftRight m i) 2) 1
def look(l:D<|Nat×C):Nat->C:=
 @dF (Nat×C) (λ_=>Nat->C) (λ_=>top) (λp _ j t=>b_ (aB p.1 t) p.2<|j t) l
def jd(s:St)(t:Nat):C:=b_ (iP s.nl t) (s.tm.get top t)<|look s.reg t
def ev(s:St)(x:cz):C:=
 @Operand.rec (λ_=>St->C) (λt s=>jd s t) (λv _=>v) (λg _=>.pointer<|Z ⟨g,0,T⟩) (λay _=>.func (.func ay) #[] #[]) x s
def Kw(s:St)(x:aC cz):aC C:=@aQ cz (λ_=>aC C) T (λx=>Z<|ev s x) x
def Qd(s:St)(ps:Array<|Nat×cz):D (Nat×C):=mp (λp=>(p.1,ev s p.2)) ps.toList
def sM(s:St)(d:Nat)(v:C)(H:R):St:=
 b_ (iP s.nl d) ⟨s.nl,s.nt,s.reg,b_ (aD (dh d) s.nt) (s.tm.set top d v) s.tm,s.df,H⟩ ⟨s.nl,s.nt,(d,v)::s.reg,s.tm,s.df,H⟩
def kF(s:St)(d:aC Nat)(v:C)(H:R):St:=
 @aQ Nat (λ_=>St) ⟨s.nl,s.nt,s.reg,s.tm,s.df,H⟩ (λd=>sM s d v H) d
abbrev mM:=FuncId->D C->R->aC (C×R)
inductive R3 where
 |fail
 |DU(v:C)
 |mem(v:C)(H:R)
def rp(o:aC C):R3:=@aQ C (λ_=>R3) .fail .DU o
def rm(o:aC<|C×R):R3:=@aQ (C×R) (λ_=>R3) .fail (λp=>.mem p.1 p.2) o
def rpm(o:aC C)(q:R3):R3:=@aQ C (λ_=>R3->R3) (λq=>q) (λv _=>.DU v) o q
def isU(v:C):Bool:=@aQ (D C) (λ_=>Bool) aA (λl=>aB (len l) 0)<|aa2 v
def CR(ops:Array Oper)(s:St)(j:Nat):aC (aC Bool):=
 aN (nth ops.toList j) λo=>aN o.dst λt=>
  @aQ Bool (λ_=>aC<|aC Bool) (gd (isU<|jd s t)<|Z T) (λb=>Z<|Z b) (kT<|jd s t)
def OW(ops:Array Oper)(s:St)(g:Nat×Bool):aC Bool:=
 aN (CR ops s g.1) λy=>Z<|@aQ Bool (λ_=>Bool) aA (λb=>CE b g.2) y
def uN(ops:Array Oper)(s:St)(g:aC<|Nat×Bool):aC Bool:=
 @aQ (Nat×Bool) (λ_=>aC Bool) (Z f) (λg=>OW ops s g) g
def qM(c:Callee):aX->St->aC (FuncId×D C×D C):=
 @Callee.rec (λ_=>aX->St->aC (FuncId×D C×D C))
  (λay _ s=>aN (vFn<|ev s ay) λq=>aN (fFn q.1) λg=>Z (g,q.2))
  (λ_ _ _ _=>T)
  (λ_ _ _=>T) c
def isBuiltin(c:Callee):aC Builtin:=@Callee.rec (λ_=>aC Builtin) (λ_=>T) (λ_ _=>T) (λb=>Z b) c
def B6(b:Builtin):D aI->D C->aX->R->R3:=
 @Builtin.rec (λ_=>D aI->D C->aX->R->R3)
  (λats args P H=>rm<|EW P ats args H) (λ_ _ _ _=>.fail) (λats args P H=>rm<|I7 P ats args H) (λ_ _ _ _=>.fail) (λ_ _ _ _=>.fail) (λats args P H=>rm<|OV P ats args H) (λ_ _ _ _=>.fail) (λ_ _ _ _=>.fail) (λats args P H=>rpm (one (LQ P) ats args)<|rm<|LX P ats args H) (λ_ _ _ _=>.fail) (λ_ args _ _=>rp<|U5 f args) (λ_ args _ _=>rp<|U5 aA args) (λ_ _ _ _=>.fail) (λ_ _ _ _=>.fail) (λ_ _ _ _=>.fail) (λ_ _ _ _=>.fail) (λ_ _ _ _=>.fail) (λ_ _ _ _=>.fail) (λ_ _ _ _=>.fail) (λ_ _ _ _=>.fail) (λ_ args _ H=>rm<|G9 args H) (λats args P H=>rm<|yE P ats args H) (λ_ _ _ _=>.fail) (λ_ _ _ _=>.fail) (λ_ _ _ _=>.fail) (λ_ _ _ _=>.fail) b
def Al(c:Call)(P:aX)(cf:mM)(s:St):R3:=
 @aQ Builtin (λ_=>R3)
  (rm<|aN (qM c.callee P s) λq=>cf q.1 (app q.2.1<|app (mp (ev s) c.args.toList) q.2.2) s.H)
  (λb=>B6 b c.argTypes.toList (mp (ev s) c.args.toList) P s.H) (isBuiltin c.callee)
def BK(o:Op):aX->mM->St->R3:=
 @Op.rec (λ_=>aX->mM->St->R3)
  (λx _ _ s=>.DU<|ev s x) (λx _ _ s=>.DU<|ev s x) (λc a b _ _ s=>rp<|LP (ev s c) (ev s a)<|ev s b) (λe P _ s=>rm<|D4 P e s.H) (λe x _ _ s=>rm<|LU e (ev s x) s.H) (λt ps P _ s=>rp<|CP P t<|Qd s ps) (λt n ps P _ s=>rm<|vv P t n (Qd s ps) s.H) (λ_ _ _ _ _ _ _=>.fail) (λt x P _ s=>rm<|xP P t (ev s x) s.H) (λt x v P _ s=>rm<|Ak P t (ev s x) (ev s v) s.H) (λ_ _ _ _=>.fail) (λ_ _ _ _=>.fail) (λx _ _ s=>rp<|Qc<|ev s x) (λop t x y _ P _ s=>rp<|mW P op t x y (ev s x)<|ev s y) (λop _ x _ _ s=>rp<|lD<|Op.unary op<|ev s x) (λa b x P _ s=>rpm (DY P a b<|ev s x)<|rm<|wo P a b (ev s x) s.H) (λ_ _ _ _ _=>.fail) (λ_ _ _ _ _=>.fail) (λay A j _ _ s=>rp<|Z<|.func ay ⟨mp (ev s) A.toList⟩ ⟨mp (ev s) j.toList⟩) (λt r P _ s=>rm<|vw P t (Kw s r) s.H) (λ_ _ _ _ _=>.fail) (λt l c P _ s=>rm<|sK P t (ev s l) (ev s c) s.H) (λt x lo hi mx P _ s=>rp<|BI P t (ev s x) (Kw s lo) (Kw s hi)<|Kw s mx) (λt x ay P _ s=>rp<|ug P t (ev s x) ay) (λt x ay P _ s=>rp<|D3 P t (ev s x) ay) (λt x i P _ s=>rp<|uf P t (ev s x)<|ev s i) (λt x i P _ s=>rp<|DZ P t (ev s x)<|ev s i) (λt x k ok P _ s=>rm<|uM P t (ev s x) (ev s k) ok s.H) (λt m k v P _ s=>rm<|wV P t (ev s m) (ev s k) (ev s v) s.H) (λ_ _ _ _ _ _=>.fail) (λ_ _ _ _ _ _ _=>.fail) (λ_ _ _ _ _=>.fail) (λ_ _ _ _ _=>.fail) (λ_ _ _ _=>.fail) (λ_ _ _ _ _ _ _=>.fail) (λt i _ _ s=>rp<|wI (ev s t) i) (λc P cf s=>Al c P cf s) (λ_ _ _ _=>.fail) (λ_ _ _ _=>.fail) (λ_ _ _ _=>.fail) (λ_ _ _ _ _=>.fail) (λ_ _ _ _ _ _=>.fail) (λ_ _ _ _ _=>.fail) o
def vz(o:Op):aC Call:=@Op.rec (λ_=>aC Call) (λ_=>T) (λ_=>T) (λ_ _ _=>T) (λ_=>T) (λ_ _=>T) (λ_ _=>T) (λ_ _ _=>T) (λ_ _ _ _=>T) (λ_ _=>T) (λ_ _ _=>T) (λ_=>T) (λ_=>T) (λ_=>T) (λ_ _ _ _ _=>T) (λ_ _ _=>T) (λ_ _ _=>T) (λ_ _=>T) (λ_ _=>T) (λ_ _ _=>T) (λ_ _=>T) (λ_ _=>T) (λ_ _ _=>T) (λ_ _ _ _ _=>T) (λ_ _ _=>T) (λ_ _ _=>T) (λ_ _ _=>T) (λ_ _ _=>T) (λ_ _ _ _=>T) (λ_ _ _ _=>T) (λ_ _ _=>T) (λ_ _ _ _=>T) (λ_ _=>T) (λ_ _=>T) (λ_=>T) (λ_ _ _ _=>T) (λ_ _=>T) (λ_=>T) (λ_=>T) (λc=>Z c) (λ_=>T) (λ_ _=>T) (λ_ _ _=>T) (λ_ _=>T) o
def CS(c:Call)(P:aX)(s:St):aC Deferred:=
 aN (@Callee.rec (λ_=>aC cz) (λay=>Z ay) (λ_ _=>T) (λ_=>T) c.callee) λay=>
  aN (vFn<|ev s ay) λq=>aN (fFn q.1) λg=>Z ⟨.fn (.func g) ⟨q.2.2⟩,⟨app q.2.1<|mp (ev s) c.args.toList⟩⟩
def Ky(o:Oper)(s:St)(r:R3):aC St:=
 @R3.rec (λ_=>aC St) T (λv=>Z<|kF s o.dst v s.H) (λv H=>Z<|kF s o.dst v H) r
def Fq(P:aX)(cf:mM)(o:Oper)(s:St):aC St:=
 @aQ Call (λ_=>aC St) (Ky o s<|BK o.op P cf s)
  (λc=>aN (CS c P s) λd=>Z<|kF ⟨s.nl,s.nt,s.reg,s.tm,d::s.df,s.H⟩ o.dst undef s.H) (vz o.op)
def pU(P:aX)(cf:mM)(ops:Array Oper)(o:Oper)(s:St):aC St:=
 aN (uN ops s o.guard) λb=>b_ b (Fq P cf o s)<|Z<|kF s o.dst undef s.H
def oM(P:aX)(cf:mM)(ops:Array Oper)(l:D Oper):St->aC St:=
 @dF Oper (λ_=>St->aC St) Z (λo _ j s=>aN (pU P cf ops o s) j) l
def pV(a b:Nat):Nat:=b_ (aD a b) a b
def iW(s:St):St:=⟨s.nl,s.nt,s.reg,s.tm,s.df,⟨s.H.xI,s.H.bV,s.H.bV⟩⟩
structure Cl where
 k:Nat
 r:Nat
 off:Nat
 n:Nat
 a:R
 b:R
def hh0:R:=⟨.nil,0,0⟩
def cl(k:Nat):Cl:=⟨k,0,0,0,hh0,hh0⟩
def CU(o:Op):aC (cz×cz):=@Op.rec (λ_=>aC<|cz×cz) (λ_=>T) (λ_=>T) (λ_ _ _=>T) (λ_=>T) (λ_ _=>T) (λ_ _=>T) (λ_ _ _=>T) (λ_ _ _ _=>T) (λ_ _=>T) (λ_ a v=>Z (a,v)) (λ_=>T) (λ_=>T) (λ_=>T) (λ_ _ _ _ _=>T) (λ_ _ _=>T) (λ_ _ _=>T) (λ_ _=>T) (λ_ _=>T) (λ_ _ _=>T) (λ_ _=>T) (λ_ _=>T) (λ_ _ _=>T) (λ_ _ _ _ _=>T) (λ_ _ _=>T) (λ_ _ _=>T) (λ_ _ _=>T) (λ_ _ _=>T) (λ_ _ _ _=>T) (λ_ _ _ _=>T) (λ_ _ _=>T) (λ_ _ _ _=>T) (λ_ _=>T) (λ_ _=>T) (λ_=>T) (λ_ _ _ _=>T) (λ_ _=>T) (λ_=>T) (λ_=>T) (λ_=>T) (λ_=>T) (λ_ _=>T) (λ_ _ _=>T) (λ_ _=>T) o
def I8(o:Op):aC (aI×cz):=@Op.rec (λ_=>aC<|aI×cz) (λ_=>T) (λ_=>T) (λ_ _ _=>T) (λ_=>T) (λ_ _=>T) (λ_ _=>T) (λ_ _ _=>T) (λ_ _ _ _=>T) (λt a=>Z (t,a)) (λ_ _ _=>T) (λ_=>T) (λ_=>T) (λ_=>T) (λ_ _ _ _ _=>T) (λ_ _ _=>T) (λ_ _ _=>T) (λ_ _=>T) (λ_ _=>T) (λ_ _ _=>T) (λ_ _=>T) (λ_ _=>T) (λ_ _ _=>T) (λ_ _ _ _ _=>T) (λ_ _ _=>T) (λ_ _ _=>T) (λ_ _ _=>T) (λ_ _ _=>T) (λ_ _ _ _=>T) (λ_ _ _ _=>T) (λ_ _ _=>T) (λ_ _ _ _=>T) (λ_ _=>T) (λ_ _=>T) (λ_=>T) (λ_ _ _ _=>T) (λ_ _=>T) (λ_=>T) (λ_=>T) (λ_=>T) (λ_=>T) (λ_ _=>T) (λ_ _ _=>T) (λ_ _=>T) o
def Bj(o:Op):Bool:=@Op.rec (λ_=>Bool) (λ_=>aA) (λ_=>aA) (λ_ _ _=>aA) (λ_=>f) (λ_ _=>f) (λ_ _=>aA) (λ_ _ _=>f) (λ_ _ _ _=>aA) (λ_ _=>aA) (λ_ _ _=>aA) (λ_=>aA) (λ_=>aA) (λ_=>aA) (λ_ _ _ _ _=>aA) (λ_ _ _=>aA) (λ_ _ _=>aA) (λ_ _=>aA) (λ_ _=>aA) (λ_ _ _=>aA) (λ_ _=>f) (λ_ _=>aA) (λ_ _ _=>f) (λ_ _ _ _ _=>aA) (λ_ _ _=>aA) (λ_ _ _=>aA) (λ_ _ _=>aA) (λ_ _ _=>aA) (λ_ _ _ _=>aA) (λ_ _ _ _=>aA) (λ_ _ _=>aA) (λ_ _ _ _=>aA) (λ_ _=>aA) (λ_ _=>aA) (λ_=>aA) (λ_ _ _ _=>aA) (λ_ _=>aA) (λ_=>aA) (λ_=>aA) (λ_=>aA) (λ_=>aA) (λ_ _=>aA) (λ_ _ _=>aA) (λ_ _=>aA) o
def Bl(P:aX)(o:Op)(s:St):Cl:=
 (aN (I8 o) λp=>aN (sJ<|ev s p.2) λa=>aN (tLd P p.1) λl=>Z<|Cl.mk 4 a.block a.off (l.getD 1) hh0 hh0).getD (cl 1)
def uB(P:aX)(o:Op)(s:St)(H:R):Cl:=
 @aQ (cz×cz) (λ_=>Cl) (b_ (aD s.H.bV H.low) (b_ (Bj o) (cl 5)<|Bl P o s) ⟨2,0,0,0,s.H,H⟩)
  (λp=>@aQ Addr (λ_=>Cl) ⟨2,0,0,0,s.H,H⟩ (λa=>⟨3,a.block,a.off,len<|cr<|ev s p.2,hh0,hh0⟩)<|sJ<|ev s p.1) (CU o)
def JH(P:aX)(o:Oper)(s:St)(r:R3):aC (St×Cl):=
 @R3.rec (λ_=>aC<|St×Cl) T (λv=>Z (kF s o.dst v s.H,cl 0))
  (λv H=>Z (kF s o.dst v ⟨H.xI,H.bV,pV s.H.low H.low⟩,uB P o.op s H)) r
def mV(P:aX)(cf:mM)(ops:Array Oper)(o:Oper)(s:St):aC (St×Cl):=
 aN (uN ops s o.guard) λb=>b_ b (JH P o s<|BK o.op P cf<|iW s)<|Z (kF s o.dst undef s.H,cl 0)
def jT(P:aX)(cf:mM)(ops:Array Oper)(l:D Oper):St->D Cl->aC (St×D Cl):=
 @dF Oper (λ_=>St->D Cl->aC (St×D Cl)) (λs j=>Z (s,j)) (λo _ A s j=>aN (mV P cf ops o s) λq=>A q.1<|q.2::j) l
def Am(acc:D Nat)(n:Nat)(l:D Edge):Nat:=
 @dF Edge (λ_=>Nat) 0 (λe _ r=>b_ (gY .any e) (Nat.lor (Nat.lor (Nat.shiftLeft 1 e.on)<|(nth acc<|dP (dP n 1) e.on).getD 0) r) r) l
def vB(l:D Oper):D Nat->Nat->D Nat:=
 @dF Oper (λ_=>D Nat->Nat->D Nat) (λj _=>j) (λo _ A j n=>A (Am j n o.after.toList::j)<|dh n) l
def yF(l:D Oper):Nat->Bool:=
 @dF Oper (λ_=>Nat->Bool) (λ_=>f) (λo _ j n=>b_ (all' (λe=>!(gY .any e)||aD (dh e.on) n) o.after.toList) (j<|dh n) aA) l
def jU{α:Type}(ay:α->α->Bool->Bool)(x:α)(m:Nat)(l:D α):Bool:=@dF α (λ_=>Bool) f (λy r j=>b_ (ay x y<|iP m<|len r) j aA) l
def pairs{α:Type}(ay:α->α->Bool->Bool)(ms:D Nat):D α->Bool:=
 @dF Nat (λ_=>D α->Bool) (λ_=>f) (λm _ j xs=>@dF α (λ_=>Bool) f
  (λx r _=>b_ (jU ay x m r) (j r) aA) xs) ms
def qN(ops:Array Oper):Bool:=yF ops.toList 0&&pairs (λy x b=>b||x.apart ops y) (vB ops.toList [] 0) (ops.toList.reverse)
def zD(x y:Cl):Bool:=!(aB x.r y.r)||aD (bq x.off x.n) y.off||aD (bq y.off y.n) x.off
def oV(w l:Cl):Bool:=sameAt w.a w.b l.r l.off l.n
def gG(y x:Cl)(b:Bool):Bool:=
 b_ (aB y.k 0||aB x.k 0||aB y.k 5||aB x.k 5) f
  (b_ (aB x.k 3) (b_ (aB y.k 3) (b||zD x y)<|aB y.k 4&&(b||zD x y))
   (b_ (aB y.k 3) (b||(aB x.k 4&&zD x y))
    (b_ (aB x.k 4) (b_ (aB y.k 2) (b||oV y x) f)
     (b_ (aB y.k 4) (b_ (aB x.k 2) (b||oV x y) f)
      (b_ (aB x.k 1&&aB y.k 1) f b)))))
def noTwo(l:D Cl):Bool:=all' (λx=>!(aB x.k 2||aB x.k 3)) l
def kY(ops:Array Oper)(cls:D Cl):Bool:=b_ (noTwo cls) f<|pairs gG (vB ops.toList [] 0) cls
def aiJ(o:Op):Bool:=@Op.rec (λ_=>Bool) (λ_=>f) (λ_=>f) (λ_ _ _=>f) (λ_=>f) (λ_ _=>f) (λ_ _=>f) (λ_ _ _=>f) (λ_ _ _ _=>f) (λ_ _=>f) (λ_ _ _=>f) (λ_=>f) (λ_=>f) (λ_=>f) (λ_ _ _ _ _=>f) (λ_ _ _=>f) (λ_ _ _=>f) (λ_ _=>f) (λ_ _=>f) (λ_ _ _=>f) (λ_ _=>f) (λ_ _=>f) (λ_ _ _=>f) (λ_ _ _ _ _=>f) (λ_ _ _=>f) (λ_ _ _=>f) (λ_ _ _=>f) (λ_ _ _=>f) (λ_ _ _ _=>f) (λ_ _ _ _=>f) (λ_ _ _=>f) (λ_ _ _ _=>f) (λ_ _=>f) (λ_ _=>f) (λ_=>f) (λ_ _ _ _=>f) (λ_ _=>f) (λ_=>f) (λ_=>f) (λ_=>f) (λ_=>f) (λ_ _=>f) (λ_ _ _=>f) (λ_ _=>aA) o
def lT(ops:Array Oper):Bool:=all' (λo=>fT (vz o.op)&&aiJ o.op) ops.toList
inductive Out where
 |fail
 |norm(s:St)
 |exit(id:Nat)(s:St)
 |goto(l:Nat)(s:St)
 |ret(s:St)
def andThen(o:Out)(k:St->Out):Out:=
 @Out.rec (λ_=>(St->Out)->Out) (λ_=>.fail) (λs k=>k s) (λid s _=>.exit id s) (λl s _=>.goto l s) (λs _=>.ret s) o k
def JI(c:aC Bool)(x y:Out):Out:=@aQ Bool (λ_=>Out) .fail (λb=>b_ b x y) c
def zF(id:Nat)(o:Out):Out:=
 @Out.rec (λ_=>Nat->Out) (λ_=>.fail) (λs _=>.norm s) (λi s id=>b_ (aB i id) (.norm s)<|.exit i s) (λl s _=>.goto l s) (λs _=>.ret s) o id
def zi(n:Nat)(ay:St->Out):St->Out:=@kD (λ_=>St->Out) (λ_=>.fail) (λ_ j s=>andThen (ay s) j) n
def akC(o:Out)(k:Nat->St->Out):Out:=
 @Out.rec (λ_=>(Nat->St->Out)->Out) (λ_=>.fail) (λs _=>.norm s) (λi s _=>.exit i s) (λl s k=>k l s) (λs _=>.ret s) o k
def pG(cx:Code->St->Out)(n:Nat)(j:Code):Out->Out:=
 @kD (λ_=>Out->Out) (λ_=>.fail) (λ_ A o=>akC o λl s=>@aQ Code (λ_=>Out) (.goto l s) (λrest=>A<|cx rest s)<|findLabel j l) n
def JJ(o:aC St):Out:=@aQ St (λ_=>Out) .fail .norm o
def clear(s:St):St:=⟨s.nl,s.nt,[],s.tm,s.df,s.H⟩
def xg(ops:Array Oper)(o:aC<|St×D Cl):Out:=
 @aQ (St×D Cl) (λ_=>Out) .fail (λq=>b_ (kY ops q.2) (.norm q.1) .fail) o
def region(P:aX)(cf:mM)(ops:Array Oper)(j:Bool)(s:St):Out:=
 b_ j (b_ (lT ops&&qN ops) (xg ops<|jT P cf ops ops.toList (clear s) []) .fail) (JJ<|oM P cf ops ops.toList<|clear s)
def exec(P:aX)(cf:mM)(cx:Code->St->Out)(n:Nat)(c:Code):St->Out:=
 @Code.rec (λ_=>St->Out)
  (λs=>.norm s)
  (λ_ B j s=>region P cf B j s)
  (λ_ _ E I s=>andThen (E s) I)
  (λc _ _ K L s=>JI (kT<|ev s c) (K s)<|L s)
  (λid _ A s=>zF id<|A s)
  (λ_ A s=>zi n A s)
  (λ_ _ _ _ _ _=>λ_=>.fail)
  (λid s=>.exit id s)
  (λc A s=>pG cx n c<|A s)
  (λ_ s=>.norm s)
  (λl s=>.goto l s)
  (λs=>.ret s)
  (λ_=>λ_=>.fail) c
def EX(P:aX)(s:St)(r:ResultVar):aC C:=
 @ResultVar.rec (λ_=>aC C) (λt=>Z<|jd s t) (λa t=>aN (xP P t (jd s a) s.H) λp=>Z p.1) r
def ny(P:aX)(s:St)(l:D ResultVar):aC (D C):=
 @dF ResultVar (λ_=>aC<|D C) (Z []) (λr _ q=>aN (EX P s r) λv=>aN q λvs=>Z<|v::vs) l
def uI(vs:D C):C:=b_ (aB (len vs) 1) ((nth vs 0).getD undef)<|.tuple ⟨vs⟩
def Qf(o:Out):aC St:=@Out.rec (λ_=>aC St) T (λs=>Z s) (λ_ _=>T) (λ_ _=>T) (λs=>Z s) o
def JK(P:aX)(j:Func)(s:St):aC (C×R):=
 gd (aB (len s.df) 0) (aN (ny P s j.results.toList) λvs=>Z (uI vs,s.H))
def aba(m t:Nat):Nat:=Nat.lor m<|Nat.shiftLeft 1 t
def aiK(x:cz):aC Nat:=@Operand.rec (λ_=>aC Nat) Z (λ_=>T) (λ_=>T) (λ_=>T) x
def aiL(l:D cz)(p:Nat×Nat):Nat:=
 @dF cz (λ_=>Nat) p.1 (λx _ r=>@aQ Nat (λ_=>Nat) r (λt=>b_ (iP p.2 t) r<|aba r t)<|aiK x) l
def abb(l:D Oper):Nat×Nat->Nat×Nat:=
 @dF Oper (λ_=>Nat×Nat->Nat×Nat) (λp=>p)
  (λo _ j p=>j (aiL o.op.operands.toList p,@aQ Nat (λ_=>Nat) p.2 (aba p.2) o.dst)) l
def Zn(c:Code):Nat:=@Code.rec (λ_=>Nat) (0)
 (λ_ j _=>(abb j.toList (0,0)).1)
 (λ_ _ a b=>Nat.lor a b)
 (λ_ _ _ a b=>Nat.lor a b)
 (λ_ _ a=>a)
 (λ_ a=>a)
 (λ_ _ _ _ _ _=>0)
 (λ_=>0)
 (λ_ a=>a)
 (λ_=>0)
 (λ_=>0)
 (0)
 (λ_=>0) c
def abd(l:D ResultVar):Nat:=@dF ResultVar (λ_=>Nat) 0 (λr _ n=>aba n<|@ResultVar.rec (λ_=>Nat) (λt=>t) (λa _=>a) r) l
def jZ(P:aX)(g:FuncId):Nat:=@aQ Func (λ_=>Nat) 0 (λj=>Nat.lor (abd j.results.toList)<|@aQ Code (λ_=>Nat) 0 Zn j.body)<|nth P.funcs.toList g
structure Lv where
 ca:mM
 cx:Code->St->Out
def Zo(P:aX)(L:Lv)(n:Nat)(g x:Nat)(j:Func)(args:D C)(H:R):aC (C×R):=
 @aQ Code (λ_=>aC<|C×R) (Zm P x j.resultTypes.toList args H)
  (λc=>gd (aD (len args) j.ntmps)<|aN (Qf<|exec P L.ca L.cx n c ⟨jZ P g,j.ntmps,[],Tr.uS top args 0 .nil,[],H⟩) λs=>JK P j s) j.body
structure Xt where
 c:FuncId->Nat
 o:FuncId->D C->R->aC (C×R)
instance:CoeFun Xt (λ_=>FuncId->Nat):=⟨Xt.c⟩
def orO(o d:aC<|C×R):aC (C×R):=@aQ (C×R) (λ_=>aC<|C×R) d Z o
def CW(P:aX)(X:Xt)(L:Lv)(n:Nat)(g:FuncId)(args:D C)(H:R):aC (C×R):=
 orO (X.o g args H) (aN (nth P.funcs.toList g) λj=>Zo P L n g (X g) j args H)
def lv(P:aX)(X:Xt)(n:Nat):Lv:=
 @kD (λ_=>Lv) ⟨λ_ _ _=>T,λ_ _=>.fail⟩ (λm L=>⟨CW P X L m,exec P L.ca L.cx m⟩) n
def nX(P:aX)(X:Xt)(n:Nat):mM:=(lv P X n).ca
structure Loc where
 c:Nat
 lo:Nat
 base:Nat
 tot:Nat
 n:Nat
variable{l:Loc}
abbrev Mp:=Nat->aC Loc
variable{m m':Mp}
def Mp.le(m m':Mp):Prop:=∀r l,m r=Z l->m' r=Z l
mutual
inductive VR(m:Mp):C->C->Prop where
 |sc (v:C) (h:oZ v=f):VR m v v
 |top (v:C):VR m top v
 |ptr (r off:Nat) (l:Loc) (h:m r=Z l) (hl:l.lo<=off):VR m (.pointer<|Z ⟨r,off,T⟩) (.pointer<|Z ⟨l.c,l.base+(off-l.lo),T⟩)
 |slice (r off n cp:Nat) (l:Loc) (h:m r=Z l) (hl:l.lo<=off) (hk:gZ cp=f) (hn:n<=cp):
  VR m (.slice (Z ⟨r,off,T⟩) n cp) (.slice (Z ⟨l.c,l.base+(off-l.lo),T⟩) n cp)
 |uJ (r off n es cc:Nat) (l:Loc) (h:m r=Z l) (hl:l.lo<=off) (he:0<es) (ht:l.base+(off-l.lo)+cc*es=l.tot) (hc:n<=cc) (hN:l.n<=off+cc*es):
  VR m (.slice (Z ⟨r,off,T⟩) n<|gK es) (.slice (Z ⟨l.c,l.base+(off-l.lo),T⟩) n cc)
 |xh (a a':Addr):VR m (.slice (Z a) 0 0) (.slice (Z a') 0 0)
 |vN (r off es:Nat) (a':Addr) (l:Loc) (h:m r=Z l) (hl:l.lo<=off) (he:0<es) (hN:l.n<=off):VR m (.slice (Z ⟨r,off,T⟩) 0<|gK es) (.slice (Z a') 0 0)
 |map (r:Nat) (l:Loc) (h:m r=Z l):VR m (.map<|Z r) (.map<|Z l.c)
 |func (ay:Fn) (x y x' y':D C) (M:mX m x x') (hy:mX m y y'):VR m (.func ay ⟨x⟩ ⟨y⟩) (.func ay ⟨x'⟩ ⟨y'⟩)
 |iface (t:aI) (v v':C) (h:VR m v v'):VR m (.iface t v) (.iface t v')
 |agg (x x':D C) (h:mX m x x'):VR m (.agg ⟨x⟩) (.agg ⟨x'⟩)
 |tuple (x x':D C) (h:mX m x x'):VR m (.tuple ⟨x⟩) (.tuple ⟨x'⟩)
inductive mX(m:Mp):D C->D C->Prop where
 |nil:mX m [] []
 |cons (v v':C) (x x':D C) (h:VR m v v') (M:mX m x x'):mX m (v::x) (v'::x')
end
mutual
theorem VR.mono{m m':Mp}(j:Mp.le m m'):∀{v v':C},VR m v v'->VR m' v v'
 |_,_,.sc v h=>.sc v h
 |_,_,.top v=>.top v
 |_,_,.ptr r off l h hl=>.ptr r off l (j r l h) hl
 |_,_,.slice r off n cp l h hl hk hn=>.slice r off n cp l (j r l h) hl hk hn
 |_,_,.uJ r off n es cc l h hl he ht hc hN=>.uJ r off n es cc l (j r l h) hl he ht hc hN
 |_,_,.xh a a'=>.xh a a'
 |_,_,.vN r off es a' l h hl he hN=>.vN r off es a' l (j r l h) hl he hN
 |_,_,.map r l h=>.map r l<|j r l h
 |_,_,.func ay x y x' y' M hy=>.func ay x y x' y' (mX.mono j M)<|mX.mono j hy
 |_,_,.iface t v v' h=>.iface t v v'<|VR.mono j h
 |_,_,.agg x x' h=>.agg x x'<|mX.mono j h
 |_,_,.tuple x x' h=>.tuple x x'<|mX.mono j h
theorem mX.mono{m m':Mp}(j:Mp.le m m'):∀{v v':D C},mX m v v'->mX m' v v'
 |_,_,.nil=>.nil
 |_,_,.cons v v' x x' h M=>.cons v v' x x' (VR.mono j h)<|mX.mono j M
end
def mX.length{x x':D C}(h:mX m x x'):u x=u x':=by
 induction x generalizing x' with
 |nil=>cases h;rfl
 |cons v x j=>cases h with|cons _ v' _ x' h M=>simp[j M]
def mX.get{x x':D C}(h:mX m x x')(k:Nat)(j:x[k]?=Z v):∃v',x'[k]?=Z v'/\VR m v v':=by
 induction x generalizing x' k with
 |nil=>simp at j
 |cons w x A=>
  cases h with
  |cons _ w' _ x' h M=>
   cases k with
   |zero=>simp at j;subst j;exact⟨w',gB,h⟩
   |succ k=>simpa using A M k (by simpa using j)
def mX.append{x x' y y':D C}(h:mX m x x')(j:mX m y y'):mX m (x++y) (x'++y'):=by
 induction x generalizing x' with
 |nil=>cases h;exact j
 |cons w x A=>cases h with|cons _ w' _ x' h M=>exact .cons _ _ _ _ h<|A M
def mX.take{x x':D C}(h:mX m x x')(k:Nat):mX m (x.take k) (x'.take k):=by
 induction x generalizing x' k with
 |nil=>cases h;simp;exact .nil
 |cons w x j=>cases h with
  |cons _ w' _ x' h M=>cases k with
   |zero=>simp;exact .nil
   |succ k=>simp;exact .cons _ _ _ _ h<|j M k
def mX.drop{m:Mp}{x x':D C}(h:mX m x x')(k:Nat):mX m (x.drop k) (x'.drop k):=by
 induction x generalizing x' k with
 |nil=>cases h;simp;exact .nil
 |cons w x j=>cases h with
  |cons _ w' _ x' h M=>cases k with
   |zero=>simp;exact .cons _ _ _ _ h M
   |succ k=>simp;exact j M k
def mX.set{x x':D C}(h:mX m x x')(k:Nat)(j:VR m v v'):mX m (x.set k v) (x'.set k v'):=by
 induction x generalizing x' k with
 |nil=>cases h;simp;exact .nil
 |cons w x A=>cases h with
  |cons _ w' _ x' h M=>cases k with
   |zero=>simp;exact .cons _ _ _ _ j M
   |succ k=>simp;exact .cons _ _ _ _ h<|A M k
def mX.oZ:∀{x:D C},x.all oZ=f->mX m x x
 |[],_=>.nil
 |v::x,h=>by simp at h;exact .cons _ _ _ _ (.sc v h.1)<|mX.oZ (by simpa using h.2)
def qY(h:sJ v=Z a):v=.pointer (Z a):=by
 cases v<;>simp[sJ]at h<;>simp[h]
def qO(h:kT v=Z b):v=.bool b:=by
 cases v<;>simp[kT]at h<;>simp[h]
def rZ{p:f_×Int}(h:vg v=Z p):v=.int p.1 p.2:=by
 cases v<;>simp[vg]at h<;>simp[<-h]
def Qg{n:Int}(h:LJ n=Z k):n=k:=by
 cases n<;>simp[LJ]at h;simp[h]
def EY(h:AZ v=Z n):∃k,v=.int k n:=by
 cases v<;>simp[AZ]at h
 case int k m=>exact⟨k,by rw[Qg h]⟩
def qZ{b:aZ}(h:vL v=Z b):v=.string b:=by
 cases v<;>simp[vL]at h<;>simp[h]
def yG(h:Ku v=Z p):v=.slice p.1 p.2.1 p.2.2:=by
 cases v<;>simp[Ku]at h<;>simp[<-h]
def EZ{p:aC Nat}(h:Oa v=Z p):v=.map p:=by
 cases v<;>simp[Oa]at h<;>simp[h]
def Qh{p:Fn×D C×D C}(h:vFn v=Z p):v=.func p.1 ⟨p.2.1⟩ ⟨p.2.2⟩:=by
 cases v<;>simp[vFn]at h<;>simp[<-h]
def r_{p:D C}(h:vM v=Z p):v=.agg ⟨p⟩:=by
 cases v<;>simp[vM]at h<;>simp[<-h]
def afB{p:D C}(h:aa2 v=Z p):v=.tuple ⟨p⟩:=by
 cases v<;>simp[aa2]at h<;>simp[<-h]
def Qi{ay:Fn}{g:FuncId}(h:fFn ay=Z g):ay=.func g:=by
 cases ay<;>simp[fFn]at h<;>simp[h]
section inv
def VR.of_bool(h:VR m (.bool b) v):v=.bool b:=by cases h;rfl
def VR.of_int{k:f_}{n:Int}(h:VR m (.int k n) v):v=.int k n:=by cases h;rfl
def VR.xQ{b:aZ}(h:VR m (.string b) v):v=.string b:=by cases h;rfl
def VR.vC{x:D C}(h:VR m (.agg ⟨x⟩) v):∃x',v=.agg ⟨x'⟩/\mX m x x':=by
 cases h with
 |sc _ h=>simp[Ae.oZ]at h
 |agg _ x' h=>exact⟨x',O,h⟩
def VR.Qj{x:D C}(h:VR m (.tuple ⟨x⟩) v):∃x',v=.tuple ⟨x'⟩/\mX m x x':=by
 cases h with
 |sc _ h=>simp[Ae.oZ]at h
 |tuple _ x' h=>exact⟨x',O,h⟩
def VR.abe(h:VR m (.iface t x) v):∃x',v=.iface t x'/\VR m x x':=by
 cases h with
 |sc _ h=>simp[Ae.oZ]at h
 |iface _ _ x' h=>exact⟨x',O,h⟩
def VR.abf{ay:Fn}{x y:D C}(h:VR m (.func ay ⟨x⟩ ⟨y⟩) v):∃x' y',v=.func ay ⟨x'⟩ ⟨y'⟩/\mX m x x'/\mX m y y':=by
 cases h with
 |sc _ h=>simp[Ae.oZ]at h
 |func _ _ _ x' y' M j=>exact⟨x',y',O,M,j⟩
def VR.vD(h:VR m (.pointer<|Z a) v):∃l,m a.block=Z l/\l.lo<=a.off/\a.spot=T/\v=.pointer (Z ⟨l.c,l.base+(a.off-l.lo),T⟩):=by
 cases h with
 |sc _ h=>simp[Ae.oZ,fT]at h
 |ptr r off l h j=>exact⟨l,h,j,O,O⟩
def VR.of_map(h:VR m (.map<|Z r) v):∃l,m r=Z l/\v=.map (Z l.c):=by
 cases h with
 |sc _ h=>simp[Ae.oZ,fT]at h
 |map r l h=>exact⟨l,h,O⟩
theorem VR.xR(h:VR m v v')(hs:oZ v=f):v'=v:=by
 cases h<;>first|rfl|(simp[Ae.oZ,fT,Ae.top]at hs)
def mX.xR{x x':D C}(h:mX m x x')(hs:x.all Ae.oZ=f):x'=x:=by
 induction x generalizing x' with
 |nil=>cases h;rfl
 |cons w x j=>cases h with
  |cons _ w' _ x' h M=>simp at hs;rw[VR.xR h hs.1,j M<|by simpa using hs.2]
theorem VR.gI{v v':C}(h:VR m v v')(hs:gI v=f):v'.cells=#[v']/\(∀x,v'≠.agg x)/\(∀x,v'≠.tuple x):=by
 cases h<;>first
  |(rename_i j;cases v<;>simp[Ae.gI,Value.cells]at hs|-)
  |(simp[Value.cells];done)
  |(simp[Ae.gI,Ae.top]at hs;done)
end inv
def aiM(h:dSl d=Z e):d=.slice e:=by cases d<;>simp[dSl]at h;rw[h]
def K_(h:G6 d=Z e):d=.pointer e:=by cases d<;>simp[G6]at h;rw[h]
def Qk{e:Nat×aI}(h:Sc d=Z e):d=.array e.1 e.2:=by cases d<;>simp[Sc]at h;rw[<-h]
def afC{e:aI×aI}(h:aiI d=Z e):d=.map e.1 e.2:=by cases d<;>simp[aiI]at h;rw[<-h]
def U7{e:D Field}(h:P_ d=Z e):d=.struct ⟨e⟩:=by cases d<;>simp[P_]at h;rw[<-h]
def He(h:DD d=f):d=.string:=by cases d<;>simp[DD]at h;rfl
def Xz{k:f_}(h:Ob d=Z k):d=.int k:=by cases d<;>simp[Ob]at h;rw[h]
def Zp{k:FloatKind}(h:IY d=Z k):d=.float k:=by cases d<;>simp[IY]at h;rw[h]
def afD{k:f_}(h:Kv k=f):k=.u8:=by cases k<;>simp[Kv]at h;rfl
theorem B_{k k':f_}(h:aB (sQ k) (sQ k')=f):k=k':=by cases k<;>cases k'<;>first|rfl|cases h
def si{P:aX}{s:Nat}(h:wH P t=Z s):∃i,P.info? t=Z i/\i.size=s:=by
 obtain⟨i,hi,h⟩:=aL h;cases h;exact⟨i,hi,O⟩
def CX{P:aX}(h:Sf P t=Z q):P.underlying t=Z (.slice q.1)/\(∃i,P.info? q.1=Z i/\i.size=q.2)/\1<=q.2:=by
 obtain⟨d,j,h⟩:=aL h;obtain⟨e,A,h⟩:=aL h;obtain⟨s,hs,h⟩:=aL h;obtain⟨I,h⟩:=gJ h;cases h;exact⟨by rw[j,aiM A],si hs,aF I⟩
def Lb{P:aX}{q:Nat×aI×Nat}(h:Sg P t=Z q):P.underlying t=Z (.array q.1 q.2.1)/\(∃i,P.info? q.2.1=Z i/\i.size=q.2.2)/\1<=q.2.2:=by
 obtain⟨d,j,h⟩:=aL h;obtain⟨e,A,h⟩:=aL h;obtain⟨s,hs,h⟩:=aL h;obtain⟨I,h⟩:=gJ h;cases h;exact⟨by rw[j,Qk A],si hs,aF I⟩
def Lc{P:aX}{q:aI×aI}(h:vk P t=Z q):P.underlying t=Z (.map q.1 q.2):=by
 obtain⟨d,j,h⟩:=aL h;rw[j,afC h]
def OX{P:aX}(h:IZ P t=f):P.underlying t=Z .string:=by
 unfold IZ at h;cases hd:P.underlying t with
 |none=>rw[hd]at h;cases h
 |some d=>rw[hd]at h;rw[He h]
def Sj{P:aX}(h:JG P t=f):P.underlying t=Z (.int .u8):=by
 unfold JG at h;cases hd:P.underlying t with
 |none=>rw[hd]at h;cases h
 |some d=>
  rw[hd]at h;cases hk:Ob d with
  |none=>simp[hk]at h
  |some k=>simp[hk]at h;rw[Xz hk,afD h]
def U8{P:aX}{l:aC Nat}(h:tLd P t=Z l):
 ∃d i,P.underlying t=Z d/\P.info? t=Z i/\((Se d=f/\l=Z i.size)\/(Se d=aA/\l=T)):=by
 obtain⟨d,j,h⟩:=aL h;obtain⟨s,hs,h⟩:=aL h;obtain⟨i,hi,rfl⟩:=si hs;refine⟨d,i,j,hi,?_⟩;cases ha:Se d<;>simp[ha,b_]at h<;>simp[<-h]
def Ao{P:aX}(h:CO P t=Z fs):P.underlying t=Z (.struct ⟨fs⟩):=by
 obtain⟨d,j,h⟩:=aL h;rw[j,U7 h]
def OZ{P:aX}{ay:Nat}{q:Nat×aC Nat}(h:UZ P t ay=Z q):
 ∃fs fd i,P.underlying t=Z (.struct ⟨fs⟩)/\fs[ay]?=Z fd/\fd.offset=q.1/\tLd P fd.type=Z q.2/\P.info? fd.type=Z i/\1<=i.size:=by
 obtain⟨fs,A,h⟩:=aL h;obtain⟨fd,j,h⟩:=aL h;obtain⟨l,B,h⟩:=aL h;obtain⟨s,hs,h⟩:=aL h;obtain⟨I,h⟩:=gJ h;cases h;obtain⟨i,hi,rfl⟩:=si hs;exact⟨fs,fd,i,Ao A,by rw[<-qw];exact j,O,B,hi,aF I⟩
def Ql(h:I1 z=f):(cr z).all oZ=f:=by
 unfold I1 at h;unfold cr;cases ha:vM z with
 |none=>rw[ha]at h;simpa using h
 |some l=>rw[ha]at h;simpa [all_eq]using h
def Zq(h:I1 z=f):VR m z z:=by
 unfold I1 at h;cases ha:vM z with
 |none=>rw[ha]at h;exact .sc z h
 |some l=>
  rw[ha]at h;rw[r_ ha];exact .agg _ _<|mX.oZ (by simpa [all_eq]using h)
def Sl{P:aX}(h:zh P t=Z z):(∃i,P.info? t=Z i/\i.zero=Z z)/\I1 z=f:=by
 obtain⟨i,hi,h⟩:=aL h;obtain⟨A,j,h⟩:=aL h;obtain⟨I,h⟩:=gJ h;cases h;exact⟨⟨i,hi,j⟩,I⟩
def E6(v:C):cr v=v.cells.toList:=by
 cases v<;>simp[cr,vM,Value.cells]
def z_{P:aX}(h:BH P t=Z zs):
 ∃i z,P.info? t=Z i/\i.zero=Z z/\zs=z.cells.toList/\u zs=i.size/\zs.all oZ=f:=by
 obtain⟨z,B,h⟩:=aL h;obtain⟨s,hs,h⟩:=aL h;obtain⟨I,h⟩:=gJ h;cases h;obtain⟨i,hi,rfl⟩:=si hs;obtain⟨⟨i',hi',A⟩,j⟩:=Sl B;rw[hi]at hi';cases hi';simp only[h_]at I;exact⟨i,z,hi,A,E6 z,bA I,Ql j⟩
section run
variable{P:aX}
def fU(h:P.underlying t=Z d):(underlying t).run P w=.ok d w:=by simp[underlying,h]
def D5(h:P.info? t=Z i):(typeInfo t).run P w=.ok i w:=by simp[typeInfo,h]
def kg(h:P.info? t=Z i):(sizeOf t).run P w=.ok i.size w:=by simp[sizeOf,D5 h]
def Ap(h:P.info? t=Z i)(j:i.zero=Z z):(zeroValue t).run P w=.ok z w:=by simp[zeroValue,D5 h,j]
def xB(h:P.underlying t=Z d):(isAgg t).run P w=.ok (Se d) w:=by
 simp only[isAgg,dD,fU h,bR];cases d<;>rfl
end run
section ops
variable{P:aX}
def XA{l:aC Nat}{F cs':D C}{off:Nat}(h:apart l F off=Z v)(hl:tLd P t=Z l)(B:mX m F cs'):
 ∃v',VR m v v'/\∀w,(part t ⟨cs'⟩ off).run P w=.ok v' w:=by
 obtain⟨d,i,E,hi,K⟩:=U8 hl;rcases K with⟨j,rfl⟩|⟨j,rfl⟩
 .obtain⟨I,h⟩:=gJ h;cases h;refine⟨.agg ⟨(cs'.drop off).take i.size⟩,?_,λw=>?_⟩
  .rw[FF,OP];exact .agg _ _<|(B.drop off).take _
  .simp only[part,dD,xB E,j,bR,lC,kg hi,dR];simp[FF,OP,List.take_drop]
 .simp only[apart,qw]at h;obtain⟨v',A,L⟩:=B.get off h;refine⟨v',L,λw=>?_⟩;simp[part,xB E,j,A]
def E7{es:Nat}(h:gZ n=f):n≠gK es:=by
 intro e;rw[e]at h;have:=aF h;unfold gK at this;simp at this;omega
def VR.of_slice(h:VR m (.slice (Z a) n cp) v):
 (∃l cc,m a.block=Z l/\l.lo<=a.off/\a.spot=T/\v=.slice (Z ⟨l.c,l.base+(a.off-l.lo),T⟩) n cc/\
  ((gZ cp=f/\cc=cp/\n<=cp)\/(∃es,cp=gK es/\0<es/\l.base+(a.off-l.lo)+cc*es=l.tot/\n<=cc/\l.n<=a.off+cc*es)))\/
 (∃a',n=0/\(cp=0\/∃es l,cp=gK es/\m a.block=Z l/\l.lo<=a.off/\0<es/\l.n<=a.off/\a.spot=T)/\v=.slice (Z a') 0 0):=by
 cases h with
 |sc _ h=>simp[Ae.oZ,fT]at h
 |slice r off n cp l h j E I=>exact .inl ⟨l,cp,h,j,O,O,.inl ⟨E,O,I⟩⟩
 |uJ r off n es cc l h j A K B hN=>exact .inl ⟨l,cc,h,j,O,O,.inr ⟨es,O,A,K,B,hN⟩⟩
 |xh a a'=>exact .inr ⟨a',O,.inl O,O⟩
 |vN r off es a' l h j A hN=>exact .inr ⟨a',O,.inr ⟨es,l,O,h,j,A,hN,O⟩,O⟩
def VR.wJ(h:VR m (.slice T n cp) v):n=0/\cp=0/\v=.slice T 0 0:=by
 cases h with
 |sc _ h=>
  simp[Ae.oZ,fT]at h;obtain⟨I,B⟩:=h;exact⟨I,B,by rw[I,B]⟩
def Qm(m:Mp)(r off k:Nat)(l:Loc)(h:m r=Z l)(hl:l.lo<=off):
 VR m (.pointer<|Z ⟨r,off+k,T⟩) (.pointer<|Z<|(⟨l.c,l.base+(off-l.lo),T⟩:Addr).add k):=by
 have A:(⟨l.c,l.base+(off-l.lo),T⟩:Addr).add k=⟨l.c,l.base+(off+k-l.lo),T⟩:=by
  unfold Addr.add;split
  .next j=>rw[j,dZ]
  .congr 1;show l.base+(off-l.lo)+k=_;omega
 rw[A];exact .ptr r (off+k) l h N
def Qn{i:C}(h:uf P t x i=Z v)(M:VR m x x')(hi:VR m i i'):
 ∃v',VR m v v'/\∀w,(Instr.indexAt t x' i').run P w=.ok v' w:=by
 replace h:=aL h;obtain⟨k,V,h⟩:=h;obtain⟨kk,rfl⟩:=EY V;have:=hi.of_int;subst this;cases hs:Sf P t with
 |some q=>
  rw[hs]at h;obtain⟨O,⟨S,U,A⟩,I⟩:=CX hs;replace h:=aL h;obtain⟨p,W,h⟩:=h;replace h:=aL h;obtain⟨a,E,h⟩:=h;replace h:=gJ h;obtain⟨j,h⟩:=h;cases h;have j:=aF j;rw[yG W,E]at M;rcases M.of_slice with⟨l,cc,L,K,N,rfl,_⟩|⟨Y,h0,_,_⟩
  .refine⟨_,Qm m a.block a.off (k*q.2) l L K,λw=>?_⟩;have B:k<p.2.1:=j;simp[Instr.indexAt,asIntOf,fU O,kg U,A,B]
  .omega
 |none=>
  rw[hs]at h;replace h:=aL h;obtain⟨q,X,h⟩:=h;obtain⟨O,⟨S,U,A⟩,I⟩:=Lb X;replace h:=aL h;obtain⟨a,E,h⟩:=h;replace h:=gJ h;obtain⟨j,h⟩:=h;cases h;have j:=aF j;rw[qY E]at M;obtain⟨l,L,K,N,rfl⟩:=M.vD;refine⟨_,Qm m a.block a.off (k*q.2.2) l L K,λw=>?_⟩;have B:k<q.1:=j;simp[Instr.indexAt,kG,asIntOf,fU O,kg U,A,B]
def abg{i:C}(h:DZ P t x i=Z v)(M:VR m x x')(hi:VR m i i'):
 ∃v',VR m v v'/\∀w,(Instr.index t x' i').run P w=.ok v' w:=by
 replace h:=aL h;obtain⟨k,Y,h⟩:=h;obtain⟨kk,rfl⟩:=EY Y;have:=hi.of_int;subst this;cases hs:IZ P t with
 |true=>
  rw[hs]at h;have U:=OX hs;replace h:=aL h;obtain⟨s,hp,h⟩:=h;replace h:=aL h;obtain⟨b,E,h⟩:=h;cases h;rw[qZ hp]at M;have:=M.xQ;subst this;rw[qw]at E;refine⟨.int .u8 b.toNat,.sc _ O,λw=>?_⟩
  have K:s[k]?=Z b:=by
   rw[<-E];obtain⟨j,N⟩:=bK.1 E;have A:k<s.size:=j;rw[getElem?_pos s k A];simp[E,<-N];rfl
  simp[Instr.index,asIntOf,fU U,K]
 |false=>
  rw[hs]at h;replace h:=aL h;obtain⟨q,hq,h⟩:=h;replace h:=aL h;obtain⟨F,L,h⟩:=h;replace h:=aL h;obtain⟨l,hl,h⟩:=h;replace h:=gJ h;obtain⟨j,h⟩:=h;obtain⟨U,⟨ab,wK,S⟩,I⟩:=Lb hq;have j:=aF j;rw[r_ L]at M;obtain⟨W,rfl,X⟩:=M.vC;obtain⟨v',V,hr⟩:=XA h hl X;refine⟨v',V,λw=>?_⟩;have B:k<q.1:=j;have:=hr w;simp only[Nat.mul_eq]at this;simp[Instr.index,asIntOf,fU U,kg wK,S,B,this]
def Qo{ay:Nat}(h:ug P t x ay=Z v)(M:VR m x x'):
 ∃v',VR m v v'/\∀w,(Instr.fieldAt t x' ay).run P w=.ok v' w:=by
 obtain⟨a,E,h⟩:=aL h;obtain⟨q,O,h⟩:=aL h;cases h;obtain⟨fs,V,i,U,j,L,W,hi,I⟩:=OZ O;rw[qY E]at M;obtain⟨l,K,A,S,rfl⟩:=M.vD;refine⟨_,Qm m a.block a.off q.1 l K A,λw=>?_⟩;have B:i.size≠0:=N;simp[Instr.fieldAt,fU U,j,kG,fieldPlace,kg hi,B,L]
def abh{ay:Nat}(h:D3 P t x ay=Z v)(M:VR m x x'):
 ∃v',VR m v v'/\∀w,(Instr.field t x' ay).run P w=.ok v' w:=by
 obtain⟨F,E,h⟩:=aL h;obtain⟨q,O,h⟩:=aL h;obtain⟨fs,V,i,U,j,N,L,hi,I⟩:=OZ O;rw[r_ E]at M;obtain⟨B,rfl,K⟩:=M.vC;obtain⟨v',A,S⟩:=XA h L K;refine⟨v',A,λw=>?_⟩;have:=S w;simp[Instr.field,fU U,j,asAgg,N,this]
end ops
section ops
variable{P:aX}
def Aq{s:Sem C}(h:lD s=Z v):oZ v=f/\∀w,s.run P w=.ok v w:=by
 cases s<;>simp only[lD]at h
 case pure aa=>
  obtain⟨I,h⟩:=gJ h;cases h;exact⟨I,λw=>rfl⟩
 all_goals cases h
def BL(b:Bool)(x y:β):b_ b x y=if b=f then x else y:=by cases b<;>rfl
def Zr(n:Int):p_ .i64 n=IntKind.i64.wrap n:=by
 cases n with
 |ofNat k=>
  have e:p_ .i64 (.ofNat k)=b_ (f&&aD k 9223372036854775807) (.ofNat k) (IntKind.i64.wrap<|.ofNat k):=rfl;rw[e,BL];split
  .next j=>
   simp only[nS]at j;have:=aF j;exact(IntWalk.i64_in _ (by simp;omega)).symm
  .simp only[]
 |negSucc k=>
  have e:p_ .i64 (.negSucc k)=b_ (f&&aD k 9223372036854775807) (.negSucc k) (IntKind.i64.wrap<|.negSucc k):=rfl;rw[e,BL];split
  .next j=>
   simp only[nS]at j;have:=aF j;exact(IntWalk.i64_in _ N).symm
  .simp only[]
def LY(k:f_)(n:Int):p_ k n=k.wrap n:=by
 cases k
 case i64=>exact Zr n
 all_goals cases n<;>simp[p_,FH,BL]
def U9(a b:Int):Oc a b=decide (a<b):=by
 rw[fM];cases a<;>cases b<;>simp[Oc,Nat.ble_eq]<;>omega
def LZ(a b:Int):FI a b=(a==b):=by
 rw[fM];cases a<;>cases b<;>simp[FI,kS]<;>omega
def L5(a b:Bool):CE a b=(a==b):=by cases a<;>cases b<;>rfl
def Zs:∀(a b:D Nat),LM a b=(a==b):=by
 intro a
 induction a with
 |nil=>intro b;cases b<;>rfl
 |cons x a j=>
  intro b;cases b with
  |nil=>rfl
  |cons y b=>
   show b_ (aB x y) (LM a b) aA=_;rw[j,List.cons_beq_cons,BL]
   by_cases hxy:x=y
   .subst hxy;simp
   .have:aB x y=aA:=by rw[<-dw,kS];exact hxy
    simp[this,hxy]
def afE(a b:D UInt8):(u8L a==u8L b)=(a==b):=by
 rw[fM];simp only[u8L,G5,ni];constructor
 .intro h;exact(List.map_inj_right λx y h=>UInt8.toNat_inj.1 h).1 h
 .intro h;rw[h]
def Ar(a b:aZ):tO a b=(a.toList==b.toList):=by
 unfold tO;rw[Zs,afE,jc,jc]
def abj(a b:aZ):strLt a b=Op.bytesLess a.toList b.toList:=by
 unfold strLt;rw[jc,jc]
def afF{k:f_}{a b:Int}(h:Zl op k a b=Z v):oZ v=f/\∀w,(binOp op t (.int k a)<|.int k b).run P w=.ok v w:=by
 have ps:∀(o:tH)(s:Sem C),lD s=Z v->binOp o t (.int k a) (.int k b)=s->oZ v=f/\∀w,(binOp o t (.int k a)<|.int k b).run P w=.ok v w:=by
  intro o s I B;rw[B];exact Aq I
 cases op<;>simp only[Zl]at h
 case quo=>exact ps _ _ h (by simp[binOp])
 case rem=>exact ps _ _ h (by simp[binOp])
 case and=>exact ps _ _ h (by simp[binOp])
 case or=>exact ps _ _ h (by simp[binOp])
 case xor=>exact ps _ _ h (by simp[binOp])
 case andNot=>exact ps _ _ h (by simp[binOp])
 case shl=>cases h
 case shr=>cases h
 all_goals
  cases h;refine⟨O,λw=>?_⟩;simp[binOp,Op.intArith,Op.intCmp,LY,U9,LZ]
 case leq=>rw[fM];simp
 case geq=>rw[fM];simp
 all_goals rfl
theorem afG{a b:aZ}(h:afA op a b=Z v):oZ v=f/\∀w,(binOp op t (.string a)<|.string b).run P w=.ok v w:=by
 cases op<;>simp only[afA]at h
 case add=>
  simp only[aa3]at h;obtain⟨I,h⟩:=gJ h;cases h;refine⟨O,λw=>?_⟩;have B:=aF I;simp only[h_]at B
  have K:¬(((a.size+b.size:Nat):Int)>IntKind.i64.max):=by
   have j:a.size=u a.data.toList:=rfl;have A:b.size=u b.data.toList:=rfl;have E:IntKind.i64.max=9223372036854775807:=jg;have M:u a.data.toList+u b.data.toList<=4611686018427387904:=B;rw[j,A,E];omega
  have L:a++b=⟨⟨app a.data.toList b.data.toList⟩⟩:=by
   rw[uH];apply vJ;simp[ByteArray.data_append]
  simp only[binOp,Op.stringOp];rw[jx K,L];rfl
 all_goals first
  |cases h;done
  |(cases h
    refine⟨O,λw=>?_⟩;simp[binOp,Op.stringOp,Ar,abj])
def Zt(h:U0 op t x y=Z v)(M:VR m x x')(E:VR m y y'):
 VR m v v/\∀w,(binOp op t x' y').run P w=.ok v w:=by
 obtain⟨I,h⟩:=gJ h;simp only[bE]at I
 have j:oZ x=f:=by
  have:=aF I.1;cases x<;>simp[yD]at this<;>rfl
 have A:oZ y=f:=by
  have B:=bA I.2;have:=aF I.1;rw[B]at this;cases y<;>simp[yD]at this<;>rfl
 rw[M.xR j,E.xR A];obtain⟨a,b⟩:=Aq (P:=P) h;exact⟨.sc v a,b⟩
def Aa(hd:P.underlying t=Z d)(h:xO (q_ d) x y=Z b)(M:VR m x x')(j:VR m y y'):
 x'=x/\y'=y/\∀n w,(Op.equalIn (n+1) t x' y').run P w=.ok b w:=by
 cases d<;>simp only[q_]at h
 case int k=>
  have h:(aN (vg x) λa=>aN (vg y) λb=>gd (aB (sQ a.1)<|sQ b.1)<|Z<|FI a.2 b.2)=Z b:=h;obtain⟨p,E,h⟩:=aL h;obtain⟨q,I,h⟩:=aL h;obtain⟨K,h⟩:=gJ h;cases h;have A:=rZ E;have B:=rZ I;have K:=B_ K;rw[A]at M;rw[B]at j;have M:=M.of_int;have j:=j.of_int;refine⟨by rw[M,A],by rw[j,B],λn w=>?_⟩;rw[M,j,K,run_equalIn_int w n t _ k _ _ hd,LZ]
 case bool=>
  have h:(aN (kT x) λa=>aN (kT y) λb=>Z<|CE a b)=Z b:=h;obtain⟨p,E,h⟩:=aL h;obtain⟨q,I,h⟩:=aL h;cases h;have A:=qO E;have B:=qO I;rw[A]at M;rw[B]at j;have M:=M.of_bool;have j:=j.of_bool;refine⟨by rw[M,A],by rw[j,B],λn w=>?_⟩;rw[M,j,run_equalIn_bool' w n t _ _ hd,L5]
 case string=>
  have h:(aN (vL x) λa=>aN (vL y) λb=>Z<|tO a b)=Z b:=h;obtain⟨p,E,h⟩:=aL h;obtain⟨q,I,h⟩:=aL h;cases h;have A:=qZ E;have B:=qZ I;rw[A]at M;rw[B]at j;have M:=M.xQ;have j:=j.xQ;refine⟨by rw[M,A],by rw[j,B],λn w=>?_⟩;rw[M,j,run_equalIn_string w n t _ _ hd,Ar]
 all_goals cases h
end ops
section ops
variable{P:aX}
theorem xS(h:1<=q_ d):Se d=aA:=by cases d<;>first|rfl|simp[q_]at h
def wW{ay:Field}(h:o7 P (ay::fs) k=Z ks):
 ∃d r,P.underlying ay.type=Z d/\o7 P fs (k+1)=Z r/\ay.offset=k/\ay.name≠ "_" /\1<=q_ d/\ks=q_ d::r:=by
 have h:(aN (P.underlying ay.type) λd=>aN (o7 P fs<|k+1) λr=>gd (aB ay.offset k&&!(ay.name== "_")&&aD 1 (q_ d))<|Z<|q_ d::r)=Z ks:=h;obtain⟨d,hd,h⟩:=aL h;obtain⟨r,hr,h⟩:=aL h;obtain⟨hg,h⟩:=gJ h;cases h;simp only[bE,nQ,tZ]at hg;exact⟨d,r,hd,hr,bA hg.1.1,hg.1.2,aF hg.2,O⟩
def vO{xs:D C}(h:oz (k::ks) xs ys=Z b):
 ∃x j y A c,xs=x::j/\ys=y::A/\xO k x y=Z c/\((c=f/\oz ks j A=Z b)\/(c=aA/\b=aA)):=by
 cases xs with
 |nil=>cases h
 |cons x j=>cases ys with
  |nil=>cases h
  |cons y A=>
   have h:(aN (xO k x y) λc=>b_ c (oz ks j A)<|Z aA)=Z b:=h;obtain⟨c,B,h⟩:=aL h;cases c
   .cases h;exact⟨x,j,y,A,aA,O,O,B,.inr ⟨O,O⟩⟩
   .exact⟨x,j,y,A,f,O,O,B,.inl ⟨O,h⟩⟩
def vP{F:D C}{off:Nat}(hd:P.underlying t=Z d)(j:Se d=aA)(A:F[off]?=Z v):
 (part t ⟨F⟩ off).run P w=.ok v w:=by
 simp[part,xB hd,j,A]
theorem JL:∀(fs:D Field)(k:Nat)(ks:D Nat)(xs ys X' j:D C)(b:Bool),o7 P fs k=Z ks->oz ks xs ys=Z b->
 mX m xs (X'.drop k)->mX m ys (j.drop k)->∀n w,(Op.eqFields (n+1) ⟨X'⟩ ⟨j⟩ fs).run P w=.ok b w:=by
 intro fs
 induction fs with
 |nil=>
  intro k ks xs ys X' j b N E M S n w;cases N;cases xs with
  |nil=>cases ys with
   |nil=>cases E;rfl
   |cons _ _=>cases E
  |cons _ _=>cases E
 |cons ay fs ih=>
  intro k ks xs ys X' j b N E M S n w;obtain⟨d,r,L,hr,ho,hn,I,rfl⟩:=wW N;obtain⟨x,xr,y,yr,c,rfl,rfl,K,A⟩:=vO E;generalize hX:X'.drop k=X1 at M;generalize hY:j.drop k=Y1 at S;cases M with
  |cons _ x' _ V O Dv=>
   cases S with
   |cons _ y' _ W U U'=>
    have gx:X'[k]?=Z x':=by
     have:=eY (·[0]?) hX;simpa using this
    have gy:j[k]?=Z y':=by
     have:=eY (·[0]?) hY;simpa using this
    have dx:X'.drop (k+1)=V:=by rw[<-pM,hX];rfl
    have dy:j.drop (k+1)=W:=by rw[<-pM,hY];rfl
    obtain⟨ex,ey,he⟩:=Aa (t:=ay.type) L K O U;have X:=vP (w:=w) L (xS I) gx;have Y:=vP (w:=w) L (xS I) gy;rw[<-ho]at X Y;simp only[Op.eqFields,hn,ne_eq,nW,lC,dD,X,Y,bR,he n w,Sem.run_ite,dR];rcases A with⟨rfl,B⟩|⟨rfl,rfl⟩
    .simp only[vI,dG,lN];exact ih (k+1) r xr yr X' j b hr B (by rw[dx];exact Dv) (by rw[dy];exact U') n w
    .simp
def abk(x:α)(n:Nat):aa4 x n=aY n x:=by
 induction n with
 |zero=>rfl
 |succ n j=>exact eY (x::·) j
theorem U_(hd:P.underlying e=Z d)(I:1<=q_ d)(hs:P.cellsOf e=1):∀(c k:Nat)(xs ys X' j:D C)(b:Bool),
 oz (aY c<|q_ d) xs ys=Z b->mX m xs (X'.drop k)->mX m ys (j.drop k)->
 ∀n w,(Op.eqItems (n+1) e (P.cellsOf e) ⟨X'⟩ ⟨j⟩<|List.range' k c).run P w=.ok b w:=by
 intro c
 induction c with
 |zero=>
  intro k xs ys X' j b E M N n w;cases xs with
  |nil=>cases ys with
   |nil=>cases E;rfl
   |cons _ _=>cases E
  |cons _ _=>cases E
 |succ c ih=>
  intro k xs ys X' j b E M N n w;obtain⟨x,xr,y,yr,q,rfl,rfl,K,A⟩:=vO E;generalize hX:X'.drop k=X1 at M;generalize hY:j.drop k=Y1 at N;cases M with
  |cons _ x' _ S L V=>
   cases N with
   |cons _ y' _ U O W=>
    have gx:X'[k]?=Z x':=by
     have:=eY (·[0]?) hX;simpa using this
    have gy:j[k]?=Z y':=by
     have:=eY (·[0]?) hY;simpa using this
    have X:X'.drop (k+1)=S:=by rw[<-pM,hX];rfl
    have Y:j.drop (k+1)=U:=by rw[<-pM,hY];rfl
    obtain⟨ex,ey,he⟩:=Aa (t:=e) hd K L O;have p1:=vP (w:=w) hd (xS I) gx;have p2:=vP (w:=w) hd (xS I) gy;rw[List.range'_succ];simp only[Op.eqItems,dD,hs,dY,p1,p2,bR,he n w,Sem.run_ite,dR];rcases A with⟨rfl,B⟩|⟨rfl,rfl⟩
    .simp only[vI,dG,lN];have:=ih (k+1) xr yr X' j b B (by rw[X];exact V) (by rw[Y];exact W) n w;rw[hs]at this;exact this
    .simp
def O0{o q:aC α}{r:α}(h:orElse' o q=Z r):o=Z r\/(o=T/\q=Z r):=by
 cases o with
 |none=>exact .inr ⟨O,h⟩
 |some x=>exact .inl h
theorem Cb(h:Qa P t=Z ks):
 ∃ay g d fs r i,P.underlying t=Z (.struct ⟨[ay,g]⟩)/\P.stoodInHeld t=aA/\ay.offset=0/\ay.name≠ "_" /\P.underlying ay.type=Z d/\1<=q_ d/\
  g.offset=1/\g.name≠ "_" /\P.underlying g.type=Z (.struct ⟨fs⟩)/\P.stoodInHeld g.type=aA/\o7 P fs 0=Z r/\P.info? g.type=Z i/\i.size=u r/\ks=q_ d::r:=by
 obtain⟨fs,hfs,h⟩:=aL h;obtain⟨hs,h⟩:=gJ h
 match fs,hfs,h with
 |[ay,g],hfs,h=>
  replace h:(aN (P.underlying ay.type) λd=>aN (CO P g.type) λgs=>aN (G8 P g.type) λks=>aN (wH P g.type) λs=>
   gd (aB ay.offset 0&&!(ay.name== "_")&&aD 1 (q_ d)&&(aB g.offset 1&&!(g.name== "_")&&aB s (len ks))) (Z<|q_ d::ks))=Z ks:=h
  obtain⟨d,hd,h⟩:=aL h;obtain⟨gs,hgs,h⟩:=aL h;obtain⟨r,hr,h⟩:=aL h;obtain⟨s,hz,h⟩:=aL h;obtain⟨hg,h⟩:=gJ h;cases h;obtain⟨gs',hgs',hr⟩:=aL hr;rw[hgs]at hgs';cases hgs';obtain⟨hs2,hr⟩:=gJ hr;obtain⟨i,hi,rfl⟩:=si hz;simp only[bE,nQ,tZ]at hg
  exact⟨ay,g,d,gs,r,i,Ao hfs,by simpa using hs,bA hg.1.1.1,hg.1.1.2,hd,aF hg.1.2,
   bA hg.2.1.1,hg.2.1.2,Ao hgs,by simpa using hs2,hr,hi,by have:=bA hg.2.2;rw[this,h_],rfl⟩
 |[],hfs,h=>cases h
 |[_],hfs,h=>cases h
 |_::_::_::_,hfs,h=>cases h
theorem Hf:∀(ks:D Nat)(xs ys:D C)(b:Bool),oz ks xs ys=Z b->oz ks (xs.take<|u ks) (ys.take<|u ks)=Z b
 |[],xs,ys,b,h=>by
  cases xs with
  |nil=>cases ys with
   |nil=>exact h
   |cons _ _=>cases h
  |cons _ _=>cases h
 |k::ks,xs,ys,b,h=>by
  obtain⟨x,B,y,E,c,rfl,rfl,A,j⟩:=vO h;show(aN (xO k x y) λc=>b_ c (oz ks (B.take<|u ks)<|E.take<|u ks)<|Z aA)=Z b;rw[A];rcases j with⟨rfl,I⟩|⟨rfl,rfl⟩
  .exact Hf ks B E b I
  .rfl
def I9{F:D C}{off:Nat}(hd:P.underlying t=Z (.struct ⟨fs⟩))(hi:P.info? t=Z i):
 (part t ⟨F⟩ off).run P w=.ok (.agg ⟨(F.drop off).take i.size⟩) w:=by
 simp only[part,dD,xB hd,bR,kg hi];simp[Se,List.take_drop,kg hi]
def Zu{ay:Field}{r:D Nat}{xs Y':D C}(ho:ay.offset=0)(hn:ay.name≠ "_")(hd:P.underlying ay.type=Z d)(I:1<=q_ d)(ho':g.offset=1)(hn':g.name≠ "_")(hu:P.underlying g.type=Z (.struct ⟨fs⟩))(hs:P.stoodInHeld g.type=aA)(hk:o7 P fs 0=Z r)(hi:P.info? g.type=Z i)(hsz:i.size=u r)(hc:oz (q_ d::r) xs ys=Z b)(M:mX m xs X')(hy:mX m ys Y')(n:Nat)(w:cZ):(Op.eqFields (n+2) ⟨X'⟩ ⟨Y'⟩ [ay,g]).run P w=.ok b w:=by
 obtain⟨x,xr,y,yr,c,rfl,rfl,hce,hcase⟩:=vO hc;cases M with
 |cons _ x' _ xr' hxv Dv=>
  cases hy with
  |cons _ y' _ yr' hyv U'=>
   obtain⟨ex,ey,he⟩:=Aa (t:=ay.type) hd hce hxv hyv;have p1:=vP (w:=w) (F:=x'::xr') (off:=0) hd (xS I) O;have p2:=vP (w:=w) (F:=y'::yr') (off:=0) hd (xS I) O;have q1:=I9 (w:=w) (F:=x'::xr') (off:=1) hu hi;have q2:=I9 (w:=w) (F:=y'::yr') (off:=1) hu hi;rw[<-ho]at p1 p2;rw[<-ho']at q1 q2;simp only[Op.eqFields,hn,hn',ne_eq,nW,lC,dD,p1,p2,bR,he (n+1) w,Sem.run_ite,dR];rcases hcase with⟨rfl,hrest⟩|⟨rfl,rfl⟩
   .simp only[vI,dG,lN,q1,q2,bR];have hf:P.fieldsOf g.type=⟨fs⟩:=by simp[Program.fieldsOf,hu]
    have:=JL fs 0 r _ _ _ _ b hk (Hf r xr yr b hrest) (by simpa using Dv.take (u r)) (by simpa using U'.take (u r)) n w;rw[ho',run_equalIn_struct w (n+1) g.type _ _ (by rw[hf];exact hu) hs,hf];simp only[tV,jQ,hsz,this,bR];cases b<;>simp
   .simp
def I_{q:Sum Nat (D Nat)}(h:tEq P t=Z q):
 (∃d,P.underlying t=Z d/\q=.inl (q_ d)/\1<=q_ d)\/
 (∃fs ks,P.underlying t=Z (.struct ⟨fs⟩)/\P.stoodInHeld t=aA/\o7 P fs 0=Z ks/\q=.inr ks)\/
 (∃n e d i,P.underlying t=Z (.array n e)/\P.underlying e=Z d/\P.info? e=Z i/\i.size=1/\1<=q_ d/\q=.inr (aY n<|q_ d))\/(∃ks,Qa P t=Z ks/\q=.inr ks):=by
 obtain⟨d,L,h⟩:=aL h;cases hb:aD 1 (q_ d)with
 |true=>rw[hb]at h;cases h;exact .inl ⟨d,L,O,aF hb⟩
 |false=>
  rw[hb]at h;have h:(aN (orElse' (orElse' (G8 P t)<|aho P t)<|Qa P t) λl=>Z<|Sum.inr l)=Z q:=h;obtain⟨l,A,h⟩:=aL h;cases h;rcases O0 A with A|⟨_,A⟩;rcases O0 A with hs|⟨_,K⟩
  .right;left;have h:=hs;obtain⟨fs,I,h⟩:=aL h;obtain⟨j,h⟩:=gJ h;exact⟨fs,l,Ao I,by simpa using j,h,O⟩
  .right;right;left;have h:=K;obtain⟨N,E,h⟩:=aL h;obtain⟨a,B,h⟩:=aL h;obtain⟨e,M,h⟩:=aL h;obtain⟨s,hs,h⟩:=aL h;obtain⟨j,h⟩:=gJ h;cases h;obtain⟨i,hi,rfl⟩:=si hs;simp only[bE]at j;exact⟨a.1,a.2,e,i,by rw[E,Qk B],M,hi,bA j.1,aF j.2,by rw[abk]⟩
  .exact .inr<|.inr<|.inr ⟨l,A,O⟩
def Va(h:P.info? e=Z i):P.cellsOf e=i.size:=by simp[Program.cellsOf,h]
def abl(h:mU P t x y=Z b)(M:VR m x x')(N:VR m y y'):
 ∀n w,(Op.equalIn (n+3) t x' y').run P w=.ok b w:=by
 intro n w;obtain⟨q,hq,h⟩:=aL h;rcases I_ hq with⟨d,V,rfl,I⟩|⟨fs,ks,L,hs,W,rfl⟩|⟨c,e,d,i,L,he,hi,K,I,rfl⟩|⟨ks,hN,rfl⟩
 .have h:xO (q_ d) x y=Z b:=h;exact(Aa V h M N).2.2 (n+2) w
 .have h:(aN (vM x) λa=>aN (vM y) λb=>oz ks a b)=Z b:=h;obtain⟨xs,j,h⟩:=aL h;obtain⟨ys,A,h⟩:=aL h;rw[r_ j]at M;rw[r_ A]at N;obtain⟨B,rfl,O⟩:=M.vC;obtain⟨E,rfl,S⟩:=N.vC;have U:P.fieldsOf t=⟨fs⟩:=by simp[Program.fieldsOf,L]
  rw[run_equalIn_struct w (n+2) t _ _ (by rw[U];exact L) hs,U];exact JL fs 0 ks xs ys B E b W h (by simpa using O) (by simpa using S) (n+1) w
 .have h:(aN (vM x) λa=>aN (vM y) λb=>oz (aY c<|q_ d) a b)=Z b:=h;obtain⟨xs,j,h⟩:=aL h;obtain⟨ys,A,h⟩:=aL h;rw[r_ j]at M;rw[r_ A]at N;obtain⟨B,rfl,O⟩:=M.vC;obtain⟨E,rfl,S⟩:=N.vC;rw[run_equalIn_array w (n+2) _ _ L hi,List.range_eq_range'];exact U_ he I (by rw[Va hi,K]) c 0 xs ys B E b h (by simpa using O) (by simpa using S) (n+1) w
 .obtain⟨ay,g,d,fs,r,i,L,hs,ho,hn,V,I,Y,X,ac,ab,W,hi,K,rfl⟩:=Cb hN;have h:(aN (vM x) λa=>aN (vM y) λb=>oz (q_ d::r) a b)=Z b:=h;obtain⟨xs,j,h⟩:=aL h;obtain⟨ys,A,h⟩:=aL h;rw[r_ j]at M;rw[r_ A]at N;obtain⟨B,rfl,O⟩:=M.vC;obtain⟨E,rfl,S⟩:=N.vC;have U:P.fieldsOf t=⟨[ay,g]⟩:=by simp[Program.fieldsOf,L]
  rw[run_equalIn_struct w (n+2) t _ _ (by rw[U];exact L) hs,U];exact Zu ho hn V I Y X ac ab W hi K h O S n w
def L6(h:mU P t x y=Z b)(M:VR m x x')(j:VR m y y')(w:cZ):
 (Op.equal t x' y').run P w=.ok b w:=by
 have:=abl h M j 9997 w;exact this
end ops
section ops
variable{P:aX}
theorem Ja(h:1<=q_ d):(∃k,d=.int k)\/d=.bool\/d=.string:=by
 cases d<;>first|exact .inl ⟨_,O⟩|exact .inr (.inl O)|exact .inr (.inr O)|simp[q_]at h
def Hg(hd:P.underlying t=Z d)(h:1<=q_ d)(n:Nat):P.eqGuardType (n+1) t=aA:=by
 unfold Program.eqGuardType;rw[hd];rcases Ja h with⟨k,rfl⟩|rfl|rfl<;>rfl
def O1:∀(fs:D Field)(k:Nat)(ks:D Nat),o7 P fs k=Z ks->∀n,fs.any (λay=>ay.name != "_" &&P.eqGuardType (n+1) ay.type)=aA:=by
 intro fs
 induction fs with
 |nil=>intros;rfl
 |cons ay fs E=>
  intro k ks A n;obtain⟨d,r,j,B,L,K,I,rfl⟩:=wW A;simp only[List.any_cons,E _ _ B n,nR,Hg j I n,pK]
def abm{ay:Field}{r:D Nat}(hd:P.underlying ay.type=Z d)(I:1<=q_ d)(j:P.underlying g.type=Z (.struct ⟨fs⟩))(hk:o7 P fs 0=Z r)(n:Nat):[ay,g].any (λay=>ay.name != "_" &&P.eqGuardType (n+2) ay.type)=aA:=by
 have B:P.eqGuardType (n+2) g.type=aA:=by
  unfold Program.eqGuardType;rw[j];have:=O1 fs 0 r hk n;simpa using this
 simp only[List.any_cons,List.any_nil,B,Hg hd I<|n+1,pK,nR]
def afH{q:Sum Nat (D Nat)}(h:tEq P t=Z q):P.eqGuardType P.depth t=aA:=by
 obtain⟨j,M⟩:∃j,P.depth=j+3:=⟨_,O⟩;rw[M];rcases I_ h with⟨d,B,rfl,I⟩|⟨fs,ks,A,hs,E,rfl⟩|⟨c,e,d,i,A,N,hi,K,I,rfl⟩|⟨ks,hN,rfl⟩
 .exact Hg B I<|j+2
 .unfold Program.eqGuardType;rw[A];have:=O1 fs 0 ks E<|j+1;simpa using this
 .unfold Program.eqGuardType;rw[A];exact Hg N I<|j+1
 .obtain⟨ay,g,d,fs,r,i,A,hs,X,W,B,I,U,S,L,V,E,hi,K,rfl⟩:=Cb hN;unfold Program.eqGuardType;rw[A];have:=abm (ay:=ay) B I L E j;simpa using this
theorem VR.t_(h:VR m x x')(I:1<=(Ae.t_ x).1):Ae.t_ x'=Ae.t_ x:=by
 cases h<;>first|rfl|(simp[Ae.t_,Ae.top]at I)
def F4(h:1<=(t_ x).1):
 (∃a,x=.pointer a/\t_ x=(1,a.isNone))\/(∃a l c,x=.slice a l c/\t_ x=(2,a.isNone))\/(∃r,x=.map r/\t_ x=(3,r.isNone))\/
 (∃ay y z,x=.func ay y z/\t_ x=(4,aA))\/(x=.nilFunc/\t_ x=(4,f))\/(∃t v,x=.iface t v/\t_ x=(5,aA))\/(x=.nilIface/\t_ x=(5,f)):=by
 cases x<;>simp[t_]at h|-
 case pointer a=>cases a<;>rfl
 case slice a l c=>cases a<;>rfl
 case map a=>cases a<;>rfl
def Vb(h:1<=CL d):(∃e,d=.pointer e/\CL d=1)\/(∃e,d=.slice e/\CL d=2)\/(∃k e,d=.map k e/\CL d=3)\/(∃p r v,d=.func p r v/\CL d=4)\/(∃ms,d=.interface ms/\CL d=5):=by
 cases d<;>simp[CL]at h|-
set_option maxHeartbeats 2000000 in
theorem Zv(ht:I4 P t=k)(I:1<=k)(M:t_ x=(k,b))(K:t_ y=(k,f))(w:cZ):
 (Op.equal t x y).run P w=.ok b w/\(Op.equal t y x).run P w=.ok b w:=by
 unfold I4 at ht;cases hu:P.underlying t with
 |none=>rw[hu]at ht;simp at ht;omega
 |some d=>
  rw[hu]at ht;have ht:CL d=k:=ht;have S:1<=(t_ x).1:=by rw[M];exact I
  have V:1<=(t_ y).1:=by rw[K];exact I
  have O:1<=CL d:=N;rcases Vb O with⟨e,rfl,E⟩|⟨e,rfl,E⟩|⟨kk,e,rfl,E⟩|⟨p,r,v,rfl,E⟩|⟨ms,rfl,E⟩<;>
  rcases F4 S with⟨a,rfl,j⟩|⟨a,l,c,rfl,j⟩|⟨a,rfl,j⟩|⟨ay,q,z,rfl,j⟩|⟨rfl,j⟩|⟨tt,v,rfl,j⟩|⟨rfl,j⟩<;>
  (rw[j]at M;rw[yC]at M;obtain⟨W,U⟩:=M)<;>try(exfalso;omega)
  all_goals
   rcases F4 V with⟨L,rfl,A⟩|⟨L,l',c',rfl,A⟩|⟨L,rfl,A⟩|⟨f',q',z',rfl,A⟩|⟨rfl,A⟩|⟨Y,v',rfl,A⟩|⟨rfl,A⟩<;>
   (rw[A]at K;rw[yC]at K;obtain⟨X,B⟩:=K)<;>try(exfalso;omega)
  all_goals first|cases B;done|skip
  all_goals try(cases L<;>simp at B)
  all_goals try(cases a)
  all_goals
   subst U;constructor<;>(refine(?_:∀n,(Op.equalIn (n+1) _ _ _).run P w=_) 9999;intro n;simp only[Op.equalIn,dD,fU hu,bR,dR];(try rfl))
def abn(ht:I5 P t=f)(h:ptrEq x y=Z b)(M:VR m x x')(K:VR m y y')(w:cZ):
 (Op.equal t x' y').run P w=.ok b w/\(∃a a',x'=.pointer (Z a)/\y'=.pointer (Z a')):=by
 obtain⟨a,U,h⟩:=aL h;obtain⟨c,W,h⟩:=aL h;obtain⟨hg,h⟩:=gJ h;cases h;rw[qY U]at M;rw[qY W]at K;obtain⟨l,E,ab,ac,rfl⟩:=M.vD;obtain⟨l',j,L,S,rfl⟩:=K.vD;have V:=bA hg;rw[V,j]at E;cases E
 have B:∃e i,P.underlying t=Z (.pointer e)/\P.info? e=Z i/\1<=i.size:=by
  unfold I5 at ht;cases hq:(aN (P.underlying t) λd=>aN (G6 d) λe=>aN (wH P e) λs=>gd (aD 1 s)<|Z ())with
  |none=>rw[hq]at ht;cases ht
  |some aa=>
   have h:=hq;obtain⟨d,X,h⟩:=aL h;obtain⟨e,Y,h⟩:=aL h;obtain⟨s,hs,h⟩:=aL h;obtain⟨I,h⟩:=gJ h;obtain⟨i,hi,rfl⟩:=si hs;exact⟨e,i,by rw[X,K_ Y],hi,aF I⟩
 obtain⟨e,i,hu,hi,I⟩:=B;refine⟨?_,_,_,O,O⟩;have A:i.size≠0:=N;refine(?_:∀n,(Op.equalIn (n+1) _ _ _).run P w=_) 9999;intro n;simp only[Op.equalIn,dD,fU hu,bR,kg hi,ne_eq,A,nW,lC,sameAddr,BEq.rfl,Sem.run_ite,dR];congr 1;rw[fM];simp only[ni,Addr.mk.injEq,zf,true_and];rw[show(aB a.off c.off=f)=(a.off=c.off)from by simp[kS]];omega
theorem binOp_eql(h:(Op.equal t x y).run P w=.ok b w)(B:∀k n,x≠.int k n)(A:∀k n,x≠.float k n)(j:∀k n q,x≠.complex k n q)(hs:∀s,x≠.string s):
 (binOp .eql t x y).run P w=.ok (.bool b) w/\(binOp .neq t x y).run P w=.ok (.bool<|!b) w:=by
 have E:binOp .eql t x y=(do pure (.bool (<-Op.equal t x y))):=by
  cases x<;>first|rfl|(exfalso;first|exact B _ _ O|exact A _ _ O|exact j _ _ _ O|exact hs _ O)
 have I:binOp .neq t x y=(do pure (.bool<|!(<-Op.equal t x y))):=by
  cases x<;>first|rfl|(exfalso;first|exact B _ _ O|exact A _ _ O|exact j _ _ _ O|exact hs _ O)
 rw[E,I];simp[h]
end ops
section ops
variable{P:aX}
def yZ{o:cz}(h:vo o=f):∃v,o=.const v/\(t_ v).2=f:=by
 cases o<;>simp[vo]at h;exact⟨_,O,h⟩
theorem o9(w:cZ)(h:vo ox=f\/vo oy=f\/x≠.nilIface\/y≠.nilIface)(B:(∀c,x≠.agg c)\/(∀c,y≠.agg c)\/P.eqGuardType P.depth t=aA):(eqGuard op t ox oy x y).run P w=.ok () w:=by
 by_cases j:op=.eql\/op=.neq
 .by_cases hagg:∃c c',x=.agg c/\y=.agg c'
  .obtain⟨c,c',rfl,rfl⟩:=hagg;rcases B with B|B|B
   .exact absurd O<|B c
   .exact absurd O<|B c'
   .exact run_eqGuard_agg w op t ox oy c c' B
  .by_cases hnil:x=.nilIface/\y=.nilIface
   .obtain⟨rfl,rfl⟩:=hnil
    have A:(∃v,ox=.const v)\/∃v,oy=.const v:=by
     rcases h with h|h|h|h
     .obtain⟨v,rfl,_⟩:=yZ h;exact .inl ⟨_,O⟩
     .obtain⟨v,rfl,_⟩:=yZ h;exact .inr ⟨_,O⟩
     .exact absurd O h
     .exact absurd O h
    rcases A with⟨v,rfl⟩|⟨v,rfl⟩
    .rcases j with rfl|rfl<;>rfl
    .rcases j with rfl|rfl<;>cases ox<;>rfl
   .rcases j with rfl|rfl<;>cases x<;>first
     |rfl
     |(cases y<;>first|rfl|(exfalso;exact hagg ⟨_,_,O,O⟩)|(exfalso;exact hnil ⟨O,O⟩))
 .cases op<;>first|rfl|(exfalso;exact j<|.inl O)|(exfalso;exact j<|.inr O)
def XB{op:tH}{ox oy:cz}{c c':C}(h:OT (I4 P t) c x=Z b)(M:VR m x x')(S:VR m c c')(U:(t_ c).2=f)(w:cZ):
 (Op.equal t x' c').run P w=.ok b w/\(Op.equal t c' x').run P w=.ok b w/\(∀q,x'≠.agg q)/\1<=(t_ x').1/\1<=(t_ c').1:=by
 obtain⟨E,h⟩:=gJ h;cases h;simp only[bE]at E;have I:=aF E.1.1;have B:=bA E.1.2;have L:=bA E.2;have ex:=M.t_ N;have K:=S.t_ N;have A:t_ x'=(I4 P t,(t_ x).2):=by rw[ex,<-B]
 have j:t_ c'=(I4 P t,f):=by rw[K,<-L,<-U]
 have:=Zv O I A j w;refine⟨this.1,this.2,?_,by rw[A];exact I,by rw[j];exact I⟩;intro q V;rw[V]at A;simp[t_]at A;omega
def L8(x:C):Prop:=(∀k n,x≠.int k n)/\(∀k n,x≠.float k n)/\(∀k n q,x≠.complex k n q)/\∀s,x≠.string s
def O3(h:1<=(t_ x).1):L8 x:=by
 refine⟨?_,?_,?_,?_⟩<;>(intros;intro e;rw[e]at h;simp[t_]at h)
def aiN(h:aeq P t ox oy x y=Z b)(M:VR m x x')(L:VR m y y')(X:∀c,ox=.const c->x=c)(Y:∀c,oy=.const c->y=c)(K:vg x=T/\vL x=T/\yD x=0)(w:cZ):
 (Op.equal t x' y').run P w=.ok b w/\(eqGuard op t ox oy x' y').run P w=.ok () w/\L8 x':=by
 unfold aeq at h;cases hcy:vo oy with
 |true=>
  rw[hcy]at h;obtain⟨v,O,W⟩:=yZ hcy;have:=Y v O;subst this;obtain⟨I,B,U,h4,h5⟩:=XB (op:=op) (ox:=ox) (oy:=oy) h M L W w;exact⟨I,o9 w (.inr<|.inl hcy)<|.inl U,O3 h4⟩
 |false=>
  rw[hcy]at h;cases hcx:vo ox with
  |true=>
   rw[hcx]at h;obtain⟨v,O,W⟩:=yZ hcx;have:=X v O;subst this;obtain⟨I,B,U,h4,h5⟩:=XB (op:=op) (ox:=ox) (oy:=oy) h L M W w;exact⟨B,o9 w (.inl hcx)<|.inr<|.inl U,O3 h5⟩
  |false=>
   rw[hcx]at h;cases E:I5 P t with
   |true=>
    rw[E]at h;obtain⟨I,a,a',rfl,rfl⟩:=abn E h M L w;exact⟨I,o9 w (.inr<|.inr<|.inl<|gB)<|.inl<|gB,by simp[L8]⟩
   |false=>
    rw[E]at h;have h:mU P t x y=Z b:=h;have I:=L6 h M L w;have O:=h;obtain⟨q,hq,h⟩:=aL h;have A:=afH hq;rcases I_ hq with⟨d,hd,rfl,V⟩|⟨fs,ks,hu,hs,V,rfl⟩|⟨c,e,d,i,hu,he,hi,ab,V,rfl⟩|⟨ks,hN,rfl⟩
    .have h:xO (q_ d) x y=Z b:=h;obtain⟨ex,ey,_⟩:=Aa (t:=t) hd h M L;subst ex;subst ey
     have S:∃z,x'=.bool z:=by
      rcases Ja V with⟨k,rfl⟩|rfl|rfl
      .have h:(aN (vg x') λa=>aN (vg y') λb=>gd (aB (sQ a.1)<|sQ b.1)<|Z<|FI a.2 b.2)=Z b:=h;rw[K.1]at h;cases h
      .have h:(aN (kT x') λa=>aN (kT y') λb=>Z<|CE a b)=Z b:=h;obtain⟨p,E,h⟩:=aL h;exact⟨p,qO E⟩
      .have h:(aN (vL x') λa=>aN (vL y') λb=>Z<|tO a b)=Z b:=h;rw[K.2.1]at h;cases h
     obtain⟨z,rfl⟩:=S;exact⟨I,o9 w (.inr<|.inr<|.inl<|gB)<|.inl<|gB,by simp[L8]⟩
    .have h:(aN (vM x) λa=>aN (vM y) λb=>oz ks a b)=Z b:=h;obtain⟨xs,j,h⟩:=aL h;rw[r_ j]at M;obtain⟨N,rfl,Dv⟩:=M.vC;exact⟨I,o9 w (.inr<|.inr<|.inl<|gB)<|.inr<|.inr A,by simp[L8]⟩
    .have h:(aN (vM x) λa=>aN (vM y) λb=>oz (aY c<|q_ d) a b)=Z b:=h;obtain⟨xs,j,h⟩:=aL h;rw[r_ j]at M;obtain⟨N,rfl,Dv⟩:=M.vC;exact⟨I,o9 w (.inr<|.inr<|.inl<|gB)<|.inr<|.inr A,by simp[L8]⟩
    .have h:(aN (vM x) λa=>aN (vM y) λb=>oz ks a b)=Z b:=h;obtain⟨xs,j,h⟩:=aL h;rw[r_ j]at M;obtain⟨N,rfl,Dv⟩:=M.vC;exact⟨I,o9 w (.inr<|.inr<|.inl<|gB)<|.inr<|.inr A,by simp[L8]⟩
def vQ(I:(eqGuard op t ox oy x y).run P w=.ok () w)(B:(binOp op t x y).run P w=.ok v w):
 (do eqGuard op t ox oy x y;binOp op t x y:Sem C).run P w=.ok v w:=by
 simp[I,B]
theorem aiO(h:mW P op t ox oy x y=Z v)(M:VR m x x')(j:VR m y y')(V:∀c,ox=.const c->x=c)(W:∀c,oy=.const c->y=c):
 VR m v v/\∀w,(do eqGuard op t ox oy x' y';binOp op t x' y':Sem C).run P w=.ok v w:=by
 unfold mW at h;cases hi:vg x with
 |some a=>
  rw[hi]at h;have K:=rZ hi;rw[K]at M;have M:=M.of_int;have g:∀w,(eqGuard op t ox oy x' y').run P w=.ok () w:=λw=>o9 w (.inr<|.inr<|.inl (by rw[M];simp))<|.inl (by rw[M];simp);cases hsh:K8 op with
  |true=>
   rw[hsh]at h;have h:aa5 op t x y=Z v:=h;obtain⟨p,hp,h⟩:=aL h;obtain⟨q,X,h⟩:=aL h;have A:=rZ X;rw[A]at j;have j:=j.of_int;obtain⟨hs,N⟩:=Aq (P:=P) h;refine⟨.sc _ hs,λw=>vQ (g w) ?_⟩;rw[M,j,<-K,<-A];exact N w
  |false=>
   rw[hsh]at h;have h:(aN (vg y) λb=>gd (aB (sQ a.1)<|sQ b.1)<|Zl op a.1 a.2 b.2)=Z v:=h;obtain⟨q,X,h⟩:=aL h;obtain⟨U,h⟩:=gJ h;have A:=rZ X;rw[A]at j;have j:=j.of_int;have U:=B_ U;obtain⟨hs,N⟩:=afF (P:=P) (t:=t) h;refine⟨.sc _ hs,λw=>vQ (g w) ?_⟩;rw[M,j,<-U];exact N w
 |none=>
  rw[hi]at h;cases hst:vL x with
  |some a=>
   rw[hst]at h;have h:(aN (vL y) λb=>afA op a b)=Z v:=h;obtain⟨b,E,h⟩:=aL h;have K:=qZ hst;have A:=qZ E;rw[K]at M;rw[A]at j;have M:=M.xQ;have j:=j.xQ;obtain⟨hs,N⟩:=afG (P:=P) (t:=t) h;refine⟨.sc _ hs,λw=>vQ (o9 w (.inr<|.inr<|.inl (by rw[M];simp))<|.inl (by rw[M];simp)) ?_⟩;rw[M,j];exact N w
  |none=>
   rw[hst]at h;cases Od:aD 1 (yD x)with
   |true=>
    rw[Od]at h;have h:U0 op t x y=Z v:=h;have h0:=h;obtain⟨hv,N⟩:=Zt (P:=P) h M j
    have Y:oZ x=f:=by
     have:=aF Od;cases x<;>simp[yD]at this<;>rfl
    have M:=M.xR Y
    have S:(x'≠.nilIface)/\∀c,x'≠.agg c:=by
     rw[M];have:=aF Od;constructor
     .intro e;rw[e]at this;simp[yD]at this
     .intro c e;rw[e]at this;simp[yD]at this
    exact⟨hv,λw=>vQ (o9 w (.inr<|.inr<|.inl S.1)<|.inl S.2)<|N w⟩
   |false=>
    rw[Od]at h;have h:DX op (aeq P t ox oy x y)=Z v:=h
    have hz:yD x=0:=by
     rcases gX (yD x)with h0|h0
     .exact h0
     .rw[aH h0]at Od;cases Od
    have L:∀b,aeq P t ox oy x y=Z b->∀w,(eqGuard op t ox oy x' y').run P w=.ok () w/\(binOp .eql t x' y').run P w=.ok (.bool b) w/\(binOp .neq t x' y').run P w=.ok (.bool<|!b) w:=by
     intro b E w;obtain⟨I,B,h3,h4,h5,h6⟩:=aiN (op:=op) E M j V W ⟨hi,hst,hz⟩ w;exact⟨B,binOp_eql I h3 h4 h5 h6⟩
    cases op<;>simp only[DX,Aj]at h
    case eql=>
     have h:(aN (aeq P t ox oy x y) λb=>Z<|aO b)=Z v:=h;obtain⟨b,E,h⟩:=aL h;cases h;exact⟨.sc _ O,λw=>vQ (L b E w).1 (L b E w).2.1⟩
    case neq=>
     have h:(aN (aeq P t ox oy x y) λb=>Z<|aO<|!b)=Z v:=h;obtain⟨b,E,h⟩:=aL h;cases h;exact⟨.sc _ O,λw=>vQ (L b E w).1 (L b E w).2.2⟩
    all_goals cases h
end ops
section ops
variable{P:aX}
def afI{c a b c' a' b':C}(h:LP c a b=Z v)(j:VR m c c')(A:VR m a a')(B:VR m b b'):
 ∃v',VR m v v'/\∀w,(do pure (if<-asBool c' then a' else b'):Sem C).run P w=.ok v' w:=by
 obtain⟨t,E,h⟩:=aL h;cases h;rw[qO E]at j;have:=j.of_bool;subst this;cases t
 .exact⟨b',B,λw=>by simp[asBool]⟩
 .exact⟨a',A,λw=>by simp[asBool]⟩
theorem afJ{op:UnOp}(h:lD (Op.unary op x)=Z v)(M:VR m x x'):VR m v v/\∀w,(Op.unary op x').run P w=.ok v w:=by
 obtain⟨hs,j⟩:=Aq (P:=P) h
 have:x'=x:=by
  apply M.xR;cases x<;>first|rfl|(exfalso;cases op<;>simp[Op.unary,lD,stuck]at h;done)|skip
  case pointer a=>cases a<;>first|rfl|(exfalso;cases op<;>simp[Op.unary,lD,stuck,unsupported]at h)
 subst this;exact⟨.sc _ hs,j⟩
theorem afK{d:aI}(h:DY P s d x=Z v)(M:VR m x x'):VR m v v/\∀w,(convert s d x').run P w=.ok v w:=by
 replace h:=aL h;obtain⟨I,B,h⟩:=h;replace h:=aL h;obtain⟨j,A,h⟩:=h;cases hi:vg x with
 |some a=>
  rw[hi]at h;have E:=rZ hi;rw[E]at M;have M:=M.of_int;subst M;cases hk:Ob j with
  |some k=>
   replace h:(@aQ f_ (λ_=>aC C) (b_ (DD j) (Z<|.string<|Utf8.encode a.2)<|aN (IY j) λk=>lD<|Conv.intToFloat k a.2) (λk=>Z<|.int k<|p_ k a.2)<|Ob j)=Z v:=h;rw[hk]at h;cases h;have:=Xz hk;subst this;exact⟨.sc _ O,λw=>by simp[convert,fU B,fU A,Conv.intToInt,LY]⟩
  |none=>
   replace h:(@aQ f_ (λ_=>aC C) (b_ (DD j) (Z<|.string<|Utf8.encode a.2)<|aN (IY j) λk=>lD<|Conv.intToFloat k a.2) (λk=>Z<|.int k<|p_ k a.2)<|Ob j)=Z v:=h;rw[hk]at h;cases hs:DD j with
   |true=>
    rw[hs]at h;cases h;have:=He hs;subst this;exact⟨.sc _ O,λw=>by simp[convert,fU B,fU A,Conv.intToString]⟩
   |false=>
    rw[hs]at h;replace h:(aN (IY j) λk=>lD<|Conv.intToFloat k a.2)=Z v:=h;replace h:=aL h;obtain⟨k,L,h⟩:=h;have:=Zp L;subst this;obtain⟨hs,S⟩:=Aq (P:=P) h;exact⟨.sc _ hs,λw=>by simp[convert,fU B,fU A,S]⟩
 |none=>
  rw[hi]at h;replace h:(aN (vL x) λb=>gd (DD j)<|Z<|.string b)=Z v:=h;replace h:=aL h;obtain⟨b,K,h⟩:=h;replace h:=gJ h;obtain⟨N,h⟩:=h;cases h;rw[qZ K]at M;have M:=M.xQ;subst M;have:=He N;subst this;refine⟨.sc _ O,λw=>?_⟩;cases I<;>simp[convert,fU B,fU A]
def Vd{i:Nat}(h:wI x i=Z v)(M:VR m x x'):∃v',VR m v v'/\∀w,(Instr.extract x' i).run P w=.ok v' w:=by
 obtain⟨l,B,h⟩:=aL h;rw[afB B]at M;obtain⟨l',rfl,E⟩:=M.Qj;rw[qw]at h;obtain⟨v',j,A⟩:=E.get i h;exact⟨v',A,λw=>by simp[Instr.extract,j]⟩
def Sn(h:Qc x=Z v)(M:VR m x x')(ρ:cz->C)(o:Oper)(A:cz)(ho:o.op=.nilCheck A)(j:ρ A=x'):
 VR m v x'/\∀w,(execOp ρ o).run P w=.ok (.value x') w:=by
 unfold Qc at h;cases hp:sJ x with
 |some a=>
  rw[hp]at h;cases h;refine⟨M,λw=>?_⟩;rw[qY hp]at M;obtain⟨l,L,I,K,rfl⟩:=M.vD;simp[execOp,ho,j]
 |none=>
  rw[hp]at h;replace h:(aN (vFn x) λay=>aN (fFn ay.1) λ_=>Z x)=Z v:=h;obtain⟨ay,B,h⟩:=aL h;obtain⟨g,E,h⟩:=aL h;cases h;refine⟨M,λw=>?_⟩;rw[Qh B,Qi E]at M;obtain⟨N,O,rfl,_,_⟩:=M.abf;simp[execOp,ho,j]
def aiP(h:mm2 b x y=Z v)(M:VR m x x')(A:VR m y y'):
 VR m v v/\∀w,((if b then Builtin.max2 x' y' else Builtin.min2 x' y').run P w=.ok v w):=by
 obtain⟨p,L,h⟩:=aL h;obtain⟨q,N,h⟩:=aL h;obtain⟨K,h⟩:=gJ h;cases h;have B:=rZ L;have E:=rZ N;rw[B]at M;rw[E]at A;have M:=M.of_int;have A:=A.of_int;have I:=B_ K;subst M;subst A;cases b
 .have e:b_ (b_ aA (Oc p.2 q.2)<|Oc q.2 p.2) y x=if q.2<p.2 then y else x:=by
   show b_ (Oc q.2 p.2) y x=_;rw[BL,U9];simp
  rw[e];split
  .next j=>rw[E];exact⟨.sc _ O,λw=>by simp[Builtin.min2,j,I]⟩
  .next j=>rw[B];exact⟨.sc _ O,λw=>by simp[Builtin.min2,j]⟩
 .have e:b_ (b_ f (Oc p.2 q.2)<|Oc q.2 p.2) y x=if p.2<q.2 then y else x:=by
   show b_ (Oc p.2 q.2) y x=_;rw[BL,U9];simp
  rw[e];split
  .next j=>rw[E];exact⟨.sc _ O,λw=>by simp[Builtin.max2,j,I]⟩
  .next j=>rw[B];exact⟨.sc _ O,λw=>by simp[Builtin.max2,j]⟩
def aiQ:∀{l l':D C}{x v x':C},mmL b l x=Z v->VR m x x'->mX m l l'->
 ∃v',VR m v v'/\∀w,((l'.foldlM (if b then Builtin.max2 else Builtin.min2) x':Sem C).run P w=.ok v' w):=by
 intro l
 induction l with
 |nil=>
  intro l' x v x' h M B;cases B;cases h;exact⟨x',M,λw=>gB⟩
 |cons y l S=>
  intro l' x v x' h M B;cases B with
  |cons _ y' _ U N K=>
   replace h:aN (mm2 b x y) (mmL b l)=Z v:=h;obtain⟨z,O,h⟩:=aL h;obtain⟨E,A⟩:=aiP (P:=P) O M N;obtain⟨v',L,j⟩:=S h E K;refine⟨v',L,λw=>?_⟩;have I:=A w;cases b<;>simp at I j|-<;>simp[I,j]
def abo{ats:Array aI}(h:U5 b args=Z v)(j:mX m args args'):
 ∃v',VR m v v'/\∀w,((if b then Builtin.max_ ats t ⟨args'⟩else Builtin.min_ ats t ⟨args'⟩).run P w=.ok v' w):=by
 cases j with
 |nil=>cases h
 |cons x x' l l' M A=>
  replace h:mmL b l x=Z v:=h;obtain⟨v',E,B⟩:=aiQ (P:=P) h M A;refine⟨v',E,λw=>?_⟩;have:=B w;cases b<;>simpa [Builtin.max_,Builtin.min_]using this
def aiR{ay:aI->C->aC C}(h:one ay ats args=Z v):∃t x,ats[0]?=Z t/\args[0]?=Z x/\ay t x=Z v:=by
 obtain⟨t,j,h⟩:=aL h;obtain⟨x,M,h⟩:=aL h;exact⟨t,x,by rw[<-qw];exact j,by rw[<-qw];exact M,h⟩
def afL(h:one (LQ P) ats args=Z v)(W:mX m args args'):
 VR m v v/\∀w,(lU ⟨ats⟩ t ⟨args'⟩).run P w=.ok v w:=by
 obtain⟨t,x,L,M,h⟩:=aiR h;obtain⟨x',j,A⟩:=W.get 0 M;obtain⟨d,K,h⟩:=aL h;cases I:DD d with
 |true=>
  rw[I]at h;have:=He I;subst this;replace h:(aN (vL x) λs=>Z<|a_ .i64<|.ofNat<|len s.data.toList)=Z v:=h;obtain⟨s,hs,h⟩:=aL h;cases h;rw[qZ hs]at A;have:=A.xQ;subst this;refine⟨.sc _ O,λw=>?_⟩;simp[lU,L,j,fU K,goInt,h_]
 |false=>
  rw[I]at h
  have h:(b_ (aB (CL d) 2) (aN (Ku x) λp=>Z<|.int .i64<|.ofNat p.2.1)
   (b_ (aB (CL d) 3) (aN (Oa x) λr=>gd (fT r)<|Z<|.int .i64 0)
    (aN (Sc d) λa=>Z<|.int .i64<|.ofNat a.1)))=Z v:=h
  cases B:aB (CL d) 2 with
  |true=>
   rw[B]at h;replace h:(aN (Ku x) λp=>Z<|a_ .i64<|.ofNat p.2.1)=Z v:=h;obtain⟨p,Y,h⟩:=aL h;cases h;have U:=bA B;have E:∃e,d=.slice e:=by cases d<;>simp[CL]at U;exact⟨_,O⟩
   obtain⟨e,rfl⟩:=E;rw[yG Y]at A;refine⟨.sc _ O,λw=>?_⟩;cases hpa:p.1 with
   |none=>
    rw[hpa]at A;obtain⟨N,U,rfl⟩:=A.wJ;simp[lU,L,j,fU K,goInt,N]
   |some a=>
    rw[hpa]at A;rcases A.of_slice with⟨l,cc,_,_,_,rfl,_⟩|⟨a',N,_,rfl⟩
    .simp[lU,L,j,fU K,goInt]
    .simp[lU,L,j,fU K,goInt,N]
  |false=>
   rw[B]at h
   have h:(b_ (aB (CL d) 3) (aN (Oa x) λr=>gd (fT r)<|Z<|.int .i64 0)
    (aN (Sc d) λa=>Z<|.int .i64<|.ofNat a.1))=Z v:=h
   cases h3:aB (CL d) 3 with
   |true=>
    rw[h3]at h;replace h:(aN (Oa x) λr=>gd (fT r)<|Z<|a_ .i64 0)=Z v:=h;obtain⟨r,hr,h⟩:=aL h;obtain⟨X,h⟩:=gJ h;cases h;have V:=bA h3;have E:∃k e,d=.map k e:=by cases d<;>simp[CL]at V;exact⟨_,_,O⟩
    obtain⟨k,e,rfl⟩:=E;cases r with
    |some _=>cases X
    |none=>
     rw[EZ hr]at A;have:=A.xR O;subst this;exact⟨.sc _ O,λw=>by simp[lU,L,j,fU K,goInt]⟩
   |false=>
    rw[h3]at h;replace h:(aN (Sc d) λa=>Z<|a_ .i64<|.ofNat a.1)=Z v:=h;obtain⟨a,S,h⟩:=aL h;cases h;have:=Qk S;subst this;exact⟨.sc _ O,λw=>by simp[lU,L,j,fU K,goInt]⟩
end ops
section ops
variable{P:aX}
inductive OR(m:Mp):aC C->aC C->Prop where
 |nn:OR m T T
 |ss (v v':C) (h:VR m v v'):OR m (Z v) (Z v')
def Zw{o:aC C}{d:Nat}(h:pF o d=Z n):(o=T/\n=d)\/∃k,o=Z (.int k n):=by
 cases o with
 |none=>cases h;exact .inl ⟨O,O⟩
 |some v=>
  have h:AZ v=Z n:=h;obtain⟨k,rfl⟩:=EY h;exact .inr ⟨k,O⟩
def OR.nat{o o':aC C}{d:Nat}(ho:OR m o o')(h:pF o d=Z n):(o'=T/\o=T/\n=d)\/∃k,o'=Z (.int k n)/\o=Z (.int k n):=by
 rcases Zw h with⟨rfl,rfl⟩|⟨k,rfl⟩
 .cases ho;exact .inl ⟨O,O,O⟩
 .cases ho with
  |ss _ v' j=>have:=j.of_int;subst this;exact .inr ⟨k,O,O⟩
def E8{k:f_}{y:Nat}{j:BoundsCode}(h:n<=y):(Instr.sliceBound (.int k n) y j).run P w=.ok n w:=by
 have:(n:Int)<=y:=N;simp[Instr.sliceBound,asIntOf,this,h]
theorem CZ{isS:Bool}{l:Nat}(A:OR m lo lo')(j:OR m hi hi')(E:OR m mx XC)(L:pF lo 0=Z l)(K:pF hi ln=Z h)(em:pF mx cp=Z mm)(I:l<=h)(B:h<=mm)(M:mm<=cp)(N:hi=T->mx=T):
 (Instr.sliceBounds isS ln cp lo' hi' XC).run P w=.ok (l,h,mm) w:=by
 rcases A.nat L with⟨rfl,_,rfl⟩|⟨S,rfl,_⟩<;>rcases j.nat K with⟨rfl,rfl,rfl⟩|⟨U,rfl,rfl⟩<;>rcases E.nat em with⟨rfl,rfl,rfl⟩|⟨V,rfl,rfl⟩
 all_goals first
  |(exfalso;have:=N O;cases this;done)
  |simp[Instr.sliceBounds,E8 I,E8 B,E8 M,E8<|aR I B]
def E9(l:Loc)(off k:Nat)(hl:l.lo<=off):(⟨l.c,l.base+(off-l.lo),T⟩:Addr).add k=⟨l.c,l.base+(off+k-l.lo),T⟩:=by
 unfold Addr.add;split
 .next j=>rw[j,dZ]
 .congr 1;show l.base+(off-l.lo)+k=_;omega
def L9{o:aC α}(h:fT o=f):o=T:=by cases o<;>simp[fT]at h;rfl
def abp{s:aZ}(L:P.underlying t=Z .string)(h:Qb s lo hi=Z v)(A:OR m lo lo')(j:OR m hi hi'):
 VR m v v/\∀w,(l_ t (.string s) lo' hi' T).run P w=.ok v w:=by
 have⟨l,hl,h⟩:=aL h;have⟨hh,Zx,h⟩:=aL h;have⟨hg,h⟩:=gJ h;cases h;simp only[bE,h_]at hg Zx;have I:=aF hg.1;have B:=aF hg.2;have K:s.size=u s.data.toList:=rfl;refine⟨.sc _ O,λw=>?_⟩;have e:=CZ (P:=P) (isS:=aA) (ln:=s.size) (cp:=s.size) (w:=w) A j (OR.nn (m:=m)) hl Zx O I B (ax _) λ_=>rfl
 have E:s.extract l hh=⟨⟨tk (hh-l)<|dp l s.data.toList⟩⟩:=by
  apply vJ;rw[FF,OP];rw[rF,<-jJ,Array.toList_extract]
 simp[l_,Instr.slice,fU L,e,E]
def Ab{l:Nat}(S:P.underlying t=Z (.slice e))(A:P.info? e=Z i)(E:OR m lo lo')(j:OR m hi hi')(K:OR m mx XC)(M:pF lo 0=Z l)(L:pF hi ln=Z h)(em:pF mx cp=Z mm)(I:l<=h)(B:h<=mm)(N:mm<=cp)(O:hi=T->mx=T):
 (l_ t (.slice (Z a) ln cp) lo' hi' XC).run P w=.ok (.slice (Z (if mm=l then a else a.add (l*i.size))) (h-l)<|mm-l) w:=by
 have e:=CZ (P:=P) (isS:=f) (w:=w) E j K M L em I B N O;simp only[l_,Instr.slice,dD,fU S,bR,e,kg A,dR];split<;>simp
def afM{lv:C}(hq:Sf P t=Z q)(hp:Ku x=Z p)(h:Xv q.2 p lo hi mx=Z lv)(M:VR m x x')(L:OR m lo lo')(K:OR m hi hi')(S:OR m mx XC):
 ∃v',VR m lv v'/\∀w,(l_ t x' lo' hi' XC).run P w=.ok v' w:=by
 have⟨hu,⟨inf,wK,hsz⟩,hq1⟩:=CX hq;rw[yG hp]at M;have⟨pa,n,cp⟩:=p;simp only at M;cases pa with
 |none=>
  replace h:(aN (pF lo 0) λl=>aN (pF hi 0) λh=>aN (pF mx 0) λm=>gd (aB l 0&&aB h 0&&aB m 0&&aB n 0&&aB cp 0&&(!(fT hi)||fT mx))<|Z<|.slice T 0 0)=Z lv:=h;have⟨l,hl,h⟩:=aL h;have⟨hh,Zx,h⟩:=aL h;have⟨mm,hmm,h⟩:=aL h;have⟨hg,h⟩:=gJ h;cases h;simp only[bE]at hg;have⟨⟨⟨⟨⟨B,I⟩,g3⟩,U⟩,g5⟩,g6⟩:=hg;have B:=bA B;have I:=bA I;have g3:=bA g3;subst B;subst I;subst g3;obtain⟨_,_,rfl⟩:=M.wJ;refine⟨.slice T 0 0,.sc _ O,λw=>?_⟩
  have e:=CZ (P:=P) (isS:=f) (w:=w) L K S hl Zx hmm (ax _) (ax _) (ax _) (by
   intro e;rw[e]at g6;simp[fT]at g6;cases mx with
   |none=>rfl
   |some _=>simp[fT]at g6)
  simp[l_,Instr.slice,fU hu,e,kg wK]
 |some a=>
  replace h:(aN (pF lo 0) λl=>aN (pF hi n) λh=>
   b_ (gZ cp)
    (aN (pF mx cp) λm=>gd (aD l h&&aD h m&&aD m cp&&(!(fT hi)||fT mx))
     (Z<|.slice (Z ⟨a.block,sS m l a.off q.2,T⟩) (dP h l)<|dP m l))
    (gd (aB cp<|gK q.2) (@aQ C (λ_=>aC C)
     (gd (aD l h&&aD h n)<|Z<|.slice (Z ⟨a.block,bq a.off<|bP l q.2,T⟩) (dP h l) cp)
     (λmv=>aN (AZ mv) λm=>gd (aD l h&&aD h m&&aD m n&&!(fT hi)&&gZ m)
      (Z<|.slice (Z ⟨a.block,sS m l a.off q.2,T⟩) (dP h l)<|dP m l)) mx)))=Z lv:=h
  have⟨l,hl,h⟩:=aL h;have⟨hh,Zx,h⟩:=aL h
  have ad:(!(fT hi)||fT mx)=f->hi=T->mx=T:=by
   intro g e;rw[e]at g;simp[fT]at g;cases mx with
   |none=>rfl
   |some _=>simp[fT]at g
  cases hk:gZ cp with
  |true=>
   rw[hk]at h
   replace h:(aN (pF mx cp) λm=>gd (aD l hh&&aD hh m&&aD m cp&&(!(fT hi)||fT mx))
    (Z<|J (Z ⟨a.block,sS m l a.off q.2,T⟩) (dP hh l)<|dP m l))=Z lv:=h
   have⟨mm,hmm,h⟩:=aL h;have⟨hg,h⟩:=gJ h;cases h;simp only[bE]at hg;have⟨⟨⟨B,I⟩,g3⟩,U⟩:=hg;have B:=aF B;have I:=aF I;have g3:=aF g3;have U:=ad U
   have V:gZ (mm-l)=f:=by
    have:=aF hk;exact aH N
   rcases M.of_slice with⟨A,cc,X,j,ac,rfl,⟨_,rfl,_⟩|⟨es,W,_⟩⟩|⟨a',W,E,rfl⟩
   .refine⟨_,?_,λw=>Ab hu wK L K S hl Zx hmm B I g3 U⟩;unfold sS
    by_cases hml:mm=l
    .rw[show aB mm l=f from by rw[kS];exact hml,jj hml];exact .slice _ _ _ _ A X j V (by show hh-l<=_-l;omega)
    .rw[show aB mm l=aA from by rw[<-dw,kS];exact hml,jx hml,hsz,E9 A a.off _ j];exact .slice _ _ _ _ A X (by show A.lo<=a.off+l*q.2;omega) V (by show hh-l<=_-l;omega)
   .exact absurd W<|E7 hk
   .rcases E with E|⟨es,_,E,_⟩
    .subst W;subst E;have:mm=0:=N;subst this;have:hh=0:=N;subst this;have:l=0:=N;subst this;refine⟨_,?_,λw=>Ab hu wK L K S hl Zx hmm B I g3 U⟩;exact .xh _ _
    .exact absurd E<|E7 hk
  |false=>
   rw[hk]at h
   replace h:(gd (aB cp<|gK q.2) (@aQ C (λ_=>aC C)
    (gd (aD l hh&&aD hh n)<|Z<|J (Z ⟨a.block,bq a.off<|bP l q.2,T⟩) (dP hh l) cp)
    (λmv=>aN (AZ mv) λm=>gd (aD l hh&&aD hh m&&aD m n&&!(fT hi)&&gZ m)
     (Z<|.slice (Z ⟨a.block,sS m l a.off q.2,T⟩) (dP hh l)<|dP m l)) mx))=Z lv:=h
   have⟨JM,h⟩:=gJ h;have JM:=bA JM;cases mx with
   |none=>
    replace h:(gd (aD l hh&&aD hh n)<|Z<|J (Z ⟨a.block,bq a.off<|bP l q.2,T⟩) (dP hh l) cp)=Z lv:=h;have⟨hg,h⟩:=gJ h;cases h;simp only[bE]at hg;have B:=aF hg.1;have I:=aF hg.2;cases S;rcases M.of_slice with⟨A,cc,X,j,ac,rfl,⟨Y,rfl,_⟩|⟨es,W,e0,E,e3,e9⟩⟩|⟨a',W,E,rfl⟩
    .rw[Y]at hk;cases hk
    .refine⟨_,?_,λw=>Ab hu wK L K (OR.nn (m:=m)) hl Zx O B (aR I e3) (ax _) λ_=>rfl⟩
     have al:es=q.2:=by
      have:=W.symm.trans JM;unfold gK at this;exact Nat.add_left_cancel this
     subst al
     by_cases hml:cc=l
     .rw[jj hml];have e4:hh-l=0:=N;have e5:cc-l=0:=N;rw[show dP hh l=0 from e4,e4,e5];rw[JM];exact .vN _ _ _ _ A X (by show A.lo<=a.off+l*q.2;omega) e0 (by show A.n<=a.off+l*q.2;rw[<-hml];exact e9)
     .rw[jx hml,hsz,E9 A a.off _ j,JM];refine .uJ _ _ _ _ _ A X (by show A.lo<=a.off+l*q.2;omega) e0 ?_ (by show hh-l<=cc-l;omega) ?_;show A.base+(a.off+l*q.2-A.lo)+(cc-l)*q.2=A.tot;rw[<-E,Nat.sub_mul];have:l*q.2<=cc*q.2:=fH _ N;omega
      .show A.n<=a.off+l*q.2+(cc-l)*q.2;rw[Nat.sub_mul];have:l*q.2<=cc*q.2:=fH _ N;omega
    .subst W;refine⟨_,?_,λw=>Ab hu wK L K (OR.nn (m:=m)) hl Zx O B N (ax _) λ_=>rfl⟩;have e3:hh-l=0:=N;have e4:0-l=0:=N;have e5:l=0:=N;rw[show dP hh l=0 from e3,e3,e4];rcases E with E|⟨es,l2,E,f1,f2,f3,f4,f5⟩
     .subst E;cases hk
     .rw[E];exact .vN _ _ _ _ l2 f1 (by show l2.lo<=a.off+l*q.2;rw[e5];omega) f3 (by show l2.n<=a.off+l*q.2;rw[e5];omega)
   |some mv=>
    replace h:(aN (AZ mv) λm=>gd (aD l hh&&aD hh m&&aD m n&&!(fT hi)&&gZ m)
     (Z<|J (Z ⟨a.block,sS m l a.off q.2,T⟩) (dP hh l)<|dP m l))=Z lv:=h
    have⟨mm,hmm,h⟩:=aL h;have⟨hg,h⟩:=gJ h;cases h;simp only[bE]at hg;have⟨⟨⟨⟨B,I⟩,g3⟩,U⟩,g5⟩:=hg;have B:=aF B;have I:=aF I;have g3:=aF g3;have U:hi=T->Z mv=T:=by intro e;rw[e]at U;simp[fT]at U
    have ab:∀c,pF (Z mv) c=Z mm:=λc=>hmm
    have V:gZ (mm-l)=f:=by
     have:=aF g5;exact aH N
    rcases M.of_slice with⟨A,cc,X,j,ac,rfl,⟨Y,rfl,_⟩|⟨es,W,e0,E,e3,e9⟩⟩|⟨a',W,E,rfl⟩
    .rw[Y]at hk;cases hk
    .refine⟨_,?_,λw=>Ab hu wK L K S hl Zx (ab _) B I (aR g3 e3) U⟩;unfold sS
     by_cases hml:mm=l
     .rw[show aB mm l=f from by rw[kS];exact hml,jj hml];exact .slice _ _ _ _ A X j V (by show hh-l<=_-l;omega)
     .rw[show aB mm l=aA from by rw[<-dw,kS];exact hml,jx hml,hsz,E9 A a.off _ j];exact .slice _ _ _ _ A X (by show A.lo<=a.off+l*q.2;omega) V (by show hh-l<=_-l;omega)
    .subst W;refine⟨_,?_,λw=>Ab hu wK L K S hl Zx (ab _) B I g3 U⟩;have:mm=0:=N;subst this;have:hh=0:=N;subst this;have:l=0:=N;subst this;exact .xh _ _
def abq{q:Nat×aI×Nat}{lv:C}(W:Sg P t=Z q)(V:sJ x=Z a)(h:U4 q.1 q.2.2 a lo hi mx=Z lv)(M:VR m x x')(L:OR m lo lo')(K:OR m hi hi')(S:OR m mx XC):
 ∃v',VR m lv v'/\∀w,(l_ t x' lo' hi' XC).run P w=.ok v' w:=by
 have⟨hu,⟨inf,wK,hsz⟩,hq1⟩:=Lb W;rw[qY V]at M;obtain⟨j,U,A,X,rfl⟩:=M.vD;have⟨l,hl,h⟩:=aL h;have⟨hh,Zx,h⟩:=aL h;have⟨hg,h⟩:=gJ h;cases h;simp only[bE]at hg;have⟨⟨⟨E,I⟩,g3⟩,g4⟩:=hg;have E:=aF E;have I:=aF I;have g3:=L9 g3;subst g3;cases S;have e:=λw=>CZ (P:=P) (isS:=aA) (cp:=q.1) (w:=w) L K (OR.nn (m:=m)) hl Zx O E I (ax _) λ_=>rfl
 have B:gZ (q.1-l)=f:=by
  have:=aF g4;exact aH N
 refine⟨.slice (Z (if q.1=l then⟨j.c,j.base+(a.off-j.lo),T⟩else(⟨j.c,j.base+(a.off-j.lo),T⟩:Addr).add (l*inf.size))) (hh-l)<|q.1-l,?_,λw=>?_⟩
 .unfold sS
  by_cases hml:q.1=l
  .rw[show aB q.1 l=f from by rw[kS];exact hml,jj hml];exact .slice _ _ _ _ j U A B (by show hh-l<=_-l;omega)
  .rw[show aB q.1 l=aA from by rw[<-dw,kS];exact hml,jx hml,hsz,E9 j a.off _ A];exact .slice _ _ _ _ j U (by show j.lo<=a.off+l*q.2.2;omega) B (by show hh-l<=_-l;omega)
 .simp only[l_,kG,dD,fU hu,bR,dR,e w,kg wK]
def abr{lv:C}(h:BI P t x lo hi mx=Z lv)(M:VR m x x')(A:OR m lo lo')(j:OR m hi hi')(E:OR m mx XC):
 ∃v',VR m lv v'/\∀w,(l_ t x' lo' hi' XC).run P w=.ok v' w:=by
 unfold BI at h;cases hs:Sf P t with
 |some q=>
  rw[hs]at h;replace h:(aN (Ku x) λp=>Xv q.2 p lo hi mx)=Z lv:=h;have⟨p,hp,h⟩:=aL h;exact afM hs hp h M A j E
 |none=>
  rw[hs]at h;cases hst:IZ P t with
  |true=>
   rw[hst]at h;replace h:(aN (vL x) λs=>gd (fT mx)<|Qb s lo hi)=Z lv:=h;have⟨s,hs1,h⟩:=aL h;have⟨hg,h⟩:=gJ h;have g3:=L9 hg;subst g3;cases E;rw[qZ hs1]at M;have:=M.xQ;subst this;have⟨I,B⟩:=abp (P:=P) (OX hst) h A j;exact⟨_,I,B⟩
  |false=>
   rw[hst]at h;replace h:(aN (Sg P t) λq=>aN (sJ x) λa=>U4 q.1 q.2.2 a lo hi mx)=Z lv:=h;have⟨q,hq,h⟩:=aL h;have⟨a,ha,h⟩:=aL h;exact abq hq ha h M A j E
end ops
section ops
variable{P:aX}
def Ve{l:D C}(h:aB (len l) 1=f)(M:nth l 0=Z x):l=[x]:=by
 have:=bA h;rw[h_]at this
 match l,this with
 |[y],_=>cases M;rfl
def Cc(x:α):∀(k:Nat)(l:D α),setAt x k l=l.set k x:=by
 intro k
 induction k with
 |zero=>intro l;cases l<;>rfl
 |succ k j=>intro l;cases l with
  |nil=>rfl
  |cons y r=>exact eY (y::·)<|j r
def Vf:∀(vs:D C)(k:Nat)(F:D C),I6 vs k F=(vs.zipIdx k).foldl (λF p=>F.set p.2 p.1) F:=by
 intro vs
 induction vs with
 |nil=>intros;rfl
 |cons v vs j=>
  intro k F;show I6 vs (k+1) (setAt v k F)=_;rw[j,Cc];rfl
def abt:∀(vs vs':D C)(k:Nat)(F cs':D C),mX m vs vs'->mX m F cs'->mX m (I6 vs k F) (I6 vs' k cs'):=by
 intro vs
 induction vs with
 |nil=>intro vs' k F cs' h j;cases h;exact j
 |cons v vs I=>
  intro vs' k F cs' h j;cases h with
  |cons _ v' _ A E B=>
   show mX m (I6 vs (k+1)<|setAt v k F)<|I6 A (k+1)<|setAt v' k cs';rw[Cc,Cc];exact I A (k+1) _ _ B<|j.set k E
def Zy(F:Array C)(off:Nat):∀(l:D<|C×Nat)(a:Array C),(l.foldl (λ(F:Array C) p=>F.setIfInBounds (off+p.2) p.1) a).toList=
 l.foldl (λ(F:D C) p=>F.set (off+p.2) p.1) a.toList:=by
 intro l
 induction l with
 |nil=>intro a;rfl
 |cons p l j=>intro a;simp only[lz];rw[j];simp
def Zz:∀(vs:D C)(off k:Nat)(F:D C),(vs.zipIdx k).foldl (λ(F:D C) p=>F.set (off+p.2) p.1) F=(vs.zipIdx<|off+k).foldl (λF p=>F.set p.2 p.1) F:=by
 intro vs
 induction vs with
 |nil=>intros;rfl
 |cons v vs j=>intro off k F;simp only[List.zipIdx_cons,lz];rw[j off (k+1)];rfl
def Vg(vs:Array C)(off:Nat)(a:Array C):(vs.zipIdx.foldl (λ(F:Array C)(p:C×Nat)=>F.setIfInBounds (off+p.2) p.1) a)=⟨I6 vs.toList off a.toList⟩:=by
 rw[<-jJ,<-Array.foldl_toList,Zy a,Vf];simp only[Array.toList_zipIdx];rw[Zz];simp
inductive PRs(m:Mp):D (Nat×C)->D (Nat×C)->Prop where
 |nil:PRs m [] []
 |cons (k:Nat) (v v':C) (l l':D<|Nat×C) (h:VR m v v') (hl:PRs m l l'):PRs m ((k,v)::l) ((k,v')::l')
theorem C4(h:VR m v v')(L:v≠top):mX m (cr v) (cr v'):=by
 cases h with
 |sc _ h=>
  have:cr v=[v]:=by cases v<;>first|rfl|simp[oZ]at h
  rw[this];exact .cons _ _ _ _ (.sc _ h) .nil
 |top=>exact absurd O L
 |ptr r off l h j=>exact .cons _ _ _ _ (.ptr r off l h j) .nil
 |slice r off n cp l h j K E=>exact .cons _ _ _ _ (.slice r off n cp l h j K E) .nil
 |uJ r off n es cc l h j B N I hN=>exact .cons _ _ _ _ (.uJ r off n es cc l h j B N I hN) .nil
 |xh a A=>exact .cons _ _ _ _ (.xh a A) .nil
 |vN r off es A l h j B hN=>exact .cons _ _ _ _ (.vN r off es A l h j B hN) .nil
 |map r l h=>exact .cons _ _ _ _ (.map r l h) .nil
 |func ay x y x' y' M S=>exact .cons _ _ _ _ (.func ay x y x' y' M S) .nil
 |iface t v v' h=>exact .cons _ _ _ _ (.iface t v v' h) .nil
 |agg x x' h=>exact h
 |tuple x x' h=>exact .cons _ _ _ _ (.tuple x x' h) .nil
def O4(h:rP v=f):v≠top:=by intro e;rw[e]at h;cases h
def D6(v:C):v.cells=⟨cr v⟩:=by rw[E6]
def Qp(j:Nat->aC (Nat×Nat)):∀(ps ps':D<|Nat×C)(F cs' r:D C),FJ j ps F=Z r->PRs m ps ps'->mX m F cs'->
 ∃r',Instr.fill j ⟨cs'⟩ ps'=Z ⟨r'⟩/\mX m r r':=by
 intro ps
 induction ps with
 |nil=>intro ps' F cs' r h I B;cases I;cases h;exact⟨cs',O,B⟩
 |cons p ps U=>
  intro ps' F cs' r h I B;cases I with
  |cons k v v' _ l' S N=>
   replace h:(aN (j k) λq=>gd (rP v&&aB (len<|cr v) q.2&&aD (bq q.1 q.2) (len F))<|FJ j ps<|I6 (cr v) q.1 F)=Z r:=h;have⟨q,hq,h⟩:=aL h;have⟨hg,h⟩:=gJ h;simp only[bE,h_]at hg;have L:=O4 hg.1.1;have M:=bA hg.1.2;have g3:=aF hg.2;have A:=C4 S L;have⟨r',hr',hrr⟩:=U l' _ (I6 (cr v') q.1 cs') r h N<|abt _ _ _ _ _ A B;refine⟨r',?_,hrr⟩;unfold Instr.fill;rw[hq];have E:v'.cells.size=q.2:=by rw[D6];show(cr v').length=_;rw[<-A.length,M]
   have K:¬(q.1+v'.cells.size>(⟨cs'⟩:Array C).size):=by
    rw[E];show¬(q.1+q.2>u cs');rw[<-B.length];have:q.1+q.2<=u F:=g3;omega
   simp only[E,ne_eq,u_,decide_false,sZ,kX];rw[E]at K;rw[jx K];rw[Vg,D6];exact hr'
def ZA:∀(fs:D Field)(pl:D<|Nat×Nat),places P fs=Z pl->fs.mapM (λay=>(P.info? ay.type).map λi=>(ay.offset,i.size))=Z pl:=by
 intro fs
 induction fs with
 |nil=>intro pl h;cases h;rfl
 |cons ay fs j=>
  intro pl h;replace h:(aN (wH P ay.type) λs=>aN (places P fs) λl=>Z<|(ay.offset,s)::l)=Z pl:=h;have⟨s,hs,h⟩:=aL h;have⟨l,hl,h⟩:=aL h;cases h;obtain⟨i,hi,rfl⟩:=si hs;simp[xL,hi,j l hl]
def abu(h:CP P t ps=Z v)(I:PRs m ps ps'):
 ∃v',VR m v v'/\∀w,(Instr.build t ⟨ps'⟩).run P w=.ok v' w:=by
 have⟨z,hz,h⟩:=aL h;have⟨i,z0,hi,hz0,hze,hlen,hs⟩:=z_ hz;have A:mX m z z:=mX.oZ hs;have j:z0.cells=⟨z⟩:=by rw[hze]
 cases hpl:Xu P t with
 |some pl=>
  rw[hpl]at h;replace h:(aN (FJ (nth pl) ps z) λF=>Z<|dN ⟨F⟩)=Z v:=h;have⟨F,hcs,h⟩:=aL h;cases h;have⟨cs',hcs',hr⟩:=Qp (nth pl) ps ps' z z F hcs I A;refine⟨.agg ⟨cs'⟩,.agg _ _ hr,λw=>run_build w t ⟨ps'⟩ ⟨cs'⟩ ?_⟩;have h:=hpl;have⟨fs,hfs,h⟩:=aL h;have E:=Ao hfs;have B:=ZA fs pl h;unfold Program.built;rw[hi,E];simp only[hz0,B,j];rw[<-hcs'];congr 1;funext k;rw[qw];simp
 |none=>
  rw[hpl]at h;replace h:(aN (Sg P t) λq=>aN (FJ (λk=>Z (bP k q.2.2,q.2.2)) ps z) λF=>Z<|dN ⟨F⟩)=Z v:=h;have⟨q,hq,h⟩:=aL h;have⟨F,hcs,h⟩:=aL h;cases h;have⟨E,⟨inf,wK,hsz⟩,hq1⟩:=Lb hq;have⟨cs',hcs',hr⟩:=Qp _ ps ps' z z F hcs I A;refine⟨.agg ⟨cs'⟩,.agg _ _ hr,λw=>run_build w t ⟨ps'⟩ ⟨cs'⟩ ?_⟩;unfold Program.built;rw[hi,E];simp only[hz0,wK,j,hsz];exact hcs'
end ops
inductive Fs(m:Mp):D (C×C)->D MapEntry->Prop where
 |nil:Fs m [] []
 |cons (k v:C) (e:MapEntry) (l:D<|C×C) (l':D MapEntry) (hk:VR m k e.key) (hv:VR m v e.val) (hl:Fs m l l'):Fs m ((k,v)::l) (e::l')
def Fs.mono{m m':Mp}(j:Mp.le m m'){l:D (C×C)}{l':D MapEntry}(h:Fs m l l'):Fs m' l l':=by
 induction h with
 |nil=>exact .nil
 |cons k v e l l' A B _ E=>exact .cons k v e l l' (A.mono j) (B.mono j) E
def wL(m:Mp)(l:Loc):nI->Obj->Prop
 |.dead,_=>True
 |.row az,.cells F ty fr=>(ty=az.ty/\l.base=0)/\az.n=l.n/\F.size=l.tot/\l.lo<=az.n/\l.base+(az.n-l.lo)<=l.tot/\
  (az.mR=aA->fr.2<=l.base+(az.fz-l.lo))/\
  ∀i,l.lo<=i->i<az.n->∃v,F[l.base+(i-l.lo)]?=Z v/\VR m (az.cells.get top i) v
 |.map es,.map Bo _=>Fs m es Bo.toList
 |.OQ s p,.stringIter s' p'=>s'=s/\p'=p/\l.base=0
 |_,_=>False
theorem wL.mono{m m':Mp}(j:Mp.le m m'){l:Loc}{o:nI}{ob:Obj}(h:wL m l o ob):wL m' l o ob:=by
 cases o<;>cases ob<;>first|exact h|skip
 case row.cells az F ty fr=>
  have⟨I,hn,B,h3,h4,h5,h6⟩:=h;exact⟨I,hn,B,h3,h4,h5,λi a b=>let⟨v,hv,hr⟩:=h6 i a b;⟨v,hv,hr.mono j⟩⟩
 case map.map es Bo c=>exact Fs.mono j h
structure RH(m:Mp)(H:R)(w:cZ):Prop where
 dom:∀r l,m r=Z l->r<H.bV
 ok:∀r l,m r=Z l->∃o,w.heap[l.c]?=Z o/\wL m l (H.obj r) o
 sep:∀r r' l l',m r=Z l->m r'=Z l'->H.obj r≠.dead->H.obj r'≠.dead->l.c=l'.c->r=r'
structure Ex(m m':Mp)(H Q:R)(w w':cZ):Prop where
 le:Mp.le m m'
 new:∀r l,m' r=Z l->m r=T->H.bV<=r
 fresh:∀r l,m' r=Z l->m r=T->l.c<w.heap.size->∃r0 l0,m r0=Z l0/\l0.c=l.c/\Q.low<=r0
 os:w'.os=w.os
 tape:w'.tape=w.tape
 output:w'.output=w.output
 size:w.heap.size<=w'.heap.size
 keep:∀c,c<w.heap.size->(∀r l,m r=Z l->l.c=c->r<Q.low)->w'.heap[c]?=w.heap[c]?
 bV:H.bV<=Q.bV
 low:Q.low<=H.low
 xI:∀r,r<H.bV->r<Q.low->Q.obj r=H.obj r
 hid:∀r,r<H.bV->m r=T->Q.obj r=H.obj r
def qC(h:w.heap[c]?=Z o):c<w.heap.size:=(eX.1 h).1
def Ex.refl(m:Mp)(H:R)(w:cZ):Ex m m H H w w where
 le:=λ_ _ h=>h
 new:=λr l h j=>by rw[h]at j;cases j
 fresh:=λr l h j=>by rw[h]at j;cases j
 os:=rfl
 tape:=rfl
 output:=rfl
 size:=ax _
 keep:=λ_ _ _=>rfl
 bV:=ax _
 low:=ax _
 xI:=λ_ _ _=>rfl
 hid:=λ_ _ _=>rfl
theorem Ex.trans{E m2:Mp}{H1 H2:R}{S U:cZ}(a:Ex m E H H1 w S)(b:Ex E m2 H1 H2 S U):Ex m m2 H H2 w U where
 le:=λr l h=>b.le r l<|a.le r l h
 new:=λr l h L=>by
  cases I:E r with
  |none=>exact aR a.bV<|b.new r l h I
  |some K=>
   have:=b.le r K I;rw[h]at this;cases this;exact a.new r l I L
 fresh:=λr l h L A=>by
  cases I:E r with
  |none=>
   have⟨r0,j,e1,e2,e3⟩:=b.fresh r l h I<|aP A a.size;cases h0:m r0 with
   |some O=>
    have:=a.le r0 O h0;rw[e1]at this;cases this;exact⟨r0,j,h0,e2,e3⟩
   |none=>
    have⟨r1,K,f1,f2,f3⟩:=a.fresh r0 j e1 h0 (by rw[e2];exact A);exact⟨r1,K,f1,f2.trans e2,aR b.low f3⟩
  |some K=>
   have:=b.le r K I;rw[h]at this;cases this;have⟨r0,j,e1,e2,e3⟩:=a.fresh r l I L A;exact⟨r0,j,e1,e2,aR b.low e3⟩
 os:=b.os.trans a.os
 tape:=b.tape.trans a.tape
 output:=b.output.trans a.output
 size:=aR a.size b.size
 keep:=λc M N=>by
  rw[b.keep c (aP M a.size),a.keep c M]
  .exactλr l I B=>aP (N r l I B) b.low
  .intro r l I B;cases h0:m r with
   |some j=>
    have:=a.le r j h0;rw[I]at this;cases this;exact N r l h0 B
   |none=>
    have⟨r0,j,e1,e2,e3⟩:=a.fresh r l I h0 (by rw[B];exact M);have:=N r0 j e1<|e2.trans B;have:=b.low;omega
 bV:=aR a.bV b.bV
 low:=aR b.low a.low
 xI:=λr I B=>(b.xI r (aP I a.bV) B).trans<|a.xI r I<|aP B b.low
 hid:=λr I B=>by
  have V:E r=T:=by
   cases h0:E r with
   |none=>rfl
   |some l=>have:=a.new r l h0 B;omega
  exact(b.hid r (aP I a.bV) V).trans<|a.hid r I B
def xU(H:R)(r:Nat)(o:nI)(r':Nat):(H.put r o).obj r'=if r'=r then o else H.obj r':=Tr.wU _ _ _ _ _
def zR(H:R)(o:nI)(r':Nat):(H.new o).obj r'=if r'=H.bV then o else H.obj r':=Tr.wU _ _ _ _ _
def Ld(H:R)(r:Nat)(o:nI):(H.put r o).low<=r/\(H.put r o).low<=H.low:=by
 have e:(H.put r o).low=b_ (aD H.low r) H.low r:=rfl;rw[e,BL];split
 .next h=>exact⟨aF h,ax _⟩
 .next h=>exact⟨ax _,by have:¬H.low<=r:=λj=>h<|aH j;omega⟩
def Mp.add(m:Mp)(r:Nat)(l:Loc):Mp:=λk=>if k=r then Z l else m k
def Mp.abv(h:m r=T):Mp.le m (m.add r l):=by
 intro k l' j;unfold Mp.add;split
 .next e=>rw[e]at j;rw[h]at j;cases j
 .exact j
theorem RH.O5(j:RH m H w):m H.bV=T:=by
 cases h:m H.bV with
 |none=>rfl
 |some l=>exact absurd (j.dom _ _ h)<|mI _
def RH.alloc(M:RH m H w)(o:nI)(ob:Obj)(lo base tot n:Nat)(W:wL m ⟨w.heap.size,lo,base,tot,n⟩ o ob):
 RH (m.add H.bV ⟨w.heap.size,lo,base,tot,n⟩) (H.new o) (w.alloc ob)/\Ex m (m.add H.bV ⟨w.heap.size,lo,base,tot,n⟩) H (H.new o) w (w.alloc ob):=by
 have hn:=M.O5;have A:=Mp.abv (l:=⟨w.heap.size,lo,base,tot,n⟩) hn;have j:∀r l,m r=Z l->l.c<w.heap.size:=λr l h=>let⟨_,ho,_⟩:=M.ok r l h;qC ho;refine⟨⟨?_,?_,?_⟩,?_⟩
 .intro r l h;show r<H.bV+1;unfold Mp.add at h;split at h
  .omega
  .have:=M.dom r l h;omega
 .intro r l h;unfold Mp.add at h;split at h
  .next e=>
   cases h;refine⟨ob,by show(w.heap.push ob)[w.heap.size]?=_;simp,?_⟩;rw[zR,jj e];exact W.mono A
  .next e=>
   have⟨L_,ho,hk⟩:=M.ok r l h;refine⟨L_,?_,?_⟩
   .have:=qC ho;show(w.heap.push ob)[l.c]?=_;rw[qj,jx N];exact ho
   .rw[zR,jx e];exact hk.mono A
 .intro r Y l l' h K X L S;unfold Mp.add at h K;split at h<;>split at K
  .next e E=>rw[e,E]
  .next e E=>cases h;have:=j Y l' K;simp at S;omega
  .next e E=>cases K;have:=j r l h;simp at S;omega
  .next e E=>
   rw[zR,jx e]at X;rw[zR,jx E]at L;exact M.sep r Y l l' h K X L S
 .refine⟨A,?_,?_,O,O,O,by show w.heap.size<=(w.heap.push ob).size;simp,?_,jr _,ax _,?_,?_⟩
  .intro r l h U;unfold Mp.add at h;split at h
   .next e=>omega
   .rw[U]at h;cases h
  .intro r l h U V;unfold Mp.add at h;split at h
   .next e=>cases h;simp at V
   .rw[U]at h;cases h
  .intro c S _;show(w.heap.push ob)[c]?=_;rw[qj,jx N]
  .intro r I B;rw[zR,jx N]
  .intro r I B;rw[zR,jx N]
def RH.drew(j:RH m H w):RH m H w.drew:=⟨j.dom,j.ok,j.sep⟩
def Ex.drew(m:Mp)(H:R)(w:cZ):Ex m m H H w w.drew:={Ex.refl m H w with os:=rfl,tape:=rfl,output:=rfl,size:=ax _,keep:=λ_ _ _=>rfl}
theorem RH.update(U:RH m H w)(r:Nat)(l:Loc)(o':nI)(L_:Obj)(X:m r=Z l)(hd:H.obj r≠.dead)(ab:wL m l o' L_)(hb:w'.heap[l.c]?=Z L_)(hs:w'.heap.size=w.heap.size)(ho:∀c,c≠l.c->w'.heap[c]?=w.heap[c]?)(I:w'.os=w.os)(B:w'.tape=w.tape)(h3:w'.output=w.output):RH m (H.put r o') w'/\Ex m m H (H.put r o') w w':=by
 have W:=Ld H r o';refine⟨⟨U.dom,?_,?_⟩,?_⟩
 .intro K S j;rw[xU]
  by_cases e:K=r
  .subst e;rw[j]at X;cases X;exact⟨L_,hb,by rw[jj O];exact ab⟩
  .rw[jx e];have⟨ob1,g1,V⟩:=U.ok K S j
   by_cases L:S.c=l.c
   .refine⟨L_,by rw[L];exact hb,?_⟩
    by_cases hdd:H.obj K=.dead
    .rw[hdd];trivial
    .exact absurd (U.sep K r S l j X hdd hd L) e
   .exact⟨ob1,by rw[ho _ L];exact g1,V⟩
 .intro K Y S l2 j M A E L;rw[xU]at A E
  by_cases e1:K=r<;>by_cases e2:Y=r
  .rw[e1,e2]
  .subst e1;rw[jx e2]at E;exact U.sep K Y S l2 j M hd E L
  .subst e2;rw[jx e1]at A;exact U.sep K Y S l2 j M A hd L
  .rw[jx e1]at A;rw[jx e2]at E;exact U.sep K Y S l2 j M A E L
 .refine⟨λ_ _ h=>h,(λr l h h'=>absurd (h.symm.trans h') gB),(λr l h h'=>absurd (h.symm.trans h') gB),I,B,h3,(by rw[hs];exact ax _),?_,ax _,W.2,?_,?_⟩
  .intro c L hk;apply ho;intro e;have:=hk r l X e.symm;omega
  .intro K g1 V;rw[xU,jx N]
  .intro K g1 V;rw[xU,jx (by intro e;subst e;rw[X]at V;cases V)]
section mem
variable{P:aX}
def XD(d:C)(t:Tr C):∀(n k:Nat),(Tr.FX d t k n).length=n:=by
 intro n
 induction n with
 |zero=>intro k;rfl
 |succ n j=>intro k;rw[Tr.zg];simp[j]
def XE(d:C)(t:Tr C):∀(n k j:Nat),j<n->(Tr.FX d t k n)[j]?=Z (t.get d<|k+j):=by
 intro n
 induction n with
 |zero=>intro k j h;omega
 |succ n A=>
  intro k j h;rw[Tr.zg];cases j with
  |zero=>rfl
  |succ j=>rw[iA,A (k+1) j N,show k+1+j=k+(j+1)from N]
def cell_of{fr:Nat×Nat}(h:w.heap[c]?=Z (.cells F ty fr))(k:Nat):w.cell? ⟨c,k,T⟩=F[k]?:=by
 simp[World.cell?,h]
def row_of(A:RH m H w){az:Row}(j:m r=Z l)(ho:H.obj r=.row az):
 ∃F fr,w.heap[l.c]?=Z (.cells F az.ty fr)/\az.n=l.n/\F.size=l.tot/\l.lo<=az.n/\l.base+(az.n-l.lo)<=l.tot/\
  (az.mR=aA->fr.2<=l.base+(az.fz-l.lo))/\
  ∀i,l.lo<=i->i<az.n->∃v,F[l.base+(i-l.lo)]?=Z v/\VR m (az.cells.get top i) v:=by
 have⟨o,hb,hk⟩:=A.ok r l j;rw[ho]at hk;cases o with
 |cells F ty fr=>
  have⟨I,hn,B,h3,h4,h5,h6⟩:=hk;exact⟨F,fr,by rw[hb,I.1],hn,B,h3,h4,h5,h6⟩
 |_=>exact hk.elim
def base_of(A:RH m H w){az:Row}(j:m r=Z l)(ho:H.obj r=.row az):l.base=0:=by
 have⟨o,hb,hk⟩:=A.ok r l j;rw[ho]at hk;cases o with
 |cells F ty fr=>exact hk.1.2
 |_=>exact hk.elim
def afN(A:RH m H w){off:Nat}(h:H.cell r off=Z v)(j:m r=Z l)(hl:l.lo<=off):
 ∃v',w.cell? ⟨l.c,l.base+(off-l.lo),T⟩=Z v'/\VR m v v':=by
 have⟨az,hR,h⟩:=aL h;have⟨hg,h⟩:=gJ h;cases h;have⟨F,fr,hb,_,_,_,_,_,h6⟩:=row_of A j<|vK hR;have⟨v',hv,hr⟩:=h6 off hl<|aF hg;exact⟨v',by rw[cell_of hb,hv],hr⟩
def Hl(S:RH m H w){off:Nat}(h:H.read r off k=Z vs)(L:m r=Z l)(hl:l.lo<=off):
 ∃vs',mX m vs vs'/\u vs'=k/\∀j v,vs'[j]?=Z v->w.cell? ((⟨l.c,l.base+(off-l.lo),T⟩:Addr).add j)=Z v:=by
 cases k with
 |zero=>cases h;exact⟨[],.nil,O,gB⟩
 |succ k=>
  replace h:(aN (xH<|H.obj r) λw=>gd (aD (bq off<|k+1) w.n)<|Z<|Tr.FX top w.cells off<|k+1)=Z vs:=h;have⟨az,hR,h⟩:=aL h;have⟨K,h⟩:=gJ h;cases h;have K:off+(k+1)<=az.n:=aF K;have⟨F,fr,hb,_,_,_,_,_,h6⟩:=row_of S L<|vK hR
  have E:∀n i,i+n=k+1->∃vs',mX m (Tr.FX top az.cells (off+i) n) vs'/\u vs'=n/\∀j v,vs'[j]?=Z v->w.cell? ((⟨l.c,l.base+(off-l.lo),T⟩:Addr).add<|i+j)=Z v:=by
   intro n
   induction n with
   |zero=>intro i _;exact⟨[],.nil,O,gB⟩
   |succ n M=>
    intro i hi;have⟨vs',I,B,h3⟩:=M (i+1) N;have⟨v',hv,hr⟩:=h6 (off+i) N N;refine⟨v'::vs',.cons _ _ _ _ hr I,by simp[B],?_⟩;intro j v A;cases j with
    |zero=>
     simp at A;subst A;rw[E9 l off _ hl,cell_of hb];exact hv
    |succ j=>
     have:=h3 j v<|om A;rw[show i+(j+1)=i+1+j from N];exact this
  have⟨vs',I,B,h3⟩:=E (k+1) 0 N;exact⟨vs',I,B,λj v A=>by have:=h3 j v A;rwa [bB]at this⟩
def zS(A:RH m H w){off:Nat}(h:H.read r off k=Z vs)(j:m r=Z l)(hl:l.lo<=off):
 ∃vs',mX m vs vs'/\u vs'=k/\(loadCells ⟨l.c,l.base+(off-l.lo),T⟩ k).run P w=.ok ⟨vs'⟩ w:=by
 have⟨vs',I,B,h3⟩:=Hl A h j hl;refine⟨vs',I,B,?_⟩;rw[<-B];exact run_loadCells_list w _ vs' h3
def XF(K:RH m H w)(h:xP P t x H=Z (v,Q))(M:VR m x x'):
 Q=H/\∃v',VR m v v'/\(Instr.loadAt t x').run P w=.ok v' w:=by
 have⟨a,ha,h⟩:=aL h;have⟨l0,hl0,h⟩:=aL h;rw[qY ha]at M;obtain⟨l,E,A,N,rfl⟩:=M.vD;have⟨d,i,hd,hi,L⟩:=U8 hl0;rcases L with⟨j,rfl⟩|⟨j,rfl⟩
 .replace h:(aN (H.read a.block a.off i.size) λvs=>Z (dN ⟨vs⟩,H))=Z (v,Q):=h;have⟨vs,hvs,h⟩:=aL h;cases h;have⟨vs',I,B,h3⟩:=zS (P:=P) K hvs E A;exact⟨O,.agg ⟨vs'⟩,.agg _ _ I,by simp[Instr.loadAt,kG,loadVar,xB hd,j,kg hi,h3]⟩
 .replace h:(aN (H.cell a.block a.off) λv=>Z (v,H))=Z (v,Q):=h;have⟨aa,hu,h⟩:=aL h;cases h;have⟨v',I,B⟩:=afN K hu E A;exact⟨O,v',B,by simp[Instr.loadAt,kG,loadVar,xB hd,j,I]⟩
def Qq(w:cZ)(c k:Nat)(v:C)(F:Array C)(ty:aI)(fr:Nat×Nat)(h:w.heap[c]?=Z (.cells F ty fr)):
 (w.setCell ⟨c,k,T⟩ v).heap[c]?=Z (.cells (F.setIfInBounds k v) ty fr):=by
 simp only[World.setCell];rw[jA]
 first|done|simp[h]
def Oe(w:cZ)(c k:Nat)(v:C)(c':Nat)(h:c'≠c):(w.setCell ⟨c,k,T⟩ v).heap[c']?=w.heap[c']?:=by
 simp only[World.setCell];rw[jA,jx<|qI h]
theorem Au(c o:Nat)(ty:aI)(fr:Nat×Nat):∀(vs:D C)(i:Nat)(F:Array C)(w:cZ),w.heap[c]?=Z (.cells F ty fr)->
 (∀v∈vs,v.oneCell'=f)->o+i+u vs<=F.size->(∀j,fr.1<=j->j<fr.2->j<F.size->j<o+i)->
 ∃w' cs',(storeCells ⟨c,o,T⟩ vs i).run P w=.ok () w'/\w'.heap[c]?=Z (.cells cs' ty fr)/\cs'.size=F.size/\
  (∀j,cs'[j]?=if o+i<=j/\j<o+i+u vs then vs[j-(o+i)]? else F[j]?)/\(∀c',c'≠c->w'.heap[c']?=w.heap[c']?)/\w'.heap.size=w.heap.size/\
  w'.os=w.os/\w'.tape=w.tape/\w'.output=w.output:=by
 intro vs
 induction vs with
 |nil=>
  intro i F w M _ _ _;refine⟨w,F,by simp[storeCells],M,rfl,?_,λ_ _=>rfl,rfl,rfl,rfl,rfl⟩;intro j;rw[jx (by simp only[qG];omega)]
 |cons v vs ih=>
  intro i F w M E U S;have A:o+i<F.size:=by simp at U;omega
  have L:(⟨c,o,T⟩:Addr).add i=⟨c,o+i,T⟩:=by
   unfold Addr.add;split
   .next Y=>rw[Y,dZ]
   .rfl
  have K:w.cell? ⟨c,o+i,T⟩=Z F[o+i]:=by rw[cell_of M,bI A]
  have V:w.frozen? ⟨c,o+i,T⟩=aA:=by
   simp only[World.frozen?,M];rw[<-dw,bE];rintro⟨a,b⟩;have:=S (o+i) (om a) (om b) A;omega
  have W:(store ((⟨c,o,T⟩:Addr).add i) v).run P w=.ok () (w.setCell ⟨c,o+i,T⟩ v):=by
   rw[L,run_store P w _ v .plain<|E v gB,K];simp[V]
  have⟨w',cs',I,B,h3,h4,h5,h6,h7,h8,h9⟩:=ih (i+1) (F.setIfInBounds (o+i) v) (w.setCell ⟨c,o+i,T⟩ v) (Qq w c (o+i) v F ty fr M)
   (λX hu=>E X<|by simp[hu]) (by simp at U|-;omega) (λj a b d=>by have:=S j a b<|om d;omega)
  refine⟨w',cs',?_,B,by rw[h3];simp,?_,?_,by rw[h6];simp,h7,h8,h9⟩
  .simp only[storeCells,dD,W,bR];exact I
  .intro j;rw[h4 j]
   by_cases e:j=o+i
   .subst e;rw[jx N,jj gB];simp[A]
   .by_cases g:o+(i+1)<=j/\j<o+(i+1)+u vs
    .rw[jj g,jj N7,show j-(o+i)=(j-(o+(i+1)))+1 from N];rfl
    .rw[jx g,jx N7];simp[lq (qI e)]
  .intro c' O;rw[h5 c' O,Oe _ _ _ _ _ O]
theorem Vh(h:VR m v v')(hs:gI v=f):v'.oneCell'=f:=by
 have⟨_,I,B⟩:=h.gI hs;cases v'<;>first|rfl|exact absurd O (I _)|exact absurd O<|B _
def D7:∀{vs vs':D C},mX m vs vs'->vs.all gI=f->∀v∈vs',v.oneCell'=f:=by
 intro vs
 induction vs with
 |nil=>intro vs' h _;cases h;simp
 |cons v vs I=>
  intro vs' h j;cases h with
  |cons _ v' _ K E B=>
   simp at j;intro A hu;rcases bW.1 hu with rfl|hu
   .exact Vh E j.1
   .exact I B (om j.2) A hu
def D8(I:RH m H w){off:Nat}(h:H.write r off vs=Z Q)(E:mX m vs vs')(M:m r=Z l)(hl:l.lo<=off):
 ∃w',(storeCells ⟨l.c,l.base+(off-l.lo),T⟩ vs').run P w=.ok () w'/\RH m Q w'/\Ex m m H Q w w':=by
 cases E with
 |nil=>cases h;exact⟨w,by simp[storeCells],I,Ex.refl _ _ _⟩
 |cons v v' x x' S X=>
  have E:mX m (v::x) (v'::x'):=.cons _ _ _ _ S X
  replace h:(aN (xH<|H.obj r) λw=>
   gd (!w.mR&&aD (bq off<|len<|v::x) w.n&&aD w.fz off&&all' gI (v::x))
   (Z<|H.put r<|.row ⟨w.ty,Tr.uS top (v::x) off w.cells,w.n,aA,w.fz⟩))=Z Q:=h
  have⟨az,hR,h⟩:=aL h;have⟨hg,h⟩:=gJ h;cases h;have K:=vK hR;simp only[bE,h_,all_eq]at hg;have⟨⟨⟨g0,U⟩,V⟩,g3⟩:=hg;have U:off+(v::x).length<=az.n:=aF U;have V:=aF V;have⟨F,fr,hb,hnn,B,h3,h4,h5,h6⟩:=row_of I M K;have A:(v'::x').length=(v::x).length:=(mX.length E).symm
  have⟨w',cs',e1,e2,e3,e4,e5,e6,e7,e8,e9⟩:=Au (P:=P) l.c (l.base+(off-l.lo)) az.ty fr (v'::x') 0 F w hb (D7 E g3) (by rw[A];omega)
   (λj a b d=>by have:=h5<|om g0;omega)
  have W:=RH.update I r l (.row ⟨az.ty,Tr.uS top (v::x) off az.cells,az.n,aA,az.fz⟩) (.cells cs' az.ty fr) M (by rw[K];simp) ?_ e2 e6 e5 e7 e8 e9
  .exact⟨w',e1,W.1,W.2⟩
  .refine⟨⟨O,base_of I M K⟩,hnn,by rw[e3];exact B,h3,h4,λ_=>h5<|om g0,?_⟩;intro i a b;rw[Tr.oh]
   by_cases hin:off<=i/\i<off+(v::x).length
   .have L:(v::x)[i-off]?=Z ((v::x).getD (i-off) top):=by
     rw[aW,av N];rfl
    have⟨aa,hu1,hu2⟩:=E.get (i-off) L;refine⟨aa,?_,by rw[jj hin];exact hu2⟩;rw[e4,jj (by rw[A];omega),show l.base+(i-l.lo)-(l.base+(off-l.lo)+0)=i-off from N];exact hu1
   .have⟨aa,hu1,hu2⟩:=h6 i a b;refine⟨aa,?_,by rw[jx hin];exact hu2⟩;rw[e4,jx (by rw[A];omega)];exact hu1
def abw(V:RH m H w)(h:Ak P t x y H=Z (v,Q))(M:VR m x x')(U:VR m y y'):
 v=undef/\∃w',(Instr.storeAt t x' y').run P w=.ok () w'/\RH m Q w'/\Ex m m H Q w w':=by
 have⟨a,ha,h⟩:=aL h;have⟨s,hs,h⟩:=aL h;have⟨hg,h⟩:=gJ h;have⟨H1,j,h⟩:=aL h;cases h;obtain⟨i,hi,rfl⟩:=si hs;rw[qY ha]at M;obtain⟨l,N,E,S,rfl⟩:=M.vD;have A:=bA hg;rw[h_]at A
 have I:y≠top:=by
  intro e;subst e
  replace j:(aN (xH<|H.obj a.block) λw=>
   gd (!w.mR&&aD (bq a.off<|len [top]) w.n&&aD w.fz a.off&&all' gI [top])
   (Z<|H.put a.block<|.row ⟨w.ty,Tr.uS top [top] a.off w.cells,w.n,aA,w.fz⟩))=Z Q:=j
  have h:=j;have⟨az,hR,h⟩:=aL h;have⟨hg,h⟩:=gJ h;simp[all_eq,gI,top]at hg
 have L:=C4 U I;have⟨w',e1,e2,e3⟩:=D8 (P:=P) V j L N E;refine⟨O,w',?_,e2,e3⟩;have K:y'.cells.size=i.size:=by rw[D6];show(cr y').length=_;rw[<-L.length,A]
 have B:y'.cells.toList=cr y':=(E6 y').symm;simp only[Instr.storeAt,kG,storeVar,dD,dR,bR,kg hi,K,ne_eq,u_,lN,B];exact e1
def yt(P:aX)(m:Mp)(H:R)(w:cZ)(s:Sem C)(v:C)(Q:R):Prop:=
 ∃m' j w',s.run P w=.ok j w'/\VR m' v j/\RH m' Q w'/\Ex m m' H Q w w'
def ZB(A:mX m vs vs')(c:Nat):wL m ⟨c,0,0,u vs',u vs⟩ (rowOf ty vs) (.cells ⟨vs'⟩ ty):=by
 refine⟨⟨O,O⟩,h_ vs,O,bD _,?_,?_,?_⟩
 .show 0+(len vs-0)<=u vs';rw[h_,A.length];omega
 .intro _;exact bD _
 .intro i a b;have b:i<len vs:=b;rw[h_]at b;rw[show(Tr.uS top vs 0 .nil).get top i=vs.getD i top from by rw[Tr.oh,jj N];rfl];have j:vs[i]?=Z (vs.getD i top):=by rw[aW,av b];rfl
  have⟨aa,I,B⟩:=A.get i j;exact⟨aa,om I,B⟩
def E_(A:RH m H w)(j:mX m vs vs'):
 ∃l m',m' H.bV=Z l/\l.c=w.heap.size/\l.lo=0/\l.base=0/\l.tot=u vs'/\l.n=u vs/\(newRow ty ⟨vs'⟩).run P w=.ok ⟨w.heap.size,0,T⟩ (w.alloc<|.cells ⟨vs'⟩ ty)/\
  RH m' (H.new<|rowOf ty vs) (w.alloc<|.cells ⟨vs'⟩ ty)/\Ex m m' H (H.new<|rowOf ty vs) w (w.alloc<|.cells ⟨vs'⟩ ty):=by
 have:=A.alloc (rowOf ty vs) (.cells ⟨vs'⟩ ty) 0 0 (u vs') (u vs)<|ZB j _;refine⟨⟨w.heap.size,0,0,u vs',u vs⟩,_,?_,O,O,O,O,O,?_,this.1,this.2⟩
 .simp[Mp.add]
 .simp[newRow]
def XG(h:m' n=Z l)(I:l.lo=0)(B:l.base=0):VR m' (OU n) (.pointer<|Z ⟨l.c,0,T⟩):=by
 have:=VR.ptr (m:=m') n 0 l h N;rw[I,B]at this;exact this
def abx(A:RH m H w)(h:D4 P e H=Z (v,Q)):yt P m H w (Instr.alloc e f<|.tuple #[]) v Q:=by
 have⟨z,hz,h⟩:=aL h;cases h;have⟨i,z0,hi,hz0,hze,hlen,hs⟩:=z_ hz;have⟨l,m',a1,a2,a3,a4,a5,a9,a6,a7,a8⟩:=E_ (P:=P) (ty:=e) A<|mX.oZ (m:=m) hs;refine⟨m',_,_,?_,XG a1 a3 a4,a7,a8⟩;have j:z0.cells=⟨z⟩:=by rw[hze]
 simp only[Instr.alloc,newVar,dD,Ap hi hz0,bR,j,a6,dR,a2]
def aiS(j:RH m H w)(h:LU e x H=Z (v,Q))(M:VR m x x'):yt P m H w (Instr.box e x') v Q:=by
 have⟨hg,h⟩:=gJ h;cases h;have⟨l,m',a1,a2,a3,a4,a5,a9,a6,a7,a8⟩:=E_ (P:=P) (ty:=e) j<|C4 M<|O4 hg;refine⟨m',_,_,?_,XG a1 a3 a4,a7,a8⟩;simp only[Instr.box,newVar,dD,bR,D6,a6,dR,a2]
end mem
section mem
variable{P:aX}
def Sq(z:D C):∀n,(qd z n).length=n*u z:=by
 intro n
 induction n with
 |zero=>show([]:D C).length=_;simp
 |succ n j=>show(app z<|qd z n).length=_;rw[uH,aU,j,jN];omega
theorem aby(z:D C):∀n i,i<n*u z->(qd z n)[i]?=z[i %(u z)]?:=by
 intro n
 induction n with
 |zero=>intro i h;omega
 |succ n j=>
  intro i h;rw[show qd z (n+1)=z++qd z n from uH _ _]
  by_cases hi:i<u z
  .rw[bZ hi,v_ hi]
  .rw[eB N,j _ (by rw[jN]at h;omega),<-Nat.mod_eq_sub_mod N]
theorem Ma(z:D C)(n:Nat):((Array.range<|n*u z).map λi=>(⟨z⟩:Array C)[i %(⟨z⟩:Array C).size]!)=⟨qd z n⟩:=by
 rw[<-jJ];apply iQ;intro i;simp only[Array.toList_map,Array.toList_range]
 by_cases hi:i<n*u z
 .rw[aby z n i hi,bL,tX hi]
  have A:0<u z:=by
   rcases gX (u z)with h0|h0
   .rw[h0]at hi;omega
   .exact h0
  have j:i %(u z)<u z:=o8 _ A;simp[av j,j]
 .rw[dB (om hi),dB (by rw[Sq];omega)]
def Jc{z:D C}(h:z.all oZ=f):∀n,(qd z n).all oZ=f:=by
 intro n
 induction n with
 |zero=>rfl
 |succ n j=>rw[show qd z (n+1)=z++qd z n from uH _ _,List.all_append,h,j];rfl
def abz(h:m' n=Z l)(I:l.lo=0)(B:l.base=0)(A:gZ c=f)(j:k<=c):VR m' (.slice (Z ⟨n,0,T⟩) k c) (.slice (Z ⟨l.c,0,T⟩) k c):=by
 have:=VR.slice (m:=m') n 0 k c l h N A j;rw[I,B]at this;exact this
def Vi(V:RH m H w)(h:vv P t n ps H=Z (v,Q))(U:PRs m ps ps'):
 yt P m H w (Instr.buildSlice t n ⟨ps'⟩) v Q:=by
 have⟨q,hq,h⟩:=aL h;have⟨z,hz,h⟩:=aL h;have⟨E,h⟩:=gJ h;have⟨F,hcs,h⟩:=aL h;cases h;have⟨hu,⟨inf,wK,hsz⟩,hq1⟩:=CX hq;have⟨i,z0,hi,hz0,hze,hlen,hs⟩:=z_ hz;rw[wK]at hi;cases hi;have E:=aF E;have E:n*q.2<=16777216:=E;have B:mX m (qd z n) (qd z n):=mX.oZ<|Jc hs n;have⟨cs',hcs',hr⟩:=Qp _ ps ps' _ _ F hcs U B;have⟨l,m',a1,a2,a3,a4,a5,a9,a6,a7,a8⟩:=E_ (P:=P) (ty:=q.1) V hr
 have O:gZ n=f:=by
  apply aH;have:n*1<=n*q.2:=g_ n hq1;omega
 refine⟨m',_,_,?_,abz a1 a3 a4 O N,a7,a8⟩;have L:z0.cells=⟨z⟩:=by rw[hze]
 have A:Instr.fill (λk=>Z (k*q.2,q.2)) ⟨qd z n⟩ ps'=Z ⟨cs'⟩:=hcs';have K:¬(n*q.2>2^24):=N;have j:=Ma z n;rw[hlen,hsz]at j
 by_cases h0:n*q.2=0
 .have S:n=0:=by
   rcases gX n with e|e
   .exact e
   .have:=uX e (show 0<q.2 from hq1);omega
  subst S;have I:Instr.fill (λk=>Z (k*q.2,q.2)) #[] ps'=Z ⟨cs'⟩:=A;have M:∀ay:Nat->C,Array.map ay (Array.range 0)=#[]:=λay=>gB;simp[Instr.buildSlice,fU hu,kg wK,hsz,I,a6,a2,M]
 .simp only[Instr.buildSlice,dD,fU hu,bR,kg wK,hsz,K,lN,h0,Ap wK hz0,L,dR,j,A,a6,a2]
def Qr(rh:RH m H w)(h:sK P t x y H=Z (v,Q))(M:VR m x x')(Y:VR m y y'):
 yt P m H w (Instr.makeSlice t x' y') v Q:=by
 have⟨q,hq,h⟩:=aL h;have⟨i0,j,h⟩:=aL h;have⟨z,hz,h⟩:=aL h;have⟨n,L,h⟩:=aL h;have⟨c,hc,h⟩:=aL h;have⟨hg,h⟩:=gJ h;cases h;have⟨hu,⟨inf,wK,hsz⟩,hq1⟩:=CX hq;have⟨i,z0,hi,hz0,hze,hlen,hs⟩:=z_ hz;rw[wK]at hi;cases hi;have j:P.info? q.1=Z i0:=j;rw[wK]at j;cases j;obtain⟨k1,rfl⟩:=EY L;obtain⟨k2,rfl⟩:=EY hc;have:=M.of_int;subst this;have:=Y.of_int;subst this;simp only[bE]at hg;have g1:=aF hg.1.1;have V:=aF hg.1.2;have g3:=aF hg.2;have⟨l,m',a1,a2,a3,a4,a5,a9,a6,a7,a8⟩:=E_ (P:=P) (ty:=q.1) rh<|mX.oZ (m:=m)<|Jc hs c;have X:gZ c=f:=aH N;refine⟨m',_,_,?_,abz a1 a3 a4 X N,a7,a8⟩;have S:z0.cells=⟨z⟩:=by rw[hze]
 have A:=Ma z c;rw[hlen]at A;have w1:IntKind.i64.wrap (n:Int)=n:=IntWalk.i64_in _ N;have w2:IntKind.i64.wrap (c:Int)=c:=IntWalk.i64_in _ N;have W:i0.bytes*c<=1048576*16777216:=jk g3 V
 have K:¬((2:Int)^48<(i0.bytes:Int)*(c:Int)):=by
  have:(i0.bytes:Int)*(c:Int)=((i0.bytes*c:Nat):Int):=gB;rw[this];omega
 by_cases h0:c*q.2=0
 .have L:c=0:=by
   rcases gX c with e|e
   .exact e
   .have:=uX e (show 0<q.2 from hq1);omega
  subst L;have O:n=0:=N;subst O;have E:(newRow q.1 #[]).run P w=.ok ⟨w.heap.size,0,T⟩ (w.alloc<|.cells #[] q.1):=a6;have w0:IntKind.i64.wrap 0=0:=IntWalk.i64_in _ N;have U:∀ay:Nat->C,Array.map ay (Array.range 0)=#[]:=λay=>gB;simp[Instr.makeSlice,fU hu,asInt,asIntOf,D5 wK,w0,kg wK,hsz,a2];rw[U,E];rfl
 .have I:Array.map (λx=>z[x %(u z)]?.getD default) (Array.range<|c*q.2)=⟨qd z c⟩:=by
   rw[<-A,hsz];congr 1;funext x;simp
  have B:¬((((c:Int)<0\/281474976710656<(i0.bytes:Int)*(c:Int))\/(n:Int)<0)\/c<n):=by
   rintro(((h|h)|h)|h)
   .omega
   .exact K h
   .omega
   .omega
  simp[Instr.makeSlice,fU hu,asInt,asIntOf,D5 wK,w1,w2,kg wK,hsz,h0,Ap wK hz0,S,a2];rw[jx B,I,a6];rfl
end mem
section mem
variable{P:aX}
def Fs.length{l:D (C×C)}(h:Fs m l l'):u l=u l':=by
 induction h with
 |nil=>rfl
 |cons _ _ _ _ _ _ _ _ j=>simp[j]
def Qs(hd:P.underlying t=Z d)(I:1<=q_ d)(em:Bool)(n:Nat)(w:cZ):(iE em (n+1) t v).run P w=.ok () w:=by
 rcases Ja I with⟨j,rfl⟩|rfl|rfl<;>simp[iE,fU hd]
def O6:∀(fs:D Field)(k:Nat)(ks:D Nat)(X':D C),o7 P fs k=Z ks->k+u fs<=u X'->
 ∀ay∈fs,ay.name≠ "_" /\∀(em:Bool) n w,∃a,(part ay.type ⟨X'⟩ ay.offset).run P w=.ok a w/\(iE em (n+1) ay.type a).run P w=.ok () w:=by
 intro fs
 induction fs with
 |nil=>intro k ks X' _ _ ay E;cases E
 |cons ay fs O=>
  intro k ks X' K B g hg;obtain⟨d,r,A,N,M,L,I,rfl⟩:=wW K;rcases bW.1 hg with rfl|hg
  .refine⟨L,λem n w=>?_⟩;have j:g.offset<u X':=by rw[M];simp at B;omega
   exact⟨_,vP A (xS I)<|av j,Qs A I em n w⟩
  .exact O (k+1) r X' N (by simp at B;omega) g hg
theorem D9:∀(ks:D Nat)(xs ys:D C)(b:Bool),oz ks xs ys=Z b->b=f->u xs=u ks:=by
 intro ks
 induction ks with
 |nil=>
  intro xs ys b h B;cases xs with
  |nil=>rfl
  |cons _ _=>cases h
 |cons k ks K=>
  intro xs ys b h B;obtain⟨x,L,y,M,c,rfl,rfl,E,j⟩:=vO h;rcases j with⟨_,I⟩|⟨_,A⟩
  .simp[K L M b I B]
  .rw[B]at A;cases A
def D_:∀(fs:D Field)(k:Nat)(ks:D Nat),o7 P fs k=Z ks->u ks=u fs:=by
 intro fs
 induction fs with
 |nil=>intro k ks h;cases h;rfl
 |cons ay fs A=>
  intro k ks h;obtain⟨d,r,B,j,K,E,I,rfl⟩:=wW h;simp[A _ _ j]
def checkN{ay:Field}{r:D Nat}(hu0:P.underlying t=Z (.struct ⟨[ay,g]⟩))(ho:ay.offset=0)(hn:ay.name≠ "_")(hd:P.underlying ay.type=Z d)(I:1<=q_ d)(ho':g.offset=1)(hn':g.name≠ "_")(hu:P.underlying g.type=Z (.struct ⟨fs⟩))(hk:o7 P fs 0=Z r)(hi:P.info? g.type=Z i)(hsz:i.size=u r)(hlen:u X'=u r+1)(em:Bool)(n:Nat)(w:cZ):
 (iE em (n+3) t<|.agg ⟨X'⟩).run P w=.ok () w:=by
 have go:∀(fs:D Field)(n:Nat)(t:aI)(X':D C),P.underlying t=Z (.struct ⟨fs⟩)->(∀ay∈fs,ay.name≠ "_" /\∃a,(part ay.type ⟨X'⟩ ay.offset).run P w=.ok a w/\(iE em n ay.type a).run P w=.ok () w)->
  (iE em (n+1) t<|.agg ⟨X'⟩).run P w=.ok () w:=by
  intro fs n t X' hu each;rw[iE];simp only[dD,fU hu,bR];rw[<-Array.forIn_toList];simp only[];clear hu;generalize fs=L at each
  induction L with
  |nil=>simp
  |cons ay L ih=>
   obtain⟨hn,a,p1,p2⟩:=each ay<|gB;simp only[wY,dD,hn,ne_eq,nW,lC,bR,p1,p2,dR];exact ih λy hy=>each y (by simp[hy])
 refine go _ (n+2) t X' hu0 λq hq=>?_
 match X',hlen with
 |x::X,hlen=>
 simp only[bW,List.not_mem_nil,je]at hq;rcases hq with rfl|rfl
 .exact⟨hn,x,by rw[ho];exact vP hd (xS I) O,Qs hd I em (n+1) w⟩
 .refine⟨hn',_,I9 hu hi,go fs (n+1) _ _ hu λay hf=>?_⟩;have:=O6 fs 0 r (X.take i.size) hk (by have:=D_ fs 0 r hk;simp at hlen|-;omega) ay hf;obtain⟨e1,e2⟩:=this;obtain⟨a,e3,e4⟩:=e2 em n w;exact⟨e1,a,by rw[ho'];exact e3,e4⟩
def JO(h:mU P t x x=Z f)(M:VR m x x')(em:Bool)(n:Nat)(w:cZ):(iE em (n+3) t x').run P w=.ok () w:=by
 obtain⟨q,hq,h⟩:=aL h;rcases I_ hq with⟨d,X,rfl,I⟩|⟨fs,ks,S,hs,V,rfl⟩|⟨c,e,d,i,S,he,hi,N,I,rfl⟩|⟨ks,hN,rfl⟩
 .exact Qs X I em (n+2) w
 .replace h:(aN (vM x) λa=>aN (vM x) λb=>oz ks a b)=Z f:=h;obtain⟨xs,K,h⟩:=aL h;obtain⟨ys,W,h⟩:=aL h;rw[r_ K]at M;obtain⟨E,rfl,U⟩:=M.vC
  have B:0+u fs<=u E:=by
   rw[<-U.length,D9 ks xs ys f h O,D_ fs 0 ks V];omega
  have A:=O6 fs 0 ks E V B;rw[iE];simp only[dD,fU S,bR];rw[<-Array.forIn_toList];simp only[];clear V hq B S;generalize fs=L at A
  induction L with
  |nil=>simp
  |cons ay L ih=>
   obtain⟨hn,hp⟩:=A ay<|gB;obtain⟨a,p1,p2⟩:=hp em (n+1) w;simp only[wY,dD,hn,ne_eq,nW,lC,bR,p1,p2,dR];exact ih λy hy=>A y (by simp[hy])
 .replace h:(aN (vM x) λa=>aN (vM x) λb=>oz (aY c<|q_ d) a b)=Z f:=h;obtain⟨xs,K,h⟩:=aL h;obtain⟨ys,W,h⟩:=aL h;rw[r_ K]at M;obtain⟨E,rfl,U⟩:=M.vC
  have B:u E=c:=by
   rw[<-U.length,D9 _ xs ys f h O];simp
  rw[iE];simp only[dD,fU S,bR];simp only[Std.Legacy.Range.forIn_eq_forIn_range',Std.Legacy.Range.size,mD,Nat.add_one_sub_one,Nat.div_one]
  have A:∀j∈List.range' 0 c,∃a,(part e ⟨E⟩<|j*i.size).run P w=.ok a w/\(iE em (n+2) e a).run P w=.ok () w:=by
   intro j Y;have Y:j<u E:=by rw[B];simpa using Y
   refine⟨E[j],?_,Qs he I em (n+1) w⟩;rw[N,dY];exact vP he (xS I)<|av Y
  clear B hq h S;generalize List.range' 0 c=L at A
  induction L with
  |nil=>simp
  |cons j L ih=>
   obtain⟨a,p1,p2⟩:=A j<|gB;simp only[wY,dD,kg hi,bR,p1,p2,dR];exact ih λy hy=>A y (by simp[hy])
 .obtain⟨ay,g,d,fs,r,i,S,hs,ho,hn,X,I,ac,ab,ad,al,V,hi,N,rfl⟩:=Cb hN;replace h:(aN (vM x) λa=>aN (vM x) λb=>oz (q_ d::r) a b)=Z f:=h;obtain⟨xs,K,h⟩:=aL h;obtain⟨ys,W,h⟩:=aL h;rw[r_ K]at M;obtain⟨E,rfl,U⟩:=M.vC;exact checkN S ho hn X I ac ab ad V hi N (by rw[<-U.length,D9 _ xs ys f h O];rfl) em n w
def Mc(hd:P.underlying t=Z d)(h:xO (q_ d) x y=Z b)(M:VR m x x')(A:VR m y y'):Instr.sameNow d x' y'=Z b:=by
 obtain⟨rfl,rfl,_⟩:=Aa (t:=t) hd h M A;cases d<;>simp only[q_]at h
 case int k=>
  replace h:(aN (vg x') λa=>aN (vg y') λb=>gd (aB (sQ a.1)<|sQ b.1)<|Z<|FI a.2 b.2)=Z b:=h;have⟨p,hp,h⟩:=aL h;have⟨q,hq,h⟩:=aL h;have⟨j,h⟩:=gJ h;cases h;rw[rZ hp,rZ hq];have j:=B_ j;simp[Instr.sameNow,j,LZ]
 case bool=>
  replace h:(aN (kT x') λa=>aN (kT y') λb=>Z<|CE a b)=Z b:=h;have⟨p,hp,h⟩:=aL h;have⟨q,hq,h⟩:=aL h;cases h;rw[qO hp,qO hq];simp[Instr.sameNow,L5]
 case string=>
  replace h:(aN (vL x') λa=>aN (vL y') λb=>Z<|tO a b)=Z b:=h;have⟨p,hp,h⟩:=aL h;have⟨q,hq,h⟩:=aL h;cases h;rw[qZ hp,qZ hq];simp[Instr.sameNow,Ar,beq_toListBytes]
 all_goals cases h
def Vj(m:Mp):aC (Nat×C)->aC (Nat×C)->Prop
 |none,T=>True
 |some p,Z q=>p.1=q.1/\VR m p.2 q.2
 |_,_=>False
def F5{k:C}{e:C×C}{i:Nat}{r:aC (Nat×C)}(h:tQ P kt k (e::es) i=Z r):
 (mU P kt k e.1=Z f/\r=Z (i,e.2))\/(mU P kt k e.1=Z aA/\tQ P kt k es (i+1)=Z r):=by
 replace h:(aN (mU P kt k e.1) λb=>b_ b (Z<|Z (i,e.2))<|tQ P kt k es<|i+1)=Z r:=h;have⟨b,hb,h⟩:=aL h;cases b
 .exact .inr ⟨hb,h⟩
 .cases h;exact .inl ⟨hb,O⟩
def Vk{k:C}(hd:P.underlying kt=Z d)(M:tEq P kt=Z (.inl<|q_ d))(hk:VR m k k'):∀{es:D (C×C)}{Bo:D MapEntry},Fs m es Bo->∀(i:Nat)(r:aC<|Nat×C),
 tQ P kt k es i=Z r->∃r',lH d k' Bo i=Z r'/\Vj m r r':=by
 intro es Bo K
 induction K with
 |nil=>intro i r h;cases h;exact⟨T,O,trivial⟩
 |cons L v e l l' A N U S=>
  intro i r h
  have j:∀b,mU P kt k L=Z b->xO (q_ d) k L=Z b:=by
   intro b E;unfold mU at E;rw[M]at E;exact E
  rcases F5 h with⟨I,rfl⟩|⟨I,B⟩
  .have:=Mc hd (j _ I) hk A;exact⟨Z (i,e.val),by simp[lH,this],rfl,N⟩
  .have:=Mc hd (j _ I) hk A;have⟨r',h3,h4⟩:=S (i+1) r B;exact⟨r',by simp[lH,this,h3],h4⟩
def Og{k:C}(hk:VR m k k')(w:cZ):∀{es:D (C×C)}{Bo:D MapEntry},Fs m es Bo->∀(i:Nat)(r:aC<|Nat×C),
 tQ P kt k es i=Z r->∃r',(Instr.findAsking kt k' Bo i).run P w=.ok r' w/\Vj m r r':=by
 intro es Bo A
 induction A with
 |nil=>intro i r h;cases h;exact⟨T,O,trivial⟩
 |cons M v e l l' j E L K=>
  intro i r h;rcases F5 h with⟨I,rfl⟩|⟨I,B⟩
  .have:=L6 I hk j w;exact⟨Z (i,e.val),by simp[Instr.findAsking,this],rfl,E⟩
  .have:=L6 I hk j w;have⟨r',h3,h4⟩:=K (i+1) r B;exact⟨r',by simp[Instr.findAsking,this,h3],h4⟩
def Me{k:C}{r:aC (Nat×C)}(hk:VR m k k')(A:Fs m es Bo)(h:tQ P kt k es 0=Z r)(K:mU P kt k k=Z f)(w:cZ):
 ∃r',(Instr.findKey kt k' Bo).run P w=.ok r' w/\Vj m r r':=by
 have h0:=K;replace K:(aN (tEq P kt) λq=>@Sum.rec Nat (D Nat) (λ_=>aC Bool) (λn=>xO n k k) (λl=>aN (vM k) λa=>aN (vM k) λb=>oz l a b) q)=Z f:=K;obtain⟨q,N,Y⟩:=aL K;have ask:=Og hk w A 0 r h
 have O:∃d,P.underlying kt=Z d:=by
  rcases I_ N with⟨d,E,_⟩|⟨fs,ks,j,_⟩|⟨c,e,d,i,j,_⟩|⟨ks,hN,_⟩
  .exact⟨_,E⟩
  .exact⟨_,j⟩
  .exact⟨_,j⟩
  .obtain⟨_,_,_,_,_,_,j,_⟩:=Cb hN;exact⟨_,j⟩
 obtain⟨d,E⟩:=O;cases hfn:lH d k' Bo 0 with
 |none=>
  obtain⟨r',I,B⟩:=ask;exact⟨r',by simp[Instr.findKey,fU E,hfn,I],B⟩
 |some r0=>
  refine⟨r0,by simp[Instr.findKey,fU E,hfn],?_⟩;rcases I_ N with⟨W,L,rfl,I⟩|⟨fs,ks,j,_,_,rfl⟩|⟨c,e,W,i,j,_,_,_,_,rfl⟩|⟨ks,hN,rfl⟩
  .rw[E]at L;cases L;obtain⟨r',S,X⟩:=Vk E N hk A 0 r h;rw[hfn]at S;cases S;exact X
  .rw[E]at j;cases j;cases A with
   |nil=>cases h;simp[lH]at hfn;subst hfn;trivial
   |cons V v e l l' M K U=>simp[lH,Instr.sameNow]at hfn
  .rw[E]at j;cases j;cases A with
   |nil=>cases h;simp[lH]at hfn;subst hfn;trivial
   |cons V v e l l' M K U=>simp[lH,Instr.sameNow]at hfn
  .obtain⟨_,_,_,_,_,_,j,_⟩:=Cb hN;rw[E]at j;cases j;cases A with
   |nil=>cases h;simp[lH]at hfn;subst hfn;trivial
   |cons V v e l l' M K U=>simp[lH,Instr.sameNow]at hfn
end mem
section mem
variable{P:aX}
def Sr{k:C}{aa:Unit}(h:Bi P t k=Z aa):mU P t k k=Z f:=by
 have⟨b,hb,h⟩:=aL h;have⟨hg,h⟩:=gJ h;rw[hb,hg]
def Av{es:Array MapEntry}{cl:Nat}(h:w.heap[c]?=Z (.map es cl)):(getObj c).run P w=.ok (.map es cl) w:=by
 simp[getObj,Sem.run,h]
def Oh(w:cZ)(c:Nat)(o:Obj):cZ:={w with heap:=w.heap.setIfInBounds c o}
def Mf{es A:Array MapEntry}{cl j:Nat}(h:w.heap[c]?=Z (.map es cl)):(setObj c<|.map A j).run P w=.ok () (Oh w c<|.map A j):=by
 simp[setObj,Sem.run,h,Oh]
def XH{j:Obj}(h:w.heap[c]?=Z j):(Oh w c o).heap[c]?=Z o:=by
 have:=qC h;simp[Oh,this]
def XI(h:c'≠c):(Oh w c o).heap[c']?=w.heap[c']?:=by
 simp only[Oh];exact lq<|qI h
def O7:(Oh w c o).heap.size=w.heap.size:=by simp[Oh]
def Vl(E:RH m H w){r r':aC C}(h:vw P t r H=Z (v,Q))(A:OR m r r'):
 yt P m H w (Instr.makeMap t r') v Q:=by
 have⟨q,hq,h⟩:=aL h;have⟨j,h⟩:=gJ h;cases h;have B:=Lc hq;have:=E.alloc (.map []) (.map #[] 0) 0 0 0 0 (show Fs m [] []from .nil);refine⟨_,.map<|Z w.heap.size,w.alloc<|.map #[] 0,?_,?_,this.1,this.2⟩
 .cases A with
  |nn=>simp[Instr.makeMap]
  |ss x x' M=>
   replace j:(!(fT<|vg x))=f:=j;cases hv:vg x with
   |none=>rw[hv]at j;cases j
   |some p=>
    rw[rZ hv]at M;have:=M.of_int;subst this;simp[Instr.makeMap,fU B,asInt,asIntOf]
 .exact VR.map H.bV ⟨w.heap.size,0,0,0,0⟩ (by simp[Mp.add])
def Vm(A:RH m H w)(j:m r=Z l)(ho:H.obj r=.map es):∃Bo cl,w.heap[l.c]?=Z (.map Bo cl)/\Fs m es Bo.toList:=by
 have⟨o,hb,hk⟩:=A.ok r l j;rw[ho]at hk;cases o with
 |map Bo cl=>exact⟨Bo,cl,hb,hk⟩
 |_=>exact hk.elim
def ZC(rh:RH m H w){k:C}(h:uM P t x k ok H=Z (v,Q))(M:VR m x x')(hk:VR m k k'):
 Q=H/\∃v',VR m v v'/\(Instr.lookup t x' k' ok).run P w=.ok v' w:=by
 obtain⟨q,hq,h⟩:=aL h;obtain⟨z,hz,h⟩:=aL h;obtain⟨es,W,h⟩:=aL h;obtain⟨aa,hu,h⟩:=aL h;obtain⟨ay,hf,h⟩:=aL h;have I:=Lc hq;have L:=Sr hu;obtain⟨⟨i,hi,S⟩,US⟩:=Sl hz;have U:VR m z z:=Zq US
 have pre:∃Bo:Array MapEntry,Fs m es Bo.toList/\((x'=.map T/\Bo=#[])\/∃c cl,x'=.map (Z c)/\w.heap[c]?=Z (.map Bo cl)):=by
  have h:=W;obtain⟨mr,X,h⟩:=aL h;rw[EZ X]at M;cases mr with
  |none=>
   have:=M.xR O;subst this;cases h;exact⟨#[],.nil,.inl ⟨O,O⟩⟩
  |some r=>
   obtain⟨l,hm,rfl⟩:=M.of_map;replace h:LH (H.obj r)=Z es:=h;obtain⟨Bo,cl,K,V⟩:=Vm rh hm<|K7 h;exact⟨Bo,V,.inr ⟨_,_,O,K⟩⟩
 obtain⟨Bo,V,B⟩:=pre;obtain⟨r',j,E⟩:=Me hk V hf L w;have A:=JO L hk Bo.isEmpty 9997 w;have A:(iE Bo.isEmpty 10000 q.1 k').run P w=.ok () w:=A;cases ay with
 |none=>
  cases r' with
  |some _=>exact E.elim
  |none=>
   replace h:Z (okd ok z aA H)=Z (v,Q):=h;have N:v=(if ok then .tuple #[z,.bool aA]else z)/\Q=H:=by cases ok<;>(cases h;exact⟨O,O⟩)
   refine⟨N.2,(if ok then .tuple #[z,.bool aA]else z),?_,?_⟩
   .rw[N.1];cases ok
    .exact U
    .exact .tuple _ _<|.cons _ _ _ _ U<|.cons _ _ _ _ (.sc _ O) .nil
   .rcases B with⟨rfl,rfl⟩|⟨c,cl,rfl,K⟩
    .have A:(iE f 10000 q.1 k').run P w=.ok () w:=A;have j:(Instr.findKey q.1 k' []).run P w=.ok T w:=j;simp[Instr.lookup,fU I,A,j,Ap hi S]
    .simp[Instr.lookup,fU I,Av K,A,j,Ap hi S]
 |some p=>
  cases r' with
  |none=>exact E.elim
  |some p'=>
   replace h:Z (okd ok p.2 f H)=Z (v,Q):=h;have N:v=(if ok then .tuple #[p.2,.bool f]else p.2)/\Q=H:=by cases ok<;>(cases h;exact⟨O,O⟩)
   obtain⟨j',Y⟩:=p';refine⟨N.2,(if ok then .tuple #[Y,.bool f]else Y),?_,?_⟩
   .rw[N.1];cases ok
    .exact E.2
    .exact .tuple _ _<|.cons _ _ _ _ E.2<|.cons _ _ _ _ (.sc _ O) .nil
   .rcases B with⟨rfl,rfl⟩|⟨c,cl,rfl,K⟩
    .have A:(iE f 10000 q.1 k').run P w=.ok () w:=A;have j:(Instr.findKey q.1 k' []).run P w=.ok (Z (j',Y)) w:=j;simp[Instr.lookup,fU I,A,j]
    .simp[Instr.lookup,fU I,Av K,A,j]
def afO(I:RH m H w)(h:LX P ats args H=Z (v,Q))(A:mX m args args'):
 Q=H/\VR m v v/\(lU ⟨ats⟩ t ⟨args'⟩).run P w=.ok v w:=by
 have⟨t0,ht,h⟩:=aL h;have⟨x,M,h⟩:=aL h;have⟨q,hq,h⟩:=aL h;have⟨es,hes,h⟩:=aL h;cases h;have j:=Lc hq;rw[qw]at ht M;have⟨x',hx',Dv⟩:=A.get 0 M;refine⟨O,.sc _ O,?_⟩;have h:=hes;have⟨mr,hmr,h⟩:=aL h;rw[EZ hmr]at Dv;cases mr with
 |none=>
  have:=Dv.xR O;subst this;cases h;simp[lU,ht,hx',fU j,goInt,len]
 |some r=>
  obtain⟨l,E,rfl⟩:=Dv.of_map;replace h:LH (H.obj r)=Z es:=h;have⟨Bo,cl,hb,he⟩:=Vm I E<|K7 h;have B:=he.length;simp[lU,ht,hx',fU j,goInt,Av hb,h_,B]
def JP(h:xO k x y=Z f)(M:VR m x x')(j:VR m y y'):x'=y'/\∀n,Instr.sameBits n y' x'=f:=by
 unfold xO at h;rw[BL]at h;split at h
 .have⟨a,ha,h⟩:=aL h;have⟨b,hb,h⟩:=aL h;have⟨hg,h⟩:=gJ h;rw[rZ ha]at M;rw[rZ hb]at j;have:=M.of_int;subst this;have:=j.of_int;subst this;have E:=B_ hg;simp only[uZ,LZ,ni]at h;exact⟨by rw[E,h],λn=>by cases n<;>simp[Instr.sameBits,E,h]⟩
 .rw[BL]at h;split at h
  .have⟨a,ha,h⟩:=aL h;have⟨b,hb,h⟩:=aL h;rw[qO ha]at M;rw[qO hb]at j;have:=M.of_bool;subst this;have:=j.of_bool;subst this;simp only[uZ,L5,ni]at h;exact⟨by rw[h],λn=>by cases n<;>simp[Instr.sameBits,h]⟩
  .rw[BL]at h;split at h
   .have⟨a,ha,h⟩:=aL h;have⟨b,hb,h⟩:=aL h;rw[qZ ha]at M;rw[qZ hb]at j;have:=M.xQ;subst this;have:=j.xQ;subst this;simp only[uZ,Ar]at h;have I:a.toList=b.toList:=om h;rw[jc,jc]at I;have A:a=b:=vJ<|jJ.1 I;subst A;have B:(a==a)=f:=by rw[beq_toListBytes];simp
    exact⟨O,λn=>by cases n<;>simp[Instr.sameBits,B]⟩
   .cases h
def Qt:∀(ks:D Nat)(xs ys xs' j:D C),oz ks xs ys=Z f->mX m xs xs'->mX m ys j->
 xs'=j/\∀n,(j.zip xs').all (λ(x,y)=>Instr.sameBits n x y)=f:=by
 intro ks
 induction ks with
 |nil=>
  intro xs ys xs' j h M K;cases xs with
  |nil=>cases ys with
   |nil=>cases M;cases K;exact⟨O,λn=>rfl⟩
   |cons _ _=>cases h
  |cons _ _=>cases h
 |cons k ks X=>
  intro xs ys xs' j h M K;obtain⟨x,Y,y,yr,c,rfl,rfl,E,A⟩:=vO h;rcases A with⟨rfl,W⟩|⟨_,B⟩
  .cases M with
   |cons _ x' _ N I U=>
    cases K with
    |cons _ y' _ S L V=>
     have⟨e1,e2⟩:=JP E I L;have⟨f1,f2⟩:=X Y yr N S W U V;exact⟨by rw[e1,f1],λn=>by simp only[List.zip_cons_cons,yB,e2 n,f2 n,Bool.and_self]⟩
  .cases B
def Vn(h:mU P t x y=Z f)(M:VR m x x')(j:VR m y y'):x'=y'/\∀n,Instr.sameBits (n+1) y' x'=f:=by
 have⟨q,hq,h⟩:=aL h;cases q with
 |inl k=>
  replace h:xO k x y=Z f:=h;have⟨a,b⟩:=JP h M j;exact⟨a,λn=>b _⟩
 |inr l=>
  replace h:(aN (vM x) λa=>aN (vM y) λb=>oz l a b)=Z f:=h;have⟨xs,hxs,h⟩:=aL h;have⟨ys,hys,h⟩:=aL h;rw[r_ hxs]at M;rw[r_ hys]at j;obtain⟨A,rfl,E⟩:=M.vC;obtain⟨B,rfl,I⟩:=j.vC;have⟨a,b⟩:=Qt l xs ys A B h E I;refine⟨by rw[a],λn=>?_⟩;have:=b n;simp only[Instr.sameBits,bE];exact⟨by rw[a];simp,this⟩
def Fs.set{l:D MapEntry}(h:Fs m es l):∀(j:Nat)(k v:C)(e':MapEntry),VR m k e'.key->VR m v e'.val->Fs m (es.set j (k,v)) (l.set j e'):=by
 induction h with
 |nil=>intro j k v e' _ _;exact .nil
 |cons O U E S A K M L N=>
  intro j k v e' I B;cases j with
  |zero=>exact .cons k v e' S A I B L
  |succ j=>exact .cons O U E _ _ K M<|N j k v e' I B
def Fs.push{l:D MapEntry}(h:Fs m es l)(k v:C)(e':MapEntry)(I:VR m k e'.key)(B:VR m v e'.val):Fs m (es++[(k,v)]) (l++[e']):=by
 induction h with
 |nil=>exact .cons k v e' [] [] I B .nil
 |cons L N j S M A E O K=>exact .cons L N j _ _ A E K
def Fs.get{l:D MapEntry}(h:Fs m es l):∀(j:Nat)(p:C×C),es[j]?=Z p->∃e,l[j]?=Z e/\VR m p.1 e.key/\VR m p.2 e.val:=by
 induction h with
 |nil=>intro j p A;simp at A
 |cons N U B S L E I M K=>
  intro j p A;cases j with
  |zero=>simp at A;subst A;exact⟨B,O,E,I⟩
  |succ j=>simpa using K j p (om A)
def ZD{k:C}:∀(es:D<|C×C)(i j:Nat)(v:C),tQ P kt k es i=Z (Z (j,v))->i<=j/\∃k0,es[j-i]?=Z (k0,v)/\mU P kt k k0=Z f:=by
 intro es
 induction es with
 |nil=>intro i j v h;cases h
 |cons e es A=>
  intro i j v h;rcases F5 h with⟨I,B⟩|⟨I,B⟩
  .simp at B;obtain⟨rfl,rfl⟩:=B;exact⟨ax _,e.1,gB,I⟩
  .have⟨a,k0,b,c⟩:=A (i+1) j v B;refine⟨N,k0,?_,c⟩;rw[show j-i=(j-(i+1))+1 from N];simpa using b
theorem Oi(Bo:Array MapEntry)(j:Nat)(e:MapEntry)(A:Bo[j]?=Z e)(ay:MapEntry->MapEntry):(Bo.modify j ay).toList=Bo.toList.set j (ay e):=by
 apply iQ;intro i;have B:=(eX.1 A).1;rw[fC,jA,dX,<-fC]
 by_cases h:j=i
 .subst h;rw[jj O,jj O,fC,A];simp[B]
 .rw[jx h,jx h]
def ZE(rh:RH m H w){k:C}(h:wV P t x k y H=Z (v,Q))(M:VR m x x')(hk:VR m k k')(hy:VR m y y'):
 v=undef/\∃w',(Instr.mapUpdate t x' k' y').run P w=.ok () w'/\RH m Q w'/\Ex m m H Q w w':=by
 obtain⟨q,hq,h⟩:=aL h;obtain⟨mr,al,h⟩:=aL h;obtain⟨r,hr,h⟩:=aL h;obtain⟨es,N,h⟩:=aL h;obtain⟨aa,hu,h⟩:=aL h;obtain⟨ay,hf,h⟩:=aL h;subst hr;have U:=Lc hq;have S:=Sr hu;rw[EZ al]at M;obtain⟨l,hm,rfl⟩:=M.of_map;obtain⟨Bo,cl,K,V⟩:=Vm rh hm<|K7 N;obtain⟨r',A,I⟩:=Me hk V hf S w;have L:(iE aA 10000 q.1 k').run P w=.ok () w:=JO S hk aA 9997 w;have O8:H.obj r≠.dead:=by rw[K7 N];simp
 cases ay with
 |none=>
  cases r' with
  |some _=>exact I.elim
  |none=>
   replace h:Z (undef,H.put r<|.map<|app es [(k,y)])=Z (v,Q):=h;cases h
   have B:Fs m (app es [(k,y)]) (Bo.push {key:=k',val:=y',born:=cl}).toList:=by
    rw[uH,Array.toList_push];exact V.push k y _ hk hy
   have:=RH.update rh r l (.map<|app es [(k,y)]) (.map (Bo.push {key:=k',val:=y',born:=cl})<|cl+1) hm O8 B (XH K) O7 (λc X=>XI X) O O O;refine⟨O,Oh w l.c<|.map (Bo.push {key:=k',val:=y',born:=cl})<|cl+1,?_,this.1,this.2⟩;simp[Instr.mapUpdate,fU U,Av K,L,A,Mf K]
 |some p=>
  cases r' with
  |none=>exact I.elim
  |some p'=>
   obtain⟨j,v0⟩:=p;obtain⟨j',ap⟩:=p';obtain⟨rfl,ao⟩:=I;replace h:Z (undef,H.put r<|.map<|setAt (k,y) j es)=Z (v,Q):=h;cases h;obtain⟨_,k0,ac,ad⟩:=ZD es 0 j v0 hf;obtain⟨e,E,Y,an⟩:=V.get j _ (by simpa using ac);rw[fC]at E;obtain⟨ab,W⟩:=Vn ad hk Y
   have am:(Instr.keyThatStays e.key k').run P w=.ok k' w:=by
    have:=W 9999;simp[Instr.keyThatStays,this]
   have B:Fs m (setAt (k,y) j es) (Bo.modify j λe=>{e with key:=k',val:=y'}).toList:=by
    rw[Cc,Oi Bo j e E];exact V.set j k y _ hk hy
   have:=RH.update rh r l (.map<|setAt (k,y) j es) (.map (Bo.modify j λe=>{e with key:=k',val:=y'}) cl) hm O8 B (XH K) O7 (λc X=>XI X) O O O;refine⟨O,Oh w l.c<|.map (Bo.modify j λe=>{e with key:=k',val:=y'}) cl,?_,this.1,this.2⟩;simp[Instr.mapUpdate,fU U,Av K,L,A,E,am,Mf K]
end mem
section mem
variable{P:aX}
def yI(s:D UInt8):qK s=s.map λb=>.int .u8 b.toNat:=by rw[qK,G5];rfl
def JQ(s:D UInt8):(qK s).all oZ=f:=by
 rw[yI];simp[oZ]
def Ea(U:RH m H w){e:Nat×D C}(h:appended H sz x=Z e)(M:VR m x x'):
 (∀w,(mg x').run P w=.ok e.1 w)/\∃vs',mX m e.2 vs'/\u vs'=e.1*sz/\(eG sz e.1 x').run P w=.ok ⟨vs'⟩ w:=by
 unfold appended at h;cases hs:vL x with
 |some s=>
  rw[hs]at h;replace h:(gd (aB sz 1)<|Z (len s.data.toList,qK s.data.toList))=Z e:=h;have⟨j,h⟩:=gJ h;cases h;have j:=bA j;subst j;rw[qZ hs]at M;have:=M.xQ;subst this;have N:s.size=u s.data.toList:=rfl;refine⟨λw=>by simp[mg,h_],qK s.data.toList,mX.oZ<|JQ _,by rw[yI];simp[h_],?_⟩
  have:(s.extract 0 s.size).data=s.data:=by
   rw[rF];show s.data.extract 0 s.data.size=s.data;simp
  simp only[eG,h_];rw[show u s.data.toList=s.size from O,this,yI];show Result.ok _ w=Result.ok _ w;congr 1;rw[<-jJ];simp
 |none=>
  rw[hs]at h
  replace h:(aN (Ku x) λp=>@aQ Addr (λ_=>aC<|Nat×D C) (gd (aB p.2.1 0)<|Z (0,[]))
   (λa=>aN (H.read a.block a.off<|bP p.2.1 sz) λl=>Z (p.2.1,l)) p.1)=Z e:=h
  have⟨p,hp,h⟩:=aL h;rw[yG hp]at M;have⟨pa,n,cp⟩:=p;cases pa with
  |none=>
   obtain⟨I,B,rfl⟩:=M.wJ;replace h:(gd (aB n 0)<|Z (0,([]:D C)))=Z e:=h;have⟨j,h⟩:=gJ h;cases h;exact⟨λw=>by simp[mg],[],.nil,gB,by simp[eG]⟩
  |some a=>
   replace h:(aN (H.read a.block a.off<|bP n sz) λl=>Z (n,l))=Z e:=h;have⟨l,hl,h⟩:=aL h;cases h;simp only at M;rcases M.of_slice with⟨X,cc,K,A,L,rfl,_⟩|⟨V,E,W,rfl⟩
   .have⟨vs',I,B,h3⟩:=zS (P:=P) U hl K A;exact⟨λw=>by simp[mg],vs',I,B,by simp only[eG];exact h3⟩
   .subst E;have S:bP 0 sz=0:=jq sz;rw[S]at hl;cases hl;refine⟨λw=>by simp[mg],[],.nil,gB,?_⟩;simp[eG,loadCells,loadCellsFrom]
def ZF(n:Nat):∀(r c:Nat),Builtin.growBy n r c<=max c (n+(n+768)/4):=by
 intro r
 induction r with
 |zero=>intro c;simp[Builtin.growBy];omega
 |succ r j=>
  intro c;unfold Builtin.growBy;split
  .omega
  .next h=>
   have:=j<|c+(c+768)/4;omega
def Vp{j:Nat}(h:cap<j):Builtin.nextslicecap j cap<=2*j+768:=by
 unfold Builtin.nextslicecap;split
 .omega
 .split
  .omega
  .have:=ZF j 4 cap;omega
def Oj(zs:D C)(n:Nat):(Builtin.zeroCells ⟨zs⟩ n).toList.length=n*u zs:=by simp[Builtin.zeroCells]
theorem abA{z0:C}{base:aC Addr}(j:args'[0]?=Z (.slice base ln cc))(A:args'[1]?=Z x')(ht:ats[0]?=Z t)(al:ats[1]?=Z t2)(hu:P.underlying t=Z (.slice e))(am:P.underlying t2=Z d2)(L:∀kk,d2≠.int kk)(hi:P.info? e=Z i)(hz:i.zero=Z z0)(an:z0.cells=⟨zs⟩)(ao:u zs=i.size)(hb:i.bytes<=1048576)(ap:1<=i.bytes)(aq:ln<=16777216)(hk:k<=16777216)(E:cc<ln+k)(M:∀w,(mg x').run P w=.ok k w)(U:(eG i.size ln<|.slice base ln cc).run P w.drew=.ok ⟨old⟩ w.drew)(S:(eG i.size k x').run P w.drew=.ok ⟨vs'⟩ w.drew):
 ∃cap rest,ln+k<=cap/\u rest=(cap-(ln+k))*i.size/\
  (mh ⟨ats⟩ ty ⟨args'⟩).run P w=.ok (.slice (Z ⟨w.drew.heap.size,0,T⟩) (ln+k) cap) (w.drew.alloc<|.cells ⟨old++vs'++rest⟩ e):=by
 refine⟨(Question.appendCap (ln+k) cc e).cut<|w.tape w.drawn<|.appendCap (ln+k) cc e,(Builtin.zeroCells ⟨zs⟩<|(Question.appendCap (ln+k) cc e).cut (w.tape w.drawn<|.appendCap (ln+k) cc e)-(ln+k)).toList,?_,?_,?_⟩
 .simp[Question.cut]
 .rw[Oj,ao]
 .have ar:(match d2 with|.int _=>f|_=>aA)=aA:=by cases d2<;>first|rfl|exact absurd O (L _)
  have ac:Builtin.nextslicecap (ln+k) cc*i.bytes<=2^48:=by
   have I:=Vp E;have B:2*(ln+k)+768<=67109632:=N;exact aR (jk (aR I B) hb) gB
  have ad:¬(ln+k<=cc):=N;have ab:i.bytes≠0:=N;have W:¬(Builtin.nextslicecap (ln+k) cc*i.bytes>2^48):=N;have hf:(Question.appendCap (ln+k) cc e).forced=aA:=rfl;have Y:(⟨ats⟩:Array aI)[0]?=Z t:=om ht;have V:(⟨ats⟩:Array aI)[1]?=Z t2:=om al;have X:∀n,(askRoom n).run P w.drew=.ok () w.drew:=λn=>run_askRoom P w.drew n;have j:(⟨args'⟩:Array C)[0]?=Z (.slice base ln cc):=om j;have A:(⟨args'⟩:Array C)[1]?=Z x':=om A;cases d2
  case int kk=>exact absurd O<|L kk
  all_goals
   simp only[mh,Y,V,j,A,dD,fU hu,fU am,bR,kg hi,dR,dG,lN,M,ad,
    D5 hi,ab,or_self,and_false,W,run_choose,hf,World.drew_eq,X,U,S,Ap hi hz,an,rV,lC]
  all_goals
   generalize Builtin.zeroCells ⟨zs⟩ _=zc;have K:((⟨old⟩:Array C)++(⟨vs'⟩:Array C)++zc)=⟨old++vs'++zc.toList⟩:=by rw[<-jJ];simp
   rw[K];rfl
def zk(j:args'[0]?=Z (.slice (Z a) ln cc))(A:args'[1]?=Z x')(ht:ats[0]?=Z t)(S:ats[1]?=Z t2)(V:P.underlying t=Z (.slice e))(U:P.underlying t2=Z d2)(M:∀kk,d2≠.int kk)(hi:P.info? e=Z i)(B:ln+k<=cc)(E:∀w,(mg x').run P w=.ok k w)(I:(eG i.size k x').run P w=.ok ⟨vs'⟩ w)(N:(storeCells (a.add<|ln*i.size) vs').run P w=.ok () w'):
 (mh ⟨ats⟩ ty ⟨args'⟩).run P w=.ok (.slice (Z a) (ln+k) cc) w':=by
 have L:(⟨ats⟩:Array aI)[0]?=Z t:=om ht;have K:(⟨ats⟩:Array aI)[1]?=Z t2:=om S;have j:(⟨args'⟩:Array C)[0]?=Z (.slice (Z a) ln cc):=om j;have A:(⟨args'⟩:Array C)[1]?=Z x':=om A;cases d2
 case int kk=>exact absurd O<|M kk
 all_goals
  simp only[mh,L,K,j,A,dD,fU V,fU U,bR,kg hi,dR,dG,lN,E,B,
   I,rV,lC,N]
def Ss(j:args'[0]?=Z (.slice T 0 cc))(A:args'[1]?=Z x')(ht:ats[0]?=Z t)(M:ats[1]?=Z t2)(S:P.underlying t=Z (.slice e))(N:P.underlying t2=Z d2)(L:∀kk,d2≠.int kk)(hi:P.info? e=Z i)(B:∀w,(mg x').run P w=.ok 0 w)(E:(eG i.size 0 x').run P w=.ok #[] w):
 (mh ⟨ats⟩ ty ⟨args'⟩).run P w=.ok (.slice T 0 cc) w:=by
 have K:(⟨ats⟩:Array aI)[0]?=Z t:=om ht;have I:(⟨ats⟩:Array aI)[1]?=Z t2:=om M;have j:(⟨args'⟩:Array C)[0]?=Z (.slice T 0 cc):=om j;have A:(⟨args'⟩:Array C)[1]?=Z x':=om A;cases d2
 case int kk=>exact absurd O<|L kk
 all_goals
  simp only[mh,K,I,j,A,dD,fU S,fU N,bR,kg hi,dR,dG,lN,B,dZ,bD,
   E,rV,lC]
def afP(h:aky P t t2=Z q):P.underlying t=Z (.slice q.1)/\1<=q.2/\∃i A zs d2,P.info? q.1=Z i/\i.size=q.2/\i.zero=Z A/\A.cells=⟨zs⟩/\u zs=i.size/\
 zs.all oZ=f/\P.underlying t2=Z d2/\(∀kk,d2≠.int kk)/\i.bytes<=1048576/\1<=i.bytes:=by
 have⟨q',hq,h⟩:=aL h;have⟨i0,j,h⟩:=aL h;have⟨zs,hzs,h⟩:=aL h;have⟨d2,hd2,h⟩:=aL h;have⟨hg,h⟩:=gJ h;cases h;have⟨hu,⟨i,hi,hsz⟩,I⟩:=CX hq;have j:P.info? q.1=Z i0:=j;rw[hi]at j;cases j;have⟨i2,A,hi2,hz0,hze,hlen,hs⟩:=z_ hzs;rw[hi]at hi2;cases hi2;simp only[bE]at hg;refine⟨hu,I,_,A,zs,d2,hi,hsz,hz0,by rw[hze],hlen,hs,hd2,?_,aF hg.1.2,aF hg.2⟩;intro kk e;subst e;have:=hg.1.1;simp[Ob,fT]at this
end mem
section mem
variable{P:aX}
def RH.afQ(U:RH m H w)(r:Nat)(l l':Loc)(o':nI)(L_:Obj)(V:m r=Z l)(hd:H.obj r≠.dead)(hc:l'.c=l.c)(ab:wL m l' o' L_)(hb:w'.heap[l.c]?=Z L_)(hs:w'.heap.size=w.heap.size)(ho:∀c,c≠l.c->w'.heap[c]?=w.heap[c]?)(I:w'.os=w.os)(B:w'.tape=w.tape)(h3:w'.output=w.output):
 RH (m.add H.bV l') ((H.put r .dead).new o') w'/\Ex m (m.add H.bV l') H ((H.put r .dead).new o') w w':=by
 have hn:=U.O5;have W:=Mp.abv (l:=l') hn;have S:=Ld H r .dead;have am:r≠H.bV:=λe=>by have:=U.dom r l V;omega
 have DF:∀k,((H.put r .dead).new o').obj k=if k=H.bV then o' else if k=r then .dead else H.obj k:=by
  intro k;rw[zR];show(if k=H.bV then o' else(H.put r .dead).obj k)=_;rw[xU]
 have ac:l.c<w.heap.size:=by have⟨_,g,_⟩:=U.ok r l V;exact qC g
 refine⟨⟨?_,?_,?_⟩,?_⟩
 .intro k lk E;show k<H.bV+1;unfold Mp.add at E;split at E
  .omega
  .have:=U.dom k lk E;omega
 .intro k lk E;rw[DF];unfold Mp.add at E;split at E
  .next e=>
   cases E;rw[jj e];exact⟨L_,by rw[hc];exact hb,ab.mono W⟩
  .next e=>
   rw[jx e];have⟨ob1,g1,X⟩:=U.ok k lk E
   by_cases K:lk.c=l.c
   .refine⟨L_,by rw[K];exact hb,?_⟩
    by_cases hkr:k=r
    .rw[jj hkr];trivial
    .rw[jx hkr]
     by_cases hdd:H.obj k=.dead
     .rw[hdd];trivial
     .exact absurd (U.sep k r lk l E V hdd hd K) hkr
   .refine⟨ob1,by rw[ho _ K];exact g1,?_⟩;split
    .trivial
    .exact X.mono W
 .intro Y k2 l1 l2 L M j A K;rw[DF]at j A;unfold Mp.add at L M
  by_cases e1:Y=H.bV<;>by_cases e2:k2=H.bV
  .rw[e1,e2]
  .rw[jj e1]at L;cases L;rw[jx e2]at M A
   by_cases hkr:k2=r
   .rw[jj hkr]at A;exact absurd O A
   .rw[jx hkr]at A;exact absurd (U.sep k2 r l2 l M V A hd<|by rw[<-K,hc]) hkr
  .rw[jj e2]at M;cases M;rw[jx e1]at L j
   by_cases hkr:Y=r
   .rw[jj hkr]at j;exact absurd O j
   .rw[jx hkr]at j;exact absurd (U.sep Y r l1 l L V j hd<|by rw[K,hc]) hkr
  .rw[jx e1]at L j;rw[jx e2]at M A
   by_cases akI:Y=r
   .rw[jj akI]at j;exact absurd O j
   .by_cases akJ:k2=r
    .rw[jj akJ]at A;exact absurd O A
    .rw[jx akI]at j;rw[jx akJ]at A;exact U.sep Y k2 l1 l2 L M j A K
 .refine⟨W,?_,?_,I,B,h3,by rw[hs];exact ax _,?_,jr _,S.2,?_,?_⟩
  .intro k lk E h0;unfold Mp.add at E;split at E
   .next e=>omega
   .rw[h0]at E;cases E
  .intro k lk E h0 al;unfold Mp.add at E;split at E
   .next e=>cases E;exact⟨r,l,V,hc.symm,S.1⟩
   .rw[h0]at E;cases E
  .intro c ad E;apply ho;intro e;have:=E r l V e.symm;have h9:((H.put r .dead).new o').low<=r:=S.1;omega
  .intro k g1 X;have h9:((H.put r .dead).new o').low<=r:=S.1;rw[DF,jx N,jx N]
  .intro k g1 X;rw[DF,jx N,jx (by intro e;subst e;rw[V]at X;cases X)]
def RH.kill(M:RH m H w)(r:Nat)(W:m r≠T):RH m (H.put r .dead) w/\Ex m m H (H.put r .dead) w w:=by
 have B:=Ld H r .dead;refine⟨⟨M.dom,?_,?_⟩,{Ex.refl m H w with bV:=ax _,low:=B.2,xI:=?_,hid:=?_,keep:=λ_ _ _=>rfl,fresh:=λr l h S=>absurd (h.symm.trans S) gB}⟩
 .intro k lk V;have⟨o,I,E⟩:=M.ok k lk V;refine⟨o,I,?_⟩;rw[xU];split
  .trivial
  .exact E
 .intro X Y l1 l2 K L j A U;rw[xU]at j A;split at j
  .exact absurd O j
  .split at A
   .exact absurd O A
   .exact M.sep X Y l1 l2 K L j A U
 .intro k I E;rw[xU,jx N]
 .intro k I E;rw[xU,jx (by intro e;subst e;exact W E)]
def Qu(rh:RH m H w)(M:mX m old old')(ab:mX m vs vs')(X:u old=ln*sz)(Y:u vs=k*sz)(E:ln+k<=cap)(K:u rest=(cap-(ln+k))*sz)(hs:1<=sz):
 ∃m',VR m' (.slice (Z ⟨H.bV,0,T⟩) (ln+k)<|gK sz) (.slice (Z ⟨w.heap.size,0,T⟩) (ln+k) cap)/\
  RH m' (H.new<|rowOf e<|old++vs) (w.alloc<|.cells ⟨old'++vs'++rest⟩ e)/\Ex m m' H (H.new<|rowOf e<|old++vs) w (w.alloc<|.cells ⟨old'++vs'++rest⟩ e):=by
 have S:mX m (old++vs) (old'++vs'):=M.append ab;have j:(old++vs).length=(ln+k)*sz:=by rw[aU,X,Y,iH]
 have A:(old'++vs').length=(ln+k)*sz:=by rw[<-S.length,j]
 have U:(old'++vs'++rest).length=cap*sz:=by
  rw[aU,A,K,<-iH];congr 1;omega
 have L:(ln+k)*sz<=cap*sz:=fH _ E
 have W:wL m ⟨w.heap.size,0,0,cap*sz,(ln+k)*sz⟩ (rowOf e<|old++vs) (.cells ⟨old'++vs'++rest⟩ e):=by
  refine⟨⟨O,O⟩,by show len (old++vs)=_;rw[h_,j],U,bD _,?_,?_,?_⟩
  .show 0+(len (old++vs)-0)<=cap*sz;rw[h_,j];omega
  .intro _;exact bD _
  .intro i a b;have b:i<len (old++vs):=b;rw[h_]at b;rw[show(Tr.uS top (old++vs) 0 .nil).get top i=(old++vs).getD i top from by rw[Tr.oh,jj N];rfl];have V:(old++vs)[i]?=Z ((old++vs).getD i top):=by rw[aW,av b];rfl
   have⟨aa,I,B⟩:=S.get i V;refine⟨aa,?_,B⟩;simp only[wF,bB,mD];rw[bZ (by rw[A,<-j];exact b)];exact I
 have:=rh.alloc (rowOf e<|old++vs) (.cells ⟨old'++vs'++rest⟩ e) 0 0 (cap*sz) ((ln+k)*sz) W;refine⟨_,?_,this.1,this.2⟩;have hr:=VR.uJ (m:=m.add H.bV ⟨w.heap.size,0,0,cap*sz,(ln+k)*sz⟩) H.bV 0 (ln+k) sz cap ⟨w.heap.size,0,0,cap*sz,(ln+k)*sz⟩ (by simp[Mp.add]) (ax _) hs gB E (by simp;exact L);exact hr
end mem
section mem
variable{P:aX}
def Mg(c b off lo k:Nat)(hl:lo<=off):(⟨c,b+(off-lo),T⟩:Addr).add k=⟨c,b+(off+k-lo),T⟩:=by
 unfold Addr.add;split
 .next j=>rw[j,dZ]
 .simp only[Addr.mk.injEq,true_and,zf];omega
theorem O9(rh:RH m H w)(r:Nat)(hm:m r≠T){ag:Tr C}{off fz:Nat}(K:mX m old old')(S:mX m vs vs')(W:u old=ln*sz)(X:u vs=k*sz)(hC:∀j,j<ln*sz->old[j]?=Z (ag.get top<|off+j))(E:ln+k<=cap)(L:u rest=(cap-(ln+k))*sz)(hs:1<=sz):
 ∃m',VR m' (.slice (Z ⟨H.bV,off,T⟩) (ln+k)<|gK sz) (.slice (Z ⟨w.heap.size,0,T⟩) (ln+k) cap)/\
  RH m' ((H.put r .dead).new<|.row ⟨e,Tr.uS top vs (off+ln*sz) ag,off+(ln+k)*sz,aA,fz⟩) (w.alloc<|.cells ⟨old'++vs'++rest⟩ e)/\
  Ex m m' H ((H.put r .dead).new<|.row ⟨e,Tr.uS top vs (off+ln*sz) ag,off+(ln+k)*sz,aA,fz⟩) w (w.alloc<|.cells ⟨old'++vs'++rest⟩ e):=by
 have⟨rk,ek⟩:=rh.kill r hm;have A:u old'=ln*sz:=by rw[<-K.length,W]
 have Ol:u vs'=k*sz:=by rw[<-S.length,X]
 have ac:(ln+k)*sz=ln*sz+k*sz:=iH ..
 have M:(old'++vs'++rest).length=cap*sz:=by
  rw[aU,aU,A,Ol,L,<-iH,<-iH];congr 1;omega
 have ab:(ln+k)*sz<=cap*sz:=fH _ E
 have V:wL m ⟨w.heap.size,off,0,cap*sz,off+(ln+k)*sz⟩ (.row ⟨e,Tr.uS top vs (off+ln*sz) ag,off+(ln+k)*sz,aA,fz⟩) (.cells ⟨old'++vs'++rest⟩ e):=by
  refine⟨⟨O,O⟩,O,M,pY _ _,?_,?_,?_⟩
  .show 0+(off+(ln+k)*sz-off)<=cap*sz;omega
  .intro _;exact bD _
  .intro i a b;have b:i<off+(ln+k)*sz:=b;have a:off<=i:=a;simp only[wF,bB];rw[Tr.oh,cK]
   by_cases hin:off+ln*sz<=i/\i<off+ln*sz+u vs
   .rw[jj hin]
    have U:vs[i-(off+ln*sz)]?=Z (vs.getD (i-(off+ln*sz)) top):=by
     rw[aW,av N];rfl
    have⟨aa,I,B⟩:=S.get _ U;refine⟨aa,?_,B⟩;rw[eB N,A,bZ N,show i-off-ln*sz=i-(off+ln*sz)from N];exact I
   .rw[jx hin];have hi:i-off<ln*sz:=N;have Y:=hC (i-off) hi;rw[show off+(i-off)=i from N]at Y;have⟨aa,I,B⟩:=K.get _ Y;refine⟨aa,?_,B⟩;rw[bZ N];exact I
 have:=rk.alloc _ (.cells ⟨old'++vs'++rest⟩ e) off 0 (cap*sz) (off+(ln+k)*sz) V;refine⟨_,?_,this.1,ek.trans this.2⟩
 have hr:=VR.uJ (m:=m.add (H.put r .dead).bV ⟨w.heap.size,off,0,cap*sz,off+(ln+k)*sz⟩) H.bV off (ln+k) sz cap ⟨w.heap.size,off,0,cap*sz,off+(ln+k)*sz⟩ (by
  show(if H.bV=H.bV then _ else _)=_;rw[jj O]) (ax _) hs gB E (by show off+(ln+k)*sz<=off+cap*sz;omega)
 simpa using hr
def ZG(V:RH m H w){off:Nat}{az:Row}(M:m r=Z l)(I:H.obj r=.row az)(E:az.mR=aA)(L:l.lo<=off)(A:mX m vs vs')(U:u vs=k*sz)(S:vs.all gI=f)(ac:off+ln*sz<=az.n)(ab:az.fz<=off+ln*sz)(ht:l.base+(off-l.lo)+cc*sz=l.tot)(W:ln+k<=cc)(hs:1<=sz):
 ∃m' w',(storeCells ⟨l.c,l.base+(off+ln*sz-l.lo),T⟩ vs').run P w=.ok () w'/\
  VR m' (.slice (Z ⟨H.bV,off,T⟩) (ln+k)<|gK sz) (.slice (Z ⟨l.c,l.base+(off-l.lo),T⟩) (ln+k) cc)/\
  RH m' ((H.put r .dead).new<|.row ⟨az.ty,Tr.uS top vs (off+ln*sz) az.cells,off+(ln+k)*sz,aA,az.fz⟩) w'/\
  Ex m m' H ((H.put r .dead).new<|.row ⟨az.ty,Tr.uS top vs (off+ln*sz) az.cells,off+(ln+k)*sz,aA,az.fz⟩) w w':=by
 have⟨F,fr,hb,hnn,B,h3,h4,h5,h6⟩:=row_of V M I;have Ol:u vs'=k*sz:=by rw[<-A.length,U]
 have ad:(ln+k)*sz=ln*sz+k*sz:=iH ..
 have X:(ln+k)*sz<=cc*sz:=fH _ W
 have⟨w',cs',e1,e2,e3,e4,e5,e6,e7,e8,e9⟩:=Au (P:=P) l.c (l.base+(off+ln*sz-l.lo)) az.ty fr vs' 0 F w hb (D7 A S) N
  (λj a b d=>by have:=h5 E;omega)
 have Y:=RH.afQ V r l ⟨l.c,l.lo,l.base,l.tot,off+(ln+k)*sz⟩ (.row ⟨az.ty,Tr.uS top vs (off+ln*sz) az.cells,off+(ln+k)*sz,aA,az.fz⟩) (.cells cs' az.ty fr) M (by rw[I];simp) O ?_ e2 e6 e5 e7 e8 e9
 .refine⟨_,w',e1,?_,Y.1,Y.2⟩;exact VR.uJ (m:=m.add H.bV ⟨l.c,l.lo,l.base,l.tot,off+(ln+k)*sz⟩) H.bV off (ln+k) sz cc ⟨l.c,l.lo,l.base,l.tot,off+(ln+k)*sz⟩ (by simp[Mp.add]) L hs ht W (by show off+(ln+k)*sz<=off+cc*sz;omega)
 .refine⟨⟨O,base_of (l:=l) V M I⟩,O,by rw[e3];exact B,?_,?_,λ_=>h5 E,?_⟩
  .show l.lo<=off+(ln+k)*sz;omega
  .show l.base+(off+(ln+k)*sz-l.lo)<=l.tot;omega
  .intro i a b;have b:i<off+(ln+k)*sz:=b;have a:l.lo<=i:=a;show∃v,cs'[l.base+(i-l.lo)]?=Z v/\VR m ((Tr.uS top vs (off+ln*sz) az.cells).get top i) v;rw[Tr.oh]
   by_cases hin:off+ln*sz<=i/\i<off+ln*sz+u vs
   .have K:vs[i-(off+ln*sz)]?=Z (vs.getD (i-(off+ln*sz)) top):=by
     rw[aW,av N];rfl
    have⟨aa,hu1,hu2⟩:=A.get _ K;refine⟨aa,?_,by rw[jj hin];exact hu2⟩;rw[e4,jj N,show l.base+(i-l.lo)-(l.base+(off+ln*sz-l.lo)+0)=i-(off+ln*sz)from N];exact hu1
   .have⟨aa,hu1,hu2⟩:=h6 i a N;refine⟨aa,?_,by rw[jx hin];exact hu2⟩;rw[e4,jx N];exact hu1
end mem
section mem
variable{P:aX}
theorem ZH(W:RH m H w)(h:EW P ats args H=Z (v,Q))(ha:mX m args args'):
 yt P m H w (mh ⟨ats⟩ ty ⟨args'⟩) v Q:=by
 have⟨t,ht,h⟩:=aL h;have⟨t2,ht2,h⟩:=aL h;have⟨s,hs,h⟩:=aL h;have⟨x,M,h⟩:=aL h;have⟨q,hq,h⟩:=aL h;have⟨p,hp,h⟩:=aL h;have⟨e,he,h⟩:=aL h;have⟨hk,h⟩:=gJ h;rw[qw]at ht ht2 hs M;have hk:=aF hk;have⟨hu,hsz1,i,z0,zs,d2,hi,hsz,hz0,hzc,hzl,hzs,hu2,hd2,hb,hb1⟩:=afP hq;have⟨s',hs0,L⟩:=ha.get 0 hs;have⟨x',hx0,Jb⟩:=ha.get 1 M;rw[yG hp]at L hs;have⟨base,ln,cp⟩:=p;have⟨k,vs⟩:=e;simp only at L hs hk;have⟨hlen,vs',hvs,Ol,hnew⟩:=Ea (P:=P) W he Jb;have⟨_,vsd,ZI,anI,abC⟩:=Ea (P:=P) W.drew he Jb;have ac:u vs=k*q.2:=by rw[hvs.length];exact Ol
 simp only at hlen hvs Ol hnew ZI anI abC;cases k with
 |zero=>
  replace h:Z (s,H)=Z (v,Q):=h;have aq:v=s/\Q=H:=by cases h;exact⟨O,O⟩
  rw[aq.1,aq.2,yG hp];simp only;have a4:vs'=[]:=iL (by rw[Ol,jq]);subst a4;cases base with
  |none=>
   have⟨S,e2,e3⟩:=L.wJ;subst S e2 e3;exact⟨m,_,w,Ss hs0 hx0 (om ht) (om ht2) hu hu2 hd2 hi hlen (by rw[<-hsz]at hnew;exact hnew),L,W,Ex.refl _ _ _⟩
  |some a=>
   rcases L.of_slice with⟨lc,cc,hm,E,Y,S,K⟩|⟨a',S,e2,e3⟩
   .subst S
    have aw:ln+0<=cc:=by
     rcases K with⟨_,I,B⟩|⟨_,_,_,_,I,_⟩<;>omega
    exact⟨m,_,w,zk (vs':=[]) hs0 hx0 (om ht) (om ht2) hu hu2 hd2 hi aw hlen (by rw[hsz];exact hnew)<|by simp[storeCells],L,W,Ex.refl _ _ _⟩
   .subst S e3;exact⟨m,_,w,zk (vs':=[]) hs0 hx0 (om ht) (om ht2) hu hu2 hd2 hi (ax _) hlen (by rw[hsz];exact hnew)<|by simp[storeCells],L,W,Ex.refl _ _ _⟩
 |succ k=>
  have V:∀(X:aC Addr)(U cc:Nat)(ad:D C),args'[0]?=Z (.slice X U cc)->U<=16777216->cc<U+(k+1)->
   (eG q.2 U<|.slice X U cc).run P w.drew=.ok ⟨ad⟩ w.drew->
   ∃cap rest,U+(k+1)<=cap/\u rest=(cap-(U+(k+1)))*q.2/\
    (mh ⟨ats⟩ ty ⟨args'⟩).run P w=.ok (.slice (Z ⟨w.drew.heap.size,0,T⟩) (U+(k+1)) cap) (w.drew.alloc<|.cells ⟨ad++vsd++rest⟩ q.1):=by
   intro X U cc ad h0 I B h3;rw[<-hsz]at h3 abC;have:=abA (P:=P) (w:=w) (ty:=ty) (old:=ad) (vs':=vsd) h0 hx0 (om ht) (om ht2) hu hu2 hd2 hi hz0 hzc hzl hb hb1 I hk B hlen h3 abC;rw[hsz]at this;exact this
  cases base with
  |none=>
   have⟨S,e2,e3⟩:=L.wJ;subst S e2 e3;replace h:(gd (aB 0 0&&aB 0 0)<|Z<|BJ q.1 q.2 (k+1) vs H)=Z (v,Q):=h;have⟨hg,h⟩:=gJ h;cases h;have⟨cap,rest,c1,c2,c3⟩:=V T 0 0 [] hs0 N N (by simp[eG]);have⟨m',g1,g2,g3⟩:=Qu (e:=q.1) (ln:=0) (old:=[]) (old':=[]) (vs:=vs) (vs':=vsd) (rest:=rest) (k:=k+1) (cap:=cap) (sz:=q.2) W.drew .nil ZI gB ac c1 c2 hsz1;rw[bB]at g1 c3;exact⟨m',_,_,c3,g1,g2,(Ex.drew m H w).trans g3⟩
  |some a=>
   replace h:(gd (aD ln 16777216)<|b_ (gZ cp) (BZ q a ln cp (k+1) vs H)<|gd (aB cp<|gK q.2)<|uj q a ln cp (k+1) vs H)=Z (v,Q):=h;have⟨al,h⟩:=gJ h;have al:=aF al;cases hkc:gZ cp with
   |true=>
    rw[hkc]at h
    replace h:(b_ (aD (bq ln<|k+1) cp)
     (aN (H.write a.block (bq a.off<|bP ln q.2) vs) λQ=>Z (.slice (Z a) (bq ln<|k+1) cp,Q))
     (aN (H.read a.block a.off<|bP ln q.2) λold=>Z<|BJ q.1 q.2 (bq ln<|k+1) (app old vs) H))=Z (v,Q):=h
    rcases L.of_slice with⟨lc,cc,hm,E,Y,S,K⟩|⟨a',S,e2,e3⟩
    .subst S
     obtain⟨rfl,a5⟩:cc=cp/\ln<=cp:=by
      rcases K with⟨_,I,B⟩|⟨es,I,_⟩
      .exact⟨I,B⟩
      .exact absurd I<|E7 hkc
     by_cases A:ln+(k+1)<=cc
     .rw[show aD (bq ln<|k+1) cc=f from aH A]at h;replace h:(aN (H.write a.block (bq a.off<|bP ln q.2) vs) λQ=>Z (J (Z a) (bq ln<|k+1) cc,Q))=Z (v,Q):=h;have⟨H1,hH1,h⟩:=aL h;cases h;have⟨w',r1,r2,r3⟩:=D8 (P:=P) W hH1 hvs hm<|aR E<|pY _ _;refine⟨m,_,w',zk (vs':=vs') hs0 hx0 (om ht) (om ht2) hu hu2 hd2 hi A hlen (by rw[hsz];exact hnew) (by rw[Mg _ _ _ _ _ E,hsz];exact r1),?_,r2,r3⟩;have⟨ab,ao,asp⟩:=a;simp only at Y hm E;subst Y;exact VR.slice ab ao (ln+(k+1)) cc lc hm E hkc A
     .rw[show aD (bq ln<|k+1) cc=aA from by rw[<-dw];exactλhh=>A<|aF hh]at h;replace h:(aN (H.read a.block a.off<|bP ln q.2) λold=>Z<|BJ q.1 q.2 (bq ln<|k+1) (app old vs) H)=Z (v,Q):=h;have⟨old,hold,h⟩:=aL h;cases h;have⟨old',o1,o2,o3⟩:=zS (P:=P) W.drew hold hm E;have⟨cap,rest,c1,c2,c3⟩:=V _ ln cc old' hs0 al N (by simp only[eG];exact o3);have⟨m',g1,g2,g3⟩:=Qu (e:=q.1) (ln:=ln) (vs:=vs) (vs':=vsd) (rest:=rest) (k:=k+1) (cap:=cap) (sz:=q.2) W.drew o1 ZI (by rw[o1.length];exact o2) ac c1 c2 hsz1;rw[uH];exact⟨m',_,_,c3,g1,g2,(Ex.drew m H w).trans g3⟩
    .subst S e3
     have aE:cp=0:=by
      rcases e2 with I|⟨es,l,I,_⟩
      .exact I
      .exact absurd I<|E7 hkc
     subst aE;rw[show aD (bq 0<|k+1) 0=aA from by rw[<-dw];intro hh;have:=aF hh;simp at this]at h;replace h:(aN (H.read a.block a.off<|bP 0 q.2) λold=>Z<|BJ q.1 q.2 (bq 0<|k+1) (app old vs) H)=Z (v,Q):=h;rw[show bP 0 q.2=0 from jq _]at h;replace h:Z (BJ q.1 q.2 (bq 0<|k+1) (app [] vs) H)=Z (v,Q):=h;cases h;have⟨cap,rest,c1,c2,c3⟩:=V _ 0 0 [] hs0 N N (by simp[eG,loadCells,loadCellsFrom]);have⟨m',g1,g2,g3⟩:=Qu (e:=q.1) (ln:=0) (old:=[]) (old':=[]) (vs:=vs) (vs':=vsd) (rest:=rest) (k:=k+1) (cap:=cap) (sz:=q.2) W.drew .nil ZI gB ac c1 c2 hsz1;exact⟨m',_,_,c3,g1,g2,(Ex.drew m H w).trans g3⟩
   |false=>
    rw[hkc]at h;replace h:(gd (aB cp<|gK q.2)<|uj q a ln cp (k+1) vs H)=Z (v,Q):=h;have⟨JM,h⟩:=gJ h;have JM:=bA JM;have⟨az,hR,h⟩:=aL h;have⟨hgR,h⟩:=gJ h;have JN:=vK hR;simp only[bE]at hgR;have an:az.ty=q.1:=bA hgR.1
    by_cases hin:a.off+(ln+(k+1))*q.2<=az.n
    .rw[show aD (bq a.off<|bP (bq ln<|k+1) q.2) az.n=f from aH hin]at h;replace h:(aN (H.write a.block (bq a.off<|bP ln q.2) vs) λQ=>Z (J (Z a) (bq ln<|k+1) cp,Q))=Z (v,Q):=h;have⟨H1,hH1,h⟩:=aL h;cases h;rcases L.of_slice with⟨lc,cc,hm,E,Y,S,K⟩|⟨a',S,e2,e3⟩
     .subst S
      obtain⟨es,I,B,h3,h4,h5⟩:∃es,cp=gK es/\0<es/\lc.base+(a.off-lc.lo)+cc*es=lc.tot/\ln<=cc/\lc.n<=a.off+cc*es:=by
       rcases K with⟨I,_⟩|I
       .rw[hkc]at I;cases I
       .exact I
      have am:es=q.2:=by
       rw[JM]at I;have ar:18446744073709551616+q.2=18446744073709551616+es:=I;omega
      subst am;have⟨_,_,_,hnn,_⟩:=row_of W hm JN
      have A:ln+(k+1)<=cc:=by
       rw[hnn]at hin;exact Nat.le_of_mul_le_mul_right (c:=q.2) N B
      have⟨w',r1,r2,r3⟩:=D8 (P:=P) W hH1 hvs hm<|aR E<|pY _ _;refine⟨m,_,w',zk (vs':=vs') hs0 hx0 (om ht) (om ht2) hu hu2 hd2 hi A hlen (by rw[hsz];exact hnew) (by rw[Mg _ _ _ _ _ E,hsz];exact r1),?_,r2,r3⟩;have⟨ab,ao,asp⟩:=a;simp only at Y hm E h3 h5;subst Y;rw[JM];exact VR.uJ ab ao (ln+(k+1)) q.2 cc lc hm E B h3 A h5
     .subst S
      obtain⟨es,l,I,B,h3,h4,h5,h6⟩:∃es l,cp=gK es/\m a.block=Z l/\l.lo<=a.off/\0<es/\l.n<=a.off/\a.spot=T:=by
       rcases e2 with I|I
       .rw[I]at hkc;simp[gZ]at hkc
       .exact I
      have⟨_,_,_,hnn,_⟩:=row_of W B JN;have:1*1<=(0+(k+1))*q.2:=jk N hsz1;omega
    .rw[show aD (bq a.off<|bP (bq ln<|k+1) q.2) az.n=aA from by rw[<-dw];exactλhh=>hin<|aF hh]at h
     replace h:(gd (aD (bq a.off<|bP ln q.2) az.n&&aD az.fz (bq a.off<|bP ln q.2)&&all' gI vs)
      (Z (J (Z ⟨H.bV,a.off,T⟩) (bq ln<|k+1) cp,
      (H.put a.block .dead).new (.row ⟨az.ty,Tr.uS top vs (bq a.off<|bP ln q.2) az.cells,bq a.off<|bP (bq ln<|k+1) q.2,aA,az.fz⟩))))=Z (v,Q):=h
     have⟨hg,h⟩:=gJ h;cases h;simp only[bE,all_eq]at hg;have ap:a.off+ln*q.2<=az.n:=aF hg.1.1;have a0:az.fz<=a.off+ln*q.2:=aF hg.1.2;have a1:=hg.2;rcases L.of_slice with⟨lc,cc,hm,E,Y,S,K⟩|⟨a',S,e2,e3⟩
     .subst S
      obtain⟨es,I,B,h3,h4,h5⟩:∃es,cp=gK es/\0<es/\lc.base+(a.off-lc.lo)+cc*es=lc.tot/\ln<=cc/\lc.n<=a.off+cc*es:=by
       rcases K with⟨I,_⟩|I
       .rw[hkc]at I;cases I
       .exact I
      have am:es=q.2:=by
       rw[JM]at I;have ar:18446744073709551616+q.2=18446744073709551616+es:=I;omega
      subst am
      by_cases A:ln+(k+1)<=cc
      .have⟨m',w',r1,r2,r3,r4⟩:=ZG (P:=P) W (ln:=ln) hm JN (om hgR.2) E hvs ac a1 ap a0 h3 A hsz1;rw[JM];exact⟨m',_,w',zk (vs':=vs') hs0 hx0 (om ht) (om ht2) hu hu2 hd2 hi A hlen (by rw[hsz];exact hnew) (by rw[Mg _ _ _ _ _ E,hsz];exact r1),r2,r3,r4⟩
      .have a3:H.read a.block a.off (ln*q.2)=Z (Tr.FX top az.cells a.off<|ln*q.2):=by
        cases hz:ln*q.2 with
        |zero=>rfl
        |succ n=>
         show(aN (xH<|H.obj a.block) λw=>gd (aD (bq a.off<|n+1) w.n)<|Z<|Tr.FX top w.cells a.off<|n+1)=_;rw[hR];show(gd (aD (bq a.off<|n+1) az.n) _)=_;rw[show aD (bq a.off<|n+1) az.n=f from aH (by rw[<-hz];exact ap)];rfl
       have⟨old',o1,o2,o3⟩:=zS (P:=P) W.drew a3 hm E;have⟨cap,rest,c1,c2,c3⟩:=V _ ln cc old' hs0 al N (by simp only[eG];exact o3);have⟨m',g1,g2,g3⟩:=O9 (e:=az.ty) (fz:=az.fz) (off:=a.off) (ag:=az.cells) (ln:=ln) (vs:=vs) (vs':=vsd) (rest:=rest) (k:=k+1) (cap:=cap) (sz:=q.2) W.drew a.block (by rw[hm];simp) o1 ZI (by rw[o1.length];exact o2) ac (λj hj=>XE _ _ _ _ _ hj) c1 c2 hsz1;rw[JM,<-an]at*;exact⟨m',_,_,c3,g1,g2,(Ex.drew m H w).trans g3⟩
     .have a2:m a.block≠T:=by
       rcases e2 with I|⟨es,l,I,B,_⟩
       .rw[I]at hkc;simp[gZ]at hkc
       .rw[B];simp
      subst S e3;have⟨cap,rest,c1,c2,c3⟩:=V _ 0 0 [] hs0 N N (by simp[eG,loadCells,loadCellsFrom]);have⟨m',g1,g2,g3⟩:=O9 (e:=az.ty) (fz:=az.fz) (off:=a.off) (ag:=az.cells) (old:=[]) (old':=[]) (ln:=0) (vs:=vs) (vs':=vsd) (rest:=rest) (k:=k+1) (cap:=cap) (sz:=q.2) W.drew a.block a2 .nil ZI gB ac (λj hj=>N) c1 c2 hsz1;rw[JM];rw[<-an]at c3;exact⟨m',_,_,c3,g1,g2,(Ex.drew m H w).trans g3⟩
end mem
section mem
variable{P:aX}
def ZJ(S:RH m H w){e:Nat×D C}(h:appended H sz x=Z e)(M:VR m x x'):
 (∀w,(mg x').run P w=.ok e.1 w)/\∃vs',mX m e.2 vs'/\u vs'=e.1*sz/\∀n,n<=e.1->(eG sz n x').run P w=.ok ⟨vs'.take<|n*sz⟩ w:=by
 refine⟨(Ea (P:=P) S h M).1,?_⟩;unfold appended at h;cases hs:vL x with
 |some s=>
  rw[hs]at h;replace h:(gd (aB sz 1)<|Z (len s.data.toList,qK s.data.toList))=Z e:=h;have⟨E,h⟩:=gJ h;cases h;have E:=bA E;subst E;rw[qZ hs]at M;have:=M.xQ;subst this;refine⟨qK s.data.toList,mX.oZ<|JQ _,by rw[yI];simp[h_],?_⟩;intro n N;have V:(s.extract 0 n).data=s.data.extract 0 n:=by rw[rF]
  simp only[eG];rw[V,yI,dY];show Result.ok _ w=Result.ok _ w;congr 1;rw[<-jJ];simp
 |none=>
  rw[hs]at h
  replace h:(aN (Ku x) λp=>@aQ Addr (λ_=>aC<|Nat×D C) (gd (aB p.2.1 0)<|Z (0,[]))
   (λa=>aN (H.read a.block a.off<|bP p.2.1 sz) λl=>Z (p.2.1,l)) p.1)=Z e:=h
  have⟨p,hp,h⟩:=aL h;rw[yG hp]at M;have⟨pa,n,cp⟩:=p;cases pa with
  |none=>
   obtain⟨I,B,rfl⟩:=M.wJ;replace h:(gd (aB n 0)<|Z (0,([]:D C)))=Z e:=h;have⟨E,h⟩:=gJ h;cases h;exact⟨[],.nil,gB,λn N=>by simp[eG]⟩
  |some a=>
   replace h:(aN (H.read a.block a.off<|bP n sz) λl=>Z (n,l))=Z e:=h;have⟨l,hl,h⟩:=aL h;cases h;simp only at M;rcases M.of_slice with⟨O,cc,X,L,Y,rfl,_⟩|⟨a',U,e2,rfl⟩
   .have⟨vs',I,B,h3⟩:=Hl S hl X L;refine⟨vs',I,B,?_⟩;intro k W;simp only[eG]
    have A:(vs'.take<|k*sz).length=k*sz:=by
     rw[dS,B];exact jF<|fH _ W
    rw[show k*sz=(vs'.take<|k*sz).length from A.symm];rw[A]
    have:=run_loadCells_list (P:=P) w ⟨O.c,O.base+(a.off-O.lo),T⟩ (vs'.take<|k*sz) (λj v K=>h3 j v (by
     rw[iq]at K;split at K
     .exact K
     .cases K))
    rw[A]at this;exact this
   .subst U;have hz:bP 0 sz=0:=jq sz;rw[hz]at hl;cases hl;refine⟨[],.nil,gB,?_⟩;intro n N;have:n=0:=om N;subst this;simp[eG,loadCells,loadCellsFrom]
def afS(N:RH m H w)(h:OV P ats args H=Z (v,Q))(ha:mX m args args'):
 yt P m H w (Builtin.copy_ ⟨ats⟩ ty ⟨args'⟩) v Q:=by
 have⟨t,ht,h⟩:=aL h;have⟨d,hd,h⟩:=aL h;have⟨x,M,h⟩:=aL h;have⟨q,hq,h⟩:=aL h;have⟨p,hp,h⟩:=aL h;have⟨e,he,h⟩:=aL h;rw[qw]at ht hd M;have⟨hu,⟨i,hi,hsz⟩,hs1⟩:=CX hq;have⟨d',hd0,A⟩:=ha.get 0 hd;have⟨x',hx0,Jb⟩:=ha.get 1 M;rw[yG hp]at A;have⟨base,ln,cp⟩:=p;have⟨k,vs⟩:=e;have⟨hlen,vs',hvs,hvl,Vq⟩:=ZJ (P:=P) N he Jb;simp only at A hlen hvs hvl Vq;have I:(⟨ats⟩:Array aI)[0]?=Z t:=om ht;have B:(⟨args'⟩:Array C)[0]?=Z d':=om hd0;have E:(⟨args'⟩:Array C)[1]?=Z x':=om hx0;cases base with
 |none=>
  have⟨S,Y,e3⟩:=A.wJ;subst S Y e3;replace h:(gd (aB 0 0)<|Z (a_ .i64 0,H))=Z (v,Q):=h;have⟨hg,h⟩:=gJ h;cases h;have L:=Vq 0<|bD _;refine⟨m,_,w,?_,.sc _ O,N,Ex.refl _ _ _⟩;have K:Nat.min k 0=0:=Nat.min_zero k;simp[Builtin.copy_,I,B,E,fU hu,hlen,kg hi,hsz,K,L,goInt]
 |some a=>
  replace h:(aN (H.write a.block a.off<|tk (bP (b_ (aD k ln) k ln) q.2) vs) λQ=>Z (a_ .i64<|.ofNat<|b_ (aD k ln) k ln,Q))=Z (v,Q):=h
  have hb:b_ (aD k ln) k ln=Nat.min k ln:=by
   by_cases hh:k<=ln
   .rw[show aD k ln=f from aH hh];exact(jF hh).symm
   .rw[show aD k ln=aA from by rw[<-dw];exactλg=>hh<|aF g];exact(vZ<|Nat.le_of_not_le hh).symm
  rw[hb,FF]at h;have⟨H1,j,h⟩:=aL h;cases h;have L:=Vq (Nat.min k ln)<|Nat.min_le_left _ _;have V:mX m (vs.take<|bP (Nat.min k ln) q.2) (vs'.take<|Nat.min k ln*q.2):=hvs.take _;rcases A.of_slice with⟨lc,cc,hm,U,ab,rfl,_⟩|⟨a',S,Y,rfl⟩
  .have⟨w',r1,r2,r3⟩:=D8 (P:=P) N j V hm U;refine⟨m,_,w',?_,.sc _ O,r2,r3⟩;simp only[Builtin.copy_,I,B,E,dD,fU hu,bR,hlen,kg hi,hsz,L,r1,dR];rfl
  .subst S;have hz:bP (Nat.min k 0) q.2=0:=by rw[show Nat.min k 0=0 from Nat.min_zero k];exact jq _
   rw[hz]at j
   have X:Q=H:=by
    replace j:Z H=Z Q:=j;cases j;rfl
   subst X;refine⟨m,_,w,?_,.sc _ O,N,Ex.refl _ _ _⟩;have W:Nat.min k 0*q.2=0:=hz;simp only[Builtin.copy_,I,B,E,dD,fU hu,bR,hlen,kg hi,hsz,L,W,kR,storeCells,dR];rfl
def abD(W:RH m H w)(h:I7 P ats args H=Z (v,Q))(Y:mX m args args'):
 yt P m H w (Builtin.clear_ ⟨ats⟩ ty ⟨args'⟩) v Q:=by
 have⟨t,ht,h⟩:=aL h;have⟨d,hd,h⟩:=aL h;have⟨q,hq,h⟩:=aL h;have⟨z,hz,h⟩:=aL h;have⟨p,hp,h⟩:=aL h;rw[qw]at ht hd;have⟨hu,⟨inf,hi,hsz⟩,hs1⟩:=CX hq;have⟨i,z0,hi',hz0,hze,hlen,hs⟩:=z_ hz;rw[hi]at hi';cases hi';have⟨d',hd0,E⟩:=Y.get 0 hd;rw[yG hp]at E;have⟨base,ln,cp⟩:=p;have B:(⟨ats⟩:Array aI)[0]?=Z t:=om ht;have A:(⟨args'⟩:Array C)[0]?=Z d':=om hd0;have M:VR m (.tuple #[]) (.tuple #[]):=.tuple [] [] .nil;cases base with
 |none=>
  have⟨K,X,e3⟩:=E.wJ;subst K X e3;replace h:Z ((.tuple #[]:C),H)=Z (v,Q):=h;cases h;refine⟨m,_,w,?_,M,W,Ex.refl _ _ _⟩;simp[Builtin.clear_,B,A,fU hu]
 |some a=>
  replace h:(aN (H.write a.block a.off<|qd z ln) λQ=>Z ((.tuple #[]:C),Q))=Z (v,Q):=h;have⟨H1,j,h⟩:=aL h;cases h;have S:z0.cells=⟨z⟩:=by rw[hze]
  have N:mX m (qd z ln) (qd z ln):=mX.oZ (m:=m)<|Jc hs ln
  have U:Builtin.zeroCells z0.cells ln=⟨qd z ln⟩:=by
   rw[S];exact Ma z ln
  rcases E.of_slice with⟨V,cc,hm,L,ab,rfl,_⟩|⟨a',K,X,rfl⟩
  .have⟨w',I,r2,r3⟩:=D8 (P:=P) W j N hm L;refine⟨m,_,w',?_,M,r2,r3⟩;cases ln with
   |zero=>
    have hw:w'=w:=by
     have I:(storeCells ⟨V.c,V.base+(a.off-V.lo),T⟩ ([]:D C)).run P w=.ok () w':=I;simp[storeCells]at I;exact I.symm
    subst hw;simp[Builtin.clear_,B,A,fU hu]
   |succ ln=>
    simp only[Builtin.clear_,B,A,dD,fU hu,bR,Ap hi hz0,U,I,dR]
  .subst K
   have O:Q=H:=by
    replace j:Z H=Z Q:=j;cases j;rfl
   subst O;refine⟨m,_,w,?_,M,W,Ex.refl _ _ _⟩;simp[Builtin.clear_,B,A,fU hu]
end mem
section mem
variable{P:aX}
def ZK(f0:∀ats ty n c w,(ay ats ty #[.slice T n c]).run P w=.ok (.pointer T) w)(f1:∀ats ty a n c w,(ay ats ty #[.slice (Z a) n (c+1)]).run P w=.ok (.pointer<|Z a) w)(rh:RH m H w){ats:Array aI}(h:G9 args H=Z (v,Q))(ha:mX m args args'):
 yt P m H w (ay ats ty ⟨args'⟩) v Q:=by
 have⟨U,h⟩:=gJ h;have⟨x,M,h⟩:=aL h;have⟨p,hp,h⟩:=aL h;rw[qw]at M;rw[h_]at U;have U:=bA U;have⟨x',hx0,V⟩:=ha.get 0 M;have W:u args'=1:=by rw[<-ha.length,U]
 have he:args'=[x']:=by
  match args',W,hx0 with
  |[y],_,Y=>cases Y;rfl
 subst he;rw[yG hp]at V;have⟨base,ln,cp⟩:=p;cases base with
 |none=>
  have⟨j,L,X⟩:=V.wJ;subst j L X;replace h:Z (bG T,H)=Z (v,Q):=h;cases h;exact⟨m,_,w,f0 ats ty 0 0 w,.sc _ O,rh,Ex.refl _ _ _⟩
 |some a=>
  replace h:(gd (aD 1 ln||(gZ cp&&aD 1 cp))<|Z (bG<|Z a,H))=Z (v,Q):=h;have⟨S,h⟩:=gJ h;cases h;simp only[lu,bE]at S;rcases V.of_slice with⟨lc,cc,hm,E,K,j,A⟩|⟨a',j,L,X⟩
  .subst j
   have ac:cc≠0:=by
    rcases A with⟨Y,I,B⟩|⟨es,I,B,h3,h4,h5⟩
    .simp only at I B;rcases S with g|g
     .have:=aF g;omega
     .have:=aF g.2;omega
    .rcases S with g|g
     .have:=aF g;simp only at h4;omega
     .exact absurd I<|E7 g.1
   refine⟨m,_,w,(by obtain⟨k,rfl⟩:∃k,cc=k+1:=⟨cc-1,N⟩;exact f1 ats ty _ _ k w),?_,rh,Ex.refl _ _ _⟩;have⟨ab,ao,asp⟩:=a;simp only at K hm E;subst K;exact VR.ptr ab ao lc hm E
  .exfalso;simp only at j L;subst j;rcases S with g|g
   .simp at g
   .rcases L with I|⟨es,l,I,_⟩
    .subst I;simp at g
    .exact absurd I<|E7 g.1
theorem Om(w:cZ)(e:aI)(s:aZ):
 Lib.bytesWorld w e s=w.drew.alloc (.cells (kH w e s) e ((kH w e s).size,(kH w e s).size+1)):=by
 unfold Lib.bytesWorld World.freeze;rw[jx N];unfold World.alloc;congr 1;apply uF;intro i;rw[jA];have j:w.drew.heap=w.heap:=rfl;simp only[j]
 by_cases hi:w.heap.size=i
 .subst hi;simp
 .rw[jx hi];rw[qj,qj,jx<|qI hi,jx<|qI hi]
def Su(V:RH m H w){d:aI}{aa:fK}(h:FY P q x H=Z (v,Q))(M:VR m x x')(hs:P.underlying s=Z aa)(hd:P.underlying d=Z (.slice q.1)):yt P m H w (convert s d x') v Q:=by
 have⟨b,hb,h⟩:=aL h;have⟨E,h⟩:=gJ h;cases h;simp only[bE]at E;rw[qZ hb]at M;have:=M.xQ;subst this;have A:=Lib.run_convert_string_bytes (P:=P) w s d q.1 b hs hd<|Sj E.2;rw[Om]at A;have B:b.size=u b.data.toList:=rfl;have j:b.size<=grownCap w b.size 0 q.1:=by simp[grownCap,Question.cut]
 have I:(kH w q.1 b).size=grownCap w b.size 0 q.1:=by
  simp[kH];have:b.data.size=b.size:=rfl;omega
 have K:wL m ⟨w.drew.heap.size,0,0,grownCap w b.size 0 q.1,b.size⟩ (.row ⟨q.1,Tr.uS top (qK b.data.toList) 0 .nil,len b.data.toList,f,0⟩)
  (.cells (kH w q.1 b) q.1 ((kH w q.1 b).size,(kH w q.1 b).size+1)):=by
  refine⟨⟨O,O⟩,by rw[h_];rfl,I,bD _,?_,?_,?_⟩
  .show 0+(len b.data.toList-0)<=_;rw[h_,<-B];simpa using j
  .intro S;cases S
  .intro i a c;have c:i<len b.data.toList:=c;rw[h_]at c;show∃v,(kH w q.1 b)[0+(i-0)]?=Z v/\VR m ((Tr.uS top (qK b.data.toList) 0 .nil).get top i) v;have L:(qK b.data.toList).length=u b.data.toList:=by rw[yI];simp
   rw[Tr.oh,jj N,yI];have hi:i<b.data.size:=om c;refine⟨.int .u8 b.data[i].toNat,?_,?_⟩
   .have hi':i<b.size:=hi;simp[kH,Array.getElem?_append,hi,hi']
   .rw[aW];have E:((b.data.toList.map λb=>a_ .u8 b.toNat)[i]?.getD top)=a_ .u8 b.data[i].toNat:=by simp[bI hi]
    rw[mD,E];exact .sc _ O
 have:=V.drew.alloc _ _ 0 0 (grownCap w b.size 0 q.1) b.size K;refine⟨_,_,_,A,?_,this.1,(Ex.drew m H w).trans this.2⟩
 have U:=VR.uJ (m:=m.add H.bV ⟨w.drew.heap.size,0,0,grownCap w b.size 0 q.1,b.size⟩) H.bV 0 b.size 1 (grownCap w b.size 0 q.1) ⟨w.drew.heap.size,0,0,grownCap w b.size 0 q.1,b.size⟩
  (by simp[Mp.add]) (ax _) N gB j (om j)
 rw[h_,<-B];exact U
theorem O':∀{l l':D C}{bs:D UInt8},uh l=Z bs->mX m l l'->l'=bs.map (λb=>a_ .u8 b.toNat):=by
 intro l
 induction l with
 |nil=>intro l' bs h j;cases j;cases h;rfl
 |cons x l K=>
  intro l' bs h j;replace h:(aN (vg x) λp=>aN (LJ p.2) λn=>gd (Kv p.1&&aD n 255)<|aN (uh l) λbs=>Z<|jP n::bs)=Z bs:=h;have⟨p,hp,h⟩:=aL h;have⟨n,hn,h⟩:=aL h;have⟨hg,h⟩:=gJ h;have⟨r,hr,h⟩:=aL h;cases h;cases j with
  |cons _ v' _ L I B=>
   simp only[bE]at hg;have E:=aF hg.2;rw[rZ hp]at I;have:=I.of_int;subst this
   have A:p.1=.u8:=by
    have:=hg.1;cases hp1:p.1<;>rw[hp1]at this<;>first|rfl|(simp[Kv]at this)
   rw[K hr B,A,Qg hn];simp;omega
def Sw(N:RH m H w){d:aI}(h:FZ P q x H=Z (v,Q))(M:VR m x x')(hs:P.underlying s=Z (.slice q.1))(hd:P.underlying d=Z .string):yt P m H w (convert s d x') v Q:=by
 have⟨p,hp,h⟩:=aL h;have⟨hg,h⟩:=gJ h;simp only[bE]at hg;have A:=Sj hg.2;rw[yG hp]at M;have⟨base,ln,cp⟩:=p;cases base with
 |none=>
  have⟨E,X,S⟩:=M.wJ;subst E X S;replace h:Z (aJ ⟨⟨[]⟩⟩,H)=Z (v,Q):=h;cases h;refine⟨m,_,w,?_,.sc _ O,N,Ex.refl _ _ _⟩;rw[run_convert_bytes_string w s d q.1 T 0 0 hs A hd];rfl
 |some a=>
  replace h:(aN (H.read a.block a.off ln) λl=>aN (uh l) λK=>Z (aJ ⟨⟨K⟩⟩,H))=Z (v,Q):=h;have⟨l,L,h⟩:=aL h;have⟨K,hbs,h⟩:=aL h;cases h;rcases M.of_slice with⟨lc,cc,hm,W,ab,E,Y⟩|⟨a',E,X,S⟩
  .subst E;have⟨vs',I,B,h3⟩:=Hl N L hm W;have he:=O' hbs I;have V:u K=ln:=by rw[<-B,he];simp
   refine⟨m,_,w,?_,.sc _ O,N,Ex.refl _ _ _⟩;simp only;rw[<-V]
   exact run_convert_bytes_back w s d q.1 _ cc K hs A hd (λj U=>by
    apply h3 j;rw[he];simp[U])
  .simp only at E;subst E S;replace L:Z ([]:D C)=Z l:=L;cases L;cases hbs;refine⟨m,_,w,?_,.sc _ O,N,Ex.refl _ _ _⟩;exact run_convert_bytes_back w s d q.1 _ 0 [] hs A hd (λj U=>by simp at U)
end mem
section mem
variable{P:aX}
def Mh(A:RH m H w){az:Row}(j:m r=Z l)(ho:H.obj r=.row az):w.shape? l.c=Z (az.ty,l.tot):=by
 have⟨F,fr,hb,_,B,_⟩:=row_of A j ho;simp[World.shape?,hb,B]
def Mi{s:aI×Nat}(h:w.shape? a.block=Z s):(Conv.seenAt a).run P w=.ok a w:=by
 simp[Conv.seenAt,viewAt,h]
def XJ(B:G7 du=f):∃(hx:aI->aI->fK->fK->C->Sem C)(ae:aI->aI->fK->fK->C->Sem C)(rg:Addr->aI->Sem C),
 (∀s d x,convert s d x=do let a<-underlying s;let b<-underlying d;hx s d a b x)/\
 (∀s d e x,hx s d (.pointer e) du x=do let p<-underlying s;let q<-underlying d;ae s d p q x)/\
 (∀s d e x,hx s d du (.pointer e) x=do let p<-underlying s;let q<-underlying d;ae s d p q x)/\
 (∀s d e a,ae s d (.pointer e) du (.pointer<|Z a)=do
  let z<-Conv.seenAt a
  let j:=match<-cellsIn z.block with
   |some A=>z.off>=A&&z.spot.isNone
   |none=>aA
  if(<-sizeOf e)=0||j then pure (.pointer<|Z ⟨<-newObj (.view z e),0,T⟩)else
  pure (.pointer<|Z z))/\
 (∀s d aa a,ae s d du (.pointer aa) (.pointer<|Z a)=do
  let a<-Conv.seenAt a
  if(<-sizeOf aa)=0||(<-variablesAt a aa 1)then pure (.pointer<|Z a)
  else rg a aa):=by
 cases du<;>first|(replace B:aA=f:=B;cases B;done)|exact⟨_,_,_,λ_ _ _=>rfl,λ_ _ _ _=>rfl,λ_ _ _ _=>rfl,λ_ _ _ _=>rfl,λ_ _ _ _=>rfl⟩
def Jd(L:RH m H w){d:aI}(h:LV P e x H=Z (v,Q))(M:VR m x x')(hs:P.underlying s=Z (.pointer e))(W:G7 du=f)(hd:P.underlying d=Z du):yt P m H w (convert s d x') v Q:=by
 have⟨a,ha,h⟩:=aL h;have⟨sz,hsz,h⟩:=aL h;have⟨az,hR,h⟩:=aL h;have⟨hg,h⟩:=gJ h;cases h;have K:=M;rw[qY ha]at M;have O:=vK hR;obtain⟨l,S,U,V,rfl⟩:=M.vD;simp only[bE]at hg;have X:=aF hg.1;have Y:a.off+1<=az.n:=aF hg.2;have⟨i,hi,hsz⟩:=si hsz;have A:=Mh L S O;have⟨F,fr,hb,hnn,B,h3,h4,h5,h6⟩:=row_of L S O;refine⟨m,_,w,?_,K,L,Ex.refl _ _ _⟩;have I:=Mi (P:=P) (w:=w) (a:=⟨l.c,l.base+(a.off-l.lo),T⟩) A;have j:¬(l.tot<=l.base+(a.off-l.lo)):=N;have E:i.size≠0:=N;have⟨hx,ae,rg,c1,c2,c3,c4,c5⟩:=XJ W;rw[c1];simp only[dD,fU hs,fU hd,bR,c2,c4];simp[I,cellsIn,A,kg hi,E,j]
def O_{s:Nat}(E:P.cellsOf e=s)(hs:1<=s)(j off n:Nat)(I:off %s=0)(K:off/s+n<=j):liesAt P P.depth e j off e n=f:=by
 have B:P.depth=(2*(P.types.size+Made.depth)+1)+1:=rfl;rw[B];simp only[liesAt,lu];left;rw[B];have A:s≠0:=N;simp[rowAt,E,K,I,A,sameLayout]
def Hq(h:P.info? t=Z i):P.cellsOf t=i.size:=by
 simp[Program.cellsOf,h]
def Je(E:RH m H w){d:aI}(h:LW P e x H=Z (v,Q))(M:VR m x x')(hu:G7 du=f)(hs:P.underlying s=Z du)(hd:P.underlying d=Z (.pointer e)):yt P m H w (convert s d x') v Q:=by
 have⟨a,ha,h⟩:=aL h;have⟨sz,hsz,h⟩:=aL h;have⟨az,hR,h⟩:=aL h;have⟨hg,h⟩:=gJ h;cases h;have S:=M;rw[qY ha]at M;have I:=vK hR;obtain⟨l,L,Y,ab,rfl⟩:=M.vD;simp only[bE]at hg;have V:=aF hg.1.1.1;have W:az.ty=e:=bA hg.1.1.2;have g3:=bA hg.1.2;have g4:=aF hg.2;have⟨i,hi,hsz⟩:=si hsz;have j:=Mh E L I;have K:=base_of E L I;have⟨F,fr,hb,hnn,B,h3,h4,h5,h6⟩:=row_of E L I;refine⟨m,_,w,?_,S,E,Ex.refl _ _ _⟩;have A:l.base+(a.off-l.lo)=0:=N;rw[A];have O:=Mi (P:=P) (w:=w) (a:=⟨l.c,0,T⟩) j;have U:P.cellsOf e=sz:=by rw[Hq hi,hsz]
 have X:=O_ (P:=P) U V (l.tot/sz) 0 1 (Nat.zero_mod _) (by
  rw[Nat.zero_div];have:sz<=l.tot:=N;have:=Nat.div_pos this N;omega)
 rw[W]at j;have⟨hx,ae,rg,c1,c2,c3,c4,c5⟩:=XJ hu;rw[c1];simp only[dD,fU hs,fU hd,bR,c3,c5];simp[O,variablesAt,j,kg hi,U,X]
end mem
section mem
variable{P:aX}
def ZL{o:Nat}{fr:Nat×Nat}(h:w.heap[c]?=Z (.cells F ty fr))(j:n≠0):
 (w.freeze ⟨c,o,T⟩ n).heap[c]?=Z (.cells F ty (if fr.1==fr.2 then(o,o+n)else(min fr.1 o,max fr.2<|o+n))):=by
 unfold World.freeze;rw[jx j];simp[jA,h]
def ZM{o:Nat}(h:c'≠c):(w.freeze ⟨c,o,T⟩ n).heap[c']?=w.heap[c']?:=by
 unfold World.freeze;split
 .rfl
 .simp[jA,qI h]
def Sy:(w.freeze a n).heap.size=w.heap.size:=by
 unfold World.freeze;split
 .rfl
 .simp
def ZN{w:cZ}{a:Addr}{n:Nat}:(w.freeze a n).os=w.os/\(w.freeze a n).tape=w.tape/\(w.freeze a n).output=w.output:=by
 unfold World.freeze;split<;>exact⟨O,O,O⟩
def akK(ay:Array aI->aI->Array C->Sem C):Prop:=∃(j A:Sem Unit)(E1 B E:Sem C),∀(ats:Array aI)(ty:aI)(q:aC Addr)(k:f_)(z:Int),ay ats ty #[.pointer q,.int k z]=
    (do
     let n<-asInt (.int k z)
     let Z pt:=ats[0]?|E1
     if n<0 then j
     if n>IntKind.i64.max then A
     match q with
     |none=>
      if n=0 then pure (.string .empty)
      else B
     |some a=>
      if n=0 then pure (.string .empty)
      else if<-variablesAt a (<-elemOf pt) n.toNat then do
       let s<-loadBytes a .empty n.toNat
       freeze a n.toNat
       pure (.string s)
      else E)
theorem Sz(hf:akK ay)(U:RH m H w)(h:yE P ats args H=Z (v,Q))(ha:mX m args args'):
 yt P m H w (ay ⟨ats⟩ ty ⟨args'⟩) v Q:=by
 have⟨E2,E3,E1,E4,E5,A⟩:=hf;have⟨hl,h⟩:=gJ h;have⟨pt,hpt,h⟩:=aL h;have⟨p,hp,h⟩:=aL h;have⟨nv,hnv,h⟩:=aL h;have⟨n,hn,h⟩:=aL h;rw[qw]at hpt hp hnv;rw[h_]at hl;have hl:=bA hl;have⟨p',hp0,hpp⟩:=ha.get 0 hp;have⟨n',hn0,hnn⟩:=ha.get 1 hnv;have ao:u args'=2:=by rw[<-ha.length,hl]
 have he:args'=[p',n']:=by
  match args',ao,hp0,hn0 with
  |[y,z],_,h0,I=>cases h0;cases I;rfl
 subst he;obtain⟨k,rfl⟩:=EY hn;have:=hnn.of_int;subst this;have K:(⟨ats⟩:Array aI)[0]?=Z pt:=om hpt;have E:IntKind.i64.max=9223372036854775807:=rfl;have A:=A ⟨ats⟩ ty;cases n with
 |zero=>
  replace h:(gd (aB (t_ p).1 1)<|Z (aJ ⟨⟨[]⟩⟩,H))=Z (v,Q):=h;have⟨M,h⟩:=gJ h;cases h;have M:=bA M;have hv:=hpp.t_ N
  have:∃a,p'=.pointer a:=by
   rcases F4 (x:=p') (by rw[hv];omega)with I|⟨_,_,_,_,I⟩|⟨_,_,I⟩|⟨_,_,_,_,I⟩|⟨_,I⟩|⟨_,_,_,I⟩|⟨_,I⟩
   .have⟨a,I,_⟩:=I;exact⟨a,I⟩
   all_goals(rw[hv]at I;rw[I]at M;simp at M)
  obtain⟨a,rfl⟩:=this;refine⟨m,_,w,?_,.sc _ O,U,Ex.refl _ _ _⟩;cases a with
  |none=>rw[A];simp[K,asInt,asIntOf,E];rfl
  |some a=>rw[A];simp[K,asInt,asIntOf,E];rfl
 |succ n=>
  replace h:(aN (sJ p) λa=>Xw P pt a (n+1) H)=Z (v,Q):=h;have⟨a,hav,h⟩:=aL h;have⟨d,hd,h⟩:=aL h;have⟨e,he,h⟩:=aL h;have⟨s,hs,h⟩:=aL h;have⟨az,hR,h⟩:=aL h;have⟨M,h⟩:=gJ h;have⟨bs,hbs,h⟩:=aL h;cases h;rw[qY hav]at hpp;obtain⟨l,W,ap,a0,rfl⟩:=hpp.vD;have JN:=vK hR;simp only[bE]at M;have⟨⟨⟨⟨g1,g2⟩,g3⟩,g4⟩,g5⟩:=M;have g2:az.ty=e:=bA g2;have g3:s=1:=bA g3;have g4:a.off+(n+1)<=az.n:=aF g4;have g5:=aF g5;have ar:P.underlying pt=Z (.pointer e):=by rw[hd,K_ he]
  have⟨i,hi,hsz⟩:=si hs;have hc:P.cellsOf e=1:=by rw[Hq hi,hsz,g3]
  have Y:=Mh U W JN;rw[g2]at Y;have⟨F,fr,hb,hrn,B,h3,h4,h5,h6⟩:=row_of U W JN
  have aw:H.read a.block a.off (n+1)=Z (Tr.FX top az.cells a.off<|n+1):=by
   show(aN (xH<|H.obj a.block) λw=>gd (aD (bq a.off<|n+1) w.n)<|Z<|Tr.FX top w.cells a.off<|n+1)=_;rw[hR];show(gd (aD (bq a.off<|n+1) az.n) _)=_;rw[show aD (bq a.off<|n+1) az.n=f from aH g4];rfl
  have⟨vs',r1,r2,r3⟩:=Hl U aw W ap;have ab:=O' hbs r1;have am:u bs=n+1:=by rw[<-r2,ab];simp
  have V:=Lib.run_loadBytes (P:=P) w bs ⟨l.c,l.base+(a.off-l.lo),T⟩ .empty λj x hj=>r3 j _ (by rw[ab];simp[hj]);rw[am]at V;have S:=O_ (P:=P) hc (ax _) l.tot (l.base+(a.off-l.lo)) (n+1) (Nat.mod_one _) (by rw[Nat.div_one];omega)
  have DF:wL m l (.row ⟨az.ty,az.cells,az.n,az.mR,b_ (aD az.fz<|bq a.off<|n+1) (bq a.off<|n+1) az.fz⟩)
   (.cells F az.ty (if fr.1==fr.2 then(l.base+(a.off-l.lo),l.base+(a.off-l.lo)+(n+1))else(min fr.1<|l.base+(a.off-l.lo),max fr.2<|l.base+(a.off-l.lo)+(n+1)))):=by
   refine⟨⟨O,base_of U W JN⟩,hrn,B,h3,h4,?_,h6⟩;intro aE;have h5:=h5 aE
   have an:b_ (aD az.fz<|bq a.off<|n+1) (bq a.off<|n+1) az.fz=max az.fz (a.off+(n+1)):=by
    by_cases hh:az.fz<=a.off+(n+1)
    .rw[show aD az.fz (bq a.off<|n+1)=f from aH hh];exact(Nat.max_eq_right hh).symm
    .rw[show aD az.fz (bq a.off<|n+1)=aA from by rw[<-dw];exactλg=>hh<|aF g];exact(w9<|Nat.le_of_not_le hh).symm
   show _<=l.base+(b_ (aD az.fz<|bq a.off<|n+1) (bq a.off<|n+1) az.fz-l.lo);rw[an];split
   .simp only;omega
   .simp only;omega
  have L:=@ZN w ⟨l.c,l.base+(a.off-l.lo),T⟩<|n+1;have:=RH.update U a.block l _ _ W (by rw[JN];simp) DF (ZL (o:=l.base+(a.off-l.lo)) hb<|p8 n) Sy (λc hc=>ZM hc) L.1 L.2.1 L.2.2;refine⟨m,_,w.freeze ⟨l.c,l.base+(a.off-l.lo),T⟩<|n+1,?_,.sc _ O,this.1,this.2⟩;have X:¬((n+1:Nat):Int)<0:=N;have ad:¬((9223372036854775807:Int)<((n+1:Nat):Int)):=N;have aq:((n+1:Nat):Int)≠0:=N;have ac:((n+1:Nat):Int).toNat=n+1:=N;rw[A];simp only[asInt,asIntOf,dD,dR,bR,K,E,X,ad,aq,lN,gt_iff_lt,variablesAt,Y,elemOf,fU ar,run_program,run_shape,ac,hc,Nat.div_one,S,lC,V,run_freeze];have al:ByteArray.empty.data++bs.toArray=(⟨bs⟩:Array UInt8):=by rw[<-jJ];simp
  rw[al]
end mem
end Go.Ae
