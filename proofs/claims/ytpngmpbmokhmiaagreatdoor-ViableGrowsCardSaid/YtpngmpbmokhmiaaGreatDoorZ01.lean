/-
  Part 01 of the proof. No condition.
-/
import Derived.Test.YtpngmpbmokhmiaaGreatDoorRows
import Derived.Test.YtpngmpbmokhmiaaGreatDoorProg
import Derived.Below
import Derived.RowKit3
import Derived.Lib.Bytealg
import Derived.Calls
import Derived.Control
import Derived.Orders
import Derived.Scope
import Derived.Laws.Externs
import Derived.Laws.Tables
import Derived.Lib.UnsafeStr
import Derived.Lib.ConvBytes
import Derived.Laws.BytesString
import Derived.Laws.IdiomStrings
import Derived.Laws.Sem
import Derived.Laws.Cells
import Derived.Laws.World
import Derived.Laws.StructEq
import Derived.IntWalk
import Derived.Laws.Strings
import Derived.ChangeKeysEq
import Derived.Sort.AssemblyPlain
import Derived.Sort.Grow
import Derived.ProofKit
import Derived.OpenShut
import Derived.Carry
import Derived.Deep.Slices
import Derived.Deep.Fields
import Derived.ChangeSame
import Derived.LaidMore
import Derived.Lay
import Derived.JoinedOf
import Derived.SevenTiedAt
import Derived.Stop.Joined
set_option linter.unusedVariables false
set_option linter.unusedSimpArgs false
set_option maxRecDepth 100000
set_option maxHeartbeats 4000000
set_option linter.defProp false
open Option renaming some->D,none->Q,rec->aM
open Bool renaming true->f,false->aC,rec->gz
open Go renaming Value->Z,TypeId->aH,Program->aU,World->bY,Operand->bT,IntKind->fB,TypeDesc->fu,BinOp->rA
open Go.Value renaming int->bX,bool->gI
open Nat renaming rec->jA,beq->aA,succ->bW,ble->aD,add->aZ,mul->bO,sub->dJ
open List renaming rec->cz,replicate->aX
open Go.TypeDesc renaming rec->jN
open UInt8 renaming ofNat->jd
open Go.Region renaming binds->fQ
open Go.Sem renaming run_bind->dw,run_pure->dI
open Go.Result renaming andThen_ok->bR
open Go.Instr renaming sureAddr->jD
open Go.ByteArray renaming toList_eq->iq
open Go.Builtin renaming len_->kF
def O := @rfl
abbrev C:=List
abbrev aB:=Option
abbrev aV:=ByteArray
noncomputable section
def N{p:Prop}(h:p:=by omega):p:=h
def jr{p:Prop}(h:p:=by kernel_rfl):p:=h
def xN{p:Prop}(h:p:=by intros;rfl):p:=h
def mO{p:Prop}(h:p:=by decide):p:=h
def kg{p:Prop}(h:p:=by simp):p:=h
def I6{p:Prop}(h:p:=by simp;omega):p:=h
def mg{p q:Prop}(h:p)(ay:p->q:=by intro h;simpa using h):q:=ay h
def sJ:=@Array.ext_getElem?
def gJ:=@Array.getD_eq_getD_getElem?
def rC:=@Array.getElem?_append_left
def bC:=@Array.getElem?_eq_getElem
def dU:=@Array.getElem?_eq_some_iff
def uO:=@Array.getElem?_mapIdx
def iN:=@Array.getElem?_modify
def oH:=@Array.getElem?_push
def jX:=@Array.getElem?_setIfInBounds_ne
def eF:=@Array.getElem?_toList
def oI:=@Array.length_toList
def iZ:=@Array.toList_inj
def bg:=@Bool.and_eq_true
def sS:=@Bool.and_false
def gm:=@Bool.eq_iff_iff
def cB:=@Bool.false_eq_true
def qR:=@Bool.false_or
def b_:=@Bool.not_eq_true
def tC:=@Bool.not_eq_true'
def wh:=@Bool.not_false
def wZ:=@Bool.not_true
def jY:=@Bool.or_eq_true
def ny:=@Bool.or_false
def qT:=@Bool.true_and
def pW:=@ByteArray.data_extract
def uf:=@ByteArray.ext
def fO:=@Classical.byContradiction
def nJ:=@Classical.choose_spec
def r_:=@Decidable.byContradiction
def rD:=@Int.fdiv_eq_ediv_of_nonneg
def j4:=@Int.le_refl
def vv:=@Int.le_trans
def jw:=@Int.natCast_nonneg
def lU:=@Int.toNat_natCast
def gD:=@List.Perm.append_left
def pX:=@List.Perm.append_right
def p9:=@List.Perm.refl
def sU:=@List.Perm.symm
def w9:=@List.all_cons
def eG:=@List.all_eq_true
def bU:=@List.append_assoc
def bq:=@List.append_nil
def uP:=@List.concat_eq_append
def jJ:=@List.cons.inj
def bI:=@List.cons_append
def vK:=@List.count_cons
def mP:=@List.dropLast_concat_getLast
def uE:=@List.drop_append
def p_:=@List.drop_append_of_le_length
def qd:=@List.drop_drop
def dY:=@List.drop_eq_getElem_cons
def mU:=@List.drop_of_length_le
def jf:=@List.drop_zero
def gW:=@List.eq_nil_of_length_eq_zero
def uQ:=@List.eq_nil_or_concat
def oJ:=@List.eq_of_mem_replicate
def qN:=@List.ext_getElem
def h_:=@List.ext_getElem?
def sK:=@List.filter_append
def oh:=@List.filter_cons
def nN:=@List.flatMap_cons
def iO:=@List.foldl_append
def nA:=@List.foldl_cons
def bD:=@List.getD_eq_getElem?_getD
def pY:=@List.getElem!_toArray
def qU:=@List.getElem?_append
def bM:=@List.getElem?_append_left
def dV:=@List.getElem?_append_right
def dZ:=@List.getElem?_cons_succ
def tF:=@List.getElem?_cons_zero
def pK:=@List.getElem?_drop
def av:=@List.getElem?_eq_getElem
def fE:=@List.getElem?_eq_none
def bE:=@List.getElem?_eq_some_iff
def bF:=@List.getElem?_map
def kH:=@List.getElem?_replicate
def dG:=@List.getElem?_set
def uz:=@List.getElem?_set_self
def iW:=@List.getElem?_take
def uR:=@List.getElem?_toArray
def iL:=@List.getElem_append_left
def alList_getElem_append_rightQ:=@List.getElem_append_right
def mJ:=@List.getElem_map
def bB:=@List.getElem_mem
def iM:=@List.getElem_of_mem
def alList_getElem_rangeQ:=@List.getElem_range
def uS:=@List.getElem_set_self
def aQ:=@List.length_append
def cK:=@List.length_cons
def uF:=@List.length_drop
def dR:=@List.length_eq_zero_iff
def nK:=@List.length_filter_le
def aK:=@List.length_map
def vL:=@List.length_nil
def qg:=@List.length_range
def jl:=@List.length_replicate
def bJ:=@List.length_set
def dF:=@List.length_take
def wm:=@List.mapM_cons
def dA:=@List.map_append
def iC:=@List.map_cons
def vw:=@List.map_map
def jF:=@List.map_nil
def ku:=@List.map_replicate
def fZ:=@List.map_set
def uG:=@List.map_toArray
def bZ:=@List.mem_append
def dn:=@List.mem_append_left
def cZ:=@List.mem_append_right
def bP:=@List.mem_cons
def bH:=@List.mem_cons_of_mem
def aN:=@List.mem_cons_self
def uH:=@List.mem_flatMap
def kG:=@List.mem_iff_getElem
def bQ:=@List.mem_map
def dX:=@List.mem_nil_iff
def aS:=@List.mem_of_getElem?
def jK:=@List.mem_of_mem_drop
def eX:=@List.mem_of_mem_take
def ig:=@List.mem_or_eq_of_mem_set
def my:=@List.mem_range
def aP:=@List.mem_singleton
def bN:=@List.nil_append
def nO:=@List.nodup_append
def jm:=@List.nodup_cons
def mD:=@List.nodup_nil
def lV:=@List.pairwise_append
def j5:=@List.pairwise_iff_getElem
def iR:=@List.pairwise_singleton
def aG:=@List.perm_append_comm
def i_:=@List.perm_middle
def alList_range_eq_range_Q:=@List.range_eq_range'
def lW:=@List.set_append_left
def qy:=@List.set_append_right
def jy:=@List.set_cons_succ
def pM:=@List.set_cons_zero
def qz:=@List.set_getElem_self
def eD:=@List.sublist_append_left
def alList_sublist_append_rightQ:=@List.sublist_append_right
def lN:=@List.sum_append
def ug:=@List.sum_cons
def eH:=@List.take_add_one
def iP:=@List.take_append_drop
def qh:=@List.take_append_of_le_length
def qi:=@List.take_left
def qO:=@List.take_length
def cO:=@List.take_of_length_le
def jg:=@List.take_succ_cons
def kC:=@List.take_zero
def gX:=@Nat.add_mul
def mW:=@Nat.add_sub_cancel
def iT:=@Nat.add_sub_cancel_left
def dH:=@Nat.add_zero
def jP:=@Nat.beq_eq
def dD:=@Nat.beq_refl
def aI:=@Nat.ble_eq_true_of_le
def uI:=@Nat.div_eq_of_lt
def aW:=@Nat.eq_of_beq_eq_true
def gM:=@Nat.eq_zero_or_pos
def tH:=@Nat.exists_eq_add_of_le
def om:=@Nat.le_add_right
def nC:=@Nat.le_max_left
def ko:=@Nat.le_max_right
def aF:=@Nat.le_of_ble_eq_true
def vz:=@Nat.le_of_eq
def rF:=@Nat.le_of_mul_le_mul_right
def qP:=@Nat.le_of_not_lt
def ax:=@Nat.le_refl
def iU:=@Nat.le_succ
def lX:=@Nat.le_succ_of_le
def a_:=@Nat.le_trans
def qV:=@Nat.lt_irrefl
def aR:=@Nat.lt_of_lt_of_le
def uA:=@Nat.lt_of_succ_lt_succ
def cr:=@Nat.lt_or_ge
def dM:=@Nat.lt_succ_self
def kI:=@Nat.lt_trichotomy
def vM:=@Nat.max_eq_left
def iV:=@Nat.min_eq_left
def uJ:=@Nat.min_eq_right
def uK:=@Nat.mod_eq_of_lt
def qA:=@Nat.mod_lt
def vB:=@Nat.mul_comm
def gY:=@Nat.mul_le_mul
def gG:=@Nat.mul_le_mul_left
def eY:=@Nat.mul_le_mul_right
def dz:=@Nat.mul_one
def qW:=@Nat.mul_pos
def eO:=@Nat.not_le_of_lt
def eP:=@Nat.not_lt_of_le
def jZ:=@Nat.not_lt_zero
def qX:=@Nat.pow_le_pow_right
def qY:=@Nat.pow_lt_pow_right
def si:=@Nat.shiftRight_eq_div_pow
def jc:=@Nat.sub_self
def jG:=@Nat.sub_zero
def mK:=@Nat.succ_le_succ
def kR:=@Nat.succ_mul
def vC:=@Nat.succ_pos
def oP:=@Nat.testBit_eq_decide_div_mod_eq
def aY:=@Nat.zero_add
def bA:=@Nat.zero_le
def iQ:=@Nat.zero_mul
def oW:=@Ne.symm
def oq:=@Option.getD_some
def dK:=@Option.some.inj
def tJ:=@Option.some.injEq
def yz:=@Prod.ext_iff
def xS:=@and_true
def lz:=@beq_iff_eq
def xO:=@cond_false
def yK:=@cond_true
def dW:=@congrArg
def dB:=@decide_eq_false
def bL:=@decide_eq_true
def vD:=@getElem!_pos
def kJ:=@if_false
def kK:=@if_true
def qj:=@not_false_eq_true
def tK:=@not_true_eq_false
def mX:=@of_decide_eq_false
def fM:=@of_decide_eq_true
def iF:=@or_false
namespace Go.Ae
variable{e t:aH}{c c' i' v v' x x' hr y' z:Z}{b:Bool}{d:fu}{α β:Type}{op:rA}{i:TypeInfo}{q:Sum Nat (C Nat)}{cp ay k n:Nat}{ox oy:bT}{args args' M zs:C Z}{a:Addr}{fs:C Field}{w:bY}{l:aB Nat}{ks:C Nat}{ats:C aH}
def oZ{a:Bool}(x:a=f)(hr:b=f):(a&&b)=f:=by rw[x,hr];rfl
inductive Tr(α:Type)where
 |nil
 |node(l:Tr α)(v:α)(r:Tr α)
namespace Tr
variable{α:Type}
def get(d:α)(t:Tr α):Nat->α:=
 @Tr.rec α (λ_=>Nat->α) (λ_=>d)
  (λ_ v _ gl gr k=>@jA (λ_=>α) v (λk _=>@gz (λ_=>α) (gr<|Nat.div k 2) (gl<|Nat.div k 2)<|aA (Nat.mod k 2) 0) k) t
def PO(d:α)(x:α):Nat->Tr α->Nat->Tr α:=
 @jA (λ_=>Tr α->Nat->Tr α) (λt _=>t) (λ_ ih t k=>
  @jA (λ_=>Tr α) (@Tr.rec α (λ_=>Tr α) (.node .nil x .nil) (λl _ r _ _=>.node l x r) t)
   (λk _=>@Tr.rec α (λ_=>Tr α)
    (@gz (λ_=>Tr α) (.node .nil d<|ih .nil<|Nat.div k 2) (.node (ih .nil<|Nat.div k 2) d .nil)<|aA (Nat.mod k 2) 0)
    (λl v r _ _=>@gz (λ_=>Tr α) (.node l v<|ih r<|Nat.div k 2) (.node (ih l<|Nat.div k 2) v r)<|aA (Nat.mod k 2) 0) t) k)
def set(d:α)(t:Tr α)(k:Nat)(x:α):Tr α:=PO d x (bW k) t k
def get_nil(d:α)(k:Nat):(Tr.nil:Tr α).get d k=d:=by cases k<;>rfl
def Fq(d:α)(l:Tr α)(v:α)(r:Tr α):(Tr.node l v r).get d 0=v:=rfl
def zg(d:α)(l:Tr α)(v:α)(r:Tr α)(k:Nat):(Tr.node l v r).get d (k+1)=bif aA (k %2) 0 then l.get d (k/2)else r.get d (k/2):=by
 show @gz (λ_=>α) (r.get d<|k/2) (l.get d<|k/2) (aA (k %2) 0)=_;cases aA (k %2) 0<;>rfl
def adI(k:Nat):aA (k %2) 0=decide (k %2=0):=by
 rw[gm];simp[jP]
def Zm(d:α)(ay k:Nat)(x:α):PO d x (ay+1) .nil (k+1)=bif aA (k %2) 0 then .node (PO d x ay .nil<|k/2) d .nil else .node .nil d (PO d x ay .nil<|k/2):=by
 show @gz (λ_=>Tr α) _ _ (aA (k %2) 0)=_;cases aA (k %2) 0<;>rfl
def W9(d:α)(ay k:Nat)(x:α)(l:Tr α)(v:α)(r:Tr α):PO d x (ay+1) (.node l v r) (k+1)=bif aA (k %2) 0 then .node (PO d x ay l<|k/2) v r else .node l v (PO d x ay r<|k/2):=by
 show @gz (λ_=>Tr α) _ _ (aA (k %2) 0)=_;cases aA (k %2) 0<;>rfl
def Zn(d:α)(ay:Nat):∀(t:Tr α)(k:Nat)(x:α)(j:Nat),k<ay->
 (PO d x ay t k).get d j=if j=k then x else t.get d j:=by
 induction ay with
 |zero=>intro t k x j h;omega
 |succ ay ih=>
  intro t k x j h;cases k with
  |zero=>
   cases t with
   |nil=>
    show(Tr.node .nil x .nil).get d j=_;cases j with
    |zero=>simp[Fq]
    |succ j=>rw[zg,get_nil,if_neg N,get_nil];cases aA (j %2) 0<;>rfl
   |node l v r=>
    show(Tr.node l x r).get d j=_;cases j with
    |zero=>simp[Fq]
    |succ j=>rw[zg,zg,if_neg N]
  |succ k=>
   have hk:k/2<ay:=by omega
   cases t with
   |nil=>
    rw[Zm];cases j with
    |zero=>cases hb:aA (k %2) 0<;>simp[Fq,get_nil]
    |succ j=>
     by_cases hjk:j=k
     .subst hjk;cases hb:aA (j %2) 0<;>simp only[yK,xO,zg,hb,ih _ _ _ _ hk,kK]
     .rw[if_neg N];cases hb:aA (k %2) 0<;>cases hc:aA (j %2) 0<;>simp only[yK,xO,zg,hc,get_nil]
      .rw[ih _ _ _ _ hk,if_neg,get_nil];rw[adI]at hb hc;simp at hb hc;omega
      .rw[ih _ _ _ _ hk,if_neg,get_nil];rw[adI]at hb hc;simp at hb hc;omega
   |node l v r=>
    rw[W9];cases j with
    |zero=>cases hb:aA (k %2) 0<;>simp[Fq]
    |succ j=>
     by_cases hjk:j=k
     .subst hjk;cases hb:aA (j %2) 0<;>simp only[yK,xO,zg,hb,ih _ _ _ _ hk,kK]
     .rw[if_neg N];cases hb:aA (k %2) 0<;>cases hc:aA (j %2) 0<;>simp only[yK,xO,zg,hc]
      .rw[ih _ _ _ _ hk,if_neg];rw[adI]at hb hc;simp at hb hc;omega
      .rw[ih _ _ _ _ hk,if_neg];rw[adI]at hb hc;simp at hb hc;omega
def vE(d:α)(t:Tr α)(k:Nat)(x:α)(j:Nat):(t.set d k x).get d j=if j=k then x else t.get d j:=
 Zn d (k+1) t k x j N
def tu(d:α)(l:C α):Nat->Tr α->Tr α:=
 @cz α (λ_=>Nat->Tr α->Tr α) (λ_ t=>t) (λx _ ih k t=>ih (bW k)<|t.set d k x) l
def adJ(d:α)(k:Nat)(t:Tr α):tu d [] k t=t:=rfl
def Zo(d:α)(x:α)(l:C α)(k:Nat)(t:Tr α):tu d (x::l) k t=tu d l (k+1) (t.set d k x):=rfl
def l_(d:α):∀(l:C α)(k:Nat)(t:Tr α)(j:Nat),
 (tu d l k t).get d j=if k<=j/\j<k+l.length then l.getD (j-k) d else t.get d j:=by
 intro l
 induction l with
 |nil=>intro k t j;simp[adJ];intro W J;omega
 |cons x l ih=>
  intro k t j;simp only[Zo,ih,vE,cK]
  by_cases h:k+1<=j/\j<k+1+l.length
  .rw[if_pos h,if_pos N,show j-k=(j-(k+1))+1 from by omega];rfl
  .rw[if_neg h]
   by_cases hj:j=k
   .subst hj;simp
   .rw[if_neg hj,if_neg N]
def Ep(d:α)(t:Tr α)(k n:Nat):C α:=
 @jA (λ_=>Nat->C α) (λ_=>[]) (λ_ ih k=>t.get d k::ih (bW k)) n k
def Cz(d:α)(t:Tr α)(k:Nat):Ep d t k 0=[]:=rfl
def xU(d:α)(t:Tr α)(k n:Nat):Ep d t k (n+1)=t.get d k::Ep d t (k+1) n:=rfl
end Tr
def aL{α β:Type}(o:aB α)(k:α->aB β):aB β:=
 @aM α (λ_=>(α->aB β)->aB β) (λ_=>Q) (λx k=>k x) o k
def JR(x:α)(k:α->aB β):aL (D x) k=k x:=rfl
def aJ{o:aB α}{k:α->aB β}{r:β}(h:aL o k=D r):∃x,o=D x/\k x=D r:=by
 cases o with
 |none=>cases h
 |some x=>exact⟨x,O,h⟩
def gd{β:Type}(b:Bool)(o:aB β):aB β:=
 @gz (λ_=>aB β->aB β) (λ_=>Q) (λo=>o) b o
def fI{o:aB β}{r:β}(h:gd b o=D r):b=f/\o=D r:=by
 cases b with
 |false=>cases h
 |true=>exact⟨O,h⟩
def zR(o:aB β):gd f o=o:=rfl
def bV{β:Type}(b:Bool)(x hr:β):β:=@gz (λ_=>β->β->β) (λ_ hr=>hr) (λx _=>x) b x hr
def oz(x hr:β):bV f x hr=x:=rfl
def jW(x hr:β):bV aC x hr=hr:=rfl
def nth{α:Type}(l:C α):Nat->aB α:=
 @cz α (λ_=>Nat->aB α) (λ_=>Q) (λx _ ih k=>@jA (λ_=>aB α) (D x) (λk _=>ih k) k) l
def oL(l:C α):∀k,nth l k=l[k]?:=by
 induction l with
 |nil=>intro k;cases k<;>rfl
 |cons x l ih=>intro k;cases k with
  |zero=>rfl
  |succ k=>exact(ih k).trans (by simp)
def len{α:Type}(l:C α):Nat:=@cz α (λ_=>Nat) 0 (λ_ _ n=>bW n) l
def fU(l:C α):len l=l.length:=by
 induction l with
 |nil=>rfl
 |cons x l ih=>exact dW bW ih
def mp{α β:Type}(ay:α->β)(l:C α):C β:=@cz α (λ_=>C β) [] (λx _ r=>ay x::r) l
def Fs(ay:α->β)(l:C α):mp ay l=l.map ay:=by
 induction l with
 |nil=>rfl
 |cons x l ih=>exact dW (ay x::·) ih
def app{α:Type}(a b:C α):C α:=@cz α (λ_=>C α) b (λx _ r=>x::r) a
def qB(a b:C α):app a b=a++b:=by
 induction a with
 |nil=>rfl
 |cons x l ih=>exact dW (x::·) ih
def all'{α:Type}(ay:α->Bool)(l:C α):Bool:=@cz α (λ_=>Bool) f (λx _ r=>bV (ay x) r aC) l
def all_eq(ay:α->Bool)(l:C α):all' ay l=l.all ay:=by
 induction l with
 |nil=>rfl
 |cons x l ih=>
  show bV (ay x) (all' ay l) aC=_;rw[ih,w9];cases ay x<;>rfl
def tk{α:Type}(n:Nat):C α->C α:=@jA (λ_=>C α->C α) (λ_=>[]) (λ_ ih l=>@cz α (λ_=>C α) [] (λx r _=>x::ih r) l) n
def HY(n:Nat):∀(l:C α),tk n l=l.take n:=by
 induction n with
 |zero=>intro l;show[]=l.take 0;simp
 |succ n ih=>intro l;cases l with
  |nil=>rfl
  |cons x l=>exact dW (x::·)<|ih l
def dp{α:Type}(n:Nat):C α->C α:=@jA (λ_=>C α->C α) (λl=>l) (λ_ ih l=>@cz α (λ_=>C α) [] (λ_ r _=>ih r) l) n
def ML(n:Nat):∀(l:C α),dp n l=l.drop n:=by
 induction n with
 |zero=>intro l;rfl
 |succ n ih=>intro l;cases l with
  |nil=>rfl
  |cons x l=>exact ih l
structure Row where
 ty:aH
 cells:Tr Z
 n:Nat
 kY:Bool
 fz:Nat
inductive lI where
 |dead
 |row(r:Row)
 |map(es:C<|Z×Z)
 |MM(s:aV)(pos:Nat)
variable{o:lI}
def vZ(o:lI):aB Row:=@lI.rec (λ_=>aB Row) Q (λr=>D r) (λ_=>Q) (λ_ _=>Q) o
def JS(o:lI):aB (C<|Z×Z):=@lI.rec (λ_=>aB<|C<|Z×Z) Q (λ_=>Q) (λm=>D m) (λ_ _=>Q) o
def uh{r:Row}(h:vZ o=D r):o=.row r:=by cases o<;>cases h;rfl
def Jo{r:C (Z×Z)}(h:JS o=D r):o=.map r:=by cases o<;>cases h;rfl
def top:Z:=.chan<|D 0
structure R where
 v_:Tr lI
 next:Nat
 low:Nat
def R.obj(H:R)(r:Nat):lI:=H.v_.get .dead r
def R.put(H:R)(r:Nat)(o:lI):R:=⟨H.v_.set .dead r o,H.next,bV (aD H.low r) H.low r⟩
def R.new(H:R)(o:lI):R:=⟨H.v_.set .dead H.next o,bW H.next,H.low⟩
def rowOf(ty:aH)(vs:C Z):lI:=.row ⟨ty,Tr.tu top vs 0 .nil,len vs,aC,0⟩
def fJ(es:Nat):Nat:=aZ 18446744073709551616 es
def gH(c:Nat):Bool:=aD c 9223372036854775807
def fC(v:Z):Bool:=
 @Value.rec (λ_=>Bool) (λ_=>PUnit) (λ_=>PUnit)
  (λ_=>f)
  (λ_ _=>f)
  (λ_ _=>f)
  (λ_ _ _=>f)
  (λ_=>f)
  (λ_=>f)
  (λ_ _ _=>f)
  (λ_=>f)
  (λr=>aC)
  (λ_ _ _ _ _=>f)
  (f)
  (λ_ _ _=>f)
  (f)
  (λM _=>aC)
  (λvs _=>aC)
  (λ_ _=>⟨⟩) ⟨⟩ (λ_ _ _ _=>⟨⟩) v
def pZ(v:Z):Bool:=
 @Value.rec (λ_=>Bool) (λ_=>PUnit) (λ_=>PUnit)
  (λ_=>f)
  (λ_ _=>f)
  (λ_ _=>f)
  (λ_ _ _=>f)
  (λ_=>f)
  (λ_=>f)
  (λ_ _ _=>f)
  (λ_=>f)
  (λr=>aC)
  (λ_ _ _ _ _=>f)
  (f)
  (λ_ _ _=>f)
  (f)
  (λ_ _=>f)
  (λ_ _=>f)
  (λ_ _=>⟨⟩) ⟨⟩ (λ_ _ _ _=>⟨⟩) v
def qC(v:Z):aB Addr:=
 @Value.rec (λ_=>aB Addr) (λ_=>PUnit) (λ_=>PUnit)
  (λ_=>Q)
  (λ_ _=>Q)
  (λ_ _=>Q)
  (λ_ _ _=>Q)
  (λ_=>Q)
  (λa=>a)
  (λ_ _ _=>Q)
  (λ_=>Q)
  (λ_=>Q)
  (λ_ _ _ _ _=>Q)
  (Q)
  (λ_ _ _=>Q)
  (Q)
  (λ_ _=>Q)
  (λ_ _=>Q)
  (λ_ _=>⟨⟩) ⟨⟩ (λ_ _ _ _=>⟨⟩) v
def jQ(v:Z):aB Bool:=
 @Value.rec (λ_=>aB Bool) (λ_=>PUnit) (λ_=>PUnit)
  (λb=>D b)
  (λ_ _=>Q)
  (λ_ _=>Q)
  (λ_ _ _=>Q)
  (λ_=>Q)
  (λ_=>Q)
  (λ_ _ _=>Q)
  (λ_=>Q)
  (λ_=>Q)
  (λ_ _ _ _ _=>Q)
  (Q)
  (λ_ _ _=>Q)
  (Q)
  (λ_ _=>Q)
  (λ_ _=>Q)
  (λ_ _=>⟨⟩) ⟨⟩ (λ_ _ _ _=>⟨⟩) v
def tL(v:Z):aB (fB×Int):=
 @Value.rec (λ_=>aB<|fB×Int) (λ_=>PUnit) (λ_=>PUnit)
  (λ_=>Q)
  (λk n=>D (k,n))
  (λ_ _=>Q)
  (λ_ _ _=>Q)
  (λ_=>Q)
  (λ_=>Q)
  (λ_ _ _=>Q)
  (λ_=>Q)
  (λ_=>Q)
  (λ_ _ _ _ _=>Q)
  (Q)
  (λ_ _ _=>Q)
  (Q)
  (λ_ _=>Q)
  (λ_ _=>Q)
  (λ_ _=>⟨⟩) ⟨⟩ (λ_ _ _ _=>⟨⟩) v
def JU(n:Int):aB Nat:=@Int.rec (λ_=>aB Nat) (λm=>D m) (λ_=>Q) n
def zK(v:Z):aB Nat:=
 @Value.rec (λ_=>aB Nat) (λ_=>PUnit) (λ_=>PUnit)
  (λ_=>Q)
  (λk n=>JU n)
  (λ_ _=>Q)
  (λ_ _ _=>Q)
  (λ_=>Q)
  (λ_=>Q)
  (λ_ _ _=>Q)
  (λ_=>Q)
  (λ_=>Q)
  (λ_ _ _ _ _=>Q)
  (Q)
  (λ_ _ _=>Q)
  (Q)
  (λ_ _=>Q)
  (λ_ _=>Q)
  (λ_ _=>⟨⟩) ⟨⟩ (λ_ _ _ _=>⟨⟩) v
def uj(v:Z):aB aV:=
 @Value.rec (λ_=>aB aV) (λ_=>PUnit) (λ_=>PUnit)
  (λ_=>Q)
  (λ_ _=>Q)
  (λ_ _=>Q)
  (λ_ _ _=>Q)
  (λs=>D s)
  (λ_=>Q)
  (λ_ _ _=>Q)
  (λ_=>Q)
  (λ_=>Q)
  (λ_ _ _ _ _=>Q)
  (Q)
  (λ_ _ _=>Q)
  (Q)
  (λ_ _=>Q)
  (λ_ _=>Q)
  (λ_ _=>⟨⟩) ⟨⟩ (λ_ _ _ _=>⟨⟩) v
def I7(v:Z):aB (aB Addr×Nat×Nat):=
 @Value.rec (λ_=>aB<|aB Addr×Nat×Nat) (λ_=>PUnit) (λ_=>PUnit)
  (λ_=>Q)
  (λ_ _=>Q)
  (λ_ _=>Q)
  (λ_ _ _=>Q)
  (λ_=>Q)
  (λ_=>Q)
  (λa l c=>D (a,l,c))
  (λ_=>Q)
  (λ_=>Q)
  (λ_ _ _ _ _=>Q)
  (Q)
  (λ_ _ _=>Q)
  (Q)
  (λ_ _=>Q)
  (λ_ _=>Q)
  (λ_ _=>⟨⟩) ⟨⟩ (λ_ _ _ _=>⟨⟩) v
def L6(v:Z):aB (aB Nat):=
 @Value.rec (λ_=>aB<|aB Nat) (λ_=>PUnit) (λ_=>PUnit)
  (λ_=>Q)
  (λ_ _=>Q)
  (λ_ _=>Q)
  (λ_ _ _=>Q)
  (λ_=>Q)
  (λ_=>Q)
  (λ_ _ _=>Q)
  (λr=>D r)
  (λ_=>Q)
  (λ_ _ _ _ _=>Q)
  (Q)
  (λ_ _ _=>Q)
  (Q)
  (λ_ _=>Q)
  (λ_ _=>Q)
  (λ_ _=>⟨⟩) ⟨⟩ (λ_ _ _ _=>⟨⟩) v
def fFn(ay:Fn):aB FuncId:=@Fn.rec (λ_=>aB FuncId) (λay=>D ay) (λ_=>Q) (λ_ _=>Q) (λ_ _ _ _=>Q) (λ_=>Q) ay
def Zp(v:Z):aB (Fn×C Z×C Z):=
 @Value.rec (λ_=>aB<|Fn×C Z×C Z) (λ_=>PUnit) (λ_=>PUnit)
  (λ_=>Q)
  (λ_ _=>Q)
  (λ_ _=>Q)
  (λ_ _ _=>Q)
  (λ_=>Q)
  (λ_=>Q)
  (λ_ _ _=>Q)
  (λ_=>Q)
  (λ_=>Q)
  (λay x hr _ _=>D (ay,x.toList,hr.toList))
  (Q)
  (λ_ _ _=>Q)
  (Q)
  (λ_ _=>Q)
  (λ_ _=>Q)
  (λ_ _=>⟨⟩) ⟨⟩ (λ_ _ _ _=>⟨⟩) v
def wP(v:Z):aB (C Z):=
 @Value.rec (λ_=>aB<|C Z) (λ_=>PUnit) (λ_=>PUnit)
  (λ_=>Q)
  (λ_ _=>Q)
  (λ_ _=>Q)
  (λ_ _ _=>Q)
  (λ_=>Q)
  (λ_=>Q)
  (λ_ _ _=>Q)
  (λ_=>Q)
  (λ_=>Q)
  (λ_ _ _ _ _=>Q)
  (Q)
  (λ_ _ _=>Q)
  (Q)
  (λM _=>D M.toList)
  (λ_ _=>Q)
  (λ_ _=>⟨⟩) ⟨⟩ (λ_ _ _ _=>⟨⟩) v
def Zq(v:Z):aB (C Z):=
 @Value.rec (λ_=>aB<|C Z) (λ_=>PUnit) (λ_=>PUnit)
  (λ_=>Q)
  (λ_ _=>Q)
  (λ_ _=>Q)
  (λ_ _ _=>Q)
  (λ_=>Q)
  (λ_=>Q)
  (λ_ _ _=>Q)
  (λ_=>Q)
  (λ_=>Q)
  (λ_ _ _ _ _=>Q)
  (Q)
  (λ_ _ _=>Q)
  (Q)
  (λ_ _=>Q)
  (λvs _=>D vs.toList)
  (λ_ _=>⟨⟩) ⟨⟩ (λ_ _ _ _=>⟨⟩) v
def Er(v:Z):aB (aH×Z):=
 @Value.rec (λ_=>aB<|aH×Z) (λ_=>PUnit) (λ_=>PUnit)
  (λ_=>Q)
  (λ_ _=>Q)
  (λ_ _=>Q)
  (λ_ _ _=>Q)
  (λ_=>Q)
  (λ_=>Q)
  (λ_ _ _=>Q)
  (λ_=>Q)
  (λ_=>Q)
  (λ_ _ _ _ _=>Q)
  (Q)
  (λt v _=>D (t,v))
  (Q)
  (λ_ _=>Q)
  (λ_ _=>Q)
  (λ_ _=>⟨⟩) ⟨⟩ (λ_ _ _ _=>⟨⟩) v
def eZ{α:Type}(o:aB α):Bool:=@aM α (λ_=>Bool) f (λ_=>aC) o
def rO(v:Z):Nat×Bool:=
 @Value.rec (λ_=>Nat×Bool) (λ_=>PUnit) (λ_=>PUnit)
  (λ_=>(0,aC))
  (λ_ _=>(0,aC))
  (λ_ _=>(0,aC))
  (λ_ _ _=>(0,aC))
  (λ_=>(0,aC))
  (λa=>(1,eZ a))
  (λa l c=>(2,eZ a))
  (λr=>(3,eZ r))
  (λ_=>(0,aC))
  (λay x hr _ _=>(4,aC))
  ((4,f))
  (λt v _=>(5,aC))
  ((5,f))
  (λ_ _=>(0,aC))
  (λ_ _=>(0,aC))
  (λ_ _=>⟨⟩) ⟨⟩ (λ_ _ _ _=>⟨⟩) v
def JV(v:Z):Bool:=
 @Value.rec (λ_=>Bool) (λ_=>PUnit) (λ_=>PUnit)
  (λ_=>aC)
  (λ_ _=>aC)
  (λ_ _=>aC)
  (λ_ _ _=>aC)
  (λ_=>aC)
  (λa=>eZ a)
  (λ_ _ _=>aC)
  (λr=>eZ r)
  (λ_=>aC)
  (λ_ _ _ _ _=>aC)
  (f)
  (λ_ _ _=>aC)
  (f)
  (λ_ _=>aC)
  (λ_ _=>aC)
  (λ_ _=>⟨⟩) ⟨⟩ (λ_ _ _ _=>⟨⟩) v
def qo{α:Type}(o:aB α):Bool:=@aM α (λ_=>Bool) aC (λ_=>f) o
def bK(v:Z):C Z:=@aM (C Z) (λ_=>C Z) [v] (λl=>l)<|wP v
def nE(v:Z):Bool:=
 @Value.rec (λ_=>Bool) (λ_=>PUnit) (λ_=>PUnit)
  (λb=>f)
  (λk n=>f)
  (λk b=>f)
  (λk x hr=>f)
  (λs=>f)
  (λa=>eZ a)
  (λa l c=>eZ a&&aA l 0&&aA c 0)
  (λr=>eZ r)
  (λ_=>aC)
  (λ_ _ _ _ _=>aC)
  (f)
  (λ_ _ _=>aC)
  (f)
  (λ_ _=>aC)
  (λ_ _=>aC)
  (λ_ _=>⟨⟩) ⟨⟩ (λ_ _ _ _=>⟨⟩) v
def xV(d:fu):Nat:=
 @jN (λ_=>Nat)
  (0) (0) (λ_=>0) (λ_=>0) (λ_=>0) (0) (0) (λe=>1) (λe=>2) (λ_ _=>0) (λk e=>3) (λ_ _=>0) (λ_=>0) (λp r v=>4) (λms=>5) (λ_=>0) (λ_ _=>0) d
def dSl(d:fu):aB aH:=
 @jN (λ_=>aB aH)
  (Q) (Q) (λ_=>Q) (λ_=>Q) (λ_=>Q) (Q) (Q) (λ_=>Q) (λe=>D e) (λ_ _=>Q) (λ_ _=>Q) (λ_ _=>Q) (λ_=>Q) (λ_ _ _=>Q) (λ_=>Q) (λ_=>Q) (λ_ _=>Q) d
def Fu(d:fu):aB aH:=
 @jN (λ_=>aB aH)
  (Q) (Q) (λ_=>Q) (λ_=>Q) (λ_=>Q) (Q) (Q) (λe=>D e) (λ_=>Q) (λ_ _=>Q) (λ_ _=>Q) (λ_ _=>Q) (λ_=>Q) (λ_ _ _=>Q) (λ_=>Q) (λ_=>Q) (λ_ _=>Q) d
def PR(d:fu):aB (Nat×aH):=
 @jN (λ_=>aB<|Nat×aH)
  (Q) (Q) (λ_=>Q) (λ_=>Q) (λ_=>Q) (Q) (Q) (λ_=>Q) (λ_=>Q) (λn e=>D (n,e)) (λ_ _=>Q) (λ_ _=>Q) (λ_=>Q) (λ_ _ _=>Q) (λ_=>Q) (λ_=>Q) (λ_ _=>Q) d
def agR(d:fu):aB (aH×aH):=
 @jN (λ_=>aB<|aH×aH)
  (Q) (Q) (λ_=>Q) (λ_=>Q) (λ_=>Q) (Q) (Q) (λ_=>Q) (λ_=>Q) (λ_ _=>Q) (λk e=>D (k,e)) (λ_ _=>Q) (λ_=>Q) (λ_ _ _=>Q) (λ_=>Q) (λ_=>Q) (λ_ _=>Q) d
def N9(d:fu):aB (C Field):=
 @jN (λ_=>aB<|C Field)
  (Q) (Q) (λ_=>Q) (λ_=>Q) (λ_=>Q) (Q) (Q) (λ_=>Q) (λ_=>Q) (λ_ _=>Q) (λ_ _=>Q) (λ_ _=>Q) (λfs=>D fs.toList) (λ_ _ _=>Q) (λ_=>Q) (λ_=>Q) (λ_ _=>Q) d
def Ck(d:fu):Bool:=
 @jN (λ_=>Bool)
  (aC) (aC) (λ_=>aC) (λ_=>aC) (λ_=>aC) (f) (aC) (λ_=>aC) (λ_=>aC) (λ_ _=>aC) (λ_ _=>aC) (λ_ _=>aC) (λ_=>aC) (λ_ _ _=>aC) (λ_=>aC) (λ_=>aC) (λ_ _=>aC) d
def Fv(d:fu):Bool:=
 @jN (λ_=>Bool)
  (aC) (aC) (λ_=>aC) (λ_=>aC) (λ_=>aC) (aC) (f) (λ_=>aC) (λ_=>aC) (λ_ _=>aC) (λ_ _=>aC) (λ_ _=>aC) (λ_=>aC) (λ_ _ _=>aC) (λ_=>aC) (λ_=>aC) (λ_ _=>aC) d
def L8(d:fu):aB fB:=
 @jN (λ_=>aB fB)
  (Q) (Q) (λk=>D k) (λ_=>Q) (λ_=>Q) (Q) (Q) (λ_=>Q) (λ_=>Q) (λ_ _=>Q) (λ_ _=>Q) (λ_ _=>Q) (λ_=>Q) (λ_ _ _=>Q) (λ_=>Q) (λ_=>Q) (λ_ _=>Q) d
def Gq(d:fu):aB FloatKind:=
 @jN (λ_=>aB FloatKind)
  (Q) (Q) (λ_=>Q) (λk=>D k) (λ_=>Q) (Q) (Q) (λ_=>Q) (λ_=>Q) (λ_ _=>Q) (λ_ _=>Q) (λ_ _=>Q) (λ_=>Q) (λ_ _ _=>Q) (λ_=>Q) (λ_=>Q) (λ_ _=>Q) d
def Su(d:fu):Bool:=
 @jN (λ_=>Bool)
  (aC) (aC) (λ_=>aC) (λ_=>aC) (λ_=>aC) (aC) (aC) (λ_=>aC) (λ_=>aC) (λn e=>f) (λ_ _=>aC) (λ_ _=>aC) (λfs=>f) (λ_ _ _=>aC) (λ_=>aC) (λ_=>aC) (λ_ _=>aC) d
def uk(d:fu):Nat:=
 @jN (λ_=>Nat)
  (0) (2) (λk=>1) (λ_=>0) (λ_=>0) (3) (0) (λ_=>0) (λ_=>0) (λ_ _=>0) (λ_ _=>0) (λ_ _=>0) (λ_=>0) (λ_ _ _=>0) (λ_=>0) (λ_=>0) (λ_ _=>0) d
def I8(k:fB):Bool:=@IntKind.rec (λ_=>Bool) aC aC aC aC f aC aC aC k
def Ea(k:fB):Bool:=@IntKind.rec (λ_=>Bool) aC aC aC f aC aC aC aC k
def qJ(k:fB):Nat:=@IntKind.rec (λ_=>Nat) 0 1 2 3 4 5 6 7 k
def tI(P:aU)(t:aH):aB TypeInfo:=P.info? t
def wo(P:aU)(t:aH):aB Nat:=aL (P.info? t) λi=>D i.size
def PS(P:aU)(t:aH):aB (aH×Nat):=aL (P.underlying t) λd=>aL (dSl d) λe=>aL (wo P e) λs=>gd (aD 1 s)<|D (e,s)
def PT(P:aU)(t:aH):aB (Nat×aH×Nat):=aL (P.underlying t) λd=>aL (PR d) λe=>aL (wo P e.2) λs=>gd (aD 1 s)<|D (e.1,e.2,s)
def Za(P:aU)(t:aH):aB (aB Nat):=aL (P.underlying t) λd=>aL (wo P t) λs=>D<|bV (Su d) (D s) Q
def Gs(P:aU)(t:aH):Bool:=@aM fu (λ_=>Bool) aC Ck<|P.underlying t
def HZ(P:aU)(t:aH):Bool:=@aM fu (λ_=>Bool) aC (λd=>@aM fB (λ_=>Bool) aC I8<|L8 d)<|P.underlying t
def uT(P:aU)(t:aH):aB (aH×aH):=aL (P.underlying t) agR
def Gt(v:Z):Bool:=@aM (C Z) (λ_=>Bool) (nE v) (λl=>all' nE l)<|wP v
def xW(P:aU)(t:aH):aB Z:=aL (P.info? t) λi=>aL i.zero λz=>gd (Gt z)<|D z
def Af(P:aU)(t:aH):aB (C Z):=aL (xW P t) λz=>aL (wo P t) λs=>gd (aA (len<|bK z) s)<|D<|bK z
def Jp(P:aU)(t:aH):aB (C Field):=aL (P.underlying t) N9
def Sv(P:aU)(t:aH)(ay:Nat):aB (Nat×aB Nat):=aL (Jp P t) λfs=>aL (nth fs ay) λfd=>aL (Za P fd.type) λl=>aL (wo P fd.type) λs=>gd (aD 1 s)<|D (fd.offset,l)
def places(P:aU)(fs:C Field):aB (C<|Nat×Nat):=
 @cz Field (λ_=>aB<|C<|Nat×Nat) (D []) (λay _ r=>aL (wo P ay.type) λs=>aL r λl=>D<|(ay.offset,s)::l) fs
def U5(P:aU)(t:aH):aB (C<|Nat×Nat):=aL (Jp P t)<|places P
def R.cell(H:R)(r off:Nat):aB Z:=aL (vZ<|H.obj r) λw=>gd (aD (bW off) w.n)<|D<|w.cells.get top off
def R.read(H:R)(r off k:Nat):aB (C Z):=
 @jA (λ_=>aB<|C Z) (D []) (λ_ _=>aL (vZ<|H.obj r) λw=>gd (aD (aZ off k) w.n)<|D<|Tr.Ep top w.cells off k) k
def R.write(H:R)(r off:Nat)(vs:C Z):aB R:=
 @cz Z (λ_=>aB R) (D H) (λ_ _ _=>aL (vZ<|H.obj r) λw=>
  gd (!w.kY&&aD (aZ off<|len vs) w.n&&aD w.fz off&&all' fC vs)
   (D<|H.put r<|.row ⟨w.ty,Tr.tu top vs off w.cells,w.n,aC,w.fz⟩)) vs
def j3(s:Sem Z):aB Z:=match s with
 |.pure v=>gd (nE v)<|D v
 |_=>Q
def L9(a b:Int):Bool:=
 @Int.rec (λ_=>Bool) (λm=>@Int.rec (λ_=>Bool) (λn=>aD (bW m) n) (λ_=>aC) b)
  (λm=>@Int.rec (λ_=>Bool) (λ_=>f) (λn=>aD (bW n) m) b) a
def Jq(a b:Int):Bool:=
 @Int.rec (λ_=>Bool) (λm=>@Int.rec (λ_=>Bool) (λn=>aA m n) (λ_=>aC) b)
  (λm=>@Int.rec (λ_=>Bool) (λ_=>aC) (λn=>aA m n) b) a
def oC(k:fB)(n:Int):Int:=
 @Int.rec (λ_=>Int) (λm=>bV (Ea k&&aD m 9223372036854775807) (.ofNat m)<|k.wrap n) (λm=>bV (Ea k&&aD m 9223372036854775807) (.negSucc m)<|k.wrap n) n
def W_(op:rA):fB->Int->Int->aB Z:=
 @BinOp.rec (λ_=>fB->Int->Int->aB Z) (λk a b=>D<|.int k<|oC k<|Int.add a b) (λk a b=>D<|.int k<|oC k<|Int.sub a b) (λk a b=>D<|.int k<|oC k<|Int.mul a b) (λk a b=>j3<|Op.intDiv .quo k a b) (λk a b=>j3<|Op.intDiv .rem k a b) (λk a b=>j3<|Op.intBits .and k a b) (λk a b=>j3<|Op.intBits .or k a b) (λk a b=>j3<|Op.intBits .xor k a b) (λ_ _ _=>Q) (λ_ _ _=>Q) (λk a b=>j3<|Op.intBits .andNot k a b) (λ_ a b=>D<|.bool<|Jq a b) (λ_ a b=>D<|.bool<|!(Jq a b)) (λ_ a b=>D<|.bool<|L9 a b) (λ_ a b=>D<|.bool<|!(L9 b a)) (λ_ a b=>D<|.bool<|L9 b a) (λ_ a b=>D<|.bool<|!(L9 a b)) op
def zh(op:rA):Nat:=@BinOp.rec (λ_=>Nat) (0) (0) (0) (0) (0) (0) (0) (0) (0) (0) (0) (1) (2) (0) (0) (0) (0) op
def Jr(op:rA):Bool:=@BinOp.rec (λ_=>Bool) (aC) (aC) (aC) (aC) (aC) (aC) (aC) (aC) (f) (f) (aC) (aC) (aC) (aC) (aC) (aC) (aC) op
def Ba(a b:Bool):Bool:=bV a b<|!b
def u8L(l:C UInt8):C Nat:=mp (λb=>b.toNat) l
def JW(l:C Nat):C Nat->Bool:=
 @cz Nat (λ_=>C Nat->Bool) (λm=>@cz Nat (λ_=>Bool) f (λ_ _ _=>aC) m)
  (λx _ ih m=>@cz Nat (λ_=>Bool) aC (λhr r _=>bV (aA x hr) (ih r) aC) m) l
def rG(x hr:aV):Bool:=JW (u8L x.data.toList)<|u8L hr.data.toList
def strLt(x hr:aV):Bool:=Op.bytesLess x.data.toList hr.data.toList
def Zr(x hr:aV):aB Z:=
 gd (aD (aZ (len x.data.toList)<|len hr.data.toList) 4611686018427387904) (D<|.string ⟨⟨app x.data.toList hr.data.toList⟩⟩)
def adK(op:rA):aV->aV->aB Z:=
 @BinOp.rec (λ_=>aV->aV->aB Z) (Zr) (λ_ _=>Q) (λ_ _=>Q) (λ_ _=>Q) (λ_ _=>Q) (λ_ _=>Q) (λ_ _=>Q) (λ_ _=>Q) (λ_ _=>Q) (λ_ _=>Q) (λ_ _=>Q) (λa b=>D<|.bool<|rG a b) (λa b=>D<|.bool<|!(rG a b)) (λa b=>D<|.bool<|strLt a b) (λa b=>D<|.bool<|strLt a b||rG a b) (λa b=>D<|.bool<|!(strLt a b||rG a b)) (λa b=>D<|.bool<|!(strLt a b)) op
def w_(k:Nat)(x hr:Z):aB Bool:=
 bV (aA k 1) (aL (tL x) λa=>aL (tL hr) λb=>gd (aA (qJ a.1)<|qJ b.1)<|D<|Jq a.2 b.2)
  (bV (aA k 2) (aL (jQ x) λa=>aL (jQ hr) λb=>D<|Ba a b)
   (bV (aA k 3) (aL (uj x) λa=>aL (uj hr) λb=>D<|rG a b) Q))
def qQ(ks:C Nat):C Z->C Z->aB Bool:=
 @cz Nat (λ_=>C Z->C Z->aB Bool)
  (λxs ys=>@cz Z (λ_=>aB Bool) (@cz Z (λ_=>aB Bool) (D f) (λ_ _ _=>Q) ys) (λ_ _ _=>Q) xs)
  (λk _ ih xs ys=>@cz Z (λ_=>aB Bool) Q (λx xr _=>@cz Z (λ_=>aB Bool) Q
   (λhr yr _=>aL (w_ k x hr) λb=>bV b (ih xr yr)<|D aC) ys) xs) ks
def rP(P:aU)(fs:C Field):Nat->aB (C Nat):=
 @cz Field (λ_=>Nat->aB (C Nat)) (λ_=>D [])
  (λay _ ih k=>aL (P.underlying ay.type) λd=>aL (ih<|bW k) λr=>gd (aA ay.offset k&&!(ay.name== "_")&&aD 1 (uk d))<|D<|uk d::r) fs
def Zs{α:Type}(x:α)(n:Nat):C α:=@jA (λ_=>C α) [] (λ_ r=>x::r) n
def PV(P:aU)(t:aH):aB (C Nat):=aL (Jp P t) λfs=>gd (!(P.stoodInHeld t))<|rP P fs 0
def afA(P:aU)(t:aH):aB (C Nat):=aL (P.underlying t) λd=>aL (PR d) λa=>aL (P.underlying a.2) λe=>aL (wo P a.2) λs=>
 gd (aA s 1&&aD 1 (uk e)) (D<|Zs (uk e) a.1)
def orElse'{α:Type}(o q:aB α):aB α:=@aM α (λ_=>aB α->aB α) (λq=>q) (λx _=>D x) o q
def tEq(P:aU)(t:aH):aB (Sum Nat<|C Nat):=
 aL (P.underlying t) λd=>bV (aD 1<|uk d) (D<|.inl<|uk d)<|aL (orElse' (PV P t)<|afA P t) λl=>D<|.inr l
def lC(P:aU)(t:aH)(x hr:Z):aB Bool:=
 aL (tEq P t) λq=>@Sum.rec Nat (C Nat) (λ_=>aB Bool) (λk=>w_ k x hr)
  (λl=>aL (wP x) λa=>aL (wP hr) λb=>qQ l a b) q
def tN(o:bT):Bool:=
 @Operand.rec (λ_=>Bool) (λ_=>aC) (λv=>(rO v).2) (λ_=>aC) (λ_=>aC) o
def Gu(P:aU)(t:aH):Nat:=@aM fu (λ_=>Nat) 0 xV<|P.underlying t
def MN(k:Nat)(c x:Z):aB Bool:=gd (aD 1 k&&aA (rO x).1 k&&aA (rO c).1 k)<|D (rO x).2
def Gv(P:aU)(t:aH):Bool:=
 @aM Unit (λ_=>Bool) aC (λ_=>f) (aL (P.underlying t) λd=>aL (Fu d) λe=>aL (wo P e) λs=>gd (aD 1 s)<|D ())
def ptrEq(x hr:Z):aB Bool:=aL (qC x) λa=>aL (qC hr) λb=>gd (aA a.block b.block)<|D<|aA a.off b.off
def Zb(P:aU)(t:aH)(ox oy:bT)(x hr:Z):aB Bool:=
 bV (tN oy) (MN (Gu P t) hr x) (bV (tN ox) (MN (Gu P t) x hr)<|bV (Gv P t) (ptrEq x hr)<|lC P t x hr)
def CB(op:rA)(b:aB Bool):aB Z:=
 bV (aA (zh op) 1) (aL b λb=>D<|.bool b) (bV (aA (zh op) 2) (aL b λb=>D<|.bool<|!b) Q)
def Zt(op:rA)(t:aH)(x hr:Z):aB Z:=aL (tL x) λ_=>aL (tL hr) λ_=>j3<|binOp op t x hr
def xg(v:Z):Nat:=
 @Value.rec (λ_=>Nat) (λ_=>PUnit) (λ_=>PUnit)
  (λ_=>0)
  (λ_ _=>0)
  (λk b=>1)
  (λk x hr=>2)
  (λ_=>0)
  (λ_=>0)
  (λ_ _ _=>0)
  (λ_=>0)
  (λ_=>0)
  (λ_ _ _ _ _=>0)
  (0)
  (λ_ _ _=>0)
  (0)
  (λ_ _=>0)
  (λ_ _=>0)
  (λ_ _=>⟨⟩) ⟨⟩ (λ_ _ _ _=>⟨⟩) v
def Sw(op:rA)(t:aH)(x hr:Z):aB Z:=gd (aD 1 (xg x)&&aA (xg x) (xg hr))<|j3<|binOp op t x hr
def lY(P:aU)(op:rA)(t:aH)(ox oy:bT)(x hr:Z):aB Z:=
 @aM (fB×Int) (λ_=>aB Z)
  (@aM aV (λ_=>aB Z) (bV (aD 1<|xg x) (Sw op t x hr)<|CB op<|Zb P t ox oy x hr) (λa=>aL (uj hr) λb=>adK op a b)<|uj x)
  (λa=>bV (Jr op) (Zt op t x hr)<|aL (tL hr) λb=>gd (aA (qJ a.1)<|qJ b.1)<|W_ op a.1 a.2 b.2) (tL x)
def CE(P:aU)(s d:aH)(x:Z):aB Z:=
 aL (P.underlying s) λ_=>aL (P.underlying d) λe=>
  @aM (fB×Int) (λ_=>aB Z) (aL (uj x) λb=>gd (Ck e)<|D<|.string b)
   (λa=>@aM fB (λ_=>aB Z) (bV (Ck e) (D<|.string<|Utf8.encode a.2)<|aL (Gq e) λk=>j3<|Conv.intToFloat k a.2) (λk=>D<|.int k<|oC k a.2)<|L8 e) (tL x)
def apart(l:aB Nat)(M:C Z)(off:Nat):aB Z:=
 @aM Nat (λ_=>aB Z) (nth M off) (λn=>gd (aD (aZ off n)<|len M)<|D<|.agg ⟨tk n<|dp off M⟩) l
def nP(o:aB Z)(d:Nat):aB Nat:=@aM Z (λ_=>aB Nat) (D d) zK o
def uB(m l off sz:Nat):Nat:=bV (aA m l) off<|aZ off<|bO l sz
def N_(s:aV)(lo hi:aB Z):aB Z:=
 aL (nP lo 0) λl=>aL (nP hi<|len s.data.toList) λh=>gd (aD l h&&aD h (len s.data.toList))
  (D<|.string ⟨⟨tk (dJ h l)<|dp l s.data.toList⟩⟩)
def U6(sz:Nat)(p:aB Addr×Nat×Nat)(lo hi mx:aB Z):aB Z:=
 @aM Addr (λ_=>aB Z)
  (aL (nP lo 0) λl=>aL (nP hi 0) λh=>aL (nP mx 0) λm=>gd (aA l 0&&aA h 0&&aA m 0&&aA p.2.1 0&&aA p.2.2 0&&(!(eZ hi)||eZ mx))<|D<|.slice Q 0 0)
  (λa=>aL (nP lo 0) λl=>aL (nP hi p.2.1) λh=>
   bV (gH p.2.2)
    (aL (nP mx p.2.2) λm=>gd (aD l h&&aD h m&&aD m p.2.2&&(!(eZ hi)||eZ mx))
     (D<|.slice (D ⟨a.block,uB m l a.off sz,Q⟩) (dJ h l)<|dJ m l))
    (gd (aA p.2.2<|fJ sz) (@aM Z (λ_=>aB Z)
     (gd (aD l h&&aD h p.2.1)<|D<|.slice (D ⟨a.block,aZ a.off<|bO l sz,Q⟩) (dJ h l) p.2.2)
     (λmv=>aL (zK mv) λm=>gd (aD l h&&aD h m&&aD m p.2.1&&!(eZ hi)&&gH m)
      (D<|.slice (D ⟨a.block,uB m l a.off sz,Q⟩) (dJ h l)<|dJ m l)) mx))) p.1
def Sy(n sz:Nat)(a:Addr)(lo hi mx:aB Z):aB Z:=
 aL (nP lo 0) λl=>aL (nP hi n) λh=>gd (aD l h&&aD h n&&eZ mx&&gH n)
  (D<|.slice (D ⟨a.block,uB n l a.off sz,Q⟩) (dJ h l)<|dJ n l)
def Ag(P:aU)(t:aH)(x:Z)(lo hi mx:aB Z):aB Z:=
 @aM (aH×Nat) (λ_=>aB Z)
  (bV (Gs P t) (aL (uj x) λs=>gd (eZ mx)<|N_ s lo hi)<|aL (PT P t) λq=>aL (qC x) λa=>Sy q.1 q.2.2 a lo hi mx)
  (λq=>aL (I7 x) λp=>U6 q.2 p lo hi mx) (PS P t)
def rQ(P:aU)(t:aH)(x i:Z):aB Z:=
 aL (zK i) λk=>@aM (aH×Nat) (λ_=>aB Z)
  (aL (PT P t) λq=>aL (qC x) λa=>gd (aD (bW k) q.1)<|D<|.pointer<|D ⟨a.block,aZ a.off<|bO k q.2.2,Q⟩)
  (λq=>aL (I7 x) λp=>aL p.1 λa=>gd (aD (bW k) p.2.1)<|D<|.pointer<|D ⟨a.block,aZ a.off<|bO k q.2,Q⟩) (PS P t)
def CF(P:aU)(t:aH)(x i:Z):aB Z:=
 aL (zK i) λk=>bV (Gs P t)
  (aL (uj x) λs=>aL (nth s.data.toList k) λb=>D<|.int .u8<|.ofNat b.toNat)
  (aL (PT P t) λq=>aL (wP x) λM=>aL (Za P q.2.1) λl=>gd (aD (bW k) q.1)<|apart l M<|bO k q.2.2)
def rR(P:aU)(t:aH)(x:Z)(ay:Nat):aB Z:=
 aL (qC x) λa=>aL (Sv P t ay) λq=>D<|.pointer<|D ⟨a.block,aZ a.off q.1,Q⟩
def CG(P:aU)(t:aH)(x:Z)(ay:Nat):aB Z:=
 aL (wP x) λM=>aL (Sv P t ay) λq=>apart q.2 M q.1
def setAt{α:Type}(x:α)(k:Nat):C α->C α:=
 @jA (λ_=>C α->C α) (λl=>@cz α (λ_=>C α) [] (λ_ r _=>x::r) l) (λ_ ih l=>@cz α (λ_=>C α) [] (λhr r _=>hr::ih r) l) k
def Gx(vs:C Z):Nat->C Z->C Z:=
 @cz Z (λ_=>Nat->C Z->C Z) (λ_ M=>M) (λv _ ih k M=>ih (bW k)<|setAt v k M) vs
def Eb(place:Nat->aB (Nat×Nat))(ps:C<|Nat×Z):C Z->aB (C Z):=
 @cz (Nat×Z) (λ_=>C Z->aB (C Z)) (λM=>D M)
  (λp _ ih M=>aL (place p.1) λq=>gd (pZ p.2&&aA (len<|bK p.2) q.2&&aD (aZ q.1 q.2) (len M))<|ih<|Gx (bK p.2) q.1 M) ps
def Bj(P:aU)(t:aH)(ps:C<|Nat×Z):aB Z:=
 aL (Af P t) λz=>@aM (C<|Nat×Nat) (λ_=>aB Z)
  (aL (PT P t) λq=>aL (Eb (λk=>D (bO k q.2.2,q.2.2)) ps z) λM=>D<|.agg ⟨M⟩)
  (λpl=>aL (Eb (nth pl) ps z) λM=>D<|.agg ⟨M⟩) (U5 P t)
def o7(z:C Z)(n:Nat):C Z:=@jA (λ_=>C Z) [] (λ_ r=>app z r) n
def JX(c a b:Z):aB Z:=aL (jQ c) λt=>D<|bV t a b
def Oa(x:Z):aB Z:=
 @aM Addr (λ_=>aB Z) (aL (Zp x) λay=>aL (fFn ay.1) λ_=>D x) (λ_=>D x) (qC x)
def uU(x:Z)(i:Nat):aB Z:=aL (Zq x) λl=>nth l i
def JY(P:aU)(t:aH)(x:Z):aB Z:=
 aL (P.underlying t) λd=>bV (Ck d) (aL (uj x) λs=>D<|.int .i64<|.ofNat<|len s.data.toList)
  (bV (aA (xV d) 2) (aL (I7 x) λp=>D<|.int .i64<|.ofNat p.2.1)
   (bV (aA (xV d) 3) (aL (L6 x) λr=>gd (eZ r)<|D<|.int .i64 0)
    (aL (PR d) λa=>D<|.int .i64<|.ofNat a.1)))
def one(ay:aH->Z->aB Z)(ats:C aH)(args:C Z):aB Z:=
 aL (nth ats 0) λt=>aL (nth args 0) λx=>ay t x
def mm2(b:Bool)(x hr:Z):aB Z:=
 aL (tL x) λp=>aL (tL hr) λq=>gd (aA (qJ p.1)<|qJ q.1)<|D<|bV (bV b (L9 p.2 q.2)<|L9 q.2 p.2) hr x
def mmL(b:Bool)(l:C Z):Z->aB Z:=
 @cz Z (λ_=>Z->aB Z) (λx=>D x) (λhr _ ih x=>aL (mm2 b x hr) ih) l
def Sz(b:Bool)(args:C Z):aB Z:=@cz Z (λ_=>aB Z) Q (λx l _=>mmL b l x) args
def MO(r:Nat):Z:=.pointer<|D ⟨r,0,Q⟩
def CJ(P:aU)(e:aH)(H:R):aB (Z×R):=
 aL (Af P e) λz=>D (MO H.next,H.new<|rowOf e z)
def JZ(e:aH)(x:Z)(H:R):aB (Z×R):=gd (pZ x)<|D (MO H.next,H.new<|rowOf e<|bK x)
def tO(P:aU)(t:aH)(n:Nat)(ps:C<|Nat×Z)(H:R):aB (Z×R):=
 aL (PS P t) λq=>aL (Af P q.1) λz=>gd (aD (bO n q.2) 16777216)
  (aL (Eb (λk=>D (bO k q.2,q.2)) ps<|o7 z n) λM=>D (.slice (D ⟨H.next,0,Q⟩) n n,H.new<|rowOf q.1 M))
def loadAt(l:aB Nat)(a:Addr)(H:R):aB (Z×R):=
 @aM Nat (λ_=>aB<|Z×R) (aL (H.cell a.block a.off) λv=>D (v,H))
  (λn=>aL (H.read a.block a.off n) λvs=>D (.agg ⟨vs⟩,H)) l
def wu(P:aU)(t:aH)(x:Z)(H:R):aB (Z×R):=
 aL (qC x) λa=>aL (Za P t) λl=>loadAt l a H
def zi(P:aU)(t:aH)(x v:Z)(H:R):aB (Z×R):=
 aL (qC x) λa=>aL (wo P t) λs=>gd (aA (len<|bK v) s)<|aL (H.write a.block a.off<|bK v) λT=>D (undef,T)
def rT(l:C Z):aB (C UInt8):=
 @cz Z (λ_=>aB<|C UInt8) (D []) (λv _ r=>aL (tL v) λp=>aL (JU p.2) λn=>gd (I8 p.1&&aD n 255)<|aL r λbs=>D<|jd n::bs) l
def o8(s:C UInt8):C Z:=mp (λb=>.int .u8<|.ofNat b.toNat) s
def Es(P:aU)(q:aH×Nat)(x:Z)(H:R):aB (Z×R):=
 aL (uj x) λb=>gd (aA q.2 1&&HZ P q.1)
  (D (.slice (D ⟨H.next,0,Q⟩) (len b.data.toList)<|fJ 1,H.new<|.row ⟨q.1,Tr.tu top (o8 b.data.toList) 0 .nil,len b.data.toList,f,0⟩))
def Et(P:aU)(q:aH×Nat)(x:Z)(H:R):aB (Z×R):=
 aL (I7 x) λp=>gd (aA q.2 1&&HZ P q.1) (@aM Addr (λ_=>aB<|Z×R) (D (.string ⟨⟨[]⟩⟩,H))
  (λa=>aL (H.read a.block a.off p.2.1) λl=>aL (rT l) λbs=>D (.string ⟨⟨bs⟩⟩,H)) p.1)
def J2(P:aU)(t:aH)(x:Z)(H:R):aB (Z×R):=
 aL (qC x) λa=>aL (wo P t) λs=>aL (vZ<|H.obj a.block) λw=>gd (aD 1 s&&aD (bW a.off) w.n)<|D (x,H)
def J3(P:aU)(rg:aH)(x:Z)(H:R):aB (Z×R):=
 aL (qC x) λa=>aL (wo P rg) λs=>aL (vZ<|H.obj a.block) λw=>
  gd (aD 1 s&&aA w.ty rg&&aA a.off 0&&aD s w.n) (D (x,H))
def Zu(P:aU)(s d:aH):aB (Nat×aH×Nat):=aL (P.underlying s) λx=>aL (P.underlying d) λhr=>
 bV (Ck x) (aL (PS P d) λq=>D (1,q)) (bV (Ck hr) (aL (PS P s) λq=>D (2,q))
  (bV (Fv hr) (aL (Fu x) λe=>D (3,e,0))<|bV (Fv x) (aL (Fu hr) λe=>D (4,e,0)) Q))
def uL(P:aU)(s d:aH)(x:Z)(H:R):aB (Z×R):=
 aL (Zu P s d) λq=>bV (aA q.1 1) (Es P q.2 x H) (bV (aA q.1 2) (Et P q.2 x H)
  (bV (aA q.1 3) (J2 P q.2.1 x H)<|J3 P q.2.1 x H))
def uV(P:aU)(t:aH)(r:aB Z)(H:R):aB (Z×R):=
 aL (uT P t) λ_=>gd (@aM Z (λ_=>Bool) f (λv=>!(eZ<|tL v)) r)<|D (.map<|D H.next,H.new<|.map [])
def qD(P:aU)(t:aH)(l c:Z)(H:R):aB (Z×R):=
 aL (PS P t) λq=>aL (tI P q.1) λi=>aL (Af P q.1) λz=>aL (zK l) λn=>aL (zK c) λm=>
  gd (aD n m&&aD m 16777216&&aD i.bytes 1048576) (D (.slice (D ⟨H.next,0,Q⟩) n m,H.new<|rowOf q.1<|o7 z m))
def mapOf(H:R)(x:Z):aB (C<|Z×Z):=
 aL (L6 x) λr=>@aM Nat (λ_=>aB<|C<|Z×Z) (D []) (λr=>JS<|H.obj r) r
def rH(P:aU)(kt:aH)(k:Z)(es:C<|Z×Z):Nat->aB (aB<|Nat×Z):=
 @cz (Z×Z) (λ_=>Nat->aB (aB<|Nat×Z)) (λ_=>D Q)
  (λe _ ih i=>aL (lC P kt k e.1) λb=>bV b (D<|D (i,e.2))<|ih<|bW i) es
def okd(ok:Bool)(v:Z)(b:Bool)(H:R):Z×R:=bV ok (.tuple #[v,.bool b],H) (v,H)
def zS(P:aU)(t:aH)(k:Z):aB Unit:=aL (lC P t k k) λb=>gd b<|D ()
def sV(P:aU)(t:aH)(x k:Z)(ok:Bool)(H:R):aB (Z×R):=
 aL (uT P t) λq=>aL (xW P q.2) λz=>aL (mapOf H x) λes=>aL (zS P q.1 k) λ_=>aL (rH P q.1 k es 0) λay=>
  @aM (Nat×Z) (λ_=>aB<|Z×R) (D<|okd ok z aC H) (λp=>D<|okd ok p.2 f H) ay
def vF(P:aU)(t:aH)(m k v:Z)(H:R):aB (Z×R):=
 aL (uT P t) λq=>aL (L6 m) λmr=>aL mr λr=>aL (JS<|H.obj r) λes=>aL (zS P q.1 k) λ_=>aL (rH P q.1 k es 0) λay=>
  @aM (Nat×Z) (λ_=>aB<|Z×R) (D (undef,H.put r<|.map<|app es [(k,v)])) (λp=>D (undef,H.put r<|.map<|setAt (k,v) p.1 es)) ay
def appended(H:R)(sz:Nat)(x:Z):aB (Nat×C Z):=
 @aM aV (λ_=>aB<|Nat×C Z)
  (aL (I7 x) λp=>@aM Addr (λ_=>aB<|Nat×C Z) (gd (aA p.2.1 0)<|D (0,[]))
   (λa=>aL (H.read a.block a.off<|bO p.2.1 sz) λl=>D (p.2.1,l)) p.1)
  (λs=>gd (aA sz 1)<|D (len s.data.toList,o8 s.data.toList)) (uj x)
def MP(P:aU)(ats:C aH)(args:C Z)(H:R):aB (Z×R):=
 aL (nth ats 0) λt=>aL (nth args 0) λd=>aL (nth args 1) λx=>aL (PS P t) λq=>aL (I7 d) λp=>aL (appended H q.2 x) λe=>
  @aM Addr (λ_=>aB<|Z×R) (gd (aA p.2.1 0)<|D (.int .i64 0,H))
   (λa=>aL (H.write a.block a.off<|tk (bO (bV (aD e.1 p.2.1) e.1 p.2.1) q.2) e.2) λT=>D (.int .i64<|.ofNat<|bV (aD e.1 p.2.1) e.1 p.2.1,T)) p.1
def Gy(P:aU)(ats:C aH)(args:C Z)(H:R):aB (Z×R):=
 aL (nth ats 0) λt=>aL (nth args 0) λd=>aL (PS P t) λq=>aL (Af P q.1) λz=>aL (I7 d) λp=>
  @aM Addr (λ_=>aB<|Z×R) (D (.tuple #[],H))
   (λa=>aL (H.write a.block a.off<|o7 z p.2.1) λT=>D (.tuple #[],T)) p.1
def J4(P:aU)(ats:C aH)(args:C Z)(H:R):aB (Z×R):=
 aL (nth ats 0) λt=>aL (nth args 0) λx=>aL (uT P t) λ_=>aL (mapOf H x) λes=>D (.int .i64<|.ofNat<|len es,H)
def Fw(args:C Z)(H:R):aB (Z×R):=
 gd (aA (len args) 1) (aL (nth args 0) λx=>aL (I7 x) λp=>@aM Addr (λ_=>aB<|Z×R) (D (.pointer Q,H))
  (λa=>gd (aD 1 p.2.1||(gH p.2.2&&aD 1 p.2.2))<|D (.pointer<|D a,H)) p.1)
def U7(P:aU)(pt:aH)(a:Addr)(n:Nat)(H:R):aB (Z×R):=
 aL (P.underlying pt) λd=>aL (Fu d) λe=>aL (wo P e) λs=>aL (vZ<|H.obj a.block) λw=>
  gd (HZ P e&&aA w.ty e&&aA s 1&&aD (aZ a.off n) w.n&&aD n 16777216)
   (aL (rT<|Tr.Ep top w.cells a.off n) λbs=>D (.string ⟨⟨bs⟩⟩,
    H.put a.block (.row ⟨w.ty,w.cells,w.n,w.kY,bV (aD w.fz<|aZ a.off n) (aZ a.off n) w.fz⟩)))
def xh(P:aU)(ats:C aH)(args:C Z)(H:R):aB (Z×R):=
 gd (aA (len args) 2) (aL (nth ats 0) λpt=>aL (nth args 0) λp=>aL (nth args 1) λnv=>aL (zK nv) λn=>
  @jA (λ_=>aB<|Z×R) (gd (aA (rO p).1 1)<|D (.string ⟨⟨[]⟩⟩,H)) (λ_ _=>aL (qC p) λa=>U7 P pt a n H) n)
def yA(e:aH)(es:Nat)(n:Nat)(vs:C Z)(H:R):Z×R:=
 (.slice (D ⟨H.next,0,Q⟩) n<|fJ es,H.new<|rowOf e vs)
def xX(q:aH×Nat)(a:Addr)(l c k:Nat)(vs:C Z)(H:R):aB (Z×R):=
 bV (aD (aZ l k) c)
  (aL (H.write a.block (aZ a.off<|bO l q.2) vs) λT=>D (.slice (D a) (aZ l k) c,T))
  (aL (H.read a.block a.off<|bO l q.2) λold=>D<|yA q.1 q.2 (aZ l k) (app old vs) H)
def tQ(q:aH×Nat)(a:Addr)(l c k:Nat)(vs:C Z)(H:R):aB (Z×R):=
 aL (vZ<|H.obj a.block) λw=>gd (aA w.ty q.1&&!w.kY)
  (bV (aD (aZ a.off<|bO (aZ l k) q.2) w.n)
   (aL (H.write a.block (aZ a.off<|bO l q.2) vs) λT=>D (.slice (D a) (aZ l k) c,T))
   (gd (aD (aZ a.off<|bO l q.2) w.n&&aD w.fz (aZ a.off<|bO l q.2)&&all' fC vs)
    (D (.slice (D ⟨H.next,a.off,Q⟩) (aZ l k) c,
     (H.put a.block .dead).new (.row ⟨w.ty,Tr.tu top vs (aZ a.off<|bO l q.2) w.cells,aZ a.off<|bO (aZ l k) q.2,aC,w.fz⟩)))))
def PW(q:aH×Nat)(s:Z)(p:aB Addr×Nat×Nat)(k:Nat)(vs:C Z)(H:R):aB (Z×R):=
 @jA (λ_=>aB<|Z×R) (D (s,H)) (λ_ _=>
  @aM Addr (λ_=>aB<|Z×R) (gd (aA p.2.1 0&&aA p.2.2 0)<|D<|yA q.1 q.2 k vs H)
   (λa=>gd (aD p.2.1 16777216)<|bV (gH p.2.2) (xX q a p.2.1 p.2.2 k vs H)<|gd (aA p.2.2<|fJ q.2)<|tQ q a p.2.1 p.2.2 k vs H) p.1) k
def aiE(P:aU)(t t2:aH):aB (aH×Nat):=
 aL (PS P t) λq=>aL (tI P q.1) λi=>aL (Af P q.1) λ_=>aL (P.underlying t2) λd=>gd (eZ (L8 d)&&aD i.bytes 1048576&&aD 1 i.bytes)<|D q
def Dx(P:aU)(ats:C aH)(args:C Z)(H:R):aB (Z×R):=
 aL (nth ats 0) λt=>aL (nth ats 1) λt2=>aL (nth args 0) λs=>aL (nth args 1) λx=>
  aL (aiE P t t2) λq=>aL (I7 s) λp=>aL (appended H q.2 x) λe=>gd (aD e.1 16777216)<|PW q s p e.1 e.2 H
def Zv(a b:aB Nat):Bool:=@aM Nat (λ_=>Bool) (eZ b) (λx=>@aM Nat (λ_=>Bool) aC (λhr=>aA x hr) b) a
def addrEq(a b:Addr):Bool:=aA a.block b.block&&aA a.off b.off&&eZ a.spot&&eZ b.spot
def Js(a b:aB Addr):Bool:=@aM Addr (λ_=>Bool) (eZ b) (λx=>@aM Addr (λ_=>Bool) aC (λhr=>addrEq x hr) b) a
def Zw(x hr:Z):Bool:=qo<|aL (qC x) λa=>aL (qC hr) λb=>gd (addrEq a b)<|D ()
def afB(x hr:Z):Bool:=qo<|aL (I7 x) λa=>aL (I7 hr) λb=>gd (Js a.1 b.1&&aA a.2.1 b.2.1&&aA a.2.2 b.2.2)<|D ()
def aiF(x hr:Z):Bool:=qo<|aL (L6 x) λa=>aL (L6 hr) λb=>gd (Zv a b)<|D ()
def Zx(x hr:Z):Bool:=qo<|aL (tL x) λa=>aL (tL hr) λb=>gd (aA (qJ a.1) (qJ b.1)&&Jq a.2 b.2)<|D ()
def aiG(x hr:Z):Bool:=qo<|aL (jQ x) λa=>aL (jQ hr) λb=>gd (Ba a b)<|D ()
def aiH(x hr:Z):Bool:=qo<|aL (uj x) λa=>aL (uj hr) λb=>gd (rG a b)<|D ()
def afC(x hr:Z):Bool:=JV x&&JV hr&&aA (rO x).1 (rO hr).1
def Ar(x hr:Z):Bool:=Zx x hr||(Zw x hr||(afB x hr||(aiG x hr||(aiH x hr||(aiF x hr||afC x hr)))))
def Bl(ay:Z->Z->Bool)(xs:C Z):C Z->Bool:=
 @cz Z (λ_=>C Z->Bool) (λys=>@cz Z (λ_=>Bool) f (λ_ _ _=>aC) ys)
  (λx _ ih ys=>@cz Z (λ_=>Bool) aC (λhr r _=>bV (ay x hr) (ih r) aC) ys) xs
def U8(ay:Z->Z->Bool)(x hr:Z):Bool:=qo<|aL (Zp x) λa=>aL (Zp hr) λb=>aL (fFn a.1) λg=>aL (fFn b.1) λk=>gd (aA g k&&Bl ay a.2.1 b.2.1&&Bl ay a.2.2 b.2.2)<|D ()
def Eu(x hr:Z):Bool:=Ar x hr||U8 Ar x hr
def nG(x hr:Z):Bool:=Eu x hr||U8 Eu x hr
def Fx(xs:C Z):C Z->Bool:=
 @cz Z (λ_=>C Z->Bool) (λys=>@cz Z (λ_=>Bool) f (λ_ _ _=>aC) ys)
  (λx _ ih ys=>@cz Z (λ_=>Bool) aC (λhr r _=>bV (nG x hr) (ih r) aC) ys) xs
def sameAt(A vn:R)(r off n:Nat):Bool:=qo<|aL (A.read r off n) λx=>aL (vn.read r off n) λhr=>gd (Fx x hr)<|D ()
def yF(c:Nat)(l:C UInt8):Nat->aB Nat:=
 @cz UInt8 (λ_=>Nat->aB Nat) (λ_=>Q) (λb _ ih k=>bV (aA b.toNat c) (D k)<|ih<|bW k) l
def countB(c:Nat)(l:C UInt8):Nat:=@cz UInt8 (λ_=>Nat) 0 (λb _ n=>bV (aA b.toNat c) (bW n) n) l
def SA(o:aB Nat):Z:=@aM Nat (λ_=>Z) (.int .i64 (-1)) (λk=>.int .i64<|.ofNat k) o
def J5(args:C Z):aB (aV×Nat):=
 aL (nth args 0) λs=>aL (uj s) λb=>aL (nth args 1) λc=>aL (tL c) λp=>aL (JU p.2) λn=>gd (I8 p.1&&aD n 255&&aA (len args) 2)<|D (b,n)
def Xa(P:aU)(code:Nat)(rt:C aH)(args:C Z)(H:R):aB (Z×R):=
 bV (aA code 1) (gd (aA (len args) 1)<|aL (nth args 0) λx=>D (x,H))
  (bV (aA code 2) (gd (aA (len args) 1) (aL (nth args 0) λx=>aL (tL x) λp=>aL (JU p.2) λn=>aL (nth rt 0) λt=>aL (PS P t) λq=>
   gd (Ea p.1&&aD n 16777216&&aA q.2 1) (D (.slice (D ⟨H.next,0,Q⟩) n<|fJ 1,H.new<|.row ⟨q.1,.nil,n,aC,0⟩))))
   (bV (aA code 3) (aL (J5 args) λx=>D (SA<|yF x.2 x.1.data.toList 0,H))
    (bV (aA code 4) (aL (J5 args) λx=>D (.int .i64<|.ofNat<|countB x.2 x.1.data.toList,H)) Q)))
structure St where
 nl:Nat
 nt:Nat
 reg:C (Nat×Z)
 tm:Tr Z
 df:C Deferred
 H:R
def gZ(m i:Nat):Bool:=aA (Nat.mod (Nat.shiftRight m i) 2) 1
def look(l:C<|Nat×Z):Nat->Z:=
 @cz (Nat×Z) (λ_=>Nat->Z) (λ_=>top) (λp _ ih t=>bV (aA p.1 t) p.2<|ih t) l
def iA(s:St)(t:Nat):Z:=bV (gZ s.nl t) (s.tm.get top t)<|look s.reg t
def ev(s:St)(x:bT):Z:=
 @Operand.rec (λ_=>St->Z) (λt s=>iA s t) (λv _=>v) (λg _=>.pointer<|D ⟨g,0,Q⟩) (λay _=>.func (.func ay) #[] #[]) x s
def I9(s:St)(x:aB bT):aB Z:=@aM bT (λ_=>aB Z) Q (λx=>D<|ev s x) x
def Ob(s:St)(ps:Array<|Nat×bT):C (Nat×Z):=mp (λp=>(p.1,ev s p.2)) ps.toList
def qE(s:St)(d:Nat)(v:Z)(H:R):St:=
 bV (gZ s.nl d) ⟨s.nl,s.nt,s.reg,bV (aD (bW d) s.nt) (s.tm.set top d v) s.tm,s.df,H⟩ ⟨s.nl,s.nt,(d,v)::s.reg,s.tm,s.df,H⟩
def jk(s:St)(d:aB Nat)(v:Z)(H:R):St:=
 @aM Nat (λ_=>St) ⟨s.nl,s.nt,s.reg,s.tm,s.df,H⟩ (λd=>qE s d v H) d
abbrev kT:=FuncId->C Z->R->aB (Z×R)
inductive R3 where
 |fail
 |Cm(v:Z)
 |mem(v:Z)(H:R)
def rp(o:aB Z):R3:=@aM Z (λ_=>R3) .fail .Cm o
def rm(o:aB<|Z×R):R3:=@aM (Z×R) (λ_=>R3) .fail (λp=>.mem p.1 p.2) o
def rpm(o:aB Z)(q:R3):R3:=@aM Z (λ_=>R3->R3) (λq=>q) (λv _=>.Cm v) o q
def isU(v:Z):Bool:=@aM (C Z) (λ_=>Bool) aC (λl=>aA (len l) 0)<|Zq v
def Bo(ops:Array Oper)(s:St)(j:Nat):aB (aB Bool):=
 aL (nth ops.toList j) λo=>aL o.dst λt=>
  @aM Bool (λ_=>aB<|aB Bool) (gd (isU<|iA s t)<|D Q) (λb=>D<|D b) (jQ<|iA s t)
def MQ(ops:Array Oper)(s:St)(g:Nat×Bool):aB Bool:=
 aL (Bo ops s g.1) λhr=>D<|@aM Bool (λ_=>Bool) aC (λb=>Ba b g.2) hr
def qK(ops:Array Oper)(s:St)(g:aB<|Nat×Bool):aB Bool:=
 @aM (Nat×Bool) (λ_=>aB Bool) (D f) (λg=>MQ ops s g) g
def methodOf(P:aU)(t:aH)(name:String):aB (FuncId×Bool):=
 aL (P.info? t) λi=>aL (i.methods.toList.find? (·.name==name)) λm=>aL m.func λq=>aL (P.underlying t) λd=>
  gd (aA (len m.path.toList) 0&&(bV q.2 (aA (xV d) 1)<|!(aA (xV d) 1))) (D q)
def nQ(c:Callee):aU->St->aB (FuncId×C Z×C Z):=
 @Callee.rec (λ_=>aU->St->aB (FuncId×C Z×C Z))
  (λay _ s=>aL (Zp<|ev s ay) λq=>aL (fFn q.1) λg=>D (g,q.2))
  (λr name P s=>aL (Er<|ev s r) λp=>aL (methodOf P p.1 name) λq=>D (q.1,[p.2],[]))
  (λ_ _ _=>Q) c
def isBuiltin(c:Callee):aB Builtin:=@Callee.rec (λ_=>aB Builtin) (λ_=>Q) (λ_ _=>Q) (λb=>D b) c
def Au(b:Builtin):C aH->C Z->aU->R->R3:=
 @Builtin.rec (λ_=>C aH->C Z->aU->R->R3)
  (λats args P H=>rm<|Dx P ats args H) (λ_ _ _ _=>.fail) (λats args P H=>rm<|Gy P ats args H) (λ_ _ _ _=>.fail) (λ_ _ _ _=>.fail) (λats args P H=>rm<|MP P ats args H) (λ_ _ _ _=>.fail) (λ_ _ _ _=>.fail) (λats args P H=>rpm (one (JY P) ats args)<|rm<|J4 P ats args H) (λ_ _ _ _=>.fail) (λ_ args _ _=>rp<|Sz f args) (λ_ args _ _=>rp<|Sz aC args) (λ_ _ _ _=>.fail) (λ_ _ _ _=>.fail) (λ_ _ _ _=>.fail) (λ_ _ _ _=>.fail) (λ_ _ _ _=>.fail) (λ_ _ _ _=>.fail) (λ_ _ _ _=>.fail) (λ_ _ _ _=>.fail) (λ_ args _ H=>rm<|Fw args H) (λats args P H=>rm<|xh P ats args H) (λ_ _ _ _=>.fail) (λ_ _ _ _=>.fail) (λ_ _ _ _=>.fail) (λ_ _ _ _=>.fail) b
def wU(c:Call)(P:aU)(cf:kT)(s:St):R3:=
 @aM Builtin (λ_=>R3)
  (rm<|aL (nQ c.callee P s) λq=>cf q.1 (app q.2.1<|app (mp (ev s) c.args.toList) q.2.2) s.H)
  (λb=>Au b c.argTypes.toList (mp (ev s) c.args.toList) P s.H) (isBuiltin c.callee)
def yL(o:Op):aU->kT->St->R3:=
 @Op.rec (λ_=>aU->kT->St->R3)
  (λx _ _ s=>.Cm<|ev s x) (λx _ _ s=>.Cm<|ev s x) (λc a b _ _ s=>rp<|JX (ev s c) (ev s a)<|ev s b) (λe P _ s=>rm<|CJ P e s.H) (λe x _ _ s=>rm<|JZ e (ev s x) s.H) (λt ps P _ s=>rp<|Bj P t<|Ob s ps) (λt n ps P _ s=>rm<|tO P t n (Ob s ps) s.H) (λ_ _ _ _ _ _ _=>.fail) (λt x P _ s=>rm<|wu P t (ev s x) s.H) (λt x v P _ s=>rm<|zi P t (ev s x) (ev s v) s.H) (λ_ _ _ _=>.fail) (λ_ _ _ _=>.fail) (λx _ _ s=>rp<|Oa<|ev s x) (λop t x hr _ P _ s=>rp<|lY P op t x hr (ev s x)<|ev s hr) (λop _ x _ _ s=>rp<|j3<|Op.unary op<|ev s x) (λa b x P _ s=>rpm (CE P a b<|ev s x)<|rm<|uL P a b (ev s x) s.H) (λ_ _ _ _ _=>.fail) (λ_ _ _ _ _=>.fail) (λay fi ca _ _ s=>rp<|D<|.func ay ⟨mp (ev s) fi.toList⟩ ⟨mp (ev s) ca.toList⟩) (λt r P _ s=>rm<|uV P t (I9 s r) s.H) (λ_ _ _ _ _=>.fail) (λt l c P _ s=>rm<|qD P t (ev s l) (ev s c) s.H) (λt x lo hi mx P _ s=>rp<|Ag P t (ev s x) (I9 s lo) (I9 s hi)<|I9 s mx) (λt x ay P _ s=>rp<|rR P t (ev s x) ay) (λt x ay P _ s=>rp<|CG P t (ev s x) ay) (λt x i P _ s=>rp<|rQ P t (ev s x)<|ev s i) (λt x i P _ s=>rp<|CF P t (ev s x)<|ev s i) (λt x k ok P _ s=>rm<|sV P t (ev s x) (ev s k) ok s.H) (λt m k v P _ s=>rm<|vF P t (ev s m) (ev s k) (ev s v) s.H) (λ_ _ _ _ _ _=>.fail) (λ_ _ _ _ _ _ _=>.fail) (λ_ _ _ _ _=>.fail) (λ_ _ _ _ _=>.fail) (λ_ _ _ _=>.fail) (λ_ _ _ _ _ _ _=>.fail) (λt i _ _ s=>rp<|uU (ev s t) i) (λc P cf s=>wU c P cf s) (λ_ _ _ _=>.fail) (λ_ _ _ _=>.fail) (λ_ _ _ _=>.fail) (λ_ _ _ _ _=>.fail) (λ_ _ _ _ _ _=>.fail) (λ_ _ _ _ _=>.fail) o
def qZ(o:Op):aB Call:=@Op.rec (λ_=>aB Call) (λ_=>Q) (λ_=>Q) (λ_ _ _=>Q) (λ_=>Q) (λ_ _=>Q) (λ_ _=>Q) (λ_ _ _=>Q) (λ_ _ _ _=>Q) (λ_ _=>Q) (λ_ _ _=>Q) (λ_=>Q) (λ_=>Q) (λ_=>Q) (λ_ _ _ _ _=>Q) (λ_ _ _=>Q) (λ_ _ _=>Q) (λ_ _=>Q) (λ_ _=>Q) (λ_ _ _=>Q) (λ_ _=>Q) (λ_ _=>Q) (λ_ _ _=>Q) (λ_ _ _ _ _=>Q) (λ_ _ _=>Q) (λ_ _ _=>Q) (λ_ _ _=>Q) (λ_ _ _=>Q) (λ_ _ _ _=>Q) (λ_ _ _ _=>Q) (λ_ _ _=>Q) (λ_ _ _ _=>Q) (λ_ _=>Q) (λ_ _=>Q) (λ_=>Q) (λ_ _ _ _=>Q) (λ_ _=>Q) (λ_=>Q) (λ_=>Q) (λc=>D c) (λ_=>Q) (λ_ _=>Q) (λ_ _ _=>Q) (λ_ _=>Q) o
def Bp(c:Call)(P:aU)(s:St):aB Deferred:=
 aL (@Callee.rec (λ_=>aB bT) (λay=>D ay) (λ_ _=>Q) (λ_=>Q) c.callee) λay=>
  aL (Zp<|ev s ay) λq=>aL (fFn q.1) λg=>D ⟨.fn (.func g) ⟨q.2.2⟩,⟨app q.2.1<|mp (ev s) c.args.toList⟩⟩
def Ew(o:Oper)(s:St)(r:R3):aB St:=
 @R3.rec (λ_=>aB St) Q (λv=>D<|jk s o.dst v s.H) (λv H=>D<|jk s o.dst v H) r
def zL(P:aU)(cf:kT)(o:Oper)(s:St):aB St:=
 @aM Call (λ_=>aB St) (Ew o s<|yL o.op P cf s)
  (λc=>aL (Bp c P s) λd=>D<|jk ⟨s.nl,s.nt,s.reg,s.tm,d::s.df,s.H⟩ o.dst undef s.H) (qZ o.op)
def mE(P:aU)(cf:kT)(ops:Array Oper)(o:Oper)(s:St):aB St:=
 aL (qK ops s o.guard) λb=>bV b (zL P cf o s)<|D<|jk s o.dst undef s.H
def mQ(P:aU)(cf:kT)(ops:Array Oper)(l:C Oper):St->aB St:=
 @cz Oper (λ_=>St->aB St) D (λo _ ih s=>aL (mE P cf ops o s) ih) l
def nY(a b:Nat):Nat:=bV (aD a b) a b
def g_(s:St):St:=⟨s.nl,s.nt,s.reg,s.tm,s.df,⟨s.H.v_,s.H.next,s.H.next⟩⟩
structure Cl where
 k:Nat
 r:Nat
 off:Nat
 n:Nat
 a:R
 b:R
def hh0:R:=⟨.nil,0,0⟩
def cl(k:Nat):Cl:=⟨k,0,0,0,hh0,hh0⟩
def Bq(o:Op):aB (bT×bT):=@Op.rec (λ_=>aB<|bT×bT) (λ_=>Q) (λ_=>Q) (λ_ _ _=>Q) (λ_=>Q) (λ_ _=>Q) (λ_ _=>Q) (λ_ _ _=>Q) (λ_ _ _ _=>Q) (λ_ _=>Q) (λ_ a v=>D (a,v)) (λ_=>Q) (λ_=>Q) (λ_=>Q) (λ_ _ _ _ _=>Q) (λ_ _ _=>Q) (λ_ _ _=>Q) (λ_ _=>Q) (λ_ _=>Q) (λ_ _ _=>Q) (λ_ _=>Q) (λ_ _=>Q) (λ_ _ _=>Q) (λ_ _ _ _ _=>Q) (λ_ _ _=>Q) (λ_ _ _=>Q) (λ_ _ _=>Q) (λ_ _ _=>Q) (λ_ _ _ _=>Q) (λ_ _ _ _=>Q) (λ_ _ _=>Q) (λ_ _ _ _=>Q) (λ_ _=>Q) (λ_ _=>Q) (λ_=>Q) (λ_ _ _ _=>Q) (λ_ _=>Q) (λ_=>Q) (λ_=>Q) (λ_=>Q) (λ_=>Q) (λ_ _=>Q) (λ_ _ _=>Q) (λ_ _=>Q) o
def Gz(o:Op):aB (aH×bT):=@Op.rec (λ_=>aB<|aH×bT) (λ_=>Q) (λ_=>Q) (λ_ _ _=>Q) (λ_=>Q) (λ_ _=>Q) (λ_ _=>Q) (λ_ _ _=>Q) (λ_ _ _ _=>Q) (λt a=>D (t,a)) (λ_ _ _=>Q) (λ_=>Q) (λ_=>Q) (λ_=>Q) (λ_ _ _ _ _=>Q) (λ_ _ _=>Q) (λ_ _ _=>Q) (λ_ _=>Q) (λ_ _=>Q) (λ_ _ _=>Q) (λ_ _=>Q) (λ_ _=>Q) (λ_ _ _=>Q) (λ_ _ _ _ _=>Q) (λ_ _ _=>Q) (λ_ _ _=>Q) (λ_ _ _=>Q) (λ_ _ _=>Q) (λ_ _ _ _=>Q) (λ_ _ _ _=>Q) (λ_ _ _=>Q) (λ_ _ _ _=>Q) (λ_ _=>Q) (λ_ _=>Q) (λ_=>Q) (λ_ _ _ _=>Q) (λ_ _=>Q) (λ_=>Q) (λ_=>Q) (λ_=>Q) (λ_=>Q) (λ_ _=>Q) (λ_ _ _=>Q) (λ_ _=>Q) o
def zT(o:Op):Bool:=@Op.rec (λ_=>Bool) (λ_=>aC) (λ_=>aC) (λ_ _ _=>aC) (λ_=>f) (λ_ _=>f) (λ_ _=>aC) (λ_ _ _=>f) (λ_ _ _ _=>aC) (λ_ _=>aC) (λ_ _ _=>aC) (λ_=>aC) (λ_=>aC) (λ_=>aC) (λ_ _ _ _ _=>aC) (λ_ _ _=>aC) (λ_ _ _=>aC) (λ_ _=>aC) (λ_ _=>aC) (λ_ _ _=>aC) (λ_ _=>f) (λ_ _=>aC) (λ_ _ _=>f) (λ_ _ _ _ _=>aC) (λ_ _ _=>aC) (λ_ _ _=>aC) (λ_ _ _=>aC) (λ_ _ _=>aC) (λ_ _ _ _=>aC) (λ_ _ _ _=>aC) (λ_ _ _=>aC) (λ_ _ _ _=>aC) (λ_ _=>aC) (λ_ _=>aC) (λ_=>aC) (λ_ _ _ _=>aC) (λ_ _=>aC) (λ_=>aC) (λ_=>aC) (λ_=>aC) (λ_=>aC) (λ_ _=>aC) (λ_ _ _=>aC) (λ_ _=>aC) o
def zU(P:aU)(o:Op)(s:St):Cl:=
 (aL (Gz o) λp=>aL (qC<|ev s p.2) λa=>aL (Za P p.1) λl=>D<|Cl.mk 4 a.block a.off (l.getD 1) hh0 hh0).getD (cl 1)
def su(P:aU)(o:Op)(s:St)(H:R):Cl:=
 @aM (bT×bT) (λ_=>Cl) (bV (aD s.H.next H.low) (bV (zT o) (cl 5)<|zU P o s) ⟨2,0,0,0,s.H,H⟩)
  (λp=>@aM Addr (λ_=>Cl) ⟨2,0,0,0,s.H,H⟩ (λa=>⟨3,a.block,a.off,len<|bK<|ev s p.2,hh0,hh0⟩)<|qC<|ev s p.1) (Bq o)
def H_(P:aU)(o:Oper)(s:St)(r:R3):aB (St×Cl):=
 @R3.rec (λ_=>aB<|St×Cl) Q (λv=>D (jk s o.dst v s.H,cl 0))
  (λv H=>D (jk s o.dst v ⟨H.v_,H.next,nY s.H.low H.low⟩,su P o.op s H)) r
def kZ(P:aU)(cf:kT)(ops:Array Oper)(o:Oper)(s:St):aB (St×Cl):=
 aL (qK ops s o.guard) λb=>bV b (H_ P o s<|yL o.op P cf<|g_ s)<|D (jk s o.dst undef s.H,cl 0)
def jh(P:aU)(cf:kT)(ops:Array Oper)(l:C Oper):St->C Cl->aB (St×C Cl):=
 @cz Oper (λ_=>St->C Cl->aB (St×C Cl)) (λs acc=>D (s,acc)) (λo _ ih s acc=>aL (kZ P cf ops o s) λq=>ih q.1<|q.2::acc) l
def zl(acc:C Nat)(n:Nat)(l:C Edge):Nat:=
 @cz Edge (λ_=>Nat) 0 (λe _ r=>bV (fQ .any e) (Nat.lor (Nat.lor (Nat.shiftLeft 1 e.on)<|(nth acc<|dJ (dJ n 1) e.on).getD 0) r) r) l
def tT(l:C Oper):C Nat->Nat->C Nat:=
 @cz Oper (λ_=>C Nat->Nat->C Nat) (λacc _=>acc) (λo _ ih acc n=>ih (zl acc n o.after.toList::acc)<|bW n) l
def xm(l:C Oper):Nat->Bool:=
 @cz Oper (λ_=>Nat->Bool) (λ_=>f) (λo _ ih n=>bV (all' (λe=>!(fQ .any e)||aD (bW e.on) n) o.after.toList) (ih<|bW n) aC) l
def ji{α:Type}(ay:α->α->Bool->Bool)(x:α)(m:Nat)(l:C α):Bool:=@cz α (λ_=>Bool) f (λhr r ih=>bV (ay x hr<|gZ m<|len r) ih aC) l
def pairs{α:Type}(ay:α->α->Bool->Bool)(ms:C Nat):C α->Bool:=
 @cz Nat (λ_=>C α->Bool) (λ_=>f) (λm _ ih xs=>@cz α (λ_=>Bool) f
  (λx r _=>bV (ji ay x m r) (ih r) aC) xs) ms
def o9(ops:Array Oper):Bool:=xm ops.toList 0&&pairs (λhr x b=>b||x.apart ops hr) (tT ops.toList [] 0) (ops.toList.reverse)
def yB(x hr:Cl):Bool:=!(aA x.r hr.r)||aD (aZ x.off x.n) hr.off||aD (aZ hr.off hr.n) x.off
def mY(w l:Cl):Bool:=sameAt w.a w.b l.r l.off l.n
def fH(hr x:Cl)(b:Bool):Bool:=
 bV (aA hr.k 0||aA x.k 0||aA hr.k 5||aA x.k 5) f
  (bV (aA x.k 3) (bV (aA hr.k 3) (b||yB x hr)<|aA hr.k 4&&(b||yB x hr))
   (bV (aA hr.k 3) (b||(aA x.k 4&&yB x hr))
    (bV (aA x.k 4) (bV (aA hr.k 2) (b||mY hr x) f)
     (bV (aA hr.k 4) (bV (aA x.k 2) (b||mY x hr) f)
      (bV (aA x.k 1&&aA hr.k 1) f b)))))
def noTwo(l:C Cl):Bool:=all' (λx=>!(aA x.k 2||aA x.k 3)) l
def jT(ops:Array Oper)(cls:C Cl):Bool:=bV (noTwo cls) f<|pairs fH (tT ops.toList [] 0) cls
def agS(o:Op):Bool:=@Op.rec (λ_=>Bool) (λ_=>f) (λ_=>f) (λ_ _ _=>f) (λ_=>f) (λ_ _=>f) (λ_ _=>f) (λ_ _ _=>f) (λ_ _ _ _=>f) (λ_ _=>f) (λ_ _ _=>f) (λ_=>f) (λ_=>f) (λ_=>f) (λ_ _ _ _ _=>f) (λ_ _ _=>f) (λ_ _ _=>f) (λ_ _=>f) (λ_ _=>f) (λ_ _ _=>f) (λ_ _=>f) (λ_ _=>f) (λ_ _ _=>f) (λ_ _ _ _ _=>f) (λ_ _ _=>f) (λ_ _ _=>f) (λ_ _ _=>f) (λ_ _ _=>f) (λ_ _ _ _=>f) (λ_ _ _ _=>f) (λ_ _ _=>f) (λ_ _ _ _=>f) (λ_ _=>f) (λ_ _=>f) (λ_=>f) (λ_ _ _ _=>f) (λ_ _=>f) (λ_=>f) (λ_=>f) (λ_=>f) (λ_=>f) (λ_ _=>f) (λ_ _ _=>f) (λ_ _=>aC) o
def kD(ops:Array Oper):Bool:=all' (λo=>eZ (qZ o.op)&&agS o.op) ops.toList
inductive Out where
 |fail
 |norm(s:St)
 |exit(id:Nat)(s:St)
 |goto(l:Nat)(s:St)
 |ret(s:St)
def andThen(o:Out)(k:St->Out):Out:=
 @Out.rec (λ_=>(St->Out)->Out) (λ_=>.fail) (λs k=>k s) (λid s _=>.exit id s) (λl s _=>.goto l s) (λs _=>.ret s) o k
def Ia(c:aB Bool)(x hr:Out):Out:=@aM Bool (λ_=>Out) .fail (λb=>bV b x hr) c
def xq(id:Nat)(o:Out):Out:=
 @Out.rec (λ_=>Nat->Out) (λ_=>.fail) (λs _=>.norm s) (λi s id=>bV (aA i id) (.norm s)<|.exit i s) (λl s _=>.goto l s) (λs _=>.ret s) o id
def xY(n:Nat)(ay:St->Out):St->Out:=@jA (λ_=>St->Out) (λ_=>.fail) (λ_ ih s=>andThen (ay s) ih) n
def aiI(o:Out)(k:Nat->St->Out):Out:=
 @Out.rec (λ_=>(Nat->St->Out)->Out) (λ_=>.fail) (λs _=>.norm s) (λi s _=>.exit i s) (λl s k=>k l s) (λs _=>.ret s) o k
def nR(cx:Code->St->Out)(n:Nat)(body:Code):Out->Out:=
 @jA (λ_=>Out->Out) (λ_=>.fail) (λ_ ih o=>aiI o λl s=>@aM Code (λ_=>Out) (.goto l s) (λrest=>ih<|cx rest s)<|findLabel body l) n
def Ib(o:aB St):Out:=@aM St (λ_=>Out) .fail .norm o
def clear(s:St):St:=⟨s.nl,s.nt,[],s.tm,s.df,s.H⟩
def vN(ops:Array Oper)(o:aB<|St×C Cl):Out:=
 @aM (St×C Cl) (λ_=>Out) .fail (λq=>bV (jT ops q.2) (.norm q.1) .fail) o
def region(P:aU)(cf:kT)(ops:Array Oper)(draw:Bool)(s:St):Out:=
 bV draw (bV (kD ops&&o9 ops) (vN ops<|jh P cf ops ops.toList (clear s) []) .fail) (Ib<|mQ P cf ops ops.toList<|clear s)
def exec(P:aU)(cf:kT)(cx:Code->St->Out)(n:Nat)(c:Code):St->Out:=
 @Code.rec (λ_=>St->Out)
  (λs=>.norm s)
  (λ_ ops draw s=>region P cf ops draw s)
  (λ_ _ ia ib s=>andThen (ia s) ib)
  (λc _ _ ix iy s=>Ia (jQ<|ev s c) (ix s)<|iy s)
  (λid _ ih s=>xq id<|ih s)
  (λ_ ih s=>xY n ih s)
  (λ_ _ _ _ _ _=>λ_=>.fail)
  (λid s=>.exit id s)
  (λc ih s=>nR cx n c<|ih s)
  (λ_ s=>.norm s)
  (λl s=>.goto l s)
  (λs=>.ret s)
  (λ_=>λ_=>.fail) c
def Dy(P:aU)(s:St)(r:ResultVar):aB Z:=
 @ResultVar.rec (λ_=>aB Z) (λt=>D<|iA s t) (λa t=>aL (wu P t (iA s a) s.H) λp=>D p.1) r
def lD(P:aU)(s:St)(l:C ResultVar):aB (C Z):=
 @cz ResultVar (λ_=>aB<|C Z) (D []) (λr _ q=>aL (Dy P s r) λv=>aL q λvs=>D<|v::vs) l
def sN(vs:C Z):Z:=bV (aA (len vs) 1) ((nth vs 0).getD undef)<|.tuple ⟨vs⟩
def Oc(o:Out):aB St:=@Out.rec (λ_=>aB St) Q (λs=>D s) (λ_ _=>Q) (λ_ _=>Q) (λs=>D s) o
def Ic(P:aU)(fn:Func)(s:St):aB (Z×R):=
 gd (aA (len s.df) 0) (aL (lD P s fn.results.toList) λvs=>D (sN vs,s.H))
def Zy(m t:Nat):Nat:=Nat.lor m<|Nat.shiftLeft 1 t
def agT(x:bT):aB Nat:=@Operand.rec (λ_=>aB Nat) D (λ_=>Q) (λ_=>Q) (λ_=>Q) x
def agU(l:C bT)(p:Nat×Nat):Nat:=
 @cz bT (λ_=>Nat) p.1 (λx _ r=>@aM Nat (λ_=>Nat) r (λt=>bV (gZ p.2 t) r<|Zy r t)<|agT x) l
def Zz(l:C Oper):Nat×Nat->Nat×Nat:=
 @cz Oper (λ_=>Nat×Nat->Nat×Nat) (λp=>p)
  (λo _ ih p=>ih (agU o.op.operands.toList p,@aM Nat (λ_=>Nat) p.2 (Zy p.2) o.dst)) l
def Xb(c:Code):Nat:=@Code.rec (λ_=>Nat) (0)
 (λ_ ops _=>(Zz ops.toList (0,0)).1)
 (λ_ _ a b=>Nat.lor a b)
 (λ_ _ _ a b=>Nat.lor a b)
 (λ_ _ a=>a)
 (λ_ a=>a)
 (λ_ _ _ _ _ _=>0)
 (λ_=>0)
 (λ_ a=>a)
 (λ_=>0)
 (λ_=>0)
 (0)
 (λ_=>0) c
def ZA(l:C ResultVar):Nat:=@cz ResultVar (λ_=>Nat) 0 (λr _ n=>Zy n<|@ResultVar.rec (λ_=>Nat) (λt=>t) (λa _=>a) r) l
def jv(P:aU)(g:FuncId):Nat:=@aM Func (λ_=>Nat) 0 (λfn=>Nat.lor (ZA fn.results.toList)<|@aM Code (λ_=>Nat) 0 Xb fn.body)<|nth P.funcs.toList g
structure Lv where
 ca:kT
 cx:Code->St->Out
def Xc(P:aU)(L:Lv)(n:Nat)(g x:Nat)(fn:Func)(args:C Z)(H:R):aB (Z×R):=
 @aM Code (λ_=>aB<|Z×R) (Xa P x fn.resultTypes.toList args H)
  (λc=>gd (aD (len args) fn.ntmps)<|aL (Oc<|exec P L.ca L.cx n c ⟨jv P g,fn.ntmps,[],Tr.tu top args 0 .nil,[],H⟩) λs=>Ic P fn s) fn.body
structure Xt where
 c:FuncId->Nat
 o:FuncId->C Z->R->aB (Z×R)
instance:CoeFun Xt (λ_=>FuncId->Nat):=⟨Xt.c⟩
def orO(o d:aB<|Z×R):aB (Z×R):=@aM (Z×R) (λ_=>aB<|Z×R) d D o
def Br(P:aU)(X:Xt)(L:Lv)(n:Nat)(g:FuncId)(args:C Z)(H:R):aB (Z×R):=
 orO (X.o g args H) (aL (nth P.funcs.toList g) λfn=>Xc P L n g (X g) fn args H)
def lv(P:aU)(X:Xt)(n:Nat):Lv:=
 @jA (λ_=>Lv) ⟨λ_ _ _=>Q,λ_ _=>.fail⟩ (λm L=>⟨Br P X L m,exec P L.ca L.cx m⟩) n
def kE(P:aU)(X:Xt)(n:Nat):kT:=(lv P X n).ca
structure Loc where
 c:Nat
 lo:Nat
 base:Nat
 tot:Nat
 n:Nat
abbrev Mp:=Nat->aB Loc
variable{m m':Mp}
def Mp.le(m m':Mp):Prop:=∀r l,m r=D l->m' r=D l
mutual
inductive VR(m:Mp):Z->Z->Prop where
 |sc (v:Z) (h:nE v=f):VR m v v
 |top (v:Z):VR m top v
 |ptr (r off:Nat) (l:Loc) (h:m r=D l) (hl:l.lo<=off):VR m (.pointer<|D ⟨r,off,Q⟩) (.pointer<|D ⟨l.c,l.base+(off-l.lo),Q⟩)
 |slice (r off n cp:Nat) (l:Loc) (h:m r=D l) (hl:l.lo<=off) (hk:gH cp=f) (hn:n<=cp):
  VR m (.slice (D ⟨r,off,Q⟩) n cp) (.slice (D ⟨l.c,l.base+(off-l.lo),Q⟩) n cp)
 |sO (r off n es cc:Nat) (l:Loc) (h:m r=D l) (hl:l.lo<=off) (he:0<es) (ht:l.base+(off-l.lo)+cc*es=l.tot) (hc:n<=cc) (hN:l.n<=off+cc*es):
  VR m (.slice (D ⟨r,off,Q⟩) n<|fJ es) (.slice (D ⟨l.c,l.base+(off-l.lo),Q⟩) n cc)
 |wz (a a':Addr):VR m (.slice (D a) 0 0) (.slice (D a') 0 0)
 |um (r off es:Nat) (a':Addr) (l:Loc) (h:m r=D l) (hl:l.lo<=off) (he:0<es) (hN:l.n<=off):VR m (.slice (D ⟨r,off,Q⟩) 0<|fJ es) (.slice (D a') 0 0)
 |map (r:Nat) (l:Loc) (h:m r=D l):VR m (.map<|D r) (.map<|D l.c)
 |func (ay:Fn) (x hr x' y':C Z) (E:k_ m x x') (hy:k_ m hr y'):VR m (.func ay ⟨x⟩ ⟨hr⟩) (.func ay ⟨x'⟩ ⟨y'⟩)
 |iface (t:aH) (v v':Z) (h:VR m v v'):VR m (.iface t v) (.iface t v')
 |agg (x x':C Z) (h:k_ m x x'):VR m (.agg ⟨x⟩) (.agg ⟨x'⟩)
 |tuple (x x':C Z) (h:k_ m x x'):VR m (.tuple ⟨x⟩) (.tuple ⟨x'⟩)
inductive k_(m:Mp):C Z->C Z->Prop where
 |nil:k_ m [] []
 |cons (v v':Z) (x x':C Z) (h:VR m v v') (E:k_ m x x'):k_ m (v::x) (v'::x')
end
mutual
theorem VR.mono(hm:Mp.le m m'):∀{v v':Z},VR m v v'->VR m' v v'
 |_,_,.sc v h=>.sc v h
 |_,_,.top v=>.top v
 |_,_,.ptr r off l h hl=>.ptr r off l (hm r l h) hl
 |_,_,.slice r off n cp l h hl hk hn=>.slice r off n cp l (hm r l h) hl hk hn
 |_,_,.sO r off n es cc l h hl he ht hc hN=>.sO r off n es cc l (hm r l h) hl he ht hc hN
 |_,_,.wz a a'=>.wz a a'
 |_,_,.um r off es a' l h hl he hN=>.um r off es a' l (hm r l h) hl he hN
 |_,_,.map r l h=>.map r l<|hm r l h
 |_,_,.func ay x hr x' y' E hy=>.func ay x hr x' y' (k_.mono hm E)<|k_.mono hm hy
 |_,_,.iface t v v' h=>.iface t v v'<|VR.mono hm h
 |_,_,.agg x x' h=>.agg x x'<|k_.mono hm h
 |_,_,.tuple x x' h=>.tuple x x'<|k_.mono hm h
theorem k_.mono(hm:Mp.le m m'):∀{v v':C Z},k_ m v v'->k_ m' v v'
 |_,_,.nil=>.nil
 |_,_,.cons v v' x x' h E=>.cons v v' x x' (VR.mono hm h)<|k_.mono hm E
end
def k_.length{x x':C Z}(h:k_ m x x'):x.length=x'.length:=by
 induction x generalizing x' with
 |nil=>cases h;rfl
 |cons v x ih=>cases h with|cons _ v' _ x' h E=>simp[ih E]
def k_.get{x x':C Z}(h:k_ m x x')(k:Nat)(hv:x[k]?=D v):∃v',x'[k]?=D v'/\VR m v v':=by
 induction x generalizing x' k with
 |nil=>simp at hv
 |cons w x ih=>
  cases h with
  |cons _ w' _ x' h E=>
   cases k with
   |zero=>simp at hv;subst hv;exact⟨w',by simp,h⟩
   |succ k=>simpa using ih E k (by simpa using hv)
def k_.append{x x' hr y':C Z}(h:k_ m x x')(hy:k_ m hr y'):k_ m (x++hr) (x'++y'):=by
 induction x generalizing x' with
 |nil=>cases h;exact hy
 |cons w x ih=>cases h with|cons _ w' _ x' h E=>exact .cons _ _ _ _ h<|ih E
def k_.take{x x':C Z}(h:k_ m x x')(k:Nat):k_ m (x.take k) (x'.take k):=by
 induction x generalizing x' k with
 |nil=>cases h;simp;exact .nil
 |cons w x ih=>cases h with
  |cons _ w' _ x' h E=>cases k with
   |zero=>simp;exact .nil
   |succ k=>simp;exact .cons _ _ _ _ h<|ih E k
def k_.drop{x x':C Z}(h:k_ m x x')(k:Nat):k_ m (x.drop k) (x'.drop k):=by
 induction x generalizing x' k with
 |nil=>cases h;simp;exact .nil
 |cons w x ih=>cases h with
  |cons _ w' _ x' h E=>cases k with
   |zero=>simp;exact .cons _ _ _ _ h E
   |succ k=>simp;exact ih E k
def k_.set{x x':C Z}(h:k_ m x x')(k:Nat)(hv:VR m v v'):k_ m (x.set k v) (x'.set k v'):=by
 induction x generalizing x' k with
 |nil=>cases h;simp;exact .nil
 |cons w x ih=>cases h with
  |cons _ w' _ x' h E=>cases k with
   |zero=>simp;exact .cons _ _ _ _ hv E
   |succ k=>simp;exact .cons _ _ _ _ h<|ih E k
def k_.nE:∀{x:C Z},x.all nE=f->k_ m x x
 |[],_=>.nil
 |v::x,h=>by simp at h;exact .cons _ _ _ _ (.sc v h.1)<|k_.nE (by simpa using h.2)
def pN(h:qC v=D a):v=.pointer (D a):=by
 cases v<;>simp[qC]at h<;>simp[h]
def o_(h:jQ v=D b):v=.bool b:=by
 cases v<;>simp[jQ]at h<;>simp[h]
def qp{p:fB×Int}(h:tL v=D p):v=.int p.1 p.2:=by
 cases v<;>simp[tL]at h<;>simp[<-h]
def Od{n:Int}(h:JU n=D k):n=k:=by
 cases n<;>simp[JU]at h;simp[h]
def Dz(h:zK v=D n):∃k,v=.int k n:=by
 cases v<;>simp[zK]at h
 case int k m=>exact⟨k,by rw[Od h]⟩
def pO{b:aV}(h:uj v=D b):v=.string b:=by
 cases v<;>simp[uj]at h<;>simp[h]
def xu{p:aB Addr×Nat×Nat}(h:I7 v=D p):v=.slice p.1 p.2.1 p.2.2:=by
 cases v<;>simp[I7]at h<;>simp[<-h]
def DC{p:aB Nat}(h:L6 v=D p):v=.map p:=by
 cases v<;>simp[L6]at h<;>simp[h]
def Oe{p:Fn×C Z×C Z}(h:Zp v=D p):v=.func p.1 ⟨p.2.1⟩ ⟨p.2.2⟩:=by
 cases v<;>simp[Zp]at h<;>simp[<-h]
def uq{p:C Z}(h:wP v=D p):v=.agg ⟨p⟩:=by
 cases v<;>simp[wP]at h<;>simp[<-h]
def adL{p:C Z}(h:Zq v=D p):v=.tuple ⟨p⟩:=by
 cases v<;>simp[Zq]at h<;>simp[<-h]
def Xd{p:aH×Z}(h:Er v=D p):v=.iface p.1 p.2:=by
 cases v<;>simp[Er]at h<;>simp[<-h]
def Og{ay:Fn}{g:FuncId}(h:fFn ay=D g):ay=.func g:=by
 cases ay<;>simp[fFn]at h<;>simp[h]
section inv
def VR.of_bool(h:VR m (.bool b) v):v=.bool b:=by cases h;rfl
def VR.of_int{k:fB}{n:Int}(h:VR m (.int k n) v):v=.int k n:=by cases h;rfl
def VR.wB{b:aV}(h:VR m (.string b) v):v=.string b:=by cases h;rfl
def VR.xw{x:C Z}(h:VR m (.agg ⟨x⟩) v):∃x',v=.agg ⟨x'⟩/\k_ m x x':=by
 cases h with
 |sc _ h=>simp[Ae.nE]at h
 |agg _ x' h=>exact⟨x',O,h⟩
def VR.Oh{x:C Z}(h:VR m (.tuple ⟨x⟩) v):∃x',v=.tuple ⟨x'⟩/\k_ m x x':=by
 cases h with
 |sc _ h=>simp[Ae.nE]at h
 |tuple _ x' h=>exact⟨x',O,h⟩
def VR.PX(h:VR m (.iface t x) v):∃x',v=.iface t x'/\VR m x x':=by
 cases h with
 |sc _ h=>simp[Ae.nE]at h
 |iface _ _ x' h=>exact⟨x',O,h⟩
def VR.ZB{ay:Fn}{x hr:C Z}(h:VR m (.func ay ⟨x⟩ ⟨hr⟩) v):∃x' y',v=.func ay ⟨x'⟩ ⟨y'⟩/\k_ m x x'/\k_ m hr y':=by
 cases h with
 |sc _ h=>simp[Ae.nE]at h
 |func _ _ _ x' y' E hy=>exact⟨x',y',O,E,hy⟩
def VR.tV(h:VR m (.pointer<|D a) v):∃l,m a.block=D l/\l.lo<=a.off/\a.spot=Q/\v=.pointer (D ⟨l.c,l.base+(a.off-l.lo),Q⟩):=by
 cases h with
 |sc _ h=>simp[Ae.nE,eZ]at h
 |ptr r off l h hl=>exact⟨l,h,hl,O,O⟩
def VR.of_map{r:Nat}(h:VR m (.map<|D r) v):∃l,m r=D l/\v=.map (D l.c):=by
 cases h with
 |sc _ h=>simp[Ae.nE,eZ]at h
 |map r l h=>exact⟨l,h,O⟩
def VR.wC(h:VR m v v')(hs:nE v=f):v'=v:=by
 cases h<;>first|rfl|(simp[Ae.nE,eZ,Ae.top]at hs)
def k_.wC{x x':C Z}(h:k_ m x x')(hs:x.all Ae.nE=f):x'=x:=by
 induction x generalizing x' with
 |nil=>cases h;rfl
 |cons w x ih=>cases h with
  |cons _ w' _ x' h E=>simp at hs;rw[VR.wC h hs.1,ih E<|by simpa using hs.2]
theorem VR.fC{v v':Z}(h:VR m v v')(hs:fC v=f):v'.cells=#[v']/\(∀x,v'≠.agg x)/\(∀x,v'≠.tuple x):=by
 cases h<;>first
  |(rename_i hv;cases v<;>simp[Ae.fC,Value.cells]at hs|-)
  |(simp[Value.cells];done)
  |(simp[Ae.fC,Ae.top]at hs;done)
end inv
def agV(h:dSl d=D e):d=.slice e:=by cases d<;>simp[dSl]at h;rw[h]
def Jt(h:Fu d=D e):d=.pointer e:=by cases d<;>simp[Fu]at h;rw[h]
def Oi{e:Nat×aH}(h:PR d=D e):d=.array e.1 e.2:=by cases d<;>simp[PR]at h;rw[<-h]
def adM{e:aH×aH}(h:agR d=D e):d=.map e.1 e.2:=by cases d<;>simp[agR]at h;rw[<-h]
def SC{e:C Field}(h:N9 d=D e):d=.struct ⟨e⟩:=by cases d<;>simp[N9]at h;rw[<-h]
def Fy(h:Ck d=f):d=.string:=by cases d<;>simp[Ck]at h;rfl
def U9{k:fB}(h:L8 d=D k):d=.int k:=by cases d<;>simp[L8]at h;rw[h]
def Xe{k:FloatKind}(h:Gq d=D k):d=.float k:=by cases d<;>simp[Gq]at h;rw[h]
def adN{k:fB}(h:I8 k=f):k=.u8:=by cases k<;>simp[I8]at h;rfl
theorem Av{k k':fB}(h:aA (qJ k) (qJ k')=f):k=k':=by cases k<;>cases k'<;>first|rfl|cases h
def q8{P:aU}{s:Nat}(h:wo P t=D s):∃i,P.info? t=D i/\i.size=s:=by
 obtain⟨i,hi,h⟩:=aJ h;cases h;exact⟨i,hi,O⟩
def Bt{P:aU}{q:aH×Nat}(h:PS P t=D q):P.underlying t=D (.slice q.1)/\(∃i,P.info? q.1=D i/\i.size=q.2)/\1<=q.2:=by
 obtain⟨d,hd,h⟩:=aJ h;obtain⟨e,he,h⟩:=aJ h;obtain⟨s,hs,h⟩:=aJ h;obtain⟨W,h⟩:=fI h;cases h;exact⟨by rw[hd,agV he],q8 hs,aF W⟩
def Ju{P:aU}{q:Nat×aH×Nat}(h:PT P t=D q):P.underlying t=D (.array q.1 q.2.1)/\(∃i,P.info? q.2.1=D i/\i.size=q.2.2)/\1<=q.2.2:=by
 obtain⟨d,hd,h⟩:=aJ h;obtain⟨e,he,h⟩:=aJ h;obtain⟨s,hs,h⟩:=aJ h;obtain⟨W,h⟩:=fI h;cases h;exact⟨by rw[hd,Oi he],q8 hs,aF W⟩
def Jv{P:aU}{q:aH×aH}(h:uT P t=D q):P.underlying t=D (.map q.1 q.2):=by
 obtain⟨d,hd,h⟩:=aJ h;rw[hd,adM h]
def MR{P:aU}(h:Gs P t=f):P.underlying t=D .string:=by
 unfold Gs at h;cases hd:P.underlying t with
 |none=>rw[hd]at h;cases h
 |some d=>rw[hd]at h;rw[Fy h]
def PY{P:aU}(h:HZ P t=f):P.underlying t=D (.int .u8):=by
 unfold HZ at h;cases hd:P.underlying t with
 |none=>rw[hd]at h;cases h
 |some d=>
  rw[hd]at h;cases hk:L8 d with
  |none=>simp[hk]at h
  |some k=>simp[hk]at h;rw[U9 hk,adN h]
def SE{P:aU}(h:Za P t=D l):
 ∃d i,P.underlying t=D d/\P.info? t=D i/\((Su d=f/\l=D i.size)\/(Su d=aC/\l=Q)):=by
 obtain⟨d,hd,h⟩:=aJ h;obtain⟨s,hs,h⟩:=aJ h;obtain⟨i,hi,rfl⟩:=q8 hs;refine⟨d,i,hd,hi,?_⟩;cases ha:Su d<;>simp[ha,bV]at h<;>simp[<-h]
def Ey{P:aU}(h:Jp P t=D fs):P.underlying t=D (.struct ⟨fs⟩):=by
 obtain⟨d,hd,h⟩:=aJ h;rw[hd,SC h]
def MS{P:aU}{q:Nat×aB Nat}(h:Sv P t ay=D q):
 ∃fs fd i,P.underlying t=D (.struct ⟨fs⟩)/\fs[ay]?=D fd/\fd.offset=q.1/\Za P fd.type=D q.2/\P.info? fd.type=D i/\1<=i.size:=by
 obtain⟨fs,hfs,h⟩:=aJ h;obtain⟨fd,hfd,h⟩:=aJ h;obtain⟨l,hl,h⟩:=aJ h;obtain⟨s,hs,h⟩:=aJ h;obtain⟨W,h⟩:=fI h;cases h;obtain⟨i,hi,rfl⟩:=q8 hs;exact⟨fs,fd,i,Ey hfs,by rw[<-oL];exact hfd,O,hl,hi,aF W⟩
def Oj(h:Gt z=f):(bK z).all nE=f:=by
 unfold Gt at h;unfold bK;cases ha:wP z with
 |none=>rw[ha]at h;simpa using h
 |some l=>rw[ha]at h;simpa [all_eq]using h
def Xf(h:Gt z=f):VR m z z:=by
 unfold Gt at h;cases ha:wP z with
 |none=>rw[ha]at h;exact .sc z h
 |some l=>
  rw[ha]at h;rw[uq ha];exact .agg _ _<|k_.nE (by simpa [all_eq]using h)
def PZ{P:aU}(h:xW P t=D z):(∃i,P.info? t=D i/\i.zero=D z)/\Gt z=f:=by
 obtain⟨i,hi,h⟩:=aJ h;obtain⟨z',hz,h⟩:=aJ h;obtain⟨W,h⟩:=fI h;cases h;exact⟨⟨i,hi,hz⟩,W⟩
def DD(v:Z):bK v=v.cells.toList:=by
 cases v<;>simp[bK,wP,Value.cells]
def yU{P:aU}(h:Af P t=D zs):
 ∃i z,P.info? t=D i/\i.zero=D z/\zs=z.cells.toList/\zs.length=i.size/\zs.all nE=f:=by
 obtain⟨z,hz,h⟩:=aJ h;obtain⟨s,hs,h⟩:=aJ h;obtain⟨W,h⟩:=fI h;cases h;obtain⟨i,hi,rfl⟩:=q8 hs;obtain⟨⟨i',hi',hz'⟩,hok⟩:=PZ hz;rw[hi]at hi';cases hi';simp only[fU]at W;exact⟨i,z,hi,hz',DD z,aW W,Oj hok⟩
section run
variable{P:aU}
def fq(h:P.underlying t=D d):(underlying t).run P w=.ok d w:=by simp[underlying,h]
def zm(h:P.info? t=D i):(typeInfo t).run P w=.ok i w:=by simp[typeInfo,h]
def jU(h:P.info? t=D i):(sizeOf t).run P w=.ok i.size w:=by simp[sizeOf,zm h]
def zo(h:P.info? t=D i)(hz:i.zero=D z):(zeroValue t).run P w=.ok z w:=by simp[zeroValue,zm h,hz]
def xx(h:P.underlying t=D d):(isAgg t).run P w=.ok (Su d) w:=by
 simp only[isAgg,dw,fq h,bR];cases d<;>rfl
end run
section ops
variable{P:aU}
def U'{cs':C Z}{off:Nat}(h:apart l M off=D v)(hl:Za P t=D l)(hc:k_ m M cs'):
 ∃v',VR m v v'/\∀w,(part t ⟨cs'⟩ off).run P w=.ok v' w:=by
 obtain⟨d,i,hd,hi,hk⟩:=SE hl;rcases hk with⟨ha,rfl⟩|⟨ha,rfl⟩
 .obtain⟨W,h⟩:=fI h;cases h;refine⟨.agg ⟨(cs'.drop off).take i.size⟩,?_,λw=>?_⟩
  .rw[HY,ML];exact .agg _ _<|(hc.drop off).take _
  .simp only[part,dw,xx hd,ha,bR,kK,jU hi,dI];simp[HY,ML,List.take_drop]
 .simp only[apart,oL]at h;obtain⟨v',hv',y⟩:=hc.get off h;refine⟨v',y,λw=>?_⟩;simp[part,xx hd,ha,hv']
def DF{es:Nat}(h:gH n=f):n≠fJ es:=by
 intro e;rw[e]at h;have:=aF h;unfold fJ at this;simp at this;omega
def VR.of_slice(h:VR m (.slice (D a) n cp) v):
 (∃l cc,m a.block=D l/\l.lo<=a.off/\a.spot=Q/\v=.slice (D ⟨l.c,l.base+(a.off-l.lo),Q⟩) n cc/\
  ((gH cp=f/\cc=cp/\n<=cp)\/(∃es,cp=fJ es/\0<es/\l.base+(a.off-l.lo)+cc*es=l.tot/\n<=cc/\l.n<=a.off+cc*es)))\/
 (∃a',n=0/\(cp=0\/∃es l,cp=fJ es/\m a.block=D l/\l.lo<=a.off/\0<es/\l.n<=a.off/\a.spot=Q)/\v=.slice (D a') 0 0):=by
 cases h with
 |sc _ h=>simp[Ae.nE,eZ]at h
 |slice r off n cp l h hl hk hn=>exact .inl ⟨l,cp,h,hl,O,O,.inl ⟨hk,O,hn⟩⟩
 |sO r off n es cc l h hl he ht hc hN=>exact .inl ⟨l,cc,h,hl,O,O,.inr ⟨es,O,he,ht,hc,hN⟩⟩
 |wz a a'=>exact .inr ⟨a',O,.inl O,O⟩
 |um r off es a' l h hl he hN=>exact .inr ⟨a',O,.inr ⟨es,l,O,h,hl,he,hN,O⟩,O⟩
def VR.uW(h:VR m (.slice Q n cp) v):n=0/\cp=0/\v=.slice Q 0 0:=by
 cases h with
 |sc _ h=>
  simp[Ae.nE,eZ]at h;obtain⟨W,J⟩:=h;exact⟨W,J,by rw[W,J]⟩
def Ol(m:Mp)(r off k:Nat)(l:Loc)(h:m r=D l)(hl:l.lo<=off):
 VR m (.pointer<|D ⟨r,off+k,Q⟩) (.pointer<|D<|(⟨l.c,l.base+(off-l.lo),Q⟩:Addr).add k):=by
 have he:(⟨l.c,l.base+(off-l.lo),Q⟩:Addr).add k=⟨l.c,l.base+(off+k-l.lo),Q⟩:=by
  unfold Addr.add;split
  .next h0=>rw[h0,dH]
  .congr 1;show l.base+(off-l.lo)+k=_;omega
 rw[he];exact .ptr r (off+k) l h N
def Om{i:Z}(h:rQ P t x i=D v)(E:VR m x x')(hi:VR m i i'):
 ∃v',VR m v v'/\∀w,(Instr.indexAt t x' i').run P w=.ok v' w:=by
 replace h:=aJ h;obtain⟨k,hk,h⟩:=h;obtain⟨kk,rfl⟩:=Dz hk;have:=hi.of_int;subst this;cases hs:PS P t with
 |some q=>
  rw[hs]at h;obtain⟨hu,⟨inf,uX,hsz⟩,W⟩:=Bt hs;replace h:=aJ h;obtain⟨p,hp,h⟩:=h;replace h:=aJ h;obtain⟨a,ha,h⟩:=h;replace h:=fI h;obtain⟨hlt,h⟩:=h;cases h;have hlt:=aF hlt;rw[xu hp,ha]at E;rcases E.of_slice with⟨l,cc,hm,hl,hsp,rfl,_⟩|⟨a',h0,_,_⟩
  .refine⟨_,Ol m a.block a.off (k*q.2) l hm hl,λw=>?_⟩;have J:k<p.2.1:=hlt;simp[Instr.indexAt,asIntOf,fq hu,jU uX,hsz,J]
  .omega
 |none=>
  rw[hs]at h;replace h:=aJ h;obtain⟨q,hq,h⟩:=h;obtain⟨hu,⟨inf,uX,hsz⟩,W⟩:=Ju hq;replace h:=aJ h;obtain⟨a,ha,h⟩:=h;replace h:=fI h;obtain⟨hlt,h⟩:=h;cases h;have hlt:=aF hlt;rw[pN ha]at E;obtain⟨l,hm,hl,hsp,rfl⟩:=E.tV;refine⟨_,Ol m a.block a.off (k*q.2.2) l hm hl,λw=>?_⟩;have J:k<q.1:=hlt;simp[Instr.indexAt,jD,asIntOf,fq hu,jU uX,hsz,J]
def ZC{i:Z}(h:CF P t x i=D v)(E:VR m x x')(hi:VR m i i'):
 ∃v',VR m v v'/\∀w,(Instr.index t x' i').run P w=.ok v' w:=by
 replace h:=aJ h;obtain⟨k,hk,h⟩:=h;obtain⟨kk,rfl⟩:=Dz hk;have:=hi.of_int;subst this;cases hs:Gs P t with
 |true=>
  rw[hs]at h;have hu:=MR hs;replace h:=aJ h;obtain⟨s,hp,h⟩:=h;replace h:=aJ h;obtain⟨b,hb,h⟩:=h;cases h;rw[pO hp]at E;have:=E.wB;subst this;rw[oL]at hb;refine⟨.int .u8 b.toNat,.sc _ O,λw=>?_⟩
  have hb':s[k]?=D b:=by
   rw[<-hb];obtain⟨hlt,heq⟩:=bE.1 hb;have hlt':k<s.size:=hlt;rw[getElem?_pos s k hlt'];simp[hb,<-heq];rfl
  simp[Instr.index,asIntOf,fq hu,hb']
 |false=>
  rw[hs]at h;replace h:=aJ h;obtain⟨q,hq,h⟩:=h;replace h:=aJ h;obtain⟨M,hcs,h⟩:=h;replace h:=aJ h;obtain⟨l,hl,h⟩:=h;replace h:=fI h;obtain⟨hlt,h⟩:=h;obtain⟨hu,⟨inf,uX,hsz⟩,W⟩:=Ju hq;have hlt:=aF hlt;rw[uq hcs]at E;obtain⟨cs',rfl,hc⟩:=E.xw;obtain⟨v',hv',y⟩:=U' h hl hc;refine⟨v',hv',λw=>?_⟩;have J:k<q.1:=hlt;have:=y w;simp only[Nat.mul_eq]at this;simp[Instr.index,asIntOf,fq hu,jU uX,hsz,J,this]
def On(h:rR P t x ay=D v)(E:VR m x x'):
 ∃v',VR m v v'/\∀w,(Instr.fieldAt t x' ay).run P w=.ok v' w:=by
 obtain⟨a,ha,h⟩:=aJ h;obtain⟨q,hq,h⟩:=aJ h;cases h;obtain⟨fs,fd,i,hu,hfd,ho,hl,hi,W⟩:=MS hq;rw[pN ha]at E;obtain⟨l,hm,hlo,hsp,rfl⟩:=E.tV;refine⟨_,Ol m a.block a.off q.1 l hm hlo,λw=>?_⟩;have J:i.size≠0:=by omega
 simp[Instr.fieldAt,fq hu,hfd,jD,fieldPlace,jU hi,J,ho]
def ZD(h:CG P t x ay=D v)(E:VR m x x'):
 ∃v',VR m v v'/\∀w,(Instr.field t x' ay).run P w=.ok v' w:=by
 obtain⟨M,ha,h⟩:=aJ h;obtain⟨q,hq,h⟩:=aJ h;obtain⟨fs,fd,i,hu,hfd,ho,hl,hi,W⟩:=MS hq;rw[uq ha]at E;obtain⟨cs',rfl,hc⟩:=E.xw;obtain⟨v',hv',y⟩:=U' h hl hc;refine⟨v',hv',λw=>?_⟩;have:=y w;simp[Instr.field,fq hu,hfd,asAgg,ho,this]
end ops
section ops
variable{P:aU}
def zq{s:Sem Z}(h:j3 s=D v):nE v=f/\∀w,s.run P w=.ok v w:=by
 cases s<;>simp only[j3]at h
 case pure rg=>
  obtain⟨W,h⟩:=fI h;cases h;exact⟨W,λw=>rfl⟩
 all_goals cases h
def Ah(b:Bool)(x hr:β):bV b x hr=if b=f then x else hr:=by cases b<;>rfl
def Xg(n:Int):oC .i64 n=IntKind.i64.wrap n:=by
 cases n with
 |ofNat k=>
  have e:oC .i64 (.ofNat k)=bV (f&&aD k 9223372036854775807) (.ofNat k) (IntKind.i64.wrap<|.ofNat k):=rfl;rw[e,Ah];split
  .next hb=>
   simp only[qT]at hb;have:=aF hb;exact(IntWalk.i64_in _ (by simp;omega)).symm
  .simp only[]
 |negSucc k=>
  have e:oC .i64 (.negSucc k)=bV (f&&aD k 9223372036854775807) (.negSucc k) (IntKind.i64.wrap<|.negSucc k):=rfl;rw[e,Ah];split
  .next hb=>
   simp only[qT]at hb;have:=aF hb;exact(IntWalk.i64_in _ N).symm
  .simp only[]
def J6(k:fB)(n:Int):oC k n=k.wrap n:=by
 cases k
 case i64=>exact Xg n
 all_goals cases n<;>simp[oC,Ea,Ah]
def SF(a b:Int):L9 a b=decide (a<b):=by
 rw[gm];cases a<;>cases b<;>simp[L9,Nat.ble_eq]<;>omega
def J7(a b:Int):Jq a b=(a==b):=by
 rw[gm];cases a<;>cases b<;>simp[Jq,jP]<;>omega
def J8(a b:Bool):Ba a b=(a==b):=by cases a<;>cases b<;>rfl
def Xh:∀(a b:C Nat),JW a b=(a==b):=by
 intro a
 induction a with
 |nil=>intro b;cases b<;>rfl
 |cons x a ih=>
  intro b;cases b with
  |nil=>rfl
  |cons hr b=>
   show bV (aA x hr) (JW a b) aC=_;rw[ih,List.cons_beq_cons,Ah]
   by_cases hxy:x=hr
   .subst hxy;simp
   .have:aA x hr=aC:=by rw[<-b_,jP];exact hxy
    simp[this,hxy]
def adO(a b:C UInt8):(u8L a==u8L b)=(a==b):=by
 rw[gm];simp only[u8L,Fs,lz];constructor
 .intro h;exact(List.map_inj_right λx hr h=>UInt8.toNat_inj.1 h).1 h
 .intro h;rw[h]
def zu(a b:aV):rG a b=(a.toList==b.toList):=by
 unfold rG;rw[Xh,adO,iq,iq]
def ZE(a b:aV):strLt a b=Op.bytesLess a.toList b.toList:=by
 unfold strLt;rw[iq,iq]
def adP{k:fB}{a b:Int}(h:W_ op k a b=D v):nE v=f/\∀w,(binOp op t (.int k a)<|.int k b).run P w=.ok v w:=by
 have ps:∀(o:rA)(s:Sem Z),j3 s=D v->binOp o t (.int k a) (.int k b)=s->nE v=f/\∀w,(binOp o t (.int k a)<|.int k b).run P w=.ok v w:=by
  intro o s W J;rw[J];exact zq W
 cases op<;>simp only[W_]at h
 case quo=>exact ps _ _ h (by simp[binOp])
 case rem=>exact ps _ _ h (by simp[binOp])
 case and=>exact ps _ _ h (by simp[binOp])
 case or=>exact ps _ _ h (by simp[binOp])
 case xor=>exact ps _ _ h (by simp[binOp])
 case andNot=>exact ps _ _ h (by simp[binOp])
 case shl=>cases h
 case shr=>cases h
 all_goals
  cases h;refine⟨O,λw=>?_⟩;simp[binOp,Op.intArith,Op.intCmp,J6,SF,J7]
 case leq=>rw[gm];simp
 case geq=>rw[gm];simp
 all_goals rfl
theorem adQ{a b:aV}(h:adK op a b=D v):nE v=f/\∀w,(binOp op t (.string a)<|.string b).run P w=.ok v w:=by
 cases op<;>simp only[adK]at h
 case add=>
  simp only[Zr]at h;obtain⟨W,h⟩:=fI h;cases h;refine⟨O,λw=>?_⟩;have J:=aF W;simp only[fU]at J
  have h3:¬(((a.size+b.size:Nat):Int)>IntKind.i64.max):=by
   have e1:a.size=a.data.toList.length:=rfl;have e2:b.size=b.data.toList.length:=rfl;have e3:IntKind.i64.max=9223372036854775807:=by decide
   have h4:a.data.toList.length+b.data.toList.length<=4611686018427387904:=J;rw[e1,e2,e3];omega
  have h5:a++b=⟨⟨app a.data.toList b.data.toList⟩⟩:=by
   rw[qB];apply uf;simp[ByteArray.data_append]
  simp only[binOp,Op.stringOp];rw[if_neg h3,h5];rfl
 all_goals first
  |cases h;done
  |(cases h
    refine⟨O,λw=>?_⟩;simp[binOp,Op.stringOp,zu,ZE])
def Xi(h:Sw op t x hr=D v)(E:VR m x x')(hy:VR m hr y'):
 VR m v v/\∀w,(binOp op t x' y').run P w=.ok v w:=by
 obtain⟨W,h⟩:=fI h;simp only[bg]at W
 have hsx:nE x=f:=by
  have:=aF W.1;cases x<;>simp[xg]at this<;>rfl
 have hsy:nE hr=f:=by
  have J:=aW W.2;have:=aF W.1;rw[J]at this;cases hr<;>simp[xg]at this<;>rfl
 rw[E.wC hsx,hy.wC hsy];obtain⟨a,b⟩:=zq (P:=P) h;exact⟨.sc v a,b⟩
def Aw(hd:P.underlying t=D d)(h:w_ (uk d) x hr=D b)(E:VR m x x')(hy:VR m hr y'):
 x'=x/\y'=hr/\∀n w,(Op.equalIn (n+1) t x' y').run P w=.ok b w:=by
 cases d<;>simp only[uk]at h
 case int k=>
  have h:(aL (tL x) λa=>aL (tL hr) λb=>gd (aA (qJ a.1)<|qJ b.1)<|D<|Jq a.2 b.2)=D b:=h;obtain⟨p,hp,h⟩:=aJ h;obtain⟨q,hq,h⟩:=aJ h;obtain⟨hk,h⟩:=fI h;cases h;have e1:=qp hp;have e2:=qp hq;have hk:=Av hk;rw[e1]at E;rw[e2]at hy;have E:=E.of_int;have hy:=hy.of_int;refine⟨by rw[E,e1],by rw[hy,e2],λn w=>?_⟩;rw[E,hy,hk,run_equalIn_int w n t _ k _ _ hd,J7]
 case bool=>
  have h:(aL (jQ x) λa=>aL (jQ hr) λb=>D<|Ba a b)=D b:=h;obtain⟨p,hp,h⟩:=aJ h;obtain⟨q,hq,h⟩:=aJ h;cases h;have e1:=o_ hp;have e2:=o_ hq;rw[e1]at E;rw[e2]at hy;have E:=E.of_bool;have hy:=hy.of_bool;refine⟨by rw[E,e1],by rw[hy,e2],λn w=>?_⟩;rw[E,hy,run_equalIn_bool' w n t _ _ hd,J8]
 case string=>
  have h:(aL (uj x) λa=>aL (uj hr) λb=>D<|rG a b)=D b:=h;obtain⟨p,hp,h⟩:=aJ h;obtain⟨q,hq,h⟩:=aJ h;cases h;have e1:=pO hp;have e2:=pO hq;rw[e1]at E;rw[e2]at hy;have E:=E.wB;have hy:=hy.wB;refine⟨by rw[E,e1],by rw[hy,e2],λn w=>?_⟩;rw[E,hy,run_equalIn_string w n t _ _ hd,zu]
 all_goals cases h
end ops
section ops
variable{P:aU}
def Ay(h:1<=uk d):Su d=aC:=by cases d<;>first|rfl|simp[uk]at h
def vG{ay:Field}(h:rP P (ay::fs) k=D ks):
 ∃d r,P.underlying ay.type=D d/\rP P fs (k+1)=D r/\ay.offset=k/\ay.name≠ "_" /\1<=uk d/\ks=uk d::r:=by
 have h:(aL (P.underlying ay.type) λd=>aL (rP P fs<|k+1) λr=>gd (aA ay.offset k&&!(ay.name== "_")&&aD 1 (uk d))<|D<|uk d::r)=D ks:=h;obtain⟨d,hd,h⟩:=aJ h;obtain⟨r,y,h⟩:=aJ h;obtain⟨hg,h⟩:=fI h;cases h;simp only[bg,tC,beq_eq_false_iff_ne]at hg;exact⟨d,r,hd,y,aW hg.1.1,hg.1.2,aF hg.2,O⟩
def yM{xs ys:C Z}(h:qQ (k::ks) xs ys=D b):
 ∃x xr hr yr c,xs=x::xr/\ys=hr::yr/\w_ k x hr=D c/\((c=f/\qQ ks xr yr=D b)\/(c=aC/\b=aC)):=by
 cases xs with
 |nil=>cases h
 |cons x xr=>cases ys with
  |nil=>cases h
  |cons hr yr=>
   have h:(aL (w_ k x hr) λc=>bV c (qQ ks xr yr)<|D aC)=D b:=h;obtain⟨c,hc,h⟩:=aJ h;cases c
   .cases h;exact⟨x,xr,hr,yr,aC,O,O,hc,.inr ⟨O,O⟩⟩
   .exact⟨x,xr,hr,yr,f,O,O,hc,.inl ⟨O,h⟩⟩
def yV{off:Nat}(hd:P.underlying t=D d)(ha:Su d=aC)(hv:M[off]?=D v):
 (part t ⟨M⟩ off).run P w=.ok v w:=by
 simp[part,xx hd,ha,hv]
theorem P4:∀(fs:C Field)(k:Nat)(ks:C Nat)(xs ys X' Y':C Z)(b:Bool),rP P fs k=D ks->qQ ks xs ys=D b->
 k_ m xs (X'.drop k)->k_ m ys (Y'.drop k)->∀n w,(Op.eqFields (n+1) ⟨X'⟩ ⟨Y'⟩ fs).run P w=.ok b w:=by
 intro fs
 induction fs with
 |nil=>
  intro k ks xs ys X' Y' b hk hc E hy n w;cases hk;cases xs with
  |nil=>cases ys with
   |nil=>cases hc;rfl
   |cons _ _=>cases hc
  |cons _ _=>cases hc
 |cons ay fs ih=>
  intro k ks xs ys X' Y' b hk hc E hy n w;obtain⟨d,r,hd,y,ho,hn,W,rfl⟩:=vG hk;obtain⟨x,xr,hr,yr,c,rfl,rfl,hce,hcase⟩:=yM hc;generalize hX:X'.drop k=X1 at E;generalize hY:Y'.drop k=Y1 at hy;cases E with
  |cons _ x' _ xr' hxv Ez=>
   cases hy with
   |cons _ y' _ yr' hyv ZF=>
    have gx:X'[k]?=D x':=by
     have:=dW (·[0]?) hX;simpa using this
    have gy:Y'[k]?=D y':=by
     have:=dW (·[0]?) hY;simpa using this
    have dx:X'.drop (k+1)=xr':=by rw[<-qd,hX];rfl
    have dy:Y'.drop (k+1)=yr':=by rw[<-qd,hY];rfl
    obtain⟨ex,ey,he⟩:=Aw (t:=ay.type) hd hce hxv hyv;have p1:=yV (w:=w) hd (Ay W) gx;have p2:=yV (w:=w) hd (Ay W) gy;rw[<-ho]at p1 p2;simp only[Op.eqFields,hn,ne_eq,qj,kK,dw,p1,p2,bR,he n w,Sem.run_ite,dI];rcases hcase with⟨rfl,hrest⟩|⟨rfl,rfl⟩
    .simp only[wZ,cB,kJ];exact ih (k+1) r xr yr X' Y' b y hrest (by rw[dx];exact Ez) (by rw[dy];exact ZF) n w
    .simp
def ZG(x:α)(n:Nat):Zs x n=aX n x:=by
 induction n with
 |zero=>rfl
 |succ n ih=>exact dW (x::·) ih
theorem SG(hd:P.underlying e=D d)(W:1<=uk d)(hs:P.cellsOf e=1):∀(c k:Nat)(xs ys X' Y':C Z)(b:Bool),
 qQ (aX c<|uk d) xs ys=D b->k_ m xs (X'.drop k)->k_ m ys (Y'.drop k)->
 ∀n w,(Op.eqItems (n+1) e (P.cellsOf e) ⟨X'⟩ ⟨Y'⟩<|List.range' k c).run P w=.ok b w:=by
 intro c
 induction c with
 |zero=>
  intro k xs ys X' Y' b hc E hy n w;cases xs with
  |nil=>cases ys with
   |nil=>cases hc;rfl
   |cons _ _=>cases hc
  |cons _ _=>cases hc
 |succ c ih=>
  intro k xs ys X' Y' b hc E hy n w;obtain⟨x,xr,hr,yr,q,rfl,rfl,hce,hcase⟩:=yM hc;generalize hX:X'.drop k=X1 at E;generalize hY:Y'.drop k=Y1 at hy;cases E with
  |cons _ x' _ xr' hxv Ez=>
   cases hy with
   |cons _ y' _ yr' hyv ZF=>
    have gx:X'[k]?=D x':=by
     have:=dW (·[0]?) hX;simpa using this
    have gy:Y'[k]?=D y':=by
     have:=dW (·[0]?) hY;simpa using this
    have dx:X'.drop (k+1)=xr':=by rw[<-qd,hX];rfl
    have dy:Y'.drop (k+1)=yr':=by rw[<-qd,hY];rfl
    obtain⟨ex,ey,he⟩:=Aw (t:=e) hd hce hxv hyv;have p1:=yV (w:=w) hd (Ay W) gx;have p2:=yV (w:=w) hd (Ay W) gy;rw[List.range'_succ];simp only[Op.eqItems,dw,hs,dz,p1,p2,bR,he n w,Sem.run_ite,dI];rcases hcase with⟨rfl,hrest⟩|⟨rfl,rfl⟩
    .simp only[wZ,cB,kJ];have:=ih (k+1) xr yr X' Y' b hrest (by rw[dx];exact Ez) (by rw[dy];exact ZF) n w;rw[hs]at this;exact this
    .simp
def Xj{o q:aB α}{r:α}(h:orElse' o q=D r):o=D r\/(o=Q/\q=D r):=by
 cases o with
 |none=>exact .inr ⟨O,h⟩
 |some x=>exact .inl h
def GA(h:tEq P t=D q):
 (∃d,P.underlying t=D d/\q=.inl (uk d)/\1<=uk d)\/
 (∃fs ks,P.underlying t=D (.struct ⟨fs⟩)/\P.stoodInHeld t=aC/\rP P fs 0=D ks/\q=.inr ks)\/
 (∃n e d i,P.underlying t=D (.array n e)/\P.underlying e=D d/\P.info? e=D i/\i.size=1/\1<=uk d/\q=.inr (aX n<|uk d)):=by
 obtain⟨d,hd,h⟩:=aJ h;cases hb:aD 1 (uk d)with
 |true=>rw[hb]at h;cases h;exact .inl ⟨d,hd,O,aF hb⟩
 |false=>
  rw[hb]at h;have h:(aL (orElse' (PV P t)<|afA P t) λl=>D<|Sum.inr l)=D q:=h;obtain⟨l,hl,h⟩:=aJ h;cases h;rcases Xj hl with hs|⟨_,ha⟩
  .right;left;have h:=hs;obtain⟨fs,hfs,h⟩:=aJ h;obtain⟨hg,h⟩:=fI h;exact⟨fs,l,Ey hfs,by simpa using hg,h,O⟩
  .right;right;have h:=ha;obtain⟨d',hd',h⟩:=aJ h;obtain⟨a,ha',h⟩:=aJ h;obtain⟨e,he,h⟩:=aJ h;obtain⟨s,hs,h⟩:=aJ h;obtain⟨hg,h⟩:=fI h;cases h;obtain⟨i,hi,rfl⟩:=q8 hs;simp only[bg]at hg;exact⟨a.1,a.2,e,i,by rw[hd',Oi ha'],he,hi,aW hg.1,aF hg.2,by rw[ZG]⟩
def SI(h:P.info? e=D i):P.cellsOf e=i.size:=by simp[Program.cellsOf,h]
def ZH(h:lC P t x hr=D b)(E:VR m x x')(hy:VR m hr y'):
 ∀n w,(Op.equalIn (n+2) t x' y').run P w=.ok b w:=by
 intro n w;obtain⟨q,hq,h⟩:=aJ h;rcases GA hq with⟨d,hd,rfl,W⟩|⟨fs,ks,hu,hs,hk,rfl⟩|⟨c,e,d,i,hu,he,hi,hsz,W,rfl⟩
 .have h:w_ (uk d) x hr=D b:=h;exact(Aw hd h E hy).2.2 (n+1) w
 .have h:(aL (wP x) λa=>aL (wP hr) λb=>qQ ks a b)=D b:=h;obtain⟨xs,hxs,h⟩:=aJ h;obtain⟨ys,hys,h⟩:=aJ h;rw[uq hxs]at E;rw[uq hys]at hy;obtain⟨xs',rfl,Ez⟩:=E.xw;obtain⟨ys',rfl,ZF⟩:=hy.xw;have hf:P.fieldsOf t=⟨fs⟩:=by simp[Program.fieldsOf,hu]
  rw[run_equalIn_struct w (n+1) t _ _ (by rw[hf];exact hu) hs,hf];exact P4 fs 0 ks xs ys xs' ys' b hk h (by simpa using Ez) (by simpa using ZF) n w
 .have h:(aL (wP x) λa=>aL (wP hr) λb=>qQ (aX c<|uk d) a b)=D b:=h;obtain⟨xs,hxs,h⟩:=aJ h;obtain⟨ys,hys,h⟩:=aJ h;rw[uq hxs]at E;rw[uq hys]at hy;obtain⟨xs',rfl,Ez⟩:=E.xw;obtain⟨ys',rfl,ZF⟩:=hy.xw;rw[run_equalIn_array w (n+1) _ _ hu hi,alList_range_eq_range_Q];exact SG he W (by rw[SI hi,hsz]) c 0 xs ys xs' ys' b h (by simpa using Ez) (by simpa using ZF) n w
def J9(h:lC P t x hr=D b)(E:VR m x x')(hy:VR m hr y')(w:bY):
 (Op.equal t x' y').run P w=.ok b w:=by
 have:=ZH h E hy 9998 w;exact this
end ops
section ops
variable{P:aU}
def GD(h:1<=uk d):(∃k,d=.int k)\/d=.bool\/d=.string:=by
 cases d<;>first|exact .inl ⟨_,O⟩|exact .inr (.inl O)|exact .inr (.inr O)|simp[uk]at h
def J'(hd:P.underlying t=D d)(h:1<=uk d)(n:Nat):P.eqGuardType (n+1) t=aC:=by
 unfold Program.eqGuardType;rw[hd];rcases GD h with⟨k,rfl⟩|rfl|rfl<;>rfl
def Xk:∀(fs:C Field)(k:Nat)(ks:C Nat),rP P fs k=D ks->∀n,fs.any (λay=>ay.name != "_" &&P.eqGuardType (n+1) ay.type)=aC:=by
 intro fs
 induction fs with
 |nil=>intros;rfl
 |cons ay fs ih=>
  intro k ks hk n;obtain⟨d,r,hd,y,ho,hn,W,rfl⟩:=vG hk;simp only[List.any_cons,ih _ _ y n,ny,J' hd W n,sS]
def adR(h:tEq P t=D q):P.eqGuardType P.depth t=aC:=by
 obtain⟨ag,hD⟩:∃ag,P.depth=ag+2:=⟨_,O⟩;rw[hD];rcases GA h with⟨d,hd,rfl,W⟩|⟨fs,ks,hu,hs,hk,rfl⟩|⟨c,e,d,i,hu,he,hi,hsz,W,rfl⟩
 .exact J' hd W<|ag+1
 .unfold Program.eqGuardType;rw[hu];have:=Xk fs 0 ks hk ag;simpa using this
 .unfold Program.eqGuardType;rw[hu];exact J' he W ag
def VR.rO(h:VR m x x')(W:1<=(Ae.rO x).1):Ae.rO x'=Ae.rO x:=by
 cases h<;>first|rfl|(simp[Ae.rO,Ae.top]at W)
def EA(h:1<=(rO x).1):
 (∃a,x=.pointer a/\rO x=(1,a.isNone))\/(∃a l c,x=.slice a l c/\rO x=(2,a.isNone))\/(∃r,x=.map r/\rO x=(3,r.isNone))\/
 (∃ay hr z,x=.func ay hr z/\rO x=(4,aC))\/(x=.nilFunc/\rO x=(4,f))\/(∃t v,x=.iface t v/\rO x=(5,aC))\/(x=.nilIface/\rO x=(5,f)):=by
 cases x<;>simp[rO]at h|-
 case pointer a=>cases a<;>rfl
 case slice a l c=>cases a<;>rfl
 case map a=>cases a<;>rfl
def SK(h:1<=xV d):(∃e,d=.pointer e/\xV d=1)\/(∃e,d=.slice e/\xV d=2)\/(∃k e,d=.map k e/\xV d=3)\/(∃p r v,d=.func p r v/\xV d=4)\/(∃ms,d=.interface ms/\xV d=5):=by
 cases d<;>simp[xV]at h|-
set_option maxHeartbeats 2000000 in
theorem Xl(ht:Gu P t=k)(W:1<=k)(E:rO x=(k,b))(hy:rO hr=(k,f))(w:bY):
 (Op.equal t x hr).run P w=.ok b w/\(Op.equal t hr x).run P w=.ok b w:=by
 unfold Gu at ht;cases hu:P.underlying t with
 |none=>rw[hu]at ht;simp at ht;omega
 |some d=>
  rw[hu]at ht;have ht:xV d=k:=ht;have hx1:1<=(rO x).1:=by rw[E];exact W
  have hy1:1<=(rO hr).1:=by rw[hy];exact W
  have hd1:1<=xV d:=by omega
  rcases SK hd1 with⟨e,rfl,hk⟩|⟨e,rfl,hk⟩|⟨kk,e,rfl,hk⟩|⟨p,r,v,rfl,hk⟩|⟨ms,rfl,hk⟩<;>
  rcases EA hx1 with⟨a,rfl,hxa⟩|⟨a,l,c,rfl,hxa⟩|⟨a,rfl,hxa⟩|⟨ay,q,z,rfl,hxa⟩|⟨rfl,hxa⟩|⟨tt,v,rfl,hxa⟩|⟨rfl,hxa⟩<;>
  (rw[hxa]at E;rw[Prod.mk.injEq]at E;obtain⟨hx2,hx3⟩:=E)<;>try(exfalso;omega)
  all_goals
   rcases EA hy1 with⟨a',rfl,hya⟩|⟨a',l',c',rfl,hya⟩|⟨a',rfl,hya⟩|⟨f',q',z',rfl,hya⟩|⟨rfl,hya⟩|⟨tt',v',rfl,hya⟩|⟨rfl,hya⟩<;>
   (rw[hya]at hy;rw[Prod.mk.injEq]at hy;obtain⟨hy2,hy3⟩:=hy)<;>try(exfalso;omega)
  all_goals first|cases hy3;done|skip
  all_goals try(cases a'<;>simp at hy3)
  all_goals try(cases a)
  all_goals
   subst hx3;constructor<;>(refine(?_:∀n,(Op.equalIn (n+1) _ _ _).run P w=_) 9999;intro n;simp only[Op.equalIn,dw,fq hu,bR,dI];(try rfl))
def ZI(ht:Gv P t=f)(h:ptrEq x hr=D b)(E:VR m x x')(hy:VR m hr y')(w:bY):
 (Op.equal t x' y').run P w=.ok b w/\(∃a a',x'=.pointer (D a)/\y'=.pointer (D a')):=by
 obtain⟨a,ha,h⟩:=aJ h;obtain⟨c,hc,h⟩:=aJ h;obtain⟨hg,h⟩:=fI h;cases h;rw[pN ha]at E;rw[pN hc]at hy;obtain⟨l,hm,hlo,hsp,rfl⟩:=E.tV;obtain⟨l',hm',aiJ,ani,rfl⟩:=hy.tV;have hb:=aW hg;rw[hb,hm']at hm;cases hm
 have hsz:∃e i,P.underlying t=D (.pointer e)/\P.info? e=D i/\1<=i.size:=by
  unfold Gv at ht;cases hq:(aL (P.underlying t) λd=>aL (Fu d) λe=>aL (wo P e) λs=>gd (aD 1 s)<|D ())with
  |none=>rw[hq]at ht;cases ht
  |some rg=>
   have h:=hq;obtain⟨d,hd,h⟩:=aJ h;obtain⟨e,he,h⟩:=aJ h;obtain⟨s,hs,h⟩:=aJ h;obtain⟨W,h⟩:=fI h;obtain⟨i,hi,rfl⟩:=q8 hs;exact⟨e,i,by rw[hd,Jt he],hi,aF W⟩
 obtain⟨e,i,hu,hi,W⟩:=hsz;refine⟨?_,_,_,O,O⟩;have hne:i.size≠0:=by omega
 refine(?_:∀n,(Op.equalIn (n+1) _ _ _).run P w=_) 9999;intro n;simp only[Op.equalIn,dw,fq hu,bR,jU hi,ne_eq,hne,qj,kK,sameAddr,BEq.rfl,Sem.run_ite,dI];congr 1;rw[gm];simp only[lz,Addr.mk.injEq,xS,true_and];rw[show(aA a.off c.off=f)=(a.off=c.off)from by simp[jP]];omega
def binOp_eql(h:(Op.equal t x hr).run P w=.ok b w)(hn:∀k n,x≠.int k n)(hf:∀k n,x≠.float k n)(hc:∀k n q,x≠.complex k n q)(hs:∀s,x≠.string s):
 (binOp .eql t x hr).run P w=.ok (.bool b) w/\(binOp .neq t x hr).run P w=.ok (.bool<|!b) w:=by
 have e1:binOp .eql t x hr=(do pure (.bool (<-Op.equal t x hr))):=by
  cases x<;>first|rfl|(exfalso;first|exact hn _ _ O|exact hf _ _ O|exact hc _ _ _ O|exact hs _ O)
 have e2:binOp .neq t x hr=(do pure (.bool<|!(<-Op.equal t x hr))):=by
  cases x<;>first|rfl|(exfalso;first|exact hn _ _ O|exact hf _ _ O|exact hc _ _ _ O|exact hs _ O)
 rw[e1,e2];simp[h]
end ops
section ops
variable{P:aU}
def xP{o:bT}(h:tN o=f):∃v,o=.const v/\(rO v).2=f:=by
 cases o<;>simp[tN]at h;exact⟨_,O,h⟩
theorem oM(w:bY)(h:tN ox=f\/tN oy=f\/x≠.nilIface\/hr≠.nilIface)(J:(∀c,x≠.agg c)\/(∀c,hr≠.agg c)\/P.eqGuardType P.depth t=aC):(eqGuard op t ox oy x hr).run P w=.ok () w:=by
 by_cases hop:op=.eql\/op=.neq
 .by_cases hagg:∃c c',x=.agg c/\hr=.agg c'
  .obtain⟨c,c',rfl,rfl⟩:=hagg;rcases J with J|J|J
   .exact absurd O<|J c
   .exact absurd O<|J c'
   .exact run_eqGuard_agg w op t ox oy c c' J
  .by_cases hnil:x=.nilIface/\hr=.nilIface
   .obtain⟨rfl,rfl⟩:=hnil
    have hc:(∃v,ox=.const v)\/∃v,oy=.const v:=by
     rcases h with h|h|h|h
     .obtain⟨v,rfl,_⟩:=xP h;exact .inl ⟨_,O⟩
     .obtain⟨v,rfl,_⟩:=xP h;exact .inr ⟨_,O⟩
     .exact absurd O h
     .exact absurd O h
    rcases hc with⟨v,rfl⟩|⟨v,rfl⟩
    .rcases hop with rfl|rfl<;>rfl
    .rcases hop with rfl|rfl<;>cases ox<;>rfl
   .rcases hop with rfl|rfl<;>cases x<;>first
     |rfl
     |(cases hr<;>first|rfl|(exfalso;exact hagg ⟨_,_,O,O⟩)|(exfalso;exact hnil ⟨O,O⟩))
 .cases op<;>first|rfl|(exfalso;exact hop<|.inl O)|(exfalso;exact hop<|.inr O)
def U_{op:rA}{ox oy:bT}(h:MN (Gu P t) c x=D b)(E:VR m x x')(hc:VR m c c')(hn:(rO c).2=f)(w:bY):
 (Op.equal t x' c').run P w=.ok b w/\(Op.equal t c' x').run P w=.ok b w/\(∀q,x'≠.agg q)/\1<=(rO x').1/\1<=(rO c').1:=by
 obtain⟨hg,h⟩:=fI h;cases h;simp only[bg]at hg;have W:=aF hg.1.1;have J:=aW hg.1.2;have h3:=aW hg.2;have ex:=E.rO N;have ec:=hc.rO N;have Jw:rO x'=(Gu P t,(rO x).2):=by rw[ex,<-J]
 have hcc:rO c'=(Gu P t,f):=by rw[ec,<-h3,<-hn]
 have:=Xl O W Jw hcc w;refine⟨this.1,this.2,?_,by rw[Jw];exact W,by rw[hcc];exact W⟩;intro q hq;rw[hq]at Jw;simp[rO]at Jw;omega
def MU(x:Z):Prop:=(∀k n,x≠.int k n)/\(∀k n,x≠.float k n)/\(∀k n q,x≠.complex k n q)/\∀s,x≠.string s
def MV(h:1<=(rO x).1):MU x:=by
 refine⟨?_,?_,?_,?_⟩<;>(intros;intro e;rw[e]at h;simp[rO]at h)
def agW(h:Zb P t ox oy x hr=D b)(E:VR m x x')(hy:VR m hr y')(hox:∀c,ox=.const c->x=c)(hoy:∀c,oy=.const c->hr=c)(hxo:tL x=Q/\uj x=Q/\xg x=0)(w:bY):
 (Op.equal t x' y').run P w=.ok b w/\(eqGuard op t ox oy x' y').run P w=.ok () w/\MU x':=by
 unfold Zb at h;cases hcy:tN oy with
 |true=>
  rw[hcy]at h;obtain⟨v,hv,hn⟩:=xP hcy;have:=hoy v hv;subst this;obtain⟨W,J,h3,h4,h5⟩:=U_ (op:=op) (ox:=ox) (oy:=oy) h E hy hn w;exact⟨W,oM w (.inr<|.inl hcy)<|.inl h3,MV h4⟩
 |false=>
  rw[hcy]at h;cases hcx:tN ox with
  |true=>
   rw[hcx]at h;obtain⟨v,hv,hn⟩:=xP hcx;have:=hox v hv;subst this;obtain⟨W,J,h3,h4,h5⟩:=U_ (op:=op) (ox:=ox) (oy:=oy) h hy E hn w;exact⟨J,oM w (.inl hcx)<|.inr<|.inl h3,MV h5⟩
  |false=>
   rw[hcx]at h;cases hp:Gv P t with
   |true=>
    rw[hp]at h;obtain⟨W,a,a',rfl,rfl⟩:=ZI hp h E hy w;exact⟨W,oM w (.inr<|.inr<|.inl<|by simp)<|.inl<|by simp,by simp[MU]⟩
   |false=>
    rw[hp]at h;have h:lC P t x hr=D b:=h;have W:=J9 h E hy w;have hv:=h;obtain⟨q,hq,h⟩:=aJ h;have hng:=adR hq;rcases GA hq with⟨d,hd,rfl,hk⟩|⟨fs,ks,hu,hs,hk,rfl⟩|⟨c,e,d,i,hu,he,hi,hsz,hk,rfl⟩
    .have h:w_ (uk d) x hr=D b:=h;obtain⟨ex,ey,_⟩:=Aw (t:=t) hd h E hy;subst ex;subst ey
     have aiK:∃z,x'=.bool z:=by
      rcases GD hk with⟨k,rfl⟩|rfl|rfl
      .have h:(aL (tL x') λa=>aL (tL y') λb=>gd (aA (qJ a.1)<|qJ b.1)<|D<|Jq a.2 b.2)=D b:=h;rw[hxo.1]at h;cases h
      .have h:(aL (jQ x') λa=>aL (jQ y') λb=>D<|Ba a b)=D b:=h;obtain⟨p,hp,h⟩:=aJ h;exact⟨p,o_ hp⟩
      .have h:(aL (uj x') λa=>aL (uj y') λb=>D<|rG a b)=D b:=h;rw[hxo.2.1]at h;cases h
     obtain⟨z,rfl⟩:=aiK;exact⟨W,oM w (.inr<|.inr<|.inl<|by simp)<|.inl<|by simp,by simp[MU]⟩
    .have h:(aL (wP x) λa=>aL (wP hr) λb=>qQ ks a b)=D b:=h;obtain⟨xs,hxs,h⟩:=aJ h;rw[uq hxs]at E;obtain⟨xs',rfl,Ez⟩:=E.xw;exact⟨W,oM w (.inr<|.inr<|.inl<|by simp)<|.inr<|.inr hng,by simp[MU]⟩
    .have h:(aL (wP x) λa=>aL (wP hr) λb=>qQ (aX c<|uk d) a b)=D b:=h;obtain⟨xs,hxs,h⟩:=aJ h;rw[uq hxs]at E;obtain⟨xs',rfl,Ez⟩:=E.xw;exact⟨W,oM w (.inr<|.inr<|.inl<|by simp)<|.inr<|.inr hng,by simp[MU]⟩
def uu(W:(eqGuard op t ox oy x hr).run P w=.ok () w)(J:(binOp op t x hr).run P w=.ok v w):
 (do eqGuard op t ox oy x hr;binOp op t x hr:Sem Z).run P w=.ok v w:=by
 simp[W,J]
def agX(h:lY P op t ox oy x hr=D v)(E:VR m x x')(hy:VR m hr y')(hox:∀c,ox=.const c->x=c)(hoy:∀c,oy=.const c->hr=c):
 VR m v v/\∀w,(do eqGuard op t ox oy x' y';binOp op t x' y':Sem Z).run P w=.ok v w:=by
 unfold lY at h;cases hi:tL x with
 |some a=>
  rw[hi]at h;have hxe:=qp hi;rw[hxe]at E;have E:=E.of_int;have g:∀w,(eqGuard op t ox oy x' y').run P w=.ok () w:=λw=>oM w (.inr<|.inr<|.inl (by rw[E];simp))<|.inl (by rw[E];simp);cases hsh:Jr op with
  |true=>
   rw[hsh]at h;have h:Zt op t x hr=D v:=h;obtain⟨p,hp,h⟩:=aJ h;obtain⟨q,hq,h⟩:=aJ h;have hye:=qp hq;rw[hye]at hy;have hy:=hy.of_int;obtain⟨hs,y⟩:=zq (P:=P) h;refine⟨.sc _ hs,λw=>uu (g w) ?_⟩;rw[E,hy,<-hxe,<-hye];exact y w
  |false=>
   rw[hsh]at h;have h:(aL (tL hr) λb=>gd (aA (qJ a.1)<|qJ b.1)<|W_ op a.1 a.2 b.2)=D v:=h;obtain⟨q,hq,h⟩:=aJ h;obtain⟨hk,h⟩:=fI h;have hye:=qp hq;rw[hye]at hy;have hy:=hy.of_int;have hk:=Av hk;obtain⟨hs,y⟩:=adP (P:=P) (t:=t) h;refine⟨.sc _ hs,λw=>uu (g w) ?_⟩;rw[E,hy,<-hk];exact y w
 |none=>
  rw[hi]at h;cases hst:uj x with
  |some a=>
   rw[hst]at h;have h:(aL (uj hr) λb=>adK op a b)=D v:=h;obtain⟨b,hb,h⟩:=aJ h;have hxe:=pO hst;have hye:=pO hb;rw[hxe]at E;rw[hye]at hy;have E:=E.wB;have hy:=hy.wB;obtain⟨hs,y⟩:=adQ (P:=P) (t:=t) h;refine⟨.sc _ hs,λw=>uu (oM w (.inr<|.inr<|.inl (by rw[E];simp))<|.inl (by rw[E];simp)) ?_⟩;rw[E,hy];exact y w
  |none=>
   rw[hst]at h;cases P5:aD 1 (xg x)with
   |true=>
    rw[P5]at h;have h:Sw op t x hr=D v:=h;have h0:=h;obtain⟨hv,y⟩:=Xi (P:=P) h E hy
    have hsx:nE x=f:=by
     have:=aF P5;cases x<;>simp[xg]at this<;>rfl
    have E:=E.wC hsx
    have hne:(x'≠.nilIface)/\∀c,x'≠.agg c:=by
     rw[E];have:=aF P5;constructor
     .intro e;rw[e]at this;simp[xg]at this
     .intro c e;rw[e]at this;simp[xg]at this
    exact⟨hv,λw=>uu (oM w (.inr<|.inr<|.inl hne.1)<|.inl hne.2)<|y w⟩
   |false=>
    rw[P5]at h;have h:CB op (Zb P t ox oy x hr)=D v:=h
    have hz:xg x=0:=by
     rcases gM (xg x)with h0|h0
     .exact h0
     .rw[aI h0]at P5;cases P5
    have key:∀b,Zb P t ox oy x hr=D b->∀w,(eqGuard op t ox oy x' y').run P w=.ok () w/\(binOp .eql t x' y').run P w=.ok (.bool b) w/\(binOp .neq t x' y').run P w=.ok (.bool<|!b) w:=by
     intro b hb w;obtain⟨W,J,h3,h4,h5,h6⟩:=agW (op:=op) hb E hy hox hoy ⟨hi,hst,hz⟩ w;exact⟨J,binOp_eql W h3 h4 h5 h6⟩
    cases op<;>simp only[CB,zh]at h
    case eql=>
     have h:(aL (Zb P t ox oy x hr) λb=>D<|gI b)=D v:=h;obtain⟨b,hb,h⟩:=aJ h;cases h;exact⟨.sc _ O,λw=>uu (key b hb w).1 (key b hb w).2.1⟩
    case neq=>
     have h:(aL (Zb P t ox oy x hr) λb=>D<|gI<|!b)=D v:=h;obtain⟨b,hb,h⟩:=aJ h;cases h;exact⟨.sc _ O,λw=>uu (key b hb w).1 (key b hb w).2.2⟩
    all_goals cases h
end ops
section ops
variable{P:aU}
def adS{a b a' b':Z}(h:JX c a b=D v)(hc:VR m c c')(ha:VR m a a')(hb:VR m b b'):
 ∃v',VR m v v'/\∀w,(do pure (if<-asBool c' then a' else b'):Sem Z).run P w=.ok v' w:=by
 obtain⟨t,ht,h⟩:=aJ h;cases h;rw[o_ ht]at hc;have:=hc.of_bool;subst this;cases t
 .exact⟨b',hb,λw=>by simp[asBool]⟩
 .exact⟨a',ha,λw=>by simp[asBool]⟩
theorem adT{op:UnOp}(h:j3 (Op.unary op x)=D v)(E:VR m x x'):VR m v v/\∀w,(Op.unary op x').run P w=.ok v w:=by
 obtain⟨hs,y⟩:=zq (P:=P) h
 have:x'=x:=by
  apply E.wC;cases x<;>first|rfl|(exfalso;cases op<;>simp[Op.unary,j3,stuck]at h;done)|skip
  case pointer a=>cases a<;>first|rfl|(exfalso;cases op<;>simp[Op.unary,j3,stuck,unsupported]at h)
 subst this;exact⟨.sc _ hs,y⟩
def adU{s d:aH}(h:CE P s d x=D v)(E:VR m x x'):VR m v v/\∀w,(convert s d x').run P w=.ok v w:=by
 replace h:=aJ h;obtain⟨ds,hds,h⟩:=h;replace h:=aJ h;obtain⟨dd,hdd,h⟩:=h;cases hi:tL x with
 |some a=>
  rw[hi]at h;have hxe:=qp hi;rw[hxe]at E;have E:=E.of_int;subst E;cases hk:L8 dd with
  |some k=>
   replace h:(@aM fB (λ_=>aB Z) (bV (Ck dd) (D<|.string<|Utf8.encode a.2)<|aL (Gq dd) λk=>j3<|Conv.intToFloat k a.2) (λk=>D<|.int k<|oC k a.2)<|L8 dd)=D v:=h;rw[hk]at h;cases h;have:=U9 hk;subst this;exact⟨.sc _ O,λw=>by simp[convert,fq hds,fq hdd,Conv.intToInt,J6]⟩
  |none=>
   replace h:(@aM fB (λ_=>aB Z) (bV (Ck dd) (D<|.string<|Utf8.encode a.2)<|aL (Gq dd) λk=>j3<|Conv.intToFloat k a.2) (λk=>D<|.int k<|oC k a.2)<|L8 dd)=D v:=h;rw[hk]at h;cases hs:Ck dd with
   |true=>
    rw[hs]at h;cases h;have:=Fy hs;subst this;exact⟨.sc _ O,λw=>by simp[convert,fq hds,fq hdd,Conv.intToString]⟩
   |false=>
    rw[hs]at h;replace h:(aL (Gq dd) λk=>j3<|Conv.intToFloat k a.2)=D v:=h;replace h:=aJ h;obtain⟨k,hf,h⟩:=h;have:=Xe hf;subst this;obtain⟨hs,y⟩:=zq (P:=P) h;exact⟨.sc _ hs,λw=>by simp[convert,fq hds,fq hdd,y]⟩
 |none=>
  rw[hi]at h;replace h:(aL (uj x) λb=>gd (Ck dd)<|D<|.string b)=D v:=h;replace h:=aJ h;obtain⟨b,hb,h⟩:=h;replace h:=fI h;obtain⟨hg,h⟩:=h;cases h;rw[pO hb]at E;have E:=E.wB;subst E;have:=Fy hg;subst this;refine⟨.sc _ O,λw=>?_⟩;cases ds<;>simp[convert,fq hds,fq hdd]
def SL{i:Nat}(h:uU x i=D v)(E:VR m x x'):∃v',VR m v v'/\∀w,(Instr.extract x' i).run P w=.ok v' w:=by
 obtain⟨l,hl,h⟩:=aJ h;rw[adL hl]at E;obtain⟨l',rfl,y⟩:=E.Oh;rw[oL]at h;obtain⟨v',hv',hvr⟩:=y.get i h;exact⟨v',hvr,λw=>by simp[Instr.extract,hv']⟩
def P6(h:Oa x=D v)(E:VR m x x')(ρ:bT->Z)(o:Oper)(xo:bT)(ho:o.op=.nilCheck xo)(hρ:ρ xo=x'):
 VR m v x'/\∀w,(execOp ρ o).run P w=.ok (.value x') w:=by
 unfold Oa at h;cases hp:qC x with
 |some a=>
  rw[hp]at h;cases h;refine⟨E,λw=>?_⟩;rw[pN hp]at E;obtain⟨l,hm,hlo,hsp,rfl⟩:=E.tV;simp[execOp,ho,hρ]
 |none=>
  rw[hp]at h;replace h:(aL (Zp x) λay=>aL (fFn ay.1) λ_=>D x)=D v:=h;obtain⟨ay,hf,h⟩:=aJ h;obtain⟨g,hg,h⟩:=aJ h;cases h;refine⟨E,λw=>?_⟩;rw[Oe hf,Og hg]at E;obtain⟨x1,y1,rfl,_,_⟩:=E.ZB;simp[execOp,ho,hρ]
def agY(h:mm2 b x hr=D v)(E:VR m x x')(hy:VR m hr y'):
 VR m v v/\∀w,((if b then Builtin.max2 x' y' else Builtin.min2 x' y').run P w=.ok v w):=by
 obtain⟨p,hp,h⟩:=aJ h;obtain⟨q,hq,h⟩:=aJ h;obtain⟨hg,h⟩:=fI h;cases h;have e1:=qp hp;have e2:=qp hq;rw[e1]at E;rw[e2]at hy;have E:=E.of_int;have hy:=hy.of_int;have hk:=Av hg;subst E;subst hy;cases b
 .have e:bV (bV aC (L9 p.2 q.2)<|L9 q.2 p.2) hr x=if q.2<p.2 then hr else x:=by
   show bV (L9 q.2 p.2) hr x=_;rw[Ah,SF];simp
  rw[e];split
  .next hlt=>rw[e2];exact⟨.sc _ O,λw=>by simp[Builtin.min2,hlt,hk]⟩
  .next hlt=>rw[e1];exact⟨.sc _ O,λw=>by simp[Builtin.min2,hlt]⟩
 .have e:bV (bV f (L9 p.2 q.2)<|L9 q.2 p.2) hr x=if p.2<q.2 then hr else x:=by
   show bV (L9 p.2 q.2) hr x=_;rw[Ah,SF];simp
  rw[e];split
  .next hlt=>rw[e2];exact⟨.sc _ O,λw=>by simp[Builtin.max2,hlt,hk]⟩
  .next hlt=>rw[e1];exact⟨.sc _ O,λw=>by simp[Builtin.max2,hlt]⟩
def agZ:∀{l l':C Z}{x v x':Z},mmL b l x=D v->VR m x x'->k_ m l l'->
 ∃v',VR m v v'/\∀w,((l'.foldlM (if b then Builtin.max2 else Builtin.min2) x':Sem Z).run P w=.ok v' w):=by
 intro l
 induction l with
 |nil=>
  intro l' x v x' h E hl;cases hl;cases h;exact⟨x',E,λw=>by simp⟩
 |cons hr l ih=>
  intro l' x v x' h E hl;cases hl with
  |cons _ y' _ r' hy y=>
   replace h:aL (mm2 b x hr) (mmL b l)=D v:=h;obtain⟨z,hz,h⟩:=aJ h;obtain⟨hzz,hrun⟩:=agY (P:=P) hz E hy;obtain⟨v',hv,hrest⟩:=ih h hzz y;refine⟨v',hv,λw=>?_⟩;have W:=hrun w;cases b<;>simp at W hrest|-<;>simp[W,hrest]
def ZJ{ats:Array aH}(h:Sz b args=D v)(ha:k_ m args args'):
 ∃v',VR m v v'/\∀w,((if b then Builtin.max_ ats t ⟨args'⟩else Builtin.min_ ats t ⟨args'⟩).run P w=.ok v' w):=by
 cases ha with
 |nil=>cases h
 |cons x x' l l' E hl=>
  replace h:mmL b l x=D v:=h;obtain⟨v',hv,y⟩:=agZ (P:=P) h E hl;refine⟨v',hv,λw=>?_⟩;have:=y w;cases b<;>simpa [Builtin.max_,Builtin.min_]using this
def ag0{ay:aH->Z->aB Z}(h:one ay ats args=D v):∃t x,ats[0]?=D t/\args[0]?=D x/\ay t x=D v:=by
 obtain⟨t,ht,h⟩:=aJ h;obtain⟨x,E,h⟩:=aJ h;exact⟨t,x,by rw[<-oL];exact ht,by rw[<-oL];exact E,h⟩
def adV(h:one (JY P) ats args=D v)(ha:k_ m args args'):
 VR m v v/\∀w,(kF ⟨ats⟩ t ⟨args'⟩).run P w=.ok v w:=by
 obtain⟨t,x,ht,E,h⟩:=ag0 h;obtain⟨x',hx',Ez⟩:=ha.get 0 E;obtain⟨d,hd,h⟩:=aJ h;cases W:Ck d with
 |true=>
  rw[W]at h;have:=Fy W;subst this;replace h:(aL (uj x) λs=>D<|bX .i64<|.ofNat<|len s.data.toList)=D v:=h;obtain⟨s,hs,h⟩:=aJ h;cases h;rw[pO hs]at Ez;have:=Ez.wB;subst this;refine⟨.sc _ O,λw=>?_⟩;simp[kF,ht,hx',fq hd,goInt,fU]
 |false=>
  rw[W]at h
  have h:(bV (aA (xV d) 2) (aL (I7 x) λp=>D<|.int .i64<|.ofNat p.2.1)
   (bV (aA (xV d) 3) (aL (L6 x) λr=>gd (eZ r)<|D<|.int .i64 0)
    (aL (PR d) λa=>D<|.int .i64<|.ofNat a.1)))=D v:=h
  cases J:aA (xV d) 2 with
  |true=>
   rw[J]at h;replace h:(aL (I7 x) λp=>D<|bX .i64<|.ofNat p.2.1)=D v:=h;obtain⟨p,hp,h⟩:=aJ h;cases h;have e2:=aW J;have hdd:∃e,d=.slice e:=by cases d<;>simp[xV]at e2;exact⟨_,O⟩
   obtain⟨e,rfl⟩:=hdd;rw[xu hp]at Ez;refine⟨.sc _ O,λw=>?_⟩;cases hpa:p.1 with
   |none=>
    rw[hpa]at Ez;obtain⟨e1,e2,rfl⟩:=Ez.uW;simp[kF,ht,hx',fq hd,goInt,e1]
   |some a=>
    rw[hpa]at Ez;rcases Ez.of_slice with⟨l,cc,_,_,_,rfl,_⟩|⟨a',e1,_,rfl⟩
    .simp[kF,ht,hx',fq hd,goInt]
    .simp[kF,ht,hx',fq hd,goInt,e1]
  |false=>
   rw[J]at h
   have h:(bV (aA (xV d) 3) (aL (L6 x) λr=>gd (eZ r)<|D<|.int .i64 0)
    (aL (PR d) λa=>D<|.int .i64<|.ofNat a.1))=D v:=h
   cases h3:aA (xV d) 3 with
   |true=>
    rw[h3]at h;replace h:(aL (L6 x) λr=>gd (eZ r)<|D<|bX .i64 0)=D v:=h;obtain⟨r,y,h⟩:=aJ h;obtain⟨hg,h⟩:=fI h;cases h;have e3:=aW h3;have hdd:∃k e,d=.map k e:=by cases d<;>simp[xV]at e3;exact⟨_,_,O⟩
    obtain⟨k,e,rfl⟩:=hdd;cases r with
    |some _=>cases hg
    |none=>
     rw[DC y]at Ez;have:=Ez.wC O;subst this;exact⟨.sc _ O,λw=>by simp[kF,ht,hx',fq hd,goInt]⟩
   |false=>
    rw[h3]at h;replace h:(aL (PR d) λa=>D<|bX .i64<|.ofNat a.1)=D v:=h;obtain⟨a,ha',h⟩:=aJ h;cases h;have:=Oi ha';subst this;exact⟨.sc _ O,λw=>by simp[kF,ht,hx',fq hd,goInt]⟩
end ops
end Go.Ae
