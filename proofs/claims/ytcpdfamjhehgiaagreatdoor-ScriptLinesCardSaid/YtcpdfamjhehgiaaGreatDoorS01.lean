/-
  Part 01 of the proof. No condition.
-/
import Derived.Test.YtcpdfamjhehgiaaGreatDoorRows
import Derived.Below
import Derived.RowKit3
import Derived.Lib.Bytealg
import Derived.Calls
import Derived.Control
import Derived.Orders
import Derived.Scope
import Derived.Laws.Externs
import Derived.Defers
import Derived.Laws.Tables
import Derived.Lib.UnsafeStr
import Derived.Lib.ConvBytes
import Derived.Laws.BytesString
import Derived.Laws.IdiomStrings
import Derived.Laws.Sem
import Derived.Laws.Cells
import Derived.Laws.World
import Derived.Laws.StructEq
import Derived.IntWalk
import Derived.Laws.Strings
import Derived.ChangeKeysEq
import Derived.Test.YtcpdfamjhehgiaaGreatDoorProg
import Derived.ProofKit
import Derived.OpenShut
import Derived.Carry
import Derived.Deep.Slices
import Derived.Deep.Fields
import Derived.ChangeSame
import Derived.LaidMore
import Derived.LaidLaws
import Derived.Lay
import Derived.JoinedOf
import Derived.Test.YtcpdfamjhehgiaaGreatDoorCards
import Derived.LaidByTextLater
import Derived.SevenTiedAt
import Derived.LaidSub
import Derived.LaidOnce
import GoSem.ClaimGoes
import Derived.Stop.Joined
set_option linter.unusedVariables false
set_option linter.unusedSimpArgs false
set_option maxRecDepth 100000
set_option maxHeartbeats 8000000
noncomputable section
namespace Go.Ae
theorem aa{p:Prop}(h:p:=by omega):p:=h
theorem eu{a b:Bool}(x:a=true)(y:b=true):(a&&b)=true:=by rw[x,y];rfl
inductive Tr(α:Type)where
 |nil
 |node(l:Tr α)(v:α)(r:Tr α)
namespace Tr
variable{α:Type}
def get(d:α)(t:Tr α):Nat→α:=
 @Tr.rec α (fun _=>Nat→α) (fun _=>d)
  (fun _ v _ gl gr k=>@Nat.rec (fun _=>α) v (fun k _=>@Bool.rec (fun _=>α) (gr (Nat.div k 2)) (gl (Nat.div k 2)) (Nat.beq (Nat.mod k 2) 0)) k) t
def CO(d:α)(x:α):Nat→Tr α→Nat→Tr α:=
 @Nat.rec (fun _=>Tr α→Nat→Tr α) (fun t _=>t) (fun _ ih t k=>
  @Nat.rec (fun _=>Tr α) (@Tr.rec α (fun _=>Tr α) (.node .nil x .nil) (fun l _ r _ _=>.node l x r) t)
   (fun k _=>@Tr.rec α (fun _=>Tr α)
    (@Bool.rec (fun _=>Tr α) (.node .nil d (ih .nil (Nat.div k 2))) (.node (ih .nil (Nat.div k 2)) d .nil) (Nat.beq (Nat.mod k 2) 0))
    (fun l v r _ _=>@Bool.rec (fun _=>Tr α) (.node l v (ih r (Nat.div k 2))) (.node (ih l (Nat.div k 2)) v r) (Nat.beq (Nat.mod k 2) 0)) t) k)
def set(d:α)(t:Tr α)(k:Nat)(x:α):Tr α:=CO d x (Nat.succ k) t k
theorem get_nil(d:α)(k:Nat):(Tr.nil:Tr α).get d k=d:=by cases k<;>rfl
theorem su(d:α)(l:Tr α)(v:α)(r:Tr α):(Tr.node l v r).get d 0=v:=rfl
theorem kY(d:α)(l:Tr α)(v:α)(r:Tr α)(k:Nat):(Tr.node l v r).get d (k +1)=bif Nat.beq (k %2) 0 then l.get d (k/2)else r.get d (k/2):=by
 show @Bool.rec (fun _=>α) (r.get d (k/2)) (l.get d (k/2)) (Nat.beq (k %2) 0)=_
 cases Nat.beq (k %2) 0<;>rfl
theorem O0(k:Nat):Nat.beq (k %2) 0=decide (k %2=0):=by
 rw[Bool.eq_iff_iff];simp[Nat.beq_eq]
theorem KE(d:α)(f k:Nat)(x:α):CO d x (f +1) .nil (k +1)=bif Nat.beq (k %2) 0 then .node (CO d x f .nil (k/2)) d .nil else .node .nil d (CO d x f .nil (k/2)):=by
 show @Bool.rec (fun _=>Tr α) _ _ (Nat.beq (k %2) 0)=_
 cases Nat.beq (k %2) 0<;>rfl
theorem IW(d:α)(f k:Nat)(x:α)(l:Tr α)(v:α)(r:Tr α):CO d x (f +1) (.node l v r) (k +1)=bif Nat.beq (k %2) 0 then .node (CO d x f l (k/2)) v r else .node l v (CO d x f r (k/2)):=by
 show @Bool.rec (fun _=>Tr α) _ _ (Nat.beq (k %2) 0)=_
 cases Nat.beq (k %2) 0<;>rfl
theorem KF(d:α)(f:Nat):∀(t:Tr α)(k:Nat)(x:α)(j:Nat),k<f→
 (CO d x f t k).get d j=if j=k then x else t.get d j:=by
 induction f with
 |zero=>intro t k x j h;omega
 |succ f ih=>
  intro t k x j h
  cases k with
  |zero=>
   cases t with
   |nil=>
    show(Tr.node .nil x .nil).get d j=_
    cases j with
    |zero=>simp[su]
    |succ j=>rw[kY,get_nil,if_neg aa,get_nil];cases Nat.beq (j %2) 0<;>rfl
   |node l v r=>
    show(Tr.node l x r).get d j=_
    cases j with
    |zero=>simp[su]
    |succ j=>rw[kY,kY,if_neg aa]
  |succ k=>
   have hk:k/2<f:=by omega
   cases t with
   |nil=>
    rw[KE]
    cases j with
    |zero=>cases hb:Nat.beq (k %2) 0<;>simp[su,get_nil]
    |succ j=>
     by_cases hjk:j=k
     ·subst hjk
      cases hb:Nat.beq (j %2) 0<;>simp only[cond_true,cond_false,kY,hb,ih _ _ _ _ hk,if_true]
     ·rw[if_neg aa]
      cases hb:Nat.beq (k %2) 0<;>cases hc:Nat.beq (j %2) 0<;>simp only[cond_true,cond_false,kY,hc,get_nil]
      ·rw[ih _ _ _ _ hk,if_neg,get_nil]
       rw[O0]at hb hc
       simp at hb hc;omega
      ·rw[ih _ _ _ _ hk,if_neg,get_nil]
       rw[O0]at hb hc
       simp at hb hc;omega
   |node l v r=>
    rw[IW]
    cases j with
    |zero=>cases hb:Nat.beq (k %2) 0<;>simp[su]
    |succ j=>
     by_cases hjk:j=k
     ·subst hjk
      cases hb:Nat.beq (j %2) 0<;>simp only[cond_true,cond_false,kY,hb,ih _ _ _ _ hk,if_true]
     ·rw[if_neg aa]
      cases hb:Nat.beq (k %2) 0<;>cases hc:Nat.beq (j %2) 0<;>simp only[cond_true,cond_false,kY,hc]
      ·rw[ih _ _ _ _ hk,if_neg]
       rw[O0]at hb hc
       simp at hb hc;omega
      ·rw[ih _ _ _ _ hk,if_neg]
       rw[O0]at hb hc
       simp at hb hc;omega
theorem gQ(d:α)(t:Tr α)(k:Nat)(x:α)(j:Nat):(t.set d k x).get d j=if j=k then x else t.get d j:=
 KF d (k +1) t k x j aa
def iH(d:α)(l:List α):Nat→Tr α→Tr α:=
 @List.rec α (fun _=>Nat→Tr α→Tr α) (fun _ t=>t) (fun x _ ih k t=>ih (Nat.succ k) (t.set d k x)) l
theorem O1(d:α)(k:Nat)(t:Tr α):iH d [] k t=t:=rfl
theorem KH(d:α)(x:α)(l:List α)(k:Nat)(t:Tr α):iH d (x::l) k t=iH d l (k +1) (t.set d k x):=rfl
theorem cz(d:α):∀(l:List α)(k:Nat)(t:Tr α)(j:Nat),
 (iH d l k t).get d j=if k≤j∧j<k +l.length then l.getD (j -k) d else t.get d j:=by
 intro l
 induction l with
 |nil=>intro k t j;simp[O1];intro h1 h2;omega
 |cons x l ih=>
  intro k t j
  simp only[KH,ih,gQ,List.length_cons]
  by_cases h:k +1≤j∧j<k +1 +l.length
  ·rw[if_pos h,if_pos aa,show j -k=(j -(k +1)) +1 from by omega];rfl
  ·rw[if_neg h]
   by_cases hj:j=k
   ·subst hj;simp
   ·rw[if_neg hj,if_neg aa]
def vz(d:α)(t:Tr α)(k n:Nat):List α:=
 @Nat.rec (fun _=>Nat→List α) (fun _=>[]) (fun _ ih k=>t.get d k::ih (Nat.succ k)) n k
theorem xx(d:α)(t:Tr α)(k:Nat):vz d t k 0=[]:=rfl
theorem mV(d:α)(t:Tr α)(k n:Nat):vz d t k (n +1)=t.get d k::vz d t (k +1) n:=rfl
end Tr
def ah{α β:Type}(o:Option α)(k:α→Option β):Option β:=
 @Option.rec α (fun _=>(α→Option β)→Option β) (fun _=>none) (fun x k=>k x) o k
theorem xy{α β:Type}(x:α)(k:α→Option β):ah (some x) k=k x:=rfl
theorem ae{α β:Type}{o:Option α}{k:α→Option β}{r:β}(h:ah o k=some r):∃x,o=some x∧k x=some r:=by
 cases o with
 |none=>cases h
 |some x=>exact⟨x,rfl,h⟩
def gd{β:Type}(b:Bool)(o:Option β):Option β:=
 @Bool.rec (fun _=>Option β→Option β) (fun _=>none) (fun o=>o) b o
theorem aB{β:Type}{b:Bool}{o:Option β}{r:β}(h:gd b o=some r):b=true∧o=some r:=by
 cases b with
 |false=>cases h
 |true=>exact⟨rfl,h⟩
theorem lT{β:Type}(o:Option β):gd true o=o:=rfl
def au{β:Type}(b:Bool)(x y:β):β:=@Bool.rec (fun _=>β→β→β) (fun _ y=>y) (fun x _=>x) b x y
theorem dP{β:Type}(x y:β):au true x y=x:=rfl
theorem bL{β:Type}(x y:β):au false x y=y:=rfl
def nth{α:Type}(l:List α):Nat→Option α:=
 @List.rec α (fun _=>Nat→Option α) (fun _=>none) (fun x _ ih k=>@Nat.rec (fun _=>Option α) (some x) (fun k _=>ih k) k) l
theorem cB{α:Type}(l:List α):∀k,nth l k=l[k]?:=by
 induction l with
 |nil=>intro k;cases k<;>rfl
 |cons x l ih=>intro k;cases k with
  |zero=>rfl
  |succ k=>exact(ih k).trans (by simp)
def len{α:Type}(l:List α):Nat:=@List.rec α (fun _=>Nat) 0 (fun _ _ n=>Nat.succ n) l
theorem aJ{α:Type}(l:List α):len l=l.length:=by
 induction l with
 |nil=>rfl
 |cons x l ih=>exact congrArg Nat.succ ih
def mp{α β:Type}(f:α→β)(l:List α):List β:=@List.rec α (fun _=>List β) [] (fun x _ r=>f x::r) l
theorem qL{α β:Type}(f:α→β)(l:List α):mp f l=l.map f:=by
 induction l with
 |nil=>rfl
 |cons x l ih=>exact congrArg (f x::·) ih
def app{α:Type}(a b:List α):List α:=@List.rec α (fun _=>List α) b (fun x _ r=>x::r) a
theorem fV{α:Type}(a b:List α):app a b=a++b:=by
 induction a with
 |nil=>rfl
 |cons x l ih=>exact congrArg (x::·) ih
def all'{α:Type}(f:α→Bool)(l:List α):Bool:=@List.rec α (fun _=>Bool) true (fun x _ r=>au (f x) r false) l
theorem all_eq{α:Type}(f:α→Bool)(l:List α):all' f l=l.all f:=by
 induction l with
 |nil=>rfl
 |cons x l ih=>
  show au (f x) (all' f l) false=_
  rw[ih,List.all_cons];cases f x<;>rfl
def tk{α:Type}(n:Nat):List α→List α:=@Nat.rec (fun _=>List α→List α) (fun _=>[]) (fun _ ih l=>@List.rec α (fun _=>List α) [] (fun x r _=>x::ih r) l) n
theorem vB{α:Type}(n:Nat):∀(l:List α),tk n l=l.take n:=by
 induction n with
 |zero=>intro l;show[]=l.take 0;simp
 |succ n ih=>intro l;cases l with
  |nil=>rfl
  |cons x l=>exact congrArg (x::·) (ih l)
def dp{α:Type}(n:Nat):List α→List α:=@Nat.rec (fun _=>List α→List α) (fun l=>l) (fun _ ih l=>@List.rec α (fun _=>List α) [] (fun _ r _=>ih r) l) n
theorem zZ{α:Type}(n:Nat):∀(l:List α),dp n l=l.drop n:=by
 induction n with
 |zero=>intro l;rfl
 |succ n ih=>intro l;cases l with
  |nil=>rfl
  |cons x l=>exact ih l
structure Row where
 ty:TypeId
 cells:Tr Value
 n:Nat
 bX:Bool
 fz:Nat
inductive bR where
 |dead
 |row(r:Row)
 |map(es:List (Value×Value))
 |oM(s:ByteArray)(pos:Nat)
def jy(o:bR):Option Row:=@bR.rec (fun _=>Option Row) none (fun r=>some r) (fun _=>none) (fun _ _=>none) o
def xz(o:bR):Option (List (Value×Value)):=@bR.rec (fun _=>Option (List (Value×Value))) none (fun _=>none) (fun m=>some m) (fun _ _=>none) o
def UW(o:bR):Option (ByteArray×Nat):=@bR.rec (fun _=>Option (ByteArray×Nat)) none (fun _=>none) (fun _=>none) (fun s p=>some (s,p)) o
theorem iN{o:bR}{r:Row}(h:jy o=some r):o=.row r:=by cases o<;>cases h;rfl
theorem lU{o:bR}{r:List (Value×Value)}(h:xz o=some r):o=.map r:=by cases o<;>cases h;rfl
theorem O3{o:bR}{r:ByteArray×Nat}(h:UW o=some r):o=.oM r.1 r.2:=by cases o<;>cases h;rfl
def top:Value:=.chan (some 0)
structure ag where
 jc:Tr bR
 next:Nat
 low:Nat
def ag.obj(H:ag)(r:Nat):bR:=H.jc.get .dead r
def ag.put(H:ag)(r:Nat)(o:bR):ag:=⟨H.jc.set .dead r o,H.next,au (Nat.ble H.low r) H.low r⟩
def ag.new(H:ag)(o:bR):ag:=⟨H.jc.set .dead H.next o,Nat.succ H.next,H.low⟩
def rowOf(ty:TypeId)(vs:List Value):bR:=.row ⟨ty,Tr.iH top vs 0 .nil,len vs,false,0⟩
def bH(es:Nat):Nat:=Nat.add 18446744073709551616 es
def aP(c:Nat):Bool:=Nat.ble c 9223372036854775807
def aN(v:Value):Bool:=
 @Value.rec (fun _=>Bool) (fun _=>PUnit) (fun _=>PUnit)
  (fun _=>true)
  (fun _ _=>true)
  (fun _ _=>true)
  (fun _ _ _=>true)
  (fun _=>true)
  (fun _=>true)
  (fun _ _ _=>true)
  (fun _=>true)
  (fun r=>false)
  (fun _ _ _ _ _=>true)
  (true)
  (fun _ _ _=>true)
  (true)
  (fun cs _=>false)
  (fun vs _=>false)
  (fun _ _=>⟨⟩) ⟨⟩ (fun _ _ _ _=>⟨⟩) v
def mq(v:Value):Bool:=
 @Value.rec (fun _=>Bool) (fun _=>PUnit) (fun _=>PUnit)
  (fun _=>true)
  (fun _ _=>true)
  (fun _ _=>true)
  (fun _ _ _=>true)
  (fun _=>true)
  (fun _=>true)
  (fun _ _ _=>true)
  (fun _=>true)
  (fun r=>false)
  (fun _ _ _ _ _=>true)
  (true)
  (fun _ _ _=>true)
  (true)
  (fun _ _=>true)
  (fun _ _=>true)
  (fun _ _=>⟨⟩) ⟨⟩ (fun _ _ _ _=>⟨⟩) v
def fH(v:Value):Option Addr:=
 @Value.rec (fun _=>Option Addr) (fun _=>PUnit) (fun _=>PUnit)
  (fun _=>none)
  (fun _ _=>none)
  (fun _ _=>none)
  (fun _ _ _=>none)
  (fun _=>none)
  (fun a=>a)
  (fun _ _ _=>none)
  (fun _=>none)
  (fun _=>none)
  (fun _ _ _ _ _=>none)
  (none)
  (fun _ _ _=>none)
  (none)
  (fun _ _=>none)
  (fun _ _=>none)
  (fun _ _=>⟨⟩) ⟨⟩ (fun _ _ _ _=>⟨⟩) v
def bE(v:Value):Option Bool:=
 @Value.rec (fun _=>Option Bool) (fun _=>PUnit) (fun _=>PUnit)
  (fun b=>some b)
  (fun _ _=>none)
  (fun _ _=>none)
  (fun _ _ _=>none)
  (fun _=>none)
  (fun _=>none)
  (fun _ _ _=>none)
  (fun _=>none)
  (fun _=>none)
  (fun _ _ _ _ _=>none)
  (none)
  (fun _ _ _=>none)
  (none)
  (fun _ _=>none)
  (fun _ _=>none)
  (fun _ _=>⟨⟩) ⟨⟩ (fun _ _ _ _=>⟨⟩) v
def gW(v:Value):Option (IntKind×Int):=
 @Value.rec (fun _=>Option (IntKind×Int)) (fun _=>PUnit) (fun _=>PUnit)
  (fun _=>none)
  (fun k n=>some (k,n))
  (fun _ _=>none)
  (fun _ _ _=>none)
  (fun _=>none)
  (fun _=>none)
  (fun _ _ _=>none)
  (fun _=>none)
  (fun _=>none)
  (fun _ _ _ _ _=>none)
  (none)
  (fun _ _ _=>none)
  (none)
  (fun _ _=>none)
  (fun _ _=>none)
  (fun _ _=>⟨⟩) ⟨⟩ (fun _ _ _ _=>⟨⟩) v
def wG(n:Int):Option Nat:=@Int.rec (fun _=>Option Nat) (fun m=>some m) (fun _=>none) n
def mW(v:Value):Option Nat:=
 @Value.rec (fun _=>Option Nat) (fun _=>PUnit) (fun _=>PUnit)
  (fun _=>none)
  (fun k n=>wG n)
  (fun _ _=>none)
  (fun _ _ _=>none)
  (fun _=>none)
  (fun _=>none)
  (fun _ _ _=>none)
  (fun _=>none)
  (fun _=>none)
  (fun _ _ _ _ _=>none)
  (none)
  (fun _ _ _=>none)
  (none)
  (fun _ _=>none)
  (fun _ _=>none)
  (fun _ _=>⟨⟩) ⟨⟩ (fun _ _ _ _=>⟨⟩) v
def XM(v:Value):Option (FloatKind×Nat×Nat):=
 @Value.rec (fun _=>Option (FloatKind×Nat×Nat)) (fun _=>PUnit) (fun _=>PUnit)
  (fun _=>none)
  (fun _ _=>none)
  (fun _ _=>none)
  (fun k x y=>some (k,x,y))
  (fun _=>none)
  (fun _=>none)
  (fun _ _ _=>none)
  (fun _=>none)
  (fun _=>none)
  (fun _ _ _ _ _=>none)
  (none)
  (fun _ _ _=>none)
  (none)
  (fun _ _=>none)
  (fun _ _=>none)
  (fun _ _=>⟨⟩) ⟨⟩ (fun _ _ _ _=>⟨⟩) v
def XN(v:Value):Option (FloatKind×Nat):=
 @Value.rec (fun _=>Option (FloatKind×Nat)) (fun _=>PUnit) (fun _=>PUnit)
  (fun _=>none)
  (fun _ _=>none)
  (fun k b=>some (k,b))
  (fun _ _ _=>none)
  (fun _=>none)
  (fun _=>none)
  (fun _ _ _=>none)
  (fun _=>none)
  (fun _=>none)
  (fun _ _ _ _ _=>none)
  (none)
  (fun _ _ _=>none)
  (none)
  (fun _ _=>none)
  (fun _ _=>none)
  (fun _ _=>⟨⟩) ⟨⟩ (fun _ _ _ _=>⟨⟩) v
def Gq(k:FloatKind):Nat:=@FloatKind.rec (fun _=>Nat) 0 1 k
def gX(v:Value):Option ByteArray:=
 @Value.rec (fun _=>Option ByteArray) (fun _=>PUnit) (fun _=>PUnit)
  (fun _=>none)
  (fun _ _=>none)
  (fun _ _=>none)
  (fun _ _ _=>none)
  (fun s=>some s)
  (fun _=>none)
  (fun _ _ _=>none)
  (fun _=>none)
  (fun _=>none)
  (fun _ _ _ _ _=>none)
  (none)
  (fun _ _ _=>none)
  (none)
  (fun _ _=>none)
  (fun _ _=>none)
  (fun _ _=>⟨⟩) ⟨⟩ (fun _ _ _ _=>⟨⟩) v
def wH(v:Value):Option (Option Addr×Nat×Nat):=
 @Value.rec (fun _=>Option (Option Addr×Nat×Nat)) (fun _=>PUnit) (fun _=>PUnit)
  (fun _=>none)
  (fun _ _=>none)
  (fun _ _=>none)
  (fun _ _ _=>none)
  (fun _=>none)
  (fun _=>none)
  (fun a l c=>some (a,l,c))
  (fun _=>none)
  (fun _=>none)
  (fun _ _ _ _ _=>none)
  (none)
  (fun _ _ _=>none)
  (none)
  (fun _ _=>none)
  (fun _ _=>none)
  (fun _ _=>⟨⟩) ⟨⟩ (fun _ _ _ _=>⟨⟩) v
def uA(v:Value):Option (Option Nat):=
 @Value.rec (fun _=>Option (Option Nat)) (fun _=>PUnit) (fun _=>PUnit)
  (fun _=>none)
  (fun _ _=>none)
  (fun _ _=>none)
  (fun _ _ _=>none)
  (fun _=>none)
  (fun _=>none)
  (fun _ _ _=>none)
  (fun r=>some r)
  (fun _=>none)
  (fun _ _ _ _ _=>none)
  (none)
  (fun _ _ _=>none)
  (none)
  (fun _ _=>none)
  (fun _ _=>none)
  (fun _ _=>⟨⟩) ⟨⟩ (fun _ _ _ _=>⟨⟩) v
def Gr(f:Fn):Option FuncId:=@Fn.rec (fun _=>Option FuncId) (fun f=>some f) (fun _=>none) (fun _ _=>none) (fun _ _ _ _=>none) (fun _=>none) f
def Ku(v:Value):Option (Fn×List Value×List Value):=
 @Value.rec (fun _=>Option (Fn×List Value×List Value)) (fun _=>PUnit) (fun _=>PUnit)
  (fun _=>none)
  (fun _ _=>none)
  (fun _ _=>none)
  (fun _ _ _=>none)
  (fun _=>none)
  (fun _=>none)
  (fun _ _ _=>none)
  (fun _=>none)
  (fun _=>none)
  (fun f x y _ _=>some (f,x.toList,y.toList))
  (none)
  (fun _ _ _=>none)
  (none)
  (fun _ _=>none)
  (fun _ _=>none)
  (fun _ _=>⟨⟩) ⟨⟩ (fun _ _ _ _=>⟨⟩) v
def jq(v:Value):Option (List Value):=
 @Value.rec (fun _=>Option (List Value)) (fun _=>PUnit) (fun _=>PUnit)
  (fun _=>none)
  (fun _ _=>none)
  (fun _ _=>none)
  (fun _ _ _=>none)
  (fun _=>none)
  (fun _=>none)
  (fun _ _ _=>none)
  (fun _=>none)
  (fun _=>none)
  (fun _ _ _ _ _=>none)
  (none)
  (fun _ _ _=>none)
  (none)
  (fun cs _=>some cs.toList)
  (fun _ _=>none)
  (fun _ _=>⟨⟩) ⟨⟩ (fun _ _ _ _=>⟨⟩) v
def KI(v:Value):Option (List Value):=
 @Value.rec (fun _=>Option (List Value)) (fun _=>PUnit) (fun _=>PUnit)
  (fun _=>none)
  (fun _ _=>none)
  (fun _ _=>none)
  (fun _ _ _=>none)
  (fun _=>none)
  (fun _=>none)
  (fun _ _ _=>none)
  (fun _=>none)
  (fun _=>none)
  (fun _ _ _ _ _=>none)
  (none)
  (fun _ _ _=>none)
  (none)
  (fun _ _=>none)
  (fun vs _=>some vs.toList)
  (fun _ _=>⟨⟩) ⟨⟩ (fun _ _ _ _=>⟨⟩) v
def nM(v:Value):Option (TypeId×Value):=
 @Value.rec (fun _=>Option (TypeId×Value)) (fun _=>PUnit) (fun _=>PUnit)
  (fun _=>none)
  (fun _ _=>none)
  (fun _ _=>none)
  (fun _ _ _=>none)
  (fun _=>none)
  (fun _=>none)
  (fun _ _ _=>none)
  (fun _=>none)
  (fun _=>none)
  (fun _ _ _ _ _=>none)
  (none)
  (fun t v _=>some (t,v))
  (none)
  (fun _ _=>none)
  (fun _ _=>none)
  (fun _ _=>⟨⟩) ⟨⟩ (fun _ _ _ _=>⟨⟩) v
def aD{α:Type}(o:Option α):Bool:=@Option.rec α (fun _=>Bool) true (fun _=>false) o
def fZ(v:Value):Nat×Bool:=
 @Value.rec (fun _=>Nat×Bool) (fun _=>PUnit) (fun _=>PUnit)
  (fun _=>(0,false))
  (fun _ _=>(0,false))
  (fun _ _=>(0,false))
  (fun _ _ _=>(0,false))
  (fun _=>(0,false))
  (fun a=>(1,aD a))
  (fun a l c=>(2,aD a))
  (fun r=>(3,aD r))
  (fun _=>(0,false))
  (fun f x y _ _=>(4,false))
  ((4,true))
  (fun t v _=>(5,false))
  ((5,true))
  (fun _ _=>(0,false))
  (fun _ _=>(0,false))
  (fun _ _=>⟨⟩) ⟨⟩ (fun _ _ _ _=>⟨⟩) v
def xA(v:Value):Bool:=
 @Value.rec (fun _=>Bool) (fun _=>PUnit) (fun _=>PUnit)
  (fun _=>false)
  (fun _ _=>false)
  (fun _ _=>false)
  (fun _ _ _=>false)
  (fun _=>false)
  (fun a=>aD a)
  (fun _ _ _=>false)
  (fun r=>aD r)
  (fun _=>false)
  (fun _ _ _ _ _=>false)
  (true)
  (fun _ _ _=>false)
  (true)
  (fun _ _=>false)
  (fun _ _=>false)
  (fun _ _=>⟨⟩) ⟨⟩ (fun _ _ _ _=>⟨⟩) v
def iO{α:Type}(o:Option α):Bool:=@Option.rec α (fun _=>Bool) false (fun _=>true) o
def ax(v:Value):List Value:=@Option.rec (List Value) (fun _=>List Value) [v] (fun l=>l) (jq v)
def dD(v:Value):Bool:=
 @Value.rec (fun _=>Bool) (fun _=>PUnit) (fun _=>PUnit)
  (fun b=>true)
  (fun k n=>true)
  (fun k b=>true)
  (fun k x y=>true)
  (fun s=>true)
  (fun a=>aD a)
  (fun a l c=>aD a&&Nat.beq l 0&&Nat.beq c 0)
  (fun r=>aD r)
  (fun _=>false)
  (fun _ _ _ _ _=>false)
  (true)
  (fun _ _ _=>false)
  (true)
  (fun _ _=>false)
  (fun _ _=>false)
  (fun _ _=>⟨⟩) ⟨⟩ (fun _ _ _ _=>⟨⟩) v
def jU(d:TypeDesc):Nat:=
 @TypeDesc.rec (fun _=>Nat)
  (0) (0) (fun _=>0) (fun _=>0) (fun _=>0) (0) (0) (fun e=>1) (fun e=>2) (fun _ _=>0) (fun k e=>3) (fun _ _=>0) (fun _=>0) (fun p r v=>4) (fun ms=>5) (fun _=>0) (fun _ _=>0) d
def X5(d:TypeDesc):Option TypeId:=
 @TypeDesc.rec (fun _=>Option TypeId)
  (none) (none) (fun _=>none) (fun _=>none) (fun _=>none) (none) (none) (fun _=>none) (fun e=>some e) (fun _ _=>none) (fun _ _=>none) (fun _ _=>none) (fun _=>none) (fun _ _ _=>none) (fun _=>none) (fun _=>none) (fun _ _=>none) d
def sw(d:TypeDesc):Option TypeId:=
 @TypeDesc.rec (fun _=>Option TypeId)
  (none) (none) (fun _=>none) (fun _=>none) (fun _=>none) (none) (none) (fun e=>some e) (fun _=>none) (fun _ _=>none) (fun _ _=>none) (fun _ _=>none) (fun _=>none) (fun _ _ _=>none) (fun _=>none) (fun _=>none) (fun _ _=>none) d
def CP(d:TypeDesc):Option (Nat×TypeId):=
 @TypeDesc.rec (fun _=>Option (Nat×TypeId))
  (none) (none) (fun _=>none) (fun _=>none) (fun _=>none) (none) (none) (fun _=>none) (fun _=>none) (fun n e=>some (n,e)) (fun _ _=>none) (fun _ _=>none) (fun _=>none) (fun _ _ _=>none) (fun _=>none) (fun _=>none) (fun _ _=>none) d
def SE(d:TypeDesc):Option (TypeId×TypeId):=
 @TypeDesc.rec (fun _=>Option (TypeId×TypeId))
  (none) (none) (fun _=>none) (fun _=>none) (fun _=>none) (none) (none) (fun _=>none) (fun _=>none) (fun _ _=>none) (fun k e=>some (k,e)) (fun _ _=>none) (fun _=>none) (fun _ _ _=>none) (fun _=>none) (fun _=>none) (fun _ _=>none) d
def Bf(d:TypeDesc):Option (List Field):=
 @TypeDesc.rec (fun _=>Option (List Field))
  (none) (none) (fun _=>none) (fun _=>none) (fun _=>none) (none) (none) (fun _=>none) (fun _=>none) (fun _ _=>none) (fun _ _=>none) (fun _ _=>none) (fun fs=>some fs.toList) (fun _ _ _=>none) (fun _=>none) (fun _=>none) (fun _ _=>none) d
def oG(d:TypeDesc):Bool:=
 @TypeDesc.rec (fun _=>Bool)
  (false) (false) (fun _=>false) (fun _=>false) (fun _=>false) (true) (false) (fun _=>false) (fun _=>false) (fun _ _=>false) (fun _ _=>false) (fun _ _=>false) (fun _=>false) (fun _ _ _=>false) (fun _=>false) (fun _=>false) (fun _ _=>false) d
def EJ(d:TypeDesc):Bool:=
 @TypeDesc.rec (fun _=>Bool)
  (false) (false) (fun _=>false) (fun _=>false) (fun _=>false) (false) (false) (fun _=>false) (fun _=>false) (fun _ _=>false) (fun _ _=>false) (fun _ _=>false) (fun _=>false) (fun _ _ _=>false) (fun ms=>true) (fun _=>false) (fun _ _=>false) d
def sD(d:TypeDesc):Bool:=
 @TypeDesc.rec (fun _=>Bool)
  (false) (false) (fun _=>false) (fun _=>false) (fun _=>false) (false) (true) (fun _=>false) (fun _=>false) (fun _ _=>false) (fun _ _=>false) (fun _ _=>false) (fun _=>false) (fun _ _ _=>false) (fun _=>false) (fun _=>false) (fun _ _=>false) d
def zD(d:TypeDesc):Option IntKind:=
 @TypeDesc.rec (fun _=>Option IntKind)
  (none) (none) (fun k=>some k) (fun _=>none) (fun _=>none) (none) (none) (fun _=>none) (fun _=>none) (fun _ _=>none) (fun _ _=>none) (fun _ _=>none) (fun _=>none) (fun _ _ _=>none) (fun _=>none) (fun _=>none) (fun _ _=>none) d
def uB(d:TypeDesc):Option FloatKind:=
 @TypeDesc.rec (fun _=>Option FloatKind)
  (none) (none) (fun _=>none) (fun k=>some k) (fun _=>none) (none) (none) (fun _=>none) (fun _=>none) (fun _ _=>none) (fun _ _=>none) (fun _ _=>none) (fun _=>none) (fun _ _ _=>none) (fun _=>none) (fun _=>none) (fun _ _=>none) d
def EK(d:TypeDesc):Bool:=
 @TypeDesc.rec (fun _=>Bool)
  (false) (false) (fun _=>false) (fun _=>false) (fun _=>false) (false) (false) (fun _=>false) (fun _=>false) (fun n e=>true) (fun _ _=>false) (fun _ _=>false) (fun fs=>true) (fun _ _ _=>false) (fun _=>false) (fun _=>false) (fun _ _=>false) d
def gF(d:TypeDesc):Nat:=
 @TypeDesc.rec (fun _=>Nat)
  (0) (2) (fun k=>1) (fun _=>0) (fun _=>0) (3) (0) (fun _=>0) (fun _=>0) (fun _ _=>0) (fun _ _=>0) (fun _ _=>0) (fun _=>0) (fun _ _ _=>0) (fun _=>0) (fun _=>0) (fun _ _=>0) d
def wI(k:IntKind):Bool:=@IntKind.rec (fun _=>Bool) false false false false true false false false k
def mX(k:IntKind):Bool:=@IntKind.rec (fun _=>Bool) false false false true false false false false k
def fT(k:IntKind):Nat:=@IntKind.rec (fun _=>Nat) 0 1 2 3 4 5 6 7 k
def tI(P:Program)(t:TypeId):Option TypeInfo:=P.info? t
def je(P:Program)(t:TypeId):Option Nat:=ah (P.info? t) fun i=>some i.size
def z8(P:Program)(t:TypeId):Option (TypeId×Nat):=ah (P.underlying t) fun d=>ah (X5 d) fun e=>ah (je P e) fun s=>gd (Nat.ble 1 s) (some (e,s))
def CQ(P:Program)(t:TypeId):Option (Nat×TypeId×Nat):=ah (P.underlying t) fun d=>ah (CP d) fun e=>ah (je P e.2) fun s=>gd (Nat.ble 1 s) (some (e.1,e.2,s))
def Kv(P:Program)(t:TypeId):Option (Option Nat):=ah (P.underlying t) fun d=>ah (je P t) fun s=>some (au (EK d) (some s) none)
def qX(P:Program)(t:TypeId):Bool:=@Option.rec TypeDesc (fun _=>Bool) false oG (P.underlying t)
def vC(P:Program)(t:TypeId):Bool:=@Option.rec TypeDesc (fun _=>Bool) false (fun d=>@Option.rec IntKind (fun _=>Bool) false wI (zD d)) (P.underlying t)
def qH(P:Program)(t:TypeId):Option (TypeId×TypeId):=ah (P.underlying t) SE
def uC(v:Value):Bool:=@Option.rec (List Value) (fun _=>Bool) (dD v) (fun l=>all' dD l) (jq v)
def vD(P:Program)(t:TypeId):Option Value:=ah (P.info? t) fun i=>ah i.zero fun z=>gd (uC z) (some z)
def my(P:Program)(t:TypeId):Option (List Value):=ah (vD P t) fun z=>ah (je P t) fun s=>gd (Nat.beq (len (ax z)) s) (some (ax z))
def wW(P:Program)(t:TypeId):Option (List Field):=ah (P.underlying t) Bf
def EL(P:Program)(t:TypeId)(f:Nat):Option (Nat×Option Nat):=ah (wW P t) fun fs=>ah (nth fs f) fun fd=>ah (Kv P fd.type) fun l=>ah (je P fd.type) fun s=>gd (Nat.ble 1 s) (some (fd.offset,l))
def places(P:Program)(fs:List Field):Option (List (Nat×Nat)):=
 @List.rec Field (fun _=>Option (List (Nat×Nat))) (some []) (fun f _ r=>ah (je P f.type) fun s=>ah r fun l=>some ((f.offset,s)::l)) fs
def Gs(P:Program)(t:TypeId):Option (List (Nat×Nat)):=ah (wW P t) (places P)
def ag.cell(H:ag)(r off:Nat):Option Value:=ah (jy (H.obj r)) fun w=>gd (Nat.ble (Nat.succ off) w.n) (some (w.cells.get top off))
def ag.read(H:ag)(r off k:Nat):Option (List Value):=
 @Nat.rec (fun _=>Option (List Value)) (some []) (fun _ _=>ah (jy (H.obj r)) fun w=>gd (Nat.ble (Nat.add off k) w.n) (some (Tr.vz top w.cells off k))) k
def ag.write(H:ag)(r off:Nat)(vs:List Value):Option ag:=
 @List.rec Value (fun _=>Option ag) (some H) (fun _ _ _=>ah (jy (H.obj r)) fun w=>
  gd (!w.bX&&Nat.ble (Nat.add off (len vs)) w.n&&Nat.ble w.fz off&&all' aN vs)
   (some (H.put r (.row ⟨w.ty,Tr.iH top vs off w.cells,w.n,false,w.fz⟩)))) vs
def bD(s:Sem Value):Option Value:=match s with
 |.pure v=>gd (dD v) (some v)
 |_=>none
def zF(a b:Int):Bool:=
 @Int.rec (fun _=>Bool) (fun m=>@Int.rec (fun _=>Bool) (fun n=>Nat.ble (Nat.succ m) n) (fun _=>false) b)
  (fun m=>@Int.rec (fun _=>Bool) (fun _=>true) (fun n=>Nat.ble (Nat.succ n) m) b) a
def Kw(a b:Int):Bool:=
 @Int.rec (fun _=>Bool) (fun m=>@Int.rec (fun _=>Bool) (fun n=>Nat.beq m n) (fun _=>false) b)
  (fun m=>@Int.rec (fun _=>Bool) (fun _=>false) (fun n=>Nat.beq m n) b) a
def aT(k:IntKind)(n:Int):Int:=
 @Int.rec (fun _=>Int) (fun m=>au (mX k&&Nat.ble m 9223372036854775807) (.ofNat m) (k.wrap n)) (fun m=>au (mX k&&Nat.ble m 9223372036854775807) (.negSucc m) (k.wrap n)) n
def IX(op:BinOp):IntKind→Int→Int→Option Value:=
 @BinOp.rec (fun _=>IntKind→Int→Int→Option Value) (fun k a b=>some (.int k (aT k (Int.add a b)))) (fun k a b=>some (.int k (aT k (Int.sub a b)))) (fun k a b=>some (.int k (aT k (Int.mul a b)))) (fun k a b=>bD (Op.intDiv .quo k a b)) (fun k a b=>bD (Op.intDiv .rem k a b)) (fun k a b=>bD (Op.intBits .and k a b)) (fun k a b=>bD (Op.intBits .or k a b)) (fun k a b=>bD (Op.intBits .xor k a b)) (fun _ _ _=>none) (fun _ _ _=>none) (fun k a b=>bD (Op.intBits .andNot k a b)) (fun _ a b=>some (.bool (Kw a b))) (fun _ a b=>some (.bool (!(Kw a b)))) (fun _ a b=>some (.bool (zF a b))) (fun _ a b=>some (.bool (!(zF b a)))) (fun _ a b=>some (.bool (zF b a))) (fun _ a b=>some (.bool (!(zF a b)))) op
def kZ(op:BinOp):Nat:=@BinOp.rec (fun _=>Nat) (0) (0) (0) (0) (0) (0) (0) (0) (0) (0) (0) (1) (2) (0) (0) (0) (0) op
def wX(op:BinOp):Bool:=@BinOp.rec (fun _=>Bool) (false) (false) (false) (false) (false) (false) (false) (false) (true) (true) (false) (false) (false) (false) (false) (false) (false) op
def oz(a b:Bool):Bool:=au a b (!b)
def O4(l:List UInt8):List Nat:=mp (fun b=>b.toNat) l
def xB(l:List Nat):List Nat→Bool:=
 @List.rec Nat (fun _=>List Nat→Bool) (fun m=>@List.rec Nat (fun _=>Bool) true (fun _ _ _=>false) m)
  (fun x _ ih m=>@List.rec Nat (fun _=>Bool) false (fun y r _=>au (Nat.beq x y) (ih r) false) m) l
def gY(x y:ByteArray):Bool:=xB (O4 x.data.toList) (O4 y.data.toList)
def strLt(x y:ByteArray):Bool:=Op.bytesLess x.data.toList y.data.toList
def KJ(x y:ByteArray):Option Value:=
 gd (Nat.ble (Nat.add (len x.data.toList) (len y.data.toList)) 4611686018427387904) (some (.string ⟨⟨app x.data.toList y.data.toList⟩⟩))
def O5(op:BinOp):ByteArray→ByteArray→Option Value:=
 @BinOp.rec (fun _=>ByteArray→ByteArray→Option Value) (KJ) (fun _ _=>none) (fun _ _=>none) (fun _ _=>none) (fun _ _=>none) (fun _ _=>none) (fun _ _=>none) (fun _ _=>none) (fun _ _=>none) (fun _ _=>none) (fun _ _=>none) (fun a b=>some (.bool (gY a b))) (fun a b=>some (.bool (!(gY a b)))) (fun a b=>some (.bool (strLt a b))) (fun a b=>some (.bool (strLt a b||gY a b))) (fun a b=>some (.bool (!(strLt a b||gY a b)))) (fun a b=>some (.bool (!(strLt a b)))) op
def iQ(k:Nat)(x y:Value):Option Bool:=
 au (Nat.beq k 1) (ah (gW x) fun a=>ah (gW y) fun b=>gd (Nat.beq (fT a.1) (fT b.1)) (some (Kw a.2 b.2)))
  (au (Nat.beq k 2) (ah (bE x) fun a=>ah (bE y) fun b=>some (oz a b))
   (au (Nat.beq k 3) (ah (gX x) fun a=>ah (gX y) fun b=>some (gY a b)) none))
def fI(ks:List Nat):List Value→List Value→Option Bool:=
 @List.rec Nat (fun _=>List Value→List Value→Option Bool)
  (fun xs ys=>@List.rec Value (fun _=>Option Bool) (@List.rec Value (fun _=>Option Bool) (some true) (fun _ _ _=>none) ys) (fun _ _ _=>none) xs)
  (fun k _ ih xs ys=>@List.rec Value (fun _=>Option Bool) none (fun x xr _=>@List.rec Value (fun _=>Option Bool) none
   (fun y yr _=>ah (iQ k x y) fun b=>au b (ih xr yr) (some false)) ys) xs) ks
def f_(P:Program)(fs:List Field):Nat→Option (List Nat):=
 @List.rec Field (fun _=>Nat→Option (List Nat)) (fun _=>some [])
  (fun f _ ih k=>ah (P.underlying f.type) fun d=>ah (ih (Nat.succ k)) fun r=>gd (Nat.beq f.offset k&&!(f.name== "_")&&Nat.ble 1 (gF d)) (some (gF d::r))) fs
def KL{α:Type}(x:α)(n:Nat):List α:=@Nat.rec (fun _=>List α) [] (fun _ r=>x::r) n
def CR(P:Program)(t:TypeId):Option (List Nat):=ah (wW P t) fun fs=>gd (!(P.stoodInHeld t)) (f_ P fs 0)
def Q3(P:Program)(t:TypeId):Option (List Nat):=ah (P.underlying t) fun d=>ah (CP d) fun a=>ah (P.underlying a.2) fun e=>ah (je P a.2) fun s=>
 gd (Nat.beq s 1&&Nat.ble 1 (gF e)) (some (KL (gF e) a.1))
def orElse'{α:Type}(o q:Option α):Option α:=@Option.rec α (fun _=>Option α→Option α) (fun q=>q) (fun x _=>some x) o q
def UX(P:Program)(t:TypeId):Option (Sum Nat (List Nat)):=
 ah (P.underlying t) fun d=>au (Nat.ble 1 (gF d)) (some (.inl (gF d))) (ah (orElse' (CR P t) (Q3 P t)) fun l=>some (.inr l))
def gG(P:Program)(t:TypeId)(x y:Value):Option Bool:=
 ah (UX P t) fun q=>@Sum.rec Nat (List Nat) (fun _=>Option Bool) (fun k=>iQ k x y)
  (fun l=>ah (jq x) fun a=>ah (jq y) fun b=>fI l a b) q
def gZ(o:Operand):Bool:=
 @Operand.rec (fun _=>Bool) (fun _=>false) (fun v=>(fZ v).2) (fun _=>false) (fun _=>false) o
def uD(P:Program)(t:TypeId):Nat:=@Option.rec TypeDesc (fun _=>Nat) 0 jU (P.underlying t)
def z_(k:Nat)(c x:Value):Option Bool:=gd (Nat.ble 1 k&&Nat.beq (fZ x).1 k&&Nat.beq (fZ c).1 k) (some (fZ x).2)
def uE(P:Program)(t:TypeId):Bool:=
 @Option.rec Unit (fun _=>Bool) false (fun _=>true) (ah (P.underlying t) fun d=>ah (sw d) fun e=>ah (je P e) fun s=>gd (Nat.ble 1 s) (some ()))
def ptrEq(x y:Value):Option Bool:=ah (fH x) fun a=>ah (fH y) fun b=>gd (Nat.beq a.block b.block) (some (Nat.beq a.off b.off))
def SF(P:Program)(t:TypeId):Bool:=@Option.rec TypeInfo (fun _=>Bool) false (fun i=>i.comparable) (P.info? t)
def O6(P:Program)(t:TypeId)(x y:Value):Option Bool:=
 ah (P.underlying t) fun d=>gd (EJ d) (ah (nM x) fun a=>ah (nM y) fun b=>
  au (Nat.beq a.1 b.1) (gd (SF P a.1) (ah (P.underlying a.1) fun e=>gd (Nat.ble 1 (gF e)) (iQ (gF e) a.2 b.2))) (some false))
def Q4(P:Program)(t:TypeId)(ox oy:Operand)(x y:Value):Option Bool:=
 au (gZ oy) (z_ (uD P t) y x) (au (gZ ox) (z_ (uD P t) x y) (au (uE P t) (ptrEq x y) (orElse' (gG P t x y) (O6 P t x y))))
def sF(op:BinOp)(b:Option Bool):Option Value:=
 au (Nat.beq (kZ op) 1) (ah b fun b=>some (.bool b)) (au (Nat.beq (kZ op) 2) (ah b fun b=>some (.bool (!b))) none)
def KN(op:BinOp)(t:TypeId)(x y:Value):Option Value:=ah (gW x) fun _=>ah (gW y) fun _=>bD (binOp op t x y)
def jA(v:Value):Nat:=
 @Value.rec (fun _=>Nat) (fun _=>PUnit) (fun _=>PUnit)
  (fun _=>0)
  (fun _ _=>0)
  (fun k b=>1)
  (fun k x y=>2)
  (fun _=>0)
  (fun _=>0)
  (fun _ _ _=>0)
  (fun _=>0)
  (fun _=>0)
  (fun _ _ _ _ _=>0)
  (0)
  (fun _ _ _=>0)
  (0)
  (fun _ _=>0)
  (fun _ _=>0)
  (fun _ _=>⟨⟩) ⟨⟩ (fun _ _ _ _=>⟨⟩) v
def EM(op:BinOp)(t:TypeId)(x y:Value):Option Value:=gd (Nat.ble 1 (jA x)&&Nat.beq (jA x) (jA y)) (bD (binOp op t x y))
def bq(P:Program)(op:BinOp)(t:TypeId)(ox oy:Operand)(x y:Value):Option Value:=
 @Option.rec (IntKind×Int) (fun _=>Option Value)
  (@Option.rec ByteArray (fun _=>Option Value) (au (Nat.ble 1 (jA x)) (EM op t x y) (sF op (Q4 P t ox oy x y))) (fun a=>ah (gX y) fun b=>O5 op a b) (gX x))
  (fun a=>au (wX op) (KN op t x y) (ah (gW y) fun b=>gd (Nat.beq (fT a.1) (fT b.1)) (IX op a.1 a.2 b.2))) (gW x)
def oC(P:Program)(s d:TypeId)(x:Value):Option Value:=
 ah (P.underlying s) fun _=>ah (P.underlying d) fun e=>
  @Option.rec (IntKind×Int) (fun _=>Option Value) (ah (gX x) fun b=>gd (oG e) (some (.string b)))
   (fun a=>@Option.rec IntKind (fun _=>Option Value) (au (oG e) (some (.string (Utf8.encode a.2))) (ah (uB e) fun k=>bD (Conv.intToFloat k a.2))) (fun k=>some (.int k (aT k a.2))) (zD e)) (gW x)
def apart(l:Option Nat)(cs:List Value)(off:Nat):Option Value:=
 @Option.rec Nat (fun _=>Option Value) (nth cs off) (fun n=>gd (Nat.ble (Nat.add off n) (len cs)) (some (.agg ⟨tk n (dp off cs)⟩))) l
def dF(o:Option Value)(d:Nat):Option Nat:=@Option.rec Value (fun _=>Option Nat) (some d) mW o
def mY(m l off sz:Nat):Nat:=au (Nat.beq m l) off (Nat.add off (Nat.mul l sz))
def Bg(s:ByteArray)(lo hi:Option Value):Option Value:=
 ah (dF lo 0) fun l=>ah (dF hi (len s.data.toList)) fun h=>gd (Nat.ble l h&&Nat.ble h (len s.data.toList))
  (some (.string ⟨⟨tk (Nat.sub h l) (dp l s.data.toList)⟩⟩))
def Gt(sz:Nat)(p:Option Addr×Nat×Nat)(lo hi mx:Option Value):Option Value:=
 @Option.rec Addr (fun _=>Option Value)
  (ah (dF lo 0) fun l=>ah (dF hi 0) fun h=>ah (dF mx 0) fun m=>gd (Nat.beq l 0&&Nat.beq h 0&&Nat.beq m 0&&Nat.beq p.2.1 0&&Nat.beq p.2.2 0&&(!(aD hi)||aD mx)) (some (.slice none 0 0)))
  (fun a=>ah (dF lo 0) fun l=>ah (dF hi p.2.1) fun h=>
   au (aP p.2.2)
    (ah (dF mx p.2.2) fun m=>gd (Nat.ble l h&&Nat.ble h m&&Nat.ble m p.2.2&&(!(aD hi)||aD mx))
     (some (.slice (some ⟨a.block,mY m l a.off sz,none⟩) (Nat.sub h l) (Nat.sub m l))))
    (gd (Nat.beq p.2.2 (bH sz)) (@Option.rec Value (fun _=>Option Value)
     (gd (Nat.ble l h&&Nat.ble h p.2.1) (some (.slice (some ⟨a.block,Nat.add a.off (Nat.mul l sz),none⟩) (Nat.sub h l) p.2.2)))
     (fun mv=>ah (mW mv) fun m=>gd (Nat.ble l h&&Nat.ble h m&&Nat.ble m p.2.1&&!(aD hi)&&aP m)
      (some (.slice (some ⟨a.block,mY m l a.off sz,none⟩) (Nat.sub h l) (Nat.sub m l)))) mx))) p.1
def EN(n sz:Nat)(a:Addr)(lo hi mx:Option Value):Option Value:=
 ah (dF lo 0) fun l=>ah (dF hi n) fun h=>gd (Nat.ble l h&&Nat.ble h n&&aD mx&&aP n)
  (some (.slice (some ⟨a.block,mY n l a.off sz,none⟩) (Nat.sub h l) (Nat.sub n l)))
def k_(P:Program)(t:TypeId)(x:Value)(lo hi mx:Option Value):Option Value:=
 @Option.rec (TypeId×Nat) (fun _=>Option Value)
  (au (qX P t) (ah (gX x) fun s=>gd (aD mx) (Bg s lo hi)) (ah (CQ P t) fun q=>ah (fH x) fun a=>EN q.1 q.2.2 a lo hi mx))
  (fun q=>ah (wH x) fun p=>Gt q.2 p lo hi mx) (z8 P t)
def gm(P:Program)(t:TypeId)(x i:Value):Option Value:=
 ah (mW i) fun k=>@Option.rec (TypeId×Nat) (fun _=>Option Value)
  (ah (CQ P t) fun q=>ah (fH x) fun a=>gd (Nat.ble (Nat.succ k) q.1) (some (.pointer (some ⟨a.block,Nat.add a.off (Nat.mul k q.2.2),none⟩))))
  (fun q=>ah (wH x) fun p=>ah p.1 fun a=>gd (Nat.ble (Nat.succ k) p.2.1) (some (.pointer (some ⟨a.block,Nat.add a.off (Nat.mul k q.2),none⟩)))) (z8 P t)
def oN(P:Program)(t:TypeId)(x i:Value):Option Value:=
 ah (mW i) fun k=>au (qX P t)
  (ah (gX x) fun s=>ah (nth s.data.toList k) fun b=>some (.int .u8 (.ofNat b.toNat)))
  (ah (CQ P t) fun q=>ah (jq x) fun cs=>ah (Kv P q.2.1) fun l=>gd (Nat.ble (Nat.succ k) q.1) (apart l cs (Nat.mul k q.2.2)))
def g_(P:Program)(t:TypeId)(x:Value)(f:Nat):Option Value:=
 ah (fH x) fun a=>ah (EL P t f) fun q=>some (.pointer (some ⟨a.block,Nat.add a.off q.1,none⟩))
def oO(P:Program)(t:TypeId)(x:Value)(f:Nat):Option Value:=
 ah (jq x) fun cs=>ah (EL P t f) fun q=>apart q.2 cs q.1
def setAt{α:Type}(x:α)(k:Nat):List α→List α:=
 @Nat.rec (fun _=>List α→List α) (fun l=>@List.rec α (fun _=>List α) [] (fun _ r _=>x::r) l) (fun _ ih l=>@List.rec α (fun _=>List α) [] (fun y r _=>y::ih r) l) k
def uF(vs:List Value):Nat→List Value→List Value:=
 @List.rec Value (fun _=>Nat→List Value→List Value) (fun _ cs=>cs) (fun v _ ih k cs=>ih (Nat.succ k) (setAt v k cs)) vs
def qM(place:Nat→Option (Nat×Nat))(ps:List (Nat×Value)):List Value→Option (List Value):=
 @List.rec (Nat×Value) (fun _=>List Value→Option (List Value)) (fun cs=>some cs)
  (fun p _ ih cs=>ah (place p.1) fun q=>gd (mq p.2&&Nat.beq (len (ax p.2)) q.2&&Nat.ble (Nat.add q.1 q.2) (len cs)) (ih (uF (ax p.2) q.1 cs))) ps
def oP(P:Program)(t:TypeId)(ps:List (Nat×Value)):Option Value:=
 ah (my P t) fun z=>@Option.rec (List (Nat×Nat)) (fun _=>Option Value)
  (ah (CQ P t) fun q=>ah (qM (fun k=>some (Nat.mul k q.2.2,q.2.2)) ps z) fun cs=>some (.agg ⟨cs⟩))
  (fun pl=>ah (qM (nth pl) ps z) fun cs=>some (.agg ⟨cs⟩)) (Gs P t)
def jf(z:List Value)(n:Nat):List Value:=@Nat.rec (fun _=>List Value) [] (fun _ r=>app z r) n
def xC(c a b:Value):Option Value:=ah (bE c) fun t=>some (au t a b)
def Bh(x:Value):Option Value:=
 @Option.rec Addr (fun _=>Option Value) (ah (Ku x) fun f=>ah (Gr f.1) fun _=>some x) (fun _=>some x) (fH x)
def zG(P:Program)(t:TypeId)(x:Value):Option Value:=ah (P.underlying t) fun d=>gd (!(EJ d)) (some (.iface t x))
def jV(x:Value)(i:Nat):Option Value:=ah (KI x) fun l=>nth l i
def xD(P:Program)(t:TypeId)(x:Value):Option Value:=
 ah (P.underlying t) fun d=>au (oG d) (ah (gX x) fun s=>some (.int .i64 (.ofNat (len s.data.toList))))
  (au (Nat.beq (jU d) 2) (ah (wH x) fun p=>some (.int .i64 (.ofNat p.2.1)))
   (au (Nat.beq (jU d) 3) (ah (uA x) fun r=>gd (aD r) (some (.int .i64 0)))
    (ah (CP d) fun a=>some (.int .i64 (.ofNat a.1)))))
def xE(P:Program)(t:TypeId)(x:Value):Option Value:=
 ah (z8 P t) fun _=>ah (wH x) fun p=>gd (aP p.2.2) (some (.int .i64 (.ofNat p.2.2)))
def one(f:TypeId→Value→Option Value)(ats:List TypeId)(args:List Value):Option Value:=
 ah (nth ats 0) fun t=>ah (nth args 0) fun x=>f t x
def X6(b:Bool)(x y:Value):Option Value:=
 ah (gW x) fun p=>ah (gW y) fun q=>gd (Nat.beq (fT p.1) (fT q.1)) (some (au (au b (zF p.2 q.2) (zF q.2 p.2)) y x))
def XO(b:Bool)(l:List Value):Value→Option Value:=
 @List.rec Value (fun _=>Value→Option Value) (fun x=>some x) (fun y _ ih x=>ah (X6 b x y) ih) l
def KP(b:Bool)(args:List Value):Option Value:=@List.rec Value (fun _=>Option Value) none (fun x l _=>XO b l x) args
def CS(args:List Value):Option Value:=gd (Nat.beq (len args) 1) (ah (nth args 0) fun x=>ah (XM x) fun p=>some (.float p.1 p.2.1))
def CU(args:List Value):Option Value:=gd (Nat.beq (len args) 1) (ah (nth args 0) fun x=>ah (XM x) fun p=>some (.float p.1 p.2.2))
def oQ(args:List Value):Option Value:=gd (Nat.beq (len args) 2) (ah (nth args 0) fun x=>ah (nth args 1) fun y=>ah (XN x) fun p=>ah (XN y) fun q=>
 gd (Nat.beq (Gq p.1) (Gq q.1)) (some (.complex p.1 p.2 q.2)))
def xF(r:Nat):Value:=.pointer (some ⟨r,0,none⟩)
def oU(P:Program)(e:TypeId)(H:ag):Option (Value×ag):=
 ah (my P e) fun z=>some (xF H.next,H.new (rowOf e z))
def Bi(e:TypeId)(x:Value)(H:ag):Option (Value×ag):=gd (mq x) (some (xF H.next,H.new (rowOf e (ax x))))
def h_(P:Program)(t:TypeId)(n:Nat)(ps:List (Nat×Value))(H:ag):Option (Value×ag):=
 ah (z8 P t) fun q=>ah (my P q.1) fun z=>gd (Nat.ble (Nat.mul n q.2) 16777216)
  (ah (qM (fun k=>some (Nat.mul k q.2,q.2)) ps (jf z n)) fun cs=>some (.slice (some ⟨H.next,0,none⟩) n n,H.new (rowOf q.1 cs)))
def loadAt(l:Option Nat)(a:Addr)(H:ag):Option (Value×ag):=
 @Option.rec Nat (fun _=>Option (Value×ag)) (ah (H.cell a.block a.off) fun v=>some (v,H))
  (fun n=>ah (H.read a.block a.off n) fun vs=>some (.agg ⟨vs⟩,H)) l
def jg(P:Program)(t:TypeId)(x:Value)(H:ag):Option (Value×ag):=
 ah (fH x) fun a=>ah (Kv P t) fun l=>loadAt l a H
def lg(P:Program)(t:TypeId)(x v:Value)(H:ag):Option (Value×ag):=
 ah (fH x) fun a=>ah (je P t) fun s=>gd (Nat.beq (len (ax v)) s) (ah (H.write a.block a.off (ax v)) fun H'=>some (undef,H'))
def fA(l:List Value):Option (List UInt8):=
 @List.rec Value (fun _=>Option (List UInt8)) (some []) (fun v _ r=>ah (gW v) fun p=>ah (wG p.2) fun n=>gd (wI p.1&&Nat.ble n 255) (ah r fun bs=>some (UInt8.ofNat n::bs))) l
def dn(s:List UInt8):List Value:=mp (fun b=>.int .u8 (.ofNat b.toNat)) s
def qY(P:Program)(q:TypeId×Nat)(x:Value)(H:ag):Option (Value×ag):=
 ah (gX x) fun b=>gd (Nat.beq q.2 1&&vC P q.1)
  (some (.slice (some ⟨H.next,0,none⟩) (len b.data.toList) (bH 1),H.new (.row ⟨q.1,Tr.iH top (dn b.data.toList) 0 .nil,len b.data.toList,true,0⟩)))
def qZ(P:Program)(q:TypeId×Nat)(x:Value)(H:ag):Option (Value×ag):=
 ah (wH x) fun p=>gd (Nat.beq q.2 1&&vC P q.1) (@Option.rec Addr (fun _=>Option (Value×ag)) (some (.string ⟨⟨[]⟩⟩,H))
  (fun a=>ah (H.read a.block a.off p.2.1) fun l=>ah (fA l) fun bs=>some (.string ⟨⟨bs⟩⟩,H)) p.1)
def xG(P:Program)(t:TypeId)(x:Value)(H:ag):Option (Value×ag):=
 ah (fH x) fun a=>ah (je P t) fun s=>ah (jy (H.obj a.block)) fun w=>gd (Nat.ble 1 s&&Nat.ble (Nat.succ a.off) w.n) (some (x,H))
def xH(P:Program)(u:TypeId)(x:Value)(H:ag):Option (Value×ag):=
 ah (fH x) fun a=>ah (je P u) fun s=>ah (jy (H.obj a.block)) fun w=>
  gd (Nat.ble 1 s&&Nat.beq w.ty u&&Nat.beq a.off 0&&Nat.ble s w.n) (some (x,H))
def KQ(P:Program)(s d:TypeId):Option (Nat×TypeId×Nat):=ah (P.underlying s) fun x=>ah (P.underlying d) fun y=>
 au (oG x) (ah (z8 P d) fun q=>some (1,q)) (au (oG y) (ah (z8 P s) fun q=>some (2,q))
  (au (sD y) (ah (sw x) fun e=>some (3,e,0)) (au (sD x) (ah (sw y) fun e=>some (4,e,0)) none)))
def fK(P:Program)(s d:TypeId)(x:Value)(H:ag):Option (Value×ag):=
 ah (KQ P s d) fun q=>au (Nat.beq q.1 1) (qY P q.2 x H) (au (Nat.beq q.1 2) (qZ P q.2 x H)
  (au (Nat.beq q.1 3) (xG P q.2.1 x H) (xH P q.2.1 x H)))
def jW(P:Program)(t:TypeId)(r:Option Value)(H:ag):Option (Value×ag):=
 ah (qH P t) fun _=>gd (@Option.rec Value (fun _=>Bool) true (fun v=>!(aD (gW v))) r) (some (.map (some H.next),H.new (.map [])))
def fB(P:Program)(t:TypeId)(l c:Value)(H:ag):Option (Value×ag):=
 ah (z8 P t) fun q=>ah (tI P q.1) fun i=>ah (my P q.1) fun z=>ah (mW l) fun n=>ah (mW c) fun m=>
  gd (Nat.ble n m&&Nat.ble m 16777216&&Nat.ble i.bytes 1048576) (some (.slice (some ⟨H.next,0,none⟩) n m,H.new (rowOf q.1 (jf z m))))
def mapOf(H:ag)(x:Value):Option (List (Value×Value)):=
 ah (uA x) fun r=>@Option.rec Nat (fun _=>Option (List (Value×Value))) (some []) (fun r=>xz (H.obj r)) r
def jr(P:Program)(kt:TypeId)(k:Value)(es:List (Value×Value)):Nat→Option (Option (Nat×Value)):=
 @List.rec (Value×Value) (fun _=>Nat→Option (Option (Nat×Value))) (fun _=>some none)
  (fun e _ ih i=>ah (gG P kt k e.1) fun b=>au b (some (some (i,e.2))) (ih (Nat.succ i))) es
def UJ(ok:Bool)(v:Value)(b:Bool)(H:ag):Value×ag:=au ok (.tuple #[v,.bool b],H) (v,H)
def qN(P:Program)(t:TypeId)(k:Value):Option Unit:=ah (gG P t k k) fun b=>gd b (some ())
def kG(P:Program)(t:TypeId)(x k:Value)(ok:Bool)(H:ag):Option (Value×ag):=
 ah (qH P t) fun q=>ah (vD P q.2) fun z=>ah (mapOf H x) fun es=>ah (qN P q.1 k) fun _=>ah (jr P q.1 k es 0) fun f=>
  @Option.rec (Nat×Value) (fun _=>Option (Value×ag)) (some (UJ ok z false H)) (fun p=>some (UJ ok p.2 true H)) f
def gT(P:Program)(t:TypeId)(m k v:Value)(H:ag):Option (Value×ag):=
 ah (qH P t) fun q=>ah (uA m) fun mr=>ah mr fun r=>ah (xz (H.obj r)) fun es=>ah (qN P q.1 k) fun _=>ah (jr P q.1 k es 0) fun f=>
  @Option.rec (Nat×Value) (fun _=>Option (Value×ag)) (some (undef,H.put r (.map (app es [(k,v)])))) (fun p=>some (undef,H.put r (.map (setAt (k,v) p.1 es)))) f
def uG{α:Type}(k:Nat):List α→List α:=
 @Nat.rec (fun _=>List α→List α) (fun l=>@List.rec α (fun _=>List α) [] (fun _ r _=>r) l) (fun _ ih l=>@List.rec α (fun _=>List α) [] (fun y r _=>y::ih r) l) k
def sG(P:Program)(ats:List TypeId)(args:List Value)(H:ag):Option (Value×ag):=
 ah (nth ats 0) fun t=>ah (nth args 0) fun m=>ah (nth args 1) fun k=>ah (qH P t) fun q=>ah (uA m) fun mr=>ah mr fun r=>
  ah (xz (H.obj r)) fun es=>ah (qN P q.1 k) fun _=>ah (jr P q.1 k es 0) fun f=>
   some (.tuple #[],H.put r (.map (@Option.rec (Nat×Value) (fun _=>List (Value×Value)) es (fun p=>uG p.1 es) f)))
def appended(H:ag)(sz:Nat)(x:Value):Option (Nat×List Value):=
 @Option.rec ByteArray (fun _=>Option (Nat×List Value))
  (ah (wH x) fun p=>@Option.rec Addr (fun _=>Option (Nat×List Value)) (gd (Nat.beq p.2.1 0) (some (0,[])))
   (fun a=>ah (H.read a.block a.off (Nat.mul p.2.1 sz)) fun l=>some (p.2.1,l)) p.1)
  (fun s=>gd (Nat.beq sz 1) (some (len s.data.toList,dn s.data.toList))) (gX x)
def Aa(P:Program)(ats:List TypeId)(args:List Value)(H:ag):Option (Value×ag):=
 ah (nth ats 0) fun t=>ah (nth args 0) fun d=>ah (nth args 1) fun x=>ah (z8 P t) fun q=>ah (wH d) fun p=>ah (appended H q.2 x) fun e=>
  @Option.rec Addr (fun _=>Option (Value×ag)) (gd (Nat.beq p.2.1 0) (some (.int .i64 0,H)))
   (fun a=>ah (H.write a.block a.off (tk (Nat.mul (au (Nat.ble e.1 p.2.1) e.1 p.2.1) q.2) e.2)) fun H'=>some (.int .i64 (.ofNat (au (Nat.ble e.1 p.2.1) e.1 p.2.1)),H')) p.1
def Gu(P:Program)(ats:List TypeId)(args:List Value)(H:ag):Option (Value×ag):=
 ah (nth ats 0) fun t=>ah (nth args 0) fun d=>ah (z8 P t) fun q=>ah (my P q.1) fun z=>ah (wH d) fun p=>
  @Option.rec Addr (fun _=>Option (Value×ag)) (some (.tuple #[],H))
   (fun a=>ah (H.write a.block a.off (jf z p.2.1)) fun H'=>some (.tuple #[],H')) p.1
def Gv(P:Program)(mr:Option Nat)(ats:List TypeId)(H:ag):Option (Value×ag):=
 ah (nth ats 0) fun t=>ah (qH P t) fun _=>@Option.rec Nat (fun _=>Option (Value×ag)) (some (.tuple #[],H))
  (fun r=>ah (xz (H.obj r)) fun _=>some (.tuple #[],H.put r (.map []))) mr
def uH(P:Program)(ats:List TypeId)(args:List Value)(H:ag):Option (Value×ag):=
 @Option.rec (Option Nat) (fun _=>Option (Value×ag)) (Gu P ats args H) (fun mr=>Gv P mr ats H) (ah (nth args 0) uA)
def xI(P:Program)(ats:List TypeId)(args:List Value)(H:ag):Option (Value×ag):=
 ah (nth ats 0) fun t=>ah (nth args 0) fun x=>ah (qH P t) fun _=>ah (mapOf H x) fun es=>some (.int .i64 (.ofNat (len es)),H)
def sH(args:List Value)(H:ag):Option (Value×ag):=
 gd (Nat.beq (len args) 1) (ah (nth args 0) fun x=>ah (wH x) fun p=>@Option.rec Addr (fun _=>Option (Value×ag)) (some (.pointer none,H))
  (fun a=>gd (Nat.ble 1 p.2.1||(aP p.2.2&&Nat.ble 1 p.2.2)) (some (.pointer (some a),H))) p.1)
def Gw(P:Program)(pt:TypeId)(a:Addr)(n:Nat)(H:ag):Option (Value×ag):=
 ah (P.underlying pt) fun d=>ah (sw d) fun e=>ah (je P e) fun s=>ah (jy (H.obj a.block)) fun w=>
  gd (vC P e&&Nat.beq w.ty e&&Nat.beq s 1&&Nat.ble (Nat.add a.off n) w.n&&Nat.ble n 16777216)
   (ah (fA (Tr.vz top w.cells a.off n)) fun bs=>some (.string ⟨⟨bs⟩⟩,
    H.put a.block (.row ⟨w.ty,w.cells,w.n,w.bX,au (Nat.ble w.fz (Nat.add a.off n)) (Nat.add a.off n) w.fz⟩)))
def jB(P:Program)(ats:List TypeId)(args:List Value)(H:ag):Option (Value×ag):=
 gd (Nat.beq (len args) 2) (ah (nth ats 0) fun pt=>ah (nth args 0) fun p=>ah (nth args 1) fun nv=>ah (mW nv) fun n=>
  @Nat.rec (fun _=>Option (Value×ag)) (gd (Nat.beq (fZ p).1 1) (some (.string ⟨⟨[]⟩⟩,H))) (fun _ _=>ah (fH p) fun a=>Gw P pt a n H) n)
def mD(e:TypeId)(es:Nat)(n:Nat)(vs:List Value)(H:ag):Value×ag:=
 (.slice (some ⟨H.next,0,none⟩) n (bH es),H.new (rowOf e vs))
def jX(q:TypeId×Nat)(a:Addr)(l c k:Nat)(vs:List Value)(H:ag):Option (Value×ag):=
 au (Nat.ble (Nat.add l k) c)
  (ah (H.write a.block (Nat.add a.off (Nat.mul l q.2)) vs) fun H'=>some (.slice (some a) (Nat.add l k) c,H'))
  (ah (H.read a.block a.off (Nat.mul l q.2)) fun old=>some (mD q.1 q.2 (Nat.add l k) (app old vs) H))
def ic(q:TypeId×Nat)(a:Addr)(l c k:Nat)(vs:List Value)(H:ag):Option (Value×ag):=
 ah (jy (H.obj a.block)) fun w=>gd (Nat.beq w.ty q.1&&!w.bX)
  (au (Nat.ble (Nat.add a.off (Nat.mul (Nat.add l k) q.2)) w.n)
   (ah (H.write a.block (Nat.add a.off (Nat.mul l q.2)) vs) fun H'=>some (.slice (some a) (Nat.add l k) c,H'))
   (gd (Nat.ble (Nat.add a.off (Nat.mul l q.2)) w.n&&Nat.ble w.fz (Nat.add a.off (Nat.mul l q.2))&&all' aN vs)
    (some (.slice (some ⟨H.next,a.off,none⟩) (Nat.add l k) c,
     (H.put a.block .dead).new (.row ⟨w.ty,Tr.iH top vs (Nat.add a.off (Nat.mul l q.2)) w.cells,Nat.add a.off (Nat.mul (Nat.add l k) q.2),false,w.fz⟩)))))
def CW(q:TypeId×Nat)(s:Value)(p:Option Addr×Nat×Nat)(k:Nat)(vs:List Value)(H:ag):Option (Value×ag):=
 @Nat.rec (fun _=>Option (Value×ag)) (some (s,H)) (fun _ _=>
  @Option.rec Addr (fun _=>Option (Value×ag)) (gd (Nat.beq p.2.1 0&&Nat.beq p.2.2 0) (some (mD q.1 q.2 k vs H)))
   (fun a=>gd (Nat.ble p.2.1 16777216) (au (aP p.2.2) (jX q a p.2.1 p.2.2 k vs H) (gd (Nat.beq p.2.2 (bH q.2)) (ic q a p.2.1 p.2.2 k vs H)))) p.1) k
def UY(P:Program)(t t2:TypeId):Option (TypeId×Nat):=
 ah (z8 P t) fun q=>ah (tI P q.1) fun i=>ah (my P q.1) fun _=>ah (P.underlying t2) fun d=>gd (aD (zD d)&&Nat.ble i.bytes 1048576&&Nat.ble 1 i.bytes) (some q)
def pZ(P:Program)(ats:List TypeId)(args:List Value)(H:ag):Option (Value×ag):=
 ah (nth ats 0) fun t=>ah (nth ats 1) fun t2=>ah (nth args 0) fun s=>ah (nth args 1) fun x=>
  ah (UY P t t2) fun q=>ah (wH s) fun p=>ah (appended H q.2 x) fun e=>gd (Nat.ble e.1 16777216) (CW q s p e.1 e.2 H)
def uI(P:Program)(t:TypeId)(x:Value)(H:ag):Option (Value×ag):=
 gd (qX P t) (ah (gX x) fun s=>some (xF H.next,H.new (.oM s 0)))
def KR(r:Nat)(s:ByteArray)(p:Nat)(c:Nat×Nat)(H:ag):Value×ag:=
 (.tuple #[.bool true,.int .i64 (.ofNat p),.int .i32 (.ofNat c.1)],H.put r (.oM s (Nat.add p c.2)))
def Ab(it:Value)(str:Bool)(H:ag):Option (Value×ag):=
 ah (fH it) fun a=>ah (UW (H.obj a.block)) fun q=>gd (str&&Nat.beq a.off 0)
  (au (Nat.ble (Nat.succ q.2) (len q.1.data.toList)) (some (KR a.block q.1 q.2 (Utf8.decode q.1 q.2) H)) (some (.tuple #[.bool false],H)))
def KS(a b:Option Nat):Bool:=@Option.rec Nat (fun _=>Bool) (aD b) (fun x=>@Option.rec Nat (fun _=>Bool) false (fun y=>Nat.beq x y) b) a
def addrEq(a b:Addr):Bool:=Nat.beq a.block b.block&&Nat.beq a.off b.off&&aD a.spot&&aD b.spot
def Gx(a b:Option Addr):Bool:=@Option.rec Addr (fun _=>Bool) (aD b) (fun x=>@Option.rec Addr (fun _=>Bool) false (fun y=>addrEq x y) b) a
def UZ(x y:Value):Bool:=iO (ah (fH x) fun a=>ah (fH y) fun b=>gd (addrEq a b) (some ()))
def U0(x y:Value):Bool:=iO (ah (wH x) fun a=>ah (wH y) fun b=>gd (Gx a.1 b.1&&Nat.beq a.2.1 b.2.1&&Nat.beq a.2.2 b.2.2) (some ()))
def U1(x y:Value):Bool:=iO (ah (uA x) fun a=>ah (uA y) fun b=>gd (KS a b) (some ()))
def U2(x y:Value):Bool:=iO (ah (gW x) fun a=>ah (gW y) fun b=>gd (Nat.beq (fT a.1) (fT b.1)&&Kw a.2 b.2) (some ()))
def U3(x y:Value):Bool:=iO (ah (bE x) fun a=>ah (bE y) fun b=>gd (oz a b) (some ()))
def U4(x y:Value):Bool:=iO (ah (gX x) fun a=>ah (gX y) fun b=>gd (gY a b) (some ()))
def Q5(x y:Value):Bool:=xA x&&xA y&&Nat.beq (fZ x).1 (fZ y).1
def Gy(x y:Value):Bool:=U2 x y||(UZ x y||(U0 x y||(U3 x y||(U4 x y||(U1 x y||Q5 x y)))))
def Bj(f:Value→Value→Bool)(xs:List Value):List Value→Bool:=
 @List.rec Value (fun _=>List Value→Bool) (fun ys=>@List.rec Value (fun _=>Bool) true (fun _ _ _=>false) ys)
  (fun x _ ih ys=>@List.rec Value (fun _=>Bool) false (fun y r _=>au (f x y) (ih r) false) ys) xs
def KT(f:Value→Value→Bool)(x y:Value):Bool:=iO (ah (Ku x) fun a=>ah (Ku y) fun b=>ah (Gr a.1) fun g=>ah (Gr b.1) fun k=>gd (Nat.beq g k&&Bj f a.2.1 b.2.1&&Bj f a.2.2 b.2.2) (some ()))
def Bl(x y:Value):Bool:=Gy x y||KT Gy x y
def CX(x y:Value):Bool:=Bl x y||KT Bl x y
def CY(xs:List Value):List Value→Bool:=
 @List.rec Value (fun _=>List Value→Bool) (fun ys=>@List.rec Value (fun _=>Bool) true (fun _ _ _=>false) ys)
  (fun x _ ih ys=>@List.rec Value (fun _=>Bool) false (fun y r _=>au (CX x y) (ih r) false) ys) xs
def sameAt(A B:ag)(r off n:Nat):Bool:=iO (ah (A.read r off n) fun x=>ah (B.read r off n) fun y=>gd (CY x y) (some ()))
def iI(c:Nat)(l:List UInt8):Nat→Option Nat:=
 @List.rec UInt8 (fun _=>Nat→Option Nat) (fun _=>none) (fun b _ ih k=>au (Nat.beq b.toNat c) (some k) (ih (Nat.succ k))) l
def countB(c:Nat)(l:List UInt8):Nat:=@List.rec UInt8 (fun _=>Nat) 0 (fun b _ n=>au (Nat.beq b.toNat c) (Nat.succ n) n) l
def Bo(o:Option Nat):Value:=@Option.rec Nat (fun _=>Value) (.int .i64 (-1)) (fun k=>.int .i64 (.ofNat k)) o
def xJ(args:List Value):Option (ByteArray×Nat):=
 ah (nth args 0) fun s=>ah (gX s) fun b=>ah (nth args 1) fun c=>ah (gW c) fun p=>ah (wG p.2) fun n=>gd (wI p.1&&Nat.ble n 255&&Nat.beq (len args) 2) (some (b,n))
def IY(P:Program)(code:Nat)(rt:List TypeId)(args:List Value)(H:ag):Option (Value×ag):=
 au (Nat.beq code 1) (gd (Nat.beq (len args) 1) (ah (nth args 0) fun x=>some (x,H)))
  (au (Nat.beq code 2) (gd (Nat.beq (len args) 1) (ah (nth args 0) fun x=>ah (gW x) fun p=>ah (wG p.2) fun n=>ah (nth rt 0) fun t=>ah (z8 P t) fun q=>
   gd (mX p.1&&Nat.ble n 16777216&&Nat.beq q.2 1) (some (.slice (some ⟨H.next,0,none⟩) n (bH 1),H.new (.row ⟨q.1,.nil,n,false,0⟩)))))
   (au (Nat.beq code 3) (ah (xJ args) fun x=>some (Bo (iI x.2 x.1.data.toList 0),H))
    (au (Nat.beq code 4) (ah (xJ args) fun x=>some (.int .i64 (.ofNat (countB x.2 x.1.data.toList)),H)) none)))
structure St where
 nl:Nat
 nt:Nat
 reg:List (Nat×Value)
 tm:Tr Value
 df:List Deferred
 H:ag
def aS(m i:Nat):Bool:=Nat.beq (Nat.mod (Nat.shiftRight m i) 2) 1
def look(l:List (Nat×Value)):Nat→Value:=
 @List.rec (Nat×Value) (fun _=>Nat→Value) (fun _=>top) (fun p _ ih t=>au (Nat.beq p.1 t) p.2 (ih t)) l
def aO(s:St)(t:Nat):Value:=au (aS s.nl t) (s.tm.get top t) (look s.reg t)
def ev(s:St)(x:Operand):Value:=
 @Operand.rec (fun _=>St→Value) (fun t s=>aO s t) (fun v _=>v) (fun g _=>.pointer (some ⟨g,0,none⟩)) (fun f _=>.func (.func f) #[] #[]) x s
def wJ(s:St)(x:Option Operand):Option Value:=@Option.rec Operand (fun _=>Option Value) none (fun x=>some (ev s x)) x
def Bp(s:St)(ps:Array (Nat×Operand)):List (Nat×Value):=mp (fun p=>(p.1,ev s p.2)) ps.toList
def fC(s:St)(d:Nat)(v:Value)(H:ag):St:=
 au (aS s.nl d) ⟨s.nl,s.nt,s.reg,au (Nat.ble (Nat.succ d) s.nt) (s.tm.set top d v) s.tm,s.df,H⟩ ⟨s.nl,s.nt,(d,v)::s.reg,s.tm,s.df,H⟩
def bA(s:St)(d:Option Nat)(v:Value)(H:ag):St:=
 @Option.rec Nat (fun _=>St) ⟨s.nl,s.nt,s.reg,s.tm,s.df,H⟩ (fun d=>fC s d v H) d
abbrev bO:=FuncId→List Value→ag→Option (Value×ag)
inductive R3 where
 |fail
 |oH(v:Value)
 |mem(v:Value)(H:ag)
def rp(o:Option Value):R3:=@Option.rec Value (fun _=>R3) .fail .oH o
def rm(o:Option (Value×ag)):R3:=@Option.rec (Value×ag) (fun _=>R3) .fail (fun p=>.mem p.1 p.2) o
def UK(o:Option Value)(q:R3):R3:=@Option.rec Value (fun _=>R3→R3) (fun q=>q) (fun v _=>.oH v) o q
def UL(v:Value):Bool:=@Option.rec (List Value) (fun _=>Bool) false (fun l=>Nat.beq (len l) 0) (KI v)
def nN(ops:Array Oper)(s:St)(j:Nat):Option (Option Bool):=
 ah (nth ops.toList j) fun o=>ah o.dst fun t=>
  @Option.rec Bool (fun _=>Option (Option Bool)) (gd (UL (aO s t)) (some none)) (fun b=>some (some b)) (bE (aO s t))
def Ac(ops:Array Oper)(s:St)(g:Nat×Bool):Option Bool:=
 ah (nN ops s g.1) fun y=>some (@Option.rec Bool (fun _=>Bool) false (fun b=>oz b g.2) y)
def fF(ops:Array Oper)(s:St)(g:Option (Nat×Bool)):Option Bool:=
 @Option.rec (Nat×Bool) (fun _=>Option Bool) (some true) (fun g=>Ac ops s g) g
def methodOf(P:Program)(t:TypeId)(name:String):Option (FuncId×Bool):=
 ah (P.info? t) fun i=>ah (i.methods.toList.find? (·.name==name)) fun m=>ah m.func fun q=>ah (P.underlying t) fun d=>
  gd (Nat.beq (len m.path.toList) 0&&(au q.2 (Nat.beq (jU d) 1) (!(Nat.beq (jU d) 1)))) (some q)
def dG(c:Callee):Program→St→Option (FuncId×List Value×List Value):=
 @Callee.rec (fun _=>Program→St→Option (FuncId×List Value×List Value))
  (fun f _ s=>ah (Ku (ev s f)) fun q=>ah (Gr q.1) fun g=>some (g,q.2))
  (fun r name P s=>ah (nM (ev s r)) fun p=>ah (methodOf P p.1 name) fun q=>some (q.1,[p.2],[]))
  (fun _ _ _=>none) c
def isBuiltin(c:Callee):Option Builtin:=@Callee.rec (fun _=>Option Builtin) (fun _=>none) (fun _ _=>none) (fun b=>some b) c
def mZ(b:Builtin):List TypeId→List Value→Program→ag→R3:=
 @Builtin.rec (fun _=>List TypeId→List Value→Program→ag→R3)
  (fun ats args P H=>rm (pZ P ats args H)) (fun ats args P _=>rp (one (xE P) ats args)) (fun ats args P H=>rm (uH P ats args H)) (fun _ _ _ _=>.fail) (fun _ args _ _=>rp (oQ args)) (fun ats args P H=>rm (Aa P ats args H)) (fun ats args P H=>rm (sG P ats args H)) (fun _ args _ _=>rp (CU args)) (fun ats args P H=>UK (one (xD P) ats args) (rm (xI P ats args H))) (fun _ _ _ _=>.fail) (fun _ args _ _=>rp (KP true args)) (fun _ args _ _=>rp (KP false args)) (fun _ _ _ _=>.fail) (fun _ _ _ _=>.fail) (fun _ _ _ _=>.fail) (fun _ _ _ _=>.fail) (fun _ args _ _=>rp (CS args)) (fun _ _ _ _=>.fail) (fun _ _ _ _=>.fail) (fun _ _ _ _=>.fail) (fun _ args _ H=>rm (sH args H)) (fun ats args P H=>rm (jB P ats args H)) (fun _ _ _ _=>.fail) (fun _ _ _ _=>.fail) (fun _ _ _ _=>.fail) (fun _ _ _ _=>.fail) b
def jv(c:Call)(P:Program)(cf:bO)(s:St):R3:=
 @Option.rec Builtin (fun _=>R3)
  (rm (ah (dG c.callee P s) fun q=>cf q.1 (app q.2.1 (app (mp (ev s) c.args.toList) q.2.2)) s.H))
  (fun b=>mZ b c.argTypes.toList (mp (ev s) c.args.toList) P s.H) (isBuiltin c.callee)
def kH(o:Op):Program→bO→St→R3:=
 @Op.rec (fun _=>Program→bO→St→R3)
  (fun x _ _ s=>.oH (ev s x)) (fun x _ _ s=>.oH (ev s x)) (fun c a b _ _ s=>rp (xC (ev s c) (ev s a) (ev s b))) (fun e P _ s=>rm (oU P e s.H)) (fun e x _ _ s=>rm (Bi e (ev s x) s.H)) (fun t ps P _ s=>rp (oP P t (Bp s ps))) (fun t n ps P _ s=>rm (h_ P t n (Bp s ps) s.H)) (fun t m k v P _ s=>rm (gT P t (ev s m) (ev s k) (ev s v) s.H)) (fun t x P _ s=>rm (jg P t (ev s x) s.H)) (fun t x v P _ s=>rm (lg P t (ev s x) (ev s v) s.H)) (fun _ _ _ _=>.fail) (fun _ _ _ _=>.fail) (fun x _ _ s=>rp (Bh (ev s x))) (fun op t x y _ P _ s=>rp (bq P op t x y (ev s x) (ev s y))) (fun op _ x _ _ s=>rp (bD (Op.unary op (ev s x)))) (fun a b x P _ s=>UK (oC P a b (ev s x)) (rm (fK P a b (ev s x) s.H))) (fun _ _ _ _ _=>.fail) (fun t x P _ s=>rp (zG P t (ev s x))) (fun f fi ca _ _ s=>rp (some (.func f ⟨mp (ev s) fi.toList⟩ ⟨mp (ev s) ca.toList⟩))) (fun t r P _ s=>rm (jW P t (wJ s r) s.H)) (fun _ _ _ _ _=>.fail) (fun t l c P _ s=>rm (fB P t (ev s l) (ev s c) s.H)) (fun t x lo hi mx P _ s=>rp (k_ P t (ev s x) (wJ s lo) (wJ s hi) (wJ s mx))) (fun t x f P _ s=>rp (g_ P t (ev s x) f)) (fun t x f P _ s=>rp (oO P t (ev s x) f)) (fun t x i P _ s=>rp (gm P t (ev s x) (ev s i))) (fun t x i P _ s=>rp (oN P t (ev s x) (ev s i))) (fun t x k ok P _ s=>rm (kG P t (ev s x) (ev s k) ok s.H)) (fun t m k v P _ s=>rm (gT P t (ev s m) (ev s k) (ev s v) s.H)) (fun _ _ _ _ _ _=>.fail) (fun _ _ _ _ _ _ _=>.fail) (fun t x P _ s=>rm (uI P t (ev s x) s.H)) (fun x b _ _ s=>rm (Ab (ev s x) b s.H)) (fun _ _ _ _=>.fail) (fun _ _ _ _ _ _ _=>.fail) (fun t i _ _ s=>rp (jV (ev s t) i)) (fun c P cf s=>jv c P cf s) (fun _ _ _ _=>.fail) (fun _ _ _ _=>.fail) (fun _ _ _ _=>.fail) (fun _ _ _ _ _=>.fail) (fun _ _ _ _ _ _=>.fail) (fun _ _ _ _ _=>.fail) o
def gp(o:Op):Option Call:=@Op.rec (fun _=>Option Call) (fun _=>none) (fun _=>none) (fun _ _ _=>none) (fun _=>none) (fun _ _=>none) (fun _ _=>none) (fun _ _ _=>none) (fun _ _ _ _=>none) (fun _ _=>none) (fun _ _ _=>none) (fun _=>none) (fun _=>none) (fun _=>none) (fun _ _ _ _ _=>none) (fun _ _ _=>none) (fun _ _ _=>none) (fun _ _=>none) (fun _ _=>none) (fun _ _ _=>none) (fun _ _=>none) (fun _ _=>none) (fun _ _ _=>none) (fun _ _ _ _ _=>none) (fun _ _ _=>none) (fun _ _ _=>none) (fun _ _ _=>none) (fun _ _ _=>none) (fun _ _ _ _=>none) (fun _ _ _ _=>none) (fun _ _ _=>none) (fun _ _ _ _=>none) (fun _ _=>none) (fun _ _=>none) (fun _=>none) (fun _ _ _ _=>none) (fun _ _=>none) (fun _=>none) (fun _=>none) (fun c=>some c) (fun _=>none) (fun _ _=>none) (fun _ _ _=>none) (fun _ _=>none) o
def mE(c:Call)(P:Program)(s:St):Option Deferred:=
 ah (@Callee.rec (fun _=>Option Operand) (fun f=>some f) (fun _ _=>none) (fun _=>none) c.callee) fun f=>
  ah (Ku (ev s f)) fun q=>ah (Gr q.1) fun g=>some ⟨.fn (.func g) ⟨q.2.2⟩,⟨app q.2.1 (mp (ev s) c.args.toList)⟩⟩
def q8(o:Oper)(s:St)(r:R3):Option St:=
 @R3.rec (fun _=>Option St) none (fun v=>some (bA s o.dst v s.H)) (fun v H=>some (bA s o.dst v H)) r
def kI(P:Program)(cf:bO)(o:Oper)(s:St):Option St:=
 @Option.rec Call (fun _=>Option St) (q8 o s (kH o.op P cf s))
  (fun c=>ah (mE c P s) fun d=>some (bA ⟨s.nl,s.nt,s.reg,s.tm,d::s.df,s.H⟩ o.dst undef s.H)) (gp o.op)
def cK(P:Program)(cf:bO)(ops:Array Oper)(o:Oper)(s:St):Option St:=
 ah (fF ops s o.guard) fun b=>au b (kI P cf o s) (some (bA s o.dst undef s.H))
def di(P:Program)(cf:bO)(ops:Array Oper)(l:List Oper):St→Option St:=
 @List.rec Oper (fun _=>St→Option St) some (fun o _ ih s=>ah (cK P cf ops o s) ih) l
def dR(a b:Nat):Nat:=au (Nat.ble a b) a b
def aM(s:St):St:=⟨s.nl,s.nt,s.reg,s.tm,s.df,⟨s.H.jc,s.H.next,s.H.next⟩⟩
structure Cl where
 k:Nat
 r:Nat
 off:Nat
 n:Nat
 a:ag
 b:ag
def hh0:ag:=⟨.nil,0,0⟩
def cl(k:Nat):Cl:=⟨k,0,0,0,hh0,hh0⟩
def nO(o:Op):Option (Operand×Operand):=@Op.rec (fun _=>Option (Operand×Operand)) (fun _=>none) (fun _=>none) (fun _ _ _=>none) (fun _=>none) (fun _ _=>none) (fun _ _=>none) (fun _ _ _=>none) (fun _ _ _ _=>none) (fun _ _=>none) (fun _ a v=>some (a,v)) (fun _=>none) (fun _=>none) (fun _=>none) (fun _ _ _ _ _=>none) (fun _ _ _=>none) (fun _ _ _=>none) (fun _ _=>none) (fun _ _=>none) (fun _ _ _=>none) (fun _ _=>none) (fun _ _=>none) (fun _ _ _=>none) (fun _ _ _ _ _=>none) (fun _ _ _=>none) (fun _ _ _=>none) (fun _ _ _=>none) (fun _ _ _=>none) (fun _ _ _ _=>none) (fun _ _ _ _=>none) (fun _ _ _=>none) (fun _ _ _ _=>none) (fun _ _=>none) (fun _ _=>none) (fun _=>none) (fun _ _ _ _=>none) (fun _ _=>none) (fun _=>none) (fun _=>none) (fun _=>none) (fun _=>none) (fun _ _=>none) (fun _ _ _=>none) (fun _ _=>none) o
def uJ(o:Op):Option (TypeId×Operand):=@Op.rec (fun _=>Option (TypeId×Operand)) (fun _=>none) (fun _=>none) (fun _ _ _=>none) (fun _=>none) (fun _ _=>none) (fun _ _=>none) (fun _ _ _=>none) (fun _ _ _ _=>none) (fun t a=>some (t,a)) (fun _ _ _=>none) (fun _=>none) (fun _=>none) (fun _=>none) (fun _ _ _ _ _=>none) (fun _ _ _=>none) (fun _ _ _=>none) (fun _ _=>none) (fun _ _=>none) (fun _ _ _=>none) (fun _ _=>none) (fun _ _=>none) (fun _ _ _=>none) (fun _ _ _ _ _=>none) (fun _ _ _=>none) (fun _ _ _=>none) (fun _ _ _=>none) (fun _ _ _=>none) (fun _ _ _ _=>none) (fun _ _ _ _=>none) (fun _ _ _=>none) (fun _ _ _ _=>none) (fun _ _=>none) (fun _ _=>none) (fun _=>none) (fun _ _ _ _=>none) (fun _ _=>none) (fun _=>none) (fun _=>none) (fun _=>none) (fun _=>none) (fun _ _=>none) (fun _ _ _=>none) (fun _ _=>none) o
def lV(o:Op):Bool:=@Op.rec (fun _=>Bool) (fun _=>false) (fun _=>false) (fun _ _ _=>false) (fun _=>true) (fun _ _=>true) (fun _ _=>false) (fun _ _ _=>true) (fun _ _ _ _=>false) (fun _ _=>false) (fun _ _ _=>false) (fun _=>false) (fun _=>false) (fun _=>false) (fun _ _ _ _ _=>false) (fun _ _ _=>false) (fun _ _ _=>false) (fun _ _=>false) (fun _ _=>false) (fun _ _ _=>false) (fun _ _=>true) (fun _ _=>false) (fun _ _ _=>true) (fun _ _ _ _ _=>false) (fun _ _ _=>false) (fun _ _ _=>false) (fun _ _ _=>false) (fun _ _ _=>false) (fun _ _ _ _=>false) (fun _ _ _ _=>false) (fun _ _ _=>false) (fun _ _ _ _=>false) (fun _ _=>false) (fun _ _=>false) (fun _=>false) (fun _ _ _ _=>false) (fun _ _=>false) (fun _=>false) (fun _=>false) (fun _=>false) (fun _=>false) (fun _ _=>false) (fun _ _ _=>false) (fun _ _=>false) o
def lW(P:Program)(o:Op)(s:St):Cl:=
 (ah (uJ o) fun p=>ah (fH (ev s p.2)) fun a=>ah (Kv P p.1) fun l=>some (Cl.mk 4 a.block a.off (l.getD 1) hh0 hh0)).getD (cl 1)
def gH(P:Program)(o:Op)(s:St)(H:ag):Cl:=
 @Option.rec (Operand×Operand) (fun _=>Cl) (au (Nat.ble s.H.next H.low) (au (lV o) (cl 5) (lW P o s)) ⟨2,0,0,0,s.H,H⟩)
  (fun p=>@Option.rec Addr (fun _=>Cl) ⟨2,0,0,0,s.H,H⟩ (fun a=>⟨3,a.block,a.off,len (ax (ev s p.2)),hh0,hh0⟩) (fH (ev s p.1))) (nO o)
def vE(P:Program)(o:Oper)(s:St)(r:R3):Option (St×Cl):=
 @R3.rec (fun _=>Option (St×Cl)) none (fun v=>some (bA s o.dst v s.H,cl 0))
  (fun v H=>some (bA s o.dst v ⟨H.jc,H.next,dR s.H.low H.low⟩,gH P o.op s H)) r
def bU(P:Program)(cf:bO)(ops:Array Oper)(o:Oper)(s:St):Option (St×Cl):=
 ah (fF ops s o.guard) fun b=>au b (vE P o s (kH o.op P cf (aM s))) (some (bA s o.dst undef s.H,cl 0))
def bB(P:Program)(cf:bO)(ops:Array Oper)(l:List Oper):St→List Cl→Option (St×List Cl):=
 @List.rec Oper (fun _=>St→List Cl→Option (St×List Cl)) (fun s acc=>some (s,acc)) (fun o _ ih s acc=>ah (bU P cf ops o s) fun q=>ih q.1 (q.2::acc)) l
def lq(acc:List Nat)(n:Nat)(l:List Edge):Nat:=
 @List.rec Edge (fun _=>Nat) 0 (fun e _ r=>au (Region.binds .any e) (Nat.lor (Nat.lor (Nat.shiftLeft 1 e.on) ((nth acc (Nat.sub (Nat.sub n 1) e.on)).getD 0)) r) r) l
def lX(l:List Oper):List Nat→Nat→List Nat:=
 @List.rec Oper (fun _=>List Nat→Nat→List Nat) (fun acc _=>acc) (fun o _ ih acc n=>ih (lq acc n o.after.toList::acc) (Nat.succ n)) l
def jC(l:List Oper):Nat→Bool:=
 @List.rec Oper (fun _=>Nat→Bool) (fun _=>true) (fun o _ ih n=>au (all' (fun e=>!(Region.binds .any e)||Nat.ble (Nat.succ e.on) n) o.after.toList) (ih (Nat.succ n)) false) l
def jh{α:Type}(f:α→α→Bool→Bool)(x:α)(m:Nat)(l:List α):Bool:=@List.rec α (fun _=>Bool) true (fun y r ih=>au (f x y (aS m (len r))) ih false) l
def pairs{α:Type}(f:α→α→Bool→Bool)(ms:List Nat):List α→Bool:=
 @List.rec Nat (fun _=>List α→Bool) (fun _=>true) (fun m _ ih xs=>@List.rec α (fun _=>Bool) true
  (fun x r _=>au (jh f x m r) (ih r) false) xs) ms
def eB(ops:Array Oper):Bool:=jC ops.toList 0&&pairs (fun y x b=>b||x.apart ops y) (lX ops.toList [] 0) (ops.toList.reverse)
def kC(x y:Cl):Bool:=!(Nat.beq x.r y.r)||Nat.ble (Nat.add x.off x.n) y.off||Nat.ble (Nat.add y.off y.n) x.off
def uK(w l:Cl):Bool:=sameAt w.a w.b l.r l.off l.n
def eD(y x:Cl)(b:Bool):Bool:=
 au (Nat.beq y.k 0||Nat.beq x.k 0||Nat.beq y.k 5||Nat.beq x.k 5) true
  (au (Nat.beq x.k 3) (au (Nat.beq y.k 3) (b||kC x y) (Nat.beq y.k 4&&(b||kC x y)))
   (au (Nat.beq y.k 3) (b||(Nat.beq x.k 4&&kC x y))
    (au (Nat.beq x.k 4) (au (Nat.beq y.k 2) (b||uK y x) true)
     (au (Nat.beq y.k 4) (au (Nat.beq x.k 2) (b||uK x y) true)
      (au (Nat.beq x.k 1&&Nat.beq y.k 1) true b)))))
def noTwo(l:List Cl):Bool:=all' (fun x=>!(Nat.beq x.k 2||Nat.beq x.k 3)) l
def dH(ops:Array Oper)(cls:List Cl):Bool:=au (noTwo cls) true (pairs eD (lX ops.toList [] 0) cls)
def SG(o:Op):Bool:=@Op.rec (fun _=>Bool) (fun _=>true) (fun _=>true) (fun _ _ _=>true) (fun _=>true) (fun _ _=>true) (fun _ _=>true) (fun _ _ _=>true) (fun _ _ _ _=>true) (fun _ _=>true) (fun _ _ _=>true) (fun _=>true) (fun _=>true) (fun _=>true) (fun _ _ _ _ _=>true) (fun _ _ _=>true) (fun _ _ _=>true) (fun _ _=>true) (fun _ _=>true) (fun _ _ _=>true) (fun _ _=>true) (fun _ _=>true) (fun _ _ _=>true) (fun _ _ _ _ _=>true) (fun _ _ _=>true) (fun _ _ _=>true) (fun _ _ _=>true) (fun _ _ _=>true) (fun _ _ _ _=>true) (fun _ _ _ _=>true) (fun _ _ _=>true) (fun _ _ _ _=>true) (fun _ _=>true) (fun _ _=>true) (fun _=>true) (fun _ _ _ _=>true) (fun _ _=>true) (fun _=>true) (fun _=>true) (fun _=>true) (fun _=>true) (fun _ _=>true) (fun _ _ _=>true) (fun _ _=>false) o
def bW(ops:Array Oper):Bool:=all' (fun o=>aD (gp o.op)&&SG o.op) ops.toList
inductive Out where
 |fail
 |norm(s:St)
 |exit(id:Nat)(s:St)
 |goto(l:Nat)(s:St)
 |ret(s:St)
def andThen(o:Out)(k:St→Out):Out:=
 @Out.rec (fun _=>(St→Out)→Out) (fun _=>.fail) (fun s k=>k s) (fun id s _=>.exit id s) (fun l s _=>.goto l s) (fun s _=>.ret s) o k
def vF(c:Option Bool)(x y:Out):Out:=@Option.rec Bool (fun _=>Out) .fail (fun b=>au b x y) c
def jD(id:Nat)(o:Out):Out:=
 @Out.rec (fun _=>Nat→Out) (fun _=>.fail) (fun s _=>.norm s) (fun i s id=>au (Nat.beq i id) (.norm s) (.exit i s)) (fun l s _=>.goto l s) (fun s _=>.ret s) o id
def jY(n:Nat)(f:St→Out):St→Out:=@Nat.rec (fun _=>St→Out) (fun _=>.fail) (fun _ ih s=>andThen (f s) ih) n
def U5(o:Out)(k:Nat→St→Out):Out:=
 @Out.rec (fun _=>(Nat→St→Out)→Out) (fun _=>.fail) (fun s _=>.norm s) (fun i s _=>.exit i s) (fun l s k=>k l s) (fun s _=>.ret s) o k
def dI(cx:Code→St→Out)(n:Nat)(body:Code):Out→Out:=
 @Nat.rec (fun _=>Out→Out) (fun _=>.fail) (fun _ ih o=>U5 o fun l s=>@Option.rec Code (fun _=>Out) (.goto l s) (fun rest=>ih (cx rest s)) (findLabel body l)) n
def vG(o:Option St):Out:=@Option.rec St (fun _=>Out) .fail .norm o
def clear(s:St):St:=⟨s.nl,s.nt,[],s.tm,s.df,s.H⟩
def iR(ops:Array Oper)(o:Option (St×List Cl)):Out:=
 @Option.rec (St×List Cl) (fun _=>Out) .fail (fun q=>au (dH ops q.2) (.norm q.1) .fail) o
def region(P:Program)(cf:bO)(ops:Array Oper)(draw:Bool)(s:St):Out:=
 au draw (au (bW ops&&eB ops) (iR ops (bB P cf ops ops.toList (clear s) [])) .fail) (vG (di P cf ops ops.toList (clear s)))
def exec(P:Program)(cf:bO)(cx:Code→St→Out)(n:Nat)(c:Code):St→Out:=
 @Code.rec (fun _=>St→Out)
  (fun s=>.norm s)
  (fun _ ops draw s=>region P cf ops draw s)
  (fun _ _ ia ib s=>andThen (ia s) ib)
  (fun c _ _ ix iy s=>vF (bE (ev s c)) (ix s) (iy s))
  (fun id _ ih s=>jD id (ih s))
  (fun _ ih s=>jY n ih s)
  (fun _ _ _ _ _ _=>fun _=>.fail)
  (fun id s=>.exit id s)
  (fun c ih s=>dI cx n c (ih s))
  (fun _ s=>.norm s)
  (fun l s=>.goto l s)
  (fun s=>.ret s)
  (fun _=>fun _=>.fail) c
def p8(P:Program)(s:St)(r:ResultVar):Option Value:=
 @ResultVar.rec (fun _=>Option Value) (fun t=>some (aO s t)) (fun a t=>ah (jg P t (aO s a) s.H) fun p=>some p.1) r
def bK(P:Program)(s:St)(l:List ResultVar):Option (List Value):=
 @List.rec ResultVar (fun _=>Option (List Value)) (some []) (fun r _ q=>ah (p8 P s r) fun v=>ah q fun vs=>some (v::vs)) l
def eY(vs:List Value):Value:=au (Nat.beq (len vs) 1) ((nth vs 0).getD undef) (.tuple ⟨vs⟩)
def KU(o:Out):Option St:=@Out.rec (fun _=>Option St) none (fun s=>some s) (fun _ _=>none) (fun _ _=>none) (fun s=>some s) o
def q9(P:Program)(fn:Func)(s:St):Option (Value×ag):=
 gd (Nat.beq (len s.df) 0) (ah (bK P s fn.results.toList) fun vs=>some (eY vs,s.H))
def KV(m t:Nat):Nat:=Nat.lor m (Nat.shiftLeft 1 t)
def SI(x:Operand):Option Nat:=@Operand.rec (fun _=>Option Nat) some (fun _=>none) (fun _=>none) (fun _=>none) x
def SK(l:List Operand)(p:Nat×Nat):Nat:=
 @List.rec Operand (fun _=>Nat) p.1 (fun x _ r=>@Option.rec Nat (fun _=>Nat) r (fun t=>au (aS p.2 t) r (KV r t)) (SI x)) l
def KW(l:List Oper):Nat×Nat→Nat×Nat:=
 @List.rec Oper (fun _=>Nat×Nat→Nat×Nat) (fun p=>p)
  (fun o _ ih p=>ih (SK o.op.operands.toList p,@Option.rec Nat (fun _=>Nat) p.2 (KV p.2) o.dst)) l
def IZ(c:Code):Nat:=@Code.rec (fun _=>Nat) (0)
 (fun _ ops _=>(KW ops.toList (0,0)).1)
 (fun _ _ a b=>Nat.lor a b)
 (fun _ _ _ a b=>Nat.lor a b)
 (fun _ _ a=>a)
 (fun _ a=>a)
 (fun _ _ _ _ _ _=>0)
 (fun _=>0)
 (fun _ a=>a)
 (fun _=>0)
 (fun _=>0)
 (0)
 (fun _=>0) c
def KX(l:List ResultVar):Nat:=@List.rec ResultVar (fun _=>Nat) 0 (fun r _ n=>KV n (@ResultVar.rec (fun _=>Nat) (fun t=>t) (fun a _=>a) r)) l
def bV(P:Program)(g:FuncId):Nat:=@Option.rec Func (fun _=>Nat) 0 (fun fn=>Nat.lor (KX fn.results.toList) (@Option.rec Code (fun _=>Nat) 0 IZ fn.body)) (nth P.funcs.toList g)
structure Lv where
 ca:bO
 cx:Code→St→Out
def ig(P:Program)(L:Lv)(n:Nat)(g:Nat)(fn:Func)(c:Code)(args:List Value)(H:ag):Option St:=
 gd (Nat.ble (len args) fn.ntmps) (KU (exec P L.ca L.cx n c ⟨bV P g,fn.ntmps,[],Tr.iH top args 0 .nil,[],H⟩))
def U6(d:Deferred):Option (FuncId×List Value):=
 @Target.rec (fun _=>Option (FuncId×List Value)) (fun f cap=>ah (Gr f) fun g=>some (g,cap.toList)) none (fun _ _ _ _=>none) (fun _=>none) (fun _=>none) d.target
def q_(P:Program)(L:Lv)(n:Nat)(d:Deferred)(H:ag):Option ag:=
 ah (U6 d) fun q=>ah (nth P.funcs.toList q.1) fun fn=>@Option.rec Code (fun _=>Option ag) none
  (fun c=>ah (ig P L n q.1 fn c (app d.args.toList q.2) H) fun s=>ah (q9 P fn s) fun r=>some r.2) fn.body
def mF(P:Program)(L:Lv)(n:Nat)(l:List Deferred):ag→Option ag:=
 @List.rec Deferred (fun _=>ag→Option ag) (fun H=>some H) (fun d _ ih H=>ah (q_ P L n d H) ih) l
def m_(P:Program)(L:Lv)(n:Nat)(fn:Func)(s:St):Option (Value×ag):=
 au (Nat.beq (len s.df) 0) (ah (bK P s fn.results.toList) fun vs=>some (eY vs,s.H))
  (ah (mF P L n s.df s.H) fun H'=>ah (bK P ⟨s.nl,s.nt,s.reg,s.tm,[],H'⟩ fn.results.toList) fun vs=>some (eY vs,H'))
def I1(P:Program)(L:Lv)(n:Nat)(g x:Nat)(fn:Func)(args:List Value)(H:ag):Option (Value×ag):=
 @Option.rec Code (fun _=>Option (Value×ag)) (IY P x fn.resultTypes.toList args H)
  (fun c=>ah (ig P L n g fn c args H) fun s=>m_ P L n fn s) fn.body
structure Xt where
 c:FuncId→Nat
 o:FuncId→List Value→ag→Option (Value×ag)
instance:CoeFun Xt (fun _=>FuncId→Nat):=⟨Xt.c⟩
def X7(o d:Option (Value×ag)):Option (Value×ag):=@Option.rec (Value×ag) (fun _=>Option (Value×ag)) d some o
def nP(P:Program)(X:Xt)(L:Lv)(n:Nat)(g:FuncId)(args:List Value)(H:ag):Option (Value×ag):=
 X7 (X.o g args H) (ah (nth P.funcs.toList g) fun fn=>I1 P L n g (X g) fn args H)
def lv(P:Program)(X:Xt)(n:Nat):Lv:=
 @Nat.rec (fun _=>Lv) ⟨fun _ _ _=>none,fun _ _=>.fail⟩ (fun m L=>⟨nP P X L m,exec P L.ca L.cx m⟩) n
def a_(P:Program)(X:Xt)(n:Nat):bO:=(lv P X n).ca
structure Loc where
 c:Nat
 lo:Nat
 base:Nat
 tot:Nat
 n:Nat
abbrev Mp:=Nat→Option Loc
def Mp.le(m m':Mp):Prop:=∀r l,m r=some l→m' r=some l
mutual
inductive VR(m:Mp):Value→Value→Prop where
 |sc (v:Value) (h:dD v=true):VR m v v
 |top (v:Value):VR m top v
 |ptr (r off:Nat) (l:Loc) (h:m r=some l) (hl:l.lo≤off):VR m (.pointer (some ⟨r,off,none⟩)) (.pointer (some ⟨l.c,l.base +(off -l.lo),none⟩))
 |slice (r off n cp:Nat) (l:Loc) (h:m r=some l) (hl:l.lo≤off) (hk:aP cp=true) (hn:n≤cp):
  VR m (.slice (some ⟨r,off,none⟩) n cp) (.slice (some ⟨l.c,l.base +(off -l.lo),none⟩) n cp)
 |gK (r off n es cc:Nat) (l:Loc) (h:m r=some l) (hl:l.lo≤off) (he:0<es) (ht:l.base +(off -l.lo) +cc*es=l.tot) (hc:n≤cc) (hN:l.n≤off +cc*es):
  VR m (.slice (some ⟨r,off,none⟩) n (bH es)) (.slice (some ⟨l.c,l.base +(off -l.lo),none⟩) n cc)
 |jE (a a':Addr):VR m (.slice (some a) 0 0) (.slice (some a') 0 0)
 |iB (r off es:Nat) (a':Addr) (l:Loc) (h:m r=some l) (hl:l.lo≤off) (he:0<es) (hN:l.n≤off):VR m (.slice (some ⟨r,off,none⟩) 0 (bH es)) (.slice (some a') 0 0)
 |map (r:Nat) (l:Loc) (h:m r=some l):VR m (.map (some r)) (.map (some l.c))
 |func (f:Fn) (x y x' y':List Value) (hx:bP m x x') (hy:bP m y y'):VR m (.func f ⟨x⟩ ⟨y⟩) (.func f ⟨x'⟩ ⟨y'⟩)
 |iface (t:TypeId) (v v':Value) (h:VR m v v'):VR m (.iface t v) (.iface t v')
 |agg (x x':List Value) (h:bP m x x'):VR m (.agg ⟨x⟩) (.agg ⟨x'⟩)
 |tuple (x x':List Value) (h:bP m x x'):VR m (.tuple ⟨x⟩) (.tuple ⟨x'⟩)
inductive bP(m:Mp):List Value→List Value→Prop where
 |nil:bP m [] []
 |cons (v v':Value) (x x':List Value) (h:VR m v v') (hx:bP m x x'):bP m (v::x) (v'::x')
end
mutual
theorem VR.mono{m m':Mp}(hm:Mp.le m m'):∀{v v':Value},VR m v v'→VR m' v v'
 |_,_,.sc v h=>.sc v h
 |_,_,.top v=>.top v
 |_,_,.ptr r off l h hl=>.ptr r off l (hm r l h) hl
 |_,_,.slice r off n cp l h hl hk hn=>.slice r off n cp l (hm r l h) hl hk hn
 |_,_,.gK r off n es cc l h hl he ht hc hN=>.gK r off n es cc l (hm r l h) hl he ht hc hN
 |_,_,.jE a a'=>.jE a a'
 |_,_,.iB r off es a' l h hl he hN=>.iB r off es a' l (hm r l h) hl he hN
 |_,_,.map r l h=>.map r l (hm r l h)
 |_,_,.func f x y x' y' hx hy=>.func f x y x' y' (bP.mono hm hx) (bP.mono hm hy)
 |_,_,.iface t v v' h=>.iface t v v' (VR.mono hm h)
 |_,_,.agg x x' h=>.agg x x' (bP.mono hm h)
 |_,_,.tuple x x' h=>.tuple x x' (bP.mono hm h)
theorem bP.mono{m m':Mp}(hm:Mp.le m m'):∀{v v':List Value},bP m v v'→bP m' v v'
 |_,_,.nil=>.nil
 |_,_,.cons v v' x x' h hx=>.cons v v' x x' (VR.mono hm h) (bP.mono hm hx)
end
theorem bP.length{m:Mp}{x x':List Value}(h:bP m x x'):x.length=x'.length:=by
 induction x generalizing x' with
 |nil=>cases h;rfl
 |cons v x ih=>cases h with|cons _ v' _ x' h hx=>simp[ih hx]
theorem bP.get{m:Mp}{x x':List Value}(h:bP m x x')(k:Nat){v:Value}(hv:x[k]?=some v):∃v',x'[k]?=some v'∧VR m v v':=by
 induction x generalizing x' k with
 |nil=>simp at hv
 |cons w x ih=>
  cases h with
  |cons _ w' _ x' h hx=>
   cases k with
   |zero=>simp at hv;subst hv;exact⟨w',by simp,h⟩
   |succ k=>simpa using ih hx k (by simpa using hv)
theorem bP.append{m:Mp}{x x' y y':List Value}(h:bP m x x')(hy:bP m y y'):bP m (x++y) (x'++y'):=by
 induction x generalizing x' with
 |nil=>cases h;exact hy
 |cons w x ih=>cases h with|cons _ w' _ x' h hx=>exact .cons _ _ _ _ h (ih hx)
theorem bP.take{m:Mp}{x x':List Value}(h:bP m x x')(k:Nat):bP m (x.take k) (x'.take k):=by
 induction x generalizing x' k with
 |nil=>cases h;simp;exact .nil
 |cons w x ih=>cases h with
  |cons _ w' _ x' h hx=>cases k with
   |zero=>simp;exact .nil
   |succ k=>simp;exact .cons _ _ _ _ h (ih hx k)
theorem bP.drop{m:Mp}{x x':List Value}(h:bP m x x')(k:Nat):bP m (x.drop k) (x'.drop k):=by
 induction x generalizing x' k with
 |nil=>cases h;simp;exact .nil
 |cons w x ih=>cases h with
  |cons _ w' _ x' h hx=>cases k with
   |zero=>simp;exact .cons _ _ _ _ h hx
   |succ k=>simp;exact ih hx k
theorem bP.set{m:Mp}{x x':List Value}(h:bP m x x')(k:Nat){v v':Value}(hv:VR m v v'):bP m (x.set k v) (x'.set k v'):=by
 induction x generalizing x' k with
 |nil=>cases h;simp;exact .nil
 |cons w x ih=>cases h with
  |cons _ w' _ x' h hx=>cases k with
   |zero=>simp;exact .cons _ _ _ _ hv hx
   |succ k=>simp;exact .cons _ _ _ _ h (ih hx k)
theorem bP.dD{m:Mp}:∀{x:List Value},x.all dD=true→bP m x x
 |[],_=>.nil
 |v::x,h=>by simp at h;exact .cons _ _ _ _ (.sc v h.1) (bP.dD (by simpa using h.2))
theorem dS{v:Value}{a:Addr}(h:fH v=some a):v=.pointer (some a):=by
 cases v<;>simp[fH]at h<;>simp[h]
theorem eF{v:Value}{b:Bool}(h:bE v=some b):v=.bool b:=by
 cases v<;>simp[bE]at h<;>simp[h]
theorem eT{v:Value}{p:IntKind×Int}(h:gW v=some p):v=.int p.1 p.2:=by
 cases v<;>simp[gW]at h<;>simp[←h]
theorem wY{n:Int}{k:Nat}(h:wG n=some k):n=k:=by
 cases n<;>simp[wG]at h;simp[h]
theorem p9{v:Value}{n:Nat}(h:mW v=some n):∃k,v=.int k n:=by
 cases v<;>simp[mW]at h
 case int k m=>exact⟨k,by rw[wY h]⟩
theorem dU{v:Value}{b:ByteArray}(h:gX v=some b):v=.string b:=by
 cases v<;>simp[gX]at h<;>simp[h]
theorem ji{v:Value}{p:Option Addr×Nat×Nat}(h:wH v=some p):v=.slice p.1 p.2.1 p.2.2:=by
 cases v<;>simp[wH]at h<;>simp[←h]
theorem lY{v:Value}{p:Option Nat}(h:uA v=some p):v=.map p:=by
 cases v<;>simp[uA]at h<;>simp[h]
theorem xK{v:Value}{p:Fn×List Value×List Value}(h:Ku v=some p):v=.func p.1 ⟨p.2.1⟩ ⟨p.2.2⟩:=by
 cases v<;>simp[Ku]at h<;>simp[←h]
theorem iC{v:Value}{p:List Value}(h:jq v=some p):v=.agg ⟨p⟩:=by
 cases v<;>simp[jq]at h<;>simp[←h]
theorem O7{v:Value}{p:List Value}(h:KI v=some p):v=.tuple ⟨p⟩:=by
 cases v<;>simp[KI]at h<;>simp[←h]
theorem uL{v:Value}{p:TypeId×Value}(h:nM v=some p):v=.iface p.1 p.2:=by
 cases v<;>simp[nM]at h<;>simp[←h]
theorem xL{f:Fn}{g:FuncId}(h:Gr f=some g):f=.func g:=by
 cases f<;>simp[Gr]at h<;>simp[h]
section inv
variable{m:Mp}
theorem VR.of_bool{b:Bool}{v:Value}(h:VR m (.bool b) v):v=.bool b:=by cases h;rfl
theorem VR.of_int{k:IntKind}{n:Int}{v:Value}(h:VR m (.int k n) v):v=.int k n:=by cases h;rfl
theorem VR.iT{b:ByteArray}{v:Value}(h:VR m (.string b) v):v=.string b:=by cases h;rfl
theorem VR.jF{x:List Value}{v:Value}(h:VR m (.agg ⟨x⟩) v):∃x',v=.agg ⟨x'⟩∧bP m x x':=by
 cases h with
 |sc _ h=>simp[Ae.dD]at h
 |agg _ x' h=>exact⟨x',rfl,h⟩
theorem VR.Bq{x:List Value}{v:Value}(h:VR m (.tuple ⟨x⟩) v):∃x',v=.tuple ⟨x'⟩∧bP m x x':=by
 cases h with
 |sc _ h=>simp[Ae.dD]at h
 |tuple _ x' h=>exact⟨x',rfl,h⟩
theorem VR.sI{t:TypeId}{x v:Value}(h:VR m (.iface t x) v):∃x',v=.iface t x'∧VR m x x':=by
 cases h with
 |sc _ h=>simp[Ae.dD]at h
 |iface _ _ x' h=>exact⟨x',rfl,h⟩
theorem VR.Gz{f:Fn}{x y:List Value}{v:Value}(h:VR m (.func f ⟨x⟩ ⟨y⟩) v):∃x' y',v=.func f ⟨x'⟩ ⟨y'⟩∧bP m x x'∧bP m y y':=by
 cases h with
 |sc _ h=>simp[Ae.dD]at h
 |func _ _ _ x' y' hx hy=>exact⟨x',y',rfl,hx,hy⟩
theorem VR.gL{a:Addr}{v:Value}(h:VR m (.pointer (some a)) v):∃l,m a.block=some l∧l.lo≤a.off∧a.spot=none∧v=.pointer (some ⟨l.c,l.base +(a.off -l.lo),none⟩):=by
 cases h with
 |sc _ h=>simp[Ae.dD,aD]at h
 |ptr r off l h hl=>exact⟨l,h,hl,rfl,rfl⟩
theorem VR.of_map{r:Nat}{v:Value}(h:VR m (.map (some r)) v):∃l,m r=some l∧v=.map (some l.c):=by
 cases h with
 |sc _ h=>simp[Ae.dD,aD]at h
 |map r l h=>exact⟨l,h,rfl⟩
theorem VR.gU{v v':Value}(h:VR m v v')(hs:dD v=true):v'=v:=by
 cases h<;>first|rfl|(simp[Ae.dD,aD,Ae.top]at hs)
theorem bP.gU{x x':List Value}(h:bP m x x')(hs:x.all Ae.dD=true):x'=x:=by
 induction x generalizing x' with
 |nil=>cases h;rfl
 |cons w x ih=>cases h with
  |cons _ w' _ x' h hx=>simp at hs;rw[VR.gU h hs.1,ih hx (by simpa using hs.2)]
theorem VR.aN{v v':Value}(h:VR m v v')(hs:aN v=true):v'.cells=#[v']∧(∀x,v'≠.agg x)∧(∀x,v'≠.tuple x):=by
 cases h<;>first
  |(rename_i hv;cases v<;>simp[Ae.aN,Value.cells]at hs⊢)
  |(simp[Value.cells];done)
  |(simp[Ae.aN,Ae.top]at hs;done)
end inv
theorem SL{d:TypeDesc}{e:TypeId}(h:X5 d=some e):d=.slice e:=by cases d<;>simp[X5]at h;rw[h]
theorem wZ{d:TypeDesc}{e:TypeId}(h:sw d=some e):d=.pointer e:=by cases d<;>simp[sw]at h;rw[h]
theorem Br{d:TypeDesc}{e:Nat×TypeId}(h:CP d=some e):d=.array e.1 e.2:=by cases d<;>simp[CP]at h;rw[←h]
theorem O8{d:TypeDesc}{e:TypeId×TypeId}(h:SE d=some e):d=.map e.1 e.2:=by cases d<;>simp[SE]at h;rw[←h]
theorem EO{d:TypeDesc}{e:List Field}(h:Bf d=some e):d=.struct ⟨e⟩:=by cases d<;>simp[Bf]at h;rw[←h]
theorem sJ{d:TypeDesc}(h:oG d=true):d=.string:=by cases d<;>simp[oG]at h;rfl
theorem GA{d:TypeDesc}{k:IntKind}(h:zD d=some k):d=.int k:=by cases d<;>simp[zD]at h;rw[h]
theorem I4{d:TypeDesc}{k:FloatKind}(h:uB d=some k):d=.float k:=by cases d<;>simp[uB]at h;rw[h]
theorem O9{k:IntKind}(h:wI k=true):k=.u8:=by cases k<;>simp[wI]at h;rfl
theorem KY{k:IntKind}(h:mX k=true):k=.i64:=by cases k<;>simp[mX]at h;rfl
theorem ng{k k':IntKind}(h:Nat.beq (fT k) (fT k')=true):k=k':=by cases k<;>cases k'<;>first|rfl|cases h
theorem fM{P:Program}{t:TypeId}{s:Nat}(h:je P t=some s):∃i,P.info? t=some i∧i.size=s:=by
 (replace h:=ae h;obtain⟨i,hi,h⟩:=h);cases h;exact⟨i,hi,rfl⟩
theorem lu{P:Program}{t:TypeId}{q:TypeId×Nat}(h:z8 P t=some q):P.underlying t=some (.slice q.1)∧(∃i,P.info? q.1=some i∧i.size=q.2)∧1≤q.2:=by
 (replace h:=ae h;obtain⟨d,hd,h⟩:=h)
 (replace h:=ae h;obtain⟨e,he,h⟩:=h)
 (replace h:=ae h;obtain⟨s,hs,h⟩:=h)
 (replace h:=aB h;obtain⟨h1,h⟩:=h)
 cases h
 exact⟨by rw[hd,SL he],fM hs,Nat.le_of_ble_eq_true h1⟩
theorem w9{P:Program}{t:TypeId}{q:Nat×TypeId×Nat}(h:CQ P t=some q):P.underlying t=some (.array q.1 q.2.1)∧(∃i,P.info? q.2.1=some i∧i.size=q.2.2)∧1≤q.2.2:=by
 (replace h:=ae h;obtain⟨d,hd,h⟩:=h)
 (replace h:=ae h;obtain⟨e,he,h⟩:=h)
 (replace h:=ae h;obtain⟨s,hs,h⟩:=h)
 (replace h:=aB h;obtain⟨h1,h⟩:=h)
 cases h
 exact⟨by rw[hd,Br he],fM hs,Nat.le_of_ble_eq_true h1⟩
theorem p_{P:Program}{t:TypeId}{q:TypeId×TypeId}(h:qH P t=some q):P.underlying t=some (.map q.1 q.2):=by
 (replace h:=ae h;obtain⟨d,hd,h⟩:=h)
 rw[hd,O8 h]
theorem uM{P:Program}{t:TypeId}(h:qX P t=true):P.underlying t=some .string:=by
 unfold qX at h
 cases hd:P.underlying t with
 |none=>rw[hd]at h;cases h
 |some d=>rw[hd]at h;rw[sJ h]
theorem CZ{P:Program}{t:TypeId}(h:vC P t=true):P.underlying t=some (.int .u8):=by
 unfold vC at h
 cases hd:P.underlying t with
 |none=>rw[hd]at h;cases h
 |some d=>
  rw[hd]at h
  cases hk:zD d with
  |none=>simp[hk]at h
  |some k=>simp[hk]at h;rw[GA hk,O9 h]
theorem EP{P:Program}{t:TypeId}{l:Option Nat}(h:Kv P t=some l):
 ∃d i,P.underlying t=some d∧P.info? t=some i∧((EK d=true∧l=some i.size)∨(EK d=false∧l=none)):=by
 (replace h:=ae h;obtain⟨d,hd,h⟩:=h)
 (replace h:=ae h;obtain⟨s,hs,h⟩:=h)
 obtain⟨i,hi,rfl⟩:=fM hs
 refine⟨d,i,hd,hi,?_⟩
 cases ha:EK d<;>simp[ha,au]at h<;>simp[←h]
theorem ru{P:Program}{t:TypeId}{fs:List Field}(h:wW P t=some fs):P.underlying t=some (.struct ⟨fs⟩):=by
 (replace h:=ae h;obtain⟨d,hd,h⟩:=h)
 rw[hd,EO h]
theorem Ad{P:Program}{t:TypeId}{f:Nat}{q:Nat×Option Nat}(h:EL P t f=some q):
 ∃fs fd i,P.underlying t=some (.struct ⟨fs⟩)∧fs[f]?=some fd∧fd.offset=q.1∧Kv P fd.type=some q.2∧P.info? fd.type=some i∧1≤i.size:=by
 (replace h:=ae h;obtain⟨fs,hfs,h⟩:=h)
 (replace h:=ae h;obtain⟨fd,U7,h⟩:=h)
 (replace h:=ae h;obtain⟨l,hl,h⟩:=h)
 (replace h:=ae h;obtain⟨s,hs,h⟩:=h)
 (replace h:=aB h;obtain⟨h1,h⟩:=h)
 cases h
 obtain⟨i,hi,rfl⟩:=fM hs
 exact⟨fs,fd,i,ru hfs,by rw[←cB];exact U7,rfl,hl,hi,Nat.le_of_ble_eq_true h1⟩
theorem Bt{z:Value}(h:uC z=true):(ax z).all dD=true:=by
 unfold uC at h
 unfold ax
 cases ha:jq z with
 |none=>rw[ha]at h;simpa using h
 |some l=>rw[ha]at h;simpa [all_eq]using h
theorem I5{m:Mp}{z:Value}(h:uC z=true):VR m z z:=by
 unfold uC at h
 cases ha:jq z with
 |none=>rw[ha]at h;exact .sc z h
 |some l=>
  rw[ha]at h
  rw[iC ha]
  exact .agg _ _ (bP.dD (by simpa [all_eq]using h))
theorem C4{P:Program}{t:TypeId}{z:Value}(h:vD P t=some z):(∃i,P.info? t=some i∧i.zero=some z)∧uC z=true:=by
 (replace h:=ae h;obtain⟨i,hi,h⟩:=h)
 (replace h:=ae h;obtain⟨z',hz,h⟩:=h)
 (replace h:=aB h;obtain⟨h1,h⟩:=h)
 cases h
 exact⟨⟨i,hi,hz⟩,h1⟩
theorem qh(v:Value):ax v=v.cells.toList:=by
 cases v<;>simp[ax,jq,Value.cells]
theorem kR{P:Program}{t:TypeId}{zs:List Value}(h:my P t=some zs):
 ∃i z,P.info? t=some i∧i.zero=some z∧zs=z.cells.toList∧zs.length=i.size∧zs.all dD=true:=by
 (replace h:=ae h;obtain⟨z,hz,h⟩:=h)
 (replace h:=ae h;obtain⟨s,hs,h⟩:=h)
 (replace h:=aB h;obtain⟨h1,h⟩:=h)
 cases h
 obtain⟨i,hi,rfl⟩:=fM hs
 obtain⟨⟨i',hi',hz'⟩,hok⟩:=C4 hz
 rw[hi]at hi';cases hi'
 simp only[aJ]at h1
 exact⟨i,z,hi,hz',qh z,Nat.eq_of_beq_eq_true h1,Bt hok⟩
section run
variable{P:Program}{w:World}
theorem aA{t:TypeId}{d:TypeDesc}(h:P.underlying t=some d):(underlying t).run P w=.ok d w:=by simp[underlying,h]
theorem jZ{t:TypeId}{i:TypeInfo}(h:P.info? t=some i):(typeInfo t).run P w=.ok i w:=by simp[typeInfo,h]
theorem bG{t:TypeId}{i:TypeInfo}(h:P.info? t=some i):(sizeOf t).run P w=.ok i.size w:=by simp[sizeOf,jZ h]
theorem lz{t:TypeId}{i:TypeInfo}{z:Value}(h:P.info? t=some i)(hz:i.zero=some z):(zeroValue t).run P w=.ok z w:=by simp[zeroValue,jZ h,hz]
theorem jG{t:TypeId}{d:TypeDesc}(h:P.underlying t=some d):(isAgg t).run P w=.ok (EK d) w:=by
 simp only[isAgg,Sem.run_bind,aA h,Result.andThen_ok]
 cases d<;>rfl
end run
section ops
variable{P:Program}{m:Mp}
theorem GD{l:Option Nat}{t:TypeId}{cs cs':List Value}{off:Nat}{v:Value}(h:apart l cs off=some v)(hl:Kv P t=some l)(hc:bP m cs cs'):
 ∃v',VR m v v'∧∀w,(part t ⟨cs'⟩ off).run P w=.ok v' w:=by
 obtain⟨d,i,hd,hi,hk⟩:=EP hl
 rcases hk with⟨ha,rfl⟩|⟨ha,rfl⟩
 ·(replace h:=aB h;obtain⟨h1,h⟩:=h)
  cases h
  refine⟨.agg ⟨(cs'.drop off).take i.size⟩,?_,fun w=>?_⟩
  ·rw[vB,zZ];exact .agg _ _ ((hc.drop off).take _)
  ·simp only[part,Sem.run_bind,jG hd,ha,Result.andThen_ok,if_true,bG hi,Sem.run_pure]
   simp[vB,zZ,List.take_drop]
 ·simp only[apart,cB]at h
  obtain⟨v',hv',hr⟩:=hc.get off h
  refine⟨v',hr,fun w=>?_⟩
  simp[part,jG hd,ha,hv']
theorem lZ{n es:Nat}(h:aP n=true):n≠bH es:=by
 intro e;rw[e]at h
 have:=Nat.le_of_ble_eq_true h
 unfold bH at this
 simp at this
 omega
theorem VR.of_slice{a:Addr}{n cp:Nat}{v:Value}(h:VR m (.slice (some a) n cp) v):
 (∃l cc,m a.block=some l∧l.lo≤a.off∧a.spot=none∧v=.slice (some ⟨l.c,l.base +(a.off -l.lo),none⟩) n cc∧
  ((aP cp=true∧cc=cp∧n≤cp)∨(∃es,cp=bH es∧0<es∧l.base +(a.off -l.lo) +cc*es=l.tot∧n≤cc∧l.n≤a.off +cc*es)))∨
 (∃a',n=0∧(cp=0∨∃es l,cp=bH es∧m a.block=some l∧l.lo≤a.off∧0<es∧l.n≤a.off∧a.spot=none)∧v=.slice (some a') 0 0):=by
 cases h with
 |sc _ h=>simp[Ae.dD,aD]at h
 |slice r off n cp l h hl hk hn=>exact .inl ⟨l,cp,h,hl,rfl,rfl,.inl ⟨hk,rfl,hn⟩⟩
 |gK r off n es cc l h hl he ht hc hN=>exact .inl ⟨l,cc,h,hl,rfl,rfl,.inr ⟨es,rfl,he,ht,hc,hN⟩⟩
 |jE a a'=>exact .inr ⟨a',rfl,.inl rfl,rfl⟩
 |iB r off es a' l h hl he hN=>exact .inr ⟨a',rfl,.inr ⟨es,l,rfl,h,hl,he,hN,rfl⟩,rfl⟩
theorem VR.ik{n cp:Nat}{v:Value}(h:VR m (.slice none n cp) v):n=0∧cp=0∧v=.slice none 0 0:=by
 cases h with
 |sc _ h=>
  simp[Ae.dD,aD]at h
  obtain⟨h1,h2⟩:=h
  exact⟨h1,h2,by rw[h1,h2]⟩
theorem Bu(m:Mp)(r off k:Nat)(l:Loc)(h:m r=some l)(hl:l.lo≤off):
 VR m (.pointer (some ⟨r,off +k,none⟩)) (.pointer (some ((⟨l.c,l.base +(off -l.lo),none⟩:Addr).add k))):=by
 have he:(⟨l.c,l.base +(off -l.lo),none⟩:Addr).add k=⟨l.c,l.base +(off +k -l.lo),none⟩:=by
  unfold Addr.add
  split
  ·next h0=>rw[h0,Nat.add_zero]
  ·congr 1;show l.base +(off -l.lo) +k=_;omega
 rw[he]
 exact .ptr r (off +k) l h aa
theorem Bv{t:TypeId}{x i v x' i':Value}(h:gm P t x i=some v)(hx:VR m x x')(hi:VR m i i'):
 ∃v',VR m v v'∧∀w,(Instr.indexAt t x' i').run P w=.ok v' w:=by
 (replace h:=ae h;obtain⟨k,hk,h⟩:=h)
 obtain⟨kk,rfl⟩:=p9 hk
 have:=hi.of_int;subst this
 cases hs:z8 P t with
 |some q=>
  rw[hs]at h
  obtain⟨hu,⟨inf,iD,hsz⟩,h1⟩:=lu hs
  (replace h:=ae h;obtain⟨p,hp,h⟩:=h)
  (replace h:=ae h;obtain⟨a,ha,h⟩:=h)
  (replace h:=aB h;obtain⟨hlt,h⟩:=h)
  cases h
  have hlt:=Nat.le_of_ble_eq_true hlt
  rw[ji hp,ha]at hx
  rcases hx.of_slice with⟨l,cc,hm,hl,hsp,rfl,_⟩|⟨a',h0,_,_⟩
  ·refine⟨_,Bu m a.block a.off (k*q.2) l hm hl,fun w=>?_⟩
   have h2:k<p.2.1:=hlt
   simp[Instr.indexAt,asIntOf,aA hu,bG iD,hsz,h2]
  ·omega
 |none=>
  rw[hs]at h
  (replace h:=ae h;obtain⟨q,hq,h⟩:=h)
  obtain⟨hu,⟨inf,iD,hsz⟩,h1⟩:=w9 hq
  (replace h:=ae h;obtain⟨a,ha,h⟩:=h)
  (replace h:=aB h;obtain⟨hlt,h⟩:=h)
  cases h
  have hlt:=Nat.le_of_ble_eq_true hlt
  rw[dS ha]at hx
  obtain⟨l,hm,hl,hsp,rfl⟩:=hx.gL
  refine⟨_,Bu m a.block a.off (k*q.2.2) l hm hl,fun w=>?_⟩
  have h2:k<q.1:=hlt
  simp[Instr.indexAt,Instr.sureAddr,asIntOf,aA hu,bG iD,hsz,h2]
theorem KZ{t:TypeId}{x i v x' i':Value}(h:oN P t x i=some v)(hx:VR m x x')(hi:VR m i i'):
 ∃v',VR m v v'∧∀w,(Instr.index t x' i').run P w=.ok v' w:=by
 (replace h:=ae h;obtain⟨k,hk,h⟩:=h)
 obtain⟨kk,rfl⟩:=p9 hk
 have:=hi.of_int;subst this
 cases hs:qX P t with
 |true=>
  rw[hs]at h
  have hu:=uM hs
  (replace h:=ae h;obtain⟨s,hp,h⟩:=h)
  (replace h:=ae h;obtain⟨b,hb,h⟩:=h)
  cases h
  rw[dU hp]at hx
  have:=hx.iT;subst this
  rw[cB]at hb
  refine⟨.int .u8 b.toNat,.sc _ rfl,fun w=>?_⟩
  have hb':s[k]?=some b:=by
   rw[←hb]
   obtain⟨hlt,heq⟩:=List.getElem?_eq_some_iff.1 hb
   have hlt':k<s.size:=hlt
   rw[getElem?_pos s k hlt']
   simp[hb,←heq];rfl
  simp[Instr.index,asIntOf,aA hu,hb']
 |false=>
  rw[hs]at h
  (replace h:=ae h;obtain⟨q,hq,h⟩:=h)
  (replace h:=ae h;obtain⟨cs,hcs,h⟩:=h)
  (replace h:=ae h;obtain⟨l,hl,h⟩:=h)
  (replace h:=aB h;obtain⟨hlt,h⟩:=h)
  obtain⟨hu,⟨inf,iD,hsz⟩,h1⟩:=w9 hq
  have hlt:=Nat.le_of_ble_eq_true hlt
  rw[iC hcs]at hx
  obtain⟨cs',rfl,hc⟩:=hx.jF
  obtain⟨v',hv',hr⟩:=GD h hl hc
  refine⟨v',hv',fun w=>?_⟩
  have h2:k<q.1:=hlt
  have:=hr w
  simp only[Nat.mul_eq]at this
  simp[Instr.index,asIntOf,aA hu,bG iD,hsz,h2,this]
theorem Bw{t:TypeId}{x v x':Value}{f:Nat}(h:g_ P t x f=some v)(hx:VR m x x'):
 ∃v',VR m v v'∧∀w,(Instr.fieldAt t x' f).run P w=.ok v' w:=by
 (replace h:=ae h;obtain⟨a,ha,h⟩:=h)
 (replace h:=ae h;obtain⟨q,hq,h⟩:=h)
 cases h
 obtain⟨fs,fd,i,hu,U7,ho,hl,hi,h1⟩:=Ad hq
 rw[dS ha]at hx
 obtain⟨l,hm,hlo,hsp,rfl⟩:=hx.gL
 refine⟨_,Bu m a.block a.off q.1 l hm hlo,fun w=>?_⟩
 have h2:i.size≠0:=by omega
 simp[Instr.fieldAt,aA hu,U7,Instr.sureAddr,fieldPlace,bG hi,h2,ho]
theorem K3{t:TypeId}{x v x':Value}{f:Nat}(h:oO P t x f=some v)(hx:VR m x x'):
 ∃v',VR m v v'∧∀w,(Instr.field t x' f).run P w=.ok v' w:=by
 (replace h:=ae h;obtain⟨cs,ha,h⟩:=h)
 (replace h:=ae h;obtain⟨q,hq,h⟩:=h)
 obtain⟨fs,fd,i,hu,U7,ho,hl,hi,h1⟩:=Ad hq
 rw[iC ha]at hx
 obtain⟨cs',rfl,hc⟩:=hx.jF
 obtain⟨v',hv',hr⟩:=GD h hl hc
 refine⟨v',hv',fun w=>?_⟩
 have:=hr w
 simp[Instr.field,aA hu,U7,asAgg,ho,this]
end ops
section ops
variable{P:Program}{m:Mp}
theorem lC{s:Sem Value}{v:Value}(h:bD s=some v):dD v=true∧∀w,s.run P w=.ok v w:=by
 cases s<;>simp only[bD]at h
 case pure u=>
  (replace h:=aB h;obtain⟨h1,h⟩:=h)
  cases h
  exact⟨h1,fun w=>rfl⟩
 all_goals cases h
theorem mG{β:Type}(b:Bool)(x y:β):au b x y=if b=true then x else y:=by cases b<;>rfl
theorem I6(n:Int):aT .i64 n=IntKind.i64.wrap n:=by
 cases n with
 |ofNat k=>
  have e:aT .i64 (.ofNat k)=au (true&&Nat.ble k 9223372036854775807) (.ofNat k) (IntKind.i64.wrap (.ofNat k)):=rfl
  rw[e,mG]
  split
  ·next hb=>
   simp only[Bool.true_and]at hb
   have:=Nat.le_of_ble_eq_true hb
   exact(IntWalk.i64_in _ (by simp;omega)).symm
  ·simp only[]
 |negSucc k=>
  have e:aT .i64 (.negSucc k)=au (true&&Nat.ble k 9223372036854775807) (.negSucc k) (IntKind.i64.wrap (.negSucc k)):=rfl
  rw[e,mG]
  split
  ·next hb=>
   simp only[Bool.true_and]at hb
   have:=Nat.le_of_ble_eq_true hb
   exact(IntWalk.i64_in _ aa).symm
  ·simp only[]
theorem sK(k:IntKind)(n:Int):aT k n=k.wrap n:=by
 cases k
 case i64=>exact I6 n
 all_goals cases n<;>simp[aT,mX,mG]
theorem ER(a b:Int):zF a b=decide (a<b):=by
 rw[Bool.eq_iff_iff]
 cases a<;>cases b<;>simp[zF,Nat.ble_eq]<;>omega
theorem xM(a b:Int):Kw a b=(a==b):=by
 rw[Bool.eq_iff_iff]
 cases a<;>cases b<;>simp[Kw,Nat.beq_eq]<;>omega
theorem xN(a b:Bool):oz a b=(a==b):=by cases a<;>cases b<;>rfl
theorem I7:∀(a b:List Nat),xB a b=(a==b):=by
 intro a
 induction a with
 |nil=>intro b;cases b<;>rfl
 |cons x a ih=>
  intro b
  cases b with
  |nil=>rfl
  |cons y b=>
   show au (Nat.beq x y) (xB a b) false=_
   rw[ih,List.cons_beq_cons,mG]
   by_cases hxy:x=y
   ·subst hxy;simp
   ·have:Nat.beq x y=false:=by rw[←Bool.not_eq_true,Nat.beq_eq];exact hxy
    simp[this,hxy]
theorem O'(a b:List UInt8):(O4 a==O4 b)=(a==b):=by
 rw[Bool.eq_iff_iff]
 simp only[O4,qL,beq_iff_eq]
 constructor
 ·intro h
  exact(List.map_inj_right (fun x y h=>UInt8.toNat_inj.1 h)).1 h
 ·intro h;rw[h]
theorem lD(a b:ByteArray):gY a b=(a.toList==b.toList):=by
 unfold gY
 rw[I7,O',ByteArray.toList_eq,ByteArray.toList_eq]
theorem K4(a b:ByteArray):strLt a b=Op.bytesLess a.toList b.toList:=by
 unfold strLt
 rw[ByteArray.toList_eq,ByteArray.toList_eq]
theorem O_{op:BinOp}{k:IntKind}{a b:Int}{v:Value}{t:TypeId}(h:IX op k a b=some v):dD v=true∧∀w,(binOp op t (.int k a) (.int k b)).run P w=.ok v w:=by
 have ps:∀(o:BinOp)(s:Sem Value),bD s=some v→binOp o t (.int k a) (.int k b)=s→dD v=true∧∀w,(binOp o t (.int k a) (.int k b)).run P w=.ok v w:=by
  intro o s h1 h2;rw[h2];exact lC h1
 cases op<;>simp only[IX]at h
 case quo=>exact ps _ _ h (by simp[binOp])
 case rem=>exact ps _ _ h (by simp[binOp])
 case and=>exact ps _ _ h (by simp[binOp])
 case or=>exact ps _ _ h (by simp[binOp])
 case xor=>exact ps _ _ h (by simp[binOp])
 case andNot=>exact ps _ _ h (by simp[binOp])
 case shl=>cases h
 case shr=>cases h
 all_goals
  cases h
  refine⟨rfl,fun w=>?_⟩
  simp[binOp,Op.intArith,Op.intCmp,sK,ER,xM]
 case leq=>rw[Bool.eq_iff_iff];simp
 case geq=>rw[Bool.eq_iff_iff];simp
 all_goals rfl
theorem Pb{op:BinOp}{a b:ByteArray}{v:Value}{t:TypeId}(h:O5 op a b=some v):dD v=true∧∀w,(binOp op t (.string a) (.string b)).run P w=.ok v w:=by
 cases op<;>simp only[O5]at h
 case add=>
  simp only[KJ]at h
  (replace h:=aB h;obtain⟨h1,h⟩:=h)
  cases h
  refine⟨rfl,fun w=>?_⟩
  have h2:=Nat.le_of_ble_eq_true h1
  simp only[aJ]at h2
  have h3:¬(((a.size +b.size:Nat):Int)>IntKind.i64.max):=by
   have e1:a.size=a.data.toList.length:=rfl
   have e2:b.size=b.data.toList.length:=rfl
   have e3:IntKind.i64.max=9223372036854775807:=by decide
   have h4:a.data.toList.length +b.data.toList.length≤4611686018427387904:=h2
   rw[e1,e2,e3];omega
  have h5:a++b=⟨⟨app a.data.toList b.data.toList⟩⟩:=by
   rw[fV]
   apply ByteArray.ext
   simp[ByteArray.data_append]
  simp only[binOp,Op.stringOp]
  rw[if_neg h3,h5];rfl
 all_goals first
  |cases h;done
  |(cases h
    refine⟨rfl,fun w=>?_⟩
    simp[binOp,Op.stringOp,lD,K4])
theorem I8{op:BinOp}{t:TypeId}{x y v x' y':Value}(h:EM op t x y=some v)(hx:VR m x x')(hy:VR m y y'):
 VR m v v∧∀w,(binOp op t x' y').run P w=.ok v w:=by
 (replace h:=aB h;obtain⟨h1,h⟩:=h)
 simp only[Bool.and_eq_true]at h1
 have hsx:dD x=true:=by
  have:=Nat.le_of_ble_eq_true h1.1
  cases x<;>simp[jA]at this<;>rfl
 have hsy:dD y=true:=by
  have h2:=Nat.eq_of_beq_eq_true h1.2
  have:=Nat.le_of_ble_eq_true h1.1
  rw[h2]at this
  cases y<;>simp[jA]at this<;>rfl
 rw[hx.gU hsx,hy.gU hsy]
 obtain⟨a,b⟩:=lC (P:=P) h
 exact⟨.sc v a,b⟩
theorem kS{d:TypeDesc}{x y x' y':Value}{b:Bool}{t:TypeId}(hd:P.underlying t=some d)(h:iQ (gF d) x y=some b)(hx:VR m x x')(hy:VR m y y'):
 x'=x∧y'=y∧∀n w,(Op.equalIn (n +1) t x' y').run P w=.ok b w:=by
 cases d<;>simp only[gF]at h
 case int k=>
  have h:(ah (gW x) fun a=>ah (gW y) fun b=>gd (Nat.beq (fT a.1) (fT b.1)) (some (Kw a.2 b.2)))=some b:=h
  (replace h:=ae h;obtain⟨p,hp,h⟩:=h)
  (replace h:=ae h;obtain⟨q,hq,h⟩:=h)
  (replace h:=aB h;obtain⟨hk,h⟩:=h)
  cases h
  have e1:=eT hp
  have e2:=eT hq
  have hk:=ng hk
  rw[e1]at hx;rw[e2]at hy
  have hx:=hx.of_int
  have hy:=hy.of_int
  refine⟨by rw[hx,e1],by rw[hy,e2],fun n w=>?_⟩
  rw[hx,hy,hk,run_equalIn_int w n t _ k _ _ hd,xM]
 case bool=>
  have h:(ah (bE x) fun a=>ah (bE y) fun b=>some (oz a b))=some b:=h
  (replace h:=ae h;obtain⟨p,hp,h⟩:=h)
  (replace h:=ae h;obtain⟨q,hq,h⟩:=h)
  cases h
  have e1:=eF hp
  have e2:=eF hq
  rw[e1]at hx;rw[e2]at hy
  have hx:=hx.of_bool
  have hy:=hy.of_bool
  refine⟨by rw[hx,e1],by rw[hy,e2],fun n w=>?_⟩
  rw[hx,hy,run_equalIn_bool' w n t _ _ hd,xN]
 case string=>
  have h:(ah (gX x) fun a=>ah (gX y) fun b=>some (gY a b))=some b:=h
  (replace h:=ae h;obtain⟨p,hp,h⟩:=h)
  (replace h:=ae h;obtain⟨q,hq,h⟩:=h)
  cases h
  have e1:=dU hp
  have e2:=dU hq
  rw[e1]at hx;rw[e2]at hy
  have hx:=hx.iT
  have hy:=hy.iT
  refine⟨by rw[hx,e1],by rw[hy,e2],fun n w=>?_⟩
  rw[hx,hy,run_equalIn_string w n t _ _ hd,lD]
 all_goals cases h
end ops
section ops
variable{P:Program}{m:Mp}
theorem ni{d:TypeDesc}(h:1≤gF d):EK d=false:=by cases d<;>first|rfl|simp[gF]at h
theorem iP{f:Field}{fs:List Field}{k:Nat}{ks:List Nat}(h:f_ P (f::fs) k=some ks):
 ∃d r,P.underlying f.type=some d∧f_ P fs (k +1)=some r∧f.offset=k∧f.name≠ "_" ∧1≤gF d∧ks=gF d::r:=by
 have h:(ah (P.underlying f.type) fun d=>ah (f_ P fs (k +1)) fun r=>gd (Nat.beq f.offset k&&!(f.name== "_")&&Nat.ble 1 (gF d)) (some (gF d::r)))=some ks:=h
 (replace h:=ae h;obtain⟨d,hd,h⟩:=h)
 (replace h:=ae h;obtain⟨r,hr,h⟩:=h)
 (replace h:=aB h;obtain⟨hg,h⟩:=h)
 cases h
 simp only[Bool.and_eq_true,Bool.not_eq_true',beq_eq_false_iff_ne]at hg
 exact⟨d,r,hd,hr,Nat.eq_of_beq_eq_true hg.1.1,hg.1.2,Nat.le_of_ble_eq_true hg.2,rfl⟩
theorem kJ{k:Nat}{ks:List Nat}{xs ys:List Value}{b:Bool}(h:fI (k::ks) xs ys=some b):
 ∃x xr y yr c,xs=x::xr∧ys=y::yr∧iQ k x y=some c∧((c=true∧fI ks xr yr=some b)∨(c=false∧b=false)):=by
 cases xs with
 |nil=>cases h
 |cons x xr=>cases ys with
  |nil=>cases h
  |cons y yr=>
   have h:(ah (iQ k x y) fun c=>au c (fI ks xr yr) (some false))=some b:=h
   (replace h:=ae h;obtain⟨c,hc,h⟩:=h)
   cases c
   ·cases h;exact⟨x,xr,y,yr,false,rfl,rfl,hc,.inr ⟨rfl,rfl⟩⟩
   ·exact⟨x,xr,y,yr,true,rfl,rfl,hc,.inl ⟨rfl,h⟩⟩
theorem kT{t:TypeId}{d:TypeDesc}{cs:List Value}{off:Nat}{v:Value}{w:World}(hd:P.underlying t=some d)(ha:EK d=false)(hv:cs[off]?=some v):
 (part t ⟨cs⟩ off).run P w=.ok v w:=by
 simp[part,jG hd,ha,hv]
theorem C5:∀(fs:List Field)(k:Nat)(ks:List Nat)(xs ys X' Y':List Value)(b:Bool),f_ P fs k=some ks→fI ks xs ys=some b→
 bP m xs (X'.drop k)→bP m ys (Y'.drop k)→∀n w,(Op.eqFields (n +1) ⟨X'⟩ ⟨Y'⟩ fs).run P w=.ok b w:=by
 intro fs
 induction fs with
 |nil=>
  intro k ks xs ys X' Y' b hk hc hx hy n w
  cases hk
  cases xs with
  |nil=>cases ys with
   |nil=>cases hc;rfl
   |cons _ _=>cases hc
  |cons _ _=>cases hc
 |cons f fs ih=>
  intro k ks xs ys X' Y' b hk hc hx hy n w
  obtain⟨d,r,hd,hr,ho,hn,h1,rfl⟩:=iP hk
  obtain⟨x,xr,y,yr,c,rfl,rfl,hce,hcase⟩:=kJ hc
  generalize hX:X'.drop k=X1 at hx
  generalize hY:Y'.drop k=Y1 at hy
  cases hx with
  |cons _ x' _ U8 hxv oI=>
   cases hy with
   |cons _ y' _ U9 hyv K5=>
    have gx:X'[k]?=some x':=by
     have:=congrArg (·[0]?) hX;simpa using this
    have gy:Y'[k]?=some y':=by
     have:=congrArg (·[0]?) hY;simpa using this
    have dx:X'.drop (k +1)=U8:=by rw[←List.drop_drop,hX];rfl
    have dy:Y'.drop (k +1)=U9:=by rw[←List.drop_drop,hY];rfl
    obtain⟨ex,ey,he⟩:=kS (t:=f.type) hd hce hxv hyv
    have p1:=kT (w:=w) hd (ni h1) gx
    have p2:=kT (w:=w) hd (ni h1) gy
    rw[←ho]at p1 p2
    simp only[Op.eqFields,hn,ne_eq,not_false_eq_true,if_true,Sem.run_bind,p1,p2,Result.andThen_ok,he n w,Sem.run_ite,Sem.run_pure]
    rcases hcase with⟨rfl,hrest⟩|⟨rfl,rfl⟩
    ·simp only[Bool.not_true,Bool.false_eq_true,if_false]
     exact ih (k +1) r xr yr X' Y' b hr hrest (by rw[dx];exact oI) (by rw[dy];exact K5) n w
    ·simp
theorem K6{α:Type}(x:α)(n:Nat):KL x n=List.replicate n x:=by
 induction n with
 |zero=>rfl
 |succ n ih=>exact congrArg (x::·) ih
theorem ES{e:TypeId}{d:TypeDesc}(hd:P.underlying e=some d)(h1:1≤gF d)(hs:P.cellsOf e=1):∀(c k:Nat)(xs ys X' Y':List Value)(b:Bool),
 fI (List.replicate c (gF d)) xs ys=some b→bP m xs (X'.drop k)→bP m ys (Y'.drop k)→
 ∀n w,(Op.eqItems (n +1) e (P.cellsOf e) ⟨X'⟩ ⟨Y'⟩ (List.range' k c)).run P w=.ok b w:=by
 intro c
 induction c with
 |zero=>
  intro k xs ys X' Y' b hc hx hy n w
  cases xs with
  |nil=>cases ys with
   |nil=>cases hc;rfl
   |cons _ _=>cases hc
  |cons _ _=>cases hc
 |succ c ih=>
  intro k xs ys X' Y' b hc hx hy n w
  obtain⟨x,xr,y,yr,q,rfl,rfl,hce,hcase⟩:=kJ hc
  generalize hX:X'.drop k=X1 at hx
  generalize hY:Y'.drop k=Y1 at hy
  cases hx with
  |cons _ x' _ U8 hxv oI=>
   cases hy with
   |cons _ y' _ U9 hyv K5=>
    have gx:X'[k]?=some x':=by
     have:=congrArg (·[0]?) hX;simpa using this
    have gy:Y'[k]?=some y':=by
     have:=congrArg (·[0]?) hY;simpa using this
    have dx:X'.drop (k +1)=U8:=by rw[←List.drop_drop,hX];rfl
    have dy:Y'.drop (k +1)=U9:=by rw[←List.drop_drop,hY];rfl
    obtain⟨ex,ey,he⟩:=kS (t:=e) hd hce hxv hyv
    have p1:=kT (w:=w) hd (ni h1) gx
    have p2:=kT (w:=w) hd (ni h1) gy
    rw[List.range'_succ]
    simp only[Op.eqItems,Sem.run_bind,hs,Nat.mul_one,p1,p2,Result.andThen_ok,he n w,Sem.run_ite,Sem.run_pure]
    rcases hcase with⟨rfl,hrest⟩|⟨rfl,rfl⟩
    ·simp only[Bool.not_true,Bool.false_eq_true,if_false]
     have:=ih (k +1) xr yr X' Y' b hrest (by rw[dx];exact oI) (by rw[dy];exact K5) n w
     rw[hs]at this
     exact this
    ·simp
theorem I9{α:Type}{o q:Option α}{r:α}(h:orElse' o q=some r):o=some r∨(o=none∧q=some r):=by
 cases o with
 |none=>exact .inr ⟨rfl,h⟩
 |some x=>exact .inl h
theorem uN{t:TypeId}{q:Sum Nat (List Nat)}(h:UX P t=some q):
 (∃d,P.underlying t=some d∧q=.inl (gF d)∧1≤gF d)∨
 (∃fs ks,P.underlying t=some (.struct ⟨fs⟩)∧P.stoodInHeld t=false∧f_ P fs 0=some ks∧q=.inr ks)∨
 (∃n e d i,P.underlying t=some (.array n e)∧P.underlying e=some d∧P.info? e=some i∧i.size=1∧1≤gF d∧q=.inr (List.replicate n (gF d))):=by
 (replace h:=ae h;obtain⟨d,hd,h⟩:=h)
 cases hb:Nat.ble 1 (gF d)with
 |true=>rw[hb]at h;cases h;exact .inl ⟨d,hd,rfl,Nat.le_of_ble_eq_true hb⟩
 |false=>
  rw[hb]at h
  have h:(ah (orElse' (CR P t) (Q3 P t)) fun l=>some (Sum.inr l))=some q:=h
  (replace h:=ae h;obtain⟨l,hl,h⟩:=h)
  cases h
  rcases I9 hl with hs|⟨_,ha⟩
  ·right;left
   have h:=hs
   (replace h:=ae h;obtain⟨fs,hfs,h⟩:=h)
   (replace h:=aB h;obtain⟨hg,h⟩:=h)
   exact⟨fs,l,ru hfs,by simpa using hg,h,rfl⟩
  ·right;right
   have h:=ha
   (replace h:=ae h;obtain⟨d',hd',h⟩:=h)
   (replace h:=ae h;obtain⟨a,ha',h⟩:=h)
   (replace h:=ae h;obtain⟨e,he,h⟩:=h)
   (replace h:=ae h;obtain⟨s,hs,h⟩:=h)
   (replace h:=aB h;obtain⟨hg,h⟩:=h)
   cases h
   obtain⟨i,hi,rfl⟩:=fM hs
   simp only[Bool.and_eq_true]at hg
   exact⟨a.1,a.2,e,i,by rw[hd',Br ha'],he,hi,Nat.eq_of_beq_eq_true hg.1,Nat.le_of_ble_eq_true hg.2,by rw[K6]⟩
theorem ET{e:TypeId}{i:TypeInfo}(h:P.info? e=some i):P.cellsOf e=i.size:=by simp[Program.cellsOf,h]
theorem K7{t:TypeId}{x y x' y':Value}{b:Bool}(h:gG P t x y=some b)(hx:VR m x x')(hy:VR m y y'):
 ∀n w,(Op.equalIn (n +2) t x' y').run P w=.ok b w:=by
 intro n w
 (replace h:=ae h;obtain⟨q,hq,h⟩:=h)
 rcases uN hq with⟨d,hd,rfl,h1⟩|⟨fs,ks,hu,hs,hk,rfl⟩|⟨c,e,d,i,hu,he,hi,hsz,h1,rfl⟩
 ·have h:iQ (gF d) x y=some b:=h
  exact(kS hd h hx hy).2.2 (n +1) w
 ·have h:(ah (jq x) fun a=>ah (jq y) fun b=>fI ks a b)=some b:=h
  (replace h:=ae h;obtain⟨xs,hxs,h⟩:=h)
  (replace h:=ae h;obtain⟨ys,hys,h⟩:=h)
  rw[iC hxs]at hx
  rw[iC hys]at hy
  obtain⟨xs',rfl,oI⟩:=hx.jF
  obtain⟨ys',rfl,K5⟩:=hy.jF
  have hf:P.fieldsOf t=⟨fs⟩:=by simp[Program.fieldsOf,hu]
  rw[run_equalIn_struct w (n +1) t _ _ (by rw[hf];exact hu) hs,hf]
  exact C5 fs 0 ks xs ys xs' ys' b hk h (by simpa using oI) (by simpa using K5) n w
 ·have h:(ah (jq x) fun a=>ah (jq y) fun b=>fI (List.replicate c (gF d)) a b)=some b:=h
  (replace h:=ae h;obtain⟨xs,hxs,h⟩:=h)
  (replace h:=ae h;obtain⟨ys,hys,h⟩:=h)
  rw[iC hxs]at hx
  rw[iC hys]at hy
  obtain⟨xs',rfl,oI⟩:=hx.jF
  obtain⟨ys',rfl,K5⟩:=hy.jF
  rw[run_equalIn_array w (n +1) _ _ hu hi,List.range_eq_range']
  exact ES he h1 (by rw[ET hi,hsz]) c 0 xs ys xs' ys' b h (by simpa using oI) (by simpa using K5) n w
theorem xO{t:TypeId}{x y x' y':Value}{b:Bool}(h:gG P t x y=some b)(hx:VR m x x')(hy:VR m y y')(w:World):
 (Op.equal t x' y').run P w=.ok b w:=by
 have:=K7 h hx hy 9998 w
 exact this
end ops
section ops
variable{P:Program}{m:Mp}
theorem uO{d:TypeDesc}(h:1≤gF d):(∃k,d=.int k)∨d=.bool∨d=.string:=by
 cases d<;>first|exact .inl ⟨_,rfl⟩|exact .inr (.inl rfl)|exact .inr (.inr rfl)|simp[gF]at h
theorem xP{t:TypeId}{d:TypeDesc}(hd:P.underlying t=some d)(h:1≤gF d)(n:Nat):P.eqGuardType (n +1) t=false:=by
 unfold Program.eqGuardType
 rw[hd]
 rcases uO h with⟨k,rfl⟩|rfl|rfl<;>rfl
theorem I_:∀(fs:List Field)(k:Nat)(ks:List Nat),f_ P fs k=some ks→∀n,fs.any (fun f=>f.name != "_" &&P.eqGuardType (n +1) f.type)=false:=by
 intro fs
 induction fs with
 |nil=>intros;rfl
 |cons f fs ih=>
  intro k ks hk n
  obtain⟨d,r,hd,hr,ho,hn,h1,rfl⟩:=iP hk
  simp only[List.any_cons,ih _ _ hr n,Bool.or_false,xP hd h1 n,Bool.and_false]
theorem Pd{t:TypeId}{q:Sum Nat (List Nat)}(h:UX P t=some q):P.eqGuardType P.depth t=false:=by
 obtain⟨D,hD⟩:∃D,P.depth=D +2:=⟨_,rfl⟩
 rw[hD]
 rcases uN h with⟨d,hd,rfl,h1⟩|⟨fs,ks,hu,hs,hk,rfl⟩|⟨c,e,d,i,hu,he,hi,hsz,h1,rfl⟩
 ·exact xP hd h1 (D +1)
 ·unfold Program.eqGuardType
  rw[hu]
  have:=I_ fs 0 ks hk D
  simpa using this
 ·unfold Program.eqGuardType
  rw[hu]
  exact xP he h1 D
theorem VR.fZ{x x':Value}(h:VR m x x')(h1:1≤(Ae.fZ x).1):Ae.fZ x'=Ae.fZ x:=by
 cases h<;>first|rfl|(simp[Ae.fZ,Ae.top]at h1)
theorem ry{x:Value}(h:1≤(fZ x).1):
 (∃a,x=.pointer a∧fZ x=(1,a.isNone))∨(∃a l c,x=.slice a l c∧fZ x=(2,a.isNone))∨(∃r,x=.map r∧fZ x=(3,r.isNone))∨
 (∃f y z,x=.func f y z∧fZ x=(4,false))∨(x=.nilFunc∧fZ x=(4,true))∨(∃t v,x=.iface t v∧fZ x=(5,false))∨(x=.nilIface∧fZ x=(5,true)):=by
 cases x<;>simp[fZ]at h⊢
 case pointer a=>cases a<;>rfl
 case slice a l c=>cases a<;>rfl
 case map a=>cases a<;>rfl
theorem EU{d:TypeDesc}(h:1≤jU d):(∃e,d=.pointer e∧jU d=1)∨(∃e,d=.slice e∧jU d=2)∨(∃k e,d=.map k e∧jU d=3)∨(∃p r v,d=.func p r v∧jU d=4)∨(∃ms,d=.interface ms∧jU d=5):=by
 cases d<;>simp[jU]at h⊢
set_option maxHeartbeats 2000000 in
theorem Ja{t:TypeId}{x y:Value}{k:Nat}{b:Bool}(ht:uD P t=k)(h1:1≤k)(hx:fZ x=(k,b))(hy:fZ y=(k,true))(w:World):
 (Op.equal t x y).run P w=.ok b w∧(Op.equal t y x).run P w=.ok b w:=by
 unfold uD at ht
 cases hu:P.underlying t with
 |none=>rw[hu]at ht;simp at ht;omega
 |some d=>
  rw[hu]at ht
  have ht:jU d=k:=ht
  have hx1:1≤(fZ x).1:=by rw[hx];exact h1
  have hy1:1≤(fZ y).1:=by rw[hy];exact h1
  have hd1:1≤jU d:=by omega
  rcases EU hd1 with⟨e,rfl,hk⟩|⟨e,rfl,hk⟩|⟨kk,e,rfl,hk⟩|⟨p,r,v,rfl,hk⟩|⟨ms,rfl,hk⟩<;>
  rcases ry hx1 with⟨a,rfl,hxa⟩|⟨a,l,c,rfl,hxa⟩|⟨a,rfl,hxa⟩|⟨f,q,z,rfl,hxa⟩|⟨rfl,hxa⟩|⟨tt,v,rfl,hxa⟩|⟨rfl,hxa⟩<;>
  (rw[hxa]at hx;rw[Prod.mk.injEq]at hx;obtain⟨hx2,hx3⟩:=hx)<;>try(exfalso;omega)
  all_goals
   rcases ry hy1 with⟨a',rfl,hya⟩|⟨a',l',c',rfl,hya⟩|⟨a',rfl,hya⟩|⟨f',q',z',rfl,hya⟩|⟨rfl,hya⟩|⟨tt',v',rfl,hya⟩|⟨rfl,hya⟩<;>
   (rw[hya]at hy;rw[Prod.mk.injEq]at hy;obtain⟨hy2,hy3⟩:=hy)<;>try(exfalso;omega)
  all_goals first|cases hy3;done|skip
  all_goals try(cases a'<;>simp at hy3)
  all_goals try(cases a)
  all_goals
   subst hx3
   constructor<;>(refine(?_:∀n,(Op.equalIn (n +1) _ _ _).run P w=_) 9999;intro n;simp only[Op.equalIn,Sem.run_bind,aA hu,Result.andThen_ok,Sem.run_pure];(try rfl))
theorem K8{t:TypeId}{x y x' y':Value}{b:Bool}(ht:uE P t=true)(h:ptrEq x y=some b)(hx:VR m x x')(hy:VR m y y')(w:World):
 (Op.equal t x' y').run P w=.ok b w∧(∃a a',x'=.pointer (some a)∧y'=.pointer (some a')):=by
 (replace h:=ae h;obtain⟨a,ha,h⟩:=h)
 (replace h:=ae h;obtain⟨c,hc,h⟩:=h)
 (replace h:=aB h;obtain⟨hg,h⟩:=h)
 cases h
 rw[dS ha]at hx
 rw[dS hc]at hy
 obtain⟨l,hm,hlo,hsp,rfl⟩:=hx.gL
 obtain⟨l',hm',ZZ,Z0,rfl⟩:=hy.gL
 have hb:=Nat.eq_of_beq_eq_true hg
 rw[hb,hm']at hm
 cases hm
 have hsz:∃e i,P.underlying t=some (.pointer e)∧P.info? e=some i∧1≤i.size:=by
  unfold uE at ht
  cases hq:(ah (P.underlying t) fun d=>ah (sw d) fun e=>ah (je P e) fun s=>gd (Nat.ble 1 s) (some ()))with
  |none=>rw[hq]at ht;cases ht
  |some u=>
   have h:=hq
   (replace h:=ae h;obtain⟨d,hd,h⟩:=h)
   (replace h:=ae h;obtain⟨e,he,h⟩:=h)
   (replace h:=ae h;obtain⟨s,hs,h⟩:=h)
   (replace h:=aB h;obtain⟨h1,h⟩:=h)
   obtain⟨i,hi,rfl⟩:=fM hs
   exact⟨e,i,by rw[hd,wZ he],hi,Nat.le_of_ble_eq_true h1⟩
 obtain⟨e,i,hu,hi,h1⟩:=hsz
 refine⟨?_,_,_,rfl,rfl⟩
 have hne:i.size≠0:=by omega
 refine(?_:∀n,(Op.equalIn (n +1) _ _ _).run P w=_) 9999
 intro n
 simp only[Op.equalIn,Sem.run_bind,aA hu,Result.andThen_ok,bG hi,ne_eq,hne,not_false_eq_true,if_true,sameAddr,BEq.rfl,Sem.run_ite,Sem.run_pure]
 congr 1
 rw[Bool.eq_iff_iff]
 simp only[beq_iff_eq,Addr.mk.injEq,and_true,true_and]
 rw[show(Nat.beq a.off c.off=true)=(a.off=c.off)from by simp[Nat.beq_eq]]
 omega
theorem binOp_eql{t:TypeId}{x y:Value}{b:Bool}{w:World}(h:(Op.equal t x y).run P w=.ok b w)
 (hn:∀k n,x≠.int k n)(hf:∀k n,x≠.float k n)(hc:∀k n q,x≠.complex k n q)(hs:∀s,x≠.string s):
 (binOp .eql t x y).run P w=.ok (.bool b) w∧(binOp .neq t x y).run P w=.ok (.bool (!b)) w:=by
 have e1:binOp .eql t x y=(do pure (.bool (←Op.equal t x y))):=by
  cases x<;>first|rfl|(exfalso;first|exact hn _ _ rfl|exact hf _ _ rfl|exact hc _ _ _ rfl|exact hs _ rfl)
 have e2:binOp .neq t x y=(do pure (.bool (!(←Op.equal t x y)))):=by
  cases x<;>first|rfl|(exfalso;first|exact hn _ _ rfl|exact hf _ _ rfl|exact hc _ _ _ rfl|exact hs _ rfl)
 rw[e1,e2]
 simp[h]
end ops
section ops
variable{P:Program}{m:Mp}
theorem jP{o:Operand}(h:gZ o=true):∃v,o=.const v∧(fZ v).2=true:=by
 cases o<;>simp[gZ]at h;exact⟨_,rfl,h⟩
theorem dA{op:BinOp}{t:TypeId}{ox oy:Operand}{x y:Value}(w:World)(h:gZ ox=true∨gZ oy=true∨x≠.nilIface∨y≠.nilIface)
 (h2:(∀c,x≠.agg c)∨(∀c,y≠.agg c)∨P.eqGuardType P.depth t=false):(eqGuard op t ox oy x y).run P w=.ok () w:=by
 by_cases hop:op=.eql∨op=.neq
 ·by_cases hagg:∃c c',x=.agg c∧y=.agg c'
  ·obtain⟨c,c',rfl,rfl⟩:=hagg
   rcases h2 with h2|h2|h2
   ·exact absurd rfl (h2 c)
   ·exact absurd rfl (h2 c')
   ·exact run_eqGuard_agg w op t ox oy c c' h2
  ·by_cases hnil:x=.nilIface∧y=.nilIface
   ·obtain⟨rfl,rfl⟩:=hnil
    have hc:(∃v,ox=.const v)∨∃v,oy=.const v:=by
     rcases h with h|h|h|h
     ·obtain⟨v,rfl,_⟩:=jP h;exact .inl ⟨_,rfl⟩
     ·obtain⟨v,rfl,_⟩:=jP h;exact .inr ⟨_,rfl⟩
     ·exact absurd rfl h
     ·exact absurd rfl h
    rcases hc with⟨v,rfl⟩|⟨v,rfl⟩
    ·rcases hop with rfl|rfl<;>rfl
    ·rcases hop with rfl|rfl<;>cases ox<;>rfl
   ·rcases hop with rfl|rfl<;>cases x<;>first
     |rfl
     |(cases y<;>first|rfl|(exfalso;exact hagg ⟨_,_,rfl,rfl⟩)|(exfalso;exact hnil ⟨rfl,rfl⟩))
 ·cases op<;>first|rfl|(exfalso;exact hop (.inl rfl))|(exfalso;exact hop (.inr rfl))
theorem GG{op:BinOp}{t:TypeId}{ox oy:Operand}{x c x' c':Value}{b:Bool}(h:z_ (uD P t) c x=some b)(hx:VR m x x')(hc:VR m c c')(hn:(fZ c).2=true)(w:World):
 (Op.equal t x' c').run P w=.ok b w∧(Op.equal t c' x').run P w=.ok b w∧(∀q,x'≠.agg q)∧1≤(fZ x').1∧1≤(fZ c').1:=by
 (replace h:=aB h;obtain⟨hg,h⟩:=h)
 cases h
 simp only[Bool.and_eq_true]at hg
 have h1:=Nat.le_of_ble_eq_true hg.1.1
 have h2:=Nat.eq_of_beq_eq_true hg.1.2
 have h3:=Nat.eq_of_beq_eq_true hg.2
 have ex:=hx.fZ aa
 have ec:=hc.fZ aa
 have zy:fZ x'=(uD P t,(fZ x).2):=by rw[ex,←h2]
 have hcc:fZ c'=(uD P t,true):=by rw[ec,←h3,←hn]
 have:=Ja rfl h1 zy hcc w
 refine⟨this.1,this.2,?_,by rw[zy];exact h1,by rw[hcc];exact h1⟩
 intro q hq
 rw[hq]at zy;simp[fZ]at zy;omega
def xQ(x:Value):Prop:=(∀k n,x≠.int k n)∧(∀k n,x≠.float k n)∧(∀k n q,x≠.complex k n q)∧∀s,x≠.string s
theorem Af{x:Value}(h:1≤(fZ x).1):xQ x:=by
 refine⟨?_,?_,?_,?_⟩<;>(intros;intro e;rw[e]at h;simp[fZ]at h)
theorem Pe{t:TypeId}{x y x' y':Value}{b:Bool}(h:O6 P t x y=some b)(hx:VR m x x')(hy:VR m y y')(w:World):
 (Op.equal t x' y').run P w=.ok b w∧∃tx a ty c,x'=.iface tx a∧y'=.iface ty c:=by
 (replace h:=ae h;obtain⟨d,hd,h⟩:=h)
 (replace h:=aB h;obtain⟨hdi,h⟩:=h)
 (replace h:=ae h;obtain⟨p,hp,h⟩:=h)
 (replace h:=ae h;obtain⟨q,hq,h⟩:=h)
 rw[uL hp]at hx
 rw[uL hq]at hy
 obtain⟨a',rfl,hxa⟩:=hx.sI
 obtain⟨c',rfl,Z4⟩:=hy.sI
 refine⟨?_,_,_,_,_,rfl,rfl⟩
 cases d with
 |interface ms=>
  have hu:(underlying t).run P w=.ok (.interface ms) w:=aA hd
  cases hb:Nat.beq p.1 q.1 with
  |false=>
   rw[hb]at h
   cases h
   have hne:p.1≠q.1:=fun e=>by rw[e,show Nat.beq q.1 q.1=true from Nat.beq_refl _]at hb;cases hb
   show(Op.equalIn (9999 +1) t (.iface p.1 a') (.iface q.1 c')).run P w=_
   unfold Op.equalIn
   simp only[Sem.run_bind,hu,Result.andThen_ok,ne_eq,hne,not_false_eq_true,if_true,Sem.run_pure]
  |true=>
   rw[hb]at h
   have h:(gd (SF P p.1) (ah (P.underlying p.1) fun e=>gd (Nat.ble 1 (gF e)) (iQ (gF e) p.2 q.2)))=some b:=h
   (replace h:=aB h;obtain⟨hc,h⟩:=h)
   (replace h:=ae h;obtain⟨e,he,h⟩:=h)
   (replace h:=aB h;obtain⟨h1,h⟩:=h)
   have hpq:p.1=q.1:=Nat.eq_of_beq_eq_true hb
   obtain⟨_,_,hce⟩:=kS (t:=p.1) he h hxa Z4
   have iD:∃i,P.info? p.1=some i∧i.comparable=true:=by
    unfold SF at hc
    cases hi:P.info? p.1 with
    |none=>rw[hi]at hc;cases hc
    |some i=>rw[hi]at hc;exact⟨i,rfl,hc⟩
   obtain⟨i,hi,hic⟩:=iD
   have hce:=hce 9998 w
   show(Op.equalIn (9999 +1) t (.iface p.1 a') (.iface q.1 c')).run P w=_
   rw[←hpq]
   unfold Op.equalIn
   simp only[Sem.run_bind,hu,Result.andThen_ok,ne_eq,not_true_eq_false,if_false,jZ hi,hic,Bool.not_true,Bool.false_eq_true]
   exact hce
 |_=>cases hdi
theorem SN{op:BinOp}{t:TypeId}{ox oy:Operand}{x y x' y':Value}{b:Bool}(h:Q4 P t ox oy x y=some b)(hx:VR m x x')(hy:VR m y y')
 (hox:∀c,ox=.const c→x=c)(hoy:∀c,oy=.const c→y=c)(hxo:gW x=none∧gX x=none∧jA x=0)(w:World):
 (Op.equal t x' y').run P w=.ok b w∧(eqGuard op t ox oy x' y').run P w=.ok () w∧xQ x':=by
 unfold Q4 at h
 cases hcy:gZ oy with
 |true=>
  rw[hcy]at h
  obtain⟨v,hv,hn⟩:=jP hcy
  have:=hoy v hv;subst this
  obtain⟨h1,h2,h3,h4,h5⟩:=GG (op:=op) (ox:=ox) (oy:=oy) h hx hy hn w
  exact⟨h1,dA w (.inr (.inl hcy)) (.inl h3),Af h4⟩
 |false=>
  rw[hcy]at h
  cases hcx:gZ ox with
  |true=>
   rw[hcx]at h
   obtain⟨v,hv,hn⟩:=jP hcx
   have:=hox v hv;subst this
   obtain⟨h1,h2,h3,h4,h5⟩:=GG (op:=op) (ox:=ox) (oy:=oy) h hy hx hn w
   exact⟨h2,dA w (.inl hcx) (.inr (.inl h3)),Af h5⟩
  |false=>
   rw[hcx]at h
   cases hp:uE P t with
   |true=>
    rw[hp]at h
    obtain⟨h1,a,a',rfl,rfl⟩:=K8 hp h hx hy w
    exact⟨h1,dA w (.inr (.inr (.inl (by simp)))) (.inl (by simp)),by simp[xQ]⟩
   |false=>
    rw[hp]at h
    have h:orElse' (gG P t x y) (O6 P t x y)=some b:=h
    cases UM:gG P t x y with
    |none=>
     rw[UM]at h
     have h:O6 P t x y=some b:=h
     obtain⟨h1,tx,a,ty,c,rfl,rfl⟩:=Pe h hx hy w
     exact⟨h1,dA w (.inr (.inr (.inl (by simp)))) (.inl (by simp)),by simp[xQ]⟩
    |some b'=>
    rw[UM]at h
    have h:some b'=some b:=h
    rw[h]at UM
    have h:=UM
    have h1:=xO h hx hy w
    have hv:=h
    (replace h:=ae h;obtain⟨q,hq,h⟩:=h)
    have Zu:=Pd hq
    rcases uN hq with⟨d,hd,rfl,hk⟩|⟨fs,ks,hu,hs,hk,rfl⟩|⟨c,e,d,i,hu,he,hi,hsz,hk,rfl⟩
    ·have h:iQ (gF d) x y=some b:=h
     obtain⟨ex,ey,_⟩:=kS (t:=t) hd h hx hy
     subst ex;subst ey
     have U':∃z,x'=.bool z:=by
      rcases uO hk with⟨k,rfl⟩|rfl|rfl
      ·have h:(ah (gW x') fun a=>ah (gW y') fun b=>gd (Nat.beq (fT a.1) (fT b.1)) (some (Kw a.2 b.2)))=some b:=h
       rw[hxo.1]at h;cases h
      ·have h:(ah (bE x') fun a=>ah (bE y') fun b=>some (oz a b))=some b:=h
       (replace h:=ae h;obtain⟨p,hp,h⟩:=h)
       exact⟨p,eF hp⟩
      ·have h:(ah (gX x') fun a=>ah (gX y') fun b=>some (gY a b))=some b:=h
       rw[hxo.2.1]at h;cases h
     obtain⟨z,rfl⟩:=U'
     exact⟨h1,dA w (.inr (.inr (.inl (by simp)))) (.inl (by simp)),by simp[xQ]⟩
    ·have h:(ah (jq x) fun a=>ah (jq y) fun b=>fI ks a b)=some b:=h
     (replace h:=ae h;obtain⟨xs,hxs,h⟩:=h)
     rw[iC hxs]at hx
     obtain⟨xs',rfl,oI⟩:=hx.jF
     exact⟨h1,dA w (.inr (.inr (.inl (by simp)))) (.inr (.inr Zu)),by simp[xQ]⟩
    ·have h:(ah (jq x) fun a=>ah (jq y) fun b=>fI (List.replicate c (gF d)) a b)=some b:=h
     (replace h:=ae h;obtain⟨xs,hxs,h⟩:=h)
     rw[iC hxs]at hx
     obtain⟨xs',rfl,oI⟩:=hx.jF
     exact⟨h1,dA w (.inr (.inr (.inl (by simp)))) (.inr (.inr Zu)),by simp[xQ]⟩
theorem iE{op:BinOp}{t:TypeId}{ox oy:Operand}{x y v:Value}{w:World}(h1:(eqGuard op t ox oy x y).run P w=.ok () w)(h2:(binOp op t x y).run P w=.ok v w):
 (do eqGuard op t ox oy x y;binOp op t x y:Sem Value).run P w=.ok v w:=by
 simp[h1,h2]
theorem SQ{op:BinOp}{t:TypeId}{ox oy:Operand}{x y x' y' v:Value}(h:bq P op t ox oy x y=some v)(hx:VR m x x')(hy:VR m y y')
 (hox:∀c,ox=.const c→x=c)(hoy:∀c,oy=.const c→y=c):
 VR m v v∧∀w,(do eqGuard op t ox oy x' y';binOp op t x' y':Sem Value).run P w=.ok v w:=by
 unfold bq at h
 cases hi:gW x with
 |some a=>
  rw[hi]at h
  have hxe:=eT hi
  rw[hxe]at hx
  have hx:=hx.of_int
  have g:∀w,(eqGuard op t ox oy x' y').run P w=.ok () w:=fun w=>dA w (.inr (.inr (.inl (by rw[hx];simp)))) (.inl (by rw[hx];simp))
  cases hsh:wX op with
  |true=>
   rw[hsh]at h
   have h:KN op t x y=some v:=h
   (replace h:=ae h;obtain⟨p,hp,h⟩:=h)
   (replace h:=ae h;obtain⟨q,hq,h⟩:=h)
   have hye:=eT hq
   rw[hye]at hy
   have hy:=hy.of_int
   obtain⟨hs,hr⟩:=lC (P:=P) h
   refine⟨.sc _ hs,fun w=>iE (g w) ?_⟩
   rw[hx,hy,←hxe,←hye]
   exact hr w
  |false=>
   rw[hsh]at h
   have h:(ah (gW y) fun b=>gd (Nat.beq (fT a.1) (fT b.1)) (IX op a.1 a.2 b.2))=some v:=h
   (replace h:=ae h;obtain⟨q,hq,h⟩:=h)
   (replace h:=aB h;obtain⟨hk,h⟩:=h)
   have hye:=eT hq
   rw[hye]at hy
   have hy:=hy.of_int
   have hk:=ng hk
   obtain⟨hs,hr⟩:=O_ (P:=P) (t:=t) h
   refine⟨.sc _ hs,fun w=>iE (g w) ?_⟩
   rw[hx,hy,←hk]
   exact hr w
 |none=>
  rw[hi]at h
  cases hst:gX x with
  |some a=>
   rw[hst]at h
   have h:(ah (gX y) fun b=>O5 op a b)=some v:=h
   (replace h:=ae h;obtain⟨b,hb,h⟩:=h)
   have hxe:=dU hst
   have hye:=dU hb
   rw[hxe]at hx;rw[hye]at hy
   have hx:=hx.iT
   have hy:=hy.iT
   obtain⟨hs,hr⟩:=Pb (P:=P) (t:=t) h
   refine⟨.sc _ hs,fun w=>iE (dA w (.inr (.inr (.inl (by rw[hx];simp)))) (.inl (by rw[hx];simp))) ?_⟩
   rw[hx,hy]
   exact hr w
  |none=>
   rw[hst]at h
   cases sM:Nat.ble 1 (jA x)with
   |true=>
    rw[sM]at h
    have h:EM op t x y=some v:=h
    have h0:=h
    obtain⟨hv,hr⟩:=I8 (P:=P) h hx hy
    have hsx:dD x=true:=by
     have:=Nat.le_of_ble_eq_true sM
     cases x<;>simp[jA]at this<;>rfl
    have hx:=hx.gU hsx
    have hne:(x'≠.nilIface)∧∀c,x'≠.agg c:=by
     rw[hx]
     have:=Nat.le_of_ble_eq_true sM
     constructor
     ·intro e;rw[e]at this;simp[jA]at this
     ·intro c e;rw[e]at this;simp[jA]at this
    exact⟨hv,fun w=>iE (dA w (.inr (.inr (.inl hne.1))) (.inl hne.2)) (hr w)⟩
   |false=>
    rw[sM]at h
    have h:sF op (Q4 P t ox oy x y)=some v:=h
    have hz:jA x=0:=by
     rcases Nat.eq_zero_or_pos (jA x)with h0|h0
     ·exact h0
     ·rw[Nat.ble_eq_true_of_le h0]at sM;cases sM
    have key:∀b,Q4 P t ox oy x y=some b→∀w,(eqGuard op t ox oy x' y').run P w=.ok () w∧(binOp .eql t x' y').run P w=.ok (.bool b) w∧(binOp .neq t x' y').run P w=.ok (.bool (!b)) w:=by
     intro b hb w
     obtain⟨h1,h2,h3,h4,h5,h6⟩:=SN (op:=op) hb hx hy hox hoy ⟨hi,hst,hz⟩ w
     exact⟨h2,binOp_eql h1 h3 h4 h5 h6⟩
    cases op<;>simp only[sF,kZ]at h
    case eql=>
     have h:(ah (Q4 P t ox oy x y) fun b=>some (Value.bool b))=some v:=h
     (replace h:=ae h;obtain⟨b,hb,h⟩:=h)
     cases h
     exact⟨.sc _ rfl,fun w=>iE (key b hb w).1 (key b hb w).2.1⟩
    case neq=>
     have h:(ah (Q4 P t ox oy x y) fun b=>some (Value.bool (!b)))=some v:=h
     (replace h:=ae h;obtain⟨b,hb,h⟩:=h)
     cases h
     exact⟨.sc _ rfl,fun w=>iE (key b hb w).1 (key b hb w).2.2⟩
    all_goals cases h
end ops
section ops
variable{P:Program}{m:Mp}
theorem Pf{c a b v c' a' b':Value}(h:xC c a b=some v)(hc:VR m c c')(ha:VR m a a')(hb:VR m b b'):
 ∃v',VR m v v'∧∀w,(do pure (if←asBool c' then a' else b'):Sem Value).run P w=.ok v' w:=by
 (replace h:=ae h;obtain⟨t,ht,h⟩:=h)
 cases h
 rw[eF ht]at hc
 have:=hc.of_bool;subst this
 cases t
 ·exact⟨b',hb,fun w=>by simp[asBool]⟩
 ·exact⟨a',ha,fun w=>by simp[asBool]⟩
theorem Ph{op:UnOp}{x v x':Value}(h:bD (Op.unary op x)=some v)(hx:VR m x x'):VR m v v∧∀w,(Op.unary op x').run P w=.ok v w:=by
 obtain⟨hs,hr⟩:=lC (P:=P) h
 have:x'=x:=by
  apply hx.gU
  cases x<;>first|rfl|(exfalso;cases op<;>simp[Op.unary,bD,stuck]at h;done)|skip
  case pointer a=>cases a<;>first|rfl|(exfalso;cases op<;>simp[Op.unary,bD,stuck,unsupported]at h)
 subst this
 exact⟨.sc _ hs,hr⟩
theorem Pj{s d:TypeId}{x v x':Value}(h:oC P s d x=some v)(hx:VR m x x'):VR m v v∧∀w,(convert s d x').run P w=.ok v w:=by
 (replace h:=ae h;obtain⟨ds,hds,h⟩:=h)
 (replace h:=ae h;obtain⟨dd,hdd,h⟩:=h)
 cases hi:gW x with
 |some a=>
  rw[hi]at h
  have hxe:=eT hi
  rw[hxe]at hx
  have hx:=hx.of_int;subst hx
  cases hk:zD dd with
  |some k=>
   replace h:(@Option.rec IntKind (fun _=>Option Value) (au (oG dd) (some (.string (Utf8.encode a.2))) (ah (uB dd) fun k=>bD (Conv.intToFloat k a.2))) (fun k=>some (.int k (aT k a.2))) (zD dd))=some v:=h
   rw[hk]at h
   cases h
   have:=GA hk;subst this
   exact⟨.sc _ rfl,fun w=>by simp[convert,aA hds,aA hdd,Conv.intToInt,sK]⟩
  |none=>
   replace h:(@Option.rec IntKind (fun _=>Option Value) (au (oG dd) (some (.string (Utf8.encode a.2))) (ah (uB dd) fun k=>bD (Conv.intToFloat k a.2))) (fun k=>some (.int k (aT k a.2))) (zD dd))=some v:=h
   rw[hk]at h
   cases hs:oG dd with
   |true=>
    rw[hs]at h
    cases h
    have:=sJ hs;subst this
    exact⟨.sc _ rfl,fun w=>by simp[convert,aA hds,aA hdd,Conv.intToString]⟩
   |false=>
    rw[hs]at h
    replace h:(ah (uB dd) fun k=>bD (Conv.intToFloat k a.2))=some v:=h
    (replace h:=ae h;obtain⟨k,hf,h⟩:=h)
    have:=I4 hf;subst this
    obtain⟨hs,hr⟩:=lC (P:=P) h
    exact⟨.sc _ hs,fun w=>by simp[convert,aA hds,aA hdd,hr]⟩
 |none=>
  rw[hi]at h
  replace h:(ah (gX x) fun b=>gd (oG dd) (some (.string b)))=some v:=h
  (replace h:=ae h;obtain⟨b,hb,h⟩:=h)
  (replace h:=aB h;obtain⟨hg,h⟩:=h)
  cases h
  rw[dU hb]at hx
  have hx:=hx.iT;subst hx
  have:=sJ hg;subst this
  refine⟨.sc _ rfl,fun w=>?_⟩
  cases ds<;>simp[convert,aA hds,aA hdd]
theorem SS{t:TypeId}{x v x':Value}(h:zG P t x=some v)(hx:VR m x x'):∃v',VR m v v'∧∀w,(Instr.makeInterface t x').run P w=.ok v' w:=by
 (replace h:=ae h;obtain⟨d,hd,h⟩:=h)
 (replace h:=aB h;obtain⟨hg,h⟩:=h)
 cases h
 refine⟨.iface t x',.iface t _ _ hx,fun w=>?_⟩
 cases d<;>simp[Instr.makeInterface,aA hd]<;>simp[EJ]at hg
theorem EW{i:Nat}{x v x':Value}(h:jV x i=some v)(hx:VR m x x'):∃v',VR m v v'∧∀w,(Instr.extract x' i).run P w=.ok v' w:=by
 (replace h:=ae h;obtain⟨l,hl,h⟩:=h)
 rw[O7 hl]at hx
 obtain⟨l',rfl,hr⟩:=hx.Bq
 rw[cB]at h
 obtain⟨v',hv',X8⟩:=hr.get i h
 exact⟨v',X8,fun w=>by simp[Instr.extract,hv']⟩
theorem C6{x v x':Value}(h:Bh x=some v)(hx:VR m x x')(ρ:Operand→Value)(o:Oper)(xo:Operand)(ho:o.op=.nilCheck xo)(hρ:ρ xo=x'):
 VR m v x'∧∀w,(execOp ρ o).run P w=.ok (.value x') w:=by
 unfold Bh at h
 cases hp:fH x with
 |some a=>
  rw[hp]at h
  cases h
  refine⟨hx,fun w=>?_⟩
  rw[dS hp]at hx
  obtain⟨l,hm,hlo,hsp,rfl⟩:=hx.gL
  simp[execOp,ho,hρ]
 |none=>
  rw[hp]at h
  replace h:(ah (Ku x) fun f=>ah (Gr f.1) fun _=>some x)=some v:=h
  (replace h:=ae h;obtain⟨f,hf,h⟩:=h)
  (replace h:=ae h;obtain⟨g,hg,h⟩:=h)
  cases h
  refine⟨hx,fun w=>?_⟩
  rw[xK hf,xL hg]at hx
  obtain⟨x1,y1,rfl,_,_⟩:=hx.Gz
  simp[execOp,ho,hρ]
theorem SV{b:Bool}{x y v x' y':Value}(h:X6 b x y=some v)(hx:VR m x x')(hy:VR m y y'):
 VR m v v∧∀w,((if b then Builtin.max2 x' y' else Builtin.min2 x' y').run P w=.ok v w):=by
 (replace h:=ae h;obtain⟨p,hp,h⟩:=h)
 (replace h:=ae h;obtain⟨q,hq,h⟩:=h)
 (replace h:=aB h;obtain⟨hg,h⟩:=h)
 cases h
 have e1:=eT hp
 have e2:=eT hq
 rw[e1]at hx;rw[e2]at hy
 have hx:=hx.of_int
 have hy:=hy.of_int
 have hk:=ng hg
 subst hx;subst hy
 cases b
 ·have e:au (au false (zF p.2 q.2) (zF q.2 p.2)) y x=if q.2<p.2 then y else x:=by
   show au (zF q.2 p.2) y x=_;rw[mG,ER];simp
  rw[e]
  split
  ·next hlt=>rw[e2];exact⟨.sc _ rfl,fun w=>by simp[Builtin.min2,hlt,hk]⟩
  ·next hlt=>rw[e1];exact⟨.sc _ rfl,fun w=>by simp[Builtin.min2,hlt]⟩
 ·have e:au (au true (zF p.2 q.2) (zF q.2 p.2)) y x=if p.2<q.2 then y else x:=by
   show au (zF p.2 q.2) y x=_;rw[mG,ER];simp
  rw[e]
  split
  ·next hlt=>rw[e2];exact⟨.sc _ rfl,fun w=>by simp[Builtin.max2,hlt,hk]⟩
  ·next hlt=>rw[e1];exact⟨.sc _ rfl,fun w=>by simp[Builtin.max2,hlt]⟩
theorem SX{b:Bool}:∀{l l':List Value}{x v x':Value},XO b l x=some v→VR m x x'→bP m l l'→
 ∃v',VR m v v'∧∀w,((l'.foldlM (if b then Builtin.max2 else Builtin.min2) x':Sem Value).run P w=.ok v' w):=by
 intro l
 induction l with
 |nil=>
  intro l' x v x' h hx hl
  cases hl
  cases h
  exact⟨x',hx,fun w=>by simp⟩
 |cons y l ih=>
  intro l' x v x' h hx hl
  cases hl with
  |cons _ y' _ r' hy hr=>
   replace h:ah (X6 b x y) (XO b l)=some v:=h
   (replace h:=ae h;obtain⟨z,hz,h⟩:=h)
   obtain⟨hzz,hrun⟩:=SV (P:=P) hz hx hy
   obtain⟨v',hv,hrest⟩:=ih h hzz hr
   refine⟨v',hv,fun w=>?_⟩
   have h1:=hrun w
   cases b<;>simp at h1 hrest⊢<;>simp[h1,hrest]
theorem K9{b:Bool}{args args':List Value}{v:Value}{ats:Array TypeId}{t:TypeId}(h:KP b args=some v)(ha:bP m args args'):
 ∃v',VR m v v'∧∀w,((if b then Builtin.max_ ats t ⟨args'⟩else Builtin.min_ ats t ⟨args'⟩).run P w=.ok v' w):=by
 cases ha with
 |nil=>cases h
 |cons x x' l l' hx hl=>
  replace h:XO b l x=some v:=h
  obtain⟨v',hv,hr⟩:=SX (P:=P) h hx hl
  refine⟨v',hv,fun w=>?_⟩
  have:=hr w
  cases b<;>simpa [Builtin.max_,Builtin.min_]using this
theorem K_{f:TypeId→Value→Option Value}{ats:List TypeId}{args:List Value}{v:Value}(h:one f ats args=some v):∃t x,ats[0]?=some t∧args[0]?=some x∧f t x=some v:=by
 (replace h:=ae h;obtain⟨t,ht,h⟩:=h)
 (replace h:=ae h;obtain⟨x,hx,h⟩:=h)
 exact⟨t,x,by rw[←cB];exact ht,by rw[←cB];exact hx,h⟩
theorem Pk{ats:List TypeId}{args args':List Value}{v:Value}{t:TypeId}(h:one (xD P) ats args=some v)(ha:bP m args args'):
 VR m v v∧∀w,(Builtin.len_ ⟨ats⟩ t ⟨args'⟩).run P w=.ok v w:=by
 obtain⟨t,x,ht,hx,h⟩:=K_ h
 obtain⟨x',hx',oI⟩:=ha.get 0 hx
 (replace h:=ae h;obtain⟨d,hd,h⟩:=h)
 cases h1:oG d with
 |true=>
  rw[h1]at h
  have:=sJ h1;subst this
  replace h:(ah (gX x) fun s=>some (Value.int .i64 (.ofNat (len s.data.toList))))=some v:=h
  (replace h:=ae h;obtain⟨s,hs,h⟩:=h)
  cases h
  rw[dU hs]at oI
  have:=oI.iT;subst this
  refine⟨.sc _ rfl,fun w=>?_⟩
  simp[Builtin.len_,ht,hx',aA hd,goInt,aJ]
 |false=>
  rw[h1]at h
  have h:(au (Nat.beq (jU d) 2) (ah (wH x) fun p=>some (.int .i64 (.ofNat p.2.1)))
   (au (Nat.beq (jU d) 3) (ah (uA x) fun r=>gd (aD r) (some (.int .i64 0)))
    (ah (CP d) fun a=>some (.int .i64 (.ofNat a.1)))))=some v:=h
  cases h2:Nat.beq (jU d) 2 with
  |true=>
   rw[h2]at h
   replace h:(ah (wH x) fun p=>some (Value.int .i64 (.ofNat p.2.1)))=some v:=h
   (replace h:=ae h;obtain⟨p,hp,h⟩:=h)
   cases h
   have e2:=Nat.eq_of_beq_eq_true h2
   have hdd:∃e,d=.slice e:=by cases d<;>simp[jU]at e2;exact⟨_,rfl⟩
   obtain⟨e,rfl⟩:=hdd
   rw[ji hp]at oI
   refine⟨.sc _ rfl,fun w=>?_⟩
   cases U_:p.1 with
   |none=>
    rw[U_]at oI
    obtain⟨e1,e2,rfl⟩:=oI.ik
    simp[Builtin.len_,ht,hx',aA hd,goInt,e1]
   |some a=>
    rw[U_]at oI
    rcases oI.of_slice with⟨l,cc,_,_,_,rfl,_⟩|⟨a',e1,_,rfl⟩
    ·simp[Builtin.len_,ht,hx',aA hd,goInt]
    ·simp[Builtin.len_,ht,hx',aA hd,goInt,e1]
  |false=>
   rw[h2]at h
   have h:(au (Nat.beq (jU d) 3) (ah (uA x) fun r=>gd (aD r) (some (.int .i64 0)))
    (ah (CP d) fun a=>some (.int .i64 (.ofNat a.1))))=some v:=h
   cases h3:Nat.beq (jU d) 3 with
   |true=>
    rw[h3]at h
    replace h:(ah (uA x) fun r=>gd (aD r) (some (Value.int .i64 0)))=some v:=h
    (replace h:=ae h;obtain⟨r,hr,h⟩:=h)
    (replace h:=aB h;obtain⟨hg,h⟩:=h)
    cases h
    have e3:=Nat.eq_of_beq_eq_true h3
    have hdd:∃k e,d=.map k e:=by cases d<;>simp[jU]at e3;exact⟨_,_,rfl⟩
    obtain⟨k,e,rfl⟩:=hdd
    cases r with
    |some _=>cases hg
    |none=>
     rw[lY hr]at oI
     have:=oI.gU rfl;subst this
     exact⟨.sc _ rfl,fun w=>by simp[Builtin.len_,ht,hx',aA hd,goInt]⟩
   |false=>
    rw[h3]at h
    replace h:(ah (CP d) fun a=>some (Value.int .i64 (.ofNat a.1)))=some v:=h
    (replace h:=ae h;obtain⟨a,ha',h⟩:=h)
    cases h
    have:=Br ha';subst this
    exact⟨.sc _ rfl,fun w=>by simp[Builtin.len_,ht,hx',aA hd,goInt]⟩
theorem Pm{ats:List TypeId}{args args':List Value}{v:Value}{t:TypeId}(h:one (xE P) ats args=some v)(ha:bP m args args'):
 VR m v v∧∀w,(Builtin.cap_ ⟨ats⟩ t ⟨args'⟩).run P w=.ok v w:=by
 obtain⟨t,x,ht,hx,h⟩:=K_ h
 obtain⟨x',hx',oI⟩:=ha.get 0 hx
 (replace h:=ae h;obtain⟨q,hq,h⟩:=h)
 (replace h:=ae h;obtain⟨p,hp,h⟩:=h)
 (replace h:=aB h;obtain⟨hg,h⟩:=h)
 cases h
 obtain⟨hu,_,_⟩:=lu hq
 rw[ji hp]at oI
 refine⟨.sc _ rfl,fun w=>?_⟩
 cases U_:p.1 with
 |none=>
  rw[U_]at oI
  obtain⟨e1,e2,rfl⟩:=oI.ik
  simp[Builtin.cap_,ht,hx',aA hu,goInt,e2]
 |some a=>
  rw[U_]at oI
  rcases oI.of_slice with⟨l,cc,_,_,_,rfl,⟨_,rfl,_⟩|⟨es,e1,_⟩⟩|⟨a',e1,e2|⟨es,_,e2,_⟩,rfl⟩
  ·simp[Builtin.cap_,ht,hx',aA hu,goInt]
  ·exact absurd e1 (lZ hg)
  ·simp[Builtin.cap_,ht,hx',aA hu,goInt,e2]
  ·exact absurd e2 (lZ hg)
end ops
end Go.Ae
