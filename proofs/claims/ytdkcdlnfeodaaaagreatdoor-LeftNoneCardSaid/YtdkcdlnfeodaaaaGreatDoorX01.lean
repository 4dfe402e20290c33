/-
  Part 1 of the proof. No condition.
-/
import Derived.Test.YtdkcdlnfeodaaaaGreatDoorRows
import Derived.Test.YtdkcdlnfeodaaaaGreatDoorProg
import Derived.Below
import Derived.RowKit3
import Derived.Lib.Bytealg
import Derived.Calls
import Derived.Control
import Derived.Orders
import Derived.Scope
import Derived.Laws.Externs
import Derived.Laws.Tables
import Derived.Lib.UnsafeStr
import Derived.Lib.ConvBytes
import Derived.Laws.BytesString
import Derived.Laws.IdiomStrings
import Derived.Laws.Sem
import Derived.Laws.Cells
import Derived.Laws.World
import Derived.Laws.StructEq
import Derived.IntWalk
import Derived.Laws.Strings
import Derived.ChangeKeysEq
import Derived.ProofKit
import Derived.OpenShut
import Derived.Carry
import Derived.Deep.Slices
import Derived.Deep.Fields
import Derived.ChangeSame
import Derived.LaidMore
import Derived.Lay
import Derived.JoinedOf
import Derived.Test.YtdkcdlnfeodaaaaGreatDoorCards
import Derived.Test.YtdkcdlnfeodaaaaGreatDoorTie
import Derived.SevenTiedAt
import Derived.Stop.Joined
set_option linter.unusedVariables false
set_option linter.unusedSimpArgs false
set_option maxRecDepth 100000
set_option maxHeartbeats 4000000
noncomputable section
namespace Go.Ae
theorem aa{p:Prop}(h:p:=by omega):p:=h
theorem f_{a b:Bool}(x:a=true)(y:b=true):(a&&b)=true:=by rw[x,y];rfl
inductive Tr(α:Type)where
 |nil
 |node(l:Tr α)(v:α)(r:Tr α)
namespace Tr
variable{α:Type}
def get(d:α)(t:Tr α):Nat→α:=
 @Tr.rec α (fun _=>Nat→α) (fun _=>d)
  (fun _ v _ gl gr k=>@Nat.rec (fun _=>α) v (fun k _=>@Bool.rec (fun _=>α) (gr (Nat.div k 2)) (gl (Nat.div k 2)) (Nat.beq (Nat.mod k 2) 0)) k) t
def HV(d:α)(x:α):Nat→Tr α→Nat→Tr α:=
 @Nat.rec (fun _=>Tr α→Nat→Tr α) (fun t _=>t) (fun _ ih t k=>
  @Nat.rec (fun _=>Tr α) (@Tr.rec α (fun _=>Tr α) (.node .nil x .nil) (fun l _ r _ _=>.node l x r) t)
   (fun k _=>@Tr.rec α (fun _=>Tr α)
    (@Bool.rec (fun _=>Tr α) (.node .nil d (ih .nil (Nat.div k 2))) (.node (ih .nil (Nat.div k 2)) d .nil) (Nat.beq (Nat.mod k 2) 0))
    (fun l v r _ _=>@Bool.rec (fun _=>Tr α) (.node l v (ih r (Nat.div k 2))) (.node (ih l (Nat.div k 2)) v r) (Nat.beq (Nat.mod k 2) 0)) t) k)
def set(d:α)(t:Tr α)(k:Nat)(x:α):Tr α:=HV d x (Nat.succ k) t k
theorem get_nil(d:α)(k:Nat):(Tr.nil:Tr α).get d k=d:=by cases k<;>rfl
theorem xg(d:α)(l:Tr α)(v:α)(r:Tr α):(Tr.node l v r).get d 0=v:=rfl
theorem nU(d:α)(l:Tr α)(v:α)(r:Tr α)(k:Nat):(Tr.node l v r).get d (k +1)=bif Nat.beq (k %2) 0 then l.get d (k/2)else r.get d (k/2):=by
 show @Bool.rec (fun _=>α) (r.get d (k/2)) (l.get d (k/2)) (Nat.beq (k %2) 0)=_
 cases Nat.beq (k %2) 0<;>rfl
theorem VZ(k:Nat):Nat.beq (k %2) 0=decide (k %2=0):=by
 rw[Bool.eq_iff_iff];simp[Nat.beq_eq]
theorem QZ(d:α)(f k:Nat)(x:α):HV d x (f +1) .nil (k +1)=bif Nat.beq (k %2) 0 then .node (HV d x f .nil (k/2)) d .nil else .node .nil d (HV d x f .nil (k/2)):=by
 show @Bool.rec (fun _=>Tr α) _ _ (Nat.beq (k %2) 0)=_
 cases Nat.beq (k %2) 0<;>rfl
theorem OC(d:α)(f k:Nat)(x:α)(l:Tr α)(v:α)(r:Tr α):HV d x (f +1) (.node l v r) (k +1)=bif Nat.beq (k %2) 0 then .node (HV d x f l (k/2)) v r else .node l v (HV d x f r (k/2)):=by
 show @Bool.rec (fun _=>Tr α) _ _ (Nat.beq (k %2) 0)=_
 cases Nat.beq (k %2) 0<;>rfl
theorem Q3(d:α)(f:Nat):∀(t:Tr α)(k:Nat)(x:α)(j:Nat),k<f→
 (HV d x f t k).get d j=if j=k then x else t.get d j:=by
 induction f with
 |zero=>intro t k x j h;omega
 |succ f ih=>
  intro t k x j h
  cases k with
  |zero=>
   cases t with
   |nil=>
    show(Tr.node .nil x .nil).get d j=_
    cases j with
    |zero=>simp[xg]
    |succ j=>rw[nU,get_nil,if_neg aa,get_nil];cases Nat.beq (j %2) 0<;>rfl
   |node l v r=>
    show(Tr.node l x r).get d j=_
    cases j with
    |zero=>simp[xg]
    |succ j=>rw[nU,nU,if_neg aa]
  |succ k=>
   have hk:k/2<f:=by omega
   cases t with
   |nil=>
    rw[QZ]
    cases j with
    |zero=>cases hb:Nat.beq (k %2) 0<;>simp[xg,get_nil]
    |succ j=>
     by_cases hjk:j=k
     ·subst hjk
      cases hb:Nat.beq (j %2) 0<;>simp only[cond_true,cond_false,nU,hb,ih _ _ _ _ hk,if_true]
     ·rw[if_neg aa]
      cases hb:Nat.beq (k %2) 0<;>cases hc:Nat.beq (j %2) 0<;>simp only[cond_true,cond_false,nU,hc,get_nil]
      ·rw[ih _ _ _ _ hk,if_neg,get_nil]
       rw[VZ]at hb hc
       simp at hb hc;omega
      ·rw[ih _ _ _ _ hk,if_neg,get_nil]
       rw[VZ]at hb hc
       simp at hb hc;omega
   |node l v r=>
    rw[OC]
    cases j with
    |zero=>cases hb:Nat.beq (k %2) 0<;>simp[xg]
    |succ j=>
     by_cases hjk:j=k
     ·subst hjk
      cases hb:Nat.beq (j %2) 0<;>simp only[cond_true,cond_false,nU,hb,ih _ _ _ _ hk,if_true]
     ·rw[if_neg aa]
      cases hb:Nat.beq (k %2) 0<;>cases hc:Nat.beq (j %2) 0<;>simp only[cond_true,cond_false,nU,hc]
      ·rw[ih _ _ _ _ hk,if_neg]
       rw[VZ]at hb hc
       simp at hb hc;omega
      ·rw[ih _ _ _ _ hk,if_neg]
       rw[VZ]at hb hc
       simp at hb hc;omega
theorem jQ(d:α)(t:Tr α)(k:Nat)(x:α)(j:Nat):(t.set d k x).get d j=if j=k then x else t.get d j:=
 Q3 d (k +1) t k x j aa
def jG(d:α)(l:List α):Nat→Tr α→Tr α:=
 @List.rec α (fun _=>Nat→Tr α→Tr α) (fun _ t=>t) (fun x _ ih k t=>ih (Nat.succ k) (t.set d k x)) l
theorem V2(d:α)(k:Nat)(t:Tr α):jG d [] k t=t:=rfl
theorem Q4(d:α)(x:α)(l:List α)(k:Nat)(t:Tr α):jG d (x::l) k t=jG d l (k +1) (t.set d k x):=rfl
theorem dW(d:α):∀(l:List α)(k:Nat)(t:Tr α)(j:Nat),
 (jG d l k t).get d j=if k≤j∧j<k +l.length then l.getD (j -k) d else t.get d j:=by
 intro l
 induction l with
 |nil=>intro k t j;simp[V2];intro h1 h2;omega
 |cons x l ih=>
  intro k t j
  simp only[Q4,ih,jQ,List.length_cons]
  by_cases h:k +1≤j∧j<k +1 +l.length
  ·rw[if_pos h,if_pos aa,show j -k=(j -(k +1)) +1 from by omega];rfl
  ·rw[if_neg h]
   by_cases hj:j=k
   ·subst hj;simp
   ·rw[if_neg hj,if_neg aa]
def vK(d:α)(t:Tr α)(k n:Nat):List α:=
 @Nat.rec (fun _=>Nat→List α) (fun _=>[]) (fun _ ih k=>t.get d k::ih (Nat.succ k)) n k
theorem rZ(d:α)(t:Tr α)(k:Nat):vK d t k 0=[]:=rfl
theorem l7(d:α)(t:Tr α)(k n:Nat):vK d t k (n +1)=t.get d k::vK d t (k +1) n:=rfl
end Tr
def aj{α β:Type}(o:Option α)(k:α→Option β):Option β:=
 @Option.rec α (fun _=>(α→Option β)→Option β) (fun _=>none) (fun x k=>k x) o k
theorem Bv{α β:Type}(x:α)(k:α→Option β):aj (some x) k=k x:=rfl
theorem ai{α β:Type}{o:Option α}{k:α→Option β}{r:β}(h:aj o k=some r):∃x,o=some x∧k x=some r:=by
 cases o with
 |none=>cases h
 |some x=>exact⟨x,rfl,h⟩
def gd{β:Type}(b:Bool)(o:Option β):Option β:=
 @Bool.rec (fun _=>Option β→Option β) (fun _=>none) (fun o=>o) b o
theorem aG{β:Type}{b:Bool}{o:Option β}{r:β}(h:gd b o=some r):b=true∧o=some r:=by
 cases b with
 |false=>cases h
 |true=>exact⟨rfl,h⟩
theorem uz{β:Type}(o:Option β):gd true o=o:=rfl
def av{β:Type}(b:Bool)(x y:β):β:=@Bool.rec (fun _=>β→β→β) (fun _ y=>y) (fun x _=>x) b x y
theorem gm{β:Type}(x y:β):av true x y=x:=rfl
theorem bR{β:Type}(x y:β):av false x y=y:=rfl
def nth{α:Type}(l:List α):Nat→Option α:=
 @List.rec α (fun _=>Nat→Option α) (fun _=>none) (fun x _ ih k=>@Nat.rec (fun _=>Option α) (some x) (fun k _=>ih k) k) l
theorem fH{α:Type}(l:List α):∀k,nth l k=l[k]?:=by
 induction l with
 |nil=>intro k;cases k<;>rfl
 |cons x l ih=>intro k;cases k with
  |zero=>rfl
  |succ k=>exact(ih k).trans (by simp)
def len{α:Type}(l:List α):Nat:=@List.rec α (fun _=>Nat) 0 (fun _ _ n=>Nat.succ n) l
theorem aM{α:Type}(l:List α):len l=l.length:=by
 induction l with
 |nil=>rfl
 |cons x l ih=>exact congrArg Nat.succ ih
def mp{α β:Type}(f:α→β)(l:List α):List β:=@List.rec α (fun _=>List β) [] (fun x _ r=>f x::r) l
theorem xh{α β:Type}(f:α→β)(l:List α):mp f l=l.map f:=by
 induction l with
 |nil=>rfl
 |cons x l ih=>exact congrArg (f x::·) ih
def app{α:Type}(a b:List α):List α:=@List.rec α (fun _=>List α) b (fun x _ r=>x::r) a
theorem jd{α:Type}(a b:List α):app a b=a++b:=by
 induction a with
 |nil=>rfl
 |cons x l ih=>exact congrArg (x::·) ih
def all'{α:Type}(f:α→Bool)(l:List α):Bool:=@List.rec α (fun _=>Bool) true (fun x _ r=>av (f x) r false) l
theorem all_eq{α:Type}(f:α→Bool)(l:List α):all' f l=l.all f:=by
 induction l with
 |nil=>rfl
 |cons x l ih=>
  show av (f x) (all' f l) false=_
  rw[ih,List.all_cons];cases f x<;>rfl
def tk{α:Type}(n:Nat):List α→List α:=@Nat.rec (fun _=>List α→List α) (fun _=>[]) (fun _ ih l=>@List.rec α (fun _=>List α) [] (fun x r _=>x::ih r) l) n
theorem zC{α:Type}(n:Nat):∀(l:List α),tk n l=l.take n:=by
 induction n with
 |zero=>intro l;show[]=l.take 0;simp
 |succ n ih=>intro l;cases l with
  |nil=>rfl
  |cons x l=>exact congrArg (x::·) (ih l)
def dp{α:Type}(n:Nat):List α→List α:=@Nat.rec (fun _=>List α→List α) (fun l=>l) (fun _ ih l=>@List.rec α (fun _=>List α) [] (fun _ r _=>ih r) l) n
theorem Em{α:Type}(n:Nat):∀(l:List α),dp n l=l.drop n:=by
 induction n with
 |zero=>intro l;rfl
 |succ n ih=>intro l;cases l with
  |nil=>rfl
  |cons x l=>exact ih l
structure Row where
 ty:TypeId
 cells:Tr Value
 n:Nat
 dA:Bool
 fz:Nat
inductive dh where
 |dead
 |row(r:Row)
 |map(es:List (Value×Value))
 |r_(s:ByteArray)(pos:Nat)
def kg(o:dh):Option Row:=@dh.rec (fun _=>Option Row) none (fun r=>some r) (fun _=>none) (fun _ _=>none) o
def HY(o:dh):Option (List (Value×Value)):=@dh.rec (fun _=>Option (List (Value×Value))) none (fun _=>none) (fun m=>some m) (fun _ _=>none) o
def aa2(o:dh):Option (ByteArray×Nat):=@dh.rec (fun _=>Option (ByteArray×Nat)) none (fun _=>none) (fun _=>none) (fun s p=>some (s,p)) o
theorem jR{o:dh}{r:Row}(h:kg o=some r):o=.row r:=by cases o<;>cases h;rfl
theorem AX{o:dh}{r:List (Value×Value)}(h:HY o=some r):o=.map r:=by cases o<;>cases h;rfl
theorem V3{o:dh}{r:ByteArray×Nat}(h:aa2 o=some r):o=.r_ r.1 r.2:=by cases o<;>cases h;rfl
def top:Value:=.chan (some 0)
structure ae where
 j6:Tr dh
 next:Nat
 low:Nat
def ae.obj(H:ae)(r:Nat):dh:=H.j6.get .dead r
def ae.put(H:ae)(r:Nat)(o:dh):ae:=⟨H.j6.set .dead r o,H.next,av (Nat.ble H.low r) H.low r⟩
def ae.new(H:ae)(o:dh):ae:=⟨H.j6.set .dead H.next o,Nat.succ H.next,H.low⟩
def rowOf(ty:TypeId)(vs:List Value):dh:=.row ⟨ty,Tr.jG top vs 0 .nil,len vs,false,0⟩
def aK(es:Nat):Nat:=Nat.add 18446744073709551616 es
def aX(c:Nat):Bool:=Nat.ble c 9223372036854775807
def aR(v:Value):Bool:=
 @Value.rec (fun _=>Bool) (fun _=>PUnit) (fun _=>PUnit)
  (fun _=>true)
  (fun _ _=>true)
  (fun _ _=>true)
  (fun _ _ _=>true)
  (fun _=>true)
  (fun _=>true)
  (fun _ _ _=>true)
  (fun _=>true)
  (fun r=>false)
  (fun _ _ _ _ _=>true)
  (true)
  (fun _ _ _=>true)
  (true)
  (fun cs _=>false)
  (fun vs _=>false)
  (fun _ _=>⟨⟩) ⟨⟩ (fun _ _ _ _=>⟨⟩) v
def ko(v:Value):Bool:=
 @Value.rec (fun _=>Bool) (fun _=>PUnit) (fun _=>PUnit)
  (fun _=>true)
  (fun _ _=>true)
  (fun _ _=>true)
  (fun _ _ _=>true)
  (fun _=>true)
  (fun _=>true)
  (fun _ _ _=>true)
  (fun _=>true)
  (fun r=>false)
  (fun _ _ _ _ _=>true)
  (true)
  (fun _ _ _=>true)
  (true)
  (fun _ _=>true)
  (fun _ _=>true)
  (fun _ _=>⟨⟩) ⟨⟩ (fun _ _ _ _=>⟨⟩) v
def gT(v:Value):Option Addr:=
 @Value.rec (fun _=>Option Addr) (fun _=>PUnit) (fun _=>PUnit)
  (fun _=>none)
  (fun _ _=>none)
  (fun _ _=>none)
  (fun _ _ _=>none)
  (fun _=>none)
  (fun a=>a)
  (fun _ _ _=>none)
  (fun _=>none)
  (fun _=>none)
  (fun _ _ _ _ _=>none)
  (none)
  (fun _ _ _=>none)
  (none)
  (fun _ _=>none)
  (fun _ _=>none)
  (fun _ _=>⟨⟩) ⟨⟩ (fun _ _ _ _=>⟨⟩) v
def bK(v:Value):Option Bool:=
 @Value.rec (fun _=>Option Bool) (fun _=>PUnit) (fun _=>PUnit)
  (fun b=>some b)
  (fun _ _=>none)
  (fun _ _=>none)
  (fun _ _ _=>none)
  (fun _=>none)
  (fun _=>none)
  (fun _ _ _=>none)
  (fun _=>none)
  (fun _=>none)
  (fun _ _ _ _ _=>none)
  (none)
  (fun _ _ _=>none)
  (none)
  (fun _ _=>none)
  (fun _ _=>none)
  (fun _ _=>⟨⟩) ⟨⟩ (fun _ _ _ _=>⟨⟩) v
def jk(v:Value):Option (IntKind×Int):=
 @Value.rec (fun _=>Option (IntKind×Int)) (fun _=>PUnit) (fun _=>PUnit)
  (fun _=>none)
  (fun k n=>some (k,n))
  (fun _ _=>none)
  (fun _ _ _=>none)
  (fun _=>none)
  (fun _=>none)
  (fun _ _ _=>none)
  (fun _=>none)
  (fun _=>none)
  (fun _ _ _ _ _=>none)
  (none)
  (fun _ _ _=>none)
  (none)
  (fun _ _=>none)
  (fun _ _=>none)
  (fun _ _=>⟨⟩) ⟨⟩ (fun _ _ _ _=>⟨⟩) v
def DJ(n:Int):Option Nat:=@Int.rec (fun _=>Option Nat) (fun m=>some m) (fun _=>none) n
def oV(v:Value):Option Nat:=
 @Value.rec (fun _=>Option Nat) (fun _=>PUnit) (fun _=>PUnit)
  (fun _=>none)
  (fun k n=>DJ n)
  (fun _ _=>none)
  (fun _ _ _=>none)
  (fun _=>none)
  (fun _=>none)
  (fun _ _ _=>none)
  (fun _=>none)
  (fun _=>none)
  (fun _ _ _ _ _=>none)
  (none)
  (fun _ _ _=>none)
  (none)
  (fun _ _=>none)
  (fun _ _=>none)
  (fun _ _=>⟨⟩) ⟨⟩ (fun _ _ _ _=>⟨⟩) v
def jl(v:Value):Option ByteArray:=
 @Value.rec (fun _=>Option ByteArray) (fun _=>PUnit) (fun _=>PUnit)
  (fun _=>none)
  (fun _ _=>none)
  (fun _ _=>none)
  (fun _ _ _=>none)
  (fun s=>some s)
  (fun _=>none)
  (fun _ _ _=>none)
  (fun _=>none)
  (fun _=>none)
  (fun _ _ _ _ _=>none)
  (none)
  (fun _ _ _=>none)
  (none)
  (fun _ _=>none)
  (fun _ _=>none)
  (fun _ _=>⟨⟩) ⟨⟩ (fun _ _ _ _=>⟨⟩) v
def Av(v:Value):Option (Option Addr×Nat×Nat):=
 @Value.rec (fun _=>Option (Option Addr×Nat×Nat)) (fun _=>PUnit) (fun _=>PUnit)
  (fun _=>none)
  (fun _ _=>none)
  (fun _ _=>none)
  (fun _ _ _=>none)
  (fun _=>none)
  (fun _=>none)
  (fun a l c=>some (a,l,c))
  (fun _=>none)
  (fun _=>none)
  (fun _ _ _ _ _=>none)
  (none)
  (fun _ _ _=>none)
  (none)
  (fun _ _=>none)
  (fun _ _=>none)
  (fun _ _=>⟨⟩) ⟨⟩ (fun _ _ _ _=>⟨⟩) v
def DK(v:Value):Option (Option Nat):=
 @Value.rec (fun _=>Option (Option Nat)) (fun _=>PUnit) (fun _=>PUnit)
  (fun _=>none)
  (fun _ _=>none)
  (fun _ _=>none)
  (fun _ _ _=>none)
  (fun _=>none)
  (fun _=>none)
  (fun _ _ _=>none)
  (fun r=>some r)
  (fun _=>none)
  (fun _ _ _ _ _=>none)
  (none)
  (fun _ _ _=>none)
  (none)
  (fun _ _=>none)
  (fun _ _=>none)
  (fun _ _=>⟨⟩) ⟨⟩ (fun _ _ _ _=>⟨⟩) v
def VL(f:Fn):Option FuncId:=@Fn.rec (fun _=>Option FuncId) (fun f=>some f) (fun _=>none) (fun _ _=>none) (fun _ _ _ _=>none) (fun _=>none) f
def Q5(v:Value):Option (Fn×List Value×List Value):=
 @Value.rec (fun _=>Option (Fn×List Value×List Value)) (fun _=>PUnit) (fun _=>PUnit)
  (fun _=>none)
  (fun _ _=>none)
  (fun _ _=>none)
  (fun _ _ _=>none)
  (fun _=>none)
  (fun _=>none)
  (fun _ _ _=>none)
  (fun _=>none)
  (fun _=>none)
  (fun f x y _ _=>some (f,x.toList,y.toList))
  (none)
  (fun _ _ _=>none)
  (none)
  (fun _ _=>none)
  (fun _ _=>none)
  (fun _ _=>⟨⟩) ⟨⟩ (fun _ _ _ _=>⟨⟩) v
def kR(v:Value):Option (List Value):=
 @Value.rec (fun _=>Option (List Value)) (fun _=>PUnit) (fun _=>PUnit)
  (fun _=>none)
  (fun _ _=>none)
  (fun _ _=>none)
  (fun _ _ _=>none)
  (fun _=>none)
  (fun _=>none)
  (fun _ _ _=>none)
  (fun _=>none)
  (fun _=>none)
  (fun _ _ _ _ _=>none)
  (none)
  (fun _ _ _=>none)
  (none)
  (fun cs _=>some cs.toList)
  (fun _ _=>none)
  (fun _ _=>⟨⟩) ⟨⟩ (fun _ _ _ _=>⟨⟩) v
def Q6(v:Value):Option (List Value):=
 @Value.rec (fun _=>Option (List Value)) (fun _=>PUnit) (fun _=>PUnit)
  (fun _=>none)
  (fun _ _=>none)
  (fun _ _=>none)
  (fun _ _ _=>none)
  (fun _=>none)
  (fun _=>none)
  (fun _ _ _=>none)
  (fun _=>none)
  (fun _=>none)
  (fun _ _ _ _ _=>none)
  (none)
  (fun _ _ _=>none)
  (none)
  (fun _ _=>none)
  (fun vs _=>some vs.toList)
  (fun _ _=>⟨⟩) ⟨⟩ (fun _ _ _ _=>⟨⟩) v
def vL(v:Value):Option (TypeId×Value):=
 @Value.rec (fun _=>Option (TypeId×Value)) (fun _=>PUnit) (fun _=>PUnit)
  (fun _=>none)
  (fun _ _=>none)
  (fun _ _=>none)
  (fun _ _ _=>none)
  (fun _=>none)
  (fun _=>none)
  (fun _ _ _=>none)
  (fun _=>none)
  (fun _=>none)
  (fun _ _ _ _ _=>none)
  (none)
  (fun t v _=>some (t,v))
  (none)
  (fun _ _=>none)
  (fun _ _=>none)
  (fun _ _=>⟨⟩) ⟨⟩ (fun _ _ _ _=>⟨⟩) v
def aD{α:Type}(o:Option α):Bool:=@Option.rec α (fun _=>Bool) true (fun _=>false) o
def iO(v:Value):Nat×Bool:=
 @Value.rec (fun _=>Nat×Bool) (fun _=>PUnit) (fun _=>PUnit)
  (fun _=>(0,false))
  (fun _ _=>(0,false))
  (fun _ _=>(0,false))
  (fun _ _ _=>(0,false))
  (fun _=>(0,false))
  (fun a=>(1,aD a))
  (fun a l c=>(2,aD a))
  (fun r=>(3,aD r))
  (fun _=>(0,false))
  (fun f x y _ _=>(4,false))
  ((4,true))
  (fun t v _=>(5,false))
  ((5,true))
  (fun _ _=>(0,false))
  (fun _ _=>(0,false))
  (fun _ _=>⟨⟩) ⟨⟩ (fun _ _ _ _=>⟨⟩) v
def Bw(v:Value):Bool:=
 @Value.rec (fun _=>Bool) (fun _=>PUnit) (fun _=>PUnit)
  (fun _=>false)
  (fun _ _=>false)
  (fun _ _=>false)
  (fun _ _ _=>false)
  (fun _=>false)
  (fun a=>aD a)
  (fun _ _ _=>false)
  (fun r=>aD r)
  (fun _=>false)
  (fun _ _ _ _ _=>false)
  (true)
  (fun _ _ _=>false)
  (true)
  (fun _ _=>false)
  (fun _ _=>false)
  (fun _ _=>⟨⟩) ⟨⟩ (fun _ _ _ _=>⟨⟩) v
def gU{α:Type}(o:Option α):Bool:=@Option.rec α (fun _=>Bool) false (fun _=>true) o
def ax(v:Value):List Value:=@Option.rec (List Value) (fun _=>List Value) [v] (fun l=>l) (kR v)
def eU(v:Value):Bool:=
 @Value.rec (fun _=>Bool) (fun _=>PUnit) (fun _=>PUnit)
  (fun b=>true)
  (fun k n=>true)
  (fun k b=>true)
  (fun k x y=>true)
  (fun s=>true)
  (fun a=>aD a)
  (fun a l c=>aD a&&Nat.beq l 0&&Nat.beq c 0)
  (fun r=>aD r)
  (fun _=>false)
  (fun _ _ _ _ _=>false)
  (true)
  (fun _ _ _=>false)
  (true)
  (fun _ _=>false)
  (fun _ _=>false)
  (fun _ _=>⟨⟩) ⟨⟩ (fun _ _ _ _=>⟨⟩) v
def l8(d:TypeDesc):Nat:=
 @TypeDesc.rec (fun _=>Nat)
  (0) (0) (fun _=>0) (fun _=>0) (fun _=>0) (0) (0) (fun e=>1) (fun e=>2) (fun _ _=>0) (fun k e=>3) (fun _ _=>0) (fun _=>0) (fun p r v=>4) (fun ms=>5) (fun _=>0) (fun _ _=>0) d
def dSl(d:TypeDesc):Option TypeId:=
 @TypeDesc.rec (fun _=>Option TypeId)
  (none) (none) (fun _=>none) (fun _=>none) (fun _=>none) (none) (none) (fun _=>none) (fun e=>some e) (fun _ _=>none) (fun _ _=>none) (fun _ _=>none) (fun _=>none) (fun _ _ _=>none) (fun _=>none) (fun _=>none) (fun _ _=>none) d
def xm(d:TypeDesc):Option TypeId:=
 @TypeDesc.rec (fun _=>Option TypeId)
  (none) (none) (fun _=>none) (fun _=>none) (fun _=>none) (none) (none) (fun e=>some e) (fun _=>none) (fun _ _=>none) (fun _ _=>none) (fun _ _=>none) (fun _=>none) (fun _ _ _=>none) (fun _=>none) (fun _=>none) (fun _ _=>none) d
def HZ(d:TypeDesc):Option (Nat×TypeId):=
 @TypeDesc.rec (fun _=>Option (Nat×TypeId))
  (none) (none) (fun _=>none) (fun _=>none) (fun _=>none) (none) (none) (fun _=>none) (fun _=>none) (fun n e=>some (n,e)) (fun _ _=>none) (fun _ _=>none) (fun _=>none) (fun _ _ _=>none) (fun _=>none) (fun _=>none) (fun _ _=>none) d
def Zz(d:TypeDesc):Option (TypeId×TypeId):=
 @TypeDesc.rec (fun _=>Option (TypeId×TypeId))
  (none) (none) (fun _=>none) (fun _=>none) (fun _=>none) (none) (none) (fun _=>none) (fun _=>none) (fun _ _=>none) (fun k e=>some (k,e)) (fun _ _=>none) (fun _=>none) (fun _ _ _=>none) (fun _=>none) (fun _=>none) (fun _ _=>none) d
def Fu(d:TypeDesc):Option (List Field):=
 @TypeDesc.rec (fun _=>Option (List Field))
  (none) (none) (fun _=>none) (fun _=>none) (fun _=>none) (none) (none) (fun _=>none) (fun _=>none) (fun _ _=>none) (fun _ _=>none) (fun _ _=>none) (fun fs=>some fs.toList) (fun _ _ _=>none) (fun _=>none) (fun _=>none) (fun _ _=>none) d
def rQ(d:TypeDesc):Bool:=
 @TypeDesc.rec (fun _=>Bool)
  (false) (false) (fun _=>false) (fun _=>false) (fun _=>false) (true) (false) (fun _=>false) (fun _=>false) (fun _ _=>false) (fun _ _=>false) (fun _ _=>false) (fun _=>false) (fun _ _ _=>false) (fun _=>false) (fun _=>false) (fun _ _=>false) d
def Q7(d:TypeDesc):Bool:=
 @TypeDesc.rec (fun _=>Bool)
  (false) (false) (fun _=>false) (fun _=>false) (fun _=>false) (false) (false) (fun _=>false) (fun _=>false) (fun _ _=>false) (fun _ _=>false) (fun _ _=>false) (fun _=>false) (fun _ _ _=>false) (fun ms=>true) (fun _=>false) (fun _ _=>false) d
def xq(d:TypeDesc):Bool:=
 @TypeDesc.rec (fun _=>Bool)
  (false) (false) (fun _=>false) (fun _=>false) (fun _=>false) (false) (true) (fun _=>false) (fun _=>false) (fun _ _=>false) (fun _ _=>false) (fun _ _=>false) (fun _=>false) (fun _ _ _=>false) (fun _=>false) (fun _=>false) (fun _ _=>false) d
def DL(d:TypeDesc):Option IntKind:=
 @TypeDesc.rec (fun _=>Option IntKind)
  (none) (none) (fun k=>some k) (fun _=>none) (fun _=>none) (none) (none) (fun _=>none) (fun _=>none) (fun _ _=>none) (fun _ _=>none) (fun _ _=>none) (fun _=>none) (fun _ _ _=>none) (fun _=>none) (fun _=>none) (fun _ _=>none) d
def yF(d:TypeDesc):Option FloatKind:=
 @TypeDesc.rec (fun _=>Option FloatKind)
  (none) (none) (fun _=>none) (fun k=>some k) (fun _=>none) (none) (none) (fun _=>none) (fun _=>none) (fun _ _=>none) (fun _ _=>none) (fun _ _=>none) (fun _=>none) (fun _ _ _=>none) (fun _=>none) (fun _=>none) (fun _ _=>none) d
def Ki(d:TypeDesc):Bool:=
 @TypeDesc.rec (fun _=>Bool)
  (false) (false) (fun _=>false) (fun _=>false) (fun _=>false) (false) (false) (fun _=>false) (fun _=>false) (fun n e=>true) (fun _ _=>false) (fun _ _=>false) (fun fs=>true) (fun _ _ _=>false) (fun _=>false) (fun _=>false) (fun _ _=>false) d
def jB(d:TypeDesc):Nat:=
 @TypeDesc.rec (fun _=>Nat)
  (0) (2) (fun k=>1) (fun _=>0) (fun _=>0) (3) (0) (fun _=>0) (fun _=>0) (fun _ _=>0) (fun _ _=>0) (fun _ _=>0) (fun _=>0) (fun _ _ _=>0) (fun _=>0) (fun _=>0) (fun _ _=>0) d
def Bz(k:IntKind):Bool:=@IntKind.rec (fun _=>Bool) false false false false true false false false k
def ve(k:IntKind):Bool:=@IntKind.rec (fun _=>Bool) false false false true false false false false k
def ik(k:IntKind):Nat:=@IntKind.rec (fun _=>Nat) 0 1 2 3 4 5 6 7 k
def tI(P:Program)(t:TypeId):Option TypeInfo:=P.info? t
def kr(P:Program)(t:TypeId):Option Nat:=aj (P.info? t) fun i=>some i.size
def H_(P:Program)(t:TypeId):Option (TypeId×Nat):=aj (P.underlying t) fun d=>aj (dSl d) fun e=>aj (kr P e) fun s=>gd (Nat.ble 1 s) (some (e,s))
def Ia(P:Program)(t:TypeId):Option (Nat×TypeId×Nat):=aj (P.underlying t) fun d=>aj (HZ d) fun e=>aj (kr P e.2) fun s=>gd (Nat.ble 1 s) (some (e.1,e.2,s))
def QL(P:Program)(t:TypeId):Option (Option Nat):=aj (P.underlying t) fun d=>aj (kr P t) fun s=>some (av (Ki d) (some s) none)
def vM(P:Program)(t:TypeId):Bool:=@Option.rec TypeDesc (fun _=>Bool) false rQ (P.underlying t)
def zD(P:Program)(t:TypeId):Bool:=@Option.rec TypeDesc (fun _=>Bool) false (fun d=>@Option.rec IntKind (fun _=>Bool) false Bz (DL d)) (P.underlying t)
def rR(P:Program)(t:TypeId):Option (TypeId×TypeId):=aj (P.underlying t) Zz
def yG(v:Value):Bool:=@Option.rec (List Value) (fun _=>Bool) (eU v) (fun l=>all' eU l) (kR v)
def vg(P:Program)(t:TypeId):Option Value:=aj (P.info? t) fun i=>aj i.zero fun z=>gd (yG z) (some z)
def pE(P:Program)(t:TypeId):Option (List Value):=aj (vg P t) fun z=>aj (kr P t) fun s=>gd (Nat.beq (len (ax z)) s) (some (ax z))
def AY(P:Program)(t:TypeId):Option (List Field):=aj (P.underlying t) Fu
def Kj(P:Program)(t:TypeId)(f:Nat):Option (Nat×Option Nat):=aj (AY P t) fun fs=>aj (nth fs f) fun fd=>aj (QL P fd.type) fun l=>aj (kr P fd.type) fun s=>gd (Nat.ble 1 s) (some (fd.offset,l))
def places(P:Program)(fs:List Field):Option (List (Nat×Nat)):=
 @List.rec Field (fun _=>Option (List (Nat×Nat))) (some []) (fun f _ r=>aj (kr P f.type) fun s=>aj r fun l=>some ((f.offset,s)::l)) fs
def MP(P:Program)(t:TypeId):Option (List (Nat×Nat)):=aj (AY P t) (places P)
def ae.cell(H:ae)(r off:Nat):Option Value:=aj (kg (H.obj r)) fun w=>gd (Nat.ble (Nat.succ off) w.n) (some (w.cells.get top off))
def ae.read(H:ae)(r off k:Nat):Option (List Value):=
 @Nat.rec (fun _=>Option (List Value)) (some []) (fun _ _=>aj (kg (H.obj r)) fun w=>gd (Nat.ble (Nat.add off k) w.n) (some (Tr.vK top w.cells off k))) k
def ae.write(H:ae)(r off:Nat)(vs:List Value):Option ae:=
 @List.rec Value (fun _=>Option ae) (some H) (fun _ _ _=>aj (kg (H.obj r)) fun w=>
  gd (!w.dA&&Nat.ble (Nat.add off (len vs)) w.n&&Nat.ble w.fz off&&all' aR vs)
   (some (H.put r (.row ⟨w.ty,Tr.jG top vs off w.cells,w.n,false,w.fz⟩)))) vs
def bV(s:Sem Value):Option Value:=match s with
 |.pure v=>gd (eU v) (some v)
 |_=>none
def DN(a b:Int):Bool:=
 @Int.rec (fun _=>Bool) (fun m=>@Int.rec (fun _=>Bool) (fun n=>Nat.ble (Nat.succ m) n) (fun _=>false) b)
  (fun m=>@Int.rec (fun _=>Bool) (fun _=>true) (fun n=>Nat.ble (Nat.succ n) m) b) a
def Ib(a b:Int):Bool:=
 @Int.rec (fun _=>Bool) (fun m=>@Int.rec (fun _=>Bool) (fun n=>Nat.beq m n) (fun _=>false) b)
  (fun m=>@Int.rec (fun _=>Bool) (fun _=>false) (fun n=>Nat.beq m n) b) a
def fO(k:IntKind)(n:Int):Int:=
 @Int.rec (fun _=>Int) (fun m=>av (ve k&&Nat.ble m 9223372036854775807) (.ofNat m) (k.wrap n)) (fun m=>av (ve k&&Nat.ble m 9223372036854775807) (.negSucc m) (k.wrap n)) n
def OD(op:BinOp):IntKind→Int→Int→Option Value:=
 @BinOp.rec (fun _=>IntKind→Int→Int→Option Value) (fun k a b=>some (.int k (fO k (Int.add a b)))) (fun k a b=>some (.int k (fO k (Int.sub a b)))) (fun k a b=>some (.int k (fO k (Int.mul a b)))) (fun k a b=>bV (Op.intDiv .quo k a b)) (fun k a b=>bV (Op.intDiv .rem k a b)) (fun k a b=>bV (Op.intBits .and k a b)) (fun k a b=>bV (Op.intBits .or k a b)) (fun k a b=>bV (Op.intBits .xor k a b)) (fun _ _ _=>none) (fun _ _ _=>none) (fun k a b=>bV (Op.intBits .andNot k a b)) (fun _ a b=>some (.bool (Ib a b))) (fun _ a b=>some (.bool (!(Ib a b)))) (fun _ a b=>some (.bool (DN a b))) (fun _ a b=>some (.bool (!(DN b a)))) (fun _ a b=>some (.bool (DN b a))) (fun _ a b=>some (.bool (!(DN a b)))) op
def nV(op:BinOp):Nat:=@BinOp.rec (fun _=>Nat) (0) (0) (0) (0) (0) (0) (0) (0) (0) (0) (0) (1) (2) (0) (0) (0) (0) op
def AZ(op:BinOp):Bool:=@BinOp.rec (fun _=>Bool) (false) (false) (false) (false) (false) (false) (false) (false) (true) (true) (false) (false) (false) (false) (false) (false) (false) op
def qy(a b:Bool):Bool:=av a b (!b)
def V4(l:List UInt8):List Nat:=mp (fun b=>b.toNat) l
def BA(l:List Nat):List Nat→Bool:=
 @List.rec Nat (fun _=>List Nat→Bool) (fun m=>@List.rec Nat (fun _=>Bool) true (fun _ _ _=>false) m)
  (fun x _ ih m=>@List.rec Nat (fun _=>Bool) false (fun y r _=>av (Nat.beq x y) (ih r) false) m) l
def iM(x y:ByteArray):Bool:=BA (V4 x.data.toList) (V4 y.data.toList)
def strLt(x y:ByteArray):Bool:=Op.bytesLess x.data.toList y.data.toList
def Q8(x y:ByteArray):Option Value:=
 gd (Nat.ble (Nat.add (len x.data.toList) (len y.data.toList)) 4611686018427387904) (some (.string ⟨⟨app x.data.toList y.data.toList⟩⟩))
def V5(op:BinOp):ByteArray→ByteArray→Option Value:=
 @BinOp.rec (fun _=>ByteArray→ByteArray→Option Value) (Q8) (fun _ _=>none) (fun _ _=>none) (fun _ _=>none) (fun _ _=>none) (fun _ _=>none) (fun _ _=>none) (fun _ _=>none) (fun _ _=>none) (fun _ _=>none) (fun _ _=>none) (fun a b=>some (.bool (iM a b))) (fun a b=>some (.bool (!(iM a b)))) (fun a b=>some (.bool (strLt a b))) (fun a b=>some (.bool (strLt a b||iM a b))) (fun a b=>some (.bool (!(strLt a b||iM a b)))) (fun a b=>some (.bool (!(strLt a b)))) op
def k_(k:Nat)(x y:Value):Option Bool:=
 av (Nat.beq k 1) (aj (jk x) fun a=>aj (jk y) fun b=>gd (Nat.beq (ik a.1) (ik b.1)) (some (Ib a.2 b.2)))
  (av (Nat.beq k 2) (aj (bK x) fun a=>aj (bK y) fun b=>some (qy a b))
   (av (Nat.beq k 3) (aj (jl x) fun a=>aj (jl y) fun b=>some (iM a b)) none))
def iH(ks:List Nat):List Value→List Value→Option Bool:=
 @List.rec Nat (fun _=>List Value→List Value→Option Bool)
  (fun xs ys=>@List.rec Value (fun _=>Option Bool) (@List.rec Value (fun _=>Option Bool) (some true) (fun _ _ _=>none) ys) (fun _ _ _=>none) xs)
  (fun k _ ih xs ys=>@List.rec Value (fun _=>Option Bool) none (fun x xr _=>@List.rec Value (fun _=>Option Bool) none
   (fun y yr _=>aj (k_ k x y) fun b=>av b (ih xr yr) (some false)) ys) xs) ks
def iP(P:Program)(fs:List Field):Nat→Option (List Nat):=
 @List.rec Field (fun _=>Nat→Option (List Nat)) (fun _=>some [])
  (fun f _ ih k=>aj (P.underlying f.type) fun d=>aj (ih (Nat.succ k)) fun r=>gd (Nat.beq f.offset k&&!(f.name== "_")&&Nat.ble 1 (jB d)) (some (jB d::r))) fs
def Q9{α:Type}(x:α)(n:Nat):List α:=@Nat.rec (fun _=>List α) [] (fun _ r=>x::r) n
def Ic(P:Program)(t:TypeId):Option (List Nat):=aj (AY P t) fun fs=>gd (!(P.stoodInHeld t)) (iP P fs 0)
def Yg(P:Program)(t:TypeId):Option (List Nat):=aj (P.underlying t) fun d=>aj (HZ d) fun a=>aj (P.underlying a.2) fun e=>aj (kr P a.2) fun s=>
 gd (Nat.beq s 1&&Nat.ble 1 (jB e)) (some (Q9 (jB e) a.1))
def orElse'{α:Type}(o q:Option α):Option α:=@Option.rec α (fun _=>Option α→Option α) (fun q=>q) (fun x _=>some x) o q
def ZA(P:Program)(t:TypeId):Option (Sum Nat (List Nat)):=
 aj (P.underlying t) fun d=>av (Nat.ble 1 (jB d)) (some (.inl (jB d))) (aj (orElse' (Ic P t) (Yg P t)) fun l=>some (.inr l))
def iq(P:Program)(t:TypeId)(x y:Value):Option Bool:=
 aj (ZA P t) fun q=>@Sum.rec Nat (List Nat) (fun _=>Option Bool) (fun k=>k_ k x y)
  (fun l=>aj (kR x) fun a=>aj (kR y) fun b=>iH l a b) q
def jm(o:Operand):Bool:=
 @Operand.rec (fun _=>Bool) (fun _=>false) (fun v=>(iO v).2) (fun _=>false) (fun _=>false) o
def yH(P:Program)(t:TypeId):Nat:=@Option.rec TypeDesc (fun _=>Nat) 0 l8 (P.underlying t)
def En(k:Nat)(c x:Value):Option Bool:=gd (Nat.ble 1 k&&Nat.beq (iO x).1 k&&Nat.beq (iO c).1 k) (some (iO x).2)
def yI(P:Program)(t:TypeId):Bool:=
 @Option.rec Unit (fun _=>Bool) false (fun _=>true) (aj (P.underlying t) fun d=>aj (xm d) fun e=>aj (kr P e) fun s=>gd (Nat.ble 1 s) (some ()))
def ptrEq(x y:Value):Option Bool:=aj (gT x) fun a=>aj (gT y) fun b=>gd (Nat.beq a.block b.block) (some (Nat.beq a.off b.off))
def VM(P:Program)(t:TypeId)(ox oy:Operand)(x y:Value):Option Bool:=
 av (jm oy) (En (yH P t) y x) (av (jm ox) (En (yH P t) x y) (av (yI P t) (ptrEq x y) (iq P t x y)))
def vk(op:BinOp)(b:Option Bool):Option Value:=
 av (Nat.beq (nV op) 1) (aj b fun b=>some (.bool b)) (av (Nat.beq (nV op) 2) (aj b fun b=>some (.bool (!b))) none)
def Q_(op:BinOp)(t:TypeId)(x y:Value):Option Value:=aj (jk x) fun _=>aj (jk y) fun _=>bV (binOp op t x y)
def lg(v:Value):Nat:=
 @Value.rec (fun _=>Nat) (fun _=>PUnit) (fun _=>PUnit)
  (fun _=>0)
  (fun _ _=>0)
  (fun k b=>1)
  (fun k x y=>2)
  (fun _=>0)
  (fun _=>0)
  (fun _ _ _=>0)
  (fun _=>0)
  (fun _=>0)
  (fun _ _ _ _ _=>0)
  (0)
  (fun _ _ _=>0)
  (0)
  (fun _ _=>0)
  (fun _ _=>0)
  (fun _ _=>⟨⟩) ⟨⟩ (fun _ _ _ _=>⟨⟩) v
def Kk(op:BinOp)(t:TypeId)(x y:Value):Option Value:=gd (Nat.ble 1 (lg x)&&Nat.beq (lg x) (lg y)) (bV (binOp op t x y))
def eF(P:Program)(op:BinOp)(t:TypeId)(ox oy:Operand)(x y:Value):Option Value:=
 @Option.rec (IntKind×Int) (fun _=>Option Value)
  (@Option.rec ByteArray (fun _=>Option Value) (av (Nat.ble 1 (lg x)) (Kk op t x y) (vk op (VM P t ox oy x y))) (fun a=>aj (jl y) fun b=>V5 op a b) (jl x))
  (fun a=>av (AZ op) (Q_ op t x y) (aj (jk y) fun b=>gd (Nat.beq (ik a.1) (ik b.1)) (OD op a.1 a.2 b.2))) (jk x)
def vo(P:Program)(s d:TypeId)(x:Value):Option Value:=
 aj (P.underlying s) fun _=>aj (P.underlying d) fun e=>
  @Option.rec (IntKind×Int) (fun _=>Option Value) (aj (jl x) fun b=>gd (rQ e) (some (.string b)))
   (fun a=>@Option.rec IntKind (fun _=>Option Value) (av (rQ e) (some (.string (Utf8.encode a.2))) (aj (yF e) fun k=>bV (Conv.intToFloat k a.2))) (fun k=>some (.int k (fO k a.2))) (DL e)) (jk x)
def apart(l:Option Nat)(cs:List Value)(off:Nat):Option Value:=
 @Option.rec Nat (fun _=>Option Value) (nth cs off) (fun n=>gd (Nat.ble (Nat.add off n) (len cs)) (some (.agg ⟨tk n (dp off cs)⟩))) l
def eX(o:Option Value)(d:Nat):Option Nat:=@Option.rec Value (fun _=>Option Nat) (some d) oV o
def nW(m l off sz:Nat):Nat:=av (Nat.beq m l) off (Nat.add off (Nat.mul l sz))
def Fv(s:ByteArray)(lo hi:Option Value):Option Value:=
 aj (eX lo 0) fun l=>aj (eX hi (len s.data.toList)) fun h=>gd (Nat.ble l h&&Nat.ble h (len s.data.toList))
  (some (.string ⟨⟨tk (Nat.sub h l) (dp l s.data.toList)⟩⟩))
def MQ(sz:Nat)(p:Option Addr×Nat×Nat)(lo hi mx:Option Value):Option Value:=
 @Option.rec Addr (fun _=>Option Value)
  (aj (eX lo 0) fun l=>aj (eX hi 0) fun h=>aj (eX mx 0) fun m=>gd (Nat.beq l 0&&Nat.beq h 0&&Nat.beq m 0&&Nat.beq p.2.1 0&&Nat.beq p.2.2 0&&(!(aD hi)||aD mx)) (some (.slice none 0 0)))
  (fun a=>aj (eX lo 0) fun l=>aj (eX hi p.2.1) fun h=>
   av (aX p.2.2)
    (aj (eX mx p.2.2) fun m=>gd (Nat.ble l h&&Nat.ble h m&&Nat.ble m p.2.2&&(!(aD hi)||aD mx))
     (some (.slice (some ⟨a.block,nW m l a.off sz,none⟩) (Nat.sub h l) (Nat.sub m l))))
    (gd (Nat.beq p.2.2 (aK sz)) (@Option.rec Value (fun _=>Option Value)
     (gd (Nat.ble l h&&Nat.ble h p.2.1) (some (.slice (some ⟨a.block,Nat.add a.off (Nat.mul l sz),none⟩) (Nat.sub h l) p.2.2)))
     (fun mv=>aj (oV mv) fun m=>gd (Nat.ble l h&&Nat.ble h m&&Nat.ble m p.2.1&&!(aD hi)&&aX m)
      (some (.slice (some ⟨a.block,nW m l a.off sz,none⟩) (Nat.sub h l) (Nat.sub m l)))) mx))) p.1
def Kl(n sz:Nat)(a:Addr)(lo hi mx:Option Value):Option Value:=
 aj (eX lo 0) fun l=>aj (eX hi n) fun h=>gd (Nat.ble l h&&Nat.ble h n&&aD mx&&aX n)
  (some (.slice (some ⟨a.block,nW n l a.off sz,none⟩) (Nat.sub h l) (Nat.sub n l)))
def pF(P:Program)(t:TypeId)(x:Value)(lo hi mx:Option Value):Option Value:=
 @Option.rec (TypeId×Nat) (fun _=>Option Value)
  (av (vM P t) (aj (jl x) fun s=>gd (aD mx) (Fv s lo hi)) (aj (Ia P t) fun q=>aj (gT x) fun a=>Kl q.1 q.2.2 a lo hi mx))
  (fun q=>aj (Av x) fun p=>MQ q.2 p lo hi mx) (H_ P t)
def iQ(P:Program)(t:TypeId)(x i:Value):Option Value:=
 aj (oV i) fun k=>@Option.rec (TypeId×Nat) (fun _=>Option Value)
  (aj (Ia P t) fun q=>aj (gT x) fun a=>gd (Nat.ble (Nat.succ k) q.1) (some (.pointer (some ⟨a.block,Nat.add a.off (Nat.mul k q.2.2),none⟩))))
  (fun q=>aj (Av x) fun p=>aj p.1 fun a=>gd (Nat.ble (Nat.succ k) p.2.1) (some (.pointer (some ⟨a.block,Nat.add a.off (Nat.mul k q.2),none⟩)))) (H_ P t)
def si(P:Program)(t:TypeId)(x i:Value):Option Value:=
 aj (oV i) fun k=>av (vM P t)
  (aj (jl x) fun s=>aj (nth s.data.toList k) fun b=>some (.int .u8 (.ofNat b.toNat)))
  (aj (Ia P t) fun q=>aj (kR x) fun cs=>aj (QL P q.2.1) fun l=>gd (Nat.ble (Nat.succ k) q.1) (apart l cs (Nat.mul k q.2.2)))
def iR(P:Program)(t:TypeId)(x:Value)(f:Nat):Option Value:=
 aj (gT x) fun a=>aj (Kj P t f) fun q=>some (.pointer (some ⟨a.block,Nat.add a.off q.1,none⟩))
def su(P:Program)(t:TypeId)(x:Value)(f:Nat):Option Value:=
 aj (kR x) fun cs=>aj (Kj P t f) fun q=>apart q.2 cs q.1
def setAt{α:Type}(x:α)(k:Nat):List α→List α:=
 @Nat.rec (fun _=>List α→List α) (fun l=>@List.rec α (fun _=>List α) [] (fun _ r _=>x::r) l) (fun _ ih l=>@List.rec α (fun _=>List α) [] (fun y r _=>y::ih r) l) k
def yJ(vs:List Value):Nat→List Value→List Value:=
 @List.rec Value (fun _=>Nat→List Value→List Value) (fun _ cs=>cs) (fun v _ ih k cs=>ih (Nat.succ k) (setAt v k cs)) vs
def vv(place:Nat→Option (Nat×Nat))(ps:List (Nat×Value)):List Value→Option (List Value):=
 @List.rec (Nat×Value) (fun _=>List Value→Option (List Value)) (fun cs=>some cs)
  (fun p _ ih cs=>aj (place p.1) fun q=>gd (ko p.2&&Nat.beq (len (ax p.2)) q.2&&Nat.ble (Nat.add q.1 q.2) (len cs)) (ih (yJ (ax p.2) q.1 cs))) ps
def sw(P:Program)(t:TypeId)(ps:List (Nat×Value)):Option Value:=
 aj (pE P t) fun z=>@Option.rec (List (Nat×Nat)) (fun _=>Option Value)
  (aj (Ia P t) fun q=>aj (vv (fun k=>some (Nat.mul k q.2.2,q.2.2)) ps z) fun cs=>some (.agg ⟨cs⟩))
  (fun pl=>aj (vv (nth pl) ps z) fun cs=>some (.agg ⟨cs⟩)) (MP P t)
def gQ(z:List Value)(n:Nat):List Value:=@Nat.rec (fun _=>List Value) [] (fun _ r=>app z r) n
def BB(c a b:Value):Option Value:=aj (bK c) fun t=>some (av t a b)
def Fw(x:Value):Option Value:=
 @Option.rec Addr (fun _=>Option Value) (aj (Q5 x) fun f=>aj (VL f.1) fun _=>some x) (fun _=>some x) (gT x)
def Ko(P:Program)(t:TypeId)(x:Value):Option Value:=aj (P.underlying t) fun d=>gd (!(Q7 d)) (some (.iface t x))
def l9(x:Value)(i:Nat):Option Value:=aj (Q6 x) fun l=>nth l i
def BC(P:Program)(t:TypeId)(x:Value):Option Value:=
 aj (P.underlying t) fun d=>av (rQ d) (aj (jl x) fun s=>some (.int .i64 (.ofNat (len s.data.toList))))
  (av (Nat.beq (l8 d) 2) (aj (Av x) fun p=>some (.int .i64 (.ofNat p.2.1)))
   (av (Nat.beq (l8 d) 3) (aj (DK x) fun r=>gd (aD r) (some (.int .i64 0)))
    (aj (HZ d) fun a=>some (.int .i64 (.ofNat a.1)))))
def one(f:TypeId→Value→Option Value)(ats:List TypeId)(args:List Value):Option Value:=
 aj (nth ats 0) fun t=>aj (nth args 0) fun x=>f t x
def mm2(b:Bool)(x y:Value):Option Value:=
 aj (jk x) fun p=>aj (jk y) fun q=>gd (Nat.beq (ik p.1) (ik q.1)) (some (av (av b (DN p.2 q.2) (DN q.2 p.2)) y x))
def mmL(b:Bool)(l:List Value):Value→Option Value:=
 @List.rec Value (fun _=>Value→Option Value) (fun x=>some x) (fun y _ ih x=>aj (mm2 b x y) ih) l
def Ra(b:Bool)(args:List Value):Option Value:=@List.rec Value (fun _=>Option Value) none (fun x l _=>mmL b l x) args
def BD(r:Nat):Value:=.pointer (some ⟨r,0,none⟩)
def sD(P:Program)(e:TypeId)(H:ae):Option (Value×ae):=
 aj (pE P e) fun z=>some (BD H.next,H.new (rowOf e z))
def Fx(e:TypeId)(x:Value)(H:ae):Option (Value×ae):=gd (ko x) (some (BD H.next,H.new (rowOf e (ax x))))
def jo(P:Program)(t:TypeId)(n:Nat)(ps:List (Nat×Value))(H:ae):Option (Value×ae):=
 aj (H_ P t) fun q=>aj (pE P q.1) fun z=>gd (Nat.ble (Nat.mul n q.2) 16777216)
  (aj (vv (fun k=>some (Nat.mul k q.2,q.2)) ps (gQ z n)) fun cs=>some (.slice (some ⟨H.next,0,none⟩) n n,H.new (rowOf q.1 cs)))
def loadAt(l:Option Nat)(a:Addr)(H:ae):Option (Value×ae):=
 @Option.rec Nat (fun _=>Option (Value×ae)) (aj (H.cell a.block a.off) fun v=>some (v,H))
  (fun n=>aj (H.read a.block a.off n) fun vs=>some (.agg ⟨vs⟩,H)) l
def kz(P:Program)(t:TypeId)(x:Value)(H:ae):Option (Value×ae):=
 aj (gT x) fun a=>aj (QL P t) fun l=>loadAt l a H
def nX(P:Program)(t:TypeId)(x v:Value)(H:ae):Option (Value×ae):=
 aj (gT x) fun a=>aj (kr P t) fun s=>gd (Nat.beq (len (ax v)) s) (aj (H.write a.block a.off (ax v)) fun H'=>some (undef,H'))
def jT(l:List Value):Option (List UInt8):=
 @List.rec Value (fun _=>Option (List UInt8)) (some []) (fun v _ r=>aj (jk v) fun p=>aj (DJ p.2) fun n=>gd (Bz p.1&&Nat.ble n 255) (aj r fun bs=>some (UInt8.ofNat n::bs))) l
def gq(s:List UInt8):List Value:=mp (fun b=>.int .u8 (.ofNat b.toNat)) s
def vN(P:Program)(q:TypeId×Nat)(x:Value)(H:ae):Option (Value×ae):=
 aj (jl x) fun b=>gd (Nat.beq q.2 1&&zD P q.1)
  (some (.slice (some ⟨H.next,0,none⟩) (len b.data.toList) (aK 1),H.new (.row ⟨q.1,Tr.jG top (gq b.data.toList) 0 .nil,len b.data.toList,true,0⟩)))
def vO(P:Program)(q:TypeId×Nat)(x:Value)(H:ae):Option (Value×ae):=
 aj (Av x) fun p=>gd (Nat.beq q.2 1&&zD P q.1) (@Option.rec Addr (fun _=>Option (Value×ae)) (some (.string ⟨⟨[]⟩⟩,H))
  (fun a=>aj (H.read a.block a.off p.2.1) fun l=>aj (jT l) fun bs=>some (.string ⟨⟨bs⟩⟩,H)) p.1)
def BF(P:Program)(t:TypeId)(x:Value)(H:ae):Option (Value×ae):=
 aj (gT x) fun a=>aj (kr P t) fun s=>aj (kg (H.obj a.block)) fun w=>gd (Nat.ble 1 s&&Nat.ble (Nat.succ a.off) w.n) (some (x,H))
def BH(P:Program)(u:TypeId)(x:Value)(H:ae):Option (Value×ae):=
 aj (gT x) fun a=>aj (kr P u) fun s=>aj (kg (H.obj a.block)) fun w=>
  gd (Nat.ble 1 s&&Nat.beq w.ty u&&Nat.beq a.off 0&&Nat.ble s w.n) (some (x,H))
def Rb(P:Program)(s d:TypeId):Option (Nat×TypeId×Nat):=aj (P.underlying s) fun x=>aj (P.underlying d) fun y=>
 av (rQ x) (aj (H_ P d) fun q=>some (1,q)) (av (rQ y) (aj (H_ P s) fun q=>some (2,q))
  (av (xq y) (aj (xm x) fun e=>some (3,e,0)) (av (xq x) (aj (xm y) fun e=>some (4,e,0)) none)))
def kC(P:Program)(s d:TypeId)(x:Value)(H:ae):Option (Value×ae):=
 aj (Rb P s d) fun q=>av (Nat.beq q.1 1) (vN P q.2 x H) (av (Nat.beq q.1 2) (vO P q.2 x H)
  (av (Nat.beq q.1 3) (BF P q.2.1 x H) (BH P q.2.1 x H)))
def kD(P:Program)(t:TypeId)(r:Option Value)(H:ae):Option (Value×ae):=
 aj (rR P t) fun _=>gd (@Option.rec Value (fun _=>Bool) true (fun v=>!(aD (jk v))) r) (some (.map (some H.next),H.new (.map [])))
def g_(P:Program)(t:TypeId)(l c:Value)(H:ae):Option (Value×ae):=
 aj (H_ P t) fun q=>aj (tI P q.1) fun i=>aj (pE P q.1) fun z=>aj (oV l) fun n=>aj (oV c) fun m=>
  gd (Nat.ble n m&&Nat.ble m 16777216&&Nat.ble i.bytes 1048576) (some (.slice (some ⟨H.next,0,none⟩) n m,H.new (rowOf q.1 (gQ z m))))
def mapOf(H:ae)(x:Value):Option (List (Value×Value)):=
 aj (DK x) fun r=>@Option.rec Nat (fun _=>Option (List (Value×Value))) (some []) (fun r=>HY (H.obj r)) r
def l_(P:Program)(kt:TypeId)(k:Value)(es:List (Value×Value)):Nat→Option (Option (Nat×Value)):=
 @List.rec (Value×Value) (fun _=>Nat→Option (Option (Nat×Value))) (fun _=>some none)
  (fun e _ ih i=>aj (iq P kt k e.1) fun b=>av b (some (some (i,e.2))) (ih (Nat.succ i))) es
def okd(ok:Bool)(v:Value)(b:Bool)(H:ae):Value×ae:=av ok (.tuple #[v,.bool b],H) (v,H)
def xu(P:Program)(t:TypeId)(k:Value):Option Unit:=aj (iq P t k k) fun b=>gd b (some ())
def lX(P:Program)(t:TypeId)(x k:Value)(ok:Bool)(H:ae):Option (Value×ae):=
 aj (rR P t) fun q=>aj (vg P q.2) fun z=>aj (mapOf H x) fun es=>aj (xu P q.1 k) fun _=>aj (l_ P q.1 k es 0) fun f=>
  @Option.rec (Nat×Value) (fun _=>Option (Value×ae)) (some (okd ok z false H)) (fun p=>some (okd ok p.2 true H)) f
def jg(P:Program)(t:TypeId)(m k v:Value)(H:ae):Option (Value×ae):=
 aj (rR P t) fun q=>aj (DK m) fun mr=>aj mr fun r=>aj (HY (H.obj r)) fun es=>aj (xu P q.1 k) fun _=>aj (l_ P q.1 k es 0) fun f=>
  @Option.rec (Nat×Value) (fun _=>Option (Value×ae)) (some (undef,H.put r (.map (app es [(k,v)])))) (fun p=>some (undef,H.put r (.map (setAt (k,v) p.1 es)))) f
def appended(H:ae)(sz:Nat)(x:Value):Option (Nat×List Value):=
 @Option.rec ByteArray (fun _=>Option (Nat×List Value))
  (aj (Av x) fun p=>@Option.rec Addr (fun _=>Option (Nat×List Value)) (gd (Nat.beq p.2.1 0) (some (0,[])))
   (fun a=>aj (H.read a.block a.off (Nat.mul p.2.1 sz)) fun l=>some (p.2.1,l)) p.1)
  (fun s=>gd (Nat.beq sz 1) (some (len s.data.toList,gq s.data.toList))) (jl x)
def Eo(P:Program)(ats:List TypeId)(args:List Value)(H:ae):Option (Value×ae):=
 aj (nth ats 0) fun t=>aj (nth args 0) fun d=>aj (nth args 1) fun x=>aj (H_ P t) fun q=>aj (Av d) fun p=>aj (appended H q.2 x) fun e=>
  @Option.rec Addr (fun _=>Option (Value×ae)) (gd (Nat.beq p.2.1 0) (some (.int .i64 0,H)))
   (fun a=>aj (H.write a.block a.off (tk (Nat.mul (av (Nat.ble e.1 p.2.1) e.1 p.2.1) q.2) e.2)) fun H'=>some (.int .i64 (.ofNat (av (Nat.ble e.1 p.2.1) e.1 p.2.1)),H')) p.1
def yK(P:Program)(ats:List TypeId)(args:List Value)(H:ae):Option (Value×ae):=
 aj (nth ats 0) fun t=>aj (nth args 0) fun d=>aj (H_ P t) fun q=>aj (pE P q.1) fun z=>aj (Av d) fun p=>
  @Option.rec Addr (fun _=>Option (Value×ae)) (some (.tuple #[],H))
   (fun a=>aj (H.write a.block a.off (gQ z p.2.1)) fun H'=>some (.tuple #[],H')) p.1
def BI(P:Program)(ats:List TypeId)(args:List Value)(H:ae):Option (Value×ae):=
 aj (nth ats 0) fun t=>aj (nth args 0) fun x=>aj (rR P t) fun _=>aj (mapOf H x) fun es=>some (.int .i64 (.ofNat (len es)),H)
def xw(args:List Value)(H:ae):Option (Value×ae):=
 gd (Nat.beq (len args) 1) (aj (nth args 0) fun x=>aj (Av x) fun p=>@Option.rec Addr (fun _=>Option (Value×ae)) (some (.pointer none,H))
  (fun a=>gd (Nat.ble 1 p.2.1||(aX p.2.2&&Nat.ble 1 p.2.2)) (some (.pointer (some a),H))) p.1)
def MR(P:Program)(pt:TypeId)(a:Addr)(n:Nat)(H:ae):Option (Value×ae):=
 aj (P.underlying pt) fun d=>aj (xm d) fun e=>aj (kr P e) fun s=>aj (kg (H.obj a.block)) fun w=>
  gd (zD P e&&Nat.beq w.ty e&&Nat.beq s 1&&Nat.ble (Nat.add a.off n) w.n&&Nat.ble n 16777216)
   (aj (jT (Tr.vK top w.cells a.off n)) fun bs=>some (.string ⟨⟨bs⟩⟩,
    H.put a.block (.row ⟨w.ty,w.cells,w.n,w.dA,av (Nat.ble w.fz (Nat.add a.off n)) (Nat.add a.off n) w.fz⟩)))
def lq(P:Program)(ats:List TypeId)(args:List Value)(H:ae):Option (Value×ae):=
 gd (Nat.beq (len args) 2) (aj (nth ats 0) fun pt=>aj (nth args 0) fun p=>aj (nth args 1) fun nv=>aj (oV nv) fun n=>
  @Nat.rec (fun _=>Option (Value×ae)) (gd (Nat.beq (iO p).1 1) (some (.string ⟨⟨[]⟩⟩,H))) (fun _ _=>aj (gT p) fun a=>MR P pt a n H) n)
def pG(e:TypeId)(es:Nat)(n:Nat)(vs:List Value)(H:ae):Value×ae:=
 (.slice (some ⟨H.next,0,none⟩) n (aK es),H.new (rowOf e vs))
def mg(q:TypeId×Nat)(a:Addr)(l c k:Nat)(vs:List Value)(H:ae):Option (Value×ae):=
 av (Nat.ble (Nat.add l k) c)
  (aj (H.write a.block (Nat.add a.off (Nat.mul l q.2)) vs) fun H'=>some (.slice (some a) (Nat.add l k) c,H'))
  (aj (H.read a.block a.off (Nat.mul l q.2)) fun old=>some (pG q.1 q.2 (Nat.add l k) (app old vs) H))
def jq(q:TypeId×Nat)(a:Addr)(l c k:Nat)(vs:List Value)(H:ae):Option (Value×ae):=
 aj (kg (H.obj a.block)) fun w=>gd (Nat.beq w.ty q.1&&!w.dA)
  (av (Nat.ble (Nat.add a.off (Nat.mul (Nat.add l k) q.2)) w.n)
   (aj (H.write a.block (Nat.add a.off (Nat.mul l q.2)) vs) fun H'=>some (.slice (some a) (Nat.add l k) c,H'))
   (gd (Nat.ble (Nat.add a.off (Nat.mul l q.2)) w.n&&Nat.ble w.fz (Nat.add a.off (Nat.mul l q.2))&&all' aR vs)
    (some (.slice (some ⟨H.next,a.off,none⟩) (Nat.add l k) c,
     (H.put a.block .dead).new (.row ⟨w.ty,Tr.jG top vs (Nat.add a.off (Nat.mul l q.2)) w.cells,Nat.add a.off (Nat.mul (Nat.add l k) q.2),false,w.fz⟩)))))
def MS(q:TypeId×Nat)(s:Value)(p:Option Addr×Nat×Nat)(k:Nat)(vs:List Value)(H:ae):Option (Value×ae):=
 @Nat.rec (fun _=>Option (Value×ae)) (some (s,H)) (fun _ _=>
  @Option.rec Addr (fun _=>Option (Value×ae)) (gd (Nat.beq p.2.1 0&&Nat.beq p.2.2 0) (some (pG q.1 q.2 k vs H)))
   (fun a=>gd (Nat.ble p.2.1 16777216) (av (aX p.2.2) (mg q a p.2.1 p.2.2 k vs H) (gd (Nat.beq p.2.2 (aK q.2)) (jq q a p.2.1 p.2.2 k vs H)))) p.1) k
def aa3(P:Program)(t t2:TypeId):Option (TypeId×Nat):=
 aj (H_ P t) fun q=>aj (tI P q.1) fun i=>aj (pE P q.1) fun _=>aj (P.underlying t2) fun d=>gd (aD (DL d)&&Nat.ble i.bytes 1048576&&Nat.ble 1 i.bytes) (some q)
def uA(P:Program)(ats:List TypeId)(args:List Value)(H:ae):Option (Value×ae):=
 aj (nth ats 0) fun t=>aj (nth ats 1) fun t2=>aj (nth args 0) fun s=>aj (nth args 1) fun x=>
  aj (aa3 P t t2) fun q=>aj (Av s) fun p=>aj (appended H q.2 x) fun e=>gd (Nat.ble e.1 16777216) (MS q s p e.1 e.2 H)
def yL(P:Program)(t:TypeId)(x:Value)(H:ae):Option (Value×ae):=
 gd (vM P t) (aj (jl x) fun s=>some (BD H.next,H.new (.r_ s 0)))
def Re(r:Nat)(s:ByteArray)(p:Nat)(c:Nat×Nat)(H:ae):Value×ae:=
 (.tuple #[.bool true,.int .i64 (.ofNat p),.int .i32 (.ofNat c.1)],H.put r (.r_ s (Nat.add p c.2)))
def Ep(it:Value)(str:Bool)(H:ae):Option (Value×ae):=
 aj (gT it) fun a=>aj (aa2 (H.obj a.block)) fun q=>gd (str&&Nat.beq a.off 0)
  (av (Nat.ble (Nat.succ q.2) (len q.1.data.toList)) (some (Re a.block q.1 q.2 (Utf8.decode q.1 q.2) H)) (some (.tuple #[.bool false],H)))
def Rf(a b:Option Nat):Bool:=@Option.rec Nat (fun _=>Bool) (aD b) (fun x=>@Option.rec Nat (fun _=>Bool) false (fun y=>Nat.beq x y) b) a
def addrEq(a b:Addr):Bool:=Nat.beq a.block b.block&&Nat.beq a.off b.off&&aD a.spot&&aD b.spot
def A_(a b:Option Addr):Bool:=@Option.rec Addr (fun _=>Bool) (aD b) (fun x=>@Option.rec Addr (fun _=>Bool) false (fun y=>addrEq x y) b) a
def Rh(x y:Value):Bool:=gU (aj (gT x) fun a=>aj (gT y) fun b=>gd (addrEq a b) (some ()))
def Yh(x y:Value):Bool:=gU (aj (Av x) fun a=>aj (Av y) fun b=>gd (A_ a.1 b.1&&Nat.beq a.2.1 b.2.1&&Nat.beq a.2.2 b.2.2) (some ()))
def aa4(x y:Value):Bool:=gU (aj (DK x) fun a=>aj (DK y) fun b=>gd (Rf a b) (some ()))
def Ri(x y:Value):Bool:=gU (aj (jk x) fun a=>aj (jk y) fun b=>gd (Nat.beq (ik a.1) (ik b.1)&&Ib a.2 b.2) (some ()))
def aa5(x y:Value):Bool:=gU (aj (bK x) fun a=>aj (bK y) fun b=>gd (qy a b) (some ()))
def aa6(x y:Value):Bool:=gU (aj (jl x) fun a=>aj (jl y) fun b=>gd (iM a b) (some ()))
def Yi(x y:Value):Bool:=Bw x&&Bw y&&Nat.beq (iO x).1 (iO y).1
def pP(x y:Value):Bool:=Ri x y||(Rh x y||(Yh x y||(aa5 x y||(aa6 x y||(aa4 x y||Yi x y)))))
def qC(f:Value→Value→Bool)(xs:List Value):List Value→Bool:=
 @List.rec Value (fun _=>List Value→Bool) (fun ys=>@List.rec Value (fun _=>Bool) true (fun _ _ _=>false) ys)
  (fun x _ ih ys=>@List.rec Value (fun _=>Bool) false (fun y r _=>av (f x y) (ih r) false) ys) xs
def MU(f:Value→Value→Bool)(x y:Value):Bool:=gU (aj (Q5 x) fun a=>aj (Q5 y) fun b=>aj (VL a.1) fun g=>aj (VL b.1) fun k=>gd (Nat.beq g k&&qC f a.2.1 b.2.1&&qC f a.2.2 b.2.2) (some ()))
def vP(x y:Value):Bool:=pP x y||MU pP x y
def gK(x y:Value):Bool:=vP x y||MU vP x y
def xx(xs:List Value):List Value→Bool:=
 @List.rec Value (fun _=>List Value→Bool) (fun ys=>@List.rec Value (fun _=>Bool) true (fun _ _ _=>false) ys)
  (fun x _ ih ys=>@List.rec Value (fun _=>Bool) false (fun y r _=>av (gK x y) (ih r) false) ys) xs
def sameAt(A B:ae)(r off n:Nat):Bool:=gU (aj (A.read r off n) fun x=>aj (B.read r off n) fun y=>gd (xx x y) (some ()))
def mR(c:Nat)(l:List UInt8):Nat→Option Nat:=
 @List.rec UInt8 (fun _=>Nat→Option Nat) (fun _=>none) (fun b _ ih k=>av (Nat.beq b.toNat c) (some k) (ih (Nat.succ k))) l
def countB(c:Nat)(l:List UInt8):Nat:=@List.rec UInt8 (fun _=>Nat) 0 (fun b _ n=>av (Nat.beq b.toNat c) (Nat.succ n) n) l
def Kq(o:Option Nat):Value:=@Option.rec Nat (fun _=>Value) (.int .i64 (-1)) (fun k=>.int .i64 (.ofNat k)) o
def BJ(args:List Value):Option (ByteArray×Nat):=
 aj (nth args 0) fun s=>aj (jl s) fun b=>aj (nth args 1) fun c=>aj (jk c) fun p=>aj (DJ p.2) fun n=>gd (Bz p.1&&Nat.ble n 255&&Nat.beq (len args) 2) (some (b,n))
def OE(P:Program)(code:Nat)(rt:List TypeId)(args:List Value)(H:ae):Option (Value×ae):=
 av (Nat.beq code 1) (gd (Nat.beq (len args) 1) (aj (nth args 0) fun x=>some (x,H)))
  (av (Nat.beq code 2) (gd (Nat.beq (len args) 1) (aj (nth args 0) fun x=>aj (jk x) fun p=>aj (DJ p.2) fun n=>aj (nth rt 0) fun t=>aj (H_ P t) fun q=>
   gd (ve p.1&&Nat.ble n 16777216&&Nat.beq q.2 1) (some (.slice (some ⟨H.next,0,none⟩) n (aK 1),H.new (.row ⟨q.1,.nil,n,false,0⟩)))))
   (av (Nat.beq code 3) (aj (BJ args) fun x=>some (Kq (mR x.2 x.1.data.toList 0),H))
    (av (Nat.beq code 4) (aj (BJ args) fun x=>some (.int .i64 (.ofNat (countB x.2 x.1.data.toList)),H)) none)))
structure St where
 nl:Nat
 nt:Nat
 reg:List (Nat×Value)
 tm:Tr Value
 df:List Deferred
 H:ae
def aV(m i:Nat):Bool:=Nat.beq (Nat.mod (Nat.shiftRight m i) 2) 1
def look(l:List (Nat×Value)):Nat→Value:=
 @List.rec (Nat×Value) (fun _=>Nat→Value) (fun _=>top) (fun p _ ih t=>av (Nat.beq p.1 t) p.2 (ih t)) l
def aY(s:St)(t:Nat):Value:=av (aV s.nl t) (s.tm.get top t) (look s.reg t)
def ev(s:St)(x:Operand):Value:=
 @Operand.rec (fun _=>St→Value) (fun t s=>aY s t) (fun v _=>v) (fun g _=>.pointer (some ⟨g,0,none⟩)) (fun f _=>.func (.func f) #[] #[]) x s
def Aw(s:St)(x:Option Operand):Option Value:=@Option.rec Operand (fun _=>Option Value) none (fun x=>some (ev s x)) x
def Fy(s:St)(ps:Array (Nat×Operand)):List (Nat×Value):=mp (fun p=>(p.1,ev s p.2)) ps.toList
def h_(s:St)(d:Nat)(v:Value)(H:ae):St:=
 av (aV s.nl d) ⟨s.nl,s.nt,s.reg,av (Nat.ble (Nat.succ d) s.nt) (s.tm.set top d v) s.tm,s.df,H⟩ ⟨s.nl,s.nt,(d,v)::s.reg,s.tm,s.df,H⟩
def bI(s:St)(d:Option Nat)(v:Value)(H:ae):St:=
 @Option.rec Nat (fun _=>St) ⟨s.nl,s.nt,s.reg,s.tm,s.df,H⟩ (fun d=>h_ s d v H) d
abbrev cz:=FuncId→List Value→ae→Option (Value×ae)
inductive R3 where
 |fail
 |rT(v:Value)
 |mem(v:Value)(H:ae)
def rp(o:Option Value):R3:=@Option.rec Value (fun _=>R3) .fail .rT o
def rm(o:Option (Value×ae)):R3:=@Option.rec (Value×ae) (fun _=>R3) .fail (fun p=>.mem p.1 p.2) o
def rpm(o:Option Value)(q:R3):R3:=@Option.rec Value (fun _=>R3→R3) (fun q=>q) (fun v _=>.rT v) o q
def isU(v:Value):Bool:=@Option.rec (List Value) (fun _=>Bool) false (fun l=>Nat.beq (len l) 0) (Q6 v)
def qD(ops:Array Oper)(s:St)(j:Nat):Option (Option Bool):=
 aj (nth ops.toList j) fun o=>aj o.dst fun t=>
  @Option.rec Bool (fun _=>Option (Option Bool)) (gd (isU (aY s t)) (some none)) (fun b=>some (some b)) (bK (aY s t))
def Er(ops:Array Oper)(s:St)(g:Nat×Bool):Option Bool:=
 aj (qD ops s g.1) fun y=>some (@Option.rec Bool (fun _=>Bool) false (fun b=>qy b g.2) y)
def iw(ops:Array Oper)(s:St)(g:Option (Nat×Bool)):Option Bool:=
 @Option.rec (Nat×Bool) (fun _=>Option Bool) (some true) (fun g=>Er ops s g) g
def methodOf(P:Program)(t:TypeId)(name:String):Option (FuncId×Bool):=
 aj (P.info? t) fun i=>aj (i.methods.toList.find? (·.name==name)) fun m=>aj m.func fun q=>aj (P.underlying t) fun d=>
  gd (Nat.beq (len m.path.toList) 0&&(av q.2 (Nat.beq (l8 d) 1) (!(Nat.beq (l8 d) 1)))) (some q)
def eY(c:Callee):Program→St→Option (FuncId×List Value×List Value):=
 @Callee.rec (fun _=>Program→St→Option (FuncId×List Value×List Value))
  (fun f _ s=>aj (Q5 (ev s f)) fun q=>aj (VL q.1) fun g=>some (g,q.2))
  (fun r name P s=>aj (vL (ev s r)) fun p=>aj (methodOf P p.1 name) fun q=>some (q.1,[p.2],[]))
  (fun _ _ _=>none) c
def isBuiltin(c:Callee):Option Builtin:=@Callee.rec (fun _=>Option Builtin) (fun _=>none) (fun _ _=>none) (fun b=>some b) c
def pQ(b:Builtin):List TypeId→List Value→Program→ae→R3:=
 @Builtin.rec (fun _=>List TypeId→List Value→Program→ae→R3)
  (fun ats args P H=>rm (uA P ats args H)) (fun _ _ _ _=>.fail) (fun ats args P H=>rm (yK P ats args H)) (fun _ _ _ _=>.fail) (fun _ _ _ _=>.fail) (fun ats args P H=>rm (Eo P ats args H)) (fun _ _ _ _=>.fail) (fun _ _ _ _=>.fail) (fun ats args P H=>rpm (one (BC P) ats args) (rm (BI P ats args H))) (fun _ _ _ _=>.fail) (fun _ args _ _=>rp (Ra true args)) (fun _ args _ _=>rp (Ra false args)) (fun _ _ _ _=>.fail) (fun _ _ _ _=>.fail) (fun _ _ _ _=>.fail) (fun _ _ _ _=>.fail) (fun _ _ _ _=>.fail) (fun _ _ _ _=>.fail) (fun _ _ _ _=>.fail) (fun _ _ _ _=>.fail) (fun _ args _ H=>rm (xw args H)) (fun ats args P H=>rm (lq P ats args H)) (fun _ _ _ _=>.fail) (fun _ _ _ _=>.fail) (fun _ _ _ _=>.fail) (fun _ _ _ _=>.fail) b
def kW(c:Call)(P:Program)(cf:cz)(s:St):R3:=
 @Option.rec Builtin (fun _=>R3)
  (rm (aj (eY c.callee P s) fun q=>cf q.1 (app q.2.1 (app (mp (ev s) c.args.toList) q.2.2)) s.H))
  (fun b=>pQ b c.argTypes.toList (mp (ev s) c.args.toList) P s.H) (isBuiltin c.callee)
def m_(o:Op):Program→cz→St→R3:=
 @Op.rec (fun _=>Program→cz→St→R3)
  (fun x _ _ s=>.rT (ev s x)) (fun x _ _ s=>.rT (ev s x)) (fun c a b _ _ s=>rp (BB (ev s c) (ev s a) (ev s b))) (fun e P _ s=>rm (sD P e s.H)) (fun e x _ _ s=>rm (Fx e (ev s x) s.H)) (fun t ps P _ s=>rp (sw P t (Fy s ps))) (fun t n ps P _ s=>rm (jo P t n (Fy s ps) s.H)) (fun t m k v P _ s=>rm (jg P t (ev s m) (ev s k) (ev s v) s.H)) (fun t x P _ s=>rm (kz P t (ev s x) s.H)) (fun t x v P _ s=>rm (nX P t (ev s x) (ev s v) s.H)) (fun _ _ _ _=>.fail) (fun _ _ _ _=>.fail) (fun x _ _ s=>rp (Fw (ev s x))) (fun op t x y _ P _ s=>rp (eF P op t x y (ev s x) (ev s y))) (fun op _ x _ _ s=>rp (bV (Op.unary op (ev s x)))) (fun a b x P _ s=>rpm (vo P a b (ev s x)) (rm (kC P a b (ev s x) s.H))) (fun _ _ _ _ _=>.fail) (fun t x P _ s=>rp (Ko P t (ev s x))) (fun f fi ca _ _ s=>rp (some (.func f ⟨mp (ev s) fi.toList⟩ ⟨mp (ev s) ca.toList⟩))) (fun t r P _ s=>rm (kD P t (Aw s r) s.H)) (fun _ _ _ _ _=>.fail) (fun t l c P _ s=>rm (g_ P t (ev s l) (ev s c) s.H)) (fun t x lo hi mx P _ s=>rp (pF P t (ev s x) (Aw s lo) (Aw s hi) (Aw s mx))) (fun t x f P _ s=>rp (iR P t (ev s x) f)) (fun t x f P _ s=>rp (su P t (ev s x) f)) (fun t x i P _ s=>rp (iQ P t (ev s x) (ev s i))) (fun t x i P _ s=>rp (si P t (ev s x) (ev s i))) (fun t x k ok P _ s=>rm (lX P t (ev s x) (ev s k) ok s.H)) (fun t m k v P _ s=>rm (jg P t (ev s m) (ev s k) (ev s v) s.H)) (fun _ _ _ _ _ _=>.fail) (fun _ _ _ _ _ _ _=>.fail) (fun t x P _ s=>rm (yL P t (ev s x) s.H)) (fun x b _ _ s=>rm (Ep (ev s x) b s.H)) (fun _ _ _ _=>.fail) (fun _ _ _ _ _ _ _=>.fail) (fun t i _ _ s=>rp (l9 (ev s t) i)) (fun c P cf s=>kW c P cf s) (fun _ _ _ _=>.fail) (fun _ _ _ _=>.fail) (fun _ _ _ _=>.fail) (fun _ _ _ _ _=>.fail) (fun _ _ _ _ _ _=>.fail) (fun _ _ _ _ _=>.fail) o
def iI(o:Op):Option Call:=@Op.rec (fun _=>Option Call) (fun _=>none) (fun _=>none) (fun _ _ _=>none) (fun _=>none) (fun _ _=>none) (fun _ _=>none) (fun _ _ _=>none) (fun _ _ _ _=>none) (fun _ _=>none) (fun _ _ _=>none) (fun _=>none) (fun _=>none) (fun _=>none) (fun _ _ _ _ _=>none) (fun _ _ _=>none) (fun _ _ _=>none) (fun _ _=>none) (fun _ _=>none) (fun _ _ _=>none) (fun _ _=>none) (fun _ _=>none) (fun _ _ _=>none) (fun _ _ _ _ _=>none) (fun _ _ _=>none) (fun _ _ _=>none) (fun _ _ _=>none) (fun _ _ _=>none) (fun _ _ _ _=>none) (fun _ _ _ _=>none) (fun _ _ _=>none) (fun _ _ _ _=>none) (fun _ _=>none) (fun _ _=>none) (fun _=>none) (fun _ _ _ _=>none) (fun _ _=>none) (fun _=>none) (fun _=>none) (fun c=>some c) (fun _=>none) (fun _ _=>none) (fun _ _ _=>none) (fun _ _=>none) o
def qE(c:Call)(P:Program)(s:St):Option Deferred:=
 aj (@Callee.rec (fun _=>Option Operand) (fun f=>some f) (fun _ _=>none) (fun _=>none) c.callee) fun f=>
  aj (Q5 (ev s f)) fun q=>aj (VL q.1) fun g=>some ⟨.fn (.func g) ⟨q.2.2⟩,⟨app q.2.1 (mp (ev s) c.args.toList)⟩⟩
def vQ(o:Oper)(s:St)(r:R3):Option St:=
 @R3.rec (fun _=>Option St) none (fun v=>some (bI s o.dst v s.H)) (fun v H=>some (bI s o.dst v H)) r
def oW(P:Program)(cf:cz)(o:Oper)(s:St):Option St:=
 @Option.rec Call (fun _=>Option St) (vQ o s (m_ o.op P cf s))
  (fun c=>aj (qE c P s) fun d=>some (bI ⟨s.nl,s.nt,s.reg,s.tm,d::s.df,s.H⟩ o.dst undef s.H)) (iI o.op)
def dK(P:Program)(cf:cz)(ops:Array Oper)(o:Oper)(s:St):Option St:=
 aj (iw ops s o.guard) fun b=>av b (oW P cf o s) (some (bI s o.dst undef s.H))
def dS(P:Program)(cf:cz)(ops:Array Oper)(l:List Oper):St→Option St:=
 @List.rec Oper (fun _=>St→Option St) some (fun o _ ih s=>aj (dK P cf ops o s) ih) l
def fC(a b:Nat):Nat:=av (Nat.ble a b) a b
def aU(s:St):St:=⟨s.nl,s.nt,s.reg,s.tm,s.df,⟨s.H.j6,s.H.next,s.H.next⟩⟩
structure Cl where
 k:Nat
 r:Nat
 off:Nat
 n:Nat
 a:ae
 b:ae
def hh0:ae:=⟨.nil,0,0⟩
def cl(k:Nat):Cl:=⟨k,0,0,0,hh0,hh0⟩
def qF(o:Op):Option (Operand×Operand):=@Op.rec (fun _=>Option (Operand×Operand)) (fun _=>none) (fun _=>none) (fun _ _ _=>none) (fun _=>none) (fun _ _=>none) (fun _ _=>none) (fun _ _ _=>none) (fun _ _ _ _=>none) (fun _ _=>none) (fun _ a v=>some (a,v)) (fun _=>none) (fun _=>none) (fun _=>none) (fun _ _ _ _ _=>none) (fun _ _ _=>none) (fun _ _ _=>none) (fun _ _=>none) (fun _ _=>none) (fun _ _ _=>none) (fun _ _=>none) (fun _ _=>none) (fun _ _ _=>none) (fun _ _ _ _ _=>none) (fun _ _ _=>none) (fun _ _ _=>none) (fun _ _ _=>none) (fun _ _ _=>none) (fun _ _ _ _=>none) (fun _ _ _ _=>none) (fun _ _ _=>none) (fun _ _ _ _=>none) (fun _ _=>none) (fun _ _=>none) (fun _=>none) (fun _ _ _ _=>none) (fun _ _=>none) (fun _=>none) (fun _=>none) (fun _=>none) (fun _=>none) (fun _ _=>none) (fun _ _ _=>none) (fun _ _=>none) o
def yM(o:Op):Option (TypeId×Operand):=@Op.rec (fun _=>Option (TypeId×Operand)) (fun _=>none) (fun _=>none) (fun _ _ _=>none) (fun _=>none) (fun _ _=>none) (fun _ _=>none) (fun _ _ _=>none) (fun _ _ _ _=>none) (fun t a=>some (t,a)) (fun _ _ _=>none) (fun _=>none) (fun _=>none) (fun _=>none) (fun _ _ _ _ _=>none) (fun _ _ _=>none) (fun _ _ _=>none) (fun _ _=>none) (fun _ _=>none) (fun _ _ _=>none) (fun _ _=>none) (fun _ _=>none) (fun _ _ _=>none) (fun _ _ _ _ _=>none) (fun _ _ _=>none) (fun _ _ _=>none) (fun _ _ _=>none) (fun _ _ _=>none) (fun _ _ _ _=>none) (fun _ _ _ _=>none) (fun _ _ _=>none) (fun _ _ _ _=>none) (fun _ _=>none) (fun _ _=>none) (fun _=>none) (fun _ _ _ _=>none) (fun _ _=>none) (fun _=>none) (fun _=>none) (fun _=>none) (fun _=>none) (fun _ _=>none) (fun _ _ _=>none) (fun _ _=>none) o
def o8(o:Op):Bool:=@Op.rec (fun _=>Bool) (fun _=>false) (fun _=>false) (fun _ _ _=>false) (fun _=>true) (fun _ _=>true) (fun _ _=>false) (fun _ _ _=>true) (fun _ _ _ _=>false) (fun _ _=>false) (fun _ _ _=>false) (fun _=>false) (fun _=>false) (fun _=>false) (fun _ _ _ _ _=>false) (fun _ _ _=>false) (fun _ _ _=>false) (fun _ _=>false) (fun _ _=>false) (fun _ _ _=>false) (fun _ _=>true) (fun _ _=>false) (fun _ _ _=>true) (fun _ _ _ _ _=>false) (fun _ _ _=>false) (fun _ _ _=>false) (fun _ _ _=>false) (fun _ _ _=>false) (fun _ _ _ _=>false) (fun _ _ _ _=>false) (fun _ _ _=>false) (fun _ _ _ _=>false) (fun _ _=>false) (fun _ _=>false) (fun _=>false) (fun _ _ _ _=>false) (fun _ _=>false) (fun _=>false) (fun _=>false) (fun _=>false) (fun _=>false) (fun _ _=>false) (fun _ _ _=>false) (fun _ _=>false) o
def o9(P:Program)(o:Op)(s:St):Cl:=
 (aj (yM o) fun p=>aj (gT (ev s p.2)) fun a=>aj (QL P p.1) fun l=>some (Cl.mk 4 a.block a.off (l.getD 1) hh0 hh0)).getD (cl 1)
def iY(P:Program)(o:Op)(s:St)(H:ae):Cl:=
 @Option.rec (Operand×Operand) (fun _=>Cl) (av (Nat.ble s.H.next H.low) (av (o8 o) (cl 5) (o9 P o s)) ⟨2,0,0,0,s.H,H⟩)
  (fun p=>@Option.rec Addr (fun _=>Cl) ⟨2,0,0,0,s.H,H⟩ (fun a=>⟨3,a.block,a.off,len (ax (ev s p.2)),hh0,hh0⟩) (gT (ev s p.1))) (qF o)
def zF(P:Program)(o:Oper)(s:St)(r:R3):Option (St×Cl):=
 @R3.rec (fun _=>Option (St×Cl)) none (fun v=>some (bI s o.dst v s.H,cl 0))
  (fun v H=>some (bI s o.dst v ⟨H.j6,H.next,fC s.H.low H.low⟩,iY P o.op s H)) r
def cZ(P:Program)(cf:cz)(ops:Array Oper)(o:Oper)(s:St):Option (St×Cl):=
 aj (iw ops s o.guard) fun b=>av b (zF P o s (m_ o.op P cf (aU s))) (some (bI s o.dst undef s.H,cl 0))
def bH(P:Program)(cf:cz)(ops:Array Oper)(l:List Oper):St→List Cl→Option (St×List Cl):=
 @List.rec Oper (fun _=>St→List Cl→Option (St×List Cl)) (fun s acc=>some (s,acc)) (fun o _ ih s acc=>aj (cZ P cf ops o s) fun q=>ih q.1 (q.2::acc)) l
def nY(acc:List Nat)(n:Nat)(l:List Edge):Nat:=
 @List.rec Edge (fun _=>Nat) 0 (fun e _ r=>av (Region.binds .any e) (Nat.lor (Nat.lor (Nat.shiftLeft 1 e.on) ((nth acc (Nat.sub (Nat.sub n 1) e.on)).getD 0)) r) r) l
def jH(l:List Oper):List Nat→Nat→List Nat:=
 @List.rec Oper (fun _=>List Nat→Nat→List Nat) (fun acc _=>acc) (fun o _ ih acc n=>ih (nY acc n o.after.toList::acc) (Nat.succ n)) l
def lu(l:List Oper):Nat→Bool:=
 @List.rec Oper (fun _=>Nat→Bool) (fun _=>true) (fun o _ ih n=>av (all' (fun e=>!(Region.binds .any e)||Nat.ble (Nat.succ e.on) n) o.after.toList) (ih (Nat.succ n)) false) l
def bW{α:Type}(f:α→α→Bool→Bool)(x:α)(m:Nat)(l:List α):Bool:=@List.rec α (fun _=>Bool) true (fun y r ih=>av (f x y (aV m (len r))) ih false) l
def pairs{α:Type}(f:α→α→Bool→Bool)(ms:List Nat):List α→Bool:=
 @List.rec Nat (fun _=>List α→Bool) (fun _=>true) (fun m _ ih xs=>@List.rec α (fun _=>Bool) true
  (fun x r _=>av (bW f x m r) (ih r) false) xs) ms
def gz(ops:Array Oper):Bool:=lu ops.toList 0&&pairs (fun y x b=>b||x.apart ops y) (jH ops.toList [] 0) (ops.toList.reverse)
def mK(x y:Cl):Bool:=!(Nat.beq x.r y.r)||Nat.ble (Nat.add x.off x.n) y.off||Nat.ble (Nat.add y.off y.n) x.off
def fQ(w l:Cl):Bool:=sameAt w.a w.b l.r l.off l.n
def aS(y x:Cl)(b:Bool):Bool:=
 av (Nat.beq y.k 0||Nat.beq x.k 0||Nat.beq y.k 5||Nat.beq x.k 5) true
  (av (Nat.beq x.k 3) (av (Nat.beq y.k 3) (b||mK x y) (Nat.beq y.k 4&&(b||mK x y)))
   (av (Nat.beq y.k 3) (b||(Nat.beq x.k 4&&mK x y))
    (av (Nat.beq x.k 4) (av (Nat.beq y.k 2) (b||fQ y x) true)
     (av (Nat.beq y.k 4) (av (Nat.beq x.k 2) (b||fQ x y) true)
      (av (Nat.beq x.k 1&&Nat.beq y.k 1) true b)))))
def noTwo(l:List Cl):Bool:=all' (fun x=>!(Nat.beq x.k 2||Nat.beq x.k 3)) l
def bO(ops:Array Oper)(cls:List Cl):Bool:=av (noTwo cls) true (pairs aS (jH ops.toList [] 0) cls)
def ZB(o:Op):Bool:=@Op.rec (fun _=>Bool) (fun _=>true) (fun _=>true) (fun _ _ _=>true) (fun _=>true) (fun _ _=>true) (fun _ _=>true) (fun _ _ _=>true) (fun _ _ _ _=>true) (fun _ _=>true) (fun _ _ _=>true) (fun _=>true) (fun _=>true) (fun _=>true) (fun _ _ _ _ _=>true) (fun _ _ _=>true) (fun _ _ _=>true) (fun _ _=>true) (fun _ _=>true) (fun _ _ _=>true) (fun _ _=>true) (fun _ _=>true) (fun _ _ _=>true) (fun _ _ _ _ _=>true) (fun _ _ _=>true) (fun _ _ _=>true) (fun _ _ _=>true) (fun _ _ _=>true) (fun _ _ _ _=>true) (fun _ _ _ _=>true) (fun _ _ _=>true) (fun _ _ _ _=>true) (fun _ _=>true) (fun _ _=>true) (fun _=>true) (fun _ _ _ _=>true) (fun _ _=>true) (fun _=>true) (fun _=>true) (fun _=>true) (fun _=>true) (fun _ _=>true) (fun _ _ _=>true) (fun _ _=>false) o
def bX(ops:Array Oper):Bool:=all' (fun o=>aD (iI o.op)&&ZB o.op) ops.toList
inductive Out where
 |fail
 |norm(s:St)
 |exit(id:Nat)(s:St)
 |goto(l:Nat)(s:St)
 |ret(s:St)
def andThen(o:Out)(k:St→Out):Out:=
 @Out.rec (fun _=>(St→Out)→Out) (fun _=>.fail) (fun s k=>k s) (fun id s _=>.exit id s) (fun l s _=>.goto l s) (fun s _=>.ret s) o k
def zG(c:Option Bool)(x y:Out):Out:=@Option.rec Bool (fun _=>Out) .fail (fun b=>av b x y) c
def lz(id:Nat)(o:Out):Out:=
 @Out.rec (fun _=>Nat→Out) (fun _=>.fail) (fun s _=>.norm s) (fun i s id=>av (Nat.beq i id) (.norm s) (.exit i s)) (fun l s _=>.goto l s) (fun s _=>.ret s) o id
def mh(n:Nat)(f:St→Out):St→Out:=@Nat.rec (fun _=>St→Out) (fun _=>.fail) (fun _ ih s=>andThen (f s) ih) n
def aa7(o:Out)(k:Nat→St→Out):Out:=
 @Out.rec (fun _=>(Nat→St→Out)→Out) (fun _=>.fail) (fun s _=>.norm s) (fun i s _=>.exit i s) (fun l s k=>k l s) (fun s _=>.ret s) o k
def eZ(cx:Code→St→Out)(n:Nat)(body:Code):Out→Out:=
 @Nat.rec (fun _=>Out→Out) (fun _=>.fail) (fun _ ih o=>aa7 o fun l s=>@Option.rec Code (fun _=>Out) (.goto l s) (fun rest=>ih (cx rest s)) (findLabel body l)) n
def zH(o:Option St):Out:=@Option.rec St (fun _=>Out) .fail .norm o
def clear(s:St):St:=⟨s.nl,s.nt,[],s.tm,s.df,s.H⟩
def jU(ops:Array Oper)(o:Option (St×List Cl)):Out:=
 @Option.rec (St×List Cl) (fun _=>Out) .fail (fun q=>av (bO ops q.2) (.norm q.1) .fail) o
def region(P:Program)(cf:cz)(ops:Array Oper)(draw:Bool)(s:St):Out:=
 av draw (av (bX ops&&gz ops) (jU ops (bH P cf ops ops.toList (clear s) [])) .fail) (zH (dS P cf ops ops.toList (clear s)))
def exec(P:Program)(cf:cz)(cx:Code→St→Out)(n:Nat)(c:Code):St→Out:=
 @Code.rec (fun _=>St→Out)
  (fun s=>.norm s)
  (fun _ ops draw s=>region P cf ops draw s)
  (fun _ _ ia ib s=>andThen (ia s) ib)
  (fun c _ _ ix iy s=>zG (bK (ev s c)) (ix s) (iy s))
  (fun id _ ih s=>lz id (ih s))
  (fun _ ih s=>mh n ih s)
  (fun _ _ _ _ _ _=>fun _=>.fail)
  (fun id s=>.exit id s)
  (fun c ih s=>eZ cx n c (ih s))
  (fun _ s=>.norm s)
  (fun l s=>.goto l s)
  (fun s=>.ret s)
  (fun _=>fun _=>.fail) c
def uB(P:Program)(s:St)(r:ResultVar):Option Value:=
 @ResultVar.rec (fun _=>Option Value) (fun t=>some (aY s t)) (fun a t=>aj (kz P t (aY s a) s.H) fun p=>some p.1) r
def dn(P:Program)(s:St)(l:List ResultVar):Option (List Value):=
 @List.rec ResultVar (fun _=>Option (List Value)) (some []) (fun r _ q=>aj (uB P s r) fun v=>aj q fun vs=>some (v::vs)) l
def je(vs:List Value):Value:=av (Nat.beq (len vs) 1) ((nth vs 0).getD undef) (.tuple ⟨vs⟩)
def Fz(o:Out):Option St:=@Out.rec (fun _=>Option St) none (fun s=>some s) (fun _ _=>none) (fun _ _=>none) (fun s=>some s) o
def zI(P:Program)(fn:Func)(s:St):Option (Value×ae):=
 gd (Nat.beq (len s.df) 0) (aj (dn P s fn.results.toList) fun vs=>some (je vs,s.H))
def Rj(m t:Nat):Nat:=Nat.lor m (Nat.shiftLeft 1 t)
def ZC(x:Operand):Option Nat:=@Operand.rec (fun _=>Option Nat) some (fun _=>none) (fun _=>none) (fun _=>none) x
def ZD(l:List Operand)(p:Nat×Nat):Nat:=
 @List.rec Operand (fun _=>Nat) p.1 (fun x _ r=>@Option.rec Nat (fun _=>Nat) r (fun t=>av (aV p.2 t) r (Rj r t)) (ZC x)) l
def Rk(l:List Oper):Nat×Nat→Nat×Nat:=
 @List.rec Oper (fun _=>Nat×Nat→Nat×Nat) (fun p=>p)
  (fun o _ ih p=>ih (ZD o.op.operands.toList p,@Option.rec Nat (fun _=>Nat) p.2 (Rj p.2) o.dst)) l
def OG(c:Code):Nat:=@Code.rec (fun _=>Nat) (0)
 (fun _ ops _=>(Rk ops.toList (0,0)).1)
 (fun _ _ a b=>Nat.lor a b)
 (fun _ _ _ a b=>Nat.lor a b)
 (fun _ _ a=>a)
 (fun _ a=>a)
 (fun _ _ _ _ _ _=>0)
 (fun _=>0)
 (fun _ a=>a)
 (fun _=>0)
 (fun _=>0)
 (0)
 (fun _=>0) c
def Rl(l:List ResultVar):Nat:=@List.rec ResultVar (fun _=>Nat) 0 (fun r _ n=>Rj n (@ResultVar.rec (fun _=>Nat) (fun t=>t) (fun a _=>a) r)) l
def bP(P:Program)(g:FuncId):Nat:=@Option.rec Func (fun _=>Nat) 0 (fun fn=>Nat.lor (Rl fn.results.toList) (@Option.rec Code (fun _=>Nat) 0 OG fn.body)) (nth P.funcs.toList g)
structure Lv where
 ca:cz
 cx:Code→St→Out
def OH(P:Program)(L:Lv)(n:Nat)(g x:Nat)(fn:Func)(args:List Value)(H:ae):Option (Value×ae):=
 @Option.rec Code (fun _=>Option (Value×ae)) (OE P x fn.resultTypes.toList args H)
  (fun c=>gd (Nat.ble (len args) fn.ntmps) (aj (Fz (exec P L.ca L.cx n c ⟨bP P g,fn.ntmps,[],Tr.jG top args 0 .nil,[],H⟩)) fun s=>zI P fn s)) fn.body
structure Xt where
 c:FuncId→Nat
 o:FuncId→List Value→ae→Option (Value×ae)
instance:CoeFun Xt (fun _=>FuncId→Nat):=⟨Xt.c⟩
def orO(o d:Option (Value×ae)):Option (Value×ae):=@Option.rec (Value×ae) (fun _=>Option (Value×ae)) d some o
def qG(P:Program)(X:Xt)(L:Lv)(n:Nat)(g:FuncId)(args:List Value)(H:ae):Option (Value×ae):=
 orO (X.o g args H) (aj (nth P.funcs.toList g) fun fn=>OH P L n g (X g) fn args H)
def lv(P:Program)(X:Xt)(n:Nat):Lv:=
 @Nat.rec (fun _=>Lv) ⟨fun _ _ _=>none,fun _ _=>.fail⟩ (fun m L=>⟨qG P X L m,exec P L.ca L.cx m⟩) n
def bT(P:Program)(X:Xt)(n:Nat):cz:=(lv P X n).ca
structure Loc where
 c:Nat
 lo:Nat
 base:Nat
 tot:Nat
 n:Nat
abbrev Mp:=Nat→Option Loc
def Mp.le(m m':Mp):Prop:=∀r l,m r=some l→m' r=some l
mutual
inductive VR(m:Mp):Value→Value→Prop where
 |sc (v:Value) (h:eU v=true):VR m v v
 |top (v:Value):VR m top v
 |ptr (r off:Nat) (l:Loc) (h:m r=some l) (hl:l.lo≤off):VR m (.pointer (some ⟨r,off,none⟩)) (.pointer (some ⟨l.c,l.base +(off -l.lo),none⟩))
 |slice (r off n cp:Nat) (l:Loc) (h:m r=some l) (hl:l.lo≤off) (hk:aX cp=true) (hn:n≤cp):
  VR m (.slice (some ⟨r,off,none⟩) n cp) (.slice (some ⟨l.c,l.base +(off -l.lo),none⟩) n cp)
 |jr (r off n es cc:Nat) (l:Loc) (h:m r=some l) (hl:l.lo≤off) (he:0<es) (ht:l.base +(off -l.lo) +cc*es=l.tot) (hc:n≤cc) (hN:l.n≤off +cc*es):
  VR m (.slice (some ⟨r,off,none⟩) n (aK es)) (.slice (some ⟨l.c,l.base +(off -l.lo),none⟩) n cc)
 |lC (a a':Addr):VR m (.slice (some a) 0 0) (.slice (some a') 0 0)
 |jC (r off es:Nat) (a':Addr) (l:Loc) (h:m r=some l) (hl:l.lo≤off) (he:0<es) (hN:l.n≤off):VR m (.slice (some ⟨r,off,none⟩) 0 (aK es)) (.slice (some a') 0 0)
 |map (r:Nat) (l:Loc) (h:m r=some l):VR m (.map (some r)) (.map (some l.c))
 |func (f:Fn) (x y x' y':List Value) (hx:dF m x x') (hy:dF m y y'):VR m (.func f ⟨x⟩ ⟨y⟩) (.func f ⟨x'⟩ ⟨y'⟩)
 |iface (t:TypeId) (v v':Value) (h:VR m v v'):VR m (.iface t v) (.iface t v')
 |agg (x x':List Value) (h:dF m x x'):VR m (.agg ⟨x⟩) (.agg ⟨x'⟩)
 |tuple (x x':List Value) (h:dF m x x'):VR m (.tuple ⟨x⟩) (.tuple ⟨x'⟩)
inductive dF(m:Mp):List Value→List Value→Prop where
 |nil:dF m [] []
 |cons (v v':Value) (x x':List Value) (h:VR m v v') (hx:dF m x x'):dF m (v::x) (v'::x')
end
mutual
theorem VR.mono{m m':Mp}(hm:Mp.le m m'):∀{v v':Value},VR m v v'→VR m' v v'
 |_,_,.sc v h=>.sc v h
 |_,_,.top v=>.top v
 |_,_,.ptr r off l h hl=>.ptr r off l (hm r l h) hl
 |_,_,.slice r off n cp l h hl hk hn=>.slice r off n cp l (hm r l h) hl hk hn
 |_,_,.jr r off n es cc l h hl he ht hc hN=>.jr r off n es cc l (hm r l h) hl he ht hc hN
 |_,_,.lC a a'=>.lC a a'
 |_,_,.jC r off es a' l h hl he hN=>.jC r off es a' l (hm r l h) hl he hN
 |_,_,.map r l h=>.map r l (hm r l h)
 |_,_,.func f x y x' y' hx hy=>.func f x y x' y' (dF.mono hm hx) (dF.mono hm hy)
 |_,_,.iface t v v' h=>.iface t v v' (VR.mono hm h)
 |_,_,.agg x x' h=>.agg x x' (dF.mono hm h)
 |_,_,.tuple x x' h=>.tuple x x' (dF.mono hm h)
theorem dF.mono{m m':Mp}(hm:Mp.le m m'):∀{v v':List Value},dF m v v'→dF m' v v'
 |_,_,.nil=>.nil
 |_,_,.cons v v' x x' h hx=>.cons v v' x x' (VR.mono hm h) (dF.mono hm hx)
end
theorem dF.length{m:Mp}{x x':List Value}(h:dF m x x'):x.length=x'.length:=by
 induction x generalizing x' with
 |nil=>cases h;rfl
 |cons v x ih=>cases h with|cons _ v' _ x' h hx=>simp[ih hx]
theorem dF.get{m:Mp}{x x':List Value}(h:dF m x x')(k:Nat){v:Value}(hv:x[k]?=some v):∃v',x'[k]?=some v'∧VR m v v':=by
 induction x generalizing x' k with
 |nil=>simp at hv
 |cons w x ih=>
  cases h with
  |cons _ w' _ x' h hx=>
   cases k with
   |zero=>simp at hv;subst hv;exact⟨w',by simp,h⟩
   |succ k=>simpa using ih hx k (by simpa using hv)
theorem dF.append{m:Mp}{x x' y y':List Value}(h:dF m x x')(hy:dF m y y'):dF m (x++y) (x'++y'):=by
 induction x generalizing x' with
 |nil=>cases h;exact hy
 |cons w x ih=>cases h with|cons _ w' _ x' h hx=>exact .cons _ _ _ _ h (ih hx)
theorem dF.take{m:Mp}{x x':List Value}(h:dF m x x')(k:Nat):dF m (x.take k) (x'.take k):=by
 induction x generalizing x' k with
 |nil=>cases h;simp;exact .nil
 |cons w x ih=>cases h with
  |cons _ w' _ x' h hx=>cases k with
   |zero=>simp;exact .nil
   |succ k=>simp;exact .cons _ _ _ _ h (ih hx k)
theorem dF.drop{m:Mp}{x x':List Value}(h:dF m x x')(k:Nat):dF m (x.drop k) (x'.drop k):=by
 induction x generalizing x' k with
 |nil=>cases h;simp;exact .nil
 |cons w x ih=>cases h with
  |cons _ w' _ x' h hx=>cases k with
   |zero=>simp;exact .cons _ _ _ _ h hx
   |succ k=>simp;exact ih hx k
theorem dF.set{m:Mp}{x x':List Value}(h:dF m x x')(k:Nat){v v':Value}(hv:VR m v v'):dF m (x.set k v) (x'.set k v'):=by
 induction x generalizing x' k with
 |nil=>cases h;simp;exact .nil
 |cons w x ih=>cases h with
  |cons _ w' _ x' h hx=>cases k with
   |zero=>simp;exact .cons _ _ _ _ hv hx
   |succ k=>simp;exact .cons _ _ _ _ h (ih hx k)
theorem dF.eU{m:Mp}:∀{x:List Value},x.all eU=true→dF m x x
 |[],_=>.nil
 |v::x,h=>by simp at h;exact .cons _ _ _ _ (.sc v h.1) (dF.eU (by simpa using h.2))
theorem fI{v:Value}{a:Addr}(h:gT v=some a):v=.pointer (some a):=by
 cases v<;>simp[gT]at h<;>simp[h]
theorem gB{v:Value}{b:Bool}(h:bK v=some b):v=.bool b:=by
 cases v<;>simp[bK]at h<;>simp[h]
theorem gW{v:Value}{p:IntKind×Int}(h:jk v=some p):v=.int p.1 p.2:=by
 cases v<;>simp[jk]at h<;>simp[←h]
theorem FB{n:Int}{k:Nat}(h:DJ n=some k):n=k:=by
 cases n<;>simp[DJ]at h;simp[h]
theorem uC{v:Value}{n:Nat}(h:oV v=some n):∃k,v=.int k n:=by
 cases v<;>simp[oV]at h
 case int k m=>exact⟨k,by rw[FB h]⟩
theorem fJ{v:Value}{b:ByteArray}(h:jl v=some b):v=.string b:=by
 cases v<;>simp[jl]at h<;>simp[h]
theorem lD{v:Value}{p:Option Addr×Nat×Nat}(h:Av v=some p):v=.slice p.1 p.2.1 p.2.2:=by
 cases v<;>simp[Av]at h<;>simp[←h]
theorem uD{v:Value}{p:Option Nat}(h:DK v=some p):v=.map p:=by
 cases v<;>simp[DK]at h<;>simp[h]
theorem FC{v:Value}{p:Fn×List Value×List Value}(h:Q5 v=some p):v=.func p.1 ⟨p.2.1⟩ ⟨p.2.2⟩:=by
 cases v<;>simp[Q5]at h<;>simp[←h]
theorem jD{v:Value}{p:List Value}(h:kR v=some p):v=.agg ⟨p⟩:=by
 cases v<;>simp[kR]at h<;>simp[←h]
theorem V6{v:Value}{p:List Value}(h:Q6 v=some p):v=.tuple ⟨p⟩:=by
 cases v<;>simp[Q6]at h<;>simp[←h]
theorem OI{v:Value}{p:TypeId×Value}(h:vL v=some p):v=.iface p.1 p.2:=by
 cases v<;>simp[vL]at h<;>simp[←h]
theorem FD{f:Fn}{g:FuncId}(h:VL f=some g):f=.func g:=by
 cases f<;>simp[VL]at h<;>simp[h]
section inv
variable{m:Mp}
theorem VR.of_bool{b:Bool}{v:Value}(h:VR m (.bool b) v):v=.bool b:=by cases h;rfl
theorem VR.of_int{k:IntKind}{n:Int}{v:Value}(h:VR m (.int k n) v):v=.int k n:=by cases h;rfl
theorem VR.jV{b:ByteArray}{v:Value}(h:VR m (.string b) v):v=.string b:=by cases h;rfl
theorem VR.lF{x:List Value}{v:Value}(h:VR m (.agg ⟨x⟩) v):∃x',v=.agg ⟨x'⟩∧dF m x x':=by
 cases h with
 |sc _ h=>simp[Ae.eU]at h
 |agg _ x' h=>exact⟨x',rfl,h⟩
theorem VR.FE{x:List Value}{v:Value}(h:VR m (.tuple ⟨x⟩) v):∃x',v=.tuple ⟨x'⟩∧dF m x x':=by
 cases h with
 |sc _ h=>simp[Ae.eU]at h
 |tuple _ x' h=>exact⟨x',rfl,h⟩
theorem VR.Ie{t:TypeId}{x v:Value}(h:VR m (.iface t x) v):∃x',v=.iface t x'∧VR m x x':=by
 cases h with
 |sc _ h=>simp[Ae.eU]at h
 |iface _ _ x' h=>exact⟨x',rfl,h⟩
theorem VR.Rm{f:Fn}{x y:List Value}{v:Value}(h:VR m (.func f ⟨x⟩ ⟨y⟩) v):∃x' y',v=.func f ⟨x'⟩ ⟨y'⟩∧dF m x x'∧dF m y y':=by
 cases h with
 |sc _ h=>simp[Ae.eU]at h
 |func _ _ _ x' y' hx hy=>exact⟨x',y',rfl,hx,hy⟩
theorem VR.jf{a:Addr}{v:Value}(h:VR m (.pointer (some a)) v):∃l,m a.block=some l∧l.lo≤a.off∧a.spot=none∧v=.pointer (some ⟨l.c,l.base +(a.off -l.lo),none⟩):=by
 cases h with
 |sc _ h=>simp[Ae.eU,aD]at h
 |ptr r off l h hl=>exact⟨l,h,hl,rfl,rfl⟩
theorem VR.of_map{r:Nat}{v:Value}(h:VR m (.map (some r)) v):∃l,m r=some l∧v=.map (some l.c):=by
 cases h with
 |sc _ h=>simp[Ae.eU,aD]at h
 |map r l h=>exact⟨l,h,rfl⟩
theorem VR.lY{v v':Value}(h:VR m v v')(hs:eU v=true):v'=v:=by
 cases h<;>first|rfl|(simp[Ae.eU,aD,Ae.top]at hs)
theorem dF.lY{x x':List Value}(h:dF m x x')(hs:x.all Ae.eU=true):x'=x:=by
 induction x generalizing x' with
 |nil=>cases h;rfl
 |cons w x ih=>cases h with
  |cons _ w' _ x' h hx=>simp at hs;rw[VR.lY h hs.1,ih hx (by simpa using hs.2)]
theorem VR.aR{v v':Value}(h:VR m v v')(hs:aR v=true):v'.cells=#[v']∧(∀x,v'≠.agg x)∧(∀x,v'≠.tuple x):=by
 cases h<;>first
  |(rename_i hv;cases v<;>simp[Ae.aR,Value.cells]at hs⊢)
  |(simp[Value.cells];done)
  |(simp[Ae.aR,Ae.top]at hs;done)
end inv
theorem ZE{d:TypeDesc}{e:TypeId}(h:dSl d=some e):d=.slice e:=by cases d<;>simp[dSl]at h;rw[h]
theorem Ba{d:TypeDesc}{e:TypeId}(h:xm d=some e):d=.pointer e:=by cases d<;>simp[xm]at h;rw[h]
theorem FF{d:TypeDesc}{e:Nat×TypeId}(h:HZ d=some e):d=.array e.1 e.2:=by cases d<;>simp[HZ]at h;rw[←h]
theorem V7{d:TypeDesc}{e:TypeId×TypeId}(h:Zz d=some e):d=.map e.1 e.2:=by cases d<;>simp[Zz]at h;rw[←h]
theorem Kr{d:TypeDesc}{e:List Field}(h:Fu d=some e):d=.struct ⟨e⟩:=by cases d<;>simp[Fu]at h;rw[←h]
theorem xy{d:TypeDesc}(h:rQ d=true):d=.string:=by cases d<;>simp[rQ]at h;rfl
theorem MV{d:TypeDesc}{k:IntKind}(h:DL d=some k):d=.int k:=by cases d<;>simp[DL]at h;rw[h]
theorem OJ{d:TypeDesc}{k:FloatKind}(h:yF d=some k):d=.float k:=by cases d<;>simp[yF]at h;rw[h]
theorem V8{k:IntKind}(h:Bz k=true):k=.u8:=by cases k<;>simp[Bz]at h;rfl
theorem pR{k k':IntKind}(h:Nat.beq (ik k) (ik k')=true):k=k':=by cases k<;>cases k'<;>first|rfl|cases h
theorem iJ{P:Program}{t:TypeId}{s:Nat}(h:kr P t=some s):∃i,P.info? t=some i∧i.size=s:=by
 (replace h:=ai h;obtain⟨i,hi,h⟩:=h);cases h;exact⟨i,hi,rfl⟩
theorem qH{P:Program}{t:TypeId}{q:TypeId×Nat}(h:H_ P t=some q):P.underlying t=some (.slice q.1)∧(∃i,P.info? q.1=some i∧i.size=q.2)∧1≤q.2:=by
 (replace h:=ai h;obtain⟨d,hd,h⟩:=h)
 (replace h:=ai h;obtain⟨e,he,h⟩:=h)
 (replace h:=ai h;obtain⟨s,hs,h⟩:=h)
 (replace h:=aG h;obtain⟨h1,h⟩:=h)
 cases h
 exact⟨by rw[hd,ZE he],iJ hs,Nat.le_of_ble_eq_true h1⟩
theorem Bb{P:Program}{t:TypeId}{q:Nat×TypeId×Nat}(h:Ia P t=some q):P.underlying t=some (.array q.1 q.2.1)∧(∃i,P.info? q.2.1=some i∧i.size=q.2.2)∧1≤q.2.2:=by
 (replace h:=ai h;obtain⟨d,hd,h⟩:=h)
 (replace h:=ai h;obtain⟨e,he,h⟩:=h)
 (replace h:=ai h;obtain⟨s,hs,h⟩:=h)
 (replace h:=aG h;obtain⟨h1,h⟩:=h)
 cases h
 exact⟨by rw[hd,FF he],iJ hs,Nat.le_of_ble_eq_true h1⟩
theorem Bc{P:Program}{t:TypeId}{q:TypeId×TypeId}(h:rR P t=some q):P.underlying t=some (.map q.1 q.2):=by
 (replace h:=ai h;obtain⟨d,hd,h⟩:=h)
 rw[hd,V7 h]
theorem yN{P:Program}{t:TypeId}(h:vM P t=true):P.underlying t=some .string:=by
 unfold vM at h
 cases hd:P.underlying t with
 |none=>rw[hd]at h;cases h
 |some d=>rw[hd]at h;rw[xy h]
theorem Ig{P:Program}{t:TypeId}(h:zD P t=true):P.underlying t=some (.int .u8):=by
 unfold zD at h
 cases hd:P.underlying t with
 |none=>rw[hd]at h;cases h
 |some d=>
  rw[hd]at h
  cases hk:DL d with
  |none=>simp[hk]at h
  |some k=>simp[hk]at h;rw[MV hk,V8 h]
theorem Ks{P:Program}{t:TypeId}{l:Option Nat}(h:QL P t=some l):
 ∃d i,P.underlying t=some d∧P.info? t=some i∧((Ki d=true∧l=some i.size)∨(Ki d=false∧l=none)):=by
 (replace h:=ai h;obtain⟨d,hd,h⟩:=h)
 (replace h:=ai h;obtain⟨s,hs,h⟩:=h)
 obtain⟨i,hi,rfl⟩:=iJ hs
 refine⟨d,i,hd,hi,?_⟩
 cases ha:Ki d<;>simp[ha,av]at h<;>simp[←h]
theorem vR{P:Program}{t:TypeId}{fs:List Field}(h:AY P t=some fs):P.underlying t=some (.struct ⟨fs⟩):=by
 (replace h:=ai h;obtain⟨d,hd,h⟩:=h)
 rw[hd,Kr h]
theorem Es{P:Program}{t:TypeId}{f:Nat}{q:Nat×Option Nat}(h:Kj P t f=some q):
 ∃fs fd i,P.underlying t=some (.struct ⟨fs⟩)∧fs[f]?=some fd∧fd.offset=q.1∧QL P fd.type=some q.2∧P.info? fd.type=some i∧1≤i.size:=by
 (replace h:=ai h;obtain⟨fs,hfs,h⟩:=h)
 (replace h:=ai h;obtain⟨fd,ZF,h⟩:=h)
 (replace h:=ai h;obtain⟨l,hl,h⟩:=h)
 (replace h:=ai h;obtain⟨s,hs,h⟩:=h)
 (replace h:=aG h;obtain⟨h1,h⟩:=h)
 cases h
 obtain⟨i,hi,rfl⟩:=iJ hs
 exact⟨fs,fd,i,vR hfs,by rw[←fH];exact ZF,rfl,hl,hi,Nat.le_of_ble_eq_true h1⟩
theorem FH{z:Value}(h:yG z=true):(ax z).all eU=true:=by
 unfold yG at h
 unfold ax
 cases ha:kR z with
 |none=>rw[ha]at h;simpa using h
 |some l=>rw[ha]at h;simpa [all_eq]using h
theorem OK{m:Mp}{z:Value}(h:yG z=true):VR m z z:=by
 unfold yG at h
 cases ha:kR z with
 |none=>rw[ha]at h;exact .sc z h
 |some l=>
  rw[ha]at h
  rw[jD ha]
  exact .agg _ _ (dF.eU (by simpa [all_eq]using h))
theorem Ih{P:Program}{t:TypeId}{z:Value}(h:vg P t=some z):(∃i,P.info? t=some i∧i.zero=some z)∧yG z=true:=by
 (replace h:=ai h;obtain⟨i,hi,h⟩:=h)
 (replace h:=ai h;obtain⟨z',hz,h⟩:=h)
 (replace h:=aG h;obtain⟨h1,h⟩:=h)
 cases h
 exact⟨⟨i,hi,hz⟩,h1⟩
theorem uE(v:Value):ax v=v.cells.toList:=by
 cases v<;>simp[ax,kR,Value.cells]
theorem nL{P:Program}{t:TypeId}{zs:List Value}(h:pE P t=some zs):
 ∃i z,P.info? t=some i∧i.zero=some z∧zs=z.cells.toList∧zs.length=i.size∧zs.all eU=true:=by
 (replace h:=ai h;obtain⟨z,hz,h⟩:=h)
 (replace h:=ai h;obtain⟨s,hs,h⟩:=h)
 (replace h:=aG h;obtain⟨h1,h⟩:=h)
 cases h
 obtain⟨i,hi,rfl⟩:=iJ hs
 obtain⟨⟨i',hi',hz'⟩,hok⟩:=Ih hz
 rw[hi]at hi';cases hi'
 simp only[aM]at h1
 exact⟨i,z,hi,hz',uE z,Nat.eq_of_beq_eq_true h1,FH hok⟩
section run
variable{P:Program}{w:World}
theorem aB{t:TypeId}{d:TypeDesc}(h:P.underlying t=some d):(underlying t).run P w=.ok d w:=by simp[underlying,h]
theorem nZ{t:TypeId}{i:TypeInfo}(h:P.info? t=some i):(typeInfo t).run P w=.ok i w:=by simp[typeInfo,h]
theorem bM{t:TypeId}{i:TypeInfo}(h:P.info? t=some i):(sizeOf t).run P w=.ok i.size w:=by simp[sizeOf,nZ h]
theorem n_{t:TypeId}{i:TypeInfo}{z:Value}(h:P.info? t=some i)(hz:i.zero=some z):(zeroValue t).run P w=.ok z w:=by simp[zeroValue,nZ h,hz]
theorem lG{t:TypeId}{d:TypeDesc}(h:P.underlying t=some d):(isAgg t).run P w=.ok (Ki d) w:=by
 simp only[isAgg,Sem.run_bind,aB h,Result.andThen_ok]
 cases d<;>rfl
end run
section ops
variable{P:Program}{m:Mp}
theorem MW{l:Option Nat}{t:TypeId}{cs cs':List Value}{off:Nat}{v:Value}(h:apart l cs off=some v)(hl:QL P t=some l)(hc:dF m cs cs'):
 ∃v',VR m v v'∧∀w,(part t ⟨cs'⟩ off).run P w=.ok v' w:=by
 obtain⟨d,i,hd,hi,hk⟩:=Ks hl
 rcases hk with⟨ha,rfl⟩|⟨ha,rfl⟩
 ·(replace h:=aG h;obtain⟨h1,h⟩:=h)
  cases h
  refine⟨.agg ⟨(cs'.drop off).take i.size⟩,?_,fun w=>?_⟩
  ·rw[zC,Em];exact .agg _ _ ((hc.drop off).take _)
  ·simp only[part,Sem.run_bind,lG hd,ha,Result.andThen_ok,if_true,bM hi,Sem.run_pure]
   simp[zC,Em,List.take_drop]
 ·simp only[apart,fH]at h
  obtain⟨v',hv',hr⟩:=hc.get off h
  refine⟨v',hr,fun w=>?_⟩
  simp[part,lG hd,ha,hv']
theorem uF{n es:Nat}(h:aX n=true):n≠aK es:=by
 intro e;rw[e]at h
 have:=Nat.le_of_ble_eq_true h
 unfold aK at this
 simp at this
 omega
theorem VR.of_slice{a:Addr}{n cp:Nat}{v:Value}(h:VR m (.slice (some a) n cp) v):
 (∃l cc,m a.block=some l∧l.lo≤a.off∧a.spot=none∧v=.slice (some ⟨l.c,l.base +(a.off -l.lo),none⟩) n cc∧
  ((aX cp=true∧cc=cp∧n≤cp)∨(∃es,cp=aK es∧0<es∧l.base +(a.off -l.lo) +cc*es=l.tot∧n≤cc∧l.n≤a.off +cc*es)))∨
 (∃a',n=0∧(cp=0∨∃es l,cp=aK es∧m a.block=some l∧l.lo≤a.off∧0<es∧l.n≤a.off∧a.spot=none)∧v=.slice (some a') 0 0):=by
 cases h with
 |sc _ h=>simp[Ae.eU,aD]at h
 |slice r off n cp l h hl hk hn=>exact .inl ⟨l,cp,h,hl,rfl,rfl,.inl ⟨hk,rfl,hn⟩⟩
 |jr r off n es cc l h hl he ht hc hN=>exact .inl ⟨l,cc,h,hl,rfl,rfl,.inr ⟨es,rfl,he,ht,hc,hN⟩⟩
 |lC a a'=>exact .inr ⟨a',rfl,.inl rfl,rfl⟩
 |jC r off es a' l h hl he hN=>exact .inr ⟨a',rfl,.inr ⟨es,l,rfl,h,hl,he,hN,rfl⟩,rfl⟩
theorem VR.jL{n cp:Nat}{v:Value}(h:VR m (.slice none n cp) v):n=0∧cp=0∧v=.slice none 0 0:=by
 cases h with
 |sc _ h=>
  simp[Ae.eU,aD]at h
  obtain⟨h1,h2⟩:=h
  exact⟨h1,h2,by rw[h1,h2]⟩
theorem FI(m:Mp)(r off k:Nat)(l:Loc)(h:m r=some l)(hl:l.lo≤off):
 VR m (.pointer (some ⟨r,off +k,none⟩)) (.pointer (some ((⟨l.c,l.base +(off -l.lo),none⟩:Addr).add k))):=by
 have he:(⟨l.c,l.base +(off -l.lo),none⟩:Addr).add k=⟨l.c,l.base +(off +k -l.lo),none⟩:=by
  unfold Addr.add
  split
  ·next h0=>rw[h0,Nat.add_zero]
  ·congr 1;show l.base +(off -l.lo) +k=_;omega
 rw[he]
 exact .ptr r (off +k) l h aa
theorem FJ{t:TypeId}{x i v x' i':Value}(h:iQ P t x i=some v)(hx:VR m x x')(hi:VR m i i'):
 ∃v',VR m v v'∧∀w,(Instr.indexAt t x' i').run P w=.ok v' w:=by
 (replace h:=ai h;obtain⟨k,hk,h⟩:=h)
 obtain⟨kk,rfl⟩:=uC hk
 have:=hi.of_int;subst this
 cases hs:H_ P t with
 |some q=>
  rw[hs]at h
  obtain⟨hu,⟨inf,jM,hsz⟩,h1⟩:=qH hs
  (replace h:=ai h;obtain⟨p,hp,h⟩:=h)
  (replace h:=ai h;obtain⟨a,ha,h⟩:=h)
  (replace h:=aG h;obtain⟨hlt,h⟩:=h)
  cases h
  have hlt:=Nat.le_of_ble_eq_true hlt
  rw[lD hp,ha]at hx
  rcases hx.of_slice with⟨l,cc,hm,hl,hsp,rfl,_⟩|⟨a',h0,_,_⟩
  ·refine⟨_,FI m a.block a.off (k*q.2) l hm hl,fun w=>?_⟩
   have h2:k<p.2.1:=hlt
   simp[Instr.indexAt,asIntOf,aB hu,bM jM,hsz,h2]
  ·omega
 |none=>
  rw[hs]at h
  (replace h:=ai h;obtain⟨q,hq,h⟩:=h)
  obtain⟨hu,⟨inf,jM,hsz⟩,h1⟩:=Bb hq
  (replace h:=ai h;obtain⟨a,ha,h⟩:=h)
  (replace h:=aG h;obtain⟨hlt,h⟩:=h)
  cases h
  have hlt:=Nat.le_of_ble_eq_true hlt
  rw[fI ha]at hx
  obtain⟨l,hm,hl,hsp,rfl⟩:=hx.jf
  refine⟨_,FI m a.block a.off (k*q.2.2) l hm hl,fun w=>?_⟩
  have h2:k<q.1:=hlt
  simp[Instr.indexAt,Instr.sureAddr,asIntOf,aB hu,bM jM,hsz,h2]
theorem Rp{t:TypeId}{x i v x' i':Value}(h:si P t x i=some v)(hx:VR m x x')(hi:VR m i i'):
 ∃v',VR m v v'∧∀w,(Instr.index t x' i').run P w=.ok v' w:=by
 (replace h:=ai h;obtain⟨k,hk,h⟩:=h)
 obtain⟨kk,rfl⟩:=uC hk
 have:=hi.of_int;subst this
 cases hs:vM P t with
 |true=>
  rw[hs]at h
  have hu:=yN hs
  (replace h:=ai h;obtain⟨s,hp,h⟩:=h)
  (replace h:=ai h;obtain⟨b,hb,h⟩:=h)
  cases h
  rw[fJ hp]at hx
  have:=hx.jV;subst this
  rw[fH]at hb
  refine⟨.int .u8 b.toNat,.sc _ rfl,fun w=>?_⟩
  have hb':s[k]?=some b:=by
   rw[←hb]
   obtain⟨hlt,heq⟩:=List.getElem?_eq_some_iff.1 hb
   have hlt':k<s.size:=hlt
   rw[getElem?_pos s k hlt']
   simp[hb,←heq];rfl
  simp[Instr.index,asIntOf,aB hu,hb']
 |false=>
  rw[hs]at h
  (replace h:=ai h;obtain⟨q,hq,h⟩:=h)
  (replace h:=ai h;obtain⟨cs,hcs,h⟩:=h)
  (replace h:=ai h;obtain⟨l,hl,h⟩:=h)
  (replace h:=aG h;obtain⟨hlt,h⟩:=h)
  obtain⟨hu,⟨inf,jM,hsz⟩,h1⟩:=Bb hq
  have hlt:=Nat.le_of_ble_eq_true hlt
  rw[jD hcs]at hx
  obtain⟨cs',rfl,hc⟩:=hx.lF
  obtain⟨v',hv',hr⟩:=MW h hl hc
  refine⟨v',hv',fun w=>?_⟩
  have h2:k<q.1:=hlt
  have:=hr w
  simp only[Nat.mul_eq]at this
  simp[Instr.index,asIntOf,aB hu,bM jM,hsz,h2,this]
theorem FK{t:TypeId}{x v x':Value}{f:Nat}(h:iR P t x f=some v)(hx:VR m x x'):
 ∃v',VR m v v'∧∀w,(Instr.fieldAt t x' f).run P w=.ok v' w:=by
 (replace h:=ai h;obtain⟨a,ha,h⟩:=h)
 (replace h:=ai h;obtain⟨q,hq,h⟩:=h)
 cases h
 obtain⟨fs,fd,i,hu,ZF,ho,hl,hi,h1⟩:=Es hq
 rw[fI ha]at hx
 obtain⟨l,hm,hlo,hsp,rfl⟩:=hx.jf
 refine⟨_,FI m a.block a.off q.1 l hm hlo,fun w=>?_⟩
 have h2:i.size≠0:=by omega
 simp[Instr.fieldAt,aB hu,ZF,Instr.sureAddr,fieldPlace,bM hi,h2,ho]
theorem Rq{t:TypeId}{x v x':Value}{f:Nat}(h:su P t x f=some v)(hx:VR m x x'):
 ∃v',VR m v v'∧∀w,(Instr.field t x' f).run P w=.ok v' w:=by
 (replace h:=ai h;obtain⟨cs,ha,h⟩:=h)
 (replace h:=ai h;obtain⟨q,hq,h⟩:=h)
 obtain⟨fs,fd,i,hu,ZF,ho,hl,hi,h1⟩:=Es hq
 rw[jD ha]at hx
 obtain⟨cs',rfl,hc⟩:=hx.lF
 obtain⟨v',hv',hr⟩:=MW h hl hc
 refine⟨v',hv',fun w=>?_⟩
 have:=hr w
 simp[Instr.field,aB hu,ZF,asAgg,ho,this]
end ops
section ops
variable{P:Program}{m:Mp}
theorem og{s:Sem Value}{v:Value}(h:bV s=some v):eU v=true∧∀w,s.run P w=.ok v w:=by
 cases s<;>simp only[bV]at h
 case pure u=>
  (replace h:=aG h;obtain⟨h1,h⟩:=h)
  cases h
  exact⟨h1,fun w=>rfl⟩
 all_goals cases h
theorem pI{β:Type}(b:Bool)(x y:β):av b x y=if b=true then x else y:=by cases b<;>rfl
theorem OL(n:Int):fO .i64 n=IntKind.i64.wrap n:=by
 cases n with
 |ofNat k=>
  have e:fO .i64 (.ofNat k)=av (true&&Nat.ble k 9223372036854775807) (.ofNat k) (IntKind.i64.wrap (.ofNat k)):=rfl
  rw[e,pI]
  split
  ·next hb=>
   simp only[Bool.true_and]at hb
   have:=Nat.le_of_ble_eq_true hb
   exact(IntWalk.i64_in _ (by simp;omega)).symm
  ·simp only[]
 |negSucc k=>
  have e:fO .i64 (.negSucc k)=av (true&&Nat.ble k 9223372036854775807) (.negSucc k) (IntKind.i64.wrap (.negSucc k)):=rfl
  rw[e,pI]
  split
  ·next hb=>
   simp only[Bool.true_and]at hb
   have:=Nat.le_of_ble_eq_true hb
   exact(IntWalk.i64_in _ aa).symm
  ·simp only[]
theorem xz(k:IntKind)(n:Int):fO k n=k.wrap n:=by
 cases k
 case i64=>exact OL n
 all_goals cases n<;>simp[fO,ve,pI]
theorem Kt(a b:Int):DN a b=decide (a<b):=by
 rw[Bool.eq_iff_iff]
 cases a<;>cases b<;>simp[DN,Nat.ble_eq]<;>omega
theorem BK(a b:Int):Ib a b=(a==b):=by
 rw[Bool.eq_iff_iff]
 cases a<;>cases b<;>simp[Ib,Nat.beq_eq]<;>omega
theorem BL(a b:Bool):qy a b=(a==b):=by cases a<;>cases b<;>rfl
theorem OM:∀(a b:List Nat),BA a b=(a==b):=by
 intro a
 induction a with
 |nil=>intro b;cases b<;>rfl
 |cons x a ih=>
  intro b
  cases b with
  |nil=>rfl
  |cons y b=>
   show av (Nat.beq x y) (BA a b) false=_
   rw[ih,List.cons_beq_cons,pI]
   by_cases hxy:x=y
   ·subst hxy;simp
   ·have:Nat.beq x y=false:=by rw[←Bool.not_eq_true,Nat.beq_eq];exact hxy
    simp[this,hxy]
theorem V9(a b:List UInt8):(V4 a==V4 b)=(a==b):=by
 rw[Bool.eq_iff_iff]
 simp only[V4,xh,beq_iff_eq]
 constructor
 ·intro h
  exact(List.map_inj_right (fun x y h=>UInt8.toNat_inj.1 h)).1 h
 ·intro h;rw[h]
theorem oh(a b:ByteArray):iM a b=(a.toList==b.toList):=by
 unfold iM
 rw[OM,V9,ByteArray.toList_eq,ByteArray.toList_eq]
theorem Rt(a b:ByteArray):strLt a b=Op.bytesLess a.toList b.toList:=by
 unfold strLt
 rw[ByteArray.toList_eq,ByteArray.toList_eq]
theorem V'{op:BinOp}{k:IntKind}{a b:Int}{v:Value}{t:TypeId}(h:OD op k a b=some v):eU v=true∧∀w,(binOp op t (.int k a) (.int k b)).run P w=.ok v w:=by
 have ps:∀(o:BinOp)(s:Sem Value),bV s=some v→binOp o t (.int k a) (.int k b)=s→eU v=true∧∀w,(binOp o t (.int k a) (.int k b)).run P w=.ok v w:=by
  intro o s h1 h2;rw[h2];exact og h1
 cases op<;>simp only[OD]at h
 case quo=>exact ps _ _ h (by simp[binOp])
 case rem=>exact ps _ _ h (by simp[binOp])
 case and=>exact ps _ _ h (by simp[binOp])
 case or=>exact ps _ _ h (by simp[binOp])
 case xor=>exact ps _ _ h (by simp[binOp])
 case andNot=>exact ps _ _ h (by simp[binOp])
 case shl=>cases h
 case shr=>cases h
 all_goals
  cases h
  refine⟨rfl,fun w=>?_⟩
  simp[binOp,Op.intArith,Op.intCmp,xz,Kt,BK]
 case leq=>rw[Bool.eq_iff_iff];simp
 case geq=>rw[Bool.eq_iff_iff];simp
 all_goals rfl
theorem V_{op:BinOp}{a b:ByteArray}{v:Value}{t:TypeId}(h:V5 op a b=some v):eU v=true∧∀w,(binOp op t (.string a) (.string b)).run P w=.ok v w:=by
 cases op<;>simp only[V5]at h
 case add=>
  simp only[Q8]at h
  (replace h:=aG h;obtain⟨h1,h⟩:=h)
  cases h
  refine⟨rfl,fun w=>?_⟩
  have h2:=Nat.le_of_ble_eq_true h1
  simp only[aM]at h2
  have h3:¬(((a.size +b.size:Nat):Int)>IntKind.i64.max):=by
   have e1:a.size=a.data.toList.length:=rfl
   have e2:b.size=b.data.toList.length:=rfl
   have e3:IntKind.i64.max=9223372036854775807:=by decide
   have h4:a.data.toList.length +b.data.toList.length≤4611686018427387904:=h2
   rw[e1,e2,e3];omega
  have h5:a++b=⟨⟨app a.data.toList b.data.toList⟩⟩:=by
   rw[jd]
   apply ByteArray.ext
   simp[ByteArray.data_append]
  simp only[binOp,Op.stringOp]
  rw[if_neg h3,h5];rfl
 all_goals first
  |cases h;done
  |(cases h
    refine⟨rfl,fun w=>?_⟩
    simp[binOp,Op.stringOp,oh,Rt])
theorem OO{op:BinOp}{t:TypeId}{x y v x' y':Value}(h:Kk op t x y=some v)(hx:VR m x x')(hy:VR m y y'):
 VR m v v∧∀w,(binOp op t x' y').run P w=.ok v w:=by
 (replace h:=aG h;obtain⟨h1,h⟩:=h)
 simp only[Bool.and_eq_true]at h1
 have hsx:eU x=true:=by
  have:=Nat.le_of_ble_eq_true h1.1
  cases x<;>simp[lg]at this<;>rfl
 have hsy:eU y=true:=by
  have h2:=Nat.eq_of_beq_eq_true h1.2
  have:=Nat.le_of_ble_eq_true h1.1
  rw[h2]at this
  cases y<;>simp[lg]at this<;>rfl
 rw[hx.lY hsx,hy.lY hsy]
 obtain⟨a,b⟩:=og (P:=P) h
 exact⟨.sc v a,b⟩
theorem pU{d:TypeDesc}{x y x' y':Value}{b:Bool}{t:TypeId}(hd:P.underlying t=some d)(h:k_ (jB d) x y=some b)(hx:VR m x x')(hy:VR m y y'):
 x'=x∧y'=y∧∀n w,(Op.equalIn (n +1) t x' y').run P w=.ok b w:=by
 cases d<;>simp only[jB]at h
 case int k=>
  have h:(aj (jk x) fun a=>aj (jk y) fun b=>gd (Nat.beq (ik a.1) (ik b.1)) (some (Ib a.2 b.2)))=some b:=h
  (replace h:=ai h;obtain⟨p,hp,h⟩:=h)
  (replace h:=ai h;obtain⟨q,hq,h⟩:=h)
  (replace h:=aG h;obtain⟨hk,h⟩:=h)
  cases h
  have e1:=gW hp
  have e2:=gW hq
  have hk:=pR hk
  rw[e1]at hx;rw[e2]at hy
  have hx:=hx.of_int
  have hy:=hy.of_int
  refine⟨by rw[hx,e1],by rw[hy,e2],fun n w=>?_⟩
  rw[hx,hy,hk,run_equalIn_int w n t _ k _ _ hd,BK]
 case bool=>
  have h:(aj (bK x) fun a=>aj (bK y) fun b=>some (qy a b))=some b:=h
  (replace h:=ai h;obtain⟨p,hp,h⟩:=h)
  (replace h:=ai h;obtain⟨q,hq,h⟩:=h)
  cases h
  have e1:=gB hp
  have e2:=gB hq
  rw[e1]at hx;rw[e2]at hy
  have hx:=hx.of_bool
  have hy:=hy.of_bool
  refine⟨by rw[hx,e1],by rw[hy,e2],fun n w=>?_⟩
  rw[hx,hy,run_equalIn_bool' w n t _ _ hd,BL]
 case string=>
  have h:(aj (jl x) fun a=>aj (jl y) fun b=>some (iM a b))=some b:=h
  (replace h:=ai h;obtain⟨p,hp,h⟩:=h)
  (replace h:=ai h;obtain⟨q,hq,h⟩:=h)
  cases h
  have e1:=fJ hp
  have e2:=fJ hq
  rw[e1]at hx;rw[e2]at hy
  have hx:=hx.jV
  have hy:=hy.jV
  refine⟨by rw[hx,e1],by rw[hy,e2],fun n w=>?_⟩
  rw[hx,hy,run_equalIn_string w n t _ _ hd,oh]
 all_goals cases h
end ops
section ops
variable{P:Program}{m:Mp}
theorem pV{d:TypeDesc}(h:1≤jB d):Ki d=false:=by cases d<;>first|rfl|simp[jB]at h
theorem jS{f:Field}{fs:List Field}{k:Nat}{ks:List Nat}(h:iP P (f::fs) k=some ks):
 ∃d r,P.underlying f.type=some d∧iP P fs (k +1)=some r∧f.offset=k∧f.name≠ "_" ∧1≤jB d∧ks=jB d::r:=by
 have h:(aj (P.underlying f.type) fun d=>aj (iP P fs (k +1)) fun r=>gd (Nat.beq f.offset k&&!(f.name== "_")&&Nat.ble 1 (jB d)) (some (jB d::r)))=some ks:=h
 (replace h:=ai h;obtain⟨d,hd,h⟩:=h)
 (replace h:=ai h;obtain⟨r,hr,h⟩:=h)
 (replace h:=aG h;obtain⟨hg,h⟩:=h)
 cases h
 simp only[Bool.and_eq_true,Bool.not_eq_true',beq_eq_false_iff_ne]at hg
 exact⟨d,r,hd,hr,Nat.eq_of_beq_eq_true hg.1.1,hg.1.2,Nat.le_of_ble_eq_true hg.2,rfl⟩
theorem ng{k:Nat}{ks:List Nat}{xs ys:List Value}{b:Bool}(h:iH (k::ks) xs ys=some b):
 ∃x xr y yr c,xs=x::xr∧ys=y::yr∧k_ k x y=some c∧((c=true∧iH ks xr yr=some b)∨(c=false∧b=false)):=by
 cases xs with
 |nil=>cases h
 |cons x xr=>cases ys with
  |nil=>cases h
  |cons y yr=>
   have h:(aj (k_ k x y) fun c=>av c (iH ks xr yr) (some false))=some b:=h
   (replace h:=ai h;obtain⟨c,hc,h⟩:=h)
   cases c
   ·cases h;exact⟨x,xr,y,yr,false,rfl,rfl,hc,.inr ⟨rfl,rfl⟩⟩
   ·exact⟨x,xr,y,yr,true,rfl,rfl,hc,.inl ⟨rfl,h⟩⟩
theorem nM{t:TypeId}{d:TypeDesc}{cs:List Value}{off:Nat}{v:Value}{w:World}(hd:P.underlying t=some d)(ha:Ki d=false)(hv:cs[off]?=some v):
 (part t ⟨cs⟩ off).run P w=.ok v w:=by
 simp[part,lG hd,ha,hv]
theorem Ii:∀(fs:List Field)(k:Nat)(ks:List Nat)(xs ys X' Y':List Value)(b:Bool),iP P fs k=some ks→iH ks xs ys=some b→
 dF m xs (X'.drop k)→dF m ys (Y'.drop k)→∀n w,(Op.eqFields (n +1) ⟨X'⟩ ⟨Y'⟩ fs).run P w=.ok b w:=by
 intro fs
 induction fs with
 |nil=>
  intro k ks xs ys X' Y' b hk hc hx hy n w
  cases hk
  cases xs with
  |nil=>cases ys with
   |nil=>cases hc;rfl
   |cons _ _=>cases hc
  |cons _ _=>cases hc
 |cons f fs ih=>
  intro k ks xs ys X' Y' b hk hc hx hy n w
  obtain⟨d,r,hd,hr,ho,hn,h1,rfl⟩:=jS hk
  obtain⟨x,xr,y,yr,c,rfl,rfl,hce,hcase⟩:=ng hc
  generalize hX:X'.drop k=X1 at hx
  generalize hY:Y'.drop k=Y1 at hy
  cases hx with
  |cons _ x' _ xr' hxv vS=>
   cases hy with
   |cons _ y' _ yr' hyv Ru=>
    have gx:X'[k]?=some x':=by
     have:=congrArg (·[0]?) hX;simpa using this
    have gy:Y'[k]?=some y':=by
     have:=congrArg (·[0]?) hY;simpa using this
    have dx:X'.drop (k +1)=xr':=by rw[←List.drop_drop,hX];rfl
    have dy:Y'.drop (k +1)=yr':=by rw[←List.drop_drop,hY];rfl
    obtain⟨ex,ey,he⟩:=pU (t:=f.type) hd hce hxv hyv
    have p1:=nM (w:=w) hd (pV h1) gx
    have p2:=nM (w:=w) hd (pV h1) gy
    rw[←ho]at p1 p2
    simp only[Op.eqFields,hn,ne_eq,not_false_eq_true,if_true,Sem.run_bind,p1,p2,Result.andThen_ok,he n w,Sem.run_ite,Sem.run_pure]
    rcases hcase with⟨rfl,hrest⟩|⟨rfl,rfl⟩
    ·simp only[Bool.not_true,Bool.false_eq_true,if_false]
     exact ih (k +1) r xr yr X' Y' b hr hrest (by rw[dx];exact vS) (by rw[dy];exact Ru) n w
    ·simp
theorem Rv{α:Type}(x:α)(n:Nat):Q9 x n=List.replicate n x:=by
 induction n with
 |zero=>rfl
 |succ n ih=>exact congrArg (x::·) ih
theorem Ku{e:TypeId}{d:TypeDesc}(hd:P.underlying e=some d)(h1:1≤jB d)(hs:P.cellsOf e=1):∀(c k:Nat)(xs ys X' Y':List Value)(b:Bool),
 iH (List.replicate c (jB d)) xs ys=some b→dF m xs (X'.drop k)→dF m ys (Y'.drop k)→
 ∀n w,(Op.eqItems (n +1) e (P.cellsOf e) ⟨X'⟩ ⟨Y'⟩ (List.range' k c)).run P w=.ok b w:=by
 intro c
 induction c with
 |zero=>
  intro k xs ys X' Y' b hc hx hy n w
  cases xs with
  |nil=>cases ys with
   |nil=>cases hc;rfl
   |cons _ _=>cases hc
  |cons _ _=>cases hc
 |succ c ih=>
  intro k xs ys X' Y' b hc hx hy n w
  obtain⟨x,xr,y,yr,q,rfl,rfl,hce,hcase⟩:=ng hc
  generalize hX:X'.drop k=X1 at hx
  generalize hY:Y'.drop k=Y1 at hy
  cases hx with
  |cons _ x' _ xr' hxv vS=>
   cases hy with
   |cons _ y' _ yr' hyv Ru=>
    have gx:X'[k]?=some x':=by
     have:=congrArg (·[0]?) hX;simpa using this
    have gy:Y'[k]?=some y':=by
     have:=congrArg (·[0]?) hY;simpa using this
    have dx:X'.drop (k +1)=xr':=by rw[←List.drop_drop,hX];rfl
    have dy:Y'.drop (k +1)=yr':=by rw[←List.drop_drop,hY];rfl
    obtain⟨ex,ey,he⟩:=pU (t:=e) hd hce hxv hyv
    have p1:=nM (w:=w) hd (pV h1) gx
    have p2:=nM (w:=w) hd (pV h1) gy
    rw[List.range'_succ]
    simp only[Op.eqItems,Sem.run_bind,hs,Nat.mul_one,p1,p2,Result.andThen_ok,he n w,Sem.run_ite,Sem.run_pure]
    rcases hcase with⟨rfl,hrest⟩|⟨rfl,rfl⟩
    ·simp only[Bool.not_true,Bool.false_eq_true,if_false]
     have:=ih (k +1) xr yr X' Y' b hrest (by rw[dx];exact vS) (by rw[dy];exact Ru) n w
     rw[hs]at this
     exact this
    ·simp
theorem OP{α:Type}{o q:Option α}{r:α}(h:orElse' o q=some r):o=some r∨(o=none∧q=some r):=by
 cases o with
 |none=>exact .inr ⟨rfl,h⟩
 |some x=>exact .inl h
theorem yO{t:TypeId}{q:Sum Nat (List Nat)}(h:ZA P t=some q):
 (∃d,P.underlying t=some d∧q=.inl (jB d)∧1≤jB d)∨
 (∃fs ks,P.underlying t=some (.struct ⟨fs⟩)∧P.stoodInHeld t=false∧iP P fs 0=some ks∧q=.inr ks)∨
 (∃n e d i,P.underlying t=some (.array n e)∧P.underlying e=some d∧P.info? e=some i∧i.size=1∧1≤jB d∧q=.inr (List.replicate n (jB d))):=by
 (replace h:=ai h;obtain⟨d,hd,h⟩:=h)
 cases hb:Nat.ble 1 (jB d)with
 |true=>rw[hb]at h;cases h;exact .inl ⟨d,hd,rfl,Nat.le_of_ble_eq_true hb⟩
 |false=>
  rw[hb]at h
  have h:(aj (orElse' (Ic P t) (Yg P t)) fun l=>some (Sum.inr l))=some q:=h
  (replace h:=ai h;obtain⟨l,hl,h⟩:=h)
  cases h
  rcases OP hl with hs|⟨_,ha⟩
  ·right;left
   have h:=hs
   (replace h:=ai h;obtain⟨fs,hfs,h⟩:=h)
   (replace h:=aG h;obtain⟨hg,h⟩:=h)
   exact⟨fs,l,vR hfs,by simpa using hg,h,rfl⟩
  ·right;right
   have h:=ha
   (replace h:=ai h;obtain⟨d',hd',h⟩:=h)
   (replace h:=ai h;obtain⟨a,ha',h⟩:=h)
   (replace h:=ai h;obtain⟨e,he,h⟩:=h)
   (replace h:=ai h;obtain⟨s,hs,h⟩:=h)
   (replace h:=aG h;obtain⟨hg,h⟩:=h)
   cases h
   obtain⟨i,hi,rfl⟩:=iJ hs
   simp only[Bool.and_eq_true]at hg
   exact⟨a.1,a.2,e,i,by rw[hd',FF ha'],he,hi,Nat.eq_of_beq_eq_true hg.1,Nat.le_of_ble_eq_true hg.2,by rw[Rv]⟩
theorem Kv{e:TypeId}{i:TypeInfo}(h:P.info? e=some i):P.cellsOf e=i.size:=by simp[Program.cellsOf,h]
theorem Rw{t:TypeId}{x y x' y':Value}{b:Bool}(h:iq P t x y=some b)(hx:VR m x x')(hy:VR m y y'):
 ∀n w,(Op.equalIn (n +2) t x' y').run P w=.ok b w:=by
 intro n w
 (replace h:=ai h;obtain⟨q,hq,h⟩:=h)
 rcases yO hq with⟨d,hd,rfl,h1⟩|⟨fs,ks,hu,hs,hk,rfl⟩|⟨c,e,d,i,hu,he,hi,hsz,h1,rfl⟩
 ·have h:k_ (jB d) x y=some b:=h
  exact(pU hd h hx hy).2.2 (n +1) w
 ·have h:(aj (kR x) fun a=>aj (kR y) fun b=>iH ks a b)=some b:=h
  (replace h:=ai h;obtain⟨xs,hxs,h⟩:=h)
  (replace h:=ai h;obtain⟨ys,hys,h⟩:=h)
  rw[jD hxs]at hx
  rw[jD hys]at hy
  obtain⟨xs',rfl,vS⟩:=hx.lF
  obtain⟨ys',rfl,Ru⟩:=hy.lF
  have hf:P.fieldsOf t=⟨fs⟩:=by simp[Program.fieldsOf,hu]
  rw[run_equalIn_struct w (n +1) t _ _ (by rw[hf];exact hu) hs,hf]
  exact Ii fs 0 ks xs ys xs' ys' b hk h (by simpa using vS) (by simpa using Ru) n w
 ·have h:(aj (kR x) fun a=>aj (kR y) fun b=>iH (List.replicate c (jB d)) a b)=some b:=h
  (replace h:=ai h;obtain⟨xs,hxs,h⟩:=h)
  (replace h:=ai h;obtain⟨ys,hys,h⟩:=h)
  rw[jD hxs]at hx
  rw[jD hys]at hy
  obtain⟨xs',rfl,vS⟩:=hx.lF
  obtain⟨ys',rfl,Ru⟩:=hy.lF
  rw[run_equalIn_array w (n +1) _ _ hu hi,List.range_eq_range']
  exact Ku he h1 (by rw[Kv hi,hsz]) c 0 xs ys xs' ys' b h (by simpa using vS) (by simpa using Ru) n w
theorem BM{t:TypeId}{x y x' y':Value}{b:Bool}(h:iq P t x y=some b)(hx:VR m x x')(hy:VR m y y')(w:World):
 (Op.equal t x' y').run P w=.ok b w:=by
 have:=Rw h hx hy 9998 w
 exact this
end ops
section ops
variable{P:Program}{m:Mp}
theorem yP{d:TypeDesc}(h:1≤jB d):(∃k,d=.int k)∨d=.bool∨d=.string:=by
 cases d<;>first|exact .inl ⟨_,rfl⟩|exact .inr (.inl rfl)|exact .inr (.inr rfl)|simp[jB]at h
theorem BN{t:TypeId}{d:TypeDesc}(hd:P.underlying t=some d)(h:1≤jB d)(n:Nat):P.eqGuardType (n +1) t=false:=by
 unfold Program.eqGuardType
 rw[hd]
 rcases yP h with⟨k,rfl⟩|rfl|rfl<;>rfl
theorem OQ:∀(fs:List Field)(k:Nat)(ks:List Nat),iP P fs k=some ks→∀n,fs.any (fun f=>f.name != "_" &&P.eqGuardType (n +1) f.type)=false:=by
 intro fs
 induction fs with
 |nil=>intros;rfl
 |cons f fs ih=>
  intro k ks hk n
  obtain⟨d,r,hd,hr,ho,hn,h1,rfl⟩:=jS hk
  simp only[List.any_cons,ih _ _ hr n,Bool.or_false,BN hd h1 n,Bool.and_false]
theorem Wd{t:TypeId}{q:Sum Nat (List Nat)}(h:ZA P t=some q):P.eqGuardType P.depth t=false:=by
 obtain⟨D,hD⟩:∃D,P.depth=D +2:=⟨_,rfl⟩
 rw[hD]
 rcases yO h with⟨d,hd,rfl,h1⟩|⟨fs,ks,hu,hs,hk,rfl⟩|⟨c,e,d,i,hu,he,hi,hsz,h1,rfl⟩
 ·exact BN hd h1 (D +1)
 ·unfold Program.eqGuardType
  rw[hu]
  have:=OQ fs 0 ks hk D
  simpa using this
 ·unfold Program.eqGuardType
  rw[hu]
  exact BN he h1 D
theorem VR.iO{x x':Value}(h:VR m x x')(h1:1≤(Ae.iO x).1):Ae.iO x'=Ae.iO x:=by
 cases h<;>first|rfl|(simp[Ae.iO,Ae.top]at h1)
theorem vT{x:Value}(h:1≤(iO x).1):
 (∃a,x=.pointer a∧iO x=(1,a.isNone))∨(∃a l c,x=.slice a l c∧iO x=(2,a.isNone))∨(∃r,x=.map r∧iO x=(3,r.isNone))∨
 (∃f y z,x=.func f y z∧iO x=(4,false))∨(x=.nilFunc∧iO x=(4,true))∨(∃t v,x=.iface t v∧iO x=(5,false))∨(x=.nilIface∧iO x=(5,true)):=by
 cases x<;>simp[iO]at h⊢
 case pointer a=>cases a<;>rfl
 case slice a l c=>cases a<;>rfl
 case map a=>cases a<;>rfl
theorem Kw{d:TypeDesc}(h:1≤l8 d):(∃e,d=.pointer e∧l8 d=1)∨(∃e,d=.slice e∧l8 d=2)∨(∃k e,d=.map k e∧l8 d=3)∨(∃p r v,d=.func p r v∧l8 d=4)∨(∃ms,d=.interface ms∧l8 d=5):=by
 cases d<;>simp[l8]at h⊢
set_option maxHeartbeats 2000000 in
theorem OT{t:TypeId}{x y:Value}{k:Nat}{b:Bool}(ht:yH P t=k)(h1:1≤k)(hx:iO x=(k,b))(hy:iO y=(k,true))(w:World):
 (Op.equal t x y).run P w=.ok b w∧(Op.equal t y x).run P w=.ok b w:=by
 unfold yH at ht
 cases hu:P.underlying t with
 |none=>rw[hu]at ht;simp at ht;omega
 |some d=>
  rw[hu]at ht
  have ht:l8 d=k:=ht
  have hx1:1≤(iO x).1:=by rw[hx];exact h1
  have hy1:1≤(iO y).1:=by rw[hy];exact h1
  have hd1:1≤l8 d:=by omega
  rcases Kw hd1 with⟨e,rfl,hk⟩|⟨e,rfl,hk⟩|⟨kk,e,rfl,hk⟩|⟨p,r,v,rfl,hk⟩|⟨ms,rfl,hk⟩<;>
  rcases vT hx1 with⟨a,rfl,hxa⟩|⟨a,l,c,rfl,hxa⟩|⟨a,rfl,hxa⟩|⟨f,q,z,rfl,hxa⟩|⟨rfl,hxa⟩|⟨tt,v,rfl,hxa⟩|⟨rfl,hxa⟩<;>
  (rw[hxa]at hx;rw[Prod.mk.injEq]at hx;obtain⟨hx2,hx3⟩:=hx)<;>try(exfalso;omega)
  all_goals
   rcases vT hy1 with⟨a',rfl,hya⟩|⟨a',l',c',rfl,hya⟩|⟨a',rfl,hya⟩|⟨f',q',z',rfl,hya⟩|⟨rfl,hya⟩|⟨tt',v',rfl,hya⟩|⟨rfl,hya⟩<;>
   (rw[hya]at hy;rw[Prod.mk.injEq]at hy;obtain⟨hy2,hy3⟩:=hy)<;>try(exfalso;omega)
  all_goals first|cases hy3;done|skip
  all_goals try(cases a'<;>simp at hy3)
  all_goals try(cases a)
  all_goals
   subst hx3
   constructor<;>(refine(?_:∀n,(Op.equalIn (n +1) _ _ _).run P w=_) 9999;intro n;simp only[Op.equalIn,Sem.run_bind,aB hu,Result.andThen_ok,Sem.run_pure];(try rfl))
theorem Rx{t:TypeId}{x y x' y':Value}{b:Bool}(ht:yI P t=true)(h:ptrEq x y=some b)(hx:VR m x x')(hy:VR m y y')(w:World):
 (Op.equal t x' y').run P w=.ok b w∧(∃a a',x'=.pointer (some a)∧y'=.pointer (some a')):=by
 (replace h:=ai h;obtain⟨a,ha,h⟩:=h)
 (replace h:=ai h;obtain⟨c,hc,h⟩:=h)
 (replace h:=aG h;obtain⟨hg,h⟩:=h)
 cases h
 rw[fI ha]at hx
 rw[fI hc]at hy
 obtain⟨l,hm,hlo,hsp,rfl⟩:=hx.jf
 obtain⟨l',hm',aa8,aeA,rfl⟩:=hy.jf
 have hb:=Nat.eq_of_beq_eq_true hg
 rw[hb,hm']at hm
 cases hm
 have hsz:∃e i,P.underlying t=some (.pointer e)∧P.info? e=some i∧1≤i.size:=by
  unfold yI at ht
  cases hq:(aj (P.underlying t) fun d=>aj (xm d) fun e=>aj (kr P e) fun s=>gd (Nat.ble 1 s) (some ()))with
  |none=>rw[hq]at ht;cases ht
  |some u=>
   have h:=hq
   (replace h:=ai h;obtain⟨d,hd,h⟩:=h)
   (replace h:=ai h;obtain⟨e,he,h⟩:=h)
   (replace h:=ai h;obtain⟨s,hs,h⟩:=h)
   (replace h:=aG h;obtain⟨h1,h⟩:=h)
   obtain⟨i,hi,rfl⟩:=iJ hs
   exact⟨e,i,by rw[hd,Ba he],hi,Nat.le_of_ble_eq_true h1⟩
 obtain⟨e,i,hu,hi,h1⟩:=hsz
 refine⟨?_,_,_,rfl,rfl⟩
 have hne:i.size≠0:=by omega
 refine(?_:∀n,(Op.equalIn (n +1) _ _ _).run P w=_) 9999
 intro n
 simp only[Op.equalIn,Sem.run_bind,aB hu,Result.andThen_ok,bM hi,ne_eq,hne,not_false_eq_true,if_true,sameAddr,BEq.rfl,Sem.run_ite,Sem.run_pure]
 congr 1
 rw[Bool.eq_iff_iff]
 simp only[beq_iff_eq,Addr.mk.injEq,and_true,true_and]
 rw[show(Nat.beq a.off c.off=true)=(a.off=c.off)from by simp[Nat.beq_eq]]
 omega
theorem binOp_eql{t:TypeId}{x y:Value}{b:Bool}{w:World}(h:(Op.equal t x y).run P w=.ok b w)
 (hn:∀k n,x≠.int k n)(hf:∀k n,x≠.float k n)(hc:∀k n q,x≠.complex k n q)(hs:∀s,x≠.string s):
 (binOp .eql t x y).run P w=.ok (.bool b) w∧(binOp .neq t x y).run P w=.ok (.bool (!b)) w:=by
 have e1:binOp .eql t x y=(do pure (.bool (←Op.equal t x y))):=by
  cases x<;>first|rfl|(exfalso;first|exact hn _ _ rfl|exact hf _ _ rfl|exact hc _ _ _ rfl|exact hs _ rfl)
 have e2:binOp .neq t x y=(do pure (.bool (!(←Op.equal t x y)))):=by
  cases x<;>first|rfl|(exfalso;first|exact hn _ _ rfl|exact hf _ _ rfl|exact hc _ _ _ rfl|exact hs _ rfl)
 rw[e1,e2]
 simp[h]
end ops
section ops
variable{P:Program}{m:Mp}
theorem lZ{o:Operand}(h:jm o=true):∃v,o=.const v∧(iO v).2=true:=by
 cases o<;>simp[jm]at h;exact⟨_,rfl,h⟩
theorem fK{op:BinOp}{t:TypeId}{ox oy:Operand}{x y:Value}(w:World)(h:jm ox=true∨jm oy=true∨x≠.nilIface∨y≠.nilIface)
 (h2:(∀c,x≠.agg c)∨(∀c,y≠.agg c)∨P.eqGuardType P.depth t=false):(eqGuard op t ox oy x y).run P w=.ok () w:=by
 by_cases hop:op=.eql∨op=.neq
 ·by_cases hagg:∃c c',x=.agg c∧y=.agg c'
  ·obtain⟨c,c',rfl,rfl⟩:=hagg
   rcases h2 with h2|h2|h2
   ·exact absurd rfl (h2 c)
   ·exact absurd rfl (h2 c')
   ·exact run_eqGuard_agg w op t ox oy c c' h2
  ·by_cases hnil:x=.nilIface∧y=.nilIface
   ·obtain⟨rfl,rfl⟩:=hnil
    have hc:(∃v,ox=.const v)∨∃v,oy=.const v:=by
     rcases h with h|h|h|h
     ·obtain⟨v,rfl,_⟩:=lZ h;exact .inl ⟨_,rfl⟩
     ·obtain⟨v,rfl,_⟩:=lZ h;exact .inr ⟨_,rfl⟩
     ·exact absurd rfl h
     ·exact absurd rfl h
    rcases hc with⟨v,rfl⟩|⟨v,rfl⟩
    ·rcases hop with rfl|rfl<;>rfl
    ·rcases hop with rfl|rfl<;>cases ox<;>rfl
   ·rcases hop with rfl|rfl<;>cases x<;>first
     |rfl
     |(cases y<;>first|rfl|(exfalso;exact hagg ⟨_,_,rfl,rfl⟩)|(exfalso;exact hnil ⟨rfl,rfl⟩))
 ·cases op<;>first|rfl|(exfalso;exact hop (.inl rfl))|(exfalso;exact hop (.inr rfl))
theorem MX{op:BinOp}{t:TypeId}{ox oy:Operand}{x c x' c':Value}{b:Bool}(h:En (yH P t) c x=some b)(hx:VR m x x')(hc:VR m c c')(hn:(iO c).2=true)(w:World):
 (Op.equal t x' c').run P w=.ok b w∧(Op.equal t c' x').run P w=.ok b w∧(∀q,x'≠.agg q)∧1≤(iO x').1∧1≤(iO c').1:=by
 (replace h:=aG h;obtain⟨hg,h⟩:=h)
 cases h
 simp only[Bool.and_eq_true]at hg
 have h1:=Nat.le_of_ble_eq_true hg.1.1
 have h2:=Nat.eq_of_beq_eq_true hg.1.2
 have h3:=Nat.eq_of_beq_eq_true hg.2
 have ex:=hx.iO aa
 have ec:=hc.iO aa
 have Ij:iO x'=(yH P t,(iO x).2):=by rw[ex,←h2]
 have hcc:iO c'=(yH P t,true):=by rw[ec,←h3,←hn]
 have:=OT rfl h1 Ij hcc w
 refine⟨this.1,this.2,?_,by rw[Ij];exact h1,by rw[hcc];exact h1⟩
 intro q hq
 rw[hq]at Ij;simp[iO]at Ij;omega
def Et(x:Value):Prop:=(∀k n,x≠.int k n)∧(∀k n,x≠.float k n)∧(∀k n q,x≠.complex k n q)∧∀s,x≠.string s
theorem Eu{x:Value}(h:1≤(iO x).1):Et x:=by
 refine⟨?_,?_,?_,?_⟩<;>(intros;intro e;rw[e]at h;simp[iO]at h)
theorem ZG{op:BinOp}{t:TypeId}{ox oy:Operand}{x y x' y':Value}{b:Bool}(h:VM P t ox oy x y=some b)(hx:VR m x x')(hy:VR m y y')
 (hox:∀c,ox=.const c→x=c)(hoy:∀c,oy=.const c→y=c)(hxo:jk x=none∧jl x=none∧lg x=0)(w:World):
 (Op.equal t x' y').run P w=.ok b w∧(eqGuard op t ox oy x' y').run P w=.ok () w∧Et x':=by
 unfold VM at h
 cases hcy:jm oy with
 |true=>
  rw[hcy]at h
  obtain⟨v,hv,hn⟩:=lZ hcy
  have:=hoy v hv;subst this
  obtain⟨h1,h2,h3,h4,h5⟩:=MX (op:=op) (ox:=ox) (oy:=oy) h hx hy hn w
  exact⟨h1,fK w (.inr (.inl hcy)) (.inl h3),Eu h4⟩
 |false=>
  rw[hcy]at h
  cases hcx:jm ox with
  |true=>
   rw[hcx]at h
   obtain⟨v,hv,hn⟩:=lZ hcx
   have:=hox v hv;subst this
   obtain⟨h1,h2,h3,h4,h5⟩:=MX (op:=op) (ox:=ox) (oy:=oy) h hy hx hn w
   exact⟨h2,fK w (.inl hcx) (.inr (.inl h3)),Eu h5⟩
  |false=>
   rw[hcx]at h
   cases hp:yI P t with
   |true=>
    rw[hp]at h
    obtain⟨h1,a,a',rfl,rfl⟩:=Rx hp h hx hy w
    exact⟨h1,fK w (.inr (.inr (.inl (by simp)))) (.inl (by simp)),by simp[Et]⟩
   |false=>
    rw[hp]at h
    have h:iq P t x y=some b:=h
    have h1:=BM h hx hy w
    have hv:=h
    (replace h:=ai h;obtain⟨q,hq,h⟩:=h)
    have hng:=Wd hq
    rcases yO hq with⟨d,hd,rfl,hk⟩|⟨fs,ks,hu,hs,hk,rfl⟩|⟨c,e,d,i,hu,he,hi,hsz,hk,rfl⟩
    ·have h:k_ (jB d) x y=some b:=h
     obtain⟨ex,ey,_⟩:=pU (t:=t) hd h hx hy
     subst ex;subst ey
     have aa9:∃z,x'=.bool z:=by
      rcases yP hk with⟨k,rfl⟩|rfl|rfl
      ·have h:(aj (jk x') fun a=>aj (jk y') fun b=>gd (Nat.beq (ik a.1) (ik b.1)) (some (Ib a.2 b.2)))=some b:=h
       rw[hxo.1]at h;cases h
      ·have h:(aj (bK x') fun a=>aj (bK y') fun b=>some (qy a b))=some b:=h
       (replace h:=ai h;obtain⟨p,hp,h⟩:=h)
       exact⟨p,gB hp⟩
      ·have h:(aj (jl x') fun a=>aj (jl y') fun b=>some (iM a b))=some b:=h
       rw[hxo.2.1]at h;cases h
     obtain⟨z,rfl⟩:=aa9
     exact⟨h1,fK w (.inr (.inr (.inl (by simp)))) (.inl (by simp)),by simp[Et]⟩
    ·have h:(aj (kR x) fun a=>aj (kR y) fun b=>iH ks a b)=some b:=h
     (replace h:=ai h;obtain⟨xs,hxs,h⟩:=h)
     rw[jD hxs]at hx
     obtain⟨xs',rfl,vS⟩:=hx.lF
     exact⟨h1,fK w (.inr (.inr (.inl (by simp)))) (.inr (.inr hng)),by simp[Et]⟩
    ·have h:(aj (kR x) fun a=>aj (kR y) fun b=>iH (List.replicate c (jB d)) a b)=some b:=h
     (replace h:=ai h;obtain⟨xs,hxs,h⟩:=h)
     rw[jD hxs]at hx
     obtain⟨xs',rfl,vS⟩:=hx.lF
     exact⟨h1,fK w (.inr (.inr (.inl (by simp)))) (.inr (.inr hng)),by simp[Et]⟩
theorem jE{op:BinOp}{t:TypeId}{ox oy:Operand}{x y v:Value}{w:World}(h1:(eqGuard op t ox oy x y).run P w=.ok () w)(h2:(binOp op t x y).run P w=.ok v w):
 (do eqGuard op t ox oy x y;binOp op t x y:Sem Value).run P w=.ok v w:=by
 simp[h1,h2]
theorem ZH{op:BinOp}{t:TypeId}{ox oy:Operand}{x y x' y' v:Value}(h:eF P op t ox oy x y=some v)(hx:VR m x x')(hy:VR m y y')
 (hox:∀c,ox=.const c→x=c)(hoy:∀c,oy=.const c→y=c):
 VR m v v∧∀w,(do eqGuard op t ox oy x' y';binOp op t x' y':Sem Value).run P w=.ok v w:=by
 unfold eF at h
 cases hi:jk x with
 |some a=>
  rw[hi]at h
  have hxe:=gW hi
  rw[hxe]at hx
  have hx:=hx.of_int
  have g:∀w,(eqGuard op t ox oy x' y').run P w=.ok () w:=fun w=>fK w (.inr (.inr (.inl (by rw[hx];simp)))) (.inl (by rw[hx];simp))
  cases hsh:AZ op with
  |true=>
   rw[hsh]at h
   have h:Q_ op t x y=some v:=h
   (replace h:=ai h;obtain⟨p,hp,h⟩:=h)
   (replace h:=ai h;obtain⟨q,hq,h⟩:=h)
   have hye:=gW hq
   rw[hye]at hy
   have hy:=hy.of_int
   obtain⟨hs,hr⟩:=og (P:=P) h
   refine⟨.sc _ hs,fun w=>jE (g w) ?_⟩
   rw[hx,hy,←hxe,←hye]
   exact hr w
  |false=>
   rw[hsh]at h
   have h:(aj (jk y) fun b=>gd (Nat.beq (ik a.1) (ik b.1)) (OD op a.1 a.2 b.2))=some v:=h
   (replace h:=ai h;obtain⟨q,hq,h⟩:=h)
   (replace h:=aG h;obtain⟨hk,h⟩:=h)
   have hye:=gW hq
   rw[hye]at hy
   have hy:=hy.of_int
   have hk:=pR hk
   obtain⟨hs,hr⟩:=V' (P:=P) (t:=t) h
   refine⟨.sc _ hs,fun w=>jE (g w) ?_⟩
   rw[hx,hy,←hk]
   exact hr w
 |none=>
  rw[hi]at h
  cases hst:jl x with
  |some a=>
   rw[hst]at h
   have h:(aj (jl y) fun b=>V5 op a b)=some v:=h
   (replace h:=ai h;obtain⟨b,hb,h⟩:=h)
   have hxe:=fJ hst
   have hye:=fJ hb
   rw[hxe]at hx;rw[hye]at hy
   have hx:=hx.jV
   have hy:=hy.jV
   obtain⟨hs,hr⟩:=V_ (P:=P) (t:=t) h
   refine⟨.sc _ hs,fun w=>jE (fK w (.inr (.inr (.inl (by rw[hx];simp)))) (.inl (by rw[hx];simp))) ?_⟩
   rw[hx,hy]
   exact hr w
  |none=>
   rw[hst]at h
   cases OU:Nat.ble 1 (lg x)with
   |true=>
    rw[OU]at h
    have h:Kk op t x y=some v:=h
    have h0:=h
    obtain⟨hv,hr⟩:=OO (P:=P) h hx hy
    have hsx:eU x=true:=by
     have:=Nat.le_of_ble_eq_true OU
     cases x<;>simp[lg]at this<;>rfl
    have hx:=hx.lY hsx
    have hne:(x'≠.nilIface)∧∀c,x'≠.agg c:=by
     rw[hx]
     have:=Nat.le_of_ble_eq_true OU
     constructor
     ·intro e;rw[e]at this;simp[lg]at this
     ·intro c e;rw[e]at this;simp[lg]at this
    exact⟨hv,fun w=>jE (fK w (.inr (.inr (.inl hne.1))) (.inl hne.2)) (hr w)⟩
   |false=>
    rw[OU]at h
    have h:vk op (VM P t ox oy x y)=some v:=h
    have hz:lg x=0:=by
     rcases Nat.eq_zero_or_pos (lg x)with h0|h0
     ·exact h0
     ·rw[Nat.ble_eq_true_of_le h0]at OU;cases OU
    have key:∀b,VM P t ox oy x y=some b→∀w,(eqGuard op t ox oy x' y').run P w=.ok () w∧(binOp .eql t x' y').run P w=.ok (.bool b) w∧(binOp .neq t x' y').run P w=.ok (.bool (!b)) w:=by
     intro b hb w
     obtain⟨h1,h2,h3,h4,h5,h6⟩:=ZG (op:=op) hb hx hy hox hoy ⟨hi,hst,hz⟩ w
     exact⟨h2,binOp_eql h1 h3 h4 h5 h6⟩
    cases op<;>simp only[vk,nV]at h
    case eql=>
     have h:(aj (VM P t ox oy x y) fun b=>some (Value.bool b))=some v:=h
     (replace h:=ai h;obtain⟨b,hb,h⟩:=h)
     cases h
     exact⟨.sc _ rfl,fun w=>jE (key b hb w).1 (key b hb w).2.1⟩
    case neq=>
     have h:(aj (VM P t ox oy x y) fun b=>some (Value.bool (!b)))=some v:=h
     (replace h:=ai h;obtain⟨b,hb,h⟩:=h)
     cases h
     exact⟨.sc _ rfl,fun w=>jE (key b hb w).1 (key b hb w).2.2⟩
    all_goals cases h
end ops
section ops
variable{P:Program}{m:Mp}
theorem We{c a b v c' a' b':Value}(h:BB c a b=some v)(hc:VR m c c')(ha:VR m a a')(hb:VR m b b'):
 ∃v',VR m v v'∧∀w,(do pure (if←asBool c' then a' else b'):Sem Value).run P w=.ok v' w:=by
 (replace h:=ai h;obtain⟨t,ht,h⟩:=h)
 cases h
 rw[gB ht]at hc
 have:=hc.of_bool;subst this
 cases t
 ·exact⟨b',hb,fun w=>by simp[asBool]⟩
 ·exact⟨a',ha,fun w=>by simp[asBool]⟩
theorem Wh{op:UnOp}{x v x':Value}(h:bV (Op.unary op x)=some v)(hx:VR m x x'):VR m v v∧∀w,(Op.unary op x').run P w=.ok v w:=by
 obtain⟨hs,hr⟩:=og (P:=P) h
 have:x'=x:=by
  apply hx.lY
  cases x<;>first|rfl|(exfalso;cases op<;>simp[Op.unary,bV,stuck]at h;done)|skip
  case pointer a=>cases a<;>first|rfl|(exfalso;cases op<;>simp[Op.unary,bV,stuck,unsupported]at h)
 subst this
 exact⟨.sc _ hs,hr⟩
theorem Wi{s d:TypeId}{x v x':Value}(h:vo P s d x=some v)(hx:VR m x x'):VR m v v∧∀w,(convert s d x').run P w=.ok v w:=by
 (replace h:=ai h;obtain⟨ds,hds,h⟩:=h)
 (replace h:=ai h;obtain⟨dd,hdd,h⟩:=h)
 cases hi:jk x with
 |some a=>
  rw[hi]at h
  have hxe:=gW hi
  rw[hxe]at hx
  have hx:=hx.of_int;subst hx
  cases hk:DL dd with
  |some k=>
   replace h:(@Option.rec IntKind (fun _=>Option Value) (av (rQ dd) (some (.string (Utf8.encode a.2))) (aj (yF dd) fun k=>bV (Conv.intToFloat k a.2))) (fun k=>some (.int k (fO k a.2))) (DL dd))=some v:=h
   rw[hk]at h
   cases h
   have:=MV hk;subst this
   exact⟨.sc _ rfl,fun w=>by simp[convert,aB hds,aB hdd,Conv.intToInt,xz]⟩
  |none=>
   replace h:(@Option.rec IntKind (fun _=>Option Value) (av (rQ dd) (some (.string (Utf8.encode a.2))) (aj (yF dd) fun k=>bV (Conv.intToFloat k a.2))) (fun k=>some (.int k (fO k a.2))) (DL dd))=some v:=h
   rw[hk]at h
   cases hs:rQ dd with
   |true=>
    rw[hs]at h
    cases h
    have:=xy hs;subst this
    exact⟨.sc _ rfl,fun w=>by simp[convert,aB hds,aB hdd,Conv.intToString]⟩
   |false=>
    rw[hs]at h
    replace h:(aj (yF dd) fun k=>bV (Conv.intToFloat k a.2))=some v:=h
    (replace h:=ai h;obtain⟨k,hf,h⟩:=h)
    have:=OJ hf;subst this
    obtain⟨hs,hr⟩:=og (P:=P) h
    exact⟨.sc _ hs,fun w=>by simp[convert,aB hds,aB hdd,hr]⟩
 |none=>
  rw[hi]at h
  replace h:(aj (jl x) fun b=>gd (rQ dd) (some (.string b)))=some v:=h
  (replace h:=ai h;obtain⟨b,hb,h⟩:=h)
  (replace h:=aG h;obtain⟨hg,h⟩:=h)
  cases h
  rw[fJ hb]at hx
  have hx:=hx.jV;subst hx
  have:=xy hg;subst this
  refine⟨.sc _ rfl,fun w=>?_⟩
  cases ds<;>simp[convert,aB hds,aB hdd]
theorem ZI{t:TypeId}{x v x':Value}(h:Ko P t x=some v)(hx:VR m x x'):∃v',VR m v v'∧∀w,(Instr.makeInterface t x').run P w=.ok v' w:=by
 (replace h:=ai h;obtain⟨d,hd,h⟩:=h)
 (replace h:=aG h;obtain⟨hg,h⟩:=h)
 cases h
 refine⟨.iface t x',.iface t _ _ hx,fun w=>?_⟩
 cases d<;>simp[Instr.makeInterface,aB hd]<;>simp[Q7]at hg
theorem Ky{i:Nat}{x v x':Value}(h:l9 x i=some v)(hx:VR m x x'):∃v',VR m v v'∧∀w,(Instr.extract x' i).run P w=.ok v' w:=by
 (replace h:=ai h;obtain⟨l,hl,h⟩:=h)
 rw[V6 hl]at hx
 obtain⟨l',rfl,hr⟩:=hx.FE
 rw[fH]at h
 obtain⟨v',hv',Yj⟩:=hr.get i h
 exact⟨v',Yj,fun w=>by simp[Instr.extract,hv']⟩
theorem Ik{x v x':Value}(h:Fw x=some v)(hx:VR m x x')(ρ:Operand→Value)(o:Oper)(xo:Operand)(ho:o.op=.nilCheck xo)(hρ:ρ xo=x'):
 VR m v x'∧∀w,(execOp ρ o).run P w=.ok (.value x') w:=by
 unfold Fw at h
 cases hp:gT x with
 |some a=>
  rw[hp]at h
  cases h
  refine⟨hx,fun w=>?_⟩
  rw[fI hp]at hx
  obtain⟨l,hm,hlo,hsp,rfl⟩:=hx.jf
  simp[execOp,ho,hρ]
 |none=>
  rw[hp]at h
  replace h:(aj (Q5 x) fun f=>aj (VL f.1) fun _=>some x)=some v:=h
  (replace h:=ai h;obtain⟨f,hf,h⟩:=h)
  (replace h:=ai h;obtain⟨g,hg,h⟩:=h)
  cases h
  refine⟨hx,fun w=>?_⟩
  rw[FC hf,FD hg]at hx
  obtain⟨x1,y1,rfl,_,_⟩:=hx.Rm
  simp[execOp,ho,hρ]
theorem ZJ{b:Bool}{x y v x' y':Value}(h:mm2 b x y=some v)(hx:VR m x x')(hy:VR m y y'):
 VR m v v∧∀w,((if b then Builtin.max2 x' y' else Builtin.min2 x' y').run P w=.ok v w):=by
 (replace h:=ai h;obtain⟨p,hp,h⟩:=h)
 (replace h:=ai h;obtain⟨q,hq,h⟩:=h)
 (replace h:=aG h;obtain⟨hg,h⟩:=h)
 cases h
 have e1:=gW hp
 have e2:=gW hq
 rw[e1]at hx;rw[e2]at hy
 have hx:=hx.of_int
 have hy:=hy.of_int
 have hk:=pR hg
 subst hx;subst hy
 cases b
 ·have e:av (av false (DN p.2 q.2) (DN q.2 p.2)) y x=if q.2<p.2 then y else x:=by
   show av (DN q.2 p.2) y x=_;rw[pI,Kt];simp
  rw[e]
  split
  ·next hlt=>rw[e2];exact⟨.sc _ rfl,fun w=>by simp[Builtin.min2,hlt,hk]⟩
  ·next hlt=>rw[e1];exact⟨.sc _ rfl,fun w=>by simp[Builtin.min2,hlt]⟩
 ·have e:av (av true (DN p.2 q.2) (DN q.2 p.2)) y x=if p.2<q.2 then y else x:=by
   show av (DN p.2 q.2) y x=_;rw[pI,Kt];simp
  rw[e]
  split
  ·next hlt=>rw[e2];exact⟨.sc _ rfl,fun w=>by simp[Builtin.max2,hlt,hk]⟩
  ·next hlt=>rw[e1];exact⟨.sc _ rfl,fun w=>by simp[Builtin.max2,hlt]⟩
theorem ZK{b:Bool}:∀{l l':List Value}{x v x':Value},mmL b l x=some v→VR m x x'→dF m l l'→
 ∃v',VR m v v'∧∀w,((l'.foldlM (if b then Builtin.max2 else Builtin.min2) x':Sem Value).run P w=.ok v' w):=by
 intro l
 induction l with
 |nil=>
  intro l' x v x' h hx hl
  cases hl
  cases h
  exact⟨x',hx,fun w=>by simp⟩
 |cons y l ih=>
  intro l' x v x' h hx hl
  cases hl with
  |cons _ y' _ r' hy hr=>
   replace h:aj (mm2 b x y) (mmL b l)=some v:=h
   (replace h:=ai h;obtain⟨z,hz,h⟩:=h)
   obtain⟨hzz,hrun⟩:=ZJ (P:=P) hz hx hy
   obtain⟨v',hv,hrest⟩:=ih h hzz hr
   refine⟨v',hv,fun w=>?_⟩
   have h1:=hrun w
   cases b<;>simp at h1 hrest⊢<;>simp[h1,hrest]
theorem Ry{b:Bool}{args args':List Value}{v:Value}{ats:Array TypeId}{t:TypeId}(h:Ra b args=some v)(ha:dF m args args'):
 ∃v',VR m v v'∧∀w,((if b then Builtin.max_ ats t ⟨args'⟩else Builtin.min_ ats t ⟨args'⟩).run P w=.ok v' w):=by
 cases ha with
 |nil=>cases h
 |cons x x' l l' hx hl=>
  replace h:mmL b l x=some v:=h
  obtain⟨v',hv,hr⟩:=ZK (P:=P) h hx hl
  refine⟨v',hv,fun w=>?_⟩
  have:=hr w
  cases b<;>simpa [Builtin.max_,Builtin.min_]using this
theorem ZL{f:TypeId→Value→Option Value}{ats:List TypeId}{args:List Value}{v:Value}(h:one f ats args=some v):∃t x,ats[0]?=some t∧args[0]?=some x∧f t x=some v:=by
 (replace h:=ai h;obtain⟨t,ht,h⟩:=h)
 (replace h:=ai h;obtain⟨x,hx,h⟩:=h)
 exact⟨t,x,by rw[←fH];exact ht,by rw[←fH];exact hx,h⟩
theorem Wj{ats:List TypeId}{args args':List Value}{v:Value}{t:TypeId}(h:one (BC P) ats args=some v)(ha:dF m args args'):
 VR m v v∧∀w,(Builtin.len_ ⟨ats⟩ t ⟨args'⟩).run P w=.ok v w:=by
 obtain⟨t,x,ht,hx,h⟩:=ZL h
 obtain⟨x',hx',vS⟩:=ha.get 0 hx
 (replace h:=ai h;obtain⟨d,hd,h⟩:=h)
 cases h1:rQ d with
 |true=>
  rw[h1]at h
  have:=xy h1;subst this
  replace h:(aj (jl x) fun s=>some (Value.int .i64 (.ofNat (len s.data.toList))))=some v:=h
  (replace h:=ai h;obtain⟨s,hs,h⟩:=h)
  cases h
  rw[fJ hs]at vS
  have:=vS.jV;subst this
  refine⟨.sc _ rfl,fun w=>?_⟩
  simp[Builtin.len_,ht,hx',aB hd,goInt,aM]
 |false=>
  rw[h1]at h
  have h:(av (Nat.beq (l8 d) 2) (aj (Av x) fun p=>some (.int .i64 (.ofNat p.2.1)))
   (av (Nat.beq (l8 d) 3) (aj (DK x) fun r=>gd (aD r) (some (.int .i64 0)))
    (aj (HZ d) fun a=>some (.int .i64 (.ofNat a.1)))))=some v:=h
  cases h2:Nat.beq (l8 d) 2 with
  |true=>
   rw[h2]at h
   replace h:(aj (Av x) fun p=>some (Value.int .i64 (.ofNat p.2.1)))=some v:=h
   (replace h:=ai h;obtain⟨p,hp,h⟩:=h)
   cases h
   have e2:=Nat.eq_of_beq_eq_true h2
   have hdd:∃e,d=.slice e:=by cases d<;>simp[l8]at e2;exact⟨_,rfl⟩
   obtain⟨e,rfl⟩:=hdd
   rw[lD hp]at vS
   refine⟨.sc _ rfl,fun w=>?_⟩
   cases hpa:p.1 with
   |none=>
    rw[hpa]at vS
    obtain⟨e1,e2,rfl⟩:=vS.jL
    simp[Builtin.len_,ht,hx',aB hd,goInt,e1]
   |some a=>
    rw[hpa]at vS
    rcases vS.of_slice with⟨l,cc,_,_,_,rfl,_⟩|⟨a',e1,_,rfl⟩
    ·simp[Builtin.len_,ht,hx',aB hd,goInt]
    ·simp[Builtin.len_,ht,hx',aB hd,goInt,e1]
  |false=>
   rw[h2]at h
   have h:(av (Nat.beq (l8 d) 3) (aj (DK x) fun r=>gd (aD r) (some (.int .i64 0)))
    (aj (HZ d) fun a=>some (.int .i64 (.ofNat a.1))))=some v:=h
   cases h3:Nat.beq (l8 d) 3 with
   |true=>
    rw[h3]at h
    replace h:(aj (DK x) fun r=>gd (aD r) (some (Value.int .i64 0)))=some v:=h
    (replace h:=ai h;obtain⟨r,hr,h⟩:=h)
    (replace h:=aG h;obtain⟨hg,h⟩:=h)
    cases h
    have e3:=Nat.eq_of_beq_eq_true h3
    have hdd:∃k e,d=.map k e:=by cases d<;>simp[l8]at e3;exact⟨_,_,rfl⟩
    obtain⟨k,e,rfl⟩:=hdd
    cases r with
    |some _=>cases hg
    |none=>
     rw[uD hr]at vS
     have:=vS.lY rfl;subst this
     exact⟨.sc _ rfl,fun w=>by simp[Builtin.len_,ht,hx',aB hd,goInt]⟩
   |false=>
    rw[h3]at h
    replace h:(aj (HZ d) fun a=>some (Value.int .i64 (.ofNat a.1)))=some v:=h
    (replace h:=ai h;obtain⟨a,ha',h⟩:=h)
    cases h
    have:=FF ha';subst this
    exact⟨.sc _ rfl,fun w=>by simp[Builtin.len_,ht,hx',aB hd,goInt]⟩
end ops
end Go.Ae
