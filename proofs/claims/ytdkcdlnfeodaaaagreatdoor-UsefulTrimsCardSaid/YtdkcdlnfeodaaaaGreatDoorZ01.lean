/-
  Part 1 of the proof. No condition.
-/
import Derived.Test.YtdkcdlnfeodaaaaGreatDoorRows
import Derived.Test.YtdkcdlnfeodaaaaGreatDoorProg
import Derived.Below
import Derived.RowKit3
import Derived.Lib.Bytealg
import Derived.Calls
import Derived.Control
import Derived.Orders
import Derived.Scope
import Derived.Laws.Externs
import Derived.Laws.Tables
import Derived.Lib.UnsafeStr
import Derived.Lib.ConvBytes
import Derived.Laws.BytesString
import Derived.Laws.IdiomStrings
import Derived.Laws.Sem
import Derived.Laws.Cells
import Derived.Laws.World
import Derived.Laws.StructEq
import Derived.IntWalk
import Derived.Laws.Strings
import Derived.ChangeKeysEq
import Derived.ProofKit
import Derived.OpenShut
import Derived.Carry
import Derived.Deep.Slices
import Derived.Deep.Fields
import Derived.ChangeSame
import Derived.LaidMore
import Derived.Lay
import Derived.JoinedOf
import Derived.Test.YtdkcdlnfeodaaaaGreatDoorCards
import Derived.Test.YtdkcdlnfeodaaaaGreatDoorTie
import Derived.SevenTiedAt
import Derived.Stop.Joined
set_option linter.unusedVariables false
set_option linter.unusedSimpArgs false
namespace Go.Ae
inductive Tr(α:Type)where
 |nil
 |node(l:Tr α)(v:α)(r:Tr α)
namespace Tr
variable{α:Type}
noncomputable def get(d:α)(t:Tr α):Nat→α:=
 @Tr.rec α (fun _=>Nat→α) (fun _=>d)
  (fun _ v _ gl gr k=>@Nat.rec (fun _=>α) v (fun k _=>@Bool.rec (fun _=>α) (gr (Nat.div k 2)) (gl (Nat.div k 2)) (Nat.beq (Nat.mod k 2) 0)) k) t
noncomputable def GM(d:α)(x:α):Nat→Tr α→Nat→Tr α:=
 @Nat.rec (fun _=>Tr α→Nat→Tr α) (fun t _=>t) (fun _ ih t k=>
  @Nat.rec (fun _=>Tr α) (@Tr.rec α (fun _=>Tr α) (.node .nil x .nil) (fun l _ r _ _=>.node l x r) t)
   (fun k _=>@Tr.rec α (fun _=>Tr α)
    (@Bool.rec (fun _=>Tr α) (.node .nil d (ih .nil (Nat.div k 2))) (.node (ih .nil (Nat.div k 2)) d .nil) (Nat.beq (Nat.mod k 2) 0))
    (fun l v r _ _=>@Bool.rec (fun _=>Tr α) (.node l v (ih r (Nat.div k 2))) (.node (ih l (Nat.div k 2)) v r) (Nat.beq (Nat.mod k 2) 0)) t) k)
noncomputable def set(d:α)(t:Tr α)(k:Nat)(x:α):Tr α:=GM d x (Nat.succ k) t k
theorem get_nil(d:α)(k:Nat):(Tr.nil:Tr α).get d k=d:=by cases k<;>rfl
theorem wW(d:α)(l:Tr α)(v:α)(r:Tr α):(Tr.node l v r).get d 0=v:=rfl
theorem nO(d:α)(l:Tr α)(v:α)(r:Tr α)(k:Nat):(Tr.node l v r).get d (k +1)=bif Nat.beq (k %2) 0 then l.get d (k/2)else r.get d (k/2):=by
 show @Bool.rec (fun _=>α) (r.get d (k/2)) (l.get d (k/2)) (Nat.beq (k %2) 0)=_
 cases Nat.beq (k %2) 0<;>rfl
theorem U_(k:Nat):Nat.beq (k %2) 0=decide (k %2=0):=by
 rw[Bool.eq_iff_iff];simp[Nat.beq_eq]
theorem Qj(d:α)(f k:Nat)(x:α):GM d x (f +1) .nil (k +1)=bif Nat.beq (k %2) 0 then .node (GM d x f .nil (k/2)) d .nil else .node .nil d (GM d x f .nil (k/2)):=by
 show @Bool.rec (fun _=>Tr α) _ _ (Nat.beq (k %2) 0)=_
 cases Nat.beq (k %2) 0<;>rfl
theorem NS(d:α)(f k:Nat)(x:α)(l:Tr α)(v:α)(r:Tr α):GM d x (f +1) (.node l v r) (k +1)=bif Nat.beq (k %2) 0 then .node (GM d x f l (k/2)) v r else .node l v (GM d x f r (k/2)):=by
 show @Bool.rec (fun _=>Tr α) _ _ (Nat.beq (k %2) 0)=_
 cases Nat.beq (k %2) 0<;>rfl
theorem Qk(d:α)(f:Nat):∀(t:Tr α)(k:Nat)(x:α)(j:Nat),k<f→
 (GM d x f t k).get d j=if j=k then x else t.get d j:=by
 induction f with
 |zero=>intro t k x j h;omega
 |succ f ih=>
  intro t k x j h
  cases k with
  |zero=>
   cases t with
   |nil=>
    show(Tr.node .nil x .nil).get d j=_
    cases j with
    |zero=>simp[wW]
    |succ j=>rw[nO,get_nil,if_neg (by omega),get_nil];cases Nat.beq (j %2) 0<;>rfl
   |node l v r=>
    show(Tr.node l x r).get d j=_
    cases j with
    |zero=>simp[wW]
    |succ j=>rw[nO,nO,if_neg (by omega)]
  |succ k=>
   have hk:k/2<f:=by omega
   cases t with
   |nil=>
    rw[Qj]
    cases j with
    |zero=>cases hb:Nat.beq (k %2) 0<;>simp[wW,get_nil]
    |succ j=>
     by_cases hjk:j=k
     ·subst hjk
      cases hb:Nat.beq (j %2) 0<;>simp only[cond_true,cond_false,nO,hb,ih _ _ _ _ hk,if_true]
     ·rw[if_neg (by omega)]
      cases hb:Nat.beq (k %2) 0<;>cases hc:Nat.beq (j %2) 0<;>simp only[cond_true,cond_false,nO,hc,get_nil]
      ·rw[ih _ _ _ _ hk,if_neg,get_nil]
       rw[U_]at hb hc
       simp at hb hc;omega
      ·rw[ih _ _ _ _ hk,if_neg,get_nil]
       rw[U_]at hb hc
       simp at hb hc;omega
   |node l v r=>
    rw[NS]
    cases j with
    |zero=>cases hb:Nat.beq (k %2) 0<;>simp[wW]
    |succ j=>
     by_cases hjk:j=k
     ·subst hjk
      cases hb:Nat.beq (j %2) 0<;>simp only[cond_true,cond_false,nO,hb,ih _ _ _ _ hk,if_true]
     ·rw[if_neg (by omega)]
      cases hb:Nat.beq (k %2) 0<;>cases hc:Nat.beq (j %2) 0<;>simp only[cond_true,cond_false,nO,hc]
      ·rw[ih _ _ _ _ hk,if_neg]
       rw[U_]at hb hc
       simp at hb hc;omega
      ·rw[ih _ _ _ _ hk,if_neg]
       rw[U_]at hb hc
       simp at hb hc;omega
theorem jR(d:α)(t:Tr α)(k:Nat)(x:α)(j:Nat):(t.set d k x).get d j=if j=k then x else t.get d j:=
 Qk d (k +1) t k x j (by omega)
noncomputable def jH(d:α)(l:List α):Nat→Tr α→Tr α:=
 @List.rec α (fun _=>Nat→Tr α→Tr α) (fun _ t=>t) (fun x _ ih k t=>ih (Nat.succ k) (t.set d k x)) l
theorem Va(d:α)(k:Nat)(t:Tr α):jH d [] k t=t:=rfl
theorem Ql(d:α)(x:α)(l:List α)(k:Nat)(t:Tr α):jH d (x::l) k t=jH d l (k +1) (t.set d k x):=rfl
theorem dX(d:α):∀(l:List α)(k:Nat)(t:Tr α)(j:Nat),
 (jH d l k t).get d j=if k≤j∧j<k +l.length then l.getD (j -k) d else t.get d j:=by
 intro l
 induction l with
 |nil=>intro k t j;simp[Va];intro h1 h2;omega
 |cons x l ih=>
  intro k t j
  simp only[Ql,ih,jR,List.length_cons]
  by_cases h:k +1≤j∧j<k +1 +l.length
  ·rw[if_pos h,if_pos (by omega),show j -k=(j -(k +1)) +1 from by omega];rfl
  ·rw[if_neg h]
   by_cases hj:j=k
   ·subst hj;simp
   ·rw[if_neg hj,if_neg (by omega)]
noncomputable def vG(d:α)(t:Tr α)(k n:Nat):List α:=
 @Nat.rec (fun _=>Nat→List α) (fun _=>[]) (fun _ ih k=>t.get d k::ih (Nat.succ k)) n k
theorem rV(d:α)(t:Tr α)(k:Nat):vG d t k 0=[]:=rfl
theorem l6(d:α)(t:Tr α)(k n:Nat):vG d t k (n +1)=t.get d k::vG d t (k +1) n:=rfl
end Tr
end Go.Ae
namespace Go.Ae
noncomputable def ai{α β:Type}(o:Option α)(k:α→Option β):Option β:=
 @Option.rec α (fun _=>(α→Option β)→Option β) (fun _=>none) (fun x k=>k x) o k
theorem AZ{α β:Type}(x:α)(k:α→Option β):ai (some x) k=k x:=rfl
theorem ae{α β:Type}{o:Option α}{k:α→Option β}{r:β}(h:ai o k=some r):∃x,o=some x∧k x=some r:=by
 cases o with
 |none=>cases h
 |some x=>exact⟨x,rfl,h⟩
noncomputable def gd{β:Type}(b:Bool)(o:Option β):Option β:=
 @Bool.rec (fun _=>Option β→Option β) (fun _=>none) (fun o=>o) b o
theorem aJ{β:Type}{b:Bool}{o:Option β}{r:β}(h:gd b o=some r):b=true∧o=some r:=by
 cases b with
 |false=>cases h
 |true=>exact⟨rfl,h⟩
theorem uy{β:Type}(o:Option β):gd true o=o:=rfl
noncomputable def av{β:Type}(b:Bool)(x y:β):β:=@Bool.rec (fun _=>β→β→β) (fun _ y=>y) (fun x _=>x) b x y
theorem fT{β:Type}(x y:β):av true x y=x:=rfl
theorem bX{β:Type}(x y:β):av false x y=y:=rfl
noncomputable def nth{α:Type}(l:List α):Nat→Option α:=
 @List.rec α (fun _=>Nat→Option α) (fun _=>none) (fun x _ ih k=>@Nat.rec (fun _=>Option α) (some x) (fun k _=>ih k) k) l
theorem fB{α:Type}(l:List α):∀k,nth l k=l[k]?:=by
 induction l with
 |nil=>intro k;cases k<;>rfl
 |cons x l ih=>intro k;cases k with
  |zero=>rfl
  |succ k=>exact(ih k).trans (by simp)
noncomputable def len{α:Type}(l:List α):Nat:=@List.rec α (fun _=>Nat) 0 (fun _ _ n=>Nat.succ n) l
theorem aP{α:Type}(l:List α):len l=l.length:=by
 induction l with
 |nil=>rfl
 |cons x l ih=>exact congrArg Nat.succ ih
noncomputable def mp{α β:Type}(f:α→β)(l:List α):List β:=@List.rec α (fun _=>List β) [] (fun x _ r=>f x::r) l
theorem wX{α β:Type}(f:α→β)(l:List α):mp f l=l.map f:=by
 induction l with
 |nil=>rfl
 |cons x l ih=>exact congrArg (f x::·) ih
noncomputable def app{α:Type}(a b:List α):List α:=@List.rec α (fun _=>List α) b (fun x _ r=>x::r) a
theorem ja{α:Type}(a b:List α):app a b=a++b:=by
 induction a with
 |nil=>rfl
 |cons x l ih=>exact congrArg (x::·) ih
noncomputable def all'{α:Type}(f:α→Bool)(l:List α):Bool:=@List.rec α (fun _=>Bool) true (fun x _ r=>av (f x) r false) l
theorem all_eq{α:Type}(f:α→Bool)(l:List α):all' f l=l.all f:=by
 induction l with
 |nil=>rfl
 |cons x l ih=>
  show av (f x) (all' f l) false=_
  rw[ih,List.all_cons];cases f x<;>rfl
noncomputable def tk{α:Type}(n:Nat):List α→List α:=@Nat.rec (fun _=>List α→List α) (fun _=>[]) (fun _ ih l=>@List.rec α (fun _=>List α) [] (fun x r _=>x::ih r) l) n
theorem zi{α:Type}(n:Nat):∀(l:List α),tk n l=l.take n:=by
 induction n with
 |zero=>intro l;show[]=l.take 0;simp
 |succ n ih=>intro l;cases l with
  |nil=>rfl
  |cons x l=>exact congrArg (x::·) (ih l)
noncomputable def dp{α:Type}(n:Nat):List α→List α:=@Nat.rec (fun _=>List α→List α) (fun l=>l) (fun _ ih l=>@List.rec α (fun _=>List α) [] (fun _ r _=>ih r) l) n
theorem DV{α:Type}(n:Nat):∀(l:List α),dp n l=l.drop n:=by
 induction n with
 |zero=>intro l;rfl
 |succ n ih=>intro l;cases l with
  |nil=>rfl
  |cons x l=>exact ih l
structure Row where
 ty:TypeId
 cells:Tr Value
 n:Nat
 dD:Bool
 fz:Nat
inductive dw where
 |dead
 |row(r:Row)
 |map(es:List (Value×Value))
 |rW(s:ByteArray)(pos:Nat)
noncomputable def kr(o:dw):Option Row:=@dw.rec (fun _=>Option Row) none (fun r=>some r) (fun _=>none) (fun _ _=>none) o
noncomputable def ER(o:dw):Option (List (Value×Value)):=@dw.rec (fun _=>Option (List (Value×Value))) none (fun _=>none) (fun m=>some m) (fun _ _=>none) o
noncomputable def aad(o:dw):Option (ByteArray×Nat):=@dw.rec (fun _=>Option (ByteArray×Nat)) none (fun _=>none) (fun _=>none) (fun s p=>some (s,p)) o
theorem jS{o:dw}{r:Row}(h:kr o=some r):o=.row r:=by cases o<;>cases h;rfl
theorem uz{o:dw}{r:List (Value×Value)}(h:ER o=some r):o=.map r:=by cases o<;>cases h;rfl
theorem Vb{o:dw}{r:ByteArray×Nat}(h:aad o=some r):o=.rW r.1 r.2:=by cases o<;>cases h;rfl
noncomputable def top:Value:=.chan (some 0)
structure aa where
 j_:Tr dw
 next:Nat
 low:Nat
noncomputable def aa.obj(H:aa)(r:Nat):dw:=H.j_.get .dead r
noncomputable def aa.put(H:aa)(r:Nat)(o:dw):aa:=⟨H.j_.set .dead r o,H.next,av (Nat.ble H.low r) H.low r⟩
noncomputable def aa.new(H:aa)(o:dw):aa:=⟨H.j_.set .dead H.next o,Nat.succ H.next,H.low⟩
noncomputable def rowOf(ty:TypeId)(vs:List Value):dw:=.row ⟨ty,Tr.jH top vs 0 .nil,len vs,false,0⟩
noncomputable def aQ(es:Nat):Nat:=Nat.add 18446744073709551616 es
noncomputable def aY(c:Nat):Bool:=Nat.ble c 9223372036854775807
noncomputable def aT(v:Value):Bool:=
 @Value.rec (fun _=>Bool) (fun _=>PUnit) (fun _=>PUnit)
  (fun _=>true)
  (fun _ _=>true)
  (fun _ _=>true)
  (fun _ _ _=>true)
  (fun _=>true)
  (fun _=>true)
  (fun _ _ _=>true)
  (fun _=>true)
  (fun r=>false)
  (fun _ _ _ _ _=>true)
  (true)
  (fun _ _ _=>true)
  (true)
  (fun cs _=>false)
  (fun vs _=>false)
  (fun _ _=>⟨⟩) ⟨⟩ (fun _ _ _ _=>⟨⟩) v
noncomputable def k_(v:Value):Bool:=
 @Value.rec (fun _=>Bool) (fun _=>PUnit) (fun _=>PUnit)
  (fun _=>true)
  (fun _ _=>true)
  (fun _ _=>true)
  (fun _ _ _=>true)
  (fun _=>true)
  (fun _=>true)
  (fun _ _ _=>true)
  (fun _=>true)
  (fun r=>false)
  (fun _ _ _ _ _=>true)
  (true)
  (fun _ _ _=>true)
  (true)
  (fun _ _=>true)
  (fun _ _=>true)
  (fun _ _=>⟨⟩) ⟨⟩ (fun _ _ _ _=>⟨⟩) v
noncomputable def gG(v:Value):Option Addr:=
 @Value.rec (fun _=>Option Addr) (fun _=>PUnit) (fun _=>PUnit)
  (fun _=>none)
  (fun _ _=>none)
  (fun _ _=>none)
  (fun _ _ _=>none)
  (fun _=>none)
  (fun a=>a)
  (fun _ _ _=>none)
  (fun _=>none)
  (fun _=>none)
  (fun _ _ _ _ _=>none)
  (none)
  (fun _ _ _=>none)
  (none)
  (fun _ _=>none)
  (fun _ _=>none)
  (fun _ _=>⟨⟩) ⟨⟩ (fun _ _ _ _=>⟨⟩) v
noncomputable def bJ(v:Value):Option Bool:=
 @Value.rec (fun _=>Option Bool) (fun _=>PUnit) (fun _=>PUnit)
  (fun b=>some b)
  (fun _ _=>none)
  (fun _ _=>none)
  (fun _ _ _=>none)
  (fun _=>none)
  (fun _=>none)
  (fun _ _ _=>none)
  (fun _=>none)
  (fun _=>none)
  (fun _ _ _ _ _=>none)
  (none)
  (fun _ _ _=>none)
  (none)
  (fun _ _=>none)
  (fun _ _=>none)
  (fun _ _=>⟨⟩) ⟨⟩ (fun _ _ _ _=>⟨⟩) v
noncomputable def ji(v:Value):Option (IntKind×Int):=
 @Value.rec (fun _=>Option (IntKind×Int)) (fun _=>PUnit) (fun _=>PUnit)
  (fun _=>none)
  (fun k n=>some (k,n))
  (fun _ _=>none)
  (fun _ _ _=>none)
  (fun _=>none)
  (fun _=>none)
  (fun _ _ _=>none)
  (fun _=>none)
  (fun _=>none)
  (fun _ _ _ _ _=>none)
  (none)
  (fun _ _ _=>none)
  (none)
  (fun _ _=>none)
  (fun _ _=>none)
  (fun _ _=>⟨⟩) ⟨⟩ (fun _ _ _ _=>⟨⟩) v
noncomputable def Dh(n:Int):Option Nat:=@Int.rec (fun _=>Option Nat) (fun m=>some m) (fun _=>none) n
noncomputable def oK(v:Value):Option Nat:=
 @Value.rec (fun _=>Option Nat) (fun _=>PUnit) (fun _=>PUnit)
  (fun _=>none)
  (fun k n=>Dh n)
  (fun _ _=>none)
  (fun _ _ _=>none)
  (fun _=>none)
  (fun _=>none)
  (fun _ _ _=>none)
  (fun _=>none)
  (fun _=>none)
  (fun _ _ _ _ _=>none)
  (none)
  (fun _ _ _=>none)
  (none)
  (fun _ _=>none)
  (fun _ _=>none)
  (fun _ _=>⟨⟩) ⟨⟩ (fun _ _ _ _=>⟨⟩) v
noncomputable def vCx(v:Value):Option (FloatKind×Nat×Nat):=
 @Value.rec (fun _=>Option (FloatKind×Nat×Nat)) (fun _=>PUnit) (fun _=>PUnit)
  (fun _=>none)
  (fun _ _=>none)
  (fun _ _=>none)
  (fun k x y=>some (k,x,y))
  (fun _=>none)
  (fun _=>none)
  (fun _ _ _=>none)
  (fun _=>none)
  (fun _=>none)
  (fun _ _ _ _ _=>none)
  (none)
  (fun _ _ _=>none)
  (none)
  (fun _ _=>none)
  (fun _ _=>none)
  (fun _ _=>⟨⟩) ⟨⟩ (fun _ _ _ _=>⟨⟩) v
noncomputable def vFl(v:Value):Option (FloatKind×Nat):=
 @Value.rec (fun _=>Option (FloatKind×Nat)) (fun _=>PUnit) (fun _=>PUnit)
  (fun _=>none)
  (fun _ _=>none)
  (fun k b=>some (k,b))
  (fun _ _ _=>none)
  (fun _=>none)
  (fun _=>none)
  (fun _ _ _=>none)
  (fun _=>none)
  (fun _=>none)
  (fun _ _ _ _ _=>none)
  (none)
  (fun _ _ _=>none)
  (none)
  (fun _ _=>none)
  (fun _ _=>none)
  (fun _ _=>⟨⟩) ⟨⟩ (fun _ _ _ _=>⟨⟩) v
noncomputable def LY(k:FloatKind):Nat:=@FloatKind.rec (fun _=>Nat) 0 1 k
noncomputable def jk(v:Value):Option ByteArray:=
 @Value.rec (fun _=>Option ByteArray) (fun _=>PUnit) (fun _=>PUnit)
  (fun _=>none)
  (fun _ _=>none)
  (fun _ _=>none)
  (fun _ _ _=>none)
  (fun s=>some s)
  (fun _=>none)
  (fun _ _ _=>none)
  (fun _=>none)
  (fun _=>none)
  (fun _ _ _ _ _=>none)
  (none)
  (fun _ _ _=>none)
  (none)
  (fun _ _=>none)
  (fun _ _=>none)
  (fun _ _=>⟨⟩) ⟨⟩ (fun _ _ _ _=>⟨⟩) v
noncomputable def zk(v:Value):Option (Option Addr×Nat×Nat):=
 @Value.rec (fun _=>Option (Option Addr×Nat×Nat)) (fun _=>PUnit) (fun _=>PUnit)
  (fun _=>none)
  (fun _ _=>none)
  (fun _ _=>none)
  (fun _ _ _=>none)
  (fun _=>none)
  (fun _=>none)
  (fun a l c=>some (a,l,c))
  (fun _=>none)
  (fun _=>none)
  (fun _ _ _ _ _=>none)
  (none)
  (fun _ _ _=>none)
  (none)
  (fun _ _=>none)
  (fun _ _=>none)
  (fun _ _=>⟨⟩) ⟨⟩ (fun _ _ _ _=>⟨⟩) v
noncomputable def A_(v:Value):Option (Option Nat):=
 @Value.rec (fun _=>Option (Option Nat)) (fun _=>PUnit) (fun _=>PUnit)
  (fun _=>none)
  (fun _ _=>none)
  (fun _ _=>none)
  (fun _ _ _=>none)
  (fun _=>none)
  (fun _=>none)
  (fun _ _ _=>none)
  (fun r=>some r)
  (fun _=>none)
  (fun _ _ _ _ _=>none)
  (none)
  (fun _ _ _=>none)
  (none)
  (fun _ _=>none)
  (fun _ _=>none)
  (fun _ _=>⟨⟩) ⟨⟩ (fun _ _ _ _=>⟨⟩) v
noncomputable def U0(f:Fn):Option FuncId:=@Fn.rec (fun _=>Option FuncId) (fun f=>some f) (fun _=>none) (fun _ _=>none) (fun _ _ _ _=>none) (fun _=>none) f
noncomputable def Qm(v:Value):Option (Fn×List Value×List Value):=
 @Value.rec (fun _=>Option (Fn×List Value×List Value)) (fun _=>PUnit) (fun _=>PUnit)
  (fun _=>none)
  (fun _ _=>none)
  (fun _ _=>none)
  (fun _ _ _=>none)
  (fun _=>none)
  (fun _=>none)
  (fun _ _ _=>none)
  (fun _=>none)
  (fun _=>none)
  (fun f x y _ _=>some (f,x.toList,y.toList))
  (none)
  (fun _ _ _=>none)
  (none)
  (fun _ _=>none)
  (fun _ _=>none)
  (fun _ _=>⟨⟩) ⟨⟩ (fun _ _ _ _=>⟨⟩) v
noncomputable def kR(v:Value):Option (List Value):=
 @Value.rec (fun _=>Option (List Value)) (fun _=>PUnit) (fun _=>PUnit)
  (fun _=>none)
  (fun _ _=>none)
  (fun _ _=>none)
  (fun _ _ _=>none)
  (fun _=>none)
  (fun _=>none)
  (fun _ _ _=>none)
  (fun _=>none)
  (fun _=>none)
  (fun _ _ _ _ _=>none)
  (none)
  (fun _ _ _=>none)
  (none)
  (fun cs _=>some cs.toList)
  (fun _ _=>none)
  (fun _ _=>⟨⟩) ⟨⟩ (fun _ _ _ _=>⟨⟩) v
noncomputable def Qn(v:Value):Option (List Value):=
 @Value.rec (fun _=>Option (List Value)) (fun _=>PUnit) (fun _=>PUnit)
  (fun _=>none)
  (fun _ _=>none)
  (fun _ _=>none)
  (fun _ _ _=>none)
  (fun _=>none)
  (fun _=>none)
  (fun _ _ _=>none)
  (fun _=>none)
  (fun _=>none)
  (fun _ _ _ _ _=>none)
  (none)
  (fun _ _ _=>none)
  (none)
  (fun _ _=>none)
  (fun vs _=>some vs.toList)
  (fun _ _=>⟨⟩) ⟨⟩ (fun _ _ _ _=>⟨⟩) v
noncomputable def vH(v:Value):Option (TypeId×Value):=
 @Value.rec (fun _=>Option (TypeId×Value)) (fun _=>PUnit) (fun _=>PUnit)
  (fun _=>none)
  (fun _ _=>none)
  (fun _ _=>none)
  (fun _ _ _=>none)
  (fun _=>none)
  (fun _=>none)
  (fun _ _ _=>none)
  (fun _=>none)
  (fun _=>none)
  (fun _ _ _ _ _=>none)
  (none)
  (fun t v _=>some (t,v))
  (none)
  (fun _ _=>none)
  (fun _ _=>none)
  (fun _ _=>⟨⟩) ⟨⟩ (fun _ _ _ _=>⟨⟩) v
noncomputable def aK{α:Type}(o:Option α):Bool:=@Option.rec α (fun _=>Bool) true (fun _=>false) o
noncomputable def iM(v:Value):Nat×Bool:=
 @Value.rec (fun _=>Nat×Bool) (fun _=>PUnit) (fun _=>PUnit)
  (fun _=>(0,false))
  (fun _ _=>(0,false))
  (fun _ _=>(0,false))
  (fun _ _ _=>(0,false))
  (fun _=>(0,false))
  (fun a=>(1,aK a))
  (fun a l c=>(2,aK a))
  (fun r=>(3,aK r))
  (fun _=>(0,false))
  (fun f x y _ _=>(4,false))
  ((4,true))
  (fun t v _=>(5,false))
  ((5,true))
  (fun _ _=>(0,false))
  (fun _ _=>(0,false))
  (fun _ _=>⟨⟩) ⟨⟩ (fun _ _ _ _=>⟨⟩) v
noncomputable def Ba(v:Value):Bool:=
 @Value.rec (fun _=>Bool) (fun _=>PUnit) (fun _=>PUnit)
  (fun _=>false)
  (fun _ _=>false)
  (fun _ _=>false)
  (fun _ _ _=>false)
  (fun _=>false)
  (fun a=>aK a)
  (fun _ _ _=>false)
  (fun r=>aK r)
  (fun _=>false)
  (fun _ _ _ _ _=>false)
  (true)
  (fun _ _ _=>false)
  (true)
  (fun _ _=>false)
  (fun _ _=>false)
  (fun _ _=>⟨⟩) ⟨⟩ (fun _ _ _ _=>⟨⟩) v
noncomputable def gH{α:Type}(o:Option α):Bool:=@Option.rec α (fun _=>Bool) false (fun _=>true) o
noncomputable def ay(v:Value):List Value:=@Option.rec (List Value) (fun _=>List Value) [v] (fun l=>l) (kR v)
noncomputable def eF(v:Value):Bool:=
 @Value.rec (fun _=>Bool) (fun _=>PUnit) (fun _=>PUnit)
  (fun b=>true)
  (fun k n=>true)
  (fun k b=>true)
  (fun k x y=>true)
  (fun s=>true)
  (fun a=>aK a)
  (fun a l c=>aK a&&Nat.beq l 0&&Nat.beq c 0)
  (fun r=>aK r)
  (fun _=>false)
  (fun _ _ _ _ _=>false)
  (true)
  (fun _ _ _=>false)
  (true)
  (fun _ _=>false)
  (fun _ _=>false)
  (fun _ _=>⟨⟩) ⟨⟩ (fun _ _ _ _=>⟨⟩) v
noncomputable def l7(d:TypeDesc):Nat:=
 @TypeDesc.rec (fun _=>Nat)
  (0) (0) (fun _=>0) (fun _=>0) (fun _=>0) (0) (0) (fun e=>1) (fun e=>2) (fun _ _=>0) (fun k e=>3) (fun _ _=>0) (fun _=>0) (fun p r v=>4) (fun ms=>5) (fun _=>0) (fun _ _=>0) d
noncomputable def dSl(d:TypeDesc):Option TypeId:=
 @TypeDesc.rec (fun _=>Option TypeId)
  (none) (none) (fun _=>none) (fun _=>none) (fun _=>none) (none) (none) (fun _=>none) (fun e=>some e) (fun _ _=>none) (fun _ _=>none) (fun _ _=>none) (fun _=>none) (fun _ _ _=>none) (fun _=>none) (fun _=>none) (fun _ _=>none) d
noncomputable def wY(d:TypeDesc):Option TypeId:=
 @TypeDesc.rec (fun _=>Option TypeId)
  (none) (none) (fun _=>none) (fun _=>none) (fun _=>none) (none) (none) (fun e=>some e) (fun _=>none) (fun _ _=>none) (fun _ _=>none) (fun _ _=>none) (fun _=>none) (fun _ _ _=>none) (fun _=>none) (fun _=>none) (fun _ _=>none) d
noncomputable def GN(d:TypeDesc):Option (Nat×TypeId):=
 @TypeDesc.rec (fun _=>Option (Nat×TypeId))
  (none) (none) (fun _=>none) (fun _=>none) (fun _=>none) (none) (none) (fun _=>none) (fun _=>none) (fun n e=>some (n,e)) (fun _ _=>none) (fun _ _=>none) (fun _=>none) (fun _ _ _=>none) (fun _=>none) (fun _=>none) (fun _ _=>none) d
noncomputable def YD(d:TypeDesc):Option (TypeId×TypeId):=
 @TypeDesc.rec (fun _=>Option (TypeId×TypeId))
  (none) (none) (fun _=>none) (fun _=>none) (fun _=>none) (none) (none) (fun _=>none) (fun _=>none) (fun _ _=>none) (fun k e=>some (k,e)) (fun _ _=>none) (fun _=>none) (fun _ _ _=>none) (fun _=>none) (fun _=>none) (fun _ _=>none) d
noncomputable def ES(d:TypeDesc):Option (List Field):=
 @TypeDesc.rec (fun _=>Option (List Field))
  (none) (none) (fun _=>none) (fun _=>none) (fun _=>none) (none) (none) (fun _=>none) (fun _=>none) (fun _ _=>none) (fun _ _=>none) (fun _ _=>none) (fun fs=>some fs.toList) (fun _ _ _=>none) (fun _=>none) (fun _=>none) (fun _ _=>none) d
noncomputable def rH(d:TypeDesc):Bool:=
 @TypeDesc.rec (fun _=>Bool)
  (false) (false) (fun _=>false) (fun _=>false) (fun _=>false) (true) (false) (fun _=>false) (fun _=>false) (fun _ _=>false) (fun _ _=>false) (fun _ _=>false) (fun _=>false) (fun _ _ _=>false) (fun _=>false) (fun _=>false) (fun _ _=>false) d
noncomputable def Qo(d:TypeDesc):Bool:=
 @TypeDesc.rec (fun _=>Bool)
  (false) (false) (fun _=>false) (fun _=>false) (fun _=>false) (false) (false) (fun _=>false) (fun _=>false) (fun _ _=>false) (fun _ _=>false) (fun _ _=>false) (fun _=>false) (fun _ _ _=>false) (fun ms=>true) (fun _=>false) (fun _ _=>false) d
noncomputable def wZ(d:TypeDesc):Bool:=
 @TypeDesc.rec (fun _=>Bool)
  (false) (false) (fun _=>false) (fun _=>false) (fun _=>false) (false) (true) (fun _=>false) (fun _=>false) (fun _ _=>false) (fun _ _=>false) (fun _ _=>false) (fun _=>false) (fun _ _ _=>false) (fun _=>false) (fun _=>false) (fun _ _=>false) d
noncomputable def Di(d:TypeDesc):Option IntKind:=
 @TypeDesc.rec (fun _=>Option IntKind)
  (none) (none) (fun k=>some k) (fun _=>none) (fun _=>none) (none) (none) (fun _=>none) (fun _=>none) (fun _ _=>none) (fun _ _=>none) (fun _ _=>none) (fun _=>none) (fun _ _ _=>none) (fun _=>none) (fun _=>none) (fun _ _=>none) d
noncomputable def yx(d:TypeDesc):Option FloatKind:=
 @TypeDesc.rec (fun _=>Option FloatKind)
  (none) (none) (fun _=>none) (fun k=>some k) (fun _=>none) (none) (none) (fun _=>none) (fun _=>none) (fun _ _=>none) (fun _ _=>none) (fun _ _=>none) (fun _=>none) (fun _ _ _=>none) (fun _=>none) (fun _=>none) (fun _ _=>none) d
noncomputable def JK(d:TypeDesc):Bool:=
 @TypeDesc.rec (fun _=>Bool)
  (false) (false) (fun _=>false) (fun _=>false) (fun _=>false) (false) (false) (fun _=>false) (fun _=>false) (fun n e=>true) (fun _ _=>false) (fun _ _=>false) (fun fs=>true) (fun _ _ _=>false) (fun _=>false) (fun _=>false) (fun _ _=>false) d
noncomputable def jw(d:TypeDesc):Nat:=
 @TypeDesc.rec (fun _=>Nat)
  (0) (2) (fun k=>1) (fun _=>0) (fun _=>0) (3) (0) (fun _=>0) (fun _=>0) (fun _ _=>0) (fun _ _=>0) (fun _ _=>0) (fun _=>0) (fun _ _ _=>0) (fun _=>0) (fun _=>0) (fun _ _=>0) d
noncomputable def Bb(k:IntKind):Bool:=@IntKind.rec (fun _=>Bool) false false false false true false false false k
noncomputable def uY(k:IntKind):Bool:=@IntKind.rec (fun _=>Bool) false false false true false false false false k
noncomputable def ig(k:IntKind):Nat:=@IntKind.rec (fun _=>Nat) 0 1 2 3 4 5 6 7 k
noncomputable def tI(P:Program)(t:TypeId):Option TypeInfo:=P.info? t
noncomputable def ku(P:Program)(t:TypeId):Option Nat:=ai (P.info? t) fun i=>some i.size
noncomputable def Gz(P:Program)(t:TypeId):Option (TypeId×Nat):=ai (P.underlying t) fun d=>ai (dSl d) fun e=>ai (ku P e) fun s=>gd (Nat.ble 1 s) (some (e,s))
noncomputable def GQ(P:Program)(t:TypeId):Option (Nat×TypeId×Nat):=ai (P.underlying t) fun d=>ai (GN d) fun e=>ai (ku P e.2) fun s=>gd (Nat.ble 1 s) (some (e.1,e.2,s))
noncomputable def P6(P:Program)(t:TypeId):Option (Option Nat):=ai (P.underlying t) fun d=>ai (ku P t) fun s=>some (av (JK d) (some s) none)
noncomputable def vI(P:Program)(t:TypeId):Bool:=@Option.rec TypeDesc (fun _=>Bool) false rH (P.underlying t)
noncomputable def zl(P:Program)(t:TypeId):Bool:=@Option.rec TypeDesc (fun _=>Bool) false (fun d=>@Option.rec IntKind (fun _=>Bool) false Bb (Di d)) (P.underlying t)
noncomputable def qA(P:Program)(t:TypeId):Option (TypeId×TypeId):=ai (P.underlying t) YD
noncomputable def yz(v:Value):Bool:=@Option.rec (List Value) (fun _=>Bool) (eF v) (fun l=>all' eF l) (kR v)
noncomputable def uZ(P:Program)(t:TypeId):Option Value:=ai (P.info? t) fun i=>ai i.zero fun z=>gd (yz z) (some z)
noncomputable def o_(P:Program)(t:TypeId):Option (List Value):=ai (uZ P t) fun z=>ai (ku P t) fun s=>gd (Nat.beq (len (ay z)) s) (some (ay z))
noncomputable def Aw(P:Program)(t:TypeId):Option (List Field):=ai (P.underlying t) ES
noncomputable def JL(P:Program)(t:TypeId)(f:Nat):Option (Nat×Option Nat):=ai (Aw P t) fun fs=>ai (nth fs f) fun fd=>ai (P6 P fd.type) fun l=>ai (ku P fd.type) fun s=>gd (Nat.ble 1 s) (some (fd.offset,l))
noncomputable def places(P:Program)(fs:List Field):Option (List (Nat×Nat)):=
 @List.rec Field (fun _=>Option (List (Nat×Nat))) (some []) (fun f _ r=>ai (ku P f.type) fun s=>ai r fun l=>some ((f.offset,s)::l)) fs
noncomputable def LZ(P:Program)(t:TypeId):Option (List (Nat×Nat)):=ai (Aw P t) (places P)
noncomputable def aa.cell(H:aa)(r off:Nat):Option Value:=ai (kr (H.obj r)) fun w=>gd (Nat.ble (Nat.succ off) w.n) (some (w.cells.get top off))
noncomputable def aa.read(H:aa)(r off k:Nat):Option (List Value):=
 @Nat.rec (fun _=>Option (List Value)) (some []) (fun _ _=>ai (kr (H.obj r)) fun w=>gd (Nat.ble (Nat.add off k) w.n) (some (Tr.vG top w.cells off k))) k
noncomputable def aa.write(H:aa)(r off:Nat)(vs:List Value):Option aa:=
 @List.rec Value (fun _=>Option aa) (some H) (fun _ _ _=>ai (kr (H.obj r)) fun w=>
  gd (!w.dD&&Nat.ble (Nat.add off (len vs)) w.n&&Nat.ble w.fz off&&all' aT vs)
   (some (H.put r (.row ⟨w.ty,Tr.jH top vs off w.cells,w.n,false,w.fz⟩)))) vs
noncomputable def bQ(s:Sem Value):Option Value:=match s with
 |.pure v=>gd (eF v) (some v)
 |_=>none
noncomputable def Dj(a b:Int):Bool:=
 @Int.rec (fun _=>Bool) (fun m=>@Int.rec (fun _=>Bool) (fun n=>Nat.ble (Nat.succ m) n) (fun _=>false) b)
  (fun m=>@Int.rec (fun _=>Bool) (fun _=>true) (fun n=>Nat.ble (Nat.succ n) m) b) a
noncomputable def Dk(a b:Int):Bool:=
 @Int.rec (fun _=>Bool) (fun m=>@Int.rec (fun _=>Bool) (fun n=>Nat.beq m n) (fun _=>false) b)
  (fun m=>@Int.rec (fun _=>Bool) (fun _=>false) (fun n=>Nat.beq m n) b) a
noncomputable def fM(k:IntKind)(n:Int):Int:=
 @Int.rec (fun _=>Int) (fun m=>av (uY k&&Nat.ble m 9223372036854775807) (.ofNat m) (k.wrap n)) (fun m=>av (uY k&&Nat.ble m 9223372036854775807) (.negSucc m) (k.wrap n)) n
noncomputable def NT(op:BinOp):IntKind→Int→Int→Option Value:=
 @BinOp.rec (fun _=>IntKind→Int→Int→Option Value) (fun k a b=>some (.int k (fM k (Int.add a b)))) (fun k a b=>some (.int k (fM k (Int.sub a b)))) (fun k a b=>some (.int k (fM k (Int.mul a b)))) (fun k a b=>bQ (Op.intDiv .quo k a b)) (fun k a b=>bQ (Op.intDiv .rem k a b)) (fun k a b=>bQ (Op.intBits .and k a b)) (fun k a b=>bQ (Op.intBits .or k a b)) (fun k a b=>bQ (Op.intBits .xor k a b)) (fun _ _ _=>none) (fun _ _ _=>none) (fun k a b=>bQ (Op.intBits .andNot k a b)) (fun _ a b=>some (.bool (Dk a b))) (fun _ a b=>some (.bool (!(Dk a b)))) (fun _ a b=>some (.bool (Dj a b))) (fun _ a b=>some (.bool (!(Dj b a)))) (fun _ a b=>some (.bool (Dj b a))) (fun _ a b=>some (.bool (!(Dj a b)))) op
noncomputable def nP(op:BinOp):Nat:=@BinOp.rec (fun _=>Nat) (0) (0) (0) (0) (0) (0) (0) (0) (0) (0) (0) (1) (2) (0) (0) (0) (0) op
noncomputable def Ay(op:BinOp):Bool:=@BinOp.rec (fun _=>Bool) (false) (false) (false) (false) (false) (false) (false) (false) (true) (true) (false) (false) (false) (false) (false) (false) (false) op
noncomputable def qw(a b:Bool):Bool:=av a b (!b)
noncomputable def Vd(l:List UInt8):List Nat:=mp (fun b=>b.toNat) l
noncomputable def Bc(l:List Nat):List Nat→Bool:=
 @List.rec Nat (fun _=>List Nat→Bool) (fun m=>@List.rec Nat (fun _=>Bool) true (fun _ _ _=>false) m)
  (fun x _ ih m=>@List.rec Nat (fun _=>Bool) false (fun y r _=>av (Nat.beq x y) (ih r) false) m) l
noncomputable def iJ(x y:ByteArray):Bool:=Bc (Vd x.data.toList) (Vd y.data.toList)
noncomputable def strLt(x y:ByteArray):Bool:=Op.bytesLess x.data.toList y.data.toList
noncomputable def Qp(x y:ByteArray):Option Value:=
 gd (Nat.ble (Nat.add (len x.data.toList) (len y.data.toList)) 4611686018427387904) (some (.string ⟨⟨app x.data.toList y.data.toList⟩⟩))
noncomputable def Ve(op:BinOp):ByteArray→ByteArray→Option Value:=
 @BinOp.rec (fun _=>ByteArray→ByteArray→Option Value) (Qp) (fun _ _=>none) (fun _ _=>none) (fun _ _=>none) (fun _ _=>none) (fun _ _=>none) (fun _ _=>none) (fun _ _=>none) (fun _ _=>none) (fun _ _=>none) (fun _ _=>none) (fun a b=>some (.bool (iJ a b))) (fun a b=>some (.bool (!(iJ a b)))) (fun a b=>some (.bool (strLt a b))) (fun a b=>some (.bool (strLt a b||iJ a b))) (fun a b=>some (.bool (!(strLt a b||iJ a b)))) (fun a b=>some (.bool (!(strLt a b)))) op
noncomputable def lg(k:Nat)(x y:Value):Option Bool:=
 av (Nat.beq k 1) (ai (ji x) fun a=>ai (ji y) fun b=>gd (Nat.beq (ig a.1) (ig b.1)) (some (Dk a.2 b.2)))
  (av (Nat.beq k 2) (ai (bJ x) fun a=>ai (bJ y) fun b=>some (qw a b))
   (av (Nat.beq k 3) (ai (jk x) fun a=>ai (jk y) fun b=>some (iJ a b)) none))
noncomputable def iE(ks:List Nat):List Value→List Value→Option Bool:=
 @List.rec Nat (fun _=>List Value→List Value→Option Bool)
  (fun xs ys=>@List.rec Value (fun _=>Option Bool) (@List.rec Value (fun _=>Option Bool) (some true) (fun _ _ _=>none) ys) (fun _ _ _=>none) xs)
  (fun k _ ih xs ys=>@List.rec Value (fun _=>Option Bool) none (fun x xr _=>@List.rec Value (fun _=>Option Bool) none
   (fun y yr _=>ai (lg k x y) fun b=>av b (ih xr yr) (some false)) ys) xs) ks
noncomputable def iN(P:Program)(fs:List Field):Nat→Option (List Nat):=
 @List.rec Field (fun _=>Nat→Option (List Nat)) (fun _=>some [])
  (fun f _ ih k=>ai (P.underlying f.type) fun d=>ai (ih (Nat.succ k)) fun r=>gd (Nat.beq f.offset k&&!(f.name== "_")&&Nat.ble 1 (jw d)) (some (jw d::r))) fs
noncomputable def Qq{α:Type}(x:α)(n:Nat):List α:=@Nat.rec (fun _=>List α) [] (fun _ r=>x::r) n
noncomputable def GR(P:Program)(t:TypeId):Option (List Nat):=ai (Aw P t) fun fs=>gd (!(P.stoodInHeld t)) (iN P fs 0)
noncomputable def Xi(P:Program)(t:TypeId):Option (List Nat):=ai (P.underlying t) fun d=>ai (GN d) fun a=>ai (P.underlying a.2) fun e=>ai (ku P a.2) fun s=>
 gd (Nat.beq s 1&&Nat.ble 1 (jw e)) (some (Qq (jw e) a.1))
noncomputable def orElse'{α:Type}(o q:Option α):Option α:=@Option.rec α (fun _=>Option α→Option α) (fun q=>q) (fun x _=>some x) o q
noncomputable def Vf(P:Program)(t:TypeId):Option (Sum Nat (List Nat)):=
 ai (P.underlying t) fun d=>av (Nat.ble 1 (jw d)) (some (.inl (jw d))) (ai (orElse' (GR P t) (Xi P t)) fun l=>some (.inr l))
noncomputable def gI(P:Program)(t:TypeId)(x y:Value):Option Bool:=
 ai (Vf P t) fun q=>@Sum.rec Nat (List Nat) (fun _=>Option Bool) (fun k=>lg k x y)
  (fun l=>ai (kR x) fun a=>ai (kR y) fun b=>iE l a b) q
noncomputable def jl(o:Operand):Bool:=
 @Operand.rec (fun _=>Bool) (fun _=>false) (fun v=>(iM v).2) (fun _=>false) (fun _=>false) o
noncomputable def yA(P:Program)(t:TypeId):Nat:=@Option.rec TypeDesc (fun _=>Nat) 0 l7 (P.underlying t)
noncomputable def DW(k:Nat)(c x:Value):Option Bool:=gd (Nat.ble 1 k&&Nat.beq (iM x).1 k&&Nat.beq (iM c).1 k) (some (iM x).2)
noncomputable def yB(P:Program)(t:TypeId):Bool:=
 @Option.rec Unit (fun _=>Bool) false (fun _=>true) (ai (P.underlying t) fun d=>ai (wY d) fun e=>ai (ku P e) fun s=>gd (Nat.ble 1 s) (some ()))
noncomputable def ptrEq(x y:Value):Option Bool:=ai (gG x) fun a=>ai (gG y) fun b=>gd (Nat.beq a.block b.block) (some (Nat.beq a.off b.off))
noncomputable def P7(P:Program)(t:TypeId)(ox oy:Operand)(x y:Value):Option Bool:=
 av (jl oy) (DW (yA P t) y x) (av (jl ox) (DW (yA P t) x y) (av (yB P t) (ptrEq x y) (gI P t x y)))
noncomputable def rX(op:BinOp)(b:Option Bool):Option Value:=
 av (Nat.beq (nP op) 1) (ai b fun b=>some (.bool b)) (av (Nat.beq (nP op) 2) (ai b fun b=>some (.bool (!b))) none)
noncomputable def Qr(op:BinOp)(t:TypeId)(x y:Value):Option Value:=ai (ji x) fun _=>ai (ji y) fun _=>bQ (binOp op t x y)
noncomputable def lq(v:Value):Nat:=
 @Value.rec (fun _=>Nat) (fun _=>PUnit) (fun _=>PUnit)
  (fun _=>0)
  (fun _ _=>0)
  (fun k b=>1)
  (fun k x y=>2)
  (fun _=>0)
  (fun _=>0)
  (fun _ _ _=>0)
  (fun _=>0)
  (fun _=>0)
  (fun _ _ _ _ _=>0)
  (0)
  (fun _ _ _=>0)
  (0)
  (fun _ _=>0)
  (fun _ _=>0)
  (fun _ _=>⟨⟩) ⟨⟩ (fun _ _ _ _=>⟨⟩) v
noncomputable def JM(op:BinOp)(t:TypeId)(x y:Value):Option Value:=gd (Nat.ble 1 (lq x)&&Nat.beq (lq x) (lq y)) (bQ (binOp op t x y))
noncomputable def eD(P:Program)(op:BinOp)(t:TypeId)(ox oy:Operand)(x y:Value):Option Value:=
 @Option.rec (IntKind×Int) (fun _=>Option Value)
  (@Option.rec ByteArray (fun _=>Option Value) (av (Nat.ble 1 (lq x)) (JM op t x y) (rX op (P7 P t ox oy x y))) (fun a=>ai (jk y) fun b=>Ve op a b) (jk x))
  (fun a=>av (Ay op) (Qr op t x y) (ai (ji y) fun b=>gd (Nat.beq (ig a.1) (ig b.1)) (NT op a.1 a.2 b.2))) (ji x)
noncomputable def u_(P:Program)(s d:TypeId)(x:Value):Option Value:=
 ai (P.underlying s) fun _=>ai (P.underlying d) fun e=>
  @Option.rec (IntKind×Int) (fun _=>Option Value) (ai (jk x) fun b=>gd (rH e) (some (.string b)))
   (fun a=>@Option.rec IntKind (fun _=>Option Value) (av (rH e) (some (.string (Utf8.encode a.2))) (ai (yx e) fun k=>bQ (Conv.intToFloat k a.2))) (fun k=>some (.int k (fM k a.2))) (Di e)) (ji x)
noncomputable def apart(l:Option Nat)(cs:List Value)(off:Nat):Option Value:=
 @Option.rec Nat (fun _=>Option Value) (nth cs off) (fun n=>gd (Nat.ble (Nat.add off n) (len cs)) (some (.agg ⟨tk n (dp off cs)⟩))) l
noncomputable def eG(o:Option Value)(d:Nat):Option Nat:=@Option.rec Value (fun _=>Option Nat) (some d) oK o
noncomputable def rY(m l off sz:Nat):Nat:=av (Nat.beq m l) off (Nat.add off (Nat.mul l sz))
noncomputable def ET(s:ByteArray)(lo hi:Option Value):Option Value:=
 ai (eG lo 0) fun l=>ai (eG hi (len s.data.toList)) fun h=>gd (Nat.ble l h&&Nat.ble h (len s.data.toList))
  (some (.string ⟨⟨tk (Nat.sub h l) (dp l s.data.toList)⟩⟩))
noncomputable def L5(sz:Nat)(p:Option Addr×Nat×Nat)(lo hi mx:Option Value):Option Value:=
 @Option.rec Addr (fun _=>Option Value)
  (ai (eG lo 0) fun l=>ai (eG hi 0) fun h=>ai (eG mx 0) fun m=>gd (Nat.beq l 0&&Nat.beq h 0&&Nat.beq m 0&&Nat.beq p.2.1 0&&Nat.beq p.2.2 0&&(!(aK hi)||aK mx)) (some (.slice none 0 0)))
  (fun a=>ai (eG lo 0) fun l=>ai (eG hi p.2.1) fun h=>
   av (aY p.2.2)
    (ai (eG mx p.2.2) fun m=>gd (Nat.ble l h&&Nat.ble h m&&Nat.ble m p.2.2&&(!(aK hi)||aK mx))
     (some (.slice (some ⟨a.block,rY m l a.off sz,none⟩) (Nat.sub h l) (Nat.sub m l))))
    (gd (Nat.beq p.2.2 (aQ sz)) (@Option.rec Value (fun _=>Option Value)
     (gd (Nat.ble l h&&Nat.ble h p.2.1) (some (.slice (some ⟨a.block,Nat.add a.off (Nat.mul l sz),none⟩) (Nat.sub h l) p.2.2)))
     (fun mv=>ai (oK mv) fun m=>gd (Nat.ble l h&&Nat.ble h m&&Nat.ble m p.2.1&&!(aK hi)&&aY m)
      (some (.slice (some ⟨a.block,rY m l a.off sz,none⟩) (Nat.sub h l) (Nat.sub m l)))) mx))) p.1
noncomputable def JN(n sz:Nat)(a:Addr)(lo hi mx:Option Value):Option Value:=
 ai (eG lo 0) fun l=>ai (eG hi n) fun h=>gd (Nat.ble l h&&Nat.ble h n&&aK mx&&aY n)
  (some (.slice (some ⟨a.block,rY n l a.off sz,none⟩) (Nat.sub h l) (Nat.sub n l)))
noncomputable def pg(P:Program)(t:TypeId)(x:Value)(lo hi mx:Option Value):Option Value:=
 @Option.rec (TypeId×Nat) (fun _=>Option Value)
  (av (vI P t) (ai (jk x) fun s=>gd (aK mx) (ET s lo hi)) (ai (GQ P t) fun q=>ai (gG x) fun a=>JN q.1 q.2.2 a lo hi mx))
  (fun q=>ai (zk x) fun p=>L5 q.2 p lo hi mx) (Gz P t)
noncomputable def iO(P:Program)(t:TypeId)(x i:Value):Option Value:=
 ai (oK i) fun k=>@Option.rec (TypeId×Nat) (fun _=>Option Value)
  (ai (GQ P t) fun q=>ai (gG x) fun a=>gd (Nat.ble (Nat.succ k) q.1) (some (.pointer (some ⟨a.block,Nat.add a.off (Nat.mul k q.2.2),none⟩))))
  (fun q=>ai (zk x) fun p=>ai p.1 fun a=>gd (Nat.ble (Nat.succ k) p.2.1) (some (.pointer (some ⟨a.block,Nat.add a.off (Nat.mul k q.2),none⟩)))) (Gz P t)
noncomputable def rZ(P:Program)(t:TypeId)(x i:Value):Option Value:=
 ai (oK i) fun k=>av (vI P t)
  (ai (jk x) fun s=>ai (nth s.data.toList k) fun b=>some (.int .u8 (.ofNat b.toNat)))
  (ai (GQ P t) fun q=>ai (kR x) fun cs=>ai (P6 P q.2.1) fun l=>gd (Nat.ble (Nat.succ k) q.1) (apart l cs (Nat.mul k q.2.2)))
noncomputable def iP(P:Program)(t:TypeId)(x:Value)(f:Nat):Option Value:=
 ai (gG x) fun a=>ai (JL P t f) fun q=>some (.pointer (some ⟨a.block,Nat.add a.off q.1,none⟩))
noncomputable def r_(P:Program)(t:TypeId)(x:Value)(f:Nat):Option Value:=
 ai (kR x) fun cs=>ai (JL P t f) fun q=>apart q.2 cs q.1
noncomputable def setAt{α:Type}(x:α)(k:Nat):List α→List α:=
 @Nat.rec (fun _=>List α→List α) (fun l=>@List.rec α (fun _=>List α) [] (fun _ r _=>x::r) l) (fun _ ih l=>@List.rec α (fun _=>List α) [] (fun y r _=>y::ih r) l) k
noncomputable def yC(vs:List Value):Nat→List Value→List Value:=
 @List.rec Value (fun _=>Nat→List Value→List Value) (fun _ cs=>cs) (fun v _ ih k cs=>ih (Nat.succ k) (setAt v k cs)) vs
noncomputable def vg(place:Nat→Option (Nat×Nat))(ps:List (Nat×Value)):List Value→Option (List Value):=
 @List.rec (Nat×Value) (fun _=>List Value→Option (List Value)) (fun cs=>some cs)
  (fun p _ ih cs=>ai (place p.1) fun q=>gd (k_ p.2&&Nat.beq (len (ay p.2)) q.2&&Nat.ble (Nat.add q.1 q.2) (len cs)) (ih (yC (ay p.2) q.1 cs))) ps
noncomputable def si(P:Program)(t:TypeId)(ps:List (Nat×Value)):Option Value:=
 ai (o_ P t) fun z=>@Option.rec (List (Nat×Nat)) (fun _=>Option Value)
  (ai (GQ P t) fun q=>ai (vg (fun k=>some (Nat.mul k q.2.2,q.2.2)) ps z) fun cs=>some (.agg ⟨cs⟩))
  (fun pl=>ai (vg (nth pl) ps z) fun cs=>some (.agg ⟨cs⟩)) (LZ P t)
noncomputable def gJ(z:List Value)(n:Nat):List Value:=@Nat.rec (fun _=>List Value) [] (fun _ r=>app z r) n
noncomputable def Be(c a b:Value):Option Value:=ai (bJ c) fun t=>some (av t a b)
noncomputable def EU(x:Value):Option Value:=
 @Option.rec Addr (fun _=>Option Value) (ai (Qm x) fun f=>ai (U0 f.1) fun _=>some x) (fun _=>some x) (gG x)
noncomputable def JO(P:Program)(t:TypeId)(x:Value):Option Value:=ai (P.underlying t) fun d=>gd (!(Qo d)) (some (.iface t x))
noncomputable def l8(x:Value)(i:Nat):Option Value:=ai (Qn x) fun l=>nth l i
noncomputable def Bf(P:Program)(t:TypeId)(x:Value):Option Value:=
 ai (P.underlying t) fun d=>av (rH d) (ai (jk x) fun s=>some (.int .i64 (.ofNat (len s.data.toList))))
  (av (Nat.beq (l7 d) 2) (ai (zk x) fun p=>some (.int .i64 (.ofNat p.2.1)))
   (av (Nat.beq (l7 d) 3) (ai (A_ x) fun r=>gd (aK r) (some (.int .i64 0)))
    (ai (GN d) fun a=>some (.int .i64 (.ofNat a.1)))))
noncomputable def GU(P:Program)(t:TypeId)(x:Value):Option Value:=
 ai (Gz P t) fun _=>ai (zk x) fun p=>gd (aY p.2.2) (some (.int .i64 (.ofNat p.2.2)))
noncomputable def one(f:TypeId→Value→Option Value)(ats:List TypeId)(args:List Value):Option Value:=
 ai (nth ats 0) fun t=>ai (nth args 0) fun x=>f t x
noncomputable def mm2(b:Bool)(x y:Value):Option Value:=
 ai (ji x) fun p=>ai (ji y) fun q=>gd (Nat.beq (ig p.1) (ig q.1)) (some (av (av b (Dj p.2 q.2) (Dj q.2 p.2)) y x))
noncomputable def mmL(b:Bool)(l:List Value):Value→Option Value:=
 @List.rec Value (fun _=>Value→Option Value) (fun x=>some x) (fun y _ ih x=>ai (mm2 b x y) ih) l
noncomputable def Qs(b:Bool)(args:List Value):Option Value:=@List.rec Value (fun _=>Option Value) none (fun x l _=>mmL b l x) args
noncomputable def GV(args:List Value):Option Value:=gd (Nat.beq (len args) 1) (ai (nth args 0) fun x=>ai (vCx x) fun p=>some (.float p.1 p.2.1))
noncomputable def GX(args:List Value):Option Value:=gd (Nat.beq (len args) 1) (ai (nth args 0) fun x=>ai (vCx x) fun p=>some (.float p.1 p.2.2))
noncomputable def su(args:List Value):Option Value:=gd (Nat.beq (len args) 2) (ai (nth args 0) fun x=>ai (nth args 1) fun y=>ai (vFl x) fun p=>ai (vFl y) fun q=>
 gd (Nat.beq (LY p.1) (LY q.1)) (some (.complex p.1 p.2 q.2)))
noncomputable def Bg(r:Nat):Value:=.pointer (some ⟨r,0,none⟩)
noncomputable def sw(P:Program)(e:TypeId)(H:aa):Option (Value×aa):=
 ai (o_ P e) fun z=>some (Bg H.next,H.new (rowOf e z))
noncomputable def EW(e:TypeId)(x:Value)(H:aa):Option (Value×aa):=gd (k_ x) (some (Bg H.next,H.new (rowOf e (ay x))))
noncomputable def jm(P:Program)(t:TypeId)(n:Nat)(ps:List (Nat×Value))(H:aa):Option (Value×aa):=
 ai (Gz P t) fun q=>ai (o_ P q.1) fun z=>gd (Nat.ble (Nat.mul n q.2) 16777216)
  (ai (vg (fun k=>some (Nat.mul k q.2,q.2)) ps (gJ z n)) fun cs=>some (.slice (some ⟨H.next,0,none⟩) n n,H.new (rowOf q.1 cs)))
noncomputable def loadAt(l:Option Nat)(a:Addr)(H:aa):Option (Value×aa):=
 @Option.rec Nat (fun _=>Option (Value×aa)) (ai (H.cell a.block a.off) fun v=>some (v,H))
  (fun n=>ai (H.read a.block a.off n) fun vs=>some (.agg ⟨vs⟩,H)) l
noncomputable def kz(P:Program)(t:TypeId)(x:Value)(H:aa):Option (Value×aa):=
 ai (gG x) fun a=>ai (P6 P t) fun l=>loadAt l a H
noncomputable def nQ(P:Program)(t:TypeId)(x v:Value)(H:aa):Option (Value×aa):=
 ai (gG x) fun a=>ai (ku P t) fun s=>gd (Nat.beq (len (ay v)) s) (ai (H.write a.block a.off (ay v)) fun H'=>some (undef,H'))
noncomputable def jU(l:List Value):Option (List UInt8):=
 @List.rec Value (fun _=>Option (List UInt8)) (some []) (fun v _ r=>ai (ji v) fun p=>ai (Dh p.2) fun n=>gd (Bb p.1&&Nat.ble n 255) (ai r fun bs=>some (UInt8.ofNat n::bs))) l
noncomputable def fU(s:List UInt8):List Value:=mp (fun b=>.int .u8 (.ofNat b.toNat)) s
noncomputable def vJ(P:Program)(q:TypeId×Nat)(x:Value)(H:aa):Option (Value×aa):=
 ai (jk x) fun b=>gd (Nat.beq q.2 1&&zl P q.1)
  (some (.slice (some ⟨H.next,0,none⟩) (len b.data.toList) (aQ 1),H.new (.row ⟨q.1,Tr.jH top (fU b.data.toList) 0 .nil,len b.data.toList,true,0⟩)))
noncomputable def vK(P:Program)(q:TypeId×Nat)(x:Value)(H:aa):Option (Value×aa):=
 ai (zk x) fun p=>gd (Nat.beq q.2 1&&zl P q.1) (@Option.rec Addr (fun _=>Option (Value×aa)) (some (.string ⟨⟨[]⟩⟩,H))
  (fun a=>ai (H.read a.block a.off p.2.1) fun l=>ai (jU l) fun bs=>some (.string ⟨⟨bs⟩⟩,H)) p.1)
noncomputable def Bh(P:Program)(t:TypeId)(x:Value)(H:aa):Option (Value×aa):=
 ai (gG x) fun a=>ai (ku P t) fun s=>ai (kr (H.obj a.block)) fun w=>gd (Nat.ble 1 s&&Nat.ble (Nat.succ a.off) w.n) (some (x,H))
noncomputable def Bi(P:Program)(u:TypeId)(x:Value)(H:aa):Option (Value×aa):=
 ai (gG x) fun a=>ai (ku P u) fun s=>ai (kr (H.obj a.block)) fun w=>
  gd (Nat.ble 1 s&&Nat.beq w.ty u&&Nat.beq a.off 0&&Nat.ble s w.n) (some (x,H))
noncomputable def Qt(P:Program)(s d:TypeId):Option (Nat×TypeId×Nat):=ai (P.underlying s) fun x=>ai (P.underlying d) fun y=>
 av (rH x) (ai (Gz P d) fun q=>some (1,q)) (av (rH y) (ai (Gz P s) fun q=>some (2,q))
  (av (wZ y) (ai (wY x) fun e=>some (3,e,0)) (av (wZ x) (ai (wY y) fun e=>some (4,e,0)) none)))
noncomputable def kC(P:Program)(s d:TypeId)(x:Value)(H:aa):Option (Value×aa):=
 ai (Qt P s d) fun q=>av (Nat.beq q.1 1) (vJ P q.2 x H) (av (Nat.beq q.1 2) (vK P q.2 x H)
  (av (Nat.beq q.1 3) (Bh P q.2.1 x H) (Bi P q.2.1 x H)))
noncomputable def kD(P:Program)(t:TypeId)(r:Option Value)(H:aa):Option (Value×aa):=
 ai (qA P t) fun _=>gd (@Option.rec Value (fun _=>Bool) true (fun v=>!(aK (ji v))) r) (some (.map (some H.next),H.new (.map [])))
noncomputable def gW(P:Program)(t:TypeId)(l c:Value)(H:aa):Option (Value×aa):=
 ai (Gz P t) fun q=>ai (tI P q.1) fun i=>ai (o_ P q.1) fun z=>ai (oK l) fun n=>ai (oK c) fun m=>
  gd (Nat.ble n m&&Nat.ble m 16777216&&Nat.ble i.bytes 1048576) (some (.slice (some ⟨H.next,0,none⟩) n m,H.new (rowOf q.1 (gJ z m))))
noncomputable def mapOf(H:aa)(x:Value):Option (List (Value×Value)):=
 ai (A_ x) fun r=>@Option.rec Nat (fun _=>Option (List (Value×Value))) (some []) (fun r=>ER (H.obj r)) r
noncomputable def kX(P:Program)(kt:TypeId)(k:Value)(es:List (Value×Value)):Nat→Option (Option (Nat×Value)):=
 @List.rec (Value×Value) (fun _=>Nat→Option (Option (Nat×Value))) (fun _=>some none)
  (fun e _ ih i=>ai (gI P kt k e.1) fun b=>av b (some (some (i,e.2))) (ih (Nat.succ i))) es
noncomputable def okd(ok:Bool)(v:Value)(b:Bool)(H:aa):Value×aa:=av ok (.tuple #[v,.bool b],H) (v,H)
noncomputable def vk(P:Program)(t:TypeId)(k:Value):Option Unit:=ai (gI P t k k) fun b=>gd b (some ())
noncomputable def lW(P:Program)(t:TypeId)(x k:Value)(ok:Bool)(H:aa):Option (Value×aa):=
 ai (qA P t) fun q=>ai (uZ P q.2) fun z=>ai (mapOf H x) fun es=>ai (vk P q.1 k) fun _=>ai (kX P q.1 k es 0) fun f=>
  @Option.rec (Nat×Value) (fun _=>Option (Value×aa)) (some (okd ok z false H)) (fun p=>some (okd ok p.2 true H)) f
noncomputable def jf(P:Program)(t:TypeId)(m k v:Value)(H:aa):Option (Value×aa):=
 ai (qA P t) fun q=>ai (A_ m) fun mr=>ai mr fun r=>ai (ER (H.obj r)) fun es=>ai (vk P q.1 k) fun _=>ai (kX P q.1 k es 0) fun f=>
  @Option.rec (Nat×Value) (fun _=>Option (Value×aa)) (some (undef,H.put r (.map (app es [(k,v)])))) (fun p=>some (undef,H.put r (.map (setAt (k,v) p.1 es)))) f
noncomputable def yD{α:Type}(k:Nat):List α→List α:=
 @Nat.rec (fun _=>List α→List α) (fun l=>@List.rec α (fun _=>List α) [] (fun _ r _=>r) l) (fun _ ih l=>@List.rec α (fun _=>List α) [] (fun y r _=>y::ih r) l) k
noncomputable def w9(P:Program)(ats:List TypeId)(args:List Value)(H:aa):Option (Value×aa):=
 ai (nth ats 0) fun t=>ai (nth args 0) fun m=>ai (nth args 1) fun k=>ai (qA P t) fun q=>ai (A_ m) fun mr=>ai mr fun r=>
  ai (ER (H.obj r)) fun es=>ai (vk P q.1 k) fun _=>ai (kX P q.1 k es 0) fun f=>
   some (.tuple #[],H.put r (.map (@Option.rec (Nat×Value) (fun _=>List (Value×Value)) es (fun p=>yD p.1 es) f)))
noncomputable def appended(H:aa)(sz:Nat)(x:Value):Option (Nat×List Value):=
 @Option.rec ByteArray (fun _=>Option (Nat×List Value))
  (ai (zk x) fun p=>@Option.rec Addr (fun _=>Option (Nat×List Value)) (gd (Nat.beq p.2.1 0) (some (0,[])))
   (fun a=>ai (H.read a.block a.off (Nat.mul p.2.1 sz)) fun l=>some (p.2.1,l)) p.1)
  (fun s=>gd (Nat.beq sz 1) (some (len s.data.toList,fU s.data.toList))) (jk x)
noncomputable def DX(P:Program)(ats:List TypeId)(args:List Value)(H:aa):Option (Value×aa):=
 ai (nth ats 0) fun t=>ai (nth args 0) fun d=>ai (nth args 1) fun x=>ai (Gz P t) fun q=>ai (zk d) fun p=>ai (appended H q.2 x) fun e=>
  @Option.rec Addr (fun _=>Option (Value×aa)) (gd (Nat.beq p.2.1 0) (some (.int .i64 0,H)))
   (fun a=>ai (H.write a.block a.off (tk (Nat.mul (av (Nat.ble e.1 p.2.1) e.1 p.2.1) q.2) e.2)) fun H'=>some (.int .i64 (.ofNat (av (Nat.ble e.1 p.2.1) e.1 p.2.1)),H')) p.1
noncomputable def yE(P:Program)(ats:List TypeId)(args:List Value)(H:aa):Option (Value×aa):=
 ai (nth ats 0) fun t=>ai (nth args 0) fun d=>ai (Gz P t) fun q=>ai (o_ P q.1) fun z=>ai (zk d) fun p=>
  @Option.rec Addr (fun _=>Option (Value×aa)) (some (.tuple #[],H))
   (fun a=>ai (H.write a.block a.off (gJ z p.2.1)) fun H'=>some (.tuple #[],H')) p.1
noncomputable def Bj(P:Program)(ats:List TypeId)(args:List Value)(H:aa):Option (Value×aa):=
 ai (nth ats 0) fun t=>ai (nth args 0) fun x=>ai (qA P t) fun _=>ai (mapOf H x) fun es=>some (.int .i64 (.ofNat (len es)),H)
noncomputable def w_(args:List Value)(H:aa):Option (Value×aa):=
 gd (Nat.beq (len args) 1) (ai (nth args 0) fun x=>ai (zk x) fun p=>@Option.rec Addr (fun _=>Option (Value×aa)) (some (.pointer none,H))
  (fun a=>gd (Nat.ble 1 p.2.1||(aY p.2.2&&Nat.ble 1 p.2.2)) (some (.pointer (some a),H))) p.1)
noncomputable def L6(P:Program)(pt:TypeId)(a:Addr)(n:Nat)(H:aa):Option (Value×aa):=
 ai (P.underlying pt) fun d=>ai (wY d) fun e=>ai (ku P e) fun s=>ai (kr (H.obj a.block)) fun w=>
  gd (zl P e&&Nat.beq w.ty e&&Nat.beq s 1&&Nat.ble (Nat.add a.off n) w.n&&Nat.ble n 16777216)
   (ai (jU (Tr.vG top w.cells a.off n)) fun bs=>some (.string ⟨⟨bs⟩⟩,
    H.put a.block (.row ⟨w.ty,w.cells,w.n,w.dD,av (Nat.ble w.fz (Nat.add a.off n)) (Nat.add a.off n) w.fz⟩)))
noncomputable def lu(P:Program)(ats:List TypeId)(args:List Value)(H:aa):Option (Value×aa):=
 gd (Nat.beq (len args) 2) (ai (nth ats 0) fun pt=>ai (nth args 0) fun p=>ai (nth args 1) fun nv=>ai (oK nv) fun n=>
  @Nat.rec (fun _=>Option (Value×aa)) (gd (Nat.beq (iM p).1 1) (some (.string ⟨⟨[]⟩⟩,H))) (fun _ _=>ai (gG p) fun a=>L6 P pt a n H) n)
noncomputable def pq(e:TypeId)(es:Nat)(n:Nat)(vs:List Value)(H:aa):Value×aa:=
 (.slice (some ⟨H.next,0,none⟩) n (aQ es),H.new (rowOf e vs))
noncomputable def l9(q:TypeId×Nat)(a:Addr)(l c k:Nat)(vs:List Value)(H:aa):Option (Value×aa):=
 av (Nat.ble (Nat.add l k) c)
  (ai (H.write a.block (Nat.add a.off (Nat.mul l q.2)) vs) fun H'=>some (.slice (some a) (Nat.add l k) c,H'))
  (ai (H.read a.block a.off (Nat.mul l q.2)) fun old=>some (pq q.1 q.2 (Nat.add l k) (app old vs) H))
noncomputable def jo(q:TypeId×Nat)(a:Addr)(l c k:Nat)(vs:List Value)(H:aa):Option (Value×aa):=
 ai (kr (H.obj a.block)) fun w=>gd (Nat.beq w.ty q.1&&!w.dD)
  (av (Nat.ble (Nat.add a.off (Nat.mul (Nat.add l k) q.2)) w.n)
   (ai (H.write a.block (Nat.add a.off (Nat.mul l q.2)) vs) fun H'=>some (.slice (some a) (Nat.add l k) c,H'))
   (gd (Nat.ble (Nat.add a.off (Nat.mul l q.2)) w.n&&Nat.ble w.fz (Nat.add a.off (Nat.mul l q.2))&&all' aT vs)
    (some (.slice (some ⟨H.next,a.off,none⟩) (Nat.add l k) c,
     (H.put a.block .dead).new (.row ⟨w.ty,Tr.jH top vs (Nat.add a.off (Nat.mul l q.2)) w.cells,Nat.add a.off (Nat.mul (Nat.add l k) q.2),false,w.fz⟩)))))
noncomputable def L8(q:TypeId×Nat)(s:Value)(p:Option Addr×Nat×Nat)(k:Nat)(vs:List Value)(H:aa):Option (Value×aa):=
 @Nat.rec (fun _=>Option (Value×aa)) (some (s,H)) (fun _ _=>
  @Option.rec Addr (fun _=>Option (Value×aa)) (gd (Nat.beq p.2.1 0&&Nat.beq p.2.2 0) (some (pq q.1 q.2 k vs H)))
   (fun a=>gd (Nat.ble p.2.1 16777216) (av (aY p.2.2) (l9 q a p.2.1 p.2.2 k vs H) (gd (Nat.beq p.2.2 (aQ q.2)) (jo q a p.2.1 p.2.2 k vs H)))) p.1) k
noncomputable def aae(P:Program)(t t2:TypeId):Option (TypeId×Nat):=
 ai (Gz P t) fun q=>ai (tI P q.1) fun i=>ai (o_ P q.1) fun _=>ai (P.underlying t2) fun d=>gd (aK (Di d)&&Nat.ble i.bytes 1048576&&Nat.ble 1 i.bytes) (some q)
noncomputable def uA(P:Program)(ats:List TypeId)(args:List Value)(H:aa):Option (Value×aa):=
 ai (nth ats 0) fun t=>ai (nth ats 1) fun t2=>ai (nth args 0) fun s=>ai (nth args 1) fun x=>
  ai (aae P t t2) fun q=>ai (zk s) fun p=>ai (appended H q.2 x) fun e=>gd (Nat.ble e.1 16777216) (L8 q s p e.1 e.2 H)
noncomputable def yF(P:Program)(t:TypeId)(x:Value)(H:aa):Option (Value×aa):=
 gd (vI P t) (ai (jk x) fun s=>some (Bg H.next,H.new (.rW s 0)))
noncomputable def Qu(r:Nat)(s:ByteArray)(p:Nat)(c:Nat×Nat)(H:aa):Value×aa:=
 (.tuple #[.bool true,.int .i64 (.ofNat p),.int .i32 (.ofNat c.1)],H.put r (.rW s (Nat.add p c.2)))
noncomputable def DY(it:Value)(str:Bool)(H:aa):Option (Value×aa):=
 ai (gG it) fun a=>ai (aad (H.obj a.block)) fun q=>gd (str&&Nat.beq a.off 0)
  (av (Nat.ble (Nat.succ q.2) (len q.1.data.toList)) (some (Qu a.block q.1 q.2 (Utf8.decode q.1 q.2) H)) (some (.tuple #[.bool false],H)))
noncomputable def Qv(a b:Option Nat):Bool:=@Option.rec Nat (fun _=>Bool) (aK b) (fun x=>@Option.rec Nat (fun _=>Bool) false (fun y=>Nat.beq x y) b) a
noncomputable def addrEq(a b:Addr):Bool:=Nat.beq a.block b.block&&Nat.beq a.off b.off&&aK a.spot&&aK b.spot
noncomputable def Az(a b:Option Addr):Bool:=@Option.rec Addr (fun _=>Bool) (aK b) (fun x=>@Option.rec Addr (fun _=>Bool) false (fun y=>addrEq x y) b) a
noncomputable def Qw(x y:Value):Bool:=gH (ai (gG x) fun a=>ai (gG y) fun b=>gd (addrEq a b) (some ()))
noncomputable def Xj(x y:Value):Bool:=gH (ai (zk x) fun a=>ai (zk y) fun b=>gd (Az a.1 b.1&&Nat.beq a.2.1 b.2.1&&Nat.beq a.2.2 b.2.2) (some ()))
noncomputable def aaf(x y:Value):Bool:=gH (ai (A_ x) fun a=>ai (A_ y) fun b=>gd (Qv a b) (some ()))
noncomputable def Qx(x y:Value):Bool:=gH (ai (ji x) fun a=>ai (ji y) fun b=>gd (Nat.beq (ig a.1) (ig b.1)&&Dk a.2 b.2) (some ()))
noncomputable def aag(x y:Value):Bool:=gH (ai (bJ x) fun a=>ai (bJ y) fun b=>gd (qw a b) (some ()))
noncomputable def aah(x y:Value):Bool:=gH (ai (jk x) fun a=>ai (jk y) fun b=>gd (iJ a b) (some ()))
noncomputable def Xk(x y:Value):Bool:=Ba x&&Ba y&&Nat.beq (iM x).1 (iM y).1
noncomputable def pK(x y:Value):Bool:=Qx x y||(Qw x y||(Xj x y||(aag x y||(aah x y||(aaf x y||Xk x y)))))
noncomputable def qB(f:Value→Value→Bool)(xs:List Value):List Value→Bool:=
 @List.rec Value (fun _=>List Value→Bool) (fun ys=>@List.rec Value (fun _=>Bool) true (fun _ _ _=>false) ys)
  (fun x _ ih ys=>@List.rec Value (fun _=>Bool) false (fun y r _=>av (f x y) (ih r) false) ys) xs
noncomputable def L9(f:Value→Value→Bool)(x y:Value):Bool:=gH (ai (Qm x) fun a=>ai (Qm y) fun b=>ai (U0 a.1) fun g=>ai (U0 b.1) fun k=>gd (Nat.beq g k&&qB f a.2.1 b.2.1&&qB f a.2.2 b.2.2) (some ()))
noncomputable def vL(x y:Value):Bool:=pK x y||L9 pK x y
noncomputable def gK(x y:Value):Bool:=vL x y||L9 vL x y
noncomputable def xg(xs:List Value):List Value→Bool:=
 @List.rec Value (fun _=>List Value→Bool) (fun ys=>@List.rec Value (fun _=>Bool) true (fun _ _ _=>false) ys)
  (fun x _ ih ys=>@List.rec Value (fun _=>Bool) false (fun y r _=>av (gK x y) (ih r) false) ys) xs
noncomputable def sameAt(A B:aa)(r off n:Nat):Bool:=gH (ai (A.read r off n) fun x=>ai (B.read r off n) fun y=>gd (xg x y) (some ()))
noncomputable def mP(c:Nat)(l:List UInt8):Nat→Option Nat:=
 @List.rec UInt8 (fun _=>Nat→Option Nat) (fun _=>none) (fun b _ ih k=>av (Nat.beq b.toNat c) (some k) (ih (Nat.succ k))) l
noncomputable def countB(c:Nat)(l:List UInt8):Nat:=@List.rec UInt8 (fun _=>Nat) 0 (fun b _ n=>av (Nat.beq b.toNat c) (Nat.succ n) n) l
noncomputable def JP(o:Option Nat):Value:=@Option.rec Nat (fun _=>Value) (.int .i64 (-1)) (fun k=>.int .i64 (.ofNat k)) o
noncomputable def Bl(args:List Value):Option (ByteArray×Nat):=
 ai (nth args 0) fun s=>ai (jk s) fun b=>ai (nth args 1) fun c=>ai (ji c) fun p=>ai (Dh p.2) fun n=>gd (Bb p.1&&Nat.ble n 255&&Nat.beq (len args) 2) (some (b,n))
noncomputable def NU(P:Program)(code:Nat)(rt:List TypeId)(args:List Value)(H:aa):Option (Value×aa):=
 av (Nat.beq code 1) (gd (Nat.beq (len args) 1) (ai (nth args 0) fun x=>some (x,H)))
  (av (Nat.beq code 2) (gd (Nat.beq (len args) 1) (ai (nth args 0) fun x=>ai (ji x) fun p=>ai (Dh p.2) fun n=>ai (nth rt 0) fun t=>ai (Gz P t) fun q=>
   gd (uY p.1&&Nat.ble n 16777216&&Nat.beq q.2 1) (some (.slice (some ⟨H.next,0,none⟩) n (aQ 1),H.new (.row ⟨q.1,.nil,n,false,0⟩)))))
   (av (Nat.beq code 3) (ai (Bl args) fun x=>some (JP (mP x.2 x.1.data.toList 0),H))
    (av (Nat.beq code 4) (ai (Bl args) fun x=>some (.int .i64 (.ofNat (countB x.2 x.1.data.toList)),H)) none)))
end Go.Ae
namespace Go.Ae
structure St where
 nl:Nat
 nt:Nat
 reg:List (Nat×Value)
 tm:Tr Value
 df:List Deferred
 H:aa
noncomputable def aV(m i:Nat):Bool:=Nat.beq (Nat.mod (Nat.shiftRight m i) 2) 1
noncomputable def look(l:List (Nat×Value)):Nat→Value:=
 @List.rec (Nat×Value) (fun _=>Nat→Value) (fun _=>top) (fun p _ ih t=>av (Nat.beq p.1 t) p.2 (ih t)) l
noncomputable def aX(s:St)(t:Nat):Value:=av (aV s.nl t) (s.tm.get top t) (look s.reg t)
noncomputable def ev(s:St)(x:Operand):Value:=
 @Operand.rec (fun _=>St→Value) (fun t s=>aX s t) (fun v _=>v) (fun g _=>.pointer (some ⟨g,0,none⟩)) (fun f _=>.func (.func f) #[] #[]) x s
noncomputable def Ac(s:St)(x:Option Operand):Option Value:=@Option.rec Operand (fun _=>Option Value) none (fun x=>some (ev s x)) x
noncomputable def EX(s:St)(ps:Array (Nat×Operand)):List (Nat×Value):=mp (fun p=>(p.1,ev s p.2)) ps.toList
noncomputable def gX(s:St)(d:Nat)(v:Value)(H:aa):St:=
 av (aV s.nl d) ⟨s.nl,s.nt,s.reg,av (Nat.ble (Nat.succ d) s.nt) (s.tm.set top d v) s.tm,s.df,H⟩ ⟨s.nl,s.nt,(d,v)::s.reg,s.tm,s.df,H⟩
noncomputable def bG(s:St)(d:Option Nat)(v:Value)(H:aa):St:=
 @Option.rec Nat (fun _=>St) ⟨s.nl,s.nt,s.reg,s.tm,s.df,H⟩ (fun d=>gX s d v H) d
abbrev b_:=FuncId→List Value→aa→Option (Value×aa)
inductive R3 where
 |fail
 |rJ(v:Value)
 |mem(v:Value)(H:aa)
noncomputable def rp(o:Option Value):R3:=@Option.rec Value (fun _=>R3) .fail .rJ o
noncomputable def rm(o:Option (Value×aa)):R3:=@Option.rec (Value×aa) (fun _=>R3) .fail (fun p=>.mem p.1 p.2) o
noncomputable def rpm(o:Option Value)(q:R3):R3:=@Option.rec Value (fun _=>R3→R3) (fun q=>q) (fun v _=>.rJ v) o q
noncomputable def isU(v:Value):Bool:=@Option.rec (List Value) (fun _=>Bool) false (fun l=>Nat.beq (len l) 0) (Qn v)
noncomputable def qC(ops:Array Oper)(s:St)(j:Nat):Option (Option Bool):=
 ai (nth ops.toList j) fun o=>ai o.dst fun t=>
  @Option.rec Bool (fun _=>Option (Option Bool)) (gd (isU (aX s t)) (some none)) (fun b=>some (some b)) (bJ (aX s t))
noncomputable def DZ(ops:Array Oper)(s:St)(g:Nat×Bool):Option Bool:=
 ai (qC ops s g.1) fun y=>some (@Option.rec Bool (fun _=>Bool) false (fun b=>qw b g.2) y)
noncomputable def ik(ops:Array Oper)(s:St)(g:Option (Nat×Bool)):Option Bool:=
 @Option.rec (Nat×Bool) (fun _=>Option Bool) (some true) (fun g=>DZ ops s g) g
noncomputable def methodOf(P:Program)(t:TypeId)(name:String):Option (FuncId×Bool):=
 ai (P.info? t) fun i=>ai (i.methods.toList.find? (·.name==name)) fun m=>ai m.func fun q=>ai (P.underlying t) fun d=>
  gd (Nat.beq (len m.path.toList) 0&&(av q.2 (Nat.beq (l7 d) 1) (!(Nat.beq (l7 d) 1)))) (some q)
noncomputable def eH(c:Callee):Program→St→Option (FuncId×List Value×List Value):=
 @Callee.rec (fun _=>Program→St→Option (FuncId×List Value×List Value))
  (fun f _ s=>ai (Qm (ev s f)) fun q=>ai (U0 q.1) fun g=>some (g,q.2))
  (fun r name P s=>ai (vH (ev s r)) fun p=>ai (methodOf P p.1 name) fun q=>some (q.1,[p.2],[]))
  (fun _ _ _=>none) c
noncomputable def isBuiltin(c:Callee):Option Builtin:=@Callee.rec (fun _=>Option Builtin) (fun _=>none) (fun _ _=>none) (fun b=>some b) c
noncomputable def pM(b:Builtin):List TypeId→List Value→Program→aa→R3:=
 @Builtin.rec (fun _=>List TypeId→List Value→Program→aa→R3)
  (fun ats args P H=>rm (uA P ats args H)) (fun ats args P _=>rp (one (GU P) ats args)) (fun ats args P H=>rm (yE P ats args H)) (fun _ _ _ _=>.fail) (fun _ args _ _=>rp (su args)) (fun ats args P H=>rm (DX P ats args H)) (fun ats args P H=>rm (w9 P ats args H)) (fun _ args _ _=>rp (GX args)) (fun ats args P H=>rpm (one (Bf P) ats args) (rm (Bj P ats args H))) (fun _ _ _ _=>.fail) (fun _ args _ _=>rp (Qs true args)) (fun _ args _ _=>rp (Qs false args)) (fun _ _ _ _=>.fail) (fun _ _ _ _=>.fail) (fun _ _ _ _=>.fail) (fun _ _ _ _=>.fail) (fun _ args _ _=>rp (GV args)) (fun _ _ _ _=>.fail) (fun _ _ _ _=>.fail) (fun _ _ _ _=>.fail) (fun _ args _ H=>rm (w_ args H)) (fun ats args P H=>rm (lu P ats args H)) (fun _ _ _ _=>.fail) (fun _ _ _ _=>.fail) (fun _ _ _ _=>.fail) (fun _ _ _ _=>.fail) b
noncomputable def kY(c:Call)(P:Program)(cf:b_)(s:St):R3:=
 @Option.rec Builtin (fun _=>R3)
  (rm (ai (eH c.callee P s) fun q=>cf q.1 (app q.2.1 (app (mp (ev s) c.args.toList) q.2.2)) s.H))
  (fun b=>pM b c.argTypes.toList (mp (ev s) c.args.toList) P s.H) (isBuiltin c.callee)
noncomputable def mW(o:Op):Program→b_→St→R3:=
 @Op.rec (fun _=>Program→b_→St→R3)
  (fun x _ _ s=>.rJ (ev s x)) (fun x _ _ s=>.rJ (ev s x)) (fun c a b _ _ s=>rp (Be (ev s c) (ev s a) (ev s b))) (fun e P _ s=>rm (sw P e s.H)) (fun e x _ _ s=>rm (EW e (ev s x) s.H)) (fun t ps P _ s=>rp (si P t (EX s ps))) (fun t n ps P _ s=>rm (jm P t n (EX s ps) s.H)) (fun t m k v P _ s=>rm (jf P t (ev s m) (ev s k) (ev s v) s.H)) (fun t x P _ s=>rm (kz P t (ev s x) s.H)) (fun t x v P _ s=>rm (nQ P t (ev s x) (ev s v) s.H)) (fun _ _ _ _=>.fail) (fun _ _ _ _=>.fail) (fun x _ _ s=>rp (EU (ev s x))) (fun op t x y _ P _ s=>rp (eD P op t x y (ev s x) (ev s y))) (fun op _ x _ _ s=>rp (bQ (Op.unary op (ev s x)))) (fun a b x P _ s=>rpm (u_ P a b (ev s x)) (rm (kC P a b (ev s x) s.H))) (fun _ _ _ _ _=>.fail) (fun t x P _ s=>rp (JO P t (ev s x))) (fun f fi ca _ _ s=>rp (some (.func f ⟨mp (ev s) fi.toList⟩ ⟨mp (ev s) ca.toList⟩))) (fun t r P _ s=>rm (kD P t (Ac s r) s.H)) (fun _ _ _ _ _=>.fail) (fun t l c P _ s=>rm (gW P t (ev s l) (ev s c) s.H)) (fun t x lo hi mx P _ s=>rp (pg P t (ev s x) (Ac s lo) (Ac s hi) (Ac s mx))) (fun t x f P _ s=>rp (iP P t (ev s x) f)) (fun t x f P _ s=>rp (r_ P t (ev s x) f)) (fun t x i P _ s=>rp (iO P t (ev s x) (ev s i))) (fun t x i P _ s=>rp (rZ P t (ev s x) (ev s i))) (fun t x k ok P _ s=>rm (lW P t (ev s x) (ev s k) ok s.H)) (fun t m k v P _ s=>rm (jf P t (ev s m) (ev s k) (ev s v) s.H)) (fun _ _ _ _ _ _=>.fail) (fun _ _ _ _ _ _ _=>.fail) (fun t x P _ s=>rm (yF P t (ev s x) s.H)) (fun x b _ _ s=>rm (DY (ev s x) b s.H)) (fun _ _ _ _=>.fail) (fun _ _ _ _ _ _ _=>.fail) (fun t i _ _ s=>rp (l8 (ev s t) i)) (fun c P cf s=>kY c P cf s) (fun _ _ _ _=>.fail) (fun _ _ _ _=>.fail) (fun _ _ _ _=>.fail) (fun _ _ _ _ _=>.fail) (fun _ _ _ _ _ _=>.fail) (fun _ _ _ _ _=>.fail) o
noncomputable def iF(o:Op):Option Call:=@Op.rec (fun _=>Option Call) (fun _=>none) (fun _=>none) (fun _ _ _=>none) (fun _=>none) (fun _ _=>none) (fun _ _=>none) (fun _ _ _=>none) (fun _ _ _ _=>none) (fun _ _=>none) (fun _ _ _=>none) (fun _=>none) (fun _=>none) (fun _=>none) (fun _ _ _ _ _=>none) (fun _ _ _=>none) (fun _ _ _=>none) (fun _ _=>none) (fun _ _=>none) (fun _ _ _=>none) (fun _ _=>none) (fun _ _=>none) (fun _ _ _=>none) (fun _ _ _ _ _=>none) (fun _ _ _=>none) (fun _ _ _=>none) (fun _ _ _=>none) (fun _ _ _=>none) (fun _ _ _ _=>none) (fun _ _ _ _=>none) (fun _ _ _=>none) (fun _ _ _ _=>none) (fun _ _=>none) (fun _ _=>none) (fun _=>none) (fun _ _ _ _=>none) (fun _ _=>none) (fun _=>none) (fun _=>none) (fun c=>some c) (fun _=>none) (fun _ _=>none) (fun _ _ _=>none) (fun _ _=>none) o
noncomputable def qD(c:Call)(P:Program)(s:St):Option Deferred:=
 ai (@Callee.rec (fun _=>Option Operand) (fun f=>some f) (fun _ _=>none) (fun _=>none) c.callee) fun f=>
  ai (Qm (ev s f)) fun q=>ai (U0 q.1) fun g=>some ⟨.fn (.func g) ⟨q.2.2⟩,⟨app q.2.1 (mp (ev s) c.args.toList)⟩⟩
noncomputable def vM(o:Oper)(s:St)(r:R3):Option St:=
 @R3.rec (fun _=>Option St) none (fun v=>some (bG s o.dst v s.H)) (fun v H=>some (bG s o.dst v H)) r
noncomputable def oL(P:Program)(cf:b_)(o:Oper)(s:St):Option St:=
 @Option.rec Call (fun _=>Option St) (vM o s (mW o.op P cf s))
  (fun c=>ai (qD c P s) fun d=>some (bG ⟨s.nl,s.nt,s.reg,s.tm,d::s.df,s.H⟩ o.dst undef s.H)) (iF o.op)
noncomputable def dM(P:Program)(cf:b_)(ops:Array Oper)(o:Oper)(s:St):Option St:=
 ai (ik ops s o.guard) fun b=>av b (oL P cf o s) (some (bG s o.dst undef s.H))
noncomputable def dV(P:Program)(cf:b_)(ops:Array Oper)(l:List Oper):St→Option St:=
 @List.rec Oper (fun _=>St→Option St) some (fun o _ ih s=>ai (dM P cf ops o s) ih) l
noncomputable def fF(a b:Nat):Nat:=av (Nat.ble a b) a b
noncomputable def aU(s:St):St:=⟨s.nl,s.nt,s.reg,s.tm,s.df,⟨s.H.j_,s.H.next,s.H.next⟩⟩
structure Cl where
 k:Nat
 r:Nat
 off:Nat
 n:Nat
 a:aa
 b:aa
noncomputable def hh0:aa:=⟨.nil,0,0⟩
noncomputable def cl(k:Nat):Cl:=⟨k,0,0,0,hh0,hh0⟩
noncomputable def qE(o:Op):Option (Operand×Operand):=@Op.rec (fun _=>Option (Operand×Operand)) (fun _=>none) (fun _=>none) (fun _ _ _=>none) (fun _=>none) (fun _ _=>none) (fun _ _=>none) (fun _ _ _=>none) (fun _ _ _ _=>none) (fun _ _=>none) (fun _ a v=>some (a,v)) (fun _=>none) (fun _=>none) (fun _=>none) (fun _ _ _ _ _=>none) (fun _ _ _=>none) (fun _ _ _=>none) (fun _ _=>none) (fun _ _=>none) (fun _ _ _=>none) (fun _ _=>none) (fun _ _=>none) (fun _ _ _=>none) (fun _ _ _ _ _=>none) (fun _ _ _=>none) (fun _ _ _=>none) (fun _ _ _=>none) (fun _ _ _=>none) (fun _ _ _ _=>none) (fun _ _ _ _=>none) (fun _ _ _=>none) (fun _ _ _ _=>none) (fun _ _=>none) (fun _ _=>none) (fun _=>none) (fun _ _ _ _=>none) (fun _ _=>none) (fun _=>none) (fun _=>none) (fun _=>none) (fun _=>none) (fun _ _=>none) (fun _ _ _=>none) (fun _ _=>none) o
noncomputable def yG(o:Op):Option (TypeId×Operand):=@Op.rec (fun _=>Option (TypeId×Operand)) (fun _=>none) (fun _=>none) (fun _ _ _=>none) (fun _=>none) (fun _ _=>none) (fun _ _=>none) (fun _ _ _=>none) (fun _ _ _ _=>none) (fun t a=>some (t,a)) (fun _ _ _=>none) (fun _=>none) (fun _=>none) (fun _=>none) (fun _ _ _ _ _=>none) (fun _ _ _=>none) (fun _ _ _=>none) (fun _ _=>none) (fun _ _=>none) (fun _ _ _=>none) (fun _ _=>none) (fun _ _=>none) (fun _ _ _=>none) (fun _ _ _ _ _=>none) (fun _ _ _=>none) (fun _ _ _=>none) (fun _ _ _=>none) (fun _ _ _=>none) (fun _ _ _ _=>none) (fun _ _ _ _=>none) (fun _ _ _=>none) (fun _ _ _ _=>none) (fun _ _=>none) (fun _ _=>none) (fun _=>none) (fun _ _ _ _=>none) (fun _ _=>none) (fun _=>none) (fun _=>none) (fun _=>none) (fun _=>none) (fun _ _=>none) (fun _ _ _=>none) (fun _ _=>none) o
noncomputable def oV(o:Op):Bool:=@Op.rec (fun _=>Bool) (fun _=>false) (fun _=>false) (fun _ _ _=>false) (fun _=>true) (fun _ _=>true) (fun _ _=>false) (fun _ _ _=>true) (fun _ _ _ _=>false) (fun _ _=>false) (fun _ _ _=>false) (fun _=>false) (fun _=>false) (fun _=>false) (fun _ _ _ _ _=>false) (fun _ _ _=>false) (fun _ _ _=>false) (fun _ _=>false) (fun _ _=>false) (fun _ _ _=>false) (fun _ _=>true) (fun _ _=>false) (fun _ _ _=>true) (fun _ _ _ _ _=>false) (fun _ _ _=>false) (fun _ _ _=>false) (fun _ _ _=>false) (fun _ _ _=>false) (fun _ _ _ _=>false) (fun _ _ _ _=>false) (fun _ _ _=>false) (fun _ _ _ _=>false) (fun _ _=>false) (fun _ _=>false) (fun _=>false) (fun _ _ _ _=>false) (fun _ _=>false) (fun _=>false) (fun _=>false) (fun _=>false) (fun _=>false) (fun _ _=>false) (fun _ _ _=>false) (fun _ _=>false) o
noncomputable def oW(P:Program)(o:Op)(s:St):Cl:=
 (ai (yG o) fun p=>ai (gG (ev s p.2)) fun a=>ai (P6 P p.1) fun l=>some (Cl.mk 4 a.block a.off (l.getD 1) hh0 hh0)).getD (cl 1)
noncomputable def iT(P:Program)(o:Op)(s:St)(H:aa):Cl:=
 @Option.rec (Operand×Operand) (fun _=>Cl) (av (Nat.ble s.H.next H.low) (av (oV o) (cl 5) (oW P o s)) ⟨2,0,0,0,s.H,H⟩)
  (fun p=>@Option.rec Addr (fun _=>Cl) ⟨2,0,0,0,s.H,H⟩ (fun a=>⟨3,a.block,a.off,len (ay (ev s p.2)),hh0,hh0⟩) (gG (ev s p.1))) (qE o)
noncomputable def zm(P:Program)(o:Oper)(s:St)(r:R3):Option (St×Cl):=
 @R3.rec (fun _=>Option (St×Cl)) none (fun v=>some (bG s o.dst v s.H,cl 0))
  (fun v H=>some (bG s o.dst v ⟨H.j_,H.next,fF s.H.low H.low⟩,iT P o.op s H)) r
noncomputable def cZ(P:Program)(cf:b_)(ops:Array Oper)(o:Oper)(s:St):Option (St×Cl):=
 ai (ik ops s o.guard) fun b=>av b (zm P o s (mW o.op P cf (aU s))) (some (bG s o.dst undef s.H,cl 0))
noncomputable def bF(P:Program)(cf:b_)(ops:Array Oper)(l:List Oper):St→List Cl→Option (St×List Cl):=
 @List.rec Oper (fun _=>St→List Cl→Option (St×List Cl)) (fun s acc=>some (s,acc)) (fun o _ ih s acc=>ai (cZ P cf ops o s) fun q=>ih q.1 (q.2::acc)) l
noncomputable def nR(acc:List Nat)(n:Nat)(l:List Edge):Nat:=
 @List.rec Edge (fun _=>Nat) 0 (fun e _ r=>av (Region.binds .any e) (Nat.lor (Nat.lor (Nat.shiftLeft 1 e.on) ((nth acc (Nat.sub (Nat.sub n 1) e.on)).getD 0)) r) r) l
noncomputable def jI(l:List Oper):List Nat→Nat→List Nat:=
 @List.rec Oper (fun _=>List Nat→Nat→List Nat) (fun acc _=>acc) (fun o _ ih acc n=>ih (nR acc n o.after.toList::acc) (Nat.succ n)) l
noncomputable def lz(l:List Oper):Nat→Bool:=
 @List.rec Oper (fun _=>Nat→Bool) (fun _=>true) (fun o _ ih n=>av (all' (fun e=>!(Region.binds .any e)||Nat.ble (Nat.succ e.on) n) o.after.toList) (ih (Nat.succ n)) false) l
noncomputable def bR{α:Type}(f:α→α→Bool→Bool)(x:α)(m:Nat)(l:List α):Bool:=@List.rec α (fun _=>Bool) true (fun y r ih=>av (f x y (aV m (len r))) ih false) l
noncomputable def pairs{α:Type}(f:α→α→Bool→Bool)(ms:List Nat):List α→Bool:=
 @List.rec Nat (fun _=>List α→Bool) (fun _=>true) (fun m _ ih xs=>@List.rec α (fun _=>Bool) true
  (fun x r _=>av (bR f x m r) (ih r) false) xs) ms
noncomputable def fV(ops:Array Oper):Bool:=lz ops.toList 0&&pairs (fun y x b=>b||x.apart ops y) (jI ops.toList [] 0) (ops.toList.reverse)
noncomputable def mI(x y:Cl):Bool:=!(Nat.beq x.r y.r)||Nat.ble (Nat.add x.off x.n) y.off||Nat.ble (Nat.add y.off y.n) x.off
noncomputable def gY(w l:Cl):Bool:=sameAt w.a w.b l.r l.off l.n
noncomputable def aR(y x:Cl)(b:Bool):Bool:=
 av (Nat.beq y.k 0||Nat.beq x.k 0||Nat.beq y.k 5||Nat.beq x.k 5) true
  (av (Nat.beq x.k 3) (av (Nat.beq y.k 3) (b||mI x y) (Nat.beq y.k 4&&(b||mI x y)))
   (av (Nat.beq y.k 3) (b||(Nat.beq x.k 4&&mI x y))
    (av (Nat.beq x.k 4) (av (Nat.beq y.k 2) (b||gY y x) true)
     (av (Nat.beq y.k 4) (av (Nat.beq x.k 2) (b||gY x y) true)
      (av (Nat.beq x.k 1&&Nat.beq y.k 1) true b)))))
noncomputable def noTwo(l:List Cl):Bool:=all' (fun x=>!(Nat.beq x.k 2||Nat.beq x.k 3)) l
noncomputable def bY(ops:Array Oper)(cls:List Cl):Bool:=av (noTwo cls) true (pairs aR (jI ops.toList [] 0) cls)
noncomputable def YE(o:Op):Bool:=@Op.rec (fun _=>Bool) (fun _=>true) (fun _=>true) (fun _ _ _=>true) (fun _=>true) (fun _ _=>true) (fun _ _=>true) (fun _ _ _=>true) (fun _ _ _ _=>true) (fun _ _=>true) (fun _ _ _=>true) (fun _=>true) (fun _=>true) (fun _=>true) (fun _ _ _ _ _=>true) (fun _ _ _=>true) (fun _ _ _=>true) (fun _ _=>true) (fun _ _=>true) (fun _ _ _=>true) (fun _ _=>true) (fun _ _=>true) (fun _ _ _=>true) (fun _ _ _ _ _=>true) (fun _ _ _=>true) (fun _ _ _=>true) (fun _ _ _=>true) (fun _ _ _=>true) (fun _ _ _ _=>true) (fun _ _ _ _=>true) (fun _ _ _=>true) (fun _ _ _ _=>true) (fun _ _=>true) (fun _ _=>true) (fun _=>true) (fun _ _ _ _=>true) (fun _ _=>true) (fun _=>true) (fun _=>true) (fun _=>true) (fun _=>true) (fun _ _=>true) (fun _ _ _=>true) (fun _ _=>false) o
noncomputable def bT(ops:Array Oper):Bool:=all' (fun o=>aK (iF o.op)&&YE o.op) ops.toList
inductive Out where
 |fail
 |norm(s:St)
 |exit(id:Nat)(s:St)
 |goto(l:Nat)(s:St)
 |ret(s:St)
noncomputable def andThen(o:Out)(k:St→Out):Out:=
 @Out.rec (fun _=>(St→Out)→Out) (fun _=>.fail) (fun s k=>k s) (fun id s _=>.exit id s) (fun l s _=>.goto l s) (fun s _=>.ret s) o k
noncomputable def zo(c:Option Bool)(x y:Out):Out:=@Option.rec Bool (fun _=>Out) .fail (fun b=>av b x y) c
noncomputable def lC(id:Nat)(o:Out):Out:=
 @Out.rec (fun _=>Nat→Out) (fun _=>.fail) (fun s _=>.norm s) (fun i s id=>av (Nat.beq i id) (.norm s) (.exit i s)) (fun l s _=>.goto l s) (fun s _=>.ret s) o id
noncomputable def l_(n:Nat)(f:St→Out):St→Out:=@Nat.rec (fun _=>St→Out) (fun _=>.fail) (fun _ ih s=>andThen (f s) ih) n
noncomputable def aai(o:Out)(k:Nat→St→Out):Out:=
 @Out.rec (fun _=>(Nat→St→Out)→Out) (fun _=>.fail) (fun s _=>.norm s) (fun i s _=>.exit i s) (fun l s k=>k l s) (fun s _=>.ret s) o k
noncomputable def eO(cx:Code→St→Out)(n:Nat)(body:Code):Out→Out:=
 @Nat.rec (fun _=>Out→Out) (fun _=>.fail) (fun _ ih o=>aai o fun l s=>@Option.rec Code (fun _=>Out) (.goto l s) (fun rest=>ih (cx rest s)) (findLabel body l)) n
noncomputable def zq(o:Option St):Out:=@Option.rec St (fun _=>Out) .fail .norm o
noncomputable def clear(s:St):St:=⟨s.nl,s.nt,[],s.tm,s.df,s.H⟩
noncomputable def jV(ops:Array Oper)(o:Option (St×List Cl)):Out:=
 @Option.rec (St×List Cl) (fun _=>Out) .fail (fun q=>av (bY ops q.2) (.norm q.1) .fail) o
noncomputable def region(P:Program)(cf:b_)(ops:Array Oper)(draw:Bool)(s:St):Out:=
 av draw (av (bT ops&&fV ops) (jV ops (bF P cf ops ops.toList (clear s) [])) .fail) (zq (dV P cf ops ops.toList (clear s)))
noncomputable def exec(P:Program)(cf:b_)(cx:Code→St→Out)(n:Nat)(c:Code):St→Out:=
 @Code.rec (fun _=>St→Out)
  (fun s=>.norm s)
  (fun _ ops draw s=>region P cf ops draw s)
  (fun _ _ ia ib s=>andThen (ia s) ib)
  (fun c _ _ ix iy s=>zo (bJ (ev s c)) (ix s) (iy s))
  (fun id _ ih s=>lC id (ih s))
  (fun _ ih s=>l_ n ih s)
  (fun _ _ _ _ _ _=>fun _=>.fail)
  (fun id s=>.exit id s)
  (fun c ih s=>eO cx n c (ih s))
  (fun _ s=>.norm s)
  (fun l s=>.goto l s)
  (fun s=>.ret s)
  (fun _=>fun _=>.fail) c
noncomputable def uB(P:Program)(s:St)(r:ResultVar):Option Value:=
 @ResultVar.rec (fun _=>Option Value) (fun t=>some (aX s t)) (fun a t=>ai (kz P t (aX s a) s.H) fun p=>some p.1) r
noncomputable def dz(P:Program)(s:St)(l:List ResultVar):Option (List Value):=
 @List.rec ResultVar (fun _=>Option (List Value)) (some []) (fun r _ q=>ai (uB P s r) fun v=>ai q fun vs=>some (v::vs)) l
noncomputable def jb(vs:List Value):Value:=av (Nat.beq (len vs) 1) ((nth vs 0).getD undef) (.tuple ⟨vs⟩)
noncomputable def EY(o:Out):Option St:=@Out.rec (fun _=>Option St) none (fun s=>some s) (fun _ _=>none) (fun _ _=>none) (fun s=>some s) o
noncomputable def zu(P:Program)(fn:Func)(s:St):Option (Value×aa):=
 gd (Nat.beq (len s.df) 0) (ai (dz P s fn.results.toList) fun vs=>some (jb vs,s.H))
noncomputable def Qy(m t:Nat):Nat:=Nat.lor m (Nat.shiftLeft 1 t)
noncomputable def YF(x:Operand):Option Nat:=@Operand.rec (fun _=>Option Nat) some (fun _=>none) (fun _=>none) (fun _=>none) x
noncomputable def YG(l:List Operand)(p:Nat×Nat):Nat:=
 @List.rec Operand (fun _=>Nat) p.1 (fun x _ r=>@Option.rec Nat (fun _=>Nat) r (fun t=>av (aV p.2 t) r (Qy r t)) (YF x)) l
noncomputable def Qz(l:List Oper):Nat×Nat→Nat×Nat:=
 @List.rec Oper (fun _=>Nat×Nat→Nat×Nat) (fun p=>p)
  (fun o _ ih p=>ih (YG o.op.operands.toList p,@Option.rec Nat (fun _=>Nat) p.2 (Qy p.2) o.dst)) l
noncomputable def NV(c:Code):Nat:=@Code.rec (fun _=>Nat) (0)
 (fun _ ops _=>(Qz ops.toList (0,0)).1)
 (fun _ _ a b=>Nat.lor a b)
 (fun _ _ _ a b=>Nat.lor a b)
 (fun _ _ a=>a)
 (fun _ a=>a)
 (fun _ _ _ _ _ _=>0)
 (fun _=>0)
 (fun _ a=>a)
 (fun _=>0)
 (fun _=>0)
 (0)
 (fun _=>0) c
noncomputable def QA(l:List ResultVar):Nat:=@List.rec ResultVar (fun _=>Nat) 0 (fun r _ n=>Qy n (@ResultVar.rec (fun _=>Nat) (fun t=>t) (fun a _=>a) r)) l
noncomputable def bM(P:Program)(g:FuncId):Nat:=@Option.rec Func (fun _=>Nat) 0 (fun fn=>Nat.lor (QA fn.results.toList) (@Option.rec Code (fun _=>Nat) 0 NV fn.body)) (nth P.funcs.toList g)
structure Lv where
 ca:b_
 cx:Code→St→Out
noncomputable def NW(P:Program)(L:Lv)(n:Nat)(g x:Nat)(fn:Func)(args:List Value)(H:aa):Option (Value×aa):=
 @Option.rec Code (fun _=>Option (Value×aa)) (NU P x fn.resultTypes.toList args H)
  (fun c=>gd (Nat.ble (len args) fn.ntmps) (ai (EY (exec P L.ca L.cx n c ⟨bM P g,fn.ntmps,[],Tr.jH top args 0 .nil,[],H⟩)) fun s=>zu P fn s)) fn.body
structure Xt where
 c:FuncId→Nat
 o:FuncId→List Value→aa→Option (Value×aa)
instance:CoeFun Xt (fun _=>FuncId→Nat):=⟨Xt.c⟩
noncomputable def orO(o d:Option (Value×aa)):Option (Value×aa):=@Option.rec (Value×aa) (fun _=>Option (Value×aa)) d some o
noncomputable def qF(P:Program)(X:Xt)(L:Lv)(n:Nat)(g:FuncId)(args:List Value)(H:aa):Option (Value×aa):=
 orO (X.o g args H) (ai (nth P.funcs.toList g) fun fn=>NW P L n g (X g) fn args H)
noncomputable def lv(P:Program)(X:Xt)(n:Nat):Lv:=
 @Nat.rec (fun _=>Lv) ⟨fun _ _ _=>none,fun _ _=>.fail⟩ (fun m L=>⟨qF P X L m,exec P L.ca L.cx m⟩) n
noncomputable def bN(P:Program)(X:Xt)(n:Nat):b_:=(lv P X n).ca
end Go.Ae
namespace Go.Ae
structure Loc where
 c:Nat
 lo:Nat
 base:Nat
 tot:Nat
 n:Nat
abbrev Mp:=Nat→Option Loc
def Mp.le(m m':Mp):Prop:=∀r l,m r=some l→m' r=some l
mutual
inductive VR(m:Mp):Value→Value→Prop where
 |sc (v:Value) (h:eF v=true):VR m v v
 |top (v:Value):VR m top v
 |ptr (r off:Nat) (l:Loc) (h:m r=some l) (hl:l.lo≤off):VR m (.pointer (some ⟨r,off,none⟩)) (.pointer (some ⟨l.c,l.base +(off -l.lo),none⟩))
 |slice (r off n cp:Nat) (l:Loc) (h:m r=some l) (hl:l.lo≤off) (hk:aY cp=true) (hn:n≤cp):
  VR m (.slice (some ⟨r,off,none⟩) n cp) (.slice (some ⟨l.c,l.base +(off -l.lo),none⟩) n cp)
 |jq (r off n es cc:Nat) (l:Loc) (h:m r=some l) (hl:l.lo≤off) (he:0<es) (ht:l.base +(off -l.lo) +cc*es=l.tot) (hc:n≤cc) (hN:l.n≤off +cc*es):
  VR m (.slice (some ⟨r,off,none⟩) n (aQ es)) (.slice (some ⟨l.c,l.base +(off -l.lo),none⟩) n cc)
 |lD (a a':Addr):VR m (.slice (some a) 0 0) (.slice (some a') 0 0)
 |jy (r off es:Nat) (a':Addr) (l:Loc) (h:m r=some l) (hl:l.lo≤off) (he:0<es) (hN:l.n≤off):VR m (.slice (some ⟨r,off,none⟩) 0 (aQ es)) (.slice (some a') 0 0)
 |map (r:Nat) (l:Loc) (h:m r=some l):VR m (.map (some r)) (.map (some l.c))
 |func (f:Fn) (x y x' y':List Value) (hx:dn m x x') (hy:dn m y y'):VR m (.func f ⟨x⟩ ⟨y⟩) (.func f ⟨x'⟩ ⟨y'⟩)
 |iface (t:TypeId) (v v':Value) (h:VR m v v'):VR m (.iface t v) (.iface t v')
 |agg (x x':List Value) (h:dn m x x'):VR m (.agg ⟨x⟩) (.agg ⟨x'⟩)
 |tuple (x x':List Value) (h:dn m x x'):VR m (.tuple ⟨x⟩) (.tuple ⟨x'⟩)
inductive dn(m:Mp):List Value→List Value→Prop where
 |nil:dn m [] []
 |cons (v v':Value) (x x':List Value) (h:VR m v v') (hx:dn m x x'):dn m (v::x) (v'::x')
end
mutual
theorem VR.mono{m m':Mp}(hm:Mp.le m m'):∀{v v':Value},VR m v v'→VR m' v v'
 |_,_,.sc v h=>.sc v h
 |_,_,.top v=>.top v
 |_,_,.ptr r off l h hl=>.ptr r off l (hm r l h) hl
 |_,_,.slice r off n cp l h hl hk hn=>.slice r off n cp l (hm r l h) hl hk hn
 |_,_,.jq r off n es cc l h hl he ht hc hN=>.jq r off n es cc l (hm r l h) hl he ht hc hN
 |_,_,.lD a a'=>.lD a a'
 |_,_,.jy r off es a' l h hl he hN=>.jy r off es a' l (hm r l h) hl he hN
 |_,_,.map r l h=>.map r l (hm r l h)
 |_,_,.func f x y x' y' hx hy=>.func f x y x' y' (dn.mono hm hx) (dn.mono hm hy)
 |_,_,.iface t v v' h=>.iface t v v' (VR.mono hm h)
 |_,_,.agg x x' h=>.agg x x' (dn.mono hm h)
 |_,_,.tuple x x' h=>.tuple x x' (dn.mono hm h)
theorem dn.mono{m m':Mp}(hm:Mp.le m m'):∀{v v':List Value},dn m v v'→dn m' v v'
 |_,_,.nil=>.nil
 |_,_,.cons v v' x x' h hx=>.cons v v' x x' (VR.mono hm h) (dn.mono hm hx)
end
theorem dn.length{m:Mp}{x x':List Value}(h:dn m x x'):x.length=x'.length:=by
 induction x generalizing x' with
 |nil=>cases h;rfl
 |cons v x ih=>cases h with|cons _ v' _ x' h hx=>simp[ih hx]
theorem dn.get{m:Mp}{x x':List Value}(h:dn m x x')(k:Nat){v:Value}(hv:x[k]?=some v):∃v',x'[k]?=some v'∧VR m v v':=by
 induction x generalizing x' k with
 |nil=>simp at hv
 |cons w x ih=>
  cases h with
  |cons _ w' _ x' h hx=>
   cases k with
   |zero=>simp at hv;subst hv;exact⟨w',by simp,h⟩
   |succ k=>simpa using ih hx k (by simpa using hv)
theorem dn.append{m:Mp}{x x' y y':List Value}(h:dn m x x')(hy:dn m y y'):dn m (x++y) (x'++y'):=by
 induction x generalizing x' with
 |nil=>cases h;exact hy
 |cons w x ih=>cases h with|cons _ w' _ x' h hx=>exact .cons _ _ _ _ h (ih hx)
theorem dn.take{m:Mp}{x x':List Value}(h:dn m x x')(k:Nat):dn m (x.take k) (x'.take k):=by
 induction x generalizing x' k with
 |nil=>cases h;simp;exact .nil
 |cons w x ih=>cases h with
  |cons _ w' _ x' h hx=>cases k with
   |zero=>simp;exact .nil
   |succ k=>simp;exact .cons _ _ _ _ h (ih hx k)
theorem dn.drop{m:Mp}{x x':List Value}(h:dn m x x')(k:Nat):dn m (x.drop k) (x'.drop k):=by
 induction x generalizing x' k with
 |nil=>cases h;simp;exact .nil
 |cons w x ih=>cases h with
  |cons _ w' _ x' h hx=>cases k with
   |zero=>simp;exact .cons _ _ _ _ h hx
   |succ k=>simp;exact ih hx k
theorem dn.set{m:Mp}{x x':List Value}(h:dn m x x')(k:Nat){v v':Value}(hv:VR m v v'):dn m (x.set k v) (x'.set k v'):=by
 induction x generalizing x' k with
 |nil=>cases h;simp;exact .nil
 |cons w x ih=>cases h with
  |cons _ w' _ x' h hx=>cases k with
   |zero=>simp;exact .cons _ _ _ _ hv hx
   |succ k=>simp;exact .cons _ _ _ _ h (ih hx k)
theorem dn.eF{m:Mp}:∀{x:List Value},x.all eF=true→dn m x x
 |[],_=>.nil
 |v::x,h=>by simp at h;exact .cons _ _ _ _ (.sc v h.1) (dn.eF (by simpa using h.2))
theorem fG{v:Value}{a:Addr}(h:gG v=some a):v=.pointer (some a):=by
 cases v<;>simp[gG]at h<;>simp[h]
theorem fZ{v:Value}{b:Bool}(h:bJ v=some b):v=.bool b:=by
 cases v<;>simp[bJ]at h<;>simp[h]
theorem gM{v:Value}{p:IntKind×Int}(h:ji v=some p):v=.int p.1 p.2:=by
 cases v<;>simp[ji]at h<;>simp[←h]
theorem EZ{n:Int}{k:Nat}(h:Dh n=some k):n=k:=by
 cases n<;>simp[Dh]at h;simp[h]
theorem uC{v:Value}{n:Nat}(h:oK v=some n):∃k,v=.int k n:=by
 cases v<;>simp[oK]at h
 case int k m=>exact⟨k,by rw[EZ h]⟩
theorem fH{v:Value}{b:ByteArray}(h:jk v=some b):v=.string b:=by
 cases v<;>simp[jk]at h<;>simp[h]
theorem kE{v:Value}{p:Option Addr×Nat×Nat}(h:zk v=some p):v=.slice p.1 p.2.1 p.2.2:=by
 cases v<;>simp[zk]at h<;>simp[←h]
theorem qG{v:Value}{p:Option Nat}(h:A_ v=some p):v=.map p:=by
 cases v<;>simp[A_]at h<;>simp[h]
theorem E6{v:Value}{p:Fn×List Value×List Value}(h:Qm v=some p):v=.func p.1 ⟨p.2.1⟩ ⟨p.2.2⟩:=by
 cases v<;>simp[Qm]at h<;>simp[←h]
theorem jA{v:Value}{p:List Value}(h:kR v=some p):v=.agg ⟨p⟩:=by
 cases v<;>simp[kR]at h<;>simp[←h]
theorem Vg{v:Value}{p:List Value}(h:Qn v=some p):v=.tuple ⟨p⟩:=by
 cases v<;>simp[Qn]at h<;>simp[←h]
theorem NY{v:Value}{p:TypeId×Value}(h:vH v=some p):v=.iface p.1 p.2:=by
 cases v<;>simp[vH]at h<;>simp[←h]
theorem E7{f:Fn}{g:FuncId}(h:U0 f=some g):f=.func g:=by
 cases f<;>simp[U0]at h<;>simp[h]
section inv
variable{m:Mp}
theorem VR.of_bool{b:Bool}{v:Value}(h:VR m (.bool b) v):v=.bool b:=by cases h;rfl
theorem VR.of_int{k:IntKind}{n:Int}{v:Value}(h:VR m (.int k n) v):v=.int k n:=by cases h;rfl
theorem VR.jW{b:ByteArray}{v:Value}(h:VR m (.string b) v):v=.string b:=by cases h;rfl
theorem VR.lF{x:List Value}{v:Value}(h:VR m (.agg ⟨x⟩) v):∃x',v=.agg ⟨x'⟩∧dn m x x':=by
 cases h with
 |sc _ h=>simp[Ae.eF]at h
 |agg _ x' h=>exact⟨x',rfl,h⟩
theorem VR.E8{x:List Value}{v:Value}(h:VR m (.tuple ⟨x⟩) v):∃x',v=.tuple ⟨x'⟩∧dn m x x':=by
 cases h with
 |sc _ h=>simp[Ae.eF]at h
 |tuple _ x' h=>exact⟨x',rfl,h⟩
theorem VR.GY{t:TypeId}{x v:Value}(h:VR m (.iface t x) v):∃x',v=.iface t x'∧VR m x x':=by
 cases h with
 |sc _ h=>simp[Ae.eF]at h
 |iface _ _ x' h=>exact⟨x',rfl,h⟩
theorem VR.QB{f:Fn}{x y:List Value}{v:Value}(h:VR m (.func f ⟨x⟩ ⟨y⟩) v):∃x' y',v=.func f ⟨x'⟩ ⟨y'⟩∧dn m x x'∧dn m y y':=by
 cases h with
 |sc _ h=>simp[Ae.eF]at h
 |func _ _ _ x' y' hx hy=>exact⟨x',y',rfl,hx,hy⟩
theorem VR.jc{a:Addr}{v:Value}(h:VR m (.pointer (some a)) v):∃l,m a.block=some l∧l.lo≤a.off∧a.spot=none∧v=.pointer (some ⟨l.c,l.base +(a.off -l.lo),none⟩):=by
 cases h with
 |sc _ h=>simp[Ae.eF,aK]at h
 |ptr r off l h hl=>exact⟨l,h,hl,rfl,rfl⟩
theorem VR.of_map{r:Nat}{v:Value}(h:VR m (.map (some r)) v):∃l,m r=some l∧v=.map (some l.c):=by
 cases h with
 |sc _ h=>simp[Ae.eF,aK]at h
 |map r l h=>exact⟨l,h,rfl⟩
theorem VR.jB{v v':Value}(h:VR m v v')(hs:eF v=true):v'=v:=by
 cases h<;>first|rfl|(simp[Ae.eF,aK,Ae.top]at hs)
theorem dn.jB{x x':List Value}(h:dn m x x')(hs:x.all Ae.eF=true):x'=x:=by
 induction x generalizing x' with
 |nil=>cases h;rfl
 |cons w x ih=>cases h with
  |cons _ w' _ x' h hx=>simp at hs;rw[VR.jB h hs.1,ih hx (by simpa using hs.2)]
theorem VR.aT{v v':Value}(h:VR m v v')(hs:aT v=true):v'.cells=#[v']∧(∀x,v'≠.agg x)∧(∀x,v'≠.tuple x):=by
 cases h<;>first
  |(rename_i hv;cases v<;>simp[Ae.aT,Value.cells]at hs⊢)
  |(simp[Value.cells];done)
  |(simp[Ae.aT,Ae.top]at hs;done)
end inv
end Go.Ae
namespace Go.Ae
theorem YH{d:TypeDesc}{e:TypeId}(h:dSl d=some e):d=.slice e:=by cases d<;>simp[dSl]at h;rw[h]
theorem AA{d:TypeDesc}{e:TypeId}(h:wY d=some e):d=.pointer e:=by cases d<;>simp[wY]at h;rw[h]
theorem E9{d:TypeDesc}{e:Nat×TypeId}(h:GN d=some e):d=.array e.1 e.2:=by cases d<;>simp[GN]at h;rw[←h]
theorem Vh{d:TypeDesc}{e:TypeId×TypeId}(h:YD d=some e):d=.map e.1 e.2:=by cases d<;>simp[YD]at h;rw[←h]
theorem JQ{d:TypeDesc}{e:List Field}(h:ES d=some e):d=.struct ⟨e⟩:=by cases d<;>simp[ES]at h;rw[←h]
theorem xh{d:TypeDesc}(h:rH d=true):d=.string:=by cases d<;>simp[rH]at h;rfl
theorem L_{d:TypeDesc}{k:IntKind}(h:Di d=some k):d=.int k:=by cases d<;>simp[Di]at h;rw[h]
theorem NZ{d:TypeDesc}{k:FloatKind}(h:yx d=some k):d=.float k:=by cases d<;>simp[yx]at h;rw[h]
theorem Vi{k:IntKind}(h:Bb k=true):k=.u8:=by cases k<;>simp[Bb]at h;rfl
theorem pN{k k':IntKind}(h:Nat.beq (ig k) (ig k')=true):k=k':=by cases k<;>cases k'<;>first|rfl|cases h
theorem iG{P:Program}{t:TypeId}{s:Nat}(h:ku P t=some s):∃i,P.info? t=some i∧i.size=s:=by
 (replace h:=ae h;obtain⟨i,hi,h⟩:=h);cases h;exact⟨i,hi,rfl⟩
theorem pz{P:Program}{t:TypeId}{q:TypeId×Nat}(h:Gz P t=some q):P.underlying t=some (.slice q.1)∧(∃i,P.info? q.1=some i∧i.size=q.2)∧1≤q.2:=by
 (replace h:=ae h;obtain⟨d,hd,h⟩:=h)
 (replace h:=ae h;obtain⟨e,he,h⟩:=h)
 (replace h:=ae h;obtain⟨s,hs,h⟩:=h)
 (replace h:=aJ h;obtain⟨h1,h⟩:=h)
 cases h
 exact⟨by rw[hd,YH he],iG hs,Nat.le_of_ble_eq_true h1⟩
theorem AB{P:Program}{t:TypeId}{q:Nat×TypeId×Nat}(h:GQ P t=some q):P.underlying t=some (.array q.1 q.2.1)∧(∃i,P.info? q.2.1=some i∧i.size=q.2.2)∧1≤q.2.2:=by
 (replace h:=ae h;obtain⟨d,hd,h⟩:=h)
 (replace h:=ae h;obtain⟨e,he,h⟩:=h)
 (replace h:=ae h;obtain⟨s,hs,h⟩:=h)
 (replace h:=aJ h;obtain⟨h1,h⟩:=h)
 cases h
 exact⟨by rw[hd,E9 he],iG hs,Nat.le_of_ble_eq_true h1⟩
theorem xk{P:Program}{t:TypeId}{q:TypeId×TypeId}(h:qA P t=some q):P.underlying t=some (.map q.1 q.2):=by
 (replace h:=ae h;obtain⟨d,hd,h⟩:=h)
 rw[hd,Vh h]
theorem yH{P:Program}{t:TypeId}(h:vI P t=true):P.underlying t=some .string:=by
 unfold vI at h
 cases hd:P.underlying t with
 |none=>rw[hd]at h;cases h
 |some d=>rw[hd]at h;rw[xh h]
theorem GZ{P:Program}{t:TypeId}(h:zl P t=true):P.underlying t=some (.int .u8):=by
 unfold zl at h
 cases hd:P.underlying t with
 |none=>rw[hd]at h;cases h
 |some d=>
  rw[hd]at h
  cases hk:Di d with
  |none=>simp[hk]at h
  |some k=>simp[hk]at h;rw[L_ hk,Vi h]
theorem JR{P:Program}{t:TypeId}{l:Option Nat}(h:P6 P t=some l):
 ∃d i,P.underlying t=some d∧P.info? t=some i∧((JK d=true∧l=some i.size)∨(JK d=false∧l=none)):=by
 (replace h:=ae h;obtain⟨d,hd,h⟩:=h)
 (replace h:=ae h;obtain⟨s,hs,h⟩:=h)
 obtain⟨i,hi,rfl⟩:=iG hs
 refine⟨d,i,hd,hi,?_⟩
 cases ha:JK d<;>simp[ha,av]at h<;>simp[←h]
theorem vN{P:Program}{t:TypeId}{fs:List Field}(h:Aw P t=some fs):P.underlying t=some (.struct ⟨fs⟩):=by
 (replace h:=ae h;obtain⟨d,hd,h⟩:=h)
 rw[hd,JQ h]
theorem D3{P:Program}{t:TypeId}{f:Nat}{q:Nat×Option Nat}(h:JL P t f=some q):
 ∃fs fd i,P.underlying t=some (.struct ⟨fs⟩)∧fs[f]?=some fd∧fd.offset=q.1∧P6 P fd.type=some q.2∧P.info? fd.type=some i∧1≤i.size:=by
 (replace h:=ae h;obtain⟨fs,hfs,h⟩:=h)
 (replace h:=ae h;obtain⟨fd,hfd,h⟩:=h)
 (replace h:=ae h;obtain⟨l,hl,h⟩:=h)
 (replace h:=ae h;obtain⟨s,hs,h⟩:=h)
 (replace h:=aJ h;obtain⟨h1,h⟩:=h)
 cases h
 obtain⟨i,hi,rfl⟩:=iG hs
 exact⟨fs,fd,i,vN hfs,by rw[←fB];exact hfd,rfl,hl,hi,Nat.le_of_ble_eq_true h1⟩
theorem E_{z:Value}(h:yz z=true):(ay z).all eF=true:=by
 unfold yz at h
 unfold ay
 cases ha:kR z with
 |none=>rw[ha]at h;simpa using h
 |some l=>rw[ha]at h;simpa [all_eq]using h
theorem N5{m:Mp}{z:Value}(h:yz z=true):VR m z z:=by
 unfold yz at h
 cases ha:kR z with
 |none=>rw[ha]at h;exact .sc z h
 |some l=>
  rw[ha]at h
  rw[jA ha]
  exact .agg _ _ (dn.eF (by simpa [all_eq]using h))
theorem G_{P:Program}{t:TypeId}{z:Value}(h:uZ P t=some z):(∃i,P.info? t=some i∧i.zero=some z)∧yz z=true:=by
 (replace h:=ae h;obtain⟨i,hi,h⟩:=h)
 (replace h:=ae h;obtain⟨z',hz,h⟩:=h)
 (replace h:=aJ h;obtain⟨h1,h⟩:=h)
 cases h
 exact⟨⟨i,hi,hz⟩,h1⟩
theorem uD(v:Value):ay v=v.cells.toList:=by
 cases v<;>simp[ay,kR,Value.cells]
theorem nH{P:Program}{t:TypeId}{zs:List Value}(h:o_ P t=some zs):
 ∃i z,P.info? t=some i∧i.zero=some z∧zs=z.cells.toList∧zs.length=i.size∧zs.all eF=true:=by
 (replace h:=ae h;obtain⟨z,hz,h⟩:=h)
 (replace h:=ae h;obtain⟨s,hs,h⟩:=h)
 (replace h:=aJ h;obtain⟨h1,h⟩:=h)
 cases h
 obtain⟨i,hi,rfl⟩:=iG hs
 obtain⟨⟨i',hi',hz'⟩,hok⟩:=G_ hz
 rw[hi]at hi';cases hi'
 simp only[aP]at h1
 exact⟨i,z,hi,hz',uD z,Nat.eq_of_beq_eq_true h1,E_ hok⟩
section run
variable{P:Program}{w:World}
theorem aF{t:TypeId}{d:TypeDesc}(h:P.underlying t=some d):(underlying t).run P w=.ok d w:=by simp[underlying,h]
theorem nS{t:TypeId}{i:TypeInfo}(h:P.info? t=some i):(typeInfo t).run P w=.ok i w:=by simp[typeInfo,h]
theorem bK{t:TypeId}{i:TypeInfo}(h:P.info? t=some i):(sizeOf t).run P w=.ok i.size w:=by simp[sizeOf,nS h]
theorem nT{t:TypeId}{i:TypeInfo}{z:Value}(h:P.info? t=some i)(hz:i.zero=some z):(zeroValue t).run P w=.ok z w:=by simp[zeroValue,nS h,hz]
theorem lG{t:TypeId}{d:TypeDesc}(h:P.underlying t=some d):(isAgg t).run P w=.ok (JK d) w:=by
 simp only[isAgg,Sem.run_bind,aF h,Result.andThen_ok]
 cases d<;>rfl
end run
section ops
variable{P:Program}{m:Mp}
theorem Ma{l:Option Nat}{t:TypeId}{cs cs':List Value}{off:Nat}{v:Value}(h:apart l cs off=some v)(hl:P6 P t=some l)(hc:dn m cs cs'):
 ∃v',VR m v v'∧∀w,(part t ⟨cs'⟩ off).run P w=.ok v' w:=by
 obtain⟨d,i,hd,hi,hk⟩:=JR hl
 rcases hk with⟨ha,rfl⟩|⟨ha,rfl⟩
 ·(replace h:=aJ h;obtain⟨h1,h⟩:=h)
  cases h
  refine⟨.agg ⟨(cs'.drop off).take i.size⟩,?_,fun w=>?_⟩
  ·rw[zi,DV];exact .agg _ _ ((hc.drop off).take _)
  ·simp only[part,Sem.run_bind,lG hd,ha,Result.andThen_ok,if_true,bK hi,Sem.run_pure]
   simp[zi,DV,List.take_drop]
 ·simp only[apart,fB]at h
  obtain⟨v',hv',hr⟩:=hc.get off h
  refine⟨v',hr,fun w=>?_⟩
  simp[part,lG hd,ha,hv']
theorem oZ{n es:Nat}(h:aY n=true):n≠aQ es:=by
 intro e;rw[e]at h
 have:=Nat.le_of_ble_eq_true h
 unfold aQ at this
 simp at this
 omega
theorem VR.of_slice{a:Addr}{n cp:Nat}{v:Value}(h:VR m (.slice (some a) n cp) v):
 (∃l cc,m a.block=some l∧l.lo≤a.off∧a.spot=none∧v=.slice (some ⟨l.c,l.base +(a.off -l.lo),none⟩) n cc∧
  ((aY cp=true∧cc=cp∧n≤cp)∨(∃es,cp=aQ es∧0<es∧l.base +(a.off -l.lo) +cc*es=l.tot∧n≤cc∧l.n≤a.off +cc*es)))∨
 (∃a',n=0∧(cp=0∨∃es l,cp=aQ es∧m a.block=some l∧l.lo≤a.off∧0<es∧l.n≤a.off∧a.spot=none)∧v=.slice (some a') 0 0):=by
 cases h with
 |sc _ h=>simp[Ae.eF,aK]at h
 |slice r off n cp l h hl hk hn=>exact .inl ⟨l,cp,h,hl,rfl,rfl,.inl ⟨hk,rfl,hn⟩⟩
 |jq r off n es cc l h hl he ht hc hN=>exact .inl ⟨l,cc,h,hl,rfl,rfl,.inr ⟨es,rfl,he,ht,hc,hN⟩⟩
 |lD a a'=>exact .inr ⟨a',rfl,.inl rfl,rfl⟩
 |jy r off es a' l h hl he hN=>exact .inr ⟨a',rfl,.inr ⟨es,l,rfl,h,hl,he,hN,rfl⟩,rfl⟩
theorem VR.jr{n cp:Nat}{v:Value}(h:VR m (.slice none n cp) v):n=0∧cp=0∧v=.slice none 0 0:=by
 cases h with
 |sc _ h=>
  simp[Ae.eF,aK]at h
  obtain⟨h1,h2⟩:=h
  exact⟨h1,h2,by rw[h1,h2]⟩
theorem Fb(m:Mp)(r off k:Nat)(l:Loc)(h:m r=some l)(hl:l.lo≤off):
 VR m (.pointer (some ⟨r,off +k,none⟩)) (.pointer (some ((⟨l.c,l.base +(off -l.lo),none⟩:Addr).add k))):=by
 have he:(⟨l.c,l.base +(off -l.lo),none⟩:Addr).add k=⟨l.c,l.base +(off +k -l.lo),none⟩:=by
  unfold Addr.add
  split
  ·next h0=>rw[h0,Nat.add_zero]
  ·congr 1;show l.base +(off -l.lo) +k=_;omega
 rw[he]
 exact .ptr r (off +k) l h (by omega)
theorem Fe{t:TypeId}{x i v x' i':Value}(h:iO P t x i=some v)(hx:VR m x x')(hi:VR m i i'):
 ∃v',VR m v v'∧∀w,(Instr.indexAt t x' i').run P w=.ok v' w:=by
 (replace h:=ae h;obtain⟨k,hk,h⟩:=h)
 obtain⟨kk,rfl⟩:=uC hk
 have:=hi.of_int;subst this
 cases hs:Gz P t with
 |some q=>
  rw[hs]at h
  obtain⟨hu,⟨inf,jM,hsz⟩,h1⟩:=pz hs
  (replace h:=ae h;obtain⟨p,hp,h⟩:=h)
  (replace h:=ae h;obtain⟨a,ha,h⟩:=h)
  (replace h:=aJ h;obtain⟨hlt,h⟩:=h)
  cases h
  have hlt:=Nat.le_of_ble_eq_true hlt
  rw[kE hp,ha]at hx
  rcases hx.of_slice with⟨l,cc,hm,hl,hsp,rfl,_⟩|⟨a',h0,_,_⟩
  ·refine⟨_,Fb m a.block a.off (k*q.2) l hm hl,fun w=>?_⟩
   have h2:k<p.2.1:=hlt
   simp[Instr.indexAt,asIntOf,aF hu,bK jM,hsz,h2]
  ·omega
 |none=>
  rw[hs]at h
  (replace h:=ae h;obtain⟨q,hq,h⟩:=h)
  obtain⟨hu,⟨inf,jM,hsz⟩,h1⟩:=AB hq
  (replace h:=ae h;obtain⟨a,ha,h⟩:=h)
  (replace h:=aJ h;obtain⟨hlt,h⟩:=h)
  cases h
  have hlt:=Nat.le_of_ble_eq_true hlt
  rw[fG ha]at hx
  obtain⟨l,hm,hl,hsp,rfl⟩:=hx.jc
  refine⟨_,Fb m a.block a.off (k*q.2.2) l hm hl,fun w=>?_⟩
  have h2:k<q.1:=hlt
  simp[Instr.indexAt,Instr.sureAddr,asIntOf,aF hu,bK jM,hsz,h2]
theorem QC{t:TypeId}{x i v x' i':Value}(h:rZ P t x i=some v)(hx:VR m x x')(hi:VR m i i'):
 ∃v',VR m v v'∧∀w,(Instr.index t x' i').run P w=.ok v' w:=by
 (replace h:=ae h;obtain⟨k,hk,h⟩:=h)
 obtain⟨kk,rfl⟩:=uC hk
 have:=hi.of_int;subst this
 cases hs:vI P t with
 |true=>
  rw[hs]at h
  have hu:=yH hs
  (replace h:=ae h;obtain⟨s,hp,h⟩:=h)
  (replace h:=ae h;obtain⟨b,hb,h⟩:=h)
  cases h
  rw[fH hp]at hx
  have:=hx.jW;subst this
  rw[fB]at hb
  refine⟨.int .u8 b.toNat,.sc _ rfl,fun w=>?_⟩
  have hb':s[k]?=some b:=by
   rw[←hb]
   obtain⟨hlt,heq⟩:=List.getElem?_eq_some_iff.1 hb
   have hlt':k<s.size:=hlt
   rw[getElem?_pos s k hlt']
   simp[hb,←heq];rfl
  simp[Instr.index,asIntOf,aF hu,hb']
 |false=>
  rw[hs]at h
  (replace h:=ae h;obtain⟨q,hq,h⟩:=h)
  (replace h:=ae h;obtain⟨cs,hcs,h⟩:=h)
  (replace h:=ae h;obtain⟨l,hl,h⟩:=h)
  (replace h:=aJ h;obtain⟨hlt,h⟩:=h)
  obtain⟨hu,⟨inf,jM,hsz⟩,h1⟩:=AB hq
  have hlt:=Nat.le_of_ble_eq_true hlt
  rw[jA hcs]at hx
  obtain⟨cs',rfl,hc⟩:=hx.lF
  obtain⟨v',hv',hr⟩:=Ma h hl hc
  refine⟨v',hv',fun w=>?_⟩
  have h2:k<q.1:=hlt
  have:=hr w
  simp only[Nat.mul_eq]at this
  simp[Instr.index,asIntOf,aF hu,bK jM,hsz,h2,this]
theorem Ff{t:TypeId}{x v x':Value}{f:Nat}(h:iP P t x f=some v)(hx:VR m x x'):
 ∃v',VR m v v'∧∀w,(Instr.fieldAt t x' f).run P w=.ok v' w:=by
 (replace h:=ae h;obtain⟨a,ha,h⟩:=h)
 (replace h:=ae h;obtain⟨q,hq,h⟩:=h)
 cases h
 obtain⟨fs,fd,i,hu,hfd,ho,hl,hi,h1⟩:=D3 hq
 rw[fG ha]at hx
 obtain⟨l,hm,hlo,hsp,rfl⟩:=hx.jc
 refine⟨_,Fb m a.block a.off q.1 l hm hlo,fun w=>?_⟩
 have h2:i.size≠0:=by omega
 simp[Instr.fieldAt,aF hu,hfd,Instr.sureAddr,fieldPlace,bK hi,h2,ho]
theorem QD{t:TypeId}{x v x':Value}{f:Nat}(h:r_ P t x f=some v)(hx:VR m x x'):
 ∃v',VR m v v'∧∀w,(Instr.field t x' f).run P w=.ok v' w:=by
 (replace h:=ae h;obtain⟨cs,ha,h⟩:=h)
 (replace h:=ae h;obtain⟨q,hq,h⟩:=h)
 obtain⟨fs,fd,i,hu,hfd,ho,hl,hi,h1⟩:=D3 hq
 rw[jA ha]at hx
 obtain⟨cs',rfl,hc⟩:=hx.lF
 obtain⟨v',hv',hr⟩:=Ma h hl hc
 refine⟨v',hv',fun w=>?_⟩
 have:=hr w
 simp[Instr.field,aF hu,hfd,asAgg,ho,this]
end ops
end Go.Ae
namespace Go.Ae
section ops
variable{P:Program}{m:Mp}
theorem nU{s:Sem Value}{v:Value}(h:bQ s=some v):eF v=true∧∀w,s.run P w=.ok v w:=by
 cases s<;>simp only[bQ]at h
 case pure u=>
  (replace h:=aJ h;obtain⟨h1,h⟩:=h)
  cases h
  exact⟨h1,fun w=>rfl⟩
 all_goals cases h
theorem pE{β:Type}(b:Bool)(x y:β):av b x y=if b=true then x else y:=by cases b<;>rfl
theorem N6(n:Int):fM .i64 n=IntKind.i64.wrap n:=by
 cases n with
 |ofNat k=>
  have e:fM .i64 (.ofNat k)=av (true&&Nat.ble k 9223372036854775807) (.ofNat k) (IntKind.i64.wrap (.ofNat k)):=rfl
  rw[e,pE]
  split
  ·next hb=>
   simp only[Bool.true_and]at hb
   have:=Nat.le_of_ble_eq_true hb
   exact(IntWalk.i64_in _ (by simp;omega)).symm
  ·simp only[]
 |negSucc k=>
  have e:fM .i64 (.negSucc k)=av (true&&Nat.ble k 9223372036854775807) (.negSucc k) (IntKind.i64.wrap (.negSucc k)):=rfl
  rw[e,pE]
  split
  ·next hb=>
   simp only[Bool.true_and]at hb
   have:=Nat.le_of_ble_eq_true hb
   exact(IntWalk.i64_in _ (by omega)).symm
  ·simp only[]
theorem xm(k:IntKind)(n:Int):fM k n=k.wrap n:=by
 cases k
 case i64=>exact N6 n
 all_goals cases n<;>simp[fM,uY,pE]
theorem JS(a b:Int):Dj a b=decide (a<b):=by
 rw[Bool.eq_iff_iff]
 cases a<;>cases b<;>simp[Dj,Nat.ble_eq]<;>omega
theorem Bn(a b:Int):Dk a b=(a==b):=by
 rw[Bool.eq_iff_iff]
 cases a<;>cases b<;>simp[Dk,Nat.beq_eq]<;>omega
theorem Bo(a b:Bool):qw a b=(a==b):=by cases a<;>cases b<;>rfl
theorem N7:∀(a b:List Nat),Bc a b=(a==b):=by
 intro a
 induction a with
 |nil=>intro b;cases b<;>rfl
 |cons x a ih=>
  intro b
  cases b with
  |nil=>rfl
  |cons y b=>
   show av (Nat.beq x y) (Bc a b) false=_
   rw[ih,List.cons_beq_cons,pE]
   by_cases hxy:x=y
   ·subst hxy;simp
   ·have:Nat.beq x y=false:=by rw[←Bool.not_eq_true,Nat.beq_eq];exact hxy
    simp[this,hxy]
theorem Vj(a b:List UInt8):(Vd a==Vd b)=(a==b):=by
 rw[Bool.eq_iff_iff]
 simp only[Vd,wX,beq_iff_eq]
 constructor
 ·intro h
  exact(List.map_inj_right (fun x y h=>UInt8.toNat_inj.1 h)).1 h
 ·intro h;rw[h]
theorem nV(a b:ByteArray):iJ a b=(a.toList==b.toList):=by
 unfold iJ
 rw[N7,Vj,ByteArray.toList_eq,ByteArray.toList_eq]
theorem QE(a b:ByteArray):strLt a b=Op.bytesLess a.toList b.toList:=by
 unfold strLt
 rw[ByteArray.toList_eq,ByteArray.toList_eq]
theorem Vk{op:BinOp}{k:IntKind}{a b:Int}{v:Value}{t:TypeId}(h:NT op k a b=some v):eF v=true∧∀w,(binOp op t (.int k a) (.int k b)).run P w=.ok v w:=by
 have ps:∀(o:BinOp)(s:Sem Value),bQ s=some v→binOp o t (.int k a) (.int k b)=s→eF v=true∧∀w,(binOp o t (.int k a) (.int k b)).run P w=.ok v w:=by
  intro o s h1 h2;rw[h2];exact nU h1
 cases op<;>simp only[NT]at h
 case quo=>exact ps _ _ h (by simp[binOp])
 case rem=>exact ps _ _ h (by simp[binOp])
 case and=>exact ps _ _ h (by simp[binOp])
 case or=>exact ps _ _ h (by simp[binOp])
 case xor=>exact ps _ _ h (by simp[binOp])
 case andNot=>exact ps _ _ h (by simp[binOp])
 case shl=>cases h
 case shr=>cases h
 all_goals
  cases h
  refine⟨rfl,fun w=>?_⟩
  simp[binOp,Op.intArith,Op.intCmp,xm,JS,Bn]
 case leq=>rw[Bool.eq_iff_iff];simp
 case geq=>rw[Bool.eq_iff_iff];simp
 all_goals rfl
theorem Vl{op:BinOp}{a b:ByteArray}{v:Value}{t:TypeId}(h:Ve op a b=some v):eF v=true∧∀w,(binOp op t (.string a) (.string b)).run P w=.ok v w:=by
 cases op<;>simp only[Ve]at h
 case add=>
  simp only[Qp]at h
  (replace h:=aJ h;obtain⟨h1,h⟩:=h)
  cases h
  refine⟨rfl,fun w=>?_⟩
  have h2:=Nat.le_of_ble_eq_true h1
  simp only[aP]at h2
  have h3:¬(((a.size +b.size:Nat):Int)>IntKind.i64.max):=by
   have e1:a.size=a.data.toList.length:=rfl
   have e2:b.size=b.data.toList.length:=rfl
   have e3:IntKind.i64.max=9223372036854775807:=by decide
   have h4:a.data.toList.length +b.data.toList.length≤4611686018427387904:=h2
   rw[e1,e2,e3];omega
  have h5:a++b=⟨⟨app a.data.toList b.data.toList⟩⟩:=by
   rw[ja]
   apply ByteArray.ext
   simp[ByteArray.data_append]
  simp only[binOp,Op.stringOp]
  rw[if_neg h3,h5];rfl
 all_goals first
  |cases h;done
  |(cases h
    refine⟨rfl,fun w=>?_⟩
    simp[binOp,Op.stringOp,nV,QE])
theorem N8{op:BinOp}{t:TypeId}{x y v x' y':Value}(h:JM op t x y=some v)(hx:VR m x x')(hy:VR m y y'):
 VR m v v∧∀w,(binOp op t x' y').run P w=.ok v w:=by
 (replace h:=aJ h;obtain⟨h1,h⟩:=h)
 simp only[Bool.and_eq_true]at h1
 have hsx:eF x=true:=by
  have:=Nat.le_of_ble_eq_true h1.1
  cases x<;>simp[lq]at this<;>rfl
 have hsy:eF y=true:=by
  have h2:=Nat.eq_of_beq_eq_true h1.2
  have:=Nat.le_of_ble_eq_true h1.1
  rw[h2]at this
  cases y<;>simp[lq]at this<;>rfl
 rw[hx.jB hsx,hy.jB hsy]
 obtain⟨a,b⟩:=nU (P:=P) h
 exact⟨.sc v a,b⟩
theorem pO{d:TypeDesc}{x y x' y':Value}{b:Bool}{t:TypeId}(hd:P.underlying t=some d)(h:lg (jw d) x y=some b)(hx:VR m x x')(hy:VR m y y'):
 x'=x∧y'=y∧∀n w,(Op.equalIn (n +1) t x' y').run P w=.ok b w:=by
 cases d<;>simp only[jw]at h
 case int k=>
  have h:(ai (ji x) fun a=>ai (ji y) fun b=>gd (Nat.beq (ig a.1) (ig b.1)) (some (Dk a.2 b.2)))=some b:=h
  (replace h:=ae h;obtain⟨p,hp,h⟩:=h)
  (replace h:=ae h;obtain⟨q,hq,h⟩:=h)
  (replace h:=aJ h;obtain⟨hk,h⟩:=h)
  cases h
  have e1:=gM hp
  have e2:=gM hq
  have hk:=pN hk
  rw[e1]at hx;rw[e2]at hy
  have hx:=hx.of_int
  have hy:=hy.of_int
  refine⟨by rw[hx,e1],by rw[hy,e2],fun n w=>?_⟩
  rw[hx,hy,hk,run_equalIn_int w n t _ k _ _ hd,Bn]
 case bool=>
  have h:(ai (bJ x) fun a=>ai (bJ y) fun b=>some (qw a b))=some b:=h
  (replace h:=ae h;obtain⟨p,hp,h⟩:=h)
  (replace h:=ae h;obtain⟨q,hq,h⟩:=h)
  cases h
  have e1:=fZ hp
  have e2:=fZ hq
  rw[e1]at hx;rw[e2]at hy
  have hx:=hx.of_bool
  have hy:=hy.of_bool
  refine⟨by rw[hx,e1],by rw[hy,e2],fun n w=>?_⟩
  rw[hx,hy,run_equalIn_bool' w n t _ _ hd,Bo]
 case string=>
  have h:(ai (jk x) fun a=>ai (jk y) fun b=>some (iJ a b))=some b:=h
  (replace h:=ae h;obtain⟨p,hp,h⟩:=h)
  (replace h:=ae h;obtain⟨q,hq,h⟩:=h)
  cases h
  have e1:=fH hp
  have e2:=fH hq
  rw[e1]at hx;rw[e2]at hy
  have hx:=hx.jW
  have hy:=hy.jW
  refine⟨by rw[hx,e1],by rw[hy,e2],fun n w=>?_⟩
  rw[hx,hy,run_equalIn_string w n t _ _ hd,nV]
 all_goals cases h
end ops
end Go.Ae
namespace Go.Ae
section ops
variable{P:Program}{m:Mp}
theorem pP{d:TypeDesc}(h:1≤jw d):JK d=false:=by cases d<;>first|rfl|simp[jw]at h
theorem jT{f:Field}{fs:List Field}{k:Nat}{ks:List Nat}(h:iN P (f::fs) k=some ks):
 ∃d r,P.underlying f.type=some d∧iN P fs (k +1)=some r∧f.offset=k∧f.name≠ "_" ∧1≤jw d∧ks=jw d::r:=by
 have h:(ai (P.underlying f.type) fun d=>ai (iN P fs (k +1)) fun r=>gd (Nat.beq f.offset k&&!(f.name== "_")&&Nat.ble 1 (jw d)) (some (jw d::r)))=some ks:=h
 (replace h:=ae h;obtain⟨d,hd,h⟩:=h)
 (replace h:=ae h;obtain⟨r,hr,h⟩:=h)
 (replace h:=aJ h;obtain⟨hg,h⟩:=h)
 cases h
 simp only[Bool.and_eq_true,Bool.not_eq_true',beq_eq_false_iff_ne]at hg
 exact⟨d,r,hd,hr,Nat.eq_of_beq_eq_true hg.1.1,hg.1.2,Nat.le_of_ble_eq_true hg.2,rfl⟩
theorem mX{k:Nat}{ks:List Nat}{xs ys:List Value}{b:Bool}(h:iE (k::ks) xs ys=some b):
 ∃x xr y yr c,xs=x::xr∧ys=y::yr∧lg k x y=some c∧((c=true∧iE ks xr yr=some b)∨(c=false∧b=false)):=by
 cases xs with
 |nil=>cases h
 |cons x xr=>cases ys with
  |nil=>cases h
  |cons y yr=>
   have h:(ai (lg k x y) fun c=>av c (iE ks xr yr) (some false))=some b:=h
   (replace h:=ae h;obtain⟨c,hc,h⟩:=h)
   cases c
   ·cases h;exact⟨x,xr,y,yr,false,rfl,rfl,hc,.inr ⟨rfl,rfl⟩⟩
   ·exact⟨x,xr,y,yr,true,rfl,rfl,hc,.inl ⟨rfl,h⟩⟩
theorem nI{t:TypeId}{d:TypeDesc}{cs:List Value}{off:Nat}{v:Value}{w:World}(hd:P.underlying t=some d)(ha:JK d=false)(hv:cs[off]?=some v):
 (part t ⟨cs⟩ off).run P w=.ok v w:=by
 simp[part,lG hd,ha,hv]
theorem He:∀(fs:List Field)(k:Nat)(ks:List Nat)(xs ys X' Y':List Value)(b:Bool),iN P fs k=some ks→iE ks xs ys=some b→
 dn m xs (X'.drop k)→dn m ys (Y'.drop k)→∀n w,(Op.eqFields (n +1) ⟨X'⟩ ⟨Y'⟩ fs).run P w=.ok b w:=by
 intro fs
 induction fs with
 |nil=>
  intro k ks xs ys X' Y' b hk hc hx hy n w
  cases hk
  cases xs with
  |nil=>cases ys with
   |nil=>cases hc;rfl
   |cons _ _=>cases hc
  |cons _ _=>cases hc
 |cons f fs ih=>
  intro k ks xs ys X' Y' b hk hc hx hy n w
  obtain⟨d,r,hd,hr,ho,hn,h1,rfl⟩:=jT hk
  obtain⟨x,xr,y,yr,c,rfl,rfl,hce,hcase⟩:=mX hc
  generalize hX:X'.drop k=X1 at hx
  generalize hY:Y'.drop k=Y1 at hy
  cases hx with
  |cons _ x' _ xr' hxv rM=>
   cases hy with
   |cons _ y' _ yr' hyv QF=>
    have gx:X'[k]?=some x':=by
     have:=congrArg (·[0]?) hX;simpa using this
    have gy:Y'[k]?=some y':=by
     have:=congrArg (·[0]?) hY;simpa using this
    have dx:X'.drop (k +1)=xr':=by rw[←List.drop_drop,hX];rfl
    have dy:Y'.drop (k +1)=yr':=by rw[←List.drop_drop,hY];rfl
    obtain⟨ex,ey,he⟩:=pO (t:=f.type) hd hce hxv hyv
    have p1:=nI (w:=w) hd (pP h1) gx
    have p2:=nI (w:=w) hd (pP h1) gy
    rw[←ho]at p1 p2
    simp only[Op.eqFields,hn,ne_eq,not_false_eq_true,if_true,Sem.run_bind,p1,p2,Result.andThen_ok,he n w,Sem.run_ite,Sem.run_pure]
    rcases hcase with⟨rfl,hrest⟩|⟨rfl,rfl⟩
    ·simp only[Bool.not_true,Bool.false_eq_true,if_false]
     exact ih (k +1) r xr yr X' Y' b hr hrest (by rw[dx];exact rM) (by rw[dy];exact QF) n w
    ·simp
theorem QG{α:Type}(x:α)(n:Nat):Qq x n=List.replicate n x:=by
 induction n with
 |zero=>rfl
 |succ n ih=>exact congrArg (x::·) ih
theorem JU{e:TypeId}{d:TypeDesc}(hd:P.underlying e=some d)(h1:1≤jw d)(hs:P.cellsOf e=1):∀(c k:Nat)(xs ys X' Y':List Value)(b:Bool),
 iE (List.replicate c (jw d)) xs ys=some b→dn m xs (X'.drop k)→dn m ys (Y'.drop k)→
 ∀n w,(Op.eqItems (n +1) e (P.cellsOf e) ⟨X'⟩ ⟨Y'⟩ (List.range' k c)).run P w=.ok b w:=by
 intro c
 induction c with
 |zero=>
  intro k xs ys X' Y' b hc hx hy n w
  cases xs with
  |nil=>cases ys with
   |nil=>cases hc;rfl
   |cons _ _=>cases hc
  |cons _ _=>cases hc
 |succ c ih=>
  intro k xs ys X' Y' b hc hx hy n w
  obtain⟨x,xr,y,yr,q,rfl,rfl,hce,hcase⟩:=mX hc
  generalize hX:X'.drop k=X1 at hx
  generalize hY:Y'.drop k=Y1 at hy
  cases hx with
  |cons _ x' _ xr' hxv rM=>
   cases hy with
   |cons _ y' _ yr' hyv QF=>
    have gx:X'[k]?=some x':=by
     have:=congrArg (·[0]?) hX;simpa using this
    have gy:Y'[k]?=some y':=by
     have:=congrArg (·[0]?) hY;simpa using this
    have dx:X'.drop (k +1)=xr':=by rw[←List.drop_drop,hX];rfl
    have dy:Y'.drop (k +1)=yr':=by rw[←List.drop_drop,hY];rfl
    obtain⟨ex,ey,he⟩:=pO (t:=e) hd hce hxv hyv
    have p1:=nI (w:=w) hd (pP h1) gx
    have p2:=nI (w:=w) hd (pP h1) gy
    rw[List.range'_succ]
    simp only[Op.eqItems,Sem.run_bind,hs,Nat.mul_one,p1,p2,Result.andThen_ok,he n w,Sem.run_ite,Sem.run_pure]
    rcases hcase with⟨rfl,hrest⟩|⟨rfl,rfl⟩
    ·simp only[Bool.not_true,Bool.false_eq_true,if_false]
     have:=ih (k +1) xr yr X' Y' b hrest (by rw[dx];exact rM) (by rw[dy];exact QF) n w
     rw[hs]at this
     exact this
    ·simp
theorem N9{α:Type}{o q:Option α}{r:α}(h:orElse' o q=some r):o=some r∨(o=none∧q=some r):=by
 cases o with
 |none=>exact .inr ⟨rfl,h⟩
 |some x=>exact .inl h
theorem yI{t:TypeId}{q:Sum Nat (List Nat)}(h:Vf P t=some q):
 (∃d,P.underlying t=some d∧q=.inl (jw d)∧1≤jw d)∨
 (∃fs ks,P.underlying t=some (.struct ⟨fs⟩)∧P.stoodInHeld t=false∧iN P fs 0=some ks∧q=.inr ks)∨
 (∃n e d i,P.underlying t=some (.array n e)∧P.underlying e=some d∧P.info? e=some i∧i.size=1∧1≤jw d∧q=.inr (List.replicate n (jw d))):=by
 (replace h:=ae h;obtain⟨d,hd,h⟩:=h)
 cases hb:Nat.ble 1 (jw d)with
 |true=>rw[hb]at h;cases h;exact .inl ⟨d,hd,rfl,Nat.le_of_ble_eq_true hb⟩
 |false=>
  rw[hb]at h
  have h:(ai (orElse' (GR P t) (Xi P t)) fun l=>some (Sum.inr l))=some q:=h
  (replace h:=ae h;obtain⟨l,hl,h⟩:=h)
  cases h
  rcases N9 hl with hs|⟨_,ha⟩
  ·right;left
   have h:=hs
   (replace h:=ae h;obtain⟨fs,hfs,h⟩:=h)
   (replace h:=aJ h;obtain⟨hg,h⟩:=h)
   exact⟨fs,l,vN hfs,by simpa using hg,h,rfl⟩
  ·right;right
   have h:=ha
   (replace h:=ae h;obtain⟨d',hd',h⟩:=h)
   (replace h:=ae h;obtain⟨a,ha',h⟩:=h)
   (replace h:=ae h;obtain⟨e,he,h⟩:=h)
   (replace h:=ae h;obtain⟨s,hs,h⟩:=h)
   (replace h:=aJ h;obtain⟨hg,h⟩:=h)
   cases h
   obtain⟨i,hi,rfl⟩:=iG hs
   simp only[Bool.and_eq_true]at hg
   exact⟨a.1,a.2,e,i,by rw[hd',E9 ha'],he,hi,Nat.eq_of_beq_eq_true hg.1,Nat.le_of_ble_eq_true hg.2,by rw[QG]⟩
theorem JV{e:TypeId}{i:TypeInfo}(h:P.info? e=some i):P.cellsOf e=i.size:=by simp[Program.cellsOf,h]
theorem QH{t:TypeId}{x y x' y':Value}{b:Bool}(h:gI P t x y=some b)(hx:VR m x x')(hy:VR m y y'):
 ∀n w,(Op.equalIn (n +2) t x' y').run P w=.ok b w:=by
 intro n w
 (replace h:=ae h;obtain⟨q,hq,h⟩:=h)
 rcases yI hq with⟨d,hd,rfl,h1⟩|⟨fs,ks,hu,hs,hk,rfl⟩|⟨c,e,d,i,hu,he,hi,hsz,h1,rfl⟩
 ·have h:lg (jw d) x y=some b:=h
  exact(pO hd h hx hy).2.2 (n +1) w
 ·have h:(ai (kR x) fun a=>ai (kR y) fun b=>iE ks a b)=some b:=h
  (replace h:=ae h;obtain⟨xs,hxs,h⟩:=h)
  (replace h:=ae h;obtain⟨ys,hys,h⟩:=h)
  rw[jA hxs]at hx
  rw[jA hys]at hy
  obtain⟨xs',rfl,rM⟩:=hx.lF
  obtain⟨ys',rfl,QF⟩:=hy.lF
  have hf:P.fieldsOf t=⟨fs⟩:=by simp[Program.fieldsOf,hu]
  rw[run_equalIn_struct w (n +1) t _ _ (by rw[hf];exact hu) hs,hf]
  exact He fs 0 ks xs ys xs' ys' b hk h (by simpa using rM) (by simpa using QF) n w
 ·have h:(ai (kR x) fun a=>ai (kR y) fun b=>iE (List.replicate c (jw d)) a b)=some b:=h
  (replace h:=ae h;obtain⟨xs,hxs,h⟩:=h)
  (replace h:=ae h;obtain⟨ys,hys,h⟩:=h)
  rw[jA hxs]at hx
  rw[jA hys]at hy
  obtain⟨xs',rfl,rM⟩:=hx.lF
  obtain⟨ys',rfl,QF⟩:=hy.lF
  rw[run_equalIn_array w (n +1) _ _ hu hi,List.range_eq_range']
  exact JU he h1 (by rw[JV hi,hsz]) c 0 xs ys xs' ys' b h (by simpa using rM) (by simpa using QF) n w
theorem Bp{t:TypeId}{x y x' y':Value}{b:Bool}(h:gI P t x y=some b)(hx:VR m x x')(hy:VR m y y')(w:World):
 (Op.equal t x' y').run P w=.ok b w:=by
 have:=QH h hx hy 9998 w
 exact this
end ops
end Go.Ae
namespace Go.Ae
section ops
variable{P:Program}{m:Mp}
theorem yJ{d:TypeDesc}(h:1≤jw d):(∃k,d=.int k)∨d=.bool∨d=.string:=by
 cases d<;>first|exact .inl ⟨_,rfl⟩|exact .inr (.inl rfl)|exact .inr (.inr rfl)|simp[jw]at h
theorem Bq{t:TypeId}{d:TypeDesc}(hd:P.underlying t=some d)(h:1≤jw d)(n:Nat):P.eqGuardType (n +1) t=false:=by
 unfold Program.eqGuardType
 rw[hd]
 rcases yJ h with⟨k,rfl⟩|rfl|rfl<;>rfl
theorem N_:∀(fs:List Field)(k:Nat)(ks:List Nat),iN P fs k=some ks→∀n,fs.any (fun f=>f.name != "_" &&P.eqGuardType (n +1) f.type)=false:=by
 intro fs
 induction fs with
 |nil=>intros;rfl
 |cons f fs ih=>
  intro k ks hk n
  obtain⟨d,r,hd,hr,ho,hn,h1,rfl⟩:=jT hk
  simp only[List.any_cons,ih _ _ hr n,Bool.or_false,Bq hd h1 n,Bool.and_false]
theorem Vm{t:TypeId}{q:Sum Nat (List Nat)}(h:Vf P t=some q):P.eqGuardType P.depth t=false:=by
 obtain⟨D,hD⟩:∃D,P.depth=D +2:=⟨_,rfl⟩
 rw[hD]
 rcases yI h with⟨d,hd,rfl,h1⟩|⟨fs,ks,hu,hs,hk,rfl⟩|⟨c,e,d,i,hu,he,hi,hsz,h1,rfl⟩
 ·exact Bq hd h1 (D +1)
 ·unfold Program.eqGuardType
  rw[hu]
  have:=N_ fs 0 ks hk D
  simpa using this
 ·unfold Program.eqGuardType
  rw[hu]
  exact Bq he h1 D
theorem VR.iM{x x':Value}(h:VR m x x')(h1:1≤(Ae.iM x).1):Ae.iM x'=Ae.iM x:=by
 cases h<;>first|rfl|(simp[Ae.iM,Ae.top]at h1)
theorem vO{x:Value}(h:1≤(iM x).1):
 (∃a,x=.pointer a∧iM x=(1,a.isNone))∨(∃a l c,x=.slice a l c∧iM x=(2,a.isNone))∨(∃r,x=.map r∧iM x=(3,r.isNone))∨
 (∃f y z,x=.func f y z∧iM x=(4,false))∨(x=.nilFunc∧iM x=(4,true))∨(∃t v,x=.iface t v∧iM x=(5,false))∨(x=.nilIface∧iM x=(5,true)):=by
 cases x<;>simp[iM]at h⊢
 case pointer a=>cases a<;>rfl
 case slice a l c=>cases a<;>rfl
 case map a=>cases a<;>rfl
theorem JW{d:TypeDesc}(h:1≤l7 d):(∃e,d=.pointer e∧l7 d=1)∨(∃e,d=.slice e∧l7 d=2)∨(∃k e,d=.map k e∧l7 d=3)∨(∃p r v,d=.func p r v∧l7 d=4)∨(∃ms,d=.interface ms∧l7 d=5):=by
 cases d<;>simp[l7]at h⊢
set_option maxHeartbeats 2000000 in
theorem Oa{t:TypeId}{x y:Value}{k:Nat}{b:Bool}(ht:yA P t=k)(h1:1≤k)(hx:iM x=(k,b))(hy:iM y=(k,true))(w:World):
 (Op.equal t x y).run P w=.ok b w∧(Op.equal t y x).run P w=.ok b w:=by
 unfold yA at ht
 cases hu:P.underlying t with
 |none=>rw[hu]at ht;simp at ht;omega
 |some d=>
  rw[hu]at ht
  have ht:l7 d=k:=ht
  have hx1:1≤(iM x).1:=by rw[hx];exact h1
  have hy1:1≤(iM y).1:=by rw[hy];exact h1
  have hd1:1≤l7 d:=by omega
  rcases JW hd1 with⟨e,rfl,hk⟩|⟨e,rfl,hk⟩|⟨kk,e,rfl,hk⟩|⟨p,r,v,rfl,hk⟩|⟨ms,rfl,hk⟩<;>
  rcases vO hx1 with⟨a,rfl,hxa⟩|⟨a,l,c,rfl,hxa⟩|⟨a,rfl,hxa⟩|⟨f,q,z,rfl,hxa⟩|⟨rfl,hxa⟩|⟨tt,v,rfl,hxa⟩|⟨rfl,hxa⟩<;>
  (rw[hxa]at hx;rw[Prod.mk.injEq]at hx;obtain⟨hx2,hx3⟩:=hx)<;>try(exfalso;omega)
  all_goals
   rcases vO hy1 with⟨a',rfl,hya⟩|⟨a',l',c',rfl,hya⟩|⟨a',rfl,hya⟩|⟨f',q',z',rfl,hya⟩|⟨rfl,hya⟩|⟨tt',v',rfl,hya⟩|⟨rfl,hya⟩<;>
   (rw[hya]at hy;rw[Prod.mk.injEq]at hy;obtain⟨hy2,hy3⟩:=hy)<;>try(exfalso;omega)
  all_goals first|cases hy3;done|skip
  all_goals try(cases a'<;>simp at hy3)
  all_goals try(cases a)
  all_goals
   subst hx3
   constructor<;>(refine(?_:∀n,(Op.equalIn (n +1) _ _ _).run P w=_) 9999;intro n;simp only[Op.equalIn,Sem.run_bind,aF hu,Result.andThen_ok,Sem.run_pure];(try rfl))
theorem QI{t:TypeId}{x y x' y':Value}{b:Bool}(ht:yB P t=true)(h:ptrEq x y=some b)(hx:VR m x x')(hy:VR m y y')(w:World):
 (Op.equal t x' y').run P w=.ok b w∧(∃a a',x'=.pointer (some a)∧y'=.pointer (some a')):=by
 (replace h:=ae h;obtain⟨a,ha,h⟩:=h)
 (replace h:=ae h;obtain⟨c,hc,h⟩:=h)
 (replace h:=aJ h;obtain⟨hg,h⟩:=h)
 cases h
 rw[fG ha]at hx
 rw[fG hc]at hy
 obtain⟨l,hm,hlo,hsp,rfl⟩:=hx.jc
 obtain⟨l',hm',aaj,adw,rfl⟩:=hy.jc
 have hb:=Nat.eq_of_beq_eq_true hg
 rw[hb,hm']at hm
 cases hm
 have hsz:∃e i,P.underlying t=some (.pointer e)∧P.info? e=some i∧1≤i.size:=by
  unfold yB at ht
  cases hq:(ai (P.underlying t) fun d=>ai (wY d) fun e=>ai (ku P e) fun s=>gd (Nat.ble 1 s) (some ()))with
  |none=>rw[hq]at ht;cases ht
  |some u=>
   have h:=hq
   (replace h:=ae h;obtain⟨d,hd,h⟩:=h)
   (replace h:=ae h;obtain⟨e,he,h⟩:=h)
   (replace h:=ae h;obtain⟨s,hs,h⟩:=h)
   (replace h:=aJ h;obtain⟨h1,h⟩:=h)
   obtain⟨i,hi,rfl⟩:=iG hs
   exact⟨e,i,by rw[hd,AA he],hi,Nat.le_of_ble_eq_true h1⟩
 obtain⟨e,i,hu,hi,h1⟩:=hsz
 refine⟨?_,_,_,rfl,rfl⟩
 have hne:i.size≠0:=by omega
 refine(?_:∀n,(Op.equalIn (n +1) _ _ _).run P w=_) 9999
 intro n
 simp only[Op.equalIn,Sem.run_bind,aF hu,Result.andThen_ok,bK hi,ne_eq,hne,not_false_eq_true,if_true,sameAddr,BEq.rfl,Sem.run_ite,Sem.run_pure]
 congr 1
 rw[Bool.eq_iff_iff]
 simp only[beq_iff_eq,Addr.mk.injEq,and_true,true_and]
 rw[show(Nat.beq a.off c.off=true)=(a.off=c.off)from by simp[Nat.beq_eq]]
 omega
theorem binOp_eql{t:TypeId}{x y:Value}{b:Bool}{w:World}(h:(Op.equal t x y).run P w=.ok b w)
 (hn:∀k n,x≠.int k n)(hf:∀k n,x≠.float k n)(hc:∀k n q,x≠.complex k n q)(hs:∀s,x≠.string s):
 (binOp .eql t x y).run P w=.ok (.bool b) w∧(binOp .neq t x y).run P w=.ok (.bool (!b)) w:=by
 have e1:binOp .eql t x y=(do pure (.bool (←Op.equal t x y))):=by
  cases x<;>first|rfl|(exfalso;first|exact hn _ _ rfl|exact hf _ _ rfl|exact hc _ _ _ rfl|exact hs _ rfl)
 have e2:binOp .neq t x y=(do pure (.bool (!(←Op.equal t x y)))):=by
  cases x<;>first|rfl|(exfalso;first|exact hn _ _ rfl|exact hf _ _ rfl|exact hc _ _ _ rfl|exact hs _ rfl)
 rw[e1,e2]
 simp[h]
end ops
end Go.Ae
namespace Go.Ae
section ops
variable{P:Program}{m:Mp}
theorem lX{o:Operand}(h:jl o=true):∃v,o=.const v∧(iM v).2=true:=by
 cases o<;>simp[jl]at h;exact⟨_,rfl,h⟩
theorem fI{op:BinOp}{t:TypeId}{ox oy:Operand}{x y:Value}(w:World)(h:jl ox=true∨jl oy=true∨x≠.nilIface∨y≠.nilIface)
 (h2:(∀c,x≠.agg c)∨(∀c,y≠.agg c)∨P.eqGuardType P.depth t=false):(eqGuard op t ox oy x y).run P w=.ok () w:=by
 by_cases hop:op=.eql∨op=.neq
 ·by_cases hagg:∃c c',x=.agg c∧y=.agg c'
  ·obtain⟨c,c',rfl,rfl⟩:=hagg
   rcases h2 with h2|h2|h2
   ·exact absurd rfl (h2 c)
   ·exact absurd rfl (h2 c')
   ·exact run_eqGuard_agg w op t ox oy c c' h2
  ·by_cases hnil:x=.nilIface∧y=.nilIface
   ·obtain⟨rfl,rfl⟩:=hnil
    have hc:(∃v,ox=.const v)∨∃v,oy=.const v:=by
     rcases h with h|h|h|h
     ·obtain⟨v,rfl,_⟩:=lX h;exact .inl ⟨_,rfl⟩
     ·obtain⟨v,rfl,_⟩:=lX h;exact .inr ⟨_,rfl⟩
     ·exact absurd rfl h
     ·exact absurd rfl h
    rcases hc with⟨v,rfl⟩|⟨v,rfl⟩
    ·rcases hop with rfl|rfl<;>rfl
    ·rcases hop with rfl|rfl<;>cases ox<;>rfl
   ·rcases hop with rfl|rfl<;>cases x<;>first
     |rfl
     |(cases y<;>first|rfl|(exfalso;exact hagg ⟨_,_,rfl,rfl⟩)|(exfalso;exact hnil ⟨rfl,rfl⟩))
 ·cases op<;>first|rfl|(exfalso;exact hop (.inl rfl))|(exfalso;exact hop (.inr rfl))
theorem Mc{op:BinOp}{t:TypeId}{ox oy:Operand}{x c x' c':Value}{b:Bool}(h:DW (yA P t) c x=some b)(hx:VR m x x')(hc:VR m c c')(hn:(iM c).2=true)(w:World):
 (Op.equal t x' c').run P w=.ok b w∧(Op.equal t c' x').run P w=.ok b w∧(∀q,x'≠.agg q)∧1≤(iM x').1∧1≤(iM c').1:=by
 (replace h:=aJ h;obtain⟨hg,h⟩:=h)
 cases h
 simp only[Bool.and_eq_true]at hg
 have h1:=Nat.le_of_ble_eq_true hg.1.1
 have h2:=Nat.eq_of_beq_eq_true hg.1.2
 have h3:=Nat.eq_of_beq_eq_true hg.2
 have ex:=hx.iM (by omega)
 have ec:=hc.iM (by omega)
 have D4:iM x'=(yA P t,(iM x).2):=by rw[ex,←h2]
 have hcc:iM c'=(yA P t,true):=by rw[ec,←h3,←hn]
 have:=Oa rfl h1 D4 hcc w
 refine⟨this.1,this.2,?_,by rw[D4];exact h1,by rw[hcc];exact h1⟩
 intro q hq
 rw[hq]at D4;simp[iM]at D4;omega
def D5(x:Value):Prop:=(∀k n,x≠.int k n)∧(∀k n,x≠.float k n)∧(∀k n q,x≠.complex k n q)∧∀s,x≠.string s
theorem D6{x:Value}(h:1≤(iM x).1):D5 x:=by
 refine⟨?_,?_,?_,?_⟩<;>(intros;intro e;rw[e]at h;simp[iM]at h)
theorem YI{op:BinOp}{t:TypeId}{ox oy:Operand}{x y x' y':Value}{b:Bool}(h:P7 P t ox oy x y=some b)(hx:VR m x x')(hy:VR m y y')
 (hox:∀c,ox=.const c→x=c)(hoy:∀c,oy=.const c→y=c)(hxo:ji x=none∧jk x=none∧lq x=0)(w:World):
 (Op.equal t x' y').run P w=.ok b w∧(eqGuard op t ox oy x' y').run P w=.ok () w∧D5 x':=by
 unfold P7 at h
 cases hcy:jl oy with
 |true=>
  rw[hcy]at h
  obtain⟨v,hv,hn⟩:=lX hcy
  have:=hoy v hv;subst this
  obtain⟨h1,h2,h3,h4,h5⟩:=Mc (op:=op) (ox:=ox) (oy:=oy) h hx hy hn w
  exact⟨h1,fI w (.inr (.inl hcy)) (.inl h3),D6 h4⟩
 |false=>
  rw[hcy]at h
  cases hcx:jl ox with
  |true=>
   rw[hcx]at h
   obtain⟨v,hv,hn⟩:=lX hcx
   have:=hox v hv;subst this
   obtain⟨h1,h2,h3,h4,h5⟩:=Mc (op:=op) (ox:=ox) (oy:=oy) h hy hx hn w
   exact⟨h2,fI w (.inl hcx) (.inr (.inl h3)),D6 h5⟩
  |false=>
   rw[hcx]at h
   cases hp:yB P t with
   |true=>
    rw[hp]at h
    obtain⟨h1,a,a',rfl,rfl⟩:=QI hp h hx hy w
    exact⟨h1,fI w (.inr (.inr (.inl (by simp)))) (.inl (by simp)),by simp[D5]⟩
   |false=>
    rw[hp]at h
    have h:gI P t x y=some b:=h
    have h1:=Bp h hx hy w
    have hv:=h
    (replace h:=ae h;obtain⟨q,hq,h⟩:=h)
    have hng:=Vm hq
    rcases yI hq with⟨d,hd,rfl,hk⟩|⟨fs,ks,hu,hs,hk,rfl⟩|⟨c,e,d,i,hu,he,hi,hsz,hk,rfl⟩
    ·have h:lg (jw d) x y=some b:=h
     obtain⟨ex,ey,_⟩:=pO (t:=t) hd h hx hy
     subst ex;subst ey
     have aak:∃z,x'=.bool z:=by
      rcases yJ hk with⟨k,rfl⟩|rfl|rfl
      ·have h:(ai (ji x') fun a=>ai (ji y') fun b=>gd (Nat.beq (ig a.1) (ig b.1)) (some (Dk a.2 b.2)))=some b:=h
       rw[hxo.1]at h;cases h
      ·have h:(ai (bJ x') fun a=>ai (bJ y') fun b=>some (qw a b))=some b:=h
       (replace h:=ae h;obtain⟨p,hp,h⟩:=h)
       exact⟨p,fZ hp⟩
      ·have h:(ai (jk x') fun a=>ai (jk y') fun b=>some (iJ a b))=some b:=h
       rw[hxo.2.1]at h;cases h
     obtain⟨z,rfl⟩:=aak
     exact⟨h1,fI w (.inr (.inr (.inl (by simp)))) (.inl (by simp)),by simp[D5]⟩
    ·have h:(ai (kR x) fun a=>ai (kR y) fun b=>iE ks a b)=some b:=h
     (replace h:=ae h;obtain⟨xs,hxs,h⟩:=h)
     rw[jA hxs]at hx
     obtain⟨xs',rfl,rM⟩:=hx.lF
     exact⟨h1,fI w (.inr (.inr (.inl (by simp)))) (.inr (.inr hng)),by simp[D5]⟩
    ·have h:(ai (kR x) fun a=>ai (kR y) fun b=>iE (List.replicate c (jw d)) a b)=some b:=h
     (replace h:=ae h;obtain⟨xs,hxs,h⟩:=h)
     rw[jA hxs]at hx
     obtain⟨xs',rfl,rM⟩:=hx.lF
     exact⟨h1,fI w (.inr (.inr (.inl (by simp)))) (.inr (.inr hng)),by simp[D5]⟩
theorem jC{op:BinOp}{t:TypeId}{ox oy:Operand}{x y v:Value}{w:World}(h1:(eqGuard op t ox oy x y).run P w=.ok () w)(h2:(binOp op t x y).run P w=.ok v w):
 (do eqGuard op t ox oy x y;binOp op t x y:Sem Value).run P w=.ok v w:=by
 simp[h1,h2]
theorem YJ{op:BinOp}{t:TypeId}{ox oy:Operand}{x y x' y' v:Value}(h:eD P op t ox oy x y=some v)(hx:VR m x x')(hy:VR m y y')
 (hox:∀c,ox=.const c→x=c)(hoy:∀c,oy=.const c→y=c):
 VR m v v∧∀w,(do eqGuard op t ox oy x' y';binOp op t x' y':Sem Value).run P w=.ok v w:=by
 unfold eD at h
 cases hi:ji x with
 |some a=>
  rw[hi]at h
  have hxe:=gM hi
  rw[hxe]at hx
  have hx:=hx.of_int
  have g:∀w,(eqGuard op t ox oy x' y').run P w=.ok () w:=fun w=>fI w (.inr (.inr (.inl (by rw[hx];simp)))) (.inl (by rw[hx];simp))
  cases hsh:Ay op with
  |true=>
   rw[hsh]at h
   have h:Qr op t x y=some v:=h
   (replace h:=ae h;obtain⟨p,hp,h⟩:=h)
   (replace h:=ae h;obtain⟨q,hq,h⟩:=h)
   have hye:=gM hq
   rw[hye]at hy
   have hy:=hy.of_int
   obtain⟨hs,hr⟩:=nU (P:=P) h
   refine⟨.sc _ hs,fun w=>jC (g w) ?_⟩
   rw[hx,hy,←hxe,←hye]
   exact hr w
  |false=>
   rw[hsh]at h
   have h:(ai (ji y) fun b=>gd (Nat.beq (ig a.1) (ig b.1)) (NT op a.1 a.2 b.2))=some v:=h
   (replace h:=ae h;obtain⟨q,hq,h⟩:=h)
   (replace h:=aJ h;obtain⟨hk,h⟩:=h)
   have hye:=gM hq
   rw[hye]at hy
   have hy:=hy.of_int
   have hk:=pN hk
   obtain⟨hs,hr⟩:=Vk (P:=P) (t:=t) h
   refine⟨.sc _ hs,fun w=>jC (g w) ?_⟩
   rw[hx,hy,←hk]
   exact hr w
 |none=>
  rw[hi]at h
  cases hst:jk x with
  |some a=>
   rw[hst]at h
   have h:(ai (jk y) fun b=>Ve op a b)=some v:=h
   (replace h:=ae h;obtain⟨b,hb,h⟩:=h)
   have hxe:=fH hst
   have hye:=fH hb
   rw[hxe]at hx;rw[hye]at hy
   have hx:=hx.jW
   have hy:=hy.jW
   obtain⟨hs,hr⟩:=Vl (P:=P) (t:=t) h
   refine⟨.sc _ hs,fun w=>jC (fI w (.inr (.inr (.inl (by rw[hx];simp)))) (.inl (by rw[hx];simp))) ?_⟩
   rw[hx,hy]
   exact hr w
  |none=>
   rw[hst]at h
   cases Ob:Nat.ble 1 (lq x)with
   |true=>
    rw[Ob]at h
    have h:JM op t x y=some v:=h
    have h0:=h
    obtain⟨hv,hr⟩:=N8 (P:=P) h hx hy
    have hsx:eF x=true:=by
     have:=Nat.le_of_ble_eq_true Ob
     cases x<;>simp[lq]at this<;>rfl
    have hx:=hx.jB hsx
    have hne:(x'≠.nilIface)∧∀c,x'≠.agg c:=by
     rw[hx]
     have:=Nat.le_of_ble_eq_true Ob
     constructor
     ·intro e;rw[e]at this;simp[lq]at this
     ·intro c e;rw[e]at this;simp[lq]at this
    exact⟨hv,fun w=>jC (fI w (.inr (.inr (.inl hne.1))) (.inl hne.2)) (hr w)⟩
   |false=>
    rw[Ob]at h
    have h:rX op (P7 P t ox oy x y)=some v:=h
    have hz:lq x=0:=by
     rcases Nat.eq_zero_or_pos (lq x)with h0|h0
     ·exact h0
     ·rw[Nat.ble_eq_true_of_le h0]at Ob;cases Ob
    have key:∀b,P7 P t ox oy x y=some b→∀w,(eqGuard op t ox oy x' y').run P w=.ok () w∧(binOp .eql t x' y').run P w=.ok (.bool b) w∧(binOp .neq t x' y').run P w=.ok (.bool (!b)) w:=by
     intro b hb w
     obtain⟨h1,h2,h3,h4,h5,h6⟩:=YI (op:=op) hb hx hy hox hoy ⟨hi,hst,hz⟩ w
     exact⟨h2,binOp_eql h1 h3 h4 h5 h6⟩
    cases op<;>simp only[rX,nP]at h
    case eql=>
     have h:(ai (P7 P t ox oy x y) fun b=>some (Value.bool b))=some v:=h
     (replace h:=ae h;obtain⟨b,hb,h⟩:=h)
     cases h
     exact⟨.sc _ rfl,fun w=>jC (key b hb w).1 (key b hb w).2.1⟩
    case neq=>
     have h:(ai (P7 P t ox oy x y) fun b=>some (Value.bool (!b)))=some v:=h
     (replace h:=ae h;obtain⟨b,hb,h⟩:=h)
     cases h
     exact⟨.sc _ rfl,fun w=>jC (key b hb w).1 (key b hb w).2.2⟩
    all_goals cases h
end ops
end Go.Ae
namespace Go.Ae
section ops
variable{P:Program}{m:Mp}
theorem Vn{c a b v c' a' b':Value}(h:Be c a b=some v)(hc:VR m c c')(ha:VR m a a')(hb:VR m b b'):
 ∃v',VR m v v'∧∀w,(do pure (if←asBool c' then a' else b'):Sem Value).run P w=.ok v' w:=by
 (replace h:=ae h;obtain⟨t,ht,h⟩:=h)
 cases h
 rw[fZ ht]at hc
 have:=hc.of_bool;subst this
 cases t
 ·exact⟨b',hb,fun w=>by simp[asBool]⟩
 ·exact⟨a',ha,fun w=>by simp[asBool]⟩
theorem Vp{op:UnOp}{x v x':Value}(h:bQ (Op.unary op x)=some v)(hx:VR m x x'):VR m v v∧∀w,(Op.unary op x').run P w=.ok v w:=by
 obtain⟨hs,hr⟩:=nU (P:=P) h
 have:x'=x:=by
  apply hx.jB
  cases x<;>first|rfl|(exfalso;cases op<;>simp[Op.unary,bQ,stuck]at h;done)|skip
  case pointer a=>cases a<;>first|rfl|(exfalso;cases op<;>simp[Op.unary,bQ,stuck,unsupported]at h)
 subst this
 exact⟨.sc _ hs,hr⟩
theorem Vq{s d:TypeId}{x v x':Value}(h:u_ P s d x=some v)(hx:VR m x x'):VR m v v∧∀w,(convert s d x').run P w=.ok v w:=by
 (replace h:=ae h;obtain⟨ds,hds,h⟩:=h)
 (replace h:=ae h;obtain⟨dd,hdd,h⟩:=h)
 cases hi:ji x with
 |some a=>
  rw[hi]at h
  have hxe:=gM hi
  rw[hxe]at hx
  have hx:=hx.of_int;subst hx
  cases hk:Di dd with
  |some k=>
   replace h:(@Option.rec IntKind (fun _=>Option Value) (av (rH dd) (some (.string (Utf8.encode a.2))) (ai (yx dd) fun k=>bQ (Conv.intToFloat k a.2))) (fun k=>some (.int k (fM k a.2))) (Di dd))=some v:=h
   rw[hk]at h
   cases h
   have:=L_ hk;subst this
   exact⟨.sc _ rfl,fun w=>by simp[convert,aF hds,aF hdd,Conv.intToInt,xm]⟩
  |none=>
   replace h:(@Option.rec IntKind (fun _=>Option Value) (av (rH dd) (some (.string (Utf8.encode a.2))) (ai (yx dd) fun k=>bQ (Conv.intToFloat k a.2))) (fun k=>some (.int k (fM k a.2))) (Di dd))=some v:=h
   rw[hk]at h
   cases hs:rH dd with
   |true=>
    rw[hs]at h
    cases h
    have:=xh hs;subst this
    exact⟨.sc _ rfl,fun w=>by simp[convert,aF hds,aF hdd,Conv.intToString]⟩
   |false=>
    rw[hs]at h
    replace h:(ai (yx dd) fun k=>bQ (Conv.intToFloat k a.2))=some v:=h
    (replace h:=ae h;obtain⟨k,hf,h⟩:=h)
    have:=NZ hf;subst this
    obtain⟨hs,hr⟩:=nU (P:=P) h
    exact⟨.sc _ hs,fun w=>by simp[convert,aF hds,aF hdd,hr]⟩
 |none=>
  rw[hi]at h
  replace h:(ai (jk x) fun b=>gd (rH dd) (some (.string b)))=some v:=h
  (replace h:=ae h;obtain⟨b,hb,h⟩:=h)
  (replace h:=aJ h;obtain⟨hg,h⟩:=h)
  cases h
  rw[fH hb]at hx
  have hx:=hx.jW;subst hx
  have:=xh hg;subst this
  refine⟨.sc _ rfl,fun w=>?_⟩
  cases ds<;>simp[convert,aF hds,aF hdd]
theorem YK{t:TypeId}{x v x':Value}(h:JO P t x=some v)(hx:VR m x x'):∃v',VR m v v'∧∀w,(Instr.makeInterface t x').run P w=.ok v' w:=by
 (replace h:=ae h;obtain⟨d,hd,h⟩:=h)
 (replace h:=aJ h;obtain⟨hg,h⟩:=h)
 cases h
 refine⟨.iface t x',.iface t _ _ hx,fun w=>?_⟩
 cases d<;>simp[Instr.makeInterface,aF hd]<;>simp[Qo]at hg
theorem JX{i:Nat}{x v x':Value}(h:l8 x i=some v)(hx:VR m x x'):∃v',VR m v v'∧∀w,(Instr.extract x' i).run P w=.ok v' w:=by
 (replace h:=ae h;obtain⟨l,hl,h⟩:=h)
 rw[Vg hl]at hx
 obtain⟨l',rfl,hr⟩:=hx.E8
 rw[fB]at h
 obtain⟨v',hv',hvr⟩:=hr.get i h
 exact⟨v',hvr,fun w=>by simp[Instr.extract,hv']⟩
theorem Hf{x v x':Value}(h:EU x=some v)(hx:VR m x x')(ρ:Operand→Value)(o:Oper)(xo:Operand)(ho:o.op=.nilCheck xo)(hρ:ρ xo=x'):
 VR m v x'∧∀w,(execOp ρ o).run P w=.ok (.value x') w:=by
 unfold EU at h
 cases hp:gG x with
 |some a=>
  rw[hp]at h
  cases h
  refine⟨hx,fun w=>?_⟩
  rw[fG hp]at hx
  obtain⟨l,hm,hlo,hsp,rfl⟩:=hx.jc
  simp[execOp,ho,hρ]
 |none=>
  rw[hp]at h
  replace h:(ai (Qm x) fun f=>ai (U0 f.1) fun _=>some x)=some v:=h
  (replace h:=ae h;obtain⟨f,hf,h⟩:=h)
  (replace h:=ae h;obtain⟨g,hg,h⟩:=h)
  cases h
  refine⟨hx,fun w=>?_⟩
  rw[E6 hf,E7 hg]at hx
  obtain⟨x1,y1,rfl,_,_⟩:=hx.QB
  simp[execOp,ho,hρ]
theorem YL{b:Bool}{x y v x' y':Value}(h:mm2 b x y=some v)(hx:VR m x x')(hy:VR m y y'):
 VR m v v∧∀w,((if b then Builtin.max2 x' y' else Builtin.min2 x' y').run P w=.ok v w):=by
 (replace h:=ae h;obtain⟨p,hp,h⟩:=h)
 (replace h:=ae h;obtain⟨q,hq,h⟩:=h)
 (replace h:=aJ h;obtain⟨hg,h⟩:=h)
 cases h
 have e1:=gM hp
 have e2:=gM hq
 rw[e1]at hx;rw[e2]at hy
 have hx:=hx.of_int
 have hy:=hy.of_int
 have hk:=pN hg
 subst hx;subst hy
 cases b
 ·have e:av (av false (Dj p.2 q.2) (Dj q.2 p.2)) y x=if q.2<p.2 then y else x:=by
   show av (Dj q.2 p.2) y x=_;rw[pE,JS];simp
  rw[e]
  split
  ·next hlt=>rw[e2];exact⟨.sc _ rfl,fun w=>by simp[Builtin.min2,hlt,hk]⟩
  ·next hlt=>rw[e1];exact⟨.sc _ rfl,fun w=>by simp[Builtin.min2,hlt]⟩
 ·have e:av (av true (Dj p.2 q.2) (Dj q.2 p.2)) y x=if p.2<q.2 then y else x:=by
   show av (Dj p.2 q.2) y x=_;rw[pE,JS];simp
  rw[e]
  split
  ·next hlt=>rw[e2];exact⟨.sc _ rfl,fun w=>by simp[Builtin.max2,hlt,hk]⟩
  ·next hlt=>rw[e1];exact⟨.sc _ rfl,fun w=>by simp[Builtin.max2,hlt]⟩
theorem YM{b:Bool}:∀{l l':List Value}{x v x':Value},mmL b l x=some v→VR m x x'→dn m l l'→
 ∃v',VR m v v'∧∀w,((l'.foldlM (if b then Builtin.max2 else Builtin.min2) x':Sem Value).run P w=.ok v' w):=by
 intro l
 induction l with
 |nil=>
  intro l' x v x' h hx hl
  cases hl
  cases h
  exact⟨x',hx,fun w=>by simp⟩
 |cons y l ih=>
  intro l' x v x' h hx hl
  cases hl with
  |cons _ y' _ r' hy hr=>
   replace h:ai (mm2 b x y) (mmL b l)=some v:=h
   (replace h:=ae h;obtain⟨z,hz,h⟩:=h)
   obtain⟨hzz,hrun⟩:=YL (P:=P) hz hx hy
   obtain⟨v',hv,hrest⟩:=ih h hzz hr
   refine⟨v',hv,fun w=>?_⟩
   have h1:=hrun w
   cases b<;>simp at h1 hrest⊢<;>simp[h1,hrest]
theorem QJ{b:Bool}{args args':List Value}{v:Value}{ats:Array TypeId}{t:TypeId}(h:Qs b args=some v)(ha:dn m args args'):
 ∃v',VR m v v'∧∀w,((if b then Builtin.max_ ats t ⟨args'⟩else Builtin.min_ ats t ⟨args'⟩).run P w=.ok v' w):=by
 cases ha with
 |nil=>cases h
 |cons x x' l l' hx hl=>
  replace h:mmL b l x=some v:=h
  obtain⟨v',hv,hr⟩:=YM (P:=P) h hx hl
  refine⟨v',hv,fun w=>?_⟩
  have:=hr w
  cases b<;>simpa [Builtin.max_,Builtin.min_]using this
theorem QK{f:TypeId→Value→Option Value}{ats:List TypeId}{args:List Value}{v:Value}(h:one f ats args=some v):∃t x,ats[0]?=some t∧args[0]?=some x∧f t x=some v:=by
 (replace h:=ae h;obtain⟨t,ht,h⟩:=h)
 (replace h:=ae h;obtain⟨x,hx,h⟩:=h)
 exact⟨t,x,by rw[←fB];exact ht,by rw[←fB];exact hx,h⟩
theorem Vr{ats:List TypeId}{args args':List Value}{v:Value}{t:TypeId}(h:one (Bf P) ats args=some v)(ha:dn m args args'):
 VR m v v∧∀w,(Builtin.len_ ⟨ats⟩ t ⟨args'⟩).run P w=.ok v w:=by
 obtain⟨t,x,ht,hx,h⟩:=QK h
 obtain⟨x',hx',rM⟩:=ha.get 0 hx
 (replace h:=ae h;obtain⟨d,hd,h⟩:=h)
 cases h1:rH d with
 |true=>
  rw[h1]at h
  have:=xh h1;subst this
  replace h:(ai (jk x) fun s=>some (Value.int .i64 (.ofNat (len s.data.toList))))=some v:=h
  (replace h:=ae h;obtain⟨s,hs,h⟩:=h)
  cases h
  rw[fH hs]at rM
  have:=rM.jW;subst this
  refine⟨.sc _ rfl,fun w=>?_⟩
  simp[Builtin.len_,ht,hx',aF hd,goInt,aP]
 |false=>
  rw[h1]at h
  have h:(av (Nat.beq (l7 d) 2) (ai (zk x) fun p=>some (.int .i64 (.ofNat p.2.1)))
   (av (Nat.beq (l7 d) 3) (ai (A_ x) fun r=>gd (aK r) (some (.int .i64 0)))
    (ai (GN d) fun a=>some (.int .i64 (.ofNat a.1)))))=some v:=h
  cases h2:Nat.beq (l7 d) 2 with
  |true=>
   rw[h2]at h
   replace h:(ai (zk x) fun p=>some (Value.int .i64 (.ofNat p.2.1)))=some v:=h
   (replace h:=ae h;obtain⟨p,hp,h⟩:=h)
   cases h
   have e2:=Nat.eq_of_beq_eq_true h2
   have hdd:∃e,d=.slice e:=by cases d<;>simp[l7]at e2;exact⟨_,rfl⟩
   obtain⟨e,rfl⟩:=hdd
   rw[kE hp]at rM
   refine⟨.sc _ rfl,fun w=>?_⟩
   cases hpa:p.1 with
   |none=>
    rw[hpa]at rM
    obtain⟨e1,e2,rfl⟩:=rM.jr
    simp[Builtin.len_,ht,hx',aF hd,goInt,e1]
   |some a=>
    rw[hpa]at rM
    rcases rM.of_slice with⟨l,cc,_,_,_,rfl,_⟩|⟨a',e1,_,rfl⟩
    ·simp[Builtin.len_,ht,hx',aF hd,goInt]
    ·simp[Builtin.len_,ht,hx',aF hd,goInt,e1]
  |false=>
   rw[h2]at h
   have h:(av (Nat.beq (l7 d) 3) (ai (A_ x) fun r=>gd (aK r) (some (.int .i64 0)))
    (ai (GN d) fun a=>some (.int .i64 (.ofNat a.1))))=some v:=h
   cases h3:Nat.beq (l7 d) 3 with
   |true=>
    rw[h3]at h
    replace h:(ai (A_ x) fun r=>gd (aK r) (some (Value.int .i64 0)))=some v:=h
    (replace h:=ae h;obtain⟨r,hr,h⟩:=h)
    (replace h:=aJ h;obtain⟨hg,h⟩:=h)
    cases h
    have e3:=Nat.eq_of_beq_eq_true h3
    have hdd:∃k e,d=.map k e:=by cases d<;>simp[l7]at e3;exact⟨_,_,rfl⟩
    obtain⟨k,e,rfl⟩:=hdd
    cases r with
    |some _=>cases hg
    |none=>
     rw[qG hr]at rM
     have:=rM.jB rfl;subst this
     exact⟨.sc _ rfl,fun w=>by simp[Builtin.len_,ht,hx',aF hd,goInt]⟩
   |false=>
    rw[h3]at h
    replace h:(ai (GN d) fun a=>some (Value.int .i64 (.ofNat a.1)))=some v:=h
    (replace h:=ae h;obtain⟨a,ha',h⟩:=h)
    cases h
    have:=E9 ha';subst this
    exact⟨.sc _ rfl,fun w=>by simp[Builtin.len_,ht,hx',aF hd,goInt]⟩
theorem Vs{ats:List TypeId}{args args':List Value}{v:Value}{t:TypeId}(h:one (GU P) ats args=some v)(ha:dn m args args'):
 VR m v v∧∀w,(Builtin.cap_ ⟨ats⟩ t ⟨args'⟩).run P w=.ok v w:=by
 obtain⟨t,x,ht,hx,h⟩:=QK h
 obtain⟨x',hx',rM⟩:=ha.get 0 hx
 (replace h:=ae h;obtain⟨q,hq,h⟩:=h)
 (replace h:=ae h;obtain⟨p,hp,h⟩:=h)
 (replace h:=aJ h;obtain⟨hg,h⟩:=h)
 cases h
 obtain⟨hu,_,_⟩:=pz hq
 rw[kE hp]at rM
 refine⟨.sc _ rfl,fun w=>?_⟩
 cases hpa:p.1 with
 |none=>
  rw[hpa]at rM
  obtain⟨e1,e2,rfl⟩:=rM.jr
  simp[Builtin.cap_,ht,hx',aF hu,goInt,e2]
 |some a=>
  rw[hpa]at rM
  rcases rM.of_slice with⟨l,cc,_,_,_,rfl,⟨_,rfl,_⟩|⟨es,e1,_⟩⟩|⟨a',e1,e2|⟨es,_,e2,_⟩,rfl⟩
  ·simp[Builtin.cap_,ht,hx',aF hu,goInt]
  ·exact absurd e1 (oZ hg)
  ·simp[Builtin.cap_,ht,hx',aF hu,goInt,e2]
  ·exact absurd e2 (oZ hg)
end ops
end Go.Ae
