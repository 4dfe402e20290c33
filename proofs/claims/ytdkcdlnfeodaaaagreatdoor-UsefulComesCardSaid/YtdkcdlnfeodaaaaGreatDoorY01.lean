/-
  Part 1 of the proof. No condition.
-/
import Derived.Test.YtdkcdlnfeodaaaaGreatDoorRows
import Derived.Test.YtdkcdlnfeodaaaaGreatDoorProg
import Derived.Below
import Derived.RowKit3
import Derived.Lib.Bytealg
import Derived.Calls
import Derived.Control
import Derived.Orders
import Derived.Scope
import Derived.Laws.Externs
import Derived.Laws.Tables
import Derived.Lib.UnsafeStr
import Derived.Lib.ConvBytes
import Derived.Laws.BytesString
import Derived.Laws.IdiomStrings
import Derived.Laws.Sem
import Derived.Laws.Cells
import Derived.Laws.World
import Derived.Laws.StructEq
import Derived.IntWalk
import Derived.Laws.Strings
import Derived.ChangeKeysEq
import Derived.ProofKit
import Derived.OpenShut
import Derived.Carry
import Derived.Deep.Slices
import Derived.Deep.Fields
import Derived.ChangeSame
import Derived.LaidMore
import Derived.Lay
import Derived.JoinedOf
import Derived.Test.YtdkcdlnfeodaaaaGreatDoorCards
import Derived.Test.YtdkcdlnfeodaaaaGreatDoorTie
import Derived.SevenTiedAt
import Derived.Stop.Joined
set_option linter.unusedVariables false
set_option linter.unusedSimpArgs false
namespace Go.Ae
inductive Tr(α:Type)where
 |nil
 |node(l:Tr α)(v:α)(r:Tr α)
namespace Tr
variable{α:Type}
noncomputable def get(d:α)(t:Tr α):Nat→α:=
 @Tr.rec α (fun _=>Nat→α) (fun _=>d)
  (fun _ v _ gl gr k=>@Nat.rec (fun _=>α) v (fun k _=>@Bool.rec (fun _=>α) (gr (Nat.div k 2)) (gl (Nat.div k 2)) (Nat.beq (Nat.mod k 2) 0)) k) t
noncomputable def Gq(d:α)(x:α):Nat→Tr α→Nat→Tr α:=
 @Nat.rec (fun _=>Tr α→Nat→Tr α) (fun t _=>t) (fun _ ih t k=>
  @Nat.rec (fun _=>Tr α) (@Tr.rec α (fun _=>Tr α) (.node .nil x .nil) (fun l _ r _ _=>.node l x r) t)
   (fun k _=>@Tr.rec α (fun _=>Tr α)
    (@Bool.rec (fun _=>Tr α) (.node .nil d (ih .nil (Nat.div k 2))) (.node (ih .nil (Nat.div k 2)) d .nil) (Nat.beq (Nat.mod k 2) 0))
    (fun l v r _ _=>@Bool.rec (fun _=>Tr α) (.node l v (ih r (Nat.div k 2))) (.node (ih l (Nat.div k 2)) v r) (Nat.beq (Nat.mod k 2) 0)) t) k)
noncomputable def set(d:α)(t:Tr α)(k:Nat)(x:α):Tr α:=Gq d x (Nat.succ k) t k
theorem get_nil(d:α)(k:Nat):(Tr.nil:Tr α).get d k=d:=by cases k<;>rfl
theorem wO(d:α)(l:Tr α)(v:α)(r:Tr α):(Tr.node l v r).get d 0=v:=rfl
theorem nQ(d:α)(l:Tr α)(v:α)(r:Tr α)(k:Nat):(Tr.node l v r).get d (k +1)=bif Nat.beq (k %2) 0 then l.get d (k/2)else r.get d (k/2):=by
 show @Bool.rec (fun _=>α) (r.get d (k/2)) (l.get d (k/2)) (Nat.beq (k %2) 0)=_
 cases Nat.beq (k %2) 0<;>rfl
theorem UJ(k:Nat):Nat.beq (k %2) 0=decide (k %2=0):=by
 rw[Bool.eq_iff_iff];simp[Nat.beq_eq]
theorem PL(d:α)(f k:Nat)(x:α):Gq d x (f +1) .nil (k +1)=bif Nat.beq (k %2) 0 then .node (Gq d x f .nil (k/2)) d .nil else .node .nil d (Gq d x f .nil (k/2)):=by
 show @Bool.rec (fun _=>Tr α) _ _ (Nat.beq (k %2) 0)=_
 cases Nat.beq (k %2) 0<;>rfl
theorem Nn(d:α)(f k:Nat)(x:α)(l:Tr α)(v:α)(r:Tr α):Gq d x (f +1) (.node l v r) (k +1)=bif Nat.beq (k %2) 0 then .node (Gq d x f l (k/2)) v r else .node l v (Gq d x f r (k/2)):=by
 show @Bool.rec (fun _=>Tr α) _ _ (Nat.beq (k %2) 0)=_
 cases Nat.beq (k %2) 0<;>rfl
theorem PM(d:α)(f:Nat):∀(t:Tr α)(k:Nat)(x:α)(j:Nat),k<f→
 (Gq d x f t k).get d j=if j=k then x else t.get d j:=by
 induction f with
 |zero=>intro t k x j h;omega
 |succ f ih=>
  intro t k x j h
  cases k with
  |zero=>
   cases t with
   |nil=>
    show(Tr.node .nil x .nil).get d j=_
    cases j with
    |zero=>simp[wO]
    |succ j=>rw[nQ,get_nil,if_neg (by omega),get_nil];cases Nat.beq (j %2) 0<;>rfl
   |node l v r=>
    show(Tr.node l x r).get d j=_
    cases j with
    |zero=>simp[wO]
    |succ j=>rw[nQ,nQ,if_neg (by omega)]
  |succ k=>
   have hk:k/2<f:=by omega
   cases t with
   |nil=>
    rw[PL]
    cases j with
    |zero=>cases hb:Nat.beq (k %2) 0<;>simp[wO,get_nil]
    |succ j=>
     by_cases hjk:j=k
     ·subst hjk
      cases hb:Nat.beq (j %2) 0<;>simp only[cond_true,cond_false,nQ,hb,ih _ _ _ _ hk,if_true]
     ·rw[if_neg (by omega)]
      cases hb:Nat.beq (k %2) 0<;>cases hc:Nat.beq (j %2) 0<;>simp only[cond_true,cond_false,nQ,hc,get_nil]
      ·rw[ih _ _ _ _ hk,if_neg,get_nil]
       rw[UJ]at hb hc
       simp at hb hc;omega
      ·rw[ih _ _ _ _ hk,if_neg,get_nil]
       rw[UJ]at hb hc
       simp at hb hc;omega
   |node l v r=>
    rw[Nn]
    cases j with
    |zero=>cases hb:Nat.beq (k %2) 0<;>simp[wO]
    |succ j=>
     by_cases hjk:j=k
     ·subst hjk
      cases hb:Nat.beq (j %2) 0<;>simp only[cond_true,cond_false,nQ,hb,ih _ _ _ _ hk,if_true]
     ·rw[if_neg (by omega)]
      cases hb:Nat.beq (k %2) 0<;>cases hc:Nat.beq (j %2) 0<;>simp only[cond_true,cond_false,nQ,hc]
      ·rw[ih _ _ _ _ hk,if_neg]
       rw[UJ]at hb hc
       simp at hb hc;omega
      ·rw[ih _ _ _ _ hk,if_neg]
       rw[UJ]at hb hc
       simp at hb hc;omega
theorem jP(d:α)(t:Tr α)(k:Nat)(x:α)(j:Nat):(t.set d k x).get d j=if j=k then x else t.get d j:=
 PM d (k +1) t k x j (by omega)
noncomputable def jE(d:α)(l:List α):Nat→Tr α→Tr α:=
 @List.rec α (fun _=>Nat→Tr α→Tr α) (fun _ t=>t) (fun x _ ih k t=>ih (Nat.succ k) (t.set d k x)) l
theorem UK(d:α)(k:Nat)(t:Tr α):jE d [] k t=t:=rfl
theorem PN(d:α)(x:α)(l:List α)(k:Nat)(t:Tr α):jE d (x::l) k t=jE d l (k +1) (t.set d k x):=rfl
theorem dY(d:α):∀(l:List α)(k:Nat)(t:Tr α)(j:Nat),
 (jE d l k t).get d j=if k≤j∧j<k +l.length then l.getD (j -k) d else t.get d j:=by
 intro l
 induction l with
 |nil=>intro k t j;simp[UK];intro h1 h2;omega
 |cons x l ih=>
  intro k t j
  simp only[PN,ih,jP,List.length_cons]
  by_cases h:k +1≤j∧j<k +1 +l.length
  ·rw[if_pos h,if_pos (by omega),show j -k=(j -(k +1)) +1 from by omega];rfl
  ·rw[if_neg h]
   by_cases hj:j=k
   ·subst hj;simp
   ·rw[if_neg hj,if_neg (by omega)]
noncomputable def vD(d:α)(t:Tr α)(k n:Nat):List α:=
 @Nat.rec (fun _=>Nat→List α) (fun _=>[]) (fun _ ih k=>t.get d k::ih (Nat.succ k)) n k
theorem rX(d:α)(t:Tr α)(k:Nat):vD d t k 0=[]:=rfl
theorem l6(d:α)(t:Tr α)(k n:Nat):vD d t k (n +1)=t.get d k::vD d t (k +1) n:=rfl
end Tr
end Go.Ae
namespace Go.Ae
noncomputable def ai{α β:Type}(o:Option α)(k:α→Option β):Option β:=
 @Option.rec α (fun _=>(α→Option β)→Option β) (fun _=>none) (fun x k=>k x) o k
theorem AP{α β:Type}(x:α)(k:α→Option β):ai (some x) k=k x:=rfl
theorem ah{α β:Type}{o:Option α}{k:α→Option β}{r:β}(h:ai o k=some r):∃x,o=some x∧k x=some r:=by
 cases o with
 |none=>cases h
 |some x=>exact⟨x,rfl,h⟩
noncomputable def gd{β:Type}(b:Bool)(o:Option β):Option β:=
 @Bool.rec (fun _=>Option β→Option β) (fun _=>none) (fun o=>o) b o
theorem aH{β:Type}{b:Bool}{o:Option β}{r:β}(h:gd b o=some r):b=true∧o=some r:=by
 cases b with
 |false=>cases h
 |true=>exact⟨rfl,h⟩
theorem uq{β:Type}(o:Option β):gd true o=o:=rfl
noncomputable def av{β:Type}(b:Bool)(x y:β):β:=@Bool.rec (fun _=>β→β→β) (fun _ y=>y) (fun x _=>x) b x y
theorem fV{β:Type}(x y:β):av true x y=x:=rfl
theorem bX{β:Type}(x y:β):av false x y=y:=rfl
noncomputable def nth{α:Type}(l:List α):Nat→Option α:=
 @List.rec α (fun _=>Nat→Option α) (fun _=>none) (fun x _ ih k=>@Nat.rec (fun _=>Option α) (some x) (fun k _=>ih k) k) l
theorem fC{α:Type}(l:List α):∀k,nth l k=l[k]?:=by
 induction l with
 |nil=>intro k;cases k<;>rfl
 |cons x l ih=>intro k;cases k with
  |zero=>rfl
  |succ k=>exact(ih k).trans (by simp)
noncomputable def len{α:Type}(l:List α):Nat:=@List.rec α (fun _=>Nat) 0 (fun _ _ n=>Nat.succ n) l
theorem aO{α:Type}(l:List α):len l=l.length:=by
 induction l with
 |nil=>rfl
 |cons x l ih=>exact congrArg Nat.succ ih
noncomputable def mp{α β:Type}(f:α→β)(l:List α):List β:=@List.rec α (fun _=>List β) [] (fun x _ r=>f x::r) l
theorem wP{α β:Type}(f:α→β)(l:List α):mp f l=l.map f:=by
 induction l with
 |nil=>rfl
 |cons x l ih=>exact congrArg (f x::·) ih
noncomputable def app{α:Type}(a b:List α):List α:=@List.rec α (fun _=>List α) b (fun x _ r=>x::r) a
theorem iY{α:Type}(a b:List α):app a b=a++b:=by
 induction a with
 |nil=>rfl
 |cons x l ih=>exact congrArg (x::·) ih
noncomputable def all'{α:Type}(f:α→Bool)(l:List α):Bool:=@List.rec α (fun _=>Bool) true (fun x _ r=>av (f x) r false) l
theorem all_eq{α:Type}(f:α→Bool)(l:List α):all' f l=l.all f:=by
 induction l with
 |nil=>rfl
 |cons x l ih=>
  show av (f x) (all' f l) false=_
  rw[ih,List.all_cons];cases f x<;>rfl
noncomputable def tk{α:Type}(n:Nat):List α→List α:=@Nat.rec (fun _=>List α→List α) (fun _=>[]) (fun _ ih l=>@List.rec α (fun _=>List α) [] (fun x r _=>x::ih r) l) n
theorem yZ{α:Type}(n:Nat):∀(l:List α),tk n l=l.take n:=by
 induction n with
 |zero=>intro l;show[]=l.take 0;simp
 |succ n ih=>intro l;cases l with
  |nil=>rfl
  |cons x l=>exact congrArg (x::·) (ih l)
noncomputable def dp{α:Type}(n:Nat):List α→List α:=@Nat.rec (fun _=>List α→List α) (fun l=>l) (fun _ ih l=>@List.rec α (fun _=>List α) [] (fun _ r _=>ih r) l) n
theorem Dz{α:Type}(n:Nat):∀(l:List α),dp n l=l.drop n:=by
 induction n with
 |zero=>intro l;rfl
 |succ n ih=>intro l;cases l with
  |nil=>rfl
  |cons x l=>exact ih l
structure Row where
 ty:TypeId
 cells:Tr Value
 n:Nat
 dB:Bool
 fz:Nat
inductive dn where
 |dead
 |row(r:Row)
 |map(es:List (Value×Value))
 |rY(s:ByteArray)(pos:Nat)
noncomputable def ko(o:dn):Option Row:=@dn.rec (fun _=>Option Row) none (fun r=>some r) (fun _=>none) (fun _ _=>none) o
noncomputable def Ez(o:dn):Option (List (Value×Value)):=@dn.rec (fun _=>Option (List (Value×Value))) none (fun _=>none) (fun m=>some m) (fun _ _=>none) o
noncomputable def aaa(o:dn):Option (ByteArray×Nat):=@dn.rec (fun _=>Option (ByteArray×Nat)) none (fun _=>none) (fun _=>none) (fun s p=>some (s,p)) o
theorem jQ{o:dn}{r:Row}(h:ko o=some r):o=.row r:=by cases o<;>cases h;rfl
theorem uu{o:dn}{r:List (Value×Value)}(h:Ez o=some r):o=.map r:=by cases o<;>cases h;rfl
theorem UL{o:dn}{r:ByteArray×Nat}(h:aaa o=some r):o=.rY r.1 r.2:=by cases o<;>cases h;rfl
noncomputable def top:Value:=.chan (some 0)
structure aa where
 j6:Tr dn
 next:Nat
 low:Nat
noncomputable def aa.obj(H:aa)(r:Nat):dn:=H.j6.get .dead r
noncomputable def aa.put(H:aa)(r:Nat)(o:dn):aa:=⟨H.j6.set .dead r o,H.next,av (Nat.ble H.low r) H.low r⟩
noncomputable def aa.new(H:aa)(o:dn):aa:=⟨H.j6.set .dead H.next o,Nat.succ H.next,H.low⟩
noncomputable def rowOf(ty:TypeId)(vs:List Value):dn:=.row ⟨ty,Tr.jE top vs 0 .nil,len vs,false,0⟩
noncomputable def aT(es:Nat):Nat:=Nat.add 18446744073709551616 es
noncomputable def aY(c:Nat):Bool:=Nat.ble c 9223372036854775807
noncomputable def aU(v:Value):Bool:=
 @Value.rec (fun _=>Bool) (fun _=>PUnit) (fun _=>PUnit)
  (fun _=>true)
  (fun _ _=>true)
  (fun _ _=>true)
  (fun _ _ _=>true)
  (fun _=>true)
  (fun _=>true)
  (fun _ _ _=>true)
  (fun _=>true)
  (fun r=>false)
  (fun _ _ _ _ _=>true)
  (true)
  (fun _ _ _=>true)
  (true)
  (fun cs _=>false)
  (fun vs _=>false)
  (fun _ _=>⟨⟩) ⟨⟩ (fun _ _ _ _=>⟨⟩) v
noncomputable def kr(v:Value):Bool:=
 @Value.rec (fun _=>Bool) (fun _=>PUnit) (fun _=>PUnit)
  (fun _=>true)
  (fun _ _=>true)
  (fun _ _=>true)
  (fun _ _ _=>true)
  (fun _=>true)
  (fun _=>true)
  (fun _ _ _=>true)
  (fun _=>true)
  (fun r=>false)
  (fun _ _ _ _ _=>true)
  (true)
  (fun _ _ _=>true)
  (true)
  (fun _ _=>true)
  (fun _ _=>true)
  (fun _ _=>⟨⟩) ⟨⟩ (fun _ _ _ _=>⟨⟩) v
noncomputable def gJ(v:Value):Option Addr:=
 @Value.rec (fun _=>Option Addr) (fun _=>PUnit) (fun _=>PUnit)
  (fun _=>none)
  (fun _ _=>none)
  (fun _ _=>none)
  (fun _ _ _=>none)
  (fun _=>none)
  (fun a=>a)
  (fun _ _ _=>none)
  (fun _=>none)
  (fun _=>none)
  (fun _ _ _ _ _=>none)
  (none)
  (fun _ _ _=>none)
  (none)
  (fun _ _=>none)
  (fun _ _=>none)
  (fun _ _=>⟨⟩) ⟨⟩ (fun _ _ _ _=>⟨⟩) v
noncomputable def bK(v:Value):Option Bool:=
 @Value.rec (fun _=>Option Bool) (fun _=>PUnit) (fun _=>PUnit)
  (fun b=>some b)
  (fun _ _=>none)
  (fun _ _=>none)
  (fun _ _ _=>none)
  (fun _=>none)
  (fun _=>none)
  (fun _ _ _=>none)
  (fun _=>none)
  (fun _=>none)
  (fun _ _ _ _ _=>none)
  (none)
  (fun _ _ _=>none)
  (none)
  (fun _ _=>none)
  (fun _ _=>none)
  (fun _ _=>⟨⟩) ⟨⟩ (fun _ _ _ _=>⟨⟩) v
noncomputable def jg(v:Value):Option (IntKind×Int):=
 @Value.rec (fun _=>Option (IntKind×Int)) (fun _=>PUnit) (fun _=>PUnit)
  (fun _=>none)
  (fun k n=>some (k,n))
  (fun _ _=>none)
  (fun _ _ _=>none)
  (fun _=>none)
  (fun _=>none)
  (fun _ _ _=>none)
  (fun _=>none)
  (fun _=>none)
  (fun _ _ _ _ _=>none)
  (none)
  (fun _ _ _=>none)
  (none)
  (fun _ _=>none)
  (fun _ _=>none)
  (fun _ _=>⟨⟩) ⟨⟩ (fun _ _ _ _=>⟨⟩) v
noncomputable def C4(n:Int):Option Nat:=@Int.rec (fun _=>Option Nat) (fun m=>some m) (fun _=>none) n
noncomputable def oM(v:Value):Option Nat:=
 @Value.rec (fun _=>Option Nat) (fun _=>PUnit) (fun _=>PUnit)
  (fun _=>none)
  (fun k n=>C4 n)
  (fun _ _=>none)
  (fun _ _ _=>none)
  (fun _=>none)
  (fun _=>none)
  (fun _ _ _=>none)
  (fun _=>none)
  (fun _=>none)
  (fun _ _ _ _ _=>none)
  (none)
  (fun _ _ _=>none)
  (none)
  (fun _ _=>none)
  (fun _ _=>none)
  (fun _ _=>⟨⟩) ⟨⟩ (fun _ _ _ _=>⟨⟩) v
noncomputable def vCx(v:Value):Option (FloatKind×Nat×Nat):=
 @Value.rec (fun _=>Option (FloatKind×Nat×Nat)) (fun _=>PUnit) (fun _=>PUnit)
  (fun _=>none)
  (fun _ _=>none)
  (fun _ _=>none)
  (fun k x y=>some (k,x,y))
  (fun _=>none)
  (fun _=>none)
  (fun _ _ _=>none)
  (fun _=>none)
  (fun _=>none)
  (fun _ _ _ _ _=>none)
  (none)
  (fun _ _ _=>none)
  (none)
  (fun _ _=>none)
  (fun _ _=>none)
  (fun _ _=>⟨⟩) ⟨⟩ (fun _ _ _ _=>⟨⟩) v
noncomputable def vFl(v:Value):Option (FloatKind×Nat):=
 @Value.rec (fun _=>Option (FloatKind×Nat)) (fun _=>PUnit) (fun _=>PUnit)
  (fun _=>none)
  (fun _ _=>none)
  (fun k b=>some (k,b))
  (fun _ _ _=>none)
  (fun _=>none)
  (fun _=>none)
  (fun _ _ _=>none)
  (fun _=>none)
  (fun _=>none)
  (fun _ _ _ _ _=>none)
  (none)
  (fun _ _ _=>none)
  (none)
  (fun _ _=>none)
  (fun _ _=>none)
  (fun _ _=>⟨⟩) ⟨⟩ (fun _ _ _ _=>⟨⟩) v
noncomputable def Ll(k:FloatKind):Nat:=@FloatKind.rec (fun _=>Nat) 0 1 k
noncomputable def jh(v:Value):Option ByteArray:=
 @Value.rec (fun _=>Option ByteArray) (fun _=>PUnit) (fun _=>PUnit)
  (fun _=>none)
  (fun _ _=>none)
  (fun _ _=>none)
  (fun _ _ _=>none)
  (fun s=>some s)
  (fun _=>none)
  (fun _ _ _=>none)
  (fun _=>none)
  (fun _=>none)
  (fun _ _ _ _ _=>none)
  (none)
  (fun _ _ _=>none)
  (none)
  (fun _ _=>none)
  (fun _ _=>none)
  (fun _ _=>⟨⟩) ⟨⟩ (fun _ _ _ _=>⟨⟩) v
noncomputable def y_(v:Value):Option (Option Addr×Nat×Nat):=
 @Value.rec (fun _=>Option (Option Addr×Nat×Nat)) (fun _=>PUnit) (fun _=>PUnit)
  (fun _=>none)
  (fun _ _=>none)
  (fun _ _=>none)
  (fun _ _ _=>none)
  (fun _=>none)
  (fun _=>none)
  (fun a l c=>some (a,l,c))
  (fun _=>none)
  (fun _=>none)
  (fun _ _ _ _ _=>none)
  (none)
  (fun _ _ _=>none)
  (none)
  (fun _ _=>none)
  (fun _ _=>none)
  (fun _ _=>⟨⟩) ⟨⟩ (fun _ _ _ _=>⟨⟩) v
noncomputable def AQ(v:Value):Option (Option Nat):=
 @Value.rec (fun _=>Option (Option Nat)) (fun _=>PUnit) (fun _=>PUnit)
  (fun _=>none)
  (fun _ _=>none)
  (fun _ _=>none)
  (fun _ _ _=>none)
  (fun _=>none)
  (fun _=>none)
  (fun _ _ _=>none)
  (fun r=>some r)
  (fun _=>none)
  (fun _ _ _ _ _=>none)
  (none)
  (fun _ _ _=>none)
  (none)
  (fun _ _=>none)
  (fun _ _=>none)
  (fun _ _=>⟨⟩) ⟨⟩ (fun _ _ _ _=>⟨⟩) v
noncomputable def Uw(f:Fn):Option FuncId:=@Fn.rec (fun _=>Option FuncId) (fun f=>some f) (fun _=>none) (fun _ _=>none) (fun _ _ _ _=>none) (fun _=>none) f
noncomputable def PO(v:Value):Option (Fn×List Value×List Value):=
 @Value.rec (fun _=>Option (Fn×List Value×List Value)) (fun _=>PUnit) (fun _=>PUnit)
  (fun _=>none)
  (fun _ _=>none)
  (fun _ _=>none)
  (fun _ _ _=>none)
  (fun _=>none)
  (fun _=>none)
  (fun _ _ _=>none)
  (fun _=>none)
  (fun _=>none)
  (fun f x y _ _=>some (f,x.toList,y.toList))
  (none)
  (fun _ _ _=>none)
  (none)
  (fun _ _=>none)
  (fun _ _=>none)
  (fun _ _=>⟨⟩) ⟨⟩ (fun _ _ _ _=>⟨⟩) v
noncomputable def kU(v:Value):Option (List Value):=
 @Value.rec (fun _=>Option (List Value)) (fun _=>PUnit) (fun _=>PUnit)
  (fun _=>none)
  (fun _ _=>none)
  (fun _ _=>none)
  (fun _ _ _=>none)
  (fun _=>none)
  (fun _=>none)
  (fun _ _ _=>none)
  (fun _=>none)
  (fun _=>none)
  (fun _ _ _ _ _=>none)
  (none)
  (fun _ _ _=>none)
  (none)
  (fun cs _=>some cs.toList)
  (fun _ _=>none)
  (fun _ _=>⟨⟩) ⟨⟩ (fun _ _ _ _=>⟨⟩) v
noncomputable def PR(v:Value):Option (List Value):=
 @Value.rec (fun _=>Option (List Value)) (fun _=>PUnit) (fun _=>PUnit)
  (fun _=>none)
  (fun _ _=>none)
  (fun _ _=>none)
  (fun _ _ _=>none)
  (fun _=>none)
  (fun _=>none)
  (fun _ _ _=>none)
  (fun _=>none)
  (fun _=>none)
  (fun _ _ _ _ _=>none)
  (none)
  (fun _ _ _=>none)
  (none)
  (fun _ _=>none)
  (fun vs _=>some vs.toList)
  (fun _ _=>⟨⟩) ⟨⟩ (fun _ _ _ _=>⟨⟩) v
noncomputable def vE(v:Value):Option (TypeId×Value):=
 @Value.rec (fun _=>Option (TypeId×Value)) (fun _=>PUnit) (fun _=>PUnit)
  (fun _=>none)
  (fun _ _=>none)
  (fun _ _=>none)
  (fun _ _ _=>none)
  (fun _=>none)
  (fun _=>none)
  (fun _ _ _=>none)
  (fun _=>none)
  (fun _=>none)
  (fun _ _ _ _ _=>none)
  (none)
  (fun t v _=>some (t,v))
  (none)
  (fun _ _=>none)
  (fun _ _=>none)
  (fun _ _=>⟨⟩) ⟨⟩ (fun _ _ _ _=>⟨⟩) v
noncomputable def aJ{α:Type}(o:Option α):Bool:=@Option.rec α (fun _=>Bool) true (fun _=>false) o
noncomputable def iL(v:Value):Nat×Bool:=
 @Value.rec (fun _=>Nat×Bool) (fun _=>PUnit) (fun _=>PUnit)
  (fun _=>(0,false))
  (fun _ _=>(0,false))
  (fun _ _=>(0,false))
  (fun _ _ _=>(0,false))
  (fun _=>(0,false))
  (fun a=>(1,aJ a))
  (fun a l c=>(2,aJ a))
  (fun r=>(3,aJ r))
  (fun _=>(0,false))
  (fun f x y _ _=>(4,false))
  ((4,true))
  (fun t v _=>(5,false))
  ((5,true))
  (fun _ _=>(0,false))
  (fun _ _=>(0,false))
  (fun _ _=>⟨⟩) ⟨⟩ (fun _ _ _ _=>⟨⟩) v
noncomputable def AR(v:Value):Bool:=
 @Value.rec (fun _=>Bool) (fun _=>PUnit) (fun _=>PUnit)
  (fun _=>false)
  (fun _ _=>false)
  (fun _ _=>false)
  (fun _ _ _=>false)
  (fun _=>false)
  (fun a=>aJ a)
  (fun _ _ _=>false)
  (fun r=>aJ r)
  (fun _=>false)
  (fun _ _ _ _ _=>false)
  (true)
  (fun _ _ _=>false)
  (true)
  (fun _ _=>false)
  (fun _ _=>false)
  (fun _ _=>⟨⟩) ⟨⟩ (fun _ _ _ _=>⟨⟩) v
noncomputable def gK{α:Type}(o:Option α):Bool:=@Option.rec α (fun _=>Bool) false (fun _=>true) o
noncomputable def ay(v:Value):List Value:=@Option.rec (List Value) (fun _=>List Value) [v] (fun l=>l) (kU v)
noncomputable def eH(v:Value):Bool:=
 @Value.rec (fun _=>Bool) (fun _=>PUnit) (fun _=>PUnit)
  (fun b=>true)
  (fun k n=>true)
  (fun k b=>true)
  (fun k x y=>true)
  (fun s=>true)
  (fun a=>aJ a)
  (fun a l c=>aJ a&&Nat.beq l 0&&Nat.beq c 0)
  (fun r=>aJ r)
  (fun _=>false)
  (fun _ _ _ _ _=>false)
  (true)
  (fun _ _ _=>false)
  (true)
  (fun _ _=>false)
  (fun _ _=>false)
  (fun _ _=>⟨⟩) ⟨⟩ (fun _ _ _ _=>⟨⟩) v
noncomputable def l7(d:TypeDesc):Nat:=
 @TypeDesc.rec (fun _=>Nat)
  (0) (0) (fun _=>0) (fun _=>0) (fun _=>0) (0) (0) (fun e=>1) (fun e=>2) (fun _ _=>0) (fun k e=>3) (fun _ _=>0) (fun _=>0) (fun p r v=>4) (fun ms=>5) (fun _=>0) (fun _ _=>0) d
noncomputable def dSl(d:TypeDesc):Option TypeId:=
 @TypeDesc.rec (fun _=>Option TypeId)
  (none) (none) (fun _=>none) (fun _=>none) (fun _=>none) (none) (none) (fun _=>none) (fun e=>some e) (fun _ _=>none) (fun _ _=>none) (fun _ _=>none) (fun _=>none) (fun _ _ _=>none) (fun _=>none) (fun _=>none) (fun _ _=>none) d
noncomputable def wR(d:TypeDesc):Option TypeId:=
 @TypeDesc.rec (fun _=>Option TypeId)
  (none) (none) (fun _=>none) (fun _=>none) (fun _=>none) (none) (none) (fun e=>some e) (fun _=>none) (fun _ _=>none) (fun _ _=>none) (fun _ _=>none) (fun _=>none) (fun _ _ _=>none) (fun _=>none) (fun _=>none) (fun _ _=>none) d
noncomputable def Gs(d:TypeDesc):Option (Nat×TypeId):=
 @TypeDesc.rec (fun _=>Option (Nat×TypeId))
  (none) (none) (fun _=>none) (fun _=>none) (fun _=>none) (none) (none) (fun _=>none) (fun _=>none) (fun n e=>some (n,e)) (fun _ _=>none) (fun _ _=>none) (fun _=>none) (fun _ _ _=>none) (fun _=>none) (fun _=>none) (fun _ _=>none) d
noncomputable def Yg(d:TypeDesc):Option (TypeId×TypeId):=
 @TypeDesc.rec (fun _=>Option (TypeId×TypeId))
  (none) (none) (fun _=>none) (fun _=>none) (fun _=>none) (none) (none) (fun _=>none) (fun _=>none) (fun _ _=>none) (fun k e=>some (k,e)) (fun _ _=>none) (fun _=>none) (fun _ _ _=>none) (fun _=>none) (fun _=>none) (fun _ _=>none) d
noncomputable def EA(d:TypeDesc):Option (List Field):=
 @TypeDesc.rec (fun _=>Option (List Field))
  (none) (none) (fun _=>none) (fun _=>none) (fun _=>none) (none) (none) (fun _=>none) (fun _=>none) (fun _ _=>none) (fun _ _=>none) (fun _ _=>none) (fun fs=>some fs.toList) (fun _ _ _=>none) (fun _=>none) (fun _=>none) (fun _ _=>none) d
noncomputable def rH(d:TypeDesc):Bool:=
 @TypeDesc.rec (fun _=>Bool)
  (false) (false) (fun _=>false) (fun _=>false) (fun _=>false) (true) (false) (fun _=>false) (fun _=>false) (fun _ _=>false) (fun _ _=>false) (fun _ _=>false) (fun _=>false) (fun _ _ _=>false) (fun _=>false) (fun _=>false) (fun _ _=>false) d
noncomputable def PS(d:TypeDesc):Bool:=
 @TypeDesc.rec (fun _=>Bool)
  (false) (false) (fun _=>false) (fun _=>false) (fun _=>false) (false) (false) (fun _=>false) (fun _=>false) (fun _ _=>false) (fun _ _=>false) (fun _ _=>false) (fun _=>false) (fun _ _ _=>false) (fun ms=>true) (fun _=>false) (fun _ _=>false) d
noncomputable def wS(d:TypeDesc):Bool:=
 @TypeDesc.rec (fun _=>Bool)
  (false) (false) (fun _=>false) (fun _=>false) (fun _=>false) (false) (true) (fun _=>false) (fun _=>false) (fun _ _=>false) (fun _ _=>false) (fun _ _=>false) (fun _=>false) (fun _ _ _=>false) (fun _=>false) (fun _=>false) (fun _ _=>false) d
noncomputable def C5(d:TypeDesc):Option IntKind:=
 @TypeDesc.rec (fun _=>Option IntKind)
  (none) (none) (fun k=>some k) (fun _=>none) (fun _=>none) (none) (none) (fun _=>none) (fun _=>none) (fun _ _=>none) (fun _ _=>none) (fun _ _=>none) (fun _=>none) (fun _ _ _=>none) (fun _=>none) (fun _=>none) (fun _ _=>none) d
noncomputable def yj(d:TypeDesc):Option FloatKind:=
 @TypeDesc.rec (fun _=>Option FloatKind)
  (none) (none) (fun _=>none) (fun k=>some k) (fun _=>none) (none) (none) (fun _=>none) (fun _=>none) (fun _ _=>none) (fun _ _=>none) (fun _ _=>none) (fun _=>none) (fun _ _ _=>none) (fun _=>none) (fun _=>none) (fun _ _=>none) d
noncomputable def Jr(d:TypeDesc):Bool:=
 @TypeDesc.rec (fun _=>Bool)
  (false) (false) (fun _=>false) (fun _=>false) (fun _=>false) (false) (false) (fun _=>false) (fun _=>false) (fun n e=>true) (fun _ _=>false) (fun _ _=>false) (fun fs=>true) (fun _ _ _=>false) (fun _=>false) (fun _=>false) (fun _ _=>false) d
noncomputable def jr(d:TypeDesc):Nat:=
 @TypeDesc.rec (fun _=>Nat)
  (0) (2) (fun k=>1) (fun _=>0) (fun _=>0) (3) (0) (fun _=>0) (fun _=>0) (fun _ _=>0) (fun _ _=>0) (fun _ _=>0) (fun _=>0) (fun _ _ _=>0) (fun _=>0) (fun _=>0) (fun _ _=>0) d
noncomputable def AU(k:IntKind):Bool:=@IntKind.rec (fun _=>Bool) false false false false true false false false k
noncomputable def uV(k:IntKind):Bool:=@IntKind.rec (fun _=>Bool) false false false true false false false false k
noncomputable def ig(k:IntKind):Nat:=@IntKind.rec (fun _=>Nat) 0 1 2 3 4 5 6 7 k
noncomputable def tI(P:Program)(t:TypeId):Option TypeInfo:=P.info? t
noncomputable def ku(P:Program)(t:TypeId):Option Nat:=ai (P.info? t) fun i=>some i.size
noncomputable def Gg(P:Program)(t:TypeId):Option (TypeId×Nat):=ai (P.underlying t) fun d=>ai (dSl d) fun e=>ai (ku P e) fun s=>gd (Nat.ble 1 s) (some (e,s))
noncomputable def Gt(P:Program)(t:TypeId):Option (Nat×TypeId×Nat):=ai (P.underlying t) fun d=>ai (Gs d) fun e=>ai (ku P e.2) fun s=>gd (Nat.ble 1 s) (some (e.1,e.2,s))
noncomputable def Ps(P:Program)(t:TypeId):Option (Option Nat):=ai (P.underlying t) fun d=>ai (ku P t) fun s=>some (av (Jr d) (some s) none)
noncomputable def vF(P:Program)(t:TypeId):Bool:=@Option.rec TypeDesc (fun _=>Bool) false rH (P.underlying t)
noncomputable def ze(P:Program)(t:TypeId):Bool:=@Option.rec TypeDesc (fun _=>Bool) false (fun d=>@Option.rec IntKind (fun _=>Bool) false AU (C5 d)) (P.underlying t)
noncomputable def qz(P:Program)(t:TypeId):Option (TypeId×TypeId):=ai (P.underlying t) Yg
noncomputable def yl(v:Value):Bool:=@Option.rec (List Value) (fun _=>Bool) (eH v) (fun l=>all' eH l) (kU v)
noncomputable def uW(P:Program)(t:TypeId):Option Value:=ai (P.info? t) fun i=>ai i.zero fun z=>gd (yl z) (some z)
noncomputable def pz(P:Program)(t:TypeId):Option (List Value):=ai (uW P t) fun z=>ai (ku P t) fun s=>gd (Nat.beq (len (ay z)) s) (some (ay z))
noncomputable def Ak(P:Program)(t:TypeId):Option (List Field):=ai (P.underlying t) EA
noncomputable def Js(P:Program)(t:TypeId)(f:Nat):Option (Nat×Option Nat):=ai (Ak P t) fun fs=>ai (nth fs f) fun fd=>ai (Ps P fd.type) fun l=>ai (ku P fd.type) fun s=>gd (Nat.ble 1 s) (some (fd.offset,l))
noncomputable def places(P:Program)(fs:List Field):Option (List (Nat×Nat)):=
 @List.rec Field (fun _=>Option (List (Nat×Nat))) (some []) (fun f _ r=>ai (ku P f.type) fun s=>ai r fun l=>some ((f.offset,s)::l)) fs
noncomputable def Lm(P:Program)(t:TypeId):Option (List (Nat×Nat)):=ai (Ak P t) (places P)
noncomputable def aa.cell(H:aa)(r off:Nat):Option Value:=ai (ko (H.obj r)) fun w=>gd (Nat.ble (Nat.succ off) w.n) (some (w.cells.get top off))
noncomputable def aa.read(H:aa)(r off k:Nat):Option (List Value):=
 @Nat.rec (fun _=>Option (List Value)) (some []) (fun _ _=>ai (ko (H.obj r)) fun w=>gd (Nat.ble (Nat.add off k) w.n) (some (Tr.vD top w.cells off k))) k
noncomputable def aa.write(H:aa)(r off:Nat)(vs:List Value):Option aa:=
 @List.rec Value (fun _=>Option aa) (some H) (fun _ _ _=>ai (ko (H.obj r)) fun w=>
  gd (!w.dB&&Nat.ble (Nat.add off (len vs)) w.n&&Nat.ble w.fz off&&all' aU vs)
   (some (H.put r (.row ⟨w.ty,Tr.jE top vs off w.cells,w.n,false,w.fz⟩)))) vs
noncomputable def bP(s:Sem Value):Option Value:=match s with
 |.pure v=>gd (eH v) (some v)
 |_=>none
noncomputable def C6(a b:Int):Bool:=
 @Int.rec (fun _=>Bool) (fun m=>@Int.rec (fun _=>Bool) (fun n=>Nat.ble (Nat.succ m) n) (fun _=>false) b)
  (fun m=>@Int.rec (fun _=>Bool) (fun _=>true) (fun n=>Nat.ble (Nat.succ n) m) b) a
noncomputable def Gu(a b:Int):Bool:=
 @Int.rec (fun _=>Bool) (fun m=>@Int.rec (fun _=>Bool) (fun n=>Nat.beq m n) (fun _=>false) b)
  (fun m=>@Int.rec (fun _=>Bool) (fun _=>false) (fun n=>Nat.beq m n) b) a
noncomputable def fQ(k:IntKind)(n:Int):Int:=
 @Int.rec (fun _=>Int) (fun m=>av (uV k&&Nat.ble m 9223372036854775807) (.ofNat m) (k.wrap n)) (fun m=>av (uV k&&Nat.ble m 9223372036854775807) (.negSucc m) (k.wrap n)) n
noncomputable def Np(op:BinOp):IntKind→Int→Int→Option Value:=
 @BinOp.rec (fun _=>IntKind→Int→Int→Option Value) (fun k a b=>some (.int k (fQ k (Int.add a b)))) (fun k a b=>some (.int k (fQ k (Int.sub a b)))) (fun k a b=>some (.int k (fQ k (Int.mul a b)))) (fun k a b=>bP (Op.intDiv .quo k a b)) (fun k a b=>bP (Op.intDiv .rem k a b)) (fun k a b=>bP (Op.intBits .and k a b)) (fun k a b=>bP (Op.intBits .or k a b)) (fun k a b=>bP (Op.intBits .xor k a b)) (fun _ _ _=>none) (fun _ _ _=>none) (fun k a b=>bP (Op.intBits .andNot k a b)) (fun _ a b=>some (.bool (Gu a b))) (fun _ a b=>some (.bool (!(Gu a b)))) (fun _ a b=>some (.bool (C6 a b))) (fun _ a b=>some (.bool (!(C6 b a)))) (fun _ a b=>some (.bool (C6 b a))) (fun _ a b=>some (.bool (!(C6 a b)))) op
noncomputable def nR(op:BinOp):Nat:=@BinOp.rec (fun _=>Nat) (0) (0) (0) (0) (0) (0) (0) (0) (0) (0) (0) (1) (2) (0) (0) (0) (0) op
noncomputable def Al(op:BinOp):Bool:=@BinOp.rec (fun _=>Bool) (false) (false) (false) (false) (false) (false) (false) (false) (true) (true) (false) (false) (false) (false) (false) (false) (false) op
noncomputable def qw(a b:Bool):Bool:=av a b (!b)
noncomputable def UM(l:List UInt8):List Nat:=mp (fun b=>b.toNat) l
noncomputable def AX(l:List Nat):List Nat→Bool:=
 @List.rec Nat (fun _=>List Nat→Bool) (fun m=>@List.rec Nat (fun _=>Bool) true (fun _ _ _=>false) m)
  (fun x _ ih m=>@List.rec Nat (fun _=>Bool) false (fun y r _=>av (Nat.beq x y) (ih r) false) m) l
noncomputable def iJ(x y:ByteArray):Bool:=AX (UM x.data.toList) (UM y.data.toList)
noncomputable def strLt(x y:ByteArray):Bool:=Op.bytesLess x.data.toList y.data.toList
noncomputable def PT(x y:ByteArray):Option Value:=
 gd (Nat.ble (Nat.add (len x.data.toList) (len y.data.toList)) 4611686018427387904) (some (.string ⟨⟨app x.data.toList y.data.toList⟩⟩))
noncomputable def UN(op:BinOp):ByteArray→ByteArray→Option Value:=
 @BinOp.rec (fun _=>ByteArray→ByteArray→Option Value) (PT) (fun _ _=>none) (fun _ _=>none) (fun _ _=>none) (fun _ _=>none) (fun _ _=>none) (fun _ _=>none) (fun _ _=>none) (fun _ _=>none) (fun _ _=>none) (fun _ _=>none) (fun a b=>some (.bool (iJ a b))) (fun a b=>some (.bool (!(iJ a b)))) (fun a b=>some (.bool (strLt a b))) (fun a b=>some (.bool (strLt a b||iJ a b))) (fun a b=>some (.bool (!(strLt a b||iJ a b)))) (fun a b=>some (.bool (!(strLt a b)))) op
noncomputable def lq(k:Nat)(x y:Value):Option Bool:=
 av (Nat.beq k 1) (ai (jg x) fun a=>ai (jg y) fun b=>gd (Nat.beq (ig a.1) (ig b.1)) (some (Gu a.2 b.2)))
  (av (Nat.beq k 2) (ai (bK x) fun a=>ai (bK y) fun b=>some (qw a b))
   (av (Nat.beq k 3) (ai (jh x) fun a=>ai (jh y) fun b=>some (iJ a b)) none))
noncomputable def iD(ks:List Nat):List Value→List Value→Option Bool:=
 @List.rec Nat (fun _=>List Value→List Value→Option Bool)
  (fun xs ys=>@List.rec Value (fun _=>Option Bool) (@List.rec Value (fun _=>Option Bool) (some true) (fun _ _ _=>none) ys) (fun _ _ _=>none) xs)
  (fun k _ ih xs ys=>@List.rec Value (fun _=>Option Bool) none (fun x xr _=>@List.rec Value (fun _=>Option Bool) none
   (fun y yr _=>ai (lq k x y) fun b=>av b (ih xr yr) (some false)) ys) xs) ks
noncomputable def iM(P:Program)(fs:List Field):Nat→Option (List Nat):=
 @List.rec Field (fun _=>Nat→Option (List Nat)) (fun _=>some [])
  (fun f _ ih k=>ai (P.underlying f.type) fun d=>ai (ih (Nat.succ k)) fun r=>gd (Nat.beq f.offset k&&!(f.name== "_")&&Nat.ble 1 (jr d)) (some (jr d::r))) fs
noncomputable def PV{α:Type}(x:α)(n:Nat):List α:=@Nat.rec (fun _=>List α) [] (fun _ r=>x::r) n
noncomputable def Gv(P:Program)(t:TypeId):Option (List Nat):=ai (Ak P t) fun fs=>gd (!(P.stoodInHeld t)) (iM P fs 0)
noncomputable def WK(P:Program)(t:TypeId):Option (List Nat):=ai (P.underlying t) fun d=>ai (Gs d) fun a=>ai (P.underlying a.2) fun e=>ai (ku P a.2) fun s=>
 gd (Nat.beq s 1&&Nat.ble 1 (jr e)) (some (PV (jr e) a.1))
noncomputable def orElse'{α:Type}(o q:Option α):Option α:=@Option.rec α (fun _=>Option α→Option α) (fun q=>q) (fun x _=>some x) o q
noncomputable def Yh(P:Program)(t:TypeId):Option (Sum Nat (List Nat)):=
 ai (P.underlying t) fun d=>av (Nat.ble 1 (jr d)) (some (.inl (jr d))) (ai (orElse' (Gv P t) (WK P t)) fun l=>some (.inr l))
noncomputable def ik(P:Program)(t:TypeId)(x y:Value):Option Bool:=
 ai (Yh P t) fun q=>@Sum.rec Nat (List Nat) (fun _=>Option Bool) (fun k=>lq k x y)
  (fun l=>ai (kU x) fun a=>ai (kU y) fun b=>iD l a b) q
noncomputable def ji(o:Operand):Bool:=
 @Operand.rec (fun _=>Bool) (fun _=>false) (fun v=>(iL v).2) (fun _=>false) (fun _=>false) o
noncomputable def ym(P:Program)(t:TypeId):Nat:=@Option.rec TypeDesc (fun _=>Nat) 0 l7 (P.underlying t)
noncomputable def DC(k:Nat)(c x:Value):Option Bool:=gd (Nat.ble 1 k&&Nat.beq (iL x).1 k&&Nat.beq (iL c).1 k) (some (iL x).2)
noncomputable def yo(P:Program)(t:TypeId):Bool:=
 @Option.rec Unit (fun _=>Bool) false (fun _=>true) (ai (P.underlying t) fun d=>ai (wR d) fun e=>ai (ku P e) fun s=>gd (Nat.ble 1 s) (some ()))
noncomputable def ptrEq(x y:Value):Option Bool:=ai (gJ x) fun a=>ai (gJ y) fun b=>gd (Nat.beq a.block b.block) (some (Nat.beq a.off b.off))
noncomputable def Ux(P:Program)(t:TypeId)(ox oy:Operand)(x y:Value):Option Bool:=
 av (ji oy) (DC (ym P t) y x) (av (ji ox) (DC (ym P t) x y) (av (yo P t) (ptrEq x y) (ik P t x y)))
noncomputable def uX(op:BinOp)(b:Option Bool):Option Value:=
 av (Nat.beq (nR op) 1) (ai b fun b=>some (.bool b)) (av (Nat.beq (nR op) 2) (ai b fun b=>some (.bool (!b))) none)
noncomputable def PW(op:BinOp)(t:TypeId)(x y:Value):Option Value:=ai (jg x) fun _=>ai (jg y) fun _=>bP (binOp op t x y)
noncomputable def lu(v:Value):Nat:=
 @Value.rec (fun _=>Nat) (fun _=>PUnit) (fun _=>PUnit)
  (fun _=>0)
  (fun _ _=>0)
  (fun k b=>1)
  (fun k x y=>2)
  (fun _=>0)
  (fun _=>0)
  (fun _ _ _=>0)
  (fun _=>0)
  (fun _=>0)
  (fun _ _ _ _ _=>0)
  (0)
  (fun _ _ _=>0)
  (0)
  (fun _ _=>0)
  (fun _ _=>0)
  (fun _ _=>⟨⟩) ⟨⟩ (fun _ _ _ _=>⟨⟩) v
noncomputable def Jt(op:BinOp)(t:TypeId)(x y:Value):Option Value:=gd (Nat.ble 1 (lu x)&&Nat.beq (lu x) (lu y)) (bP (binOp op t x y))
noncomputable def eG(P:Program)(op:BinOp)(t:TypeId)(ox oy:Operand)(x y:Value):Option Value:=
 @Option.rec (IntKind×Int) (fun _=>Option Value)
  (@Option.rec ByteArray (fun _=>Option Value) (av (Nat.ble 1 (lu x)) (Jt op t x y) (uX op (Ux P t ox oy x y))) (fun a=>ai (jh y) fun b=>UN op a b) (jh x))
  (fun a=>av (Al op) (PW op t x y) (ai (jg y) fun b=>gd (Nat.beq (ig a.1) (ig b.1)) (Np op a.1 a.2 b.2))) (jg x)
noncomputable def uY(P:Program)(s d:TypeId)(x:Value):Option Value:=
 ai (P.underlying s) fun _=>ai (P.underlying d) fun e=>
  @Option.rec (IntKind×Int) (fun _=>Option Value) (ai (jh x) fun b=>gd (rH e) (some (.string b)))
   (fun a=>@Option.rec IntKind (fun _=>Option Value) (av (rH e) (some (.string (Utf8.encode a.2))) (ai (yj e) fun k=>bP (Conv.intToFloat k a.2))) (fun k=>some (.int k (fQ k a.2))) (C5 e)) (jg x)
noncomputable def apart(l:Option Nat)(cs:List Value)(off:Nat):Option Value:=
 @Option.rec Nat (fun _=>Option Value) (nth cs off) (fun n=>gd (Nat.ble (Nat.add off n) (len cs)) (some (.agg ⟨tk n (dp off cs)⟩))) l
noncomputable def eO(o:Option Value)(d:Nat):Option Nat:=@Option.rec Value (fun _=>Option Nat) (some d) oM o
noncomputable def rZ(m l off sz:Nat):Nat:=av (Nat.beq m l) off (Nat.add off (Nat.mul l sz))
noncomputable def EB(s:ByteArray)(lo hi:Option Value):Option Value:=
 ai (eO lo 0) fun l=>ai (eO hi (len s.data.toList)) fun h=>gd (Nat.ble l h&&Nat.ble h (len s.data.toList))
  (some (.string ⟨⟨tk (Nat.sub h l) (dp l s.data.toList)⟩⟩))
noncomputable def Lp(sz:Nat)(p:Option Addr×Nat×Nat)(lo hi mx:Option Value):Option Value:=
 @Option.rec Addr (fun _=>Option Value)
  (ai (eO lo 0) fun l=>ai (eO hi 0) fun h=>ai (eO mx 0) fun m=>gd (Nat.beq l 0&&Nat.beq h 0&&Nat.beq m 0&&Nat.beq p.2.1 0&&Nat.beq p.2.2 0&&(!(aJ hi)||aJ mx)) (some (.slice none 0 0)))
  (fun a=>ai (eO lo 0) fun l=>ai (eO hi p.2.1) fun h=>
   av (aY p.2.2)
    (ai (eO mx p.2.2) fun m=>gd (Nat.ble l h&&Nat.ble h m&&Nat.ble m p.2.2&&(!(aJ hi)||aJ mx))
     (some (.slice (some ⟨a.block,rZ m l a.off sz,none⟩) (Nat.sub h l) (Nat.sub m l))))
    (gd (Nat.beq p.2.2 (aT sz)) (@Option.rec Value (fun _=>Option Value)
     (gd (Nat.ble l h&&Nat.ble h p.2.1) (some (.slice (some ⟨a.block,Nat.add a.off (Nat.mul l sz),none⟩) (Nat.sub h l) p.2.2)))
     (fun mv=>ai (oM mv) fun m=>gd (Nat.ble l h&&Nat.ble h m&&Nat.ble m p.2.1&&!(aJ hi)&&aY m)
      (some (.slice (some ⟨a.block,rZ m l a.off sz,none⟩) (Nat.sub h l) (Nat.sub m l)))) mx))) p.1
noncomputable def Ju(n sz:Nat)(a:Addr)(lo hi mx:Option Value):Option Value:=
 ai (eO lo 0) fun l=>ai (eO hi n) fun h=>gd (Nat.ble l h&&Nat.ble h n&&aJ mx&&aY n)
  (some (.slice (some ⟨a.block,rZ n l a.off sz,none⟩) (Nat.sub h l) (Nat.sub n l)))
noncomputable def pE(P:Program)(t:TypeId)(x:Value)(lo hi mx:Option Value):Option Value:=
 @Option.rec (TypeId×Nat) (fun _=>Option Value)
  (av (vF P t) (ai (jh x) fun s=>gd (aJ mx) (EB s lo hi)) (ai (Gt P t) fun q=>ai (gJ x) fun a=>Ju q.1 q.2.2 a lo hi mx))
  (fun q=>ai (y_ x) fun p=>Lp q.2 p lo hi mx) (Gg P t)
noncomputable def iN(P:Program)(t:TypeId)(x i:Value):Option Value:=
 ai (oM i) fun k=>@Option.rec (TypeId×Nat) (fun _=>Option Value)
  (ai (Gt P t) fun q=>ai (gJ x) fun a=>gd (Nat.ble (Nat.succ k) q.1) (some (.pointer (some ⟨a.block,Nat.add a.off (Nat.mul k q.2.2),none⟩))))
  (fun q=>ai (y_ x) fun p=>ai p.1 fun a=>gd (Nat.ble (Nat.succ k) p.2.1) (some (.pointer (some ⟨a.block,Nat.add a.off (Nat.mul k q.2),none⟩)))) (Gg P t)
noncomputable def r_(P:Program)(t:TypeId)(x i:Value):Option Value:=
 ai (oM i) fun k=>av (vF P t)
  (ai (jh x) fun s=>ai (nth s.data.toList k) fun b=>some (.int .u8 (.ofNat b.toNat)))
  (ai (Gt P t) fun q=>ai (kU x) fun cs=>ai (Ps P q.2.1) fun l=>gd (Nat.ble (Nat.succ k) q.1) (apart l cs (Nat.mul k q.2.2)))
noncomputable def iO(P:Program)(t:TypeId)(x:Value)(f:Nat):Option Value:=
 ai (gJ x) fun a=>ai (Js P t f) fun q=>some (.pointer (some ⟨a.block,Nat.add a.off q.1,none⟩))
noncomputable def si(P:Program)(t:TypeId)(x:Value)(f:Nat):Option Value:=
 ai (kU x) fun cs=>ai (Js P t f) fun q=>apart q.2 cs q.1
noncomputable def setAt{α:Type}(x:α)(k:Nat):List α→List α:=
 @Nat.rec (fun _=>List α→List α) (fun l=>@List.rec α (fun _=>List α) [] (fun _ r _=>x::r) l) (fun _ ih l=>@List.rec α (fun _=>List α) [] (fun y r _=>y::ih r) l) k
noncomputable def yt(vs:List Value):Nat→List Value→List Value:=
 @List.rec Value (fun _=>Nat→List Value→List Value) (fun _ cs=>cs) (fun v _ ih k cs=>ih (Nat.succ k) (setAt v k cs)) vs
noncomputable def uZ(place:Nat→Option (Nat×Nat))(ps:List (Nat×Value)):List Value→Option (List Value):=
 @List.rec (Nat×Value) (fun _=>List Value→Option (List Value)) (fun cs=>some cs)
  (fun p _ ih cs=>ai (place p.1) fun q=>gd (kr p.2&&Nat.beq (len (ay p.2)) q.2&&Nat.ble (Nat.add q.1 q.2) (len cs)) (ih (yt (ay p.2) q.1 cs))) ps
noncomputable def su(P:Program)(t:TypeId)(ps:List (Nat×Value)):Option Value:=
 ai (pz P t) fun z=>@Option.rec (List (Nat×Nat)) (fun _=>Option Value)
  (ai (Gt P t) fun q=>ai (uZ (fun k=>some (Nat.mul k q.2.2,q.2.2)) ps z) fun cs=>some (.agg ⟨cs⟩))
  (fun pl=>ai (uZ (nth pl) ps z) fun cs=>some (.agg ⟨cs⟩)) (Lm P t)
noncomputable def gM(z:List Value)(n:Nat):List Value:=@Nat.rec (fun _=>List Value) [] (fun _ r=>app z r) n
noncomputable def AY(c a b:Value):Option Value:=ai (bK c) fun t=>some (av t a b)
noncomputable def EC(x:Value):Option Value:=
 @Option.rec Addr (fun _=>Option Value) (ai (PO x) fun f=>ai (Uw f.1) fun _=>some x) (fun _=>some x) (gJ x)
noncomputable def Jv(P:Program)(t:TypeId)(x:Value):Option Value:=ai (P.underlying t) fun d=>gd (!(PS d)) (some (.iface t x))
noncomputable def l8(x:Value)(i:Nat):Option Value:=ai (PR x) fun l=>nth l i
noncomputable def AZ(P:Program)(t:TypeId)(x:Value):Option Value:=
 ai (P.underlying t) fun d=>av (rH d) (ai (jh x) fun s=>some (.int .i64 (.ofNat (len s.data.toList))))
  (av (Nat.beq (l7 d) 2) (ai (y_ x) fun p=>some (.int .i64 (.ofNat p.2.1)))
   (av (Nat.beq (l7 d) 3) (ai (AQ x) fun r=>gd (aJ r) (some (.int .i64 0)))
    (ai (Gs d) fun a=>some (.int .i64 (.ofNat a.1)))))
noncomputable def Gx(P:Program)(t:TypeId)(x:Value):Option Value:=
 ai (Gg P t) fun _=>ai (y_ x) fun p=>gd (aY p.2.2) (some (.int .i64 (.ofNat p.2.2)))
noncomputable def one(f:TypeId→Value→Option Value)(ats:List TypeId)(args:List Value):Option Value:=
 ai (nth ats 0) fun t=>ai (nth args 0) fun x=>f t x
noncomputable def ZX(b:Bool)(x y:Value):Option Value:=
 ai (jg x) fun p=>ai (jg y) fun q=>gd (Nat.beq (ig p.1) (ig q.1)) (some (av (av b (C6 p.2 q.2) (C6 q.2 p.2)) y x))
noncomputable def mmL(b:Bool)(l:List Value):Value→Option Value:=
 @List.rec Value (fun _=>Value→Option Value) (fun x=>some x) (fun y _ ih x=>ai (ZX b x y) ih) l
noncomputable def PX(b:Bool)(args:List Value):Option Value:=@List.rec Value (fun _=>Option Value) none (fun x l _=>mmL b l x) args
noncomputable def Gy(args:List Value):Option Value:=gd (Nat.beq (len args) 1) (ai (nth args 0) fun x=>ai (vCx x) fun p=>some (.float p.1 p.2.1))
noncomputable def Gz(args:List Value):Option Value:=gd (Nat.beq (len args) 1) (ai (nth args 0) fun x=>ai (vCx x) fun p=>some (.float p.1 p.2.2))
noncomputable def sw(args:List Value):Option Value:=gd (Nat.beq (len args) 2) (ai (nth args 0) fun x=>ai (nth args 1) fun y=>ai (vFl x) fun p=>ai (vFl y) fun q=>
 gd (Nat.beq (Ll p.1) (Ll q.1)) (some (.complex p.1 p.2 q.2)))
noncomputable def A_(r:Nat):Value:=.pointer (some ⟨r,0,none⟩)
noncomputable def sD(P:Program)(e:TypeId)(H:aa):Option (Value×aa):=
 ai (pz P e) fun z=>some (A_ H.next,H.new (rowOf e z))
noncomputable def EF(e:TypeId)(x:Value)(H:aa):Option (Value×aa):=gd (kr x) (some (A_ H.next,H.new (rowOf e (ay x))))
noncomputable def jk(P:Program)(t:TypeId)(n:Nat)(ps:List (Nat×Value))(H:aa):Option (Value×aa):=
 ai (Gg P t) fun q=>ai (pz P q.1) fun z=>gd (Nat.ble (Nat.mul n q.2) 16777216)
  (ai (uZ (fun k=>some (Nat.mul k q.2,q.2)) ps (gM z n)) fun cs=>some (.slice (some ⟨H.next,0,none⟩) n n,H.new (rowOf q.1 cs)))
noncomputable def loadAt(l:Option Nat)(a:Addr)(H:aa):Option (Value×aa):=
 @Option.rec Nat (fun _=>Option (Value×aa)) (ai (H.cell a.block a.off) fun v=>some (v,H))
  (fun n=>ai (H.read a.block a.off n) fun vs=>some (.agg ⟨vs⟩,H)) l
noncomputable def kz(P:Program)(t:TypeId)(x:Value)(H:aa):Option (Value×aa):=
 ai (gJ x) fun a=>ai (Ps P t) fun l=>loadAt l a H
noncomputable def nS(P:Program)(t:TypeId)(x v:Value)(H:aa):Option (Value×aa):=
 ai (gJ x) fun a=>ai (ku P t) fun s=>gd (Nat.beq (len (ay v)) s) (ai (H.write a.block a.off (ay v)) fun H'=>some (undef,H'))
noncomputable def jS(l:List Value):Option (List UInt8):=
 @List.rec Value (fun _=>Option (List UInt8)) (some []) (fun v _ r=>ai (jg v) fun p=>ai (C4 p.2) fun n=>gd (AU p.1&&Nat.ble n 255) (ai r fun bs=>some (UInt8.ofNat n::bs))) l
noncomputable def fZ(s:List UInt8):List Value:=mp (fun b=>.int .u8 (.ofNat b.toNat)) s
noncomputable def vG(P:Program)(q:TypeId×Nat)(x:Value)(H:aa):Option (Value×aa):=
 ai (jh x) fun b=>gd (Nat.beq q.2 1&&ze P q.1)
  (some (.slice (some ⟨H.next,0,none⟩) (len b.data.toList) (aT 1),H.new (.row ⟨q.1,Tr.jE top (fZ b.data.toList) 0 .nil,len b.data.toList,true,0⟩)))
noncomputable def vH(P:Program)(q:TypeId×Nat)(x:Value)(H:aa):Option (Value×aa):=
 ai (y_ x) fun p=>gd (Nat.beq q.2 1&&ze P q.1) (@Option.rec Addr (fun _=>Option (Value×aa)) (some (.string ⟨⟨[]⟩⟩,H))
  (fun a=>ai (H.read a.block a.off p.2.1) fun l=>ai (jS l) fun bs=>some (.string ⟨⟨bs⟩⟩,H)) p.1)
noncomputable def Ba(P:Program)(t:TypeId)(x:Value)(H:aa):Option (Value×aa):=
 ai (gJ x) fun a=>ai (ku P t) fun s=>ai (ko (H.obj a.block)) fun w=>gd (Nat.ble 1 s&&Nat.ble (Nat.succ a.off) w.n) (some (x,H))
noncomputable def Bb(P:Program)(u:TypeId)(x:Value)(H:aa):Option (Value×aa):=
 ai (gJ x) fun a=>ai (ku P u) fun s=>ai (ko (H.obj a.block)) fun w=>
  gd (Nat.ble 1 s&&Nat.beq w.ty u&&Nat.beq a.off 0&&Nat.ble s w.n) (some (x,H))
noncomputable def PY(P:Program)(s d:TypeId):Option (Nat×TypeId×Nat):=ai (P.underlying s) fun x=>ai (P.underlying d) fun y=>
 av (rH x) (ai (Gg P d) fun q=>some (1,q)) (av (rH y) (ai (Gg P s) fun q=>some (2,q))
  (av (wS y) (ai (wR x) fun e=>some (3,e,0)) (av (wS x) (ai (wR y) fun e=>some (4,e,0)) none)))
noncomputable def kC(P:Program)(s d:TypeId)(x:Value)(H:aa):Option (Value×aa):=
 ai (PY P s d) fun q=>av (Nat.beq q.1 1) (vG P q.2 x H) (av (Nat.beq q.1 2) (vH P q.2 x H)
  (av (Nat.beq q.1 3) (Ba P q.2.1 x H) (Bb P q.2.1 x H)))
noncomputable def kD(P:Program)(t:TypeId)(r:Option Value)(H:aa):Option (Value×aa):=
 ai (qz P t) fun _=>gd (@Option.rec Value (fun _=>Bool) true (fun v=>!(aJ (jg v))) r) (some (.map (some H.next),H.new (.map [])))
noncomputable def gW(P:Program)(t:TypeId)(l c:Value)(H:aa):Option (Value×aa):=
 ai (Gg P t) fun q=>ai (tI P q.1) fun i=>ai (pz P q.1) fun z=>ai (oM l) fun n=>ai (oM c) fun m=>
  gd (Nat.ble n m&&Nat.ble m 16777216&&Nat.ble i.bytes 1048576) (some (.slice (some ⟨H.next,0,none⟩) n m,H.new (rowOf q.1 (gM z m))))
noncomputable def mapOf(H:aa)(x:Value):Option (List (Value×Value)):=
 ai (AQ x) fun r=>@Option.rec Nat (fun _=>Option (List (Value×Value))) (some []) (fun r=>Ez (H.obj r)) r
noncomputable def kY(P:Program)(kt:TypeId)(k:Value)(es:List (Value×Value)):Nat→Option (Option (Nat×Value)):=
 @List.rec (Value×Value) (fun _=>Nat→Option (Option (Nat×Value))) (fun _=>some none)
  (fun e _ ih i=>ai (ik P kt k e.1) fun b=>av b (some (some (i,e.2))) (ih (Nat.succ i))) es
noncomputable def ZY(ok:Bool)(v:Value)(b:Bool)(H:aa):Value×aa:=av ok (.tuple #[v,.bool b],H) (v,H)
noncomputable def u_(P:Program)(t:TypeId)(k:Value):Option Unit:=ai (ik P t k k) fun b=>gd b (some ())
noncomputable def lX(P:Program)(t:TypeId)(x k:Value)(ok:Bool)(H:aa):Option (Value×aa):=
 ai (qz P t) fun q=>ai (uW P q.2) fun z=>ai (mapOf H x) fun es=>ai (u_ P q.1 k) fun _=>ai (kY P q.1 k es 0) fun f=>
  @Option.rec (Nat×Value) (fun _=>Option (Value×aa)) (some (ZY ok z false H)) (fun p=>some (ZY ok p.2 true H)) f
noncomputable def jc(P:Program)(t:TypeId)(m k v:Value)(H:aa):Option (Value×aa):=
 ai (qz P t) fun q=>ai (AQ m) fun mr=>ai mr fun r=>ai (Ez (H.obj r)) fun es=>ai (u_ P q.1 k) fun _=>ai (kY P q.1 k es 0) fun f=>
  @Option.rec (Nat×Value) (fun _=>Option (Value×aa)) (some (undef,H.put r (.map (app es [(k,v)])))) (fun p=>some (undef,H.put r (.map (setAt (k,v) p.1 es)))) f
noncomputable def yu{α:Type}(k:Nat):List α→List α:=
 @Nat.rec (fun _=>List α→List α) (fun l=>@List.rec α (fun _=>List α) [] (fun _ r _=>r) l) (fun _ ih l=>@List.rec α (fun _=>List α) [] (fun y r _=>y::ih r) l) k
noncomputable def wT(P:Program)(ats:List TypeId)(args:List Value)(H:aa):Option (Value×aa):=
 ai (nth ats 0) fun t=>ai (nth args 0) fun m=>ai (nth args 1) fun k=>ai (qz P t) fun q=>ai (AQ m) fun mr=>ai mr fun r=>
  ai (Ez (H.obj r)) fun es=>ai (u_ P q.1 k) fun _=>ai (kY P q.1 k es 0) fun f=>
   some (.tuple #[],H.put r (.map (@Option.rec (Nat×Value) (fun _=>List (Value×Value)) es (fun p=>yu p.1 es) f)))
noncomputable def appended(H:aa)(sz:Nat)(x:Value):Option (Nat×List Value):=
 @Option.rec ByteArray (fun _=>Option (Nat×List Value))
  (ai (y_ x) fun p=>@Option.rec Addr (fun _=>Option (Nat×List Value)) (gd (Nat.beq p.2.1 0) (some (0,[])))
   (fun a=>ai (H.read a.block a.off (Nat.mul p.2.1 sz)) fun l=>some (p.2.1,l)) p.1)
  (fun s=>gd (Nat.beq sz 1) (some (len s.data.toList,fZ s.data.toList))) (jh x)
noncomputable def DD(P:Program)(ats:List TypeId)(args:List Value)(H:aa):Option (Value×aa):=
 ai (nth ats 0) fun t=>ai (nth args 0) fun d=>ai (nth args 1) fun x=>ai (Gg P t) fun q=>ai (y_ d) fun p=>ai (appended H q.2 x) fun e=>
  @Option.rec Addr (fun _=>Option (Value×aa)) (gd (Nat.beq p.2.1 0) (some (.int .i64 0,H)))
   (fun a=>ai (H.write a.block a.off (tk (Nat.mul (av (Nat.ble e.1 p.2.1) e.1 p.2.1) q.2) e.2)) fun H'=>some (.int .i64 (.ofNat (av (Nat.ble e.1 p.2.1) e.1 p.2.1)),H')) p.1
noncomputable def yw(P:Program)(ats:List TypeId)(args:List Value)(H:aa):Option (Value×aa):=
 ai (nth ats 0) fun t=>ai (nth args 0) fun d=>ai (Gg P t) fun q=>ai (pz P q.1) fun z=>ai (y_ d) fun p=>
  @Option.rec Addr (fun _=>Option (Value×aa)) (some (.tuple #[],H))
   (fun a=>ai (H.write a.block a.off (gM z p.2.1)) fun H'=>some (.tuple #[],H')) p.1
noncomputable def Bc(P:Program)(ats:List TypeId)(args:List Value)(H:aa):Option (Value×aa):=
 ai (nth ats 0) fun t=>ai (nth args 0) fun x=>ai (qz P t) fun _=>ai (mapOf H x) fun es=>some (.int .i64 (.ofNat (len es)),H)
noncomputable def wU(args:List Value)(H:aa):Option (Value×aa):=
 gd (Nat.beq (len args) 1) (ai (nth args 0) fun x=>ai (y_ x) fun p=>@Option.rec Addr (fun _=>Option (Value×aa)) (some (.pointer none,H))
  (fun a=>gd (Nat.ble 1 p.2.1||(aY p.2.2&&Nat.ble 1 p.2.2)) (some (.pointer (some a),H))) p.1)
noncomputable def Lr(P:Program)(pt:TypeId)(a:Addr)(n:Nat)(H:aa):Option (Value×aa):=
 ai (P.underlying pt) fun d=>ai (wR d) fun e=>ai (ku P e) fun s=>ai (ko (H.obj a.block)) fun w=>
  gd (ze P e&&Nat.beq w.ty e&&Nat.beq s 1&&Nat.ble (Nat.add a.off n) w.n&&Nat.ble n 16777216)
   (ai (jS (Tr.vD top w.cells a.off n)) fun bs=>some (.string ⟨⟨bs⟩⟩,
    H.put a.block (.row ⟨w.ty,w.cells,w.n,w.dB,av (Nat.ble w.fz (Nat.add a.off n)) (Nat.add a.off n) w.fz⟩)))
noncomputable def lz(P:Program)(ats:List TypeId)(args:List Value)(H:aa):Option (Value×aa):=
 gd (Nat.beq (len args) 2) (ai (nth ats 0) fun pt=>ai (nth args 0) fun p=>ai (nth args 1) fun nv=>ai (oM nv) fun n=>
  @Nat.rec (fun _=>Option (Value×aa)) (gd (Nat.beq (iL p).1 1) (some (.string ⟨⟨[]⟩⟩,H))) (fun _ _=>ai (gJ p) fun a=>Lr P pt a n H) n)
noncomputable def pF(e:TypeId)(es:Nat)(n:Nat)(vs:List Value)(H:aa):Value×aa:=
 (.slice (some ⟨H.next,0,none⟩) n (aT es),H.new (rowOf e vs))
noncomputable def l9(q:TypeId×Nat)(a:Addr)(l c k:Nat)(vs:List Value)(H:aa):Option (Value×aa):=
 av (Nat.ble (Nat.add l k) c)
  (ai (H.write a.block (Nat.add a.off (Nat.mul l q.2)) vs) fun H'=>some (.slice (some a) (Nat.add l k) c,H'))
  (ai (H.read a.block a.off (Nat.mul l q.2)) fun old=>some (pF q.1 q.2 (Nat.add l k) (app old vs) H))
noncomputable def jl(q:TypeId×Nat)(a:Addr)(l c k:Nat)(vs:List Value)(H:aa):Option (Value×aa):=
 ai (ko (H.obj a.block)) fun w=>gd (Nat.beq w.ty q.1&&!w.dB)
  (av (Nat.ble (Nat.add a.off (Nat.mul (Nat.add l k) q.2)) w.n)
   (ai (H.write a.block (Nat.add a.off (Nat.mul l q.2)) vs) fun H'=>some (.slice (some a) (Nat.add l k) c,H'))
   (gd (Nat.ble (Nat.add a.off (Nat.mul l q.2)) w.n&&Nat.ble w.fz (Nat.add a.off (Nat.mul l q.2))&&all' aU vs)
    (some (.slice (some ⟨H.next,a.off,none⟩) (Nat.add l k) c,
     (H.put a.block .dead).new (.row ⟨w.ty,Tr.jE top vs (Nat.add a.off (Nat.mul l q.2)) w.cells,Nat.add a.off (Nat.mul (Nat.add l k) q.2),false,w.fz⟩)))))
noncomputable def Ls(q:TypeId×Nat)(s:Value)(p:Option Addr×Nat×Nat)(k:Nat)(vs:List Value)(H:aa):Option (Value×aa):=
 @Nat.rec (fun _=>Option (Value×aa)) (some (s,H)) (fun _ _=>
  @Option.rec Addr (fun _=>Option (Value×aa)) (gd (Nat.beq p.2.1 0&&Nat.beq p.2.2 0) (some (pF q.1 q.2 k vs H)))
   (fun a=>gd (Nat.ble p.2.1 16777216) (av (aY p.2.2) (l9 q a p.2.1 p.2.2 k vs H) (gd (Nat.beq p.2.2 (aT q.2)) (jl q a p.2.1 p.2.2 k vs H)))) p.1) k
noncomputable def aab(P:Program)(t t2:TypeId):Option (TypeId×Nat):=
 ai (Gg P t) fun q=>ai (tI P q.1) fun i=>ai (pz P q.1) fun _=>ai (P.underlying t2) fun d=>gd (aJ (C5 d)&&Nat.ble i.bytes 1048576&&Nat.ble 1 i.bytes) (some q)
noncomputable def uw(P:Program)(ats:List TypeId)(args:List Value)(H:aa):Option (Value×aa):=
 ai (nth ats 0) fun t=>ai (nth ats 1) fun t2=>ai (nth args 0) fun s=>ai (nth args 1) fun x=>
  ai (aab P t t2) fun q=>ai (y_ s) fun p=>ai (appended H q.2 x) fun e=>gd (Nat.ble e.1 16777216) (Ls q s p e.1 e.2 H)
noncomputable def yx(P:Program)(t:TypeId)(x:Value)(H:aa):Option (Value×aa):=
 gd (vF P t) (ai (jh x) fun s=>some (A_ H.next,H.new (.rY s 0)))
noncomputable def PZ(r:Nat)(s:ByteArray)(p:Nat)(c:Nat×Nat)(H:aa):Value×aa:=
 (.tuple #[.bool true,.int .i64 (.ofNat p),.int .i32 (.ofNat c.1)],H.put r (.rY s (Nat.add p c.2)))
noncomputable def DF(it:Value)(str:Bool)(H:aa):Option (Value×aa):=
 ai (gJ it) fun a=>ai (aaa (H.obj a.block)) fun q=>gd (str&&Nat.beq a.off 0)
  (av (Nat.ble (Nat.succ q.2) (len q.1.data.toList)) (some (PZ a.block q.1 q.2 (Utf8.decode q.1 q.2) H)) (some (.tuple #[.bool false],H)))
noncomputable def P4(a b:Option Nat):Bool:=@Option.rec Nat (fun _=>Bool) (aJ b) (fun x=>@Option.rec Nat (fun _=>Bool) false (fun y=>Nat.beq x y) b) a
noncomputable def addrEq(a b:Addr):Bool:=Nat.beq a.block b.block&&Nat.beq a.off b.off&&aJ a.spot&&aJ b.spot
noncomputable def Am(a b:Option Addr):Bool:=@Option.rec Addr (fun _=>Bool) (aJ b) (fun x=>@Option.rec Addr (fun _=>Bool) false (fun y=>addrEq x y) b) a
noncomputable def P5(x y:Value):Bool:=gK (ai (gJ x) fun a=>ai (gJ y) fun b=>gd (addrEq a b) (some ()))
noncomputable def WL(x y:Value):Bool:=gK (ai (y_ x) fun a=>ai (y_ y) fun b=>gd (Am a.1 b.1&&Nat.beq a.2.1 b.2.1&&Nat.beq a.2.2 b.2.2) (some ()))
noncomputable def aac(x y:Value):Bool:=gK (ai (AQ x) fun a=>ai (AQ y) fun b=>gd (P4 a b) (some ()))
noncomputable def P6(x y:Value):Bool:=gK (ai (jg x) fun a=>ai (jg y) fun b=>gd (Nat.beq (ig a.1) (ig b.1)&&Gu a.2 b.2) (some ()))
noncomputable def aad(x y:Value):Bool:=gK (ai (bK x) fun a=>ai (bK y) fun b=>gd (qw a b) (some ()))
noncomputable def aae(x y:Value):Bool:=gK (ai (jh x) fun a=>ai (jh y) fun b=>gd (iJ a b) (some ()))
noncomputable def WN(x y:Value):Bool:=AR x&&AR y&&Nat.beq (iL x).1 (iL y).1
noncomputable def pP(x y:Value):Bool:=P6 x y||(P5 x y||(WL x y||(aad x y||(aae x y||(aac x y||WN x y)))))
noncomputable def qA(f:Value→Value→Bool)(xs:List Value):List Value→Bool:=
 @List.rec Value (fun _=>List Value→Bool) (fun ys=>@List.rec Value (fun _=>Bool) true (fun _ _ _=>false) ys)
  (fun x _ ih ys=>@List.rec Value (fun _=>Bool) false (fun y r _=>av (f x y) (ih r) false) ys) xs
noncomputable def Lt(f:Value→Value→Bool)(x y:Value):Bool:=gK (ai (PO x) fun a=>ai (PO y) fun b=>ai (Uw a.1) fun g=>ai (Uw b.1) fun k=>gd (Nat.beq g k&&qA f a.2.1 b.2.1&&qA f a.2.2 b.2.2) (some ()))
noncomputable def vI(x y:Value):Bool:=pP x y||Lt pP x y
noncomputable def gD(x y:Value):Bool:=vI x y||Lt vI x y
noncomputable def wV(xs:List Value):List Value→Bool:=
 @List.rec Value (fun _=>List Value→Bool) (fun ys=>@List.rec Value (fun _=>Bool) true (fun _ _ _=>false) ys)
  (fun x _ ih ys=>@List.rec Value (fun _=>Bool) false (fun y r _=>av (gD x y) (ih r) false) ys) xs
noncomputable def sameAt(A B:aa)(r off n:Nat):Bool:=gK (ai (A.read r off n) fun x=>ai (B.read r off n) fun y=>gd (wV x y) (some ()))
noncomputable def mO(c:Nat)(l:List UInt8):Nat→Option Nat:=
 @List.rec UInt8 (fun _=>Nat→Option Nat) (fun _=>none) (fun b _ ih k=>av (Nat.beq b.toNat c) (some k) (ih (Nat.succ k))) l
noncomputable def countB(c:Nat)(l:List UInt8):Nat:=@List.rec UInt8 (fun _=>Nat) 0 (fun b _ n=>av (Nat.beq b.toNat c) (Nat.succ n) n) l
noncomputable def Jw(o:Option Nat):Value:=@Option.rec Nat (fun _=>Value) (.int .i64 (-1)) (fun k=>.int .i64 (.ofNat k)) o
noncomputable def Be(args:List Value):Option (ByteArray×Nat):=
 ai (nth args 0) fun s=>ai (jh s) fun b=>ai (nth args 1) fun c=>ai (jg c) fun p=>ai (C4 p.2) fun n=>gd (AU p.1&&Nat.ble n 255&&Nat.beq (len args) 2) (some (b,n))
noncomputable def Nq(P:Program)(code:Nat)(rt:List TypeId)(args:List Value)(H:aa):Option (Value×aa):=
 av (Nat.beq code 1) (gd (Nat.beq (len args) 1) (ai (nth args 0) fun x=>some (x,H)))
  (av (Nat.beq code 2) (gd (Nat.beq (len args) 1) (ai (nth args 0) fun x=>ai (jg x) fun p=>ai (C4 p.2) fun n=>ai (nth rt 0) fun t=>ai (Gg P t) fun q=>
   gd (uV p.1&&Nat.ble n 16777216&&Nat.beq q.2 1) (some (.slice (some ⟨H.next,0,none⟩) n (aT 1),H.new (.row ⟨q.1,.nil,n,false,0⟩)))))
   (av (Nat.beq code 3) (ai (Be args) fun x=>some (Jw (mO x.2 x.1.data.toList 0),H))
    (av (Nat.beq code 4) (ai (Be args) fun x=>some (.int .i64 (.ofNat (countB x.2 x.1.data.toList)),H)) none)))
end Go.Ae
namespace Go.Ae
structure St where
 nl:Nat
 nt:Nat
 reg:List (Nat×Value)
 tm:Tr Value
 df:List Deferred
 H:aa
noncomputable def aS(m i:Nat):Bool:=Nat.beq (Nat.mod (Nat.shiftRight m i) 2) 1
noncomputable def look(l:List (Nat×Value)):Nat→Value:=
 @List.rec (Nat×Value) (fun _=>Nat→Value) (fun _=>top) (fun p _ ih t=>av (Nat.beq p.1 t) p.2 (ih t)) l
noncomputable def aX(s:St)(t:Nat):Value:=av (aS s.nl t) (s.tm.get top t) (look s.reg t)
noncomputable def ev(s:St)(x:Operand):Value:=
 @Operand.rec (fun _=>St→Value) (fun t s=>aX s t) (fun v _=>v) (fun g _=>.pointer (some ⟨g,0,none⟩)) (fun f _=>.func (.func f) #[] #[]) x s
noncomputable def zX(s:St)(x:Option Operand):Option Value:=@Option.rec Operand (fun _=>Option Value) none (fun x=>some (ev s x)) x
noncomputable def EG(s:St)(ps:Array (Nat×Operand)):List (Nat×Value):=mp (fun p=>(p.1,ev s p.2)) ps.toList
noncomputable def gX(s:St)(d:Nat)(v:Value)(H:aa):St:=
 av (aS s.nl d) ⟨s.nl,s.nt,s.reg,av (Nat.ble (Nat.succ d) s.nt) (s.tm.set top d v) s.tm,s.df,H⟩ ⟨s.nl,s.nt,(d,v)::s.reg,s.tm,s.df,H⟩
noncomputable def bG(s:St)(d:Option Nat)(v:Value)(H:aa):St:=
 @Option.rec Nat (fun _=>St) ⟨s.nl,s.nt,s.reg,s.tm,s.df,H⟩ (fun d=>gX s d v H) d
abbrev cr:=FuncId→List Value→aa→Option (Value×aa)
inductive R3 where
 |fail
 |rJ(v:Value)
 |mem(v:Value)(H:aa)
noncomputable def rp(o:Option Value):R3:=@Option.rec Value (fun _=>R3) .fail .rJ o
noncomputable def rm(o:Option (Value×aa)):R3:=@Option.rec (Value×aa) (fun _=>R3) .fail (fun p=>.mem p.1 p.2) o
noncomputable def ZZ(o:Option Value)(q:R3):R3:=@Option.rec Value (fun _=>R3→R3) (fun q=>q) (fun v _=>.rJ v) o q
noncomputable def Z0(v:Value):Bool:=@Option.rec (List Value) (fun _=>Bool) false (fun l=>Nat.beq (len l) 0) (PR v)
noncomputable def qB(ops:Array Oper)(s:St)(j:Nat):Option (Option Bool):=
 ai (nth ops.toList j) fun o=>ai o.dst fun t=>
  @Option.rec Bool (fun _=>Option (Option Bool)) (gd (Z0 (aX s t)) (some none)) (fun b=>some (some b)) (bK (aX s t))
noncomputable def DI(ops:Array Oper)(s:St)(g:Nat×Bool):Option Bool:=
 ai (qB ops s g.1) fun y=>some (@Option.rec Bool (fun _=>Bool) false (fun b=>qw b g.2) y)
noncomputable def iq(ops:Array Oper)(s:St)(g:Option (Nat×Bool)):Option Bool:=
 @Option.rec (Nat×Bool) (fun _=>Option Bool) (some true) (fun g=>DI ops s g) g
noncomputable def methodOf(P:Program)(t:TypeId)(name:String):Option (FuncId×Bool):=
 ai (P.info? t) fun i=>ai (i.methods.toList.find? (·.name==name)) fun m=>ai m.func fun q=>ai (P.underlying t) fun d=>
  gd (Nat.beq (len m.path.toList) 0&&(av q.2 (Nat.beq (l7 d) 1) (!(Nat.beq (l7 d) 1)))) (some q)
noncomputable def eP(c:Callee):Program→St→Option (FuncId×List Value×List Value):=
 @Callee.rec (fun _=>Program→St→Option (FuncId×List Value×List Value))
  (fun f _ s=>ai (PO (ev s f)) fun q=>ai (Uw q.1) fun g=>some (g,q.2))
  (fun r name P s=>ai (vE (ev s r)) fun p=>ai (methodOf P p.1 name) fun q=>some (q.1,[p.2],[]))
  (fun _ _ _=>none) c
noncomputable def isBuiltin(c:Callee):Option Builtin:=@Callee.rec (fun _=>Option Builtin) (fun _=>none) (fun _ _=>none) (fun b=>some b) c
noncomputable def pQ(b:Builtin):List TypeId→List Value→Program→aa→R3:=
 @Builtin.rec (fun _=>List TypeId→List Value→Program→aa→R3)
  (fun ats args P H=>rm (uw P ats args H)) (fun ats args P _=>rp (one (Gx P) ats args)) (fun ats args P H=>rm (yw P ats args H)) (fun _ _ _ _=>.fail) (fun _ args _ _=>rp (sw args)) (fun ats args P H=>rm (DD P ats args H)) (fun ats args P H=>rm (wT P ats args H)) (fun _ args _ _=>rp (Gz args)) (fun ats args P H=>ZZ (one (AZ P) ats args) (rm (Bc P ats args H))) (fun _ _ _ _=>.fail) (fun _ args _ _=>rp (PX true args)) (fun _ args _ _=>rp (PX false args)) (fun _ _ _ _=>.fail) (fun _ _ _ _=>.fail) (fun _ _ _ _=>.fail) (fun _ _ _ _=>.fail) (fun _ args _ _=>rp (Gy args)) (fun _ _ _ _=>.fail) (fun _ _ _ _=>.fail) (fun _ _ _ _=>.fail) (fun _ args _ H=>rm (wU args H)) (fun ats args P H=>rm (lz P ats args H)) (fun _ _ _ _=>.fail) (fun _ _ _ _=>.fail) (fun _ _ _ _=>.fail) (fun _ _ _ _=>.fail) b
noncomputable def kZ(c:Call)(P:Program)(cf:cr)(s:St):R3:=
 @Option.rec Builtin (fun _=>R3)
  (rm (ai (eP c.callee P s) fun q=>cf q.1 (app q.2.1 (app (mp (ev s) c.args.toList) q.2.2)) s.H))
  (fun b=>pQ b c.argTypes.toList (mp (ev s) c.args.toList) P s.H) (isBuiltin c.callee)
noncomputable def mV(o:Op):Program→cr→St→R3:=
 @Op.rec (fun _=>Program→cr→St→R3)
  (fun x _ _ s=>.rJ (ev s x)) (fun x _ _ s=>.rJ (ev s x)) (fun c a b _ _ s=>rp (AY (ev s c) (ev s a) (ev s b))) (fun e P _ s=>rm (sD P e s.H)) (fun e x _ _ s=>rm (EF e (ev s x) s.H)) (fun t ps P _ s=>rp (su P t (EG s ps))) (fun t n ps P _ s=>rm (jk P t n (EG s ps) s.H)) (fun t m k v P _ s=>rm (jc P t (ev s m) (ev s k) (ev s v) s.H)) (fun t x P _ s=>rm (kz P t (ev s x) s.H)) (fun t x v P _ s=>rm (nS P t (ev s x) (ev s v) s.H)) (fun _ _ _ _=>.fail) (fun _ _ _ _=>.fail) (fun x _ _ s=>rp (EC (ev s x))) (fun op t x y _ P _ s=>rp (eG P op t x y (ev s x) (ev s y))) (fun op _ x _ _ s=>rp (bP (Op.unary op (ev s x)))) (fun a b x P _ s=>ZZ (uY P a b (ev s x)) (rm (kC P a b (ev s x) s.H))) (fun _ _ _ _ _=>.fail) (fun t x P _ s=>rp (Jv P t (ev s x))) (fun f fi ca _ _ s=>rp (some (.func f ⟨mp (ev s) fi.toList⟩ ⟨mp (ev s) ca.toList⟩))) (fun t r P _ s=>rm (kD P t (zX s r) s.H)) (fun _ _ _ _ _=>.fail) (fun t l c P _ s=>rm (gW P t (ev s l) (ev s c) s.H)) (fun t x lo hi mx P _ s=>rp (pE P t (ev s x) (zX s lo) (zX s hi) (zX s mx))) (fun t x f P _ s=>rp (iO P t (ev s x) f)) (fun t x f P _ s=>rp (si P t (ev s x) f)) (fun t x i P _ s=>rp (iN P t (ev s x) (ev s i))) (fun t x i P _ s=>rp (r_ P t (ev s x) (ev s i))) (fun t x k ok P _ s=>rm (lX P t (ev s x) (ev s k) ok s.H)) (fun t m k v P _ s=>rm (jc P t (ev s m) (ev s k) (ev s v) s.H)) (fun _ _ _ _ _ _=>.fail) (fun _ _ _ _ _ _ _=>.fail) (fun t x P _ s=>rm (yx P t (ev s x) s.H)) (fun x b _ _ s=>rm (DF (ev s x) b s.H)) (fun _ _ _ _=>.fail) (fun _ _ _ _ _ _ _=>.fail) (fun t i _ _ s=>rp (l8 (ev s t) i)) (fun c P cf s=>kZ c P cf s) (fun _ _ _ _=>.fail) (fun _ _ _ _=>.fail) (fun _ _ _ _=>.fail) (fun _ _ _ _ _=>.fail) (fun _ _ _ _ _ _=>.fail) (fun _ _ _ _ _=>.fail) o
noncomputable def iE(o:Op):Option Call:=@Op.rec (fun _=>Option Call) (fun _=>none) (fun _=>none) (fun _ _ _=>none) (fun _=>none) (fun _ _=>none) (fun _ _=>none) (fun _ _ _=>none) (fun _ _ _ _=>none) (fun _ _=>none) (fun _ _ _=>none) (fun _=>none) (fun _=>none) (fun _=>none) (fun _ _ _ _ _=>none) (fun _ _ _=>none) (fun _ _ _=>none) (fun _ _=>none) (fun _ _=>none) (fun _ _ _=>none) (fun _ _=>none) (fun _ _=>none) (fun _ _ _=>none) (fun _ _ _ _ _=>none) (fun _ _ _=>none) (fun _ _ _=>none) (fun _ _ _=>none) (fun _ _ _=>none) (fun _ _ _ _=>none) (fun _ _ _ _=>none) (fun _ _ _=>none) (fun _ _ _ _=>none) (fun _ _=>none) (fun _ _=>none) (fun _=>none) (fun _ _ _ _=>none) (fun _ _=>none) (fun _=>none) (fun _=>none) (fun c=>some c) (fun _=>none) (fun _ _=>none) (fun _ _ _=>none) (fun _ _=>none) o
noncomputable def qC(c:Call)(P:Program)(s:St):Option Deferred:=
 ai (@Callee.rec (fun _=>Option Operand) (fun f=>some f) (fun _ _=>none) (fun _=>none) c.callee) fun f=>
  ai (PO (ev s f)) fun q=>ai (Uw q.1) fun g=>some ⟨.fn (.func g) ⟨q.2.2⟩,⟨app q.2.1 (mp (ev s) c.args.toList)⟩⟩
noncomputable def vJ(o:Oper)(s:St)(r:R3):Option St:=
 @R3.rec (fun _=>Option St) none (fun v=>some (bG s o.dst v s.H)) (fun v H=>some (bG s o.dst v H)) r
noncomputable def oN(P:Program)(cf:cr)(o:Oper)(s:St):Option St:=
 @Option.rec Call (fun _=>Option St) (vJ o s (mV o.op P cf s))
  (fun c=>ai (qC c P s) fun d=>some (bG ⟨s.nl,s.nt,s.reg,s.tm,d::s.df,s.H⟩ o.dst undef s.H)) (iE o.op)
noncomputable def dN(P:Program)(cf:cr)(ops:Array Oper)(o:Oper)(s:St):Option St:=
 ai (iq ops s o.guard) fun b=>av b (oN P cf o s) (some (bG s o.dst undef s.H))
noncomputable def dW(P:Program)(cf:cr)(ops:Array Oper)(l:List Oper):St→Option St:=
 @List.rec Oper (fun _=>St→Option St) some (fun o _ ih s=>ai (dN P cf ops o s) ih) l
noncomputable def fH(a b:Nat):Nat:=av (Nat.ble a b) a b
noncomputable def aV(s:St):St:=⟨s.nl,s.nt,s.reg,s.tm,s.df,⟨s.H.j6,s.H.next,s.H.next⟩⟩
structure Cl where
 k:Nat
 r:Nat
 off:Nat
 n:Nat
 a:aa
 b:aa
noncomputable def hh0:aa:=⟨.nil,0,0⟩
noncomputable def cl(k:Nat):Cl:=⟨k,0,0,0,hh0,hh0⟩
noncomputable def qD(o:Op):Option (Operand×Operand):=@Op.rec (fun _=>Option (Operand×Operand)) (fun _=>none) (fun _=>none) (fun _ _ _=>none) (fun _=>none) (fun _ _=>none) (fun _ _=>none) (fun _ _ _=>none) (fun _ _ _ _=>none) (fun _ _=>none) (fun _ a v=>some (a,v)) (fun _=>none) (fun _=>none) (fun _=>none) (fun _ _ _ _ _=>none) (fun _ _ _=>none) (fun _ _ _=>none) (fun _ _=>none) (fun _ _=>none) (fun _ _ _=>none) (fun _ _=>none) (fun _ _=>none) (fun _ _ _=>none) (fun _ _ _ _ _=>none) (fun _ _ _=>none) (fun _ _ _=>none) (fun _ _ _=>none) (fun _ _ _=>none) (fun _ _ _ _=>none) (fun _ _ _ _=>none) (fun _ _ _=>none) (fun _ _ _ _=>none) (fun _ _=>none) (fun _ _=>none) (fun _=>none) (fun _ _ _ _=>none) (fun _ _=>none) (fun _=>none) (fun _=>none) (fun _=>none) (fun _=>none) (fun _ _=>none) (fun _ _ _=>none) (fun _ _=>none) o
noncomputable def yz(o:Op):Option (TypeId×Operand):=@Op.rec (fun _=>Option (TypeId×Operand)) (fun _=>none) (fun _=>none) (fun _ _ _=>none) (fun _=>none) (fun _ _=>none) (fun _ _=>none) (fun _ _ _=>none) (fun _ _ _ _=>none) (fun t a=>some (t,a)) (fun _ _ _=>none) (fun _=>none) (fun _=>none) (fun _=>none) (fun _ _ _ _ _=>none) (fun _ _ _=>none) (fun _ _ _=>none) (fun _ _=>none) (fun _ _=>none) (fun _ _ _=>none) (fun _ _=>none) (fun _ _=>none) (fun _ _ _=>none) (fun _ _ _ _ _=>none) (fun _ _ _=>none) (fun _ _ _=>none) (fun _ _ _=>none) (fun _ _ _=>none) (fun _ _ _ _=>none) (fun _ _ _ _=>none) (fun _ _ _=>none) (fun _ _ _ _=>none) (fun _ _=>none) (fun _ _=>none) (fun _=>none) (fun _ _ _ _=>none) (fun _ _=>none) (fun _=>none) (fun _=>none) (fun _=>none) (fun _=>none) (fun _ _=>none) (fun _ _ _=>none) (fun _ _=>none) o
noncomputable def oZ(o:Op):Bool:=@Op.rec (fun _=>Bool) (fun _=>false) (fun _=>false) (fun _ _ _=>false) (fun _=>true) (fun _ _=>true) (fun _ _=>false) (fun _ _ _=>true) (fun _ _ _ _=>false) (fun _ _=>false) (fun _ _ _=>false) (fun _=>false) (fun _=>false) (fun _=>false) (fun _ _ _ _ _=>false) (fun _ _ _=>false) (fun _ _ _=>false) (fun _ _=>false) (fun _ _=>false) (fun _ _ _=>false) (fun _ _=>true) (fun _ _=>false) (fun _ _ _=>true) (fun _ _ _ _ _=>false) (fun _ _ _=>false) (fun _ _ _=>false) (fun _ _ _=>false) (fun _ _ _=>false) (fun _ _ _ _=>false) (fun _ _ _ _=>false) (fun _ _ _=>false) (fun _ _ _ _=>false) (fun _ _=>false) (fun _ _=>false) (fun _=>false) (fun _ _ _ _=>false) (fun _ _=>false) (fun _=>false) (fun _=>false) (fun _=>false) (fun _=>false) (fun _ _=>false) (fun _ _ _=>false) (fun _ _=>false) o
noncomputable def o5(P:Program)(o:Op)(s:St):Cl:=
 (ai (yz o) fun p=>ai (gJ (ev s p.2)) fun a=>ai (Ps P p.1) fun l=>some (Cl.mk 4 a.block a.off (l.getD 1) hh0 hh0)).getD (cl 1)
noncomputable def iR(P:Program)(o:Op)(s:St)(H:aa):Cl:=
 @Option.rec (Operand×Operand) (fun _=>Cl) (av (Nat.ble s.H.next H.low) (av (oZ o) (cl 5) (o5 P o s)) ⟨2,0,0,0,s.H,H⟩)
  (fun p=>@Option.rec Addr (fun _=>Cl) ⟨2,0,0,0,s.H,H⟩ (fun a=>⟨3,a.block,a.off,len (ay (ev s p.2)),hh0,hh0⟩) (gJ (ev s p.1))) (qD o)
noncomputable def zf(P:Program)(o:Oper)(s:St)(r:R3):Option (St×Cl):=
 @R3.rec (fun _=>Option (St×Cl)) none (fun v=>some (bG s o.dst v s.H,cl 0))
  (fun v H=>some (bG s o.dst v ⟨H.j6,H.next,fH s.H.low H.low⟩,iR P o.op s H)) r
noncomputable def cO(P:Program)(cf:cr)(ops:Array Oper)(o:Oper)(s:St):Option (St×Cl):=
 ai (iq ops s o.guard) fun b=>av b (zf P o s (mV o.op P cf (aV s))) (some (bG s o.dst undef s.H,cl 0))
noncomputable def bD(P:Program)(cf:cr)(ops:Array Oper)(l:List Oper):St→List Cl→Option (St×List Cl):=
 @List.rec Oper (fun _=>St→List Cl→Option (St×List Cl)) (fun s acc=>some (s,acc)) (fun o _ ih s acc=>ai (cO P cf ops o s) fun q=>ih q.1 (q.2::acc)) l
noncomputable def nT(acc:List Nat)(n:Nat)(l:List Edge):Nat:=
 @List.rec Edge (fun _=>Nat) 0 (fun e _ r=>av (Region.binds .any e) (Nat.lor (Nat.lor (Nat.shiftLeft 1 e.on) ((nth acc (Nat.sub (Nat.sub n 1) e.on)).getD 0)) r) r) l
noncomputable def iT(l:List Oper):List Nat→Nat→List Nat:=
 @List.rec Oper (fun _=>List Nat→Nat→List Nat) (fun acc _=>acc) (fun o _ ih acc n=>ih (nT acc n o.after.toList::acc) (Nat.succ n)) l
noncomputable def lC(l:List Oper):Nat→Bool:=
 @List.rec Oper (fun _=>Nat→Bool) (fun _=>true) (fun o _ ih n=>av (all' (fun e=>!(Region.binds .any e)||Nat.ble (Nat.succ e.on) n) o.after.toList) (ih (Nat.succ n)) false) l
noncomputable def bF{α:Type}(f:α→α→Bool→Bool)(x:α)(m:Nat)(l:List α):Bool:=@List.rec α (fun _=>Bool) true (fun y r ih=>av (f x y (aS m (len r))) ih false) l
noncomputable def pairs{α:Type}(f:α→α→Bool→Bool)(ms:List Nat):List α→Bool:=
 @List.rec Nat (fun _=>List α→Bool) (fun _=>true) (fun m _ ih xs=>@List.rec α (fun _=>Bool) true
  (fun x r _=>av (bF f x m r) (ih r) false) xs) ms
noncomputable def f_(ops:Array Oper):Bool:=lC ops.toList 0&&pairs (fun y x b=>b||x.apart ops y) (iT ops.toList [] 0) (ops.toList.reverse)
noncomputable def kE(x y:Cl):Bool:=!(Nat.beq x.r y.r)||Nat.ble (Nat.add x.off x.n) y.off||Nat.ble (Nat.add y.off y.n) x.off
noncomputable def gI(w l:Cl):Bool:=sameAt w.a w.b l.r l.off l.n
noncomputable def aL(y x:Cl)(b:Bool):Bool:=
 av (Nat.beq y.k 0||Nat.beq x.k 0||Nat.beq y.k 5||Nat.beq x.k 5) true
  (av (Nat.beq x.k 3) (av (Nat.beq y.k 3) (b||kE x y) (Nat.beq y.k 4&&(b||kE x y)))
   (av (Nat.beq y.k 3) (b||(Nat.beq x.k 4&&kE x y))
    (av (Nat.beq x.k 4) (av (Nat.beq y.k 2) (b||gI y x) true)
     (av (Nat.beq y.k 4) (av (Nat.beq x.k 2) (b||gI x y) true)
      (av (Nat.beq x.k 1&&Nat.beq y.k 1) true b)))))
noncomputable def noTwo(l:List Cl):Bool:=all' (fun x=>!(Nat.beq x.k 2||Nat.beq x.k 3)) l
noncomputable def bO(ops:Array Oper)(cls:List Cl):Bool:=av (noTwo cls) true (pairs aL (iT ops.toList [] 0) cls)
noncomputable def Yi(o:Op):Bool:=@Op.rec (fun _=>Bool) (fun _=>true) (fun _=>true) (fun _ _ _=>true) (fun _=>true) (fun _ _=>true) (fun _ _=>true) (fun _ _ _=>true) (fun _ _ _ _=>true) (fun _ _=>true) (fun _ _ _=>true) (fun _=>true) (fun _=>true) (fun _=>true) (fun _ _ _ _ _=>true) (fun _ _ _=>true) (fun _ _ _=>true) (fun _ _=>true) (fun _ _=>true) (fun _ _ _=>true) (fun _ _=>true) (fun _ _=>true) (fun _ _ _=>true) (fun _ _ _ _ _=>true) (fun _ _ _=>true) (fun _ _ _=>true) (fun _ _ _=>true) (fun _ _ _=>true) (fun _ _ _ _=>true) (fun _ _ _ _=>true) (fun _ _ _=>true) (fun _ _ _ _=>true) (fun _ _=>true) (fun _ _=>true) (fun _=>true) (fun _ _ _ _=>true) (fun _ _=>true) (fun _=>true) (fun _=>true) (fun _=>true) (fun _=>true) (fun _ _=>true) (fun _ _ _=>true) (fun _ _=>false) o
noncomputable def bV(ops:Array Oper):Bool:=all' (fun o=>aJ (iE o.op)&&Yi o.op) ops.toList
inductive Out where
 |fail
 |norm(s:St)
 |exit(id:Nat)(s:St)
 |goto(l:Nat)(s:St)
 |ret(s:St)
noncomputable def andThen(o:Out)(k:St→Out):Out:=
 @Out.rec (fun _=>(St→Out)→Out) (fun _=>.fail) (fun s k=>k s) (fun id s _=>.exit id s) (fun l s _=>.goto l s) (fun s _=>.ret s) o k
noncomputable def zg(c:Option Bool)(x y:Out):Out:=@Option.rec Bool (fun _=>Out) .fail (fun b=>av b x y) c
noncomputable def lD(id:Nat)(o:Out):Out:=
 @Out.rec (fun _=>Nat→Out) (fun _=>.fail) (fun s _=>.norm s) (fun i s id=>av (Nat.beq i id) (.norm s) (.exit i s)) (fun l s _=>.goto l s) (fun s _=>.ret s) o id
noncomputable def l_(n:Nat)(f:St→Out):St→Out:=@Nat.rec (fun _=>St→Out) (fun _=>.fail) (fun _ ih s=>andThen (f s) ih) n
noncomputable def aaf(o:Out)(k:Nat→St→Out):Out:=
 @Out.rec (fun _=>(Nat→St→Out)→Out) (fun _=>.fail) (fun s _=>.norm s) (fun i s _=>.exit i s) (fun l s k=>k l s) (fun s _=>.ret s) o k
noncomputable def eU(cx:Code→St→Out)(n:Nat)(body:Code):Out→Out:=
 @Nat.rec (fun _=>Out→Out) (fun _=>.fail) (fun _ ih o=>aaf o fun l s=>@Option.rec Code (fun _=>Out) (.goto l s) (fun rest=>ih (cx rest s)) (findLabel body l)) n
noncomputable def zh(o:Option St):Out:=@Option.rec St (fun _=>Out) .fail .norm o
noncomputable def clear(s:St):St:=⟨s.nl,s.nt,[],s.tm,s.df,s.H⟩
noncomputable def jT(ops:Array Oper)(o:Option (St×List Cl)):Out:=
 @Option.rec (St×List Cl) (fun _=>Out) .fail (fun q=>av (bO ops q.2) (.norm q.1) .fail) o
noncomputable def region(P:Program)(cf:cr)(ops:Array Oper)(draw:Bool)(s:St):Out:=
 av draw (av (bV ops&&f_ ops) (jT ops (bD P cf ops ops.toList (clear s) [])) .fail) (zh (dW P cf ops ops.toList (clear s)))
noncomputable def exec(P:Program)(cf:cr)(cx:Code→St→Out)(n:Nat)(c:Code):St→Out:=
 @Code.rec (fun _=>St→Out)
  (fun s=>.norm s)
  (fun _ ops draw s=>region P cf ops draw s)
  (fun _ _ ia ib s=>andThen (ia s) ib)
  (fun c _ _ ix iy s=>zg (bK (ev s c)) (ix s) (iy s))
  (fun id _ ih s=>lD id (ih s))
  (fun _ ih s=>l_ n ih s)
  (fun _ _ _ _ _ _=>fun _=>.fail)
  (fun id s=>.exit id s)
  (fun c ih s=>eU cx n c (ih s))
  (fun _ s=>.norm s)
  (fun l s=>.goto l s)
  (fun s=>.ret s)
  (fun _=>fun _=>.fail) c
noncomputable def uy(P:Program)(s:St)(r:ResultVar):Option Value:=
 @ResultVar.rec (fun _=>Option Value) (fun t=>some (aX s t)) (fun a t=>ai (kz P t (aX s a) s.H) fun p=>some p.1) r
noncomputable def dw(P:Program)(s:St)(l:List ResultVar):Option (List Value):=
 @List.rec ResultVar (fun _=>Option (List Value)) (some []) (fun r _ q=>ai (uy P s r) fun v=>ai q fun vs=>some (v::vs)) l
noncomputable def iZ(vs:List Value):Value:=av (Nat.beq (len vs) 1) ((nth vs 0).getD undef) (.tuple ⟨vs⟩)
noncomputable def EH(o:Out):Option St:=@Out.rec (fun _=>Option St) none (fun s=>some s) (fun _ _=>none) (fun _ _=>none) (fun s=>some s) o
noncomputable def zi(P:Program)(fn:Func)(s:St):Option (Value×aa):=
 gd (Nat.beq (len s.df) 0) (ai (dw P s fn.results.toList) fun vs=>some (iZ vs,s.H))
noncomputable def P7(m t:Nat):Nat:=Nat.lor m (Nat.shiftLeft 1 t)
noncomputable def Yj(x:Operand):Option Nat:=@Operand.rec (fun _=>Option Nat) some (fun _=>none) (fun _=>none) (fun _=>none) x
noncomputable def Yk(l:List Operand)(p:Nat×Nat):Nat:=
 @List.rec Operand (fun _=>Nat) p.1 (fun x _ r=>@Option.rec Nat (fun _=>Nat) r (fun t=>av (aS p.2 t) r (P7 r t)) (Yj x)) l
noncomputable def P8(l:List Oper):Nat×Nat→Nat×Nat:=
 @List.rec Oper (fun _=>Nat×Nat→Nat×Nat) (fun p=>p)
  (fun o _ ih p=>ih (Yk o.op.operands.toList p,@Option.rec Nat (fun _=>Nat) p.2 (P7 p.2) o.dst)) l
noncomputable def Nr(c:Code):Nat:=@Code.rec (fun _=>Nat) (0)
 (fun _ ops _=>(P8 ops.toList (0,0)).1)
 (fun _ _ a b=>Nat.lor a b)
 (fun _ _ _ a b=>Nat.lor a b)
 (fun _ _ a=>a)
 (fun _ a=>a)
 (fun _ _ _ _ _ _=>0)
 (fun _=>0)
 (fun _ a=>a)
 (fun _=>0)
 (fun _=>0)
 (0)
 (fun _=>0) c
noncomputable def P9(l:List ResultVar):Nat:=@List.rec ResultVar (fun _=>Nat) 0 (fun r _ n=>P7 n (@ResultVar.rec (fun _=>Nat) (fun t=>t) (fun a _=>a) r)) l
noncomputable def bQ(P:Program)(g:FuncId):Nat:=@Option.rec Func (fun _=>Nat) 0 (fun fn=>Nat.lor (P9 fn.results.toList) (@Option.rec Code (fun _=>Nat) 0 Nr fn.body)) (nth P.funcs.toList g)
structure Lv where
 ca:cr
 cx:Code→St→Out
noncomputable def Ns(P:Program)(L:Lv)(n:Nat)(g x:Nat)(fn:Func)(args:List Value)(H:aa):Option (Value×aa):=
 @Option.rec Code (fun _=>Option (Value×aa)) (Nq P x fn.resultTypes.toList args H)
  (fun c=>gd (Nat.ble (len args) fn.ntmps) (ai (EH (exec P L.ca L.cx n c ⟨bQ P g,fn.ntmps,[],Tr.jE top args 0 .nil,[],H⟩)) fun s=>zi P fn s)) fn.body
structure Xt where
 c:FuncId→Nat
 o:FuncId→List Value→aa→Option (Value×aa)
instance:CoeFun Xt (fun _=>FuncId→Nat):=⟨Xt.c⟩
noncomputable def orO(o d:Option (Value×aa)):Option (Value×aa):=@Option.rec (Value×aa) (fun _=>Option (Value×aa)) d some o
noncomputable def qE(P:Program)(X:Xt)(L:Lv)(n:Nat)(g:FuncId)(args:List Value)(H:aa):Option (Value×aa):=
 orO (X.o g args H) (ai (nth P.funcs.toList g) fun fn=>Ns P L n g (X g) fn args H)
noncomputable def lv(P:Program)(X:Xt)(n:Nat):Lv:=
 @Nat.rec (fun _=>Lv) ⟨fun _ _ _=>none,fun _ _=>.fail⟩ (fun m L=>⟨qE P X L m,exec P L.ca L.cx m⟩) n
noncomputable def bU(P:Program)(X:Xt)(n:Nat):cr:=(lv P X n).ca
end Go.Ae
namespace Go.Ae
structure Loc where
 c:Nat
 lo:Nat
 base:Nat
 tot:Nat
 n:Nat
abbrev Mp:=Nat→Option Loc
def Mp.le(m m':Mp):Prop:=∀r l,m r=some l→m' r=some l
mutual
inductive VR(m:Mp):Value→Value→Prop where
 |sc (v:Value) (h:eH v=true):VR m v v
 |top (v:Value):VR m top v
 |ptr (r off:Nat) (l:Loc) (h:m r=some l) (hl:l.lo≤off):VR m (.pointer (some ⟨r,off,none⟩)) (.pointer (some ⟨l.c,l.base +(off -l.lo),none⟩))
 |slice (r off n cp:Nat) (l:Loc) (h:m r=some l) (hl:l.lo≤off) (hk:aY cp=true) (hn:n≤cp):
  VR m (.slice (some ⟨r,off,none⟩) n cp) (.slice (some ⟨l.c,l.base +(off -l.lo),none⟩) n cp)
 |jm (r off n es cc:Nat) (l:Loc) (h:m r=some l) (hl:l.lo≤off) (he:0<es) (ht:l.base +(off -l.lo) +cc*es=l.tot) (hc:n≤cc) (hN:l.n≤off +cc*es):
  VR m (.slice (some ⟨r,off,none⟩) n (aT es)) (.slice (some ⟨l.c,l.base +(off -l.lo),none⟩) n cc)
 |lF (a a':Addr):VR m (.slice (some a) 0 0) (.slice (some a') 0 0)
 |jv (r off es:Nat) (a':Addr) (l:Loc) (h:m r=some l) (hl:l.lo≤off) (he:0<es) (hN:l.n≤off):VR m (.slice (some ⟨r,off,none⟩) 0 (aT es)) (.slice (some a') 0 0)
 |map (r:Nat) (l:Loc) (h:m r=some l):VR m (.map (some r)) (.map (some l.c))
 |func (f:Fn) (x y x' y':List Value) (hx:dh m x x') (hy:dh m y y'):VR m (.func f ⟨x⟩ ⟨y⟩) (.func f ⟨x'⟩ ⟨y'⟩)
 |iface (t:TypeId) (v v':Value) (h:VR m v v'):VR m (.iface t v) (.iface t v')
 |agg (x x':List Value) (h:dh m x x'):VR m (.agg ⟨x⟩) (.agg ⟨x'⟩)
 |tuple (x x':List Value) (h:dh m x x'):VR m (.tuple ⟨x⟩) (.tuple ⟨x'⟩)
inductive dh(m:Mp):List Value→List Value→Prop where
 |nil:dh m [] []
 |cons (v v':Value) (x x':List Value) (h:VR m v v') (hx:dh m x x'):dh m (v::x) (v'::x')
end
mutual
theorem VR.mono{m m':Mp}(hm:Mp.le m m'):∀{v v':Value},VR m v v'→VR m' v v'
 |_,_,.sc v h=>.sc v h
 |_,_,.top v=>.top v
 |_,_,.ptr r off l h hl=>.ptr r off l (hm r l h) hl
 |_,_,.slice r off n cp l h hl hk hn=>.slice r off n cp l (hm r l h) hl hk hn
 |_,_,.jm r off n es cc l h hl he ht hc hN=>.jm r off n es cc l (hm r l h) hl he ht hc hN
 |_,_,.lF a a'=>.lF a a'
 |_,_,.jv r off es a' l h hl he hN=>.jv r off es a' l (hm r l h) hl he hN
 |_,_,.map r l h=>.map r l (hm r l h)
 |_,_,.func f x y x' y' hx hy=>.func f x y x' y' (dh.mono hm hx) (dh.mono hm hy)
 |_,_,.iface t v v' h=>.iface t v v' (VR.mono hm h)
 |_,_,.agg x x' h=>.agg x x' (dh.mono hm h)
 |_,_,.tuple x x' h=>.tuple x x' (dh.mono hm h)
theorem dh.mono{m m':Mp}(hm:Mp.le m m'):∀{v v':List Value},dh m v v'→dh m' v v'
 |_,_,.nil=>.nil
 |_,_,.cons v v' x x' h hx=>.cons v v' x x' (VR.mono hm h) (dh.mono hm hx)
end
theorem dh.length{m:Mp}{x x':List Value}(h:dh m x x'):x.length=x'.length:=by
 induction x generalizing x' with
 |nil=>cases h;rfl
 |cons v x ih=>cases h with|cons _ v' _ x' h hx=>simp[ih hx]
theorem dh.get{m:Mp}{x x':List Value}(h:dh m x x')(k:Nat){v:Value}(hv:x[k]?=some v):∃v',x'[k]?=some v'∧VR m v v':=by
 induction x generalizing x' k with
 |nil=>simp at hv
 |cons w x ih=>
  cases h with
  |cons _ w' _ x' h hx=>
   cases k with
   |zero=>simp at hv;subst hv;exact⟨w',by simp,h⟩
   |succ k=>simpa using ih hx k (by simpa using hv)
theorem dh.append{m:Mp}{x x' y y':List Value}(h:dh m x x')(hy:dh m y y'):dh m (x++y) (x'++y'):=by
 induction x generalizing x' with
 |nil=>cases h;exact hy
 |cons w x ih=>cases h with|cons _ w' _ x' h hx=>exact .cons _ _ _ _ h (ih hx)
theorem dh.take{m:Mp}{x x':List Value}(h:dh m x x')(k:Nat):dh m (x.take k) (x'.take k):=by
 induction x generalizing x' k with
 |nil=>cases h;simp;exact .nil
 |cons w x ih=>cases h with
  |cons _ w' _ x' h hx=>cases k with
   |zero=>simp;exact .nil
   |succ k=>simp;exact .cons _ _ _ _ h (ih hx k)
theorem dh.drop{m:Mp}{x x':List Value}(h:dh m x x')(k:Nat):dh m (x.drop k) (x'.drop k):=by
 induction x generalizing x' k with
 |nil=>cases h;simp;exact .nil
 |cons w x ih=>cases h with
  |cons _ w' _ x' h hx=>cases k with
   |zero=>simp;exact .cons _ _ _ _ h hx
   |succ k=>simp;exact ih hx k
theorem dh.set{m:Mp}{x x':List Value}(h:dh m x x')(k:Nat){v v':Value}(hv:VR m v v'):dh m (x.set k v) (x'.set k v'):=by
 induction x generalizing x' k with
 |nil=>cases h;simp;exact .nil
 |cons w x ih=>cases h with
  |cons _ w' _ x' h hx=>cases k with
   |zero=>simp;exact .cons _ _ _ _ hv hx
   |succ k=>simp;exact .cons _ _ _ _ h (ih hx k)
theorem dh.eH{m:Mp}:∀{x:List Value},x.all eH=true→dh m x x
 |[],_=>.nil
 |v::x,h=>by simp at h;exact .cons _ _ _ _ (.sc v h.1) (dh.eH (by simpa using h.2))
theorem fI{v:Value}{a:Addr}(h:gJ v=some a):v=.pointer (some a):=by
 cases v<;>simp[gJ]at h<;>simp[h]
theorem gm{v:Value}{b:Bool}(h:bK v=some b):v=.bool b:=by
 cases v<;>simp[bK]at h<;>simp[h]
theorem gN{v:Value}{p:IntKind×Int}(h:jg v=some p):v=.int p.1 p.2:=by
 cases v<;>simp[jg]at h<;>simp[←h]
theorem EI{n:Int}{k:Nat}(h:C4 n=some k):n=k:=by
 cases n<;>simp[C4]at h;simp[h]
theorem uz{v:Value}{n:Nat}(h:oM v=some n):∃k,v=.int k n:=by
 cases v<;>simp[oM]at h
 case int k m=>exact⟨k,by rw[EI h]⟩
theorem fJ{v:Value}{b:ByteArray}(h:jh v=some b):v=.string b:=by
 cases v<;>simp[jh]at h<;>simp[h]
theorem kF{v:Value}{p:Option Addr×Nat×Nat}(h:y_ v=some p):v=.slice p.1 p.2.1 p.2.2:=by
 cases v<;>simp[y_]at h<;>simp[←h]
theorem qF{v:Value}{p:Option Nat}(h:AQ v=some p):v=.map p:=by
 cases v<;>simp[AQ]at h<;>simp[h]
theorem EJ{v:Value}{p:Fn×List Value×List Value}(h:PO v=some p):v=.func p.1 ⟨p.2.1⟩ ⟨p.2.2⟩:=by
 cases v<;>simp[PO]at h<;>simp[←h]
theorem jw{v:Value}{p:List Value}(h:kU v=some p):v=.agg ⟨p⟩:=by
 cases v<;>simp[kU]at h<;>simp[←h]
theorem UO{v:Value}{p:List Value}(h:PR v=some p):v=.tuple ⟨p⟩:=by
 cases v<;>simp[PR]at h<;>simp[←h]
theorem Nt{v:Value}{p:TypeId×Value}(h:vE v=some p):v=.iface p.1 p.2:=by
 cases v<;>simp[vE]at h<;>simp[←h]
theorem EK{f:Fn}{g:FuncId}(h:Uw f=some g):f=.func g:=by
 cases f<;>simp[Uw]at h<;>simp[h]
section inv
variable{m:Mp}
theorem VR.of_bool{b:Bool}{v:Value}(h:VR m (.bool b) v):v=.bool b:=by cases h;rfl
theorem VR.of_int{k:IntKind}{n:Int}{v:Value}(h:VR m (.int k n) v):v=.int k n:=by cases h;rfl
theorem VR.jU{b:ByteArray}{v:Value}(h:VR m (.string b) v):v=.string b:=by cases h;rfl
theorem VR.lG{x:List Value}{v:Value}(h:VR m (.agg ⟨x⟩) v):∃x',v=.agg ⟨x'⟩∧dh m x x':=by
 cases h with
 |sc _ h=>simp[Ae.eH]at h
 |agg _ x' h=>exact⟨x',rfl,h⟩
theorem VR.EL{x:List Value}{v:Value}(h:VR m (.tuple ⟨x⟩) v):∃x',v=.tuple ⟨x'⟩∧dh m x x':=by
 cases h with
 |sc _ h=>simp[Ae.eH]at h
 |tuple _ x' h=>exact⟨x',rfl,h⟩
theorem VR.GA{t:TypeId}{x v:Value}(h:VR m (.iface t x) v):∃x',v=.iface t x'∧VR m x x':=by
 cases h with
 |sc _ h=>simp[Ae.eH]at h
 |iface _ _ x' h=>exact⟨x',rfl,h⟩
theorem VR.P_{f:Fn}{x y:List Value}{v:Value}(h:VR m (.func f ⟨x⟩ ⟨y⟩) v):∃x' y',v=.func f ⟨x'⟩ ⟨y'⟩∧dh m x x'∧dh m y y':=by
 cases h with
 |sc _ h=>simp[Ae.eH]at h
 |func _ _ _ x' y' hx hy=>exact⟨x',y',rfl,hx,hy⟩
theorem VR.i_{a:Addr}{v:Value}(h:VR m (.pointer (some a)) v):∃l,m a.block=some l∧l.lo≤a.off∧a.spot=none∧v=.pointer (some ⟨l.c,l.base +(a.off -l.lo),none⟩):=by
 cases h with
 |sc _ h=>simp[Ae.eH,aJ]at h
 |ptr r off l h hl=>exact⟨l,h,hl,rfl,rfl⟩
theorem VR.of_map{r:Nat}{v:Value}(h:VR m (.map (some r)) v):∃l,m r=some l∧v=.map (some l.c):=by
 cases h with
 |sc _ h=>simp[Ae.eH,aJ]at h
 |map r l h=>exact⟨l,h,rfl⟩
theorem VR.jy{v v':Value}(h:VR m v v')(hs:eH v=true):v'=v:=by
 cases h<;>first|rfl|(simp[Ae.eH,aJ,Ae.top]at hs)
theorem dh.jy{x x':List Value}(h:dh m x x')(hs:x.all Ae.eH=true):x'=x:=by
 induction x generalizing x' with
 |nil=>cases h;rfl
 |cons w x ih=>cases h with
  |cons _ w' _ x' h hx=>simp at hs;rw[VR.jy h hs.1,ih hx (by simpa using hs.2)]
theorem VR.aU{v v':Value}(h:VR m v v')(hs:aU v=true):v'.cells=#[v']∧(∀x,v'≠.agg x)∧(∀x,v'≠.tuple x):=by
 cases h<;>first
  |(rename_i hv;cases v<;>simp[Ae.aU,Value.cells]at hs⊢)
  |(simp[Value.cells];done)
  |(simp[Ae.aU,Ae.top]at hs;done)
end inv
end Go.Ae
namespace Go.Ae
theorem Yl{d:TypeDesc}{e:TypeId}(h:dSl d=some e):d=.slice e:=by cases d<;>simp[dSl]at h;rw[h]
theorem Ao{d:TypeDesc}{e:TypeId}(h:wR d=some e):d=.pointer e:=by cases d<;>simp[wR]at h;rw[h]
theorem EM{d:TypeDesc}{e:Nat×TypeId}(h:Gs d=some e):d=.array e.1 e.2:=by cases d<;>simp[Gs]at h;rw[←h]
theorem UQ{d:TypeDesc}{e:TypeId×TypeId}(h:Yg d=some e):d=.map e.1 e.2:=by cases d<;>simp[Yg]at h;rw[←h]
theorem Jy{d:TypeDesc}{e:List Field}(h:EA d=some e):d=.struct ⟨e⟩:=by cases d<;>simp[EA]at h;rw[←h]
theorem wW{d:TypeDesc}(h:rH d=true):d=.string:=by cases d<;>simp[rH]at h;rfl
theorem LA{d:TypeDesc}{k:IntKind}(h:C5 d=some k):d=.int k:=by cases d<;>simp[C5]at h;rw[h]
theorem Nu{d:TypeDesc}{k:FloatKind}(h:yj d=some k):d=.float k:=by cases d<;>simp[yj]at h;rw[h]
theorem UR{k:IntKind}(h:AU k=true):k=.u8:=by cases k<;>simp[AU]at h;rfl
theorem pR{k k':IntKind}(h:Nat.beq (ig k) (ig k')=true):k=k':=by cases k<;>cases k'<;>first|rfl|cases h
theorem iF{P:Program}{t:TypeId}{s:Nat}(h:ku P t=some s):∃i,P.info? t=some i∧i.size=s:=by
 (replace h:=ah h;obtain⟨i,hi,h⟩:=h);cases h;exact⟨i,hi,rfl⟩
theorem pG{P:Program}{t:TypeId}{q:TypeId×Nat}(h:Gg P t=some q):P.underlying t=some (.slice q.1)∧(∃i,P.info? q.1=some i∧i.size=q.2)∧1≤q.2:=by
 (replace h:=ah h;obtain⟨d,hd,h⟩:=h)
 (replace h:=ah h;obtain⟨e,he,h⟩:=h)
 (replace h:=ah h;obtain⟨s,hs,h⟩:=h)
 (replace h:=aH h;obtain⟨h1,h⟩:=h)
 cases h
 exact⟨by rw[hd,Yl he],iF hs,Nat.le_of_ble_eq_true h1⟩
theorem Ap{P:Program}{t:TypeId}{q:Nat×TypeId×Nat}(h:Gt P t=some q):P.underlying t=some (.array q.1 q.2.1)∧(∃i,P.info? q.2.1=some i∧i.size=q.2.2)∧1≤q.2.2:=by
 (replace h:=ah h;obtain⟨d,hd,h⟩:=h)
 (replace h:=ah h;obtain⟨e,he,h⟩:=h)
 (replace h:=ah h;obtain⟨s,hs,h⟩:=h)
 (replace h:=aH h;obtain⟨h1,h⟩:=h)
 cases h
 exact⟨by rw[hd,EM he],iF hs,Nat.le_of_ble_eq_true h1⟩
theorem wX{P:Program}{t:TypeId}{q:TypeId×TypeId}(h:qz P t=some q):P.underlying t=some (.map q.1 q.2):=by
 (replace h:=ah h;obtain⟨d,hd,h⟩:=h)
 rw[hd,UQ h]
theorem yA{P:Program}{t:TypeId}(h:vF P t=true):P.underlying t=some .string:=by
 unfold vF at h
 cases hd:P.underlying t with
 |none=>rw[hd]at h;cases h
 |some d=>rw[hd]at h;rw[wW h]
theorem GD{P:Program}{t:TypeId}(h:ze P t=true):P.underlying t=some (.int .u8):=by
 unfold ze at h
 cases hd:P.underlying t with
 |none=>rw[hd]at h;cases h
 |some d=>
  rw[hd]at h
  cases hk:C5 d with
  |none=>simp[hk]at h
  |some k=>simp[hk]at h;rw[LA hk,UR h]
theorem Jz{P:Program}{t:TypeId}{l:Option Nat}(h:Ps P t=some l):
 ∃d i,P.underlying t=some d∧P.info? t=some i∧((Jr d=true∧l=some i.size)∨(Jr d=false∧l=none)):=by
 (replace h:=ah h;obtain⟨d,hd,h⟩:=h)
 (replace h:=ah h;obtain⟨s,hs,h⟩:=h)
 obtain⟨i,hi,rfl⟩:=iF hs
 refine⟨d,i,hd,hi,?_⟩
 cases ha:Jr d<;>simp[ha,av]at h<;>simp[←h]
theorem vK{P:Program}{t:TypeId}{fs:List Field}(h:Ak P t=some fs):P.underlying t=some (.struct ⟨fs⟩):=by
 (replace h:=ah h;obtain⟨d,hd,h⟩:=h)
 rw[hd,Jy h]
theorem DJ{P:Program}{t:TypeId}{f:Nat}{q:Nat×Option Nat}(h:Js P t f=some q):
 ∃fs fd i,P.underlying t=some (.struct ⟨fs⟩)∧fs[f]?=some fd∧fd.offset=q.1∧Ps P fd.type=some q.2∧P.info? fd.type=some i∧1≤i.size:=by
 (replace h:=ah h;obtain⟨fs,hfs,h⟩:=h)
 (replace h:=ah h;obtain⟨fd,hfd,h⟩:=h)
 (replace h:=ah h;obtain⟨l,hl,h⟩:=h)
 (replace h:=ah h;obtain⟨s,hs,h⟩:=h)
 (replace h:=aH h;obtain⟨h1,h⟩:=h)
 cases h
 obtain⟨i,hi,rfl⟩:=iF hs
 exact⟨fs,fd,i,vK hfs,by rw[←fC];exact hfd,rfl,hl,hi,Nat.le_of_ble_eq_true h1⟩
theorem EN{z:Value}(h:yl z=true):(ay z).all eH=true:=by
 unfold yl at h
 unfold ay
 cases ha:kU z with
 |none=>rw[ha]at h;simpa using h
 |some l=>rw[ha]at h;simpa [all_eq]using h
theorem Nv{m:Mp}{z:Value}(h:yl z=true):VR m z z:=by
 unfold yl at h
 cases ha:kU z with
 |none=>rw[ha]at h;exact .sc z h
 |some l=>
  rw[ha]at h
  rw[jw ha]
  exact .agg _ _ (dh.eH (by simpa [all_eq]using h))
theorem GG{P:Program}{t:TypeId}{z:Value}(h:uW P t=some z):(∃i,P.info? t=some i∧i.zero=some z)∧yl z=true:=by
 (replace h:=ah h;obtain⟨i,hi,h⟩:=h)
 (replace h:=ah h;obtain⟨z',hz,h⟩:=h)
 (replace h:=aH h;obtain⟨h1,h⟩:=h)
 cases h
 exact⟨⟨i,hi,hz⟩,h1⟩
theorem uA(v:Value):ay v=v.cells.toList:=by
 cases v<;>simp[ay,kU,Value.cells]
theorem nG{P:Program}{t:TypeId}{zs:List Value}(h:pz P t=some zs):
 ∃i z,P.info? t=some i∧i.zero=some z∧zs=z.cells.toList∧zs.length=i.size∧zs.all eH=true:=by
 (replace h:=ah h;obtain⟨z,hz,h⟩:=h)
 (replace h:=ah h;obtain⟨s,hs,h⟩:=h)
 (replace h:=aH h;obtain⟨h1,h⟩:=h)
 cases h
 obtain⟨i,hi,rfl⟩:=iF hs
 obtain⟨⟨i',hi',hz'⟩,hok⟩:=GG hz
 rw[hi]at hi';cases hi'
 simp only[aO]at h1
 exact⟨i,z,hi,hz',uA z,Nat.eq_of_beq_eq_true h1,EN hok⟩
section run
variable{P:Program}{w:World}
theorem aD{t:TypeId}{d:TypeDesc}(h:P.underlying t=some d):(underlying t).run P w=.ok d w:=by simp[underlying,h]
theorem nU{t:TypeId}{i:TypeInfo}(h:P.info? t=some i):(typeInfo t).run P w=.ok i w:=by simp[typeInfo,h]
theorem bM{t:TypeId}{i:TypeInfo}(h:P.info? t=some i):(sizeOf t).run P w=.ok i.size w:=by simp[sizeOf,nU h]
theorem nV{t:TypeId}{i:TypeInfo}{z:Value}(h:P.info? t=some i)(hz:i.zero=some z):(zeroValue t).run P w=.ok z w:=by simp[zeroValue,nU h,hz]
theorem lH{t:TypeId}{d:TypeDesc}(h:P.underlying t=some d):(isAgg t).run P w=.ok (Jr d) w:=by
 simp only[isAgg,Sem.run_bind,aD h,Result.andThen_ok]
 cases d<;>rfl
end run
section ops
variable{P:Program}{m:Mp}
theorem LB{l:Option Nat}{t:TypeId}{cs cs':List Value}{off:Nat}{v:Value}(h:apart l cs off=some v)(hl:Ps P t=some l)(hc:dh m cs cs'):
 ∃v',VR m v v'∧∀w,(part t ⟨cs'⟩ off).run P w=.ok v' w:=by
 obtain⟨d,i,hd,hi,hk⟩:=Jz hl
 rcases hk with⟨ha,rfl⟩|⟨ha,rfl⟩
 ·(replace h:=aH h;obtain⟨h1,h⟩:=h)
  cases h
  refine⟨.agg ⟨(cs'.drop off).take i.size⟩,?_,fun w=>?_⟩
  ·rw[yZ,Dz];exact .agg _ _ ((hc.drop off).take _)
  ·simp only[part,Sem.run_bind,lH hd,ha,Result.andThen_ok,if_true,bM hi,Sem.run_pure]
   simp[yZ,Dz,List.take_drop]
 ·simp only[apart,fC]at h
  obtain⟨v',hv',hr⟩:=hc.get off h
  refine⟨v',hr,fun w=>?_⟩
  simp[part,lH hd,ha,hv']
theorem o6{n es:Nat}(h:aY n=true):n≠aT es:=by
 intro e;rw[e]at h
 have:=Nat.le_of_ble_eq_true h
 unfold aT at this
 simp at this
 omega
theorem VR.of_slice{a:Addr}{n cp:Nat}{v:Value}(h:VR m (.slice (some a) n cp) v):
 (∃l cc,m a.block=some l∧l.lo≤a.off∧a.spot=none∧v=.slice (some ⟨l.c,l.base +(a.off -l.lo),none⟩) n cc∧
  ((aY cp=true∧cc=cp∧n≤cp)∨(∃es,cp=aT es∧0<es∧l.base +(a.off -l.lo) +cc*es=l.tot∧n≤cc∧l.n≤a.off +cc*es)))∨
 (∃a',n=0∧(cp=0∨∃es l,cp=aT es∧m a.block=some l∧l.lo≤a.off∧0<es∧l.n≤a.off∧a.spot=none)∧v=.slice (some a') 0 0):=by
 cases h with
 |sc _ h=>simp[Ae.eH,aJ]at h
 |slice r off n cp l h hl hk hn=>exact .inl ⟨l,cp,h,hl,rfl,rfl,.inl ⟨hk,rfl,hn⟩⟩
 |jm r off n es cc l h hl he ht hc hN=>exact .inl ⟨l,cc,h,hl,rfl,rfl,.inr ⟨es,rfl,he,ht,hc,hN⟩⟩
 |lF a a'=>exact .inr ⟨a',rfl,.inl rfl,rfl⟩
 |jv r off es a' l h hl he hN=>exact .inr ⟨a',rfl,.inr ⟨es,l,rfl,h,hl,he,hN,rfl⟩,rfl⟩
theorem VR.jo{n cp:Nat}{v:Value}(h:VR m (.slice none n cp) v):n=0∧cp=0∧v=.slice none 0 0:=by
 cases h with
 |sc _ h=>
  simp[Ae.eH,aJ]at h
  obtain⟨h1,h2⟩:=h
  exact⟨h1,h2,by rw[h1,h2]⟩
theorem EO(m:Mp)(r off k:Nat)(l:Loc)(h:m r=some l)(hl:l.lo≤off):
 VR m (.pointer (some ⟨r,off +k,none⟩)) (.pointer (some ((⟨l.c,l.base +(off -l.lo),none⟩:Addr).add k))):=by
 have he:(⟨l.c,l.base +(off -l.lo),none⟩:Addr).add k=⟨l.c,l.base +(off +k -l.lo),none⟩:=by
  unfold Addr.add
  split
  ·next h0=>rw[h0,Nat.add_zero]
  ·congr 1;show l.base +(off -l.lo) +k=_;omega
 rw[he]
 exact .ptr r (off +k) l h (by omega)
theorem EP{t:TypeId}{x i v x' i':Value}(h:iN P t x i=some v)(hx:VR m x x')(hi:VR m i i'):
 ∃v',VR m v v'∧∀w,(Instr.indexAt t x' i').run P w=.ok v' w:=by
 (replace h:=ah h;obtain⟨k,hk,h⟩:=h)
 obtain⟨kk,rfl⟩:=uz hk
 have:=hi.of_int;subst this
 cases hs:Gg P t with
 |some q=>
  rw[hs]at h
  obtain⟨hu,⟨inf,jI,hsz⟩,h1⟩:=pG hs
  (replace h:=ah h;obtain⟨p,hp,h⟩:=h)
  (replace h:=ah h;obtain⟨a,ha,h⟩:=h)
  (replace h:=aH h;obtain⟨hlt,h⟩:=h)
  cases h
  have hlt:=Nat.le_of_ble_eq_true hlt
  rw[kF hp,ha]at hx
  rcases hx.of_slice with⟨l,cc,hm,hl,hsp,rfl,_⟩|⟨a',h0,_,_⟩
  ·refine⟨_,EO m a.block a.off (k*q.2) l hm hl,fun w=>?_⟩
   have h2:k<p.2.1:=hlt
   simp[Instr.indexAt,asIntOf,aD hu,bM jI,hsz,h2]
  ·omega
 |none=>
  rw[hs]at h
  (replace h:=ah h;obtain⟨q,hq,h⟩:=h)
  obtain⟨hu,⟨inf,jI,hsz⟩,h1⟩:=Ap hq
  (replace h:=ah h;obtain⟨a,ha,h⟩:=h)
  (replace h:=aH h;obtain⟨hlt,h⟩:=h)
  cases h
  have hlt:=Nat.le_of_ble_eq_true hlt
  rw[fI ha]at hx
  obtain⟨l,hm,hl,hsp,rfl⟩:=hx.i_
  refine⟨_,EO m a.block a.off (k*q.2.2) l hm hl,fun w=>?_⟩
  have h2:k<q.1:=hlt
  simp[Instr.indexAt,Instr.sureAddr,asIntOf,aD hu,bM jI,hsz,h2]
theorem Qa{t:TypeId}{x i v x' i':Value}(h:r_ P t x i=some v)(hx:VR m x x')(hi:VR m i i'):
 ∃v',VR m v v'∧∀w,(Instr.index t x' i').run P w=.ok v' w:=by
 (replace h:=ah h;obtain⟨k,hk,h⟩:=h)
 obtain⟨kk,rfl⟩:=uz hk
 have:=hi.of_int;subst this
 cases hs:vF P t with
 |true=>
  rw[hs]at h
  have hu:=yA hs
  (replace h:=ah h;obtain⟨s,hp,h⟩:=h)
  (replace h:=ah h;obtain⟨b,hb,h⟩:=h)
  cases h
  rw[fJ hp]at hx
  have:=hx.jU;subst this
  rw[fC]at hb
  refine⟨.int .u8 b.toNat,.sc _ rfl,fun w=>?_⟩
  have hb':s[k]?=some b:=by
   rw[←hb]
   obtain⟨hlt,heq⟩:=List.getElem?_eq_some_iff.1 hb
   have hlt':k<s.size:=hlt
   rw[getElem?_pos s k hlt']
   simp[hb,←heq];rfl
  simp[Instr.index,asIntOf,aD hu,hb']
 |false=>
  rw[hs]at h
  (replace h:=ah h;obtain⟨q,hq,h⟩:=h)
  (replace h:=ah h;obtain⟨cs,hcs,h⟩:=h)
  (replace h:=ah h;obtain⟨l,hl,h⟩:=h)
  (replace h:=aH h;obtain⟨hlt,h⟩:=h)
  obtain⟨hu,⟨inf,jI,hsz⟩,h1⟩:=Ap hq
  have hlt:=Nat.le_of_ble_eq_true hlt
  rw[jw hcs]at hx
  obtain⟨cs',rfl,hc⟩:=hx.lG
  obtain⟨v',hv',hr⟩:=LB h hl hc
  refine⟨v',hv',fun w=>?_⟩
  have h2:k<q.1:=hlt
  have:=hr w
  simp only[Nat.mul_eq]at this
  simp[Instr.index,asIntOf,aD hu,bM jI,hsz,h2,this]
theorem ER{t:TypeId}{x v x':Value}{f:Nat}(h:iO P t x f=some v)(hx:VR m x x'):
 ∃v',VR m v v'∧∀w,(Instr.fieldAt t x' f).run P w=.ok v' w:=by
 (replace h:=ah h;obtain⟨a,ha,h⟩:=h)
 (replace h:=ah h;obtain⟨q,hq,h⟩:=h)
 cases h
 obtain⟨fs,fd,i,hu,hfd,ho,hl,hi,h1⟩:=DJ hq
 rw[fI ha]at hx
 obtain⟨l,hm,hlo,hsp,rfl⟩:=hx.i_
 refine⟨_,EO m a.block a.off q.1 l hm hlo,fun w=>?_⟩
 have h2:i.size≠0:=by omega
 simp[Instr.fieldAt,aD hu,hfd,Instr.sureAddr,fieldPlace,bM hi,h2,ho]
theorem Qb{t:TypeId}{x v x':Value}{f:Nat}(h:si P t x f=some v)(hx:VR m x x'):
 ∃v',VR m v v'∧∀w,(Instr.field t x' f).run P w=.ok v' w:=by
 (replace h:=ah h;obtain⟨cs,ha,h⟩:=h)
 (replace h:=ah h;obtain⟨q,hq,h⟩:=h)
 obtain⟨fs,fd,i,hu,hfd,ho,hl,hi,h1⟩:=DJ hq
 rw[jw ha]at hx
 obtain⟨cs',rfl,hc⟩:=hx.lG
 obtain⟨v',hv',hr⟩:=LB h hl hc
 refine⟨v',hv',fun w=>?_⟩
 have:=hr w
 simp[Instr.field,aD hu,hfd,asAgg,ho,this]
end ops
end Go.Ae
namespace Go.Ae
section ops
variable{P:Program}{m:Mp}
theorem nW{s:Sem Value}{v:Value}(h:bP s=some v):eH v=true∧∀w,s.run P w=.ok v w:=by
 cases s<;>simp only[bP]at h
 case pure u=>
  (replace h:=aH h;obtain⟨h1,h⟩:=h)
  cases h
  exact⟨h1,fun w=>rfl⟩
 all_goals cases h
theorem pI{β:Type}(b:Bool)(x y:β):av b x y=if b=true then x else y:=by cases b<;>rfl
theorem Nw(n:Int):fQ .i64 n=IntKind.i64.wrap n:=by
 cases n with
 |ofNat k=>
  have e:fQ .i64 (.ofNat k)=av (true&&Nat.ble k 9223372036854775807) (.ofNat k) (IntKind.i64.wrap (.ofNat k)):=rfl
  rw[e,pI]
  split
  ·next hb=>
   simp only[Bool.true_and]at hb
   have:=Nat.le_of_ble_eq_true hb
   exact(IntWalk.i64_in _ (by simp;omega)).symm
  ·simp only[]
 |negSucc k=>
  have e:fQ .i64 (.negSucc k)=av (true&&Nat.ble k 9223372036854775807) (.negSucc k) (IntKind.i64.wrap (.negSucc k)):=rfl
  rw[e,pI]
  split
  ·next hb=>
   simp only[Bool.true_and]at hb
   have:=Nat.le_of_ble_eq_true hb
   exact(IntWalk.i64_in _ (by omega)).symm
  ·simp only[]
theorem wY(k:IntKind)(n:Int):fQ k n=k.wrap n:=by
 cases k
 case i64=>exact Nw n
 all_goals cases n<;>simp[fQ,uV,pI]
theorem JA(a b:Int):C6 a b=decide (a<b):=by
 rw[Bool.eq_iff_iff]
 cases a<;>cases b<;>simp[C6,Nat.ble_eq]<;>omega
theorem Bf(a b:Int):Gu a b=(a==b):=by
 rw[Bool.eq_iff_iff]
 cases a<;>cases b<;>simp[Gu,Nat.beq_eq]<;>omega
theorem Bg(a b:Bool):qw a b=(a==b):=by cases a<;>cases b<;>rfl
theorem Ny:∀(a b:List Nat),AX a b=(a==b):=by
 intro a
 induction a with
 |nil=>intro b;cases b<;>rfl
 |cons x a ih=>
  intro b
  cases b with
  |nil=>rfl
  |cons y b=>
   show av (Nat.beq x y) (AX a b) false=_
   rw[ih,List.cons_beq_cons,pI]
   by_cases hxy:x=y
   ·subst hxy;simp
   ·have:Nat.beq x y=false:=by rw[←Bool.not_eq_true,Nat.beq_eq];exact hxy
    simp[this,hxy]
theorem US(a b:List UInt8):(UM a==UM b)=(a==b):=by
 rw[Bool.eq_iff_iff]
 simp only[UM,wP,beq_iff_eq]
 constructor
 ·intro h
  exact(List.map_inj_right (fun x y h=>UInt8.toNat_inj.1 h)).1 h
 ·intro h;rw[h]
theorem nX(a b:ByteArray):iJ a b=(a.toList==b.toList):=by
 unfold iJ
 rw[Ny,US,ByteArray.toList_eq,ByteArray.toList_eq]
theorem Qc(a b:ByteArray):strLt a b=Op.bytesLess a.toList b.toList:=by
 unfold strLt
 rw[ByteArray.toList_eq,ByteArray.toList_eq]
theorem UT{op:BinOp}{k:IntKind}{a b:Int}{v:Value}{t:TypeId}(h:Np op k a b=some v):eH v=true∧∀w,(binOp op t (.int k a) (.int k b)).run P w=.ok v w:=by
 have ps:∀(o:BinOp)(s:Sem Value),bP s=some v→binOp o t (.int k a) (.int k b)=s→eH v=true∧∀w,(binOp o t (.int k a) (.int k b)).run P w=.ok v w:=by
  intro o s h1 h2;rw[h2];exact nW h1
 cases op<;>simp only[Np]at h
 case quo=>exact ps _ _ h (by simp[binOp])
 case rem=>exact ps _ _ h (by simp[binOp])
 case and=>exact ps _ _ h (by simp[binOp])
 case or=>exact ps _ _ h (by simp[binOp])
 case xor=>exact ps _ _ h (by simp[binOp])
 case andNot=>exact ps _ _ h (by simp[binOp])
 case shl=>cases h
 case shr=>cases h
 all_goals
  cases h
  refine⟨rfl,fun w=>?_⟩
  simp[binOp,Op.intArith,Op.intCmp,wY,JA,Bf]
 case leq=>rw[Bool.eq_iff_iff];simp
 case geq=>rw[Bool.eq_iff_iff];simp
 all_goals rfl
theorem UU{op:BinOp}{a b:ByteArray}{v:Value}{t:TypeId}(h:UN op a b=some v):eH v=true∧∀w,(binOp op t (.string a) (.string b)).run P w=.ok v w:=by
 cases op<;>simp only[UN]at h
 case add=>
  simp only[PT]at h
  (replace h:=aH h;obtain⟨h1,h⟩:=h)
  cases h
  refine⟨rfl,fun w=>?_⟩
  have h2:=Nat.le_of_ble_eq_true h1
  simp only[aO]at h2
  have h3:¬(((a.size +b.size:Nat):Int)>IntKind.i64.max):=by
   have e1:a.size=a.data.toList.length:=rfl
   have e2:b.size=b.data.toList.length:=rfl
   have e3:IntKind.i64.max=9223372036854775807:=by decide
   have h4:a.data.toList.length +b.data.toList.length≤4611686018427387904:=h2
   rw[e1,e2,e3];omega
  have h5:a++b=⟨⟨app a.data.toList b.data.toList⟩⟩:=by
   rw[iY]
   apply ByteArray.ext
   simp[ByteArray.data_append]
  simp only[binOp,Op.stringOp]
  rw[if_neg h3,h5];rfl
 all_goals first
  |cases h;done
  |(cases h
    refine⟨rfl,fun w=>?_⟩
    simp[binOp,Op.stringOp,nX,Qc])
theorem Nz{op:BinOp}{t:TypeId}{x y v x' y':Value}(h:Jt op t x y=some v)(hx:VR m x x')(hy:VR m y y'):
 VR m v v∧∀w,(binOp op t x' y').run P w=.ok v w:=by
 (replace h:=aH h;obtain⟨h1,h⟩:=h)
 simp only[Bool.and_eq_true]at h1
 have hsx:eH x=true:=by
  have:=Nat.le_of_ble_eq_true h1.1
  cases x<;>simp[lu]at this<;>rfl
 have hsy:eH y=true:=by
  have h2:=Nat.eq_of_beq_eq_true h1.2
  have:=Nat.le_of_ble_eq_true h1.1
  rw[h2]at this
  cases y<;>simp[lu]at this<;>rfl
 rw[hx.jy hsx,hy.jy hsy]
 obtain⟨a,b⟩:=nW (P:=P) h
 exact⟨.sc v a,b⟩
theorem pU{d:TypeDesc}{x y x' y':Value}{b:Bool}{t:TypeId}(hd:P.underlying t=some d)(h:lq (jr d) x y=some b)(hx:VR m x x')(hy:VR m y y'):
 x'=x∧y'=y∧∀n w,(Op.equalIn (n +1) t x' y').run P w=.ok b w:=by
 cases d<;>simp only[jr]at h
 case int k=>
  have h:(ai (jg x) fun a=>ai (jg y) fun b=>gd (Nat.beq (ig a.1) (ig b.1)) (some (Gu a.2 b.2)))=some b:=h
  (replace h:=ah h;obtain⟨p,hp,h⟩:=h)
  (replace h:=ah h;obtain⟨q,hq,h⟩:=h)
  (replace h:=aH h;obtain⟨hk,h⟩:=h)
  cases h
  have e1:=gN hp
  have e2:=gN hq
  have hk:=pR hk
  rw[e1]at hx;rw[e2]at hy
  have hx:=hx.of_int
  have hy:=hy.of_int
  refine⟨by rw[hx,e1],by rw[hy,e2],fun n w=>?_⟩
  rw[hx,hy,hk,run_equalIn_int w n t _ k _ _ hd,Bf]
 case bool=>
  have h:(ai (bK x) fun a=>ai (bK y) fun b=>some (qw a b))=some b:=h
  (replace h:=ah h;obtain⟨p,hp,h⟩:=h)
  (replace h:=ah h;obtain⟨q,hq,h⟩:=h)
  cases h
  have e1:=gm hp
  have e2:=gm hq
  rw[e1]at hx;rw[e2]at hy
  have hx:=hx.of_bool
  have hy:=hy.of_bool
  refine⟨by rw[hx,e1],by rw[hy,e2],fun n w=>?_⟩
  rw[hx,hy,run_equalIn_bool' w n t _ _ hd,Bg]
 case string=>
  have h:(ai (jh x) fun a=>ai (jh y) fun b=>some (iJ a b))=some b:=h
  (replace h:=ah h;obtain⟨p,hp,h⟩:=h)
  (replace h:=ah h;obtain⟨q,hq,h⟩:=h)
  cases h
  have e1:=fJ hp
  have e2:=fJ hq
  rw[e1]at hx;rw[e2]at hy
  have hx:=hx.jU
  have hy:=hy.jU
  refine⟨by rw[hx,e1],by rw[hy,e2],fun n w=>?_⟩
  rw[hx,hy,run_equalIn_string w n t _ _ hd,nX]
 all_goals cases h
end ops
end Go.Ae
namespace Go.Ae
section ops
variable{P:Program}{m:Mp}
theorem pV{d:TypeDesc}(h:1≤jr d):Jr d=false:=by cases d<;>first|rfl|simp[jr]at h
theorem jR{f:Field}{fs:List Field}{k:Nat}{ks:List Nat}(h:iM P (f::fs) k=some ks):
 ∃d r,P.underlying f.type=some d∧iM P fs (k +1)=some r∧f.offset=k∧f.name≠ "_" ∧1≤jr d∧ks=jr d::r:=by
 have h:(ai (P.underlying f.type) fun d=>ai (iM P fs (k +1)) fun r=>gd (Nat.beq f.offset k&&!(f.name== "_")&&Nat.ble 1 (jr d)) (some (jr d::r)))=some ks:=h
 (replace h:=ah h;obtain⟨d,hd,h⟩:=h)
 (replace h:=ah h;obtain⟨r,hr,h⟩:=h)
 (replace h:=aH h;obtain⟨hg,h⟩:=h)
 cases h
 simp only[Bool.and_eq_true,Bool.not_eq_true',beq_eq_false_iff_ne]at hg
 exact⟨d,r,hd,hr,Nat.eq_of_beq_eq_true hg.1.1,hg.1.2,Nat.le_of_ble_eq_true hg.2,rfl⟩
theorem mW{k:Nat}{ks:List Nat}{xs ys:List Value}{b:Bool}(h:iD (k::ks) xs ys=some b):
 ∃x xr y yr c,xs=x::xr∧ys=y::yr∧lq k x y=some c∧((c=true∧iD ks xr yr=some b)∨(c=false∧b=false)):=by
 cases xs with
 |nil=>cases h
 |cons x xr=>cases ys with
  |nil=>cases h
  |cons y yr=>
   have h:(ai (lq k x y) fun c=>av c (iD ks xr yr) (some false))=some b:=h
   (replace h:=ah h;obtain⟨c,hc,h⟩:=h)
   cases c
   ·cases h;exact⟨x,xr,y,yr,false,rfl,rfl,hc,.inr ⟨rfl,rfl⟩⟩
   ·exact⟨x,xr,y,yr,true,rfl,rfl,hc,.inl ⟨rfl,h⟩⟩
theorem nH{t:TypeId}{d:TypeDesc}{cs:List Value}{off:Nat}{v:Value}{w:World}(hd:P.underlying t=some d)(ha:Jr d=false)(hv:cs[off]?=some v):
 (part t ⟨cs⟩ off).run P w=.ok v w:=by
 simp[part,lH hd,ha,hv]
theorem GH:∀(fs:List Field)(k:Nat)(ks:List Nat)(xs ys X' Y':List Value)(b:Bool),iM P fs k=some ks→iD ks xs ys=some b→
 dh m xs (X'.drop k)→dh m ys (Y'.drop k)→∀n w,(Op.eqFields (n +1) ⟨X'⟩ ⟨Y'⟩ fs).run P w=.ok b w:=by
 intro fs
 induction fs with
 |nil=>
  intro k ks xs ys X' Y' b hk hc hx hy n w
  cases hk
  cases xs with
  |nil=>cases ys with
   |nil=>cases hc;rfl
   |cons _ _=>cases hc
  |cons _ _=>cases hc
 |cons f fs ih=>
  intro k ks xs ys X' Y' b hk hc hx hy n w
  obtain⟨d,r,hd,hr,ho,hn,h1,rfl⟩:=jR hk
  obtain⟨x,xr,y,yr,c,rfl,rfl,hce,hcase⟩:=mW hc
  generalize hX:X'.drop k=X1 at hx
  generalize hY:Y'.drop k=Y1 at hy
  cases hx with
  |cons _ x' _ xr' hxv rM=>
   cases hy with
   |cons _ y' _ yr' hyv Qd=>
    have gx:X'[k]?=some x':=by
     have:=congrArg (·[0]?) hX;simpa using this
    have gy:Y'[k]?=some y':=by
     have:=congrArg (·[0]?) hY;simpa using this
    have dx:X'.drop (k +1)=xr':=by rw[←List.drop_drop,hX];rfl
    have dy:Y'.drop (k +1)=yr':=by rw[←List.drop_drop,hY];rfl
    obtain⟨ex,ey,he⟩:=pU (t:=f.type) hd hce hxv hyv
    have p1:=nH (w:=w) hd (pV h1) gx
    have p2:=nH (w:=w) hd (pV h1) gy
    rw[←ho]at p1 p2
    simp only[Op.eqFields,hn,ne_eq,not_false_eq_true,if_true,Sem.run_bind,p1,p2,Result.andThen_ok,he n w,Sem.run_ite,Sem.run_pure]
    rcases hcase with⟨rfl,hrest⟩|⟨rfl,rfl⟩
    ·simp only[Bool.not_true,Bool.false_eq_true,if_false]
     exact ih (k +1) r xr yr X' Y' b hr hrest (by rw[dx];exact rM) (by rw[dy];exact Qd) n w
    ·simp
theorem Qf{α:Type}(x:α)(n:Nat):PV x n=List.replicate n x:=by
 induction n with
 |zero=>rfl
 |succ n ih=>exact congrArg (x::·) ih
theorem JB{e:TypeId}{d:TypeDesc}(hd:P.underlying e=some d)(h1:1≤jr d)(hs:P.cellsOf e=1):∀(c k:Nat)(xs ys X' Y':List Value)(b:Bool),
 iD (List.replicate c (jr d)) xs ys=some b→dh m xs (X'.drop k)→dh m ys (Y'.drop k)→
 ∀n w,(Op.eqItems (n +1) e (P.cellsOf e) ⟨X'⟩ ⟨Y'⟩ (List.range' k c)).run P w=.ok b w:=by
 intro c
 induction c with
 |zero=>
  intro k xs ys X' Y' b hc hx hy n w
  cases xs with
  |nil=>cases ys with
   |nil=>cases hc;rfl
   |cons _ _=>cases hc
  |cons _ _=>cases hc
 |succ c ih=>
  intro k xs ys X' Y' b hc hx hy n w
  obtain⟨x,xr,y,yr,q,rfl,rfl,hce,hcase⟩:=mW hc
  generalize hX:X'.drop k=X1 at hx
  generalize hY:Y'.drop k=Y1 at hy
  cases hx with
  |cons _ x' _ xr' hxv rM=>
   cases hy with
   |cons _ y' _ yr' hyv Qd=>
    have gx:X'[k]?=some x':=by
     have:=congrArg (·[0]?) hX;simpa using this
    have gy:Y'[k]?=some y':=by
     have:=congrArg (·[0]?) hY;simpa using this
    have dx:X'.drop (k +1)=xr':=by rw[←List.drop_drop,hX];rfl
    have dy:Y'.drop (k +1)=yr':=by rw[←List.drop_drop,hY];rfl
    obtain⟨ex,ey,he⟩:=pU (t:=e) hd hce hxv hyv
    have p1:=nH (w:=w) hd (pV h1) gx
    have p2:=nH (w:=w) hd (pV h1) gy
    rw[List.range'_succ]
    simp only[Op.eqItems,Sem.run_bind,hs,Nat.mul_one,p1,p2,Result.andThen_ok,he n w,Sem.run_ite,Sem.run_pure]
    rcases hcase with⟨rfl,hrest⟩|⟨rfl,rfl⟩
    ·simp only[Bool.not_true,Bool.false_eq_true,if_false]
     have:=ih (k +1) xr yr X' Y' b hrest (by rw[dx];exact rM) (by rw[dy];exact Qd) n w
     rw[hs]at this
     exact this
    ·simp
theorem NA{α:Type}{o q:Option α}{r:α}(h:orElse' o q=some r):o=some r∨(o=none∧q=some r):=by
 cases o with
 |none=>exact .inr ⟨rfl,h⟩
 |some x=>exact .inl h
theorem yB{t:TypeId}{q:Sum Nat (List Nat)}(h:Yh P t=some q):
 (∃d,P.underlying t=some d∧q=.inl (jr d)∧1≤jr d)∨
 (∃fs ks,P.underlying t=some (.struct ⟨fs⟩)∧P.stoodInHeld t=false∧iM P fs 0=some ks∧q=.inr ks)∨
 (∃n e d i,P.underlying t=some (.array n e)∧P.underlying e=some d∧P.info? e=some i∧i.size=1∧1≤jr d∧q=.inr (List.replicate n (jr d))):=by
 (replace h:=ah h;obtain⟨d,hd,h⟩:=h)
 cases hb:Nat.ble 1 (jr d)with
 |true=>rw[hb]at h;cases h;exact .inl ⟨d,hd,rfl,Nat.le_of_ble_eq_true hb⟩
 |false=>
  rw[hb]at h
  have h:(ai (orElse' (Gv P t) (WK P t)) fun l=>some (Sum.inr l))=some q:=h
  (replace h:=ah h;obtain⟨l,hl,h⟩:=h)
  cases h
  rcases NA hl with hs|⟨_,ha⟩
  ·right;left
   have h:=hs
   (replace h:=ah h;obtain⟨fs,hfs,h⟩:=h)
   (replace h:=aH h;obtain⟨hg,h⟩:=h)
   exact⟨fs,l,vK hfs,by simpa using hg,h,rfl⟩
  ·right;right
   have h:=ha
   (replace h:=ah h;obtain⟨d',hd',h⟩:=h)
   (replace h:=ah h;obtain⟨a,ha',h⟩:=h)
   (replace h:=ah h;obtain⟨e,he,h⟩:=h)
   (replace h:=ah h;obtain⟨s,hs,h⟩:=h)
   (replace h:=aH h;obtain⟨hg,h⟩:=h)
   cases h
   obtain⟨i,hi,rfl⟩:=iF hs
   simp only[Bool.and_eq_true]at hg
   exact⟨a.1,a.2,e,i,by rw[hd',EM ha'],he,hi,Nat.eq_of_beq_eq_true hg.1,Nat.le_of_ble_eq_true hg.2,by rw[Qf]⟩
theorem JC{e:TypeId}{i:TypeInfo}(h:P.info? e=some i):P.cellsOf e=i.size:=by simp[Program.cellsOf,h]
theorem Qg{t:TypeId}{x y x' y':Value}{b:Bool}(h:ik P t x y=some b)(hx:VR m x x')(hy:VR m y y'):
 ∀n w,(Op.equalIn (n +2) t x' y').run P w=.ok b w:=by
 intro n w
 (replace h:=ah h;obtain⟨q,hq,h⟩:=h)
 rcases yB hq with⟨d,hd,rfl,h1⟩|⟨fs,ks,hu,hs,hk,rfl⟩|⟨c,e,d,i,hu,he,hi,hsz,h1,rfl⟩
 ·have h:lq (jr d) x y=some b:=h
  exact(pU hd h hx hy).2.2 (n +1) w
 ·have h:(ai (kU x) fun a=>ai (kU y) fun b=>iD ks a b)=some b:=h
  (replace h:=ah h;obtain⟨xs,hxs,h⟩:=h)
  (replace h:=ah h;obtain⟨ys,hys,h⟩:=h)
  rw[jw hxs]at hx
  rw[jw hys]at hy
  obtain⟨xs',rfl,rM⟩:=hx.lG
  obtain⟨ys',rfl,Qd⟩:=hy.lG
  have hf:P.fieldsOf t=⟨fs⟩:=by simp[Program.fieldsOf,hu]
  rw[run_equalIn_struct w (n +1) t _ _ (by rw[hf];exact hu) hs,hf]
  exact GH fs 0 ks xs ys xs' ys' b hk h (by simpa using rM) (by simpa using Qd) n w
 ·have h:(ai (kU x) fun a=>ai (kU y) fun b=>iD (List.replicate c (jr d)) a b)=some b:=h
  (replace h:=ah h;obtain⟨xs,hxs,h⟩:=h)
  (replace h:=ah h;obtain⟨ys,hys,h⟩:=h)
  rw[jw hxs]at hx
  rw[jw hys]at hy
  obtain⟨xs',rfl,rM⟩:=hx.lG
  obtain⟨ys',rfl,Qd⟩:=hy.lG
  rw[run_equalIn_array w (n +1) _ _ hu hi,List.range_eq_range']
  exact JB he h1 (by rw[JC hi,hsz]) c 0 xs ys xs' ys' b h (by simpa using rM) (by simpa using Qd) n w
theorem Bh{t:TypeId}{x y x' y':Value}{b:Bool}(h:ik P t x y=some b)(hx:VR m x x')(hy:VR m y y')(w:World):
 (Op.equal t x' y').run P w=.ok b w:=by
 have:=Qg h hx hy 9998 w
 exact this
end ops
end Go.Ae
namespace Go.Ae
section ops
variable{P:Program}{m:Mp}
theorem yC{d:TypeDesc}(h:1≤jr d):(∃k,d=.int k)∨d=.bool∨d=.string:=by
 cases d<;>first|exact .inl ⟨_,rfl⟩|exact .inr (.inl rfl)|exact .inr (.inr rfl)|simp[jr]at h
theorem Bi{t:TypeId}{d:TypeDesc}(hd:P.underlying t=some d)(h:1≤jr d)(n:Nat):P.eqGuardType (n +1) t=false:=by
 unfold Program.eqGuardType
 rw[hd]
 rcases yC h with⟨k,rfl⟩|rfl|rfl<;>rfl
theorem NB:∀(fs:List Field)(k:Nat)(ks:List Nat),iM P fs k=some ks→∀n,fs.any (fun f=>f.name != "_" &&P.eqGuardType (n +1) f.type)=false:=by
 intro fs
 induction fs with
 |nil=>intros;rfl
 |cons f fs ih=>
  intro k ks hk n
  obtain⟨d,r,hd,hr,ho,hn,h1,rfl⟩:=jR hk
  simp only[List.any_cons,ih _ _ hr n,Bool.or_false,Bi hd h1 n,Bool.and_false]
theorem UW{t:TypeId}{q:Sum Nat (List Nat)}(h:Yh P t=some q):P.eqGuardType P.depth t=false:=by
 obtain⟨D,hD⟩:∃D,P.depth=D +2:=⟨_,rfl⟩
 rw[hD]
 rcases yB h with⟨d,hd,rfl,h1⟩|⟨fs,ks,hu,hs,hk,rfl⟩|⟨c,e,d,i,hu,he,hi,hsz,h1,rfl⟩
 ·exact Bi hd h1 (D +1)
 ·unfold Program.eqGuardType
  rw[hu]
  have:=NB fs 0 ks hk D
  simpa using this
 ·unfold Program.eqGuardType
  rw[hu]
  exact Bi he h1 D
theorem VR.iL{x x':Value}(h:VR m x x')(h1:1≤(Ae.iL x).1):Ae.iL x'=Ae.iL x:=by
 cases h<;>first|rfl|(simp[Ae.iL,Ae.top]at h1)
theorem vL{x:Value}(h:1≤(iL x).1):
 (∃a,x=.pointer a∧iL x=(1,a.isNone))∨(∃a l c,x=.slice a l c∧iL x=(2,a.isNone))∨(∃r,x=.map r∧iL x=(3,r.isNone))∨
 (∃f y z,x=.func f y z∧iL x=(4,false))∨(x=.nilFunc∧iL x=(4,true))∨(∃t v,x=.iface t v∧iL x=(5,false))∨(x=.nilIface∧iL x=(5,true)):=by
 cases x<;>simp[iL]at h⊢
 case pointer a=>cases a<;>rfl
 case slice a l c=>cases a<;>rfl
 case map a=>cases a<;>rfl
theorem JD{d:TypeDesc}(h:1≤l7 d):(∃e,d=.pointer e∧l7 d=1)∨(∃e,d=.slice e∧l7 d=2)∨(∃k e,d=.map k e∧l7 d=3)∨(∃p r v,d=.func p r v∧l7 d=4)∨(∃ms,d=.interface ms∧l7 d=5):=by
 cases d<;>simp[l7]at h⊢
set_option maxHeartbeats 2000000 in
theorem NC{t:TypeId}{x y:Value}{k:Nat}{b:Bool}(ht:ym P t=k)(h1:1≤k)(hx:iL x=(k,b))(hy:iL y=(k,true))(w:World):
 (Op.equal t x y).run P w=.ok b w∧(Op.equal t y x).run P w=.ok b w:=by
 unfold ym at ht
 cases hu:P.underlying t with
 |none=>rw[hu]at ht;simp at ht;omega
 |some d=>
  rw[hu]at ht
  have ht:l7 d=k:=ht
  have hx1:1≤(iL x).1:=by rw[hx];exact h1
  have hy1:1≤(iL y).1:=by rw[hy];exact h1
  have hd1:1≤l7 d:=by omega
  rcases JD hd1 with⟨e,rfl,hk⟩|⟨e,rfl,hk⟩|⟨kk,e,rfl,hk⟩|⟨p,r,v,rfl,hk⟩|⟨ms,rfl,hk⟩<;>
  rcases vL hx1 with⟨a,rfl,hxa⟩|⟨a,l,c,rfl,hxa⟩|⟨a,rfl,hxa⟩|⟨f,q,z,rfl,hxa⟩|⟨rfl,hxa⟩|⟨tt,v,rfl,hxa⟩|⟨rfl,hxa⟩<;>
  (rw[hxa]at hx;rw[Prod.mk.injEq]at hx;obtain⟨hx2,hx3⟩:=hx)<;>try(exfalso;omega)
  all_goals
   rcases vL hy1 with⟨a',rfl,hya⟩|⟨a',l',c',rfl,hya⟩|⟨a',rfl,hya⟩|⟨f',q',z',rfl,hya⟩|⟨rfl,hya⟩|⟨tt',v',rfl,hya⟩|⟨rfl,hya⟩<;>
   (rw[hya]at hy;rw[Prod.mk.injEq]at hy;obtain⟨hy2,hy3⟩:=hy)<;>try(exfalso;omega)
  all_goals first|cases hy3;done|skip
  all_goals try(cases a'<;>simp at hy3)
  all_goals try(cases a)
  all_goals
   subst hx3
   constructor<;>(refine(?_:∀n,(Op.equalIn (n +1) _ _ _).run P w=_) 9999;intro n;simp only[Op.equalIn,Sem.run_bind,aD hu,Result.andThen_ok,Sem.run_pure];(try rfl))
theorem Qh{t:TypeId}{x y x' y':Value}{b:Bool}(ht:yo P t=true)(h:ptrEq x y=some b)(hx:VR m x x')(hy:VR m y y')(w:World):
 (Op.equal t x' y').run P w=.ok b w∧(∃a a',x'=.pointer (some a)∧y'=.pointer (some a')):=by
 (replace h:=ah h;obtain⟨a,ha,h⟩:=h)
 (replace h:=ah h;obtain⟨c,hc,h⟩:=h)
 (replace h:=aH h;obtain⟨hg,h⟩:=h)
 cases h
 rw[fI ha]at hx
 rw[fI hc]at hy
 obtain⟨l,hm,hlo,hsp,rfl⟩:=hx.i_
 obtain⟨l',hm',aag,adl,rfl⟩:=hy.i_
 have hb:=Nat.eq_of_beq_eq_true hg
 rw[hb,hm']at hm
 cases hm
 have hsz:∃e i,P.underlying t=some (.pointer e)∧P.info? e=some i∧1≤i.size:=by
  unfold yo at ht
  cases hq:(ai (P.underlying t) fun d=>ai (wR d) fun e=>ai (ku P e) fun s=>gd (Nat.ble 1 s) (some ()))with
  |none=>rw[hq]at ht;cases ht
  |some u=>
   have h:=hq
   (replace h:=ah h;obtain⟨d,hd,h⟩:=h)
   (replace h:=ah h;obtain⟨e,he,h⟩:=h)
   (replace h:=ah h;obtain⟨s,hs,h⟩:=h)
   (replace h:=aH h;obtain⟨h1,h⟩:=h)
   obtain⟨i,hi,rfl⟩:=iF hs
   exact⟨e,i,by rw[hd,Ao he],hi,Nat.le_of_ble_eq_true h1⟩
 obtain⟨e,i,hu,hi,h1⟩:=hsz
 refine⟨?_,_,_,rfl,rfl⟩
 have hne:i.size≠0:=by omega
 refine(?_:∀n,(Op.equalIn (n +1) _ _ _).run P w=_) 9999
 intro n
 simp only[Op.equalIn,Sem.run_bind,aD hu,Result.andThen_ok,bM hi,ne_eq,hne,not_false_eq_true,if_true,sameAddr,BEq.rfl,Sem.run_ite,Sem.run_pure]
 congr 1
 rw[Bool.eq_iff_iff]
 simp only[beq_iff_eq,Addr.mk.injEq,and_true,true_and]
 rw[show(Nat.beq a.off c.off=true)=(a.off=c.off)from by simp[Nat.beq_eq]]
 omega
theorem binOp_eql{t:TypeId}{x y:Value}{b:Bool}{w:World}(h:(Op.equal t x y).run P w=.ok b w)
 (hn:∀k n,x≠.int k n)(hf:∀k n,x≠.float k n)(hc:∀k n q,x≠.complex k n q)(hs:∀s,x≠.string s):
 (binOp .eql t x y).run P w=.ok (.bool b) w∧(binOp .neq t x y).run P w=.ok (.bool (!b)) w:=by
 have e1:binOp .eql t x y=(do pure (.bool (←Op.equal t x y))):=by
  cases x<;>first|rfl|(exfalso;first|exact hn _ _ rfl|exact hf _ _ rfl|exact hc _ _ _ rfl|exact hs _ rfl)
 have e2:binOp .neq t x y=(do pure (.bool (!(←Op.equal t x y)))):=by
  cases x<;>first|rfl|(exfalso;first|exact hn _ _ rfl|exact hf _ _ rfl|exact hc _ _ _ rfl|exact hs _ rfl)
 rw[e1,e2]
 simp[h]
end ops
end Go.Ae
namespace Go.Ae
section ops
variable{P:Program}{m:Mp}
theorem lY{o:Operand}(h:ji o=true):∃v,o=.const v∧(iL v).2=true:=by
 cases o<;>simp[ji]at h;exact⟨_,rfl,h⟩
theorem fK{op:BinOp}{t:TypeId}{ox oy:Operand}{x y:Value}(w:World)(h:ji ox=true∨ji oy=true∨x≠.nilIface∨y≠.nilIface)
 (h2:(∀c,x≠.agg c)∨(∀c,y≠.agg c)∨P.eqGuardType P.depth t=false):(eqGuard op t ox oy x y).run P w=.ok () w:=by
 by_cases hop:op=.eql∨op=.neq
 ·by_cases hagg:∃c c',x=.agg c∧y=.agg c'
  ·obtain⟨c,c',rfl,rfl⟩:=hagg
   rcases h2 with h2|h2|h2
   ·exact absurd rfl (h2 c)
   ·exact absurd rfl (h2 c')
   ·exact run_eqGuard_agg w op t ox oy c c' h2
  ·by_cases hnil:x=.nilIface∧y=.nilIface
   ·obtain⟨rfl,rfl⟩:=hnil
    have hc:(∃v,ox=.const v)∨∃v,oy=.const v:=by
     rcases h with h|h|h|h
     ·obtain⟨v,rfl,_⟩:=lY h;exact .inl ⟨_,rfl⟩
     ·obtain⟨v,rfl,_⟩:=lY h;exact .inr ⟨_,rfl⟩
     ·exact absurd rfl h
     ·exact absurd rfl h
    rcases hc with⟨v,rfl⟩|⟨v,rfl⟩
    ·rcases hop with rfl|rfl<;>rfl
    ·rcases hop with rfl|rfl<;>cases ox<;>rfl
   ·rcases hop with rfl|rfl<;>cases x<;>first
     |rfl
     |(cases y<;>first|rfl|(exfalso;exact hagg ⟨_,_,rfl,rfl⟩)|(exfalso;exact hnil ⟨rfl,rfl⟩))
 ·cases op<;>first|rfl|(exfalso;exact hop (.inl rfl))|(exfalso;exact hop (.inr rfl))
theorem LC{op:BinOp}{t:TypeId}{ox oy:Operand}{x c x' c':Value}{b:Bool}(h:DC (ym P t) c x=some b)(hx:VR m x x')(hc:VR m c c')(hn:(iL c).2=true)(w:World):
 (Op.equal t x' c').run P w=.ok b w∧(Op.equal t c' x').run P w=.ok b w∧(∀q,x'≠.agg q)∧1≤(iL x').1∧1≤(iL c').1:=by
 (replace h:=aH h;obtain⟨hg,h⟩:=h)
 cases h
 simp only[Bool.and_eq_true]at hg
 have h1:=Nat.le_of_ble_eq_true hg.1.1
 have h2:=Nat.eq_of_beq_eq_true hg.1.2
 have h3:=Nat.eq_of_beq_eq_true hg.2
 have ex:=hx.iL (by omega)
 have ec:=hc.iL (by omega)
 have DK:iL x'=(ym P t,(iL x).2):=by rw[ex,←h2]
 have hcc:iL c'=(ym P t,true):=by rw[ec,←h3,←hn]
 have:=NC rfl h1 DK hcc w
 refine⟨this.1,this.2,?_,by rw[DK];exact h1,by rw[hcc];exact h1⟩
 intro q hq
 rw[hq]at DK;simp[iL]at DK;omega
def DL(x:Value):Prop:=(∀k n,x≠.int k n)∧(∀k n,x≠.float k n)∧(∀k n q,x≠.complex k n q)∧∀s,x≠.string s
theorem DN{x:Value}(h:1≤(iL x).1):DL x:=by
 refine⟨?_,?_,?_,?_⟩<;>(intros;intro e;rw[e]at h;simp[iL]at h)
theorem Ym{op:BinOp}{t:TypeId}{ox oy:Operand}{x y x' y':Value}{b:Bool}(h:Ux P t ox oy x y=some b)(hx:VR m x x')(hy:VR m y y')
 (hox:∀c,ox=.const c→x=c)(hoy:∀c,oy=.const c→y=c)(hxo:jg x=none∧jh x=none∧lu x=0)(w:World):
 (Op.equal t x' y').run P w=.ok b w∧(eqGuard op t ox oy x' y').run P w=.ok () w∧DL x':=by
 unfold Ux at h
 cases hcy:ji oy with
 |true=>
  rw[hcy]at h
  obtain⟨v,hv,hn⟩:=lY hcy
  have:=hoy v hv;subst this
  obtain⟨h1,h2,h3,h4,h5⟩:=LC (op:=op) (ox:=ox) (oy:=oy) h hx hy hn w
  exact⟨h1,fK w (.inr (.inl hcy)) (.inl h3),DN h4⟩
 |false=>
  rw[hcy]at h
  cases hcx:ji ox with
  |true=>
   rw[hcx]at h
   obtain⟨v,hv,hn⟩:=lY hcx
   have:=hox v hv;subst this
   obtain⟨h1,h2,h3,h4,h5⟩:=LC (op:=op) (ox:=ox) (oy:=oy) h hy hx hn w
   exact⟨h2,fK w (.inl hcx) (.inr (.inl h3)),DN h5⟩
  |false=>
   rw[hcx]at h
   cases hp:yo P t with
   |true=>
    rw[hp]at h
    obtain⟨h1,a,a',rfl,rfl⟩:=Qh hp h hx hy w
    exact⟨h1,fK w (.inr (.inr (.inl (by simp)))) (.inl (by simp)),by simp[DL]⟩
   |false=>
    rw[hp]at h
    have h:ik P t x y=some b:=h
    have h1:=Bh h hx hy w
    have hv:=h
    (replace h:=ah h;obtain⟨q,hq,h⟩:=h)
    have hng:=UW hq
    rcases yB hq with⟨d,hd,rfl,hk⟩|⟨fs,ks,hu,hs,hk,rfl⟩|⟨c,e,d,i,hu,he,hi,hsz,hk,rfl⟩
    ·have h:lq (jr d) x y=some b:=h
     obtain⟨ex,ey,_⟩:=pU (t:=t) hd h hx hy
     subst ex;subst ey
     have aah:∃z,x'=.bool z:=by
      rcases yC hk with⟨k,rfl⟩|rfl|rfl
      ·have h:(ai (jg x') fun a=>ai (jg y') fun b=>gd (Nat.beq (ig a.1) (ig b.1)) (some (Gu a.2 b.2)))=some b:=h
       rw[hxo.1]at h;cases h
      ·have h:(ai (bK x') fun a=>ai (bK y') fun b=>some (qw a b))=some b:=h
       (replace h:=ah h;obtain⟨p,hp,h⟩:=h)
       exact⟨p,gm hp⟩
      ·have h:(ai (jh x') fun a=>ai (jh y') fun b=>some (iJ a b))=some b:=h
       rw[hxo.2.1]at h;cases h
     obtain⟨z,rfl⟩:=aah
     exact⟨h1,fK w (.inr (.inr (.inl (by simp)))) (.inl (by simp)),by simp[DL]⟩
    ·have h:(ai (kU x) fun a=>ai (kU y) fun b=>iD ks a b)=some b:=h
     (replace h:=ah h;obtain⟨xs,hxs,h⟩:=h)
     rw[jw hxs]at hx
     obtain⟨xs',rfl,rM⟩:=hx.lG
     exact⟨h1,fK w (.inr (.inr (.inl (by simp)))) (.inr (.inr hng)),by simp[DL]⟩
    ·have h:(ai (kU x) fun a=>ai (kU y) fun b=>iD (List.replicate c (jr d)) a b)=some b:=h
     (replace h:=ah h;obtain⟨xs,hxs,h⟩:=h)
     rw[jw hxs]at hx
     obtain⟨xs',rfl,rM⟩:=hx.lG
     exact⟨h1,fK w (.inr (.inr (.inl (by simp)))) (.inr (.inr hng)),by simp[DL]⟩
theorem jA{op:BinOp}{t:TypeId}{ox oy:Operand}{x y v:Value}{w:World}(h1:(eqGuard op t ox oy x y).run P w=.ok () w)(h2:(binOp op t x y).run P w=.ok v w):
 (do eqGuard op t ox oy x y;binOp op t x y:Sem Value).run P w=.ok v w:=by
 simp[h1,h2]
theorem Yn{op:BinOp}{t:TypeId}{ox oy:Operand}{x y x' y' v:Value}(h:eG P op t ox oy x y=some v)(hx:VR m x x')(hy:VR m y y')
 (hox:∀c,ox=.const c→x=c)(hoy:∀c,oy=.const c→y=c):
 VR m v v∧∀w,(do eqGuard op t ox oy x' y';binOp op t x' y':Sem Value).run P w=.ok v w:=by
 unfold eG at h
 cases hi:jg x with
 |some a=>
  rw[hi]at h
  have hxe:=gN hi
  rw[hxe]at hx
  have hx:=hx.of_int
  have g:∀w,(eqGuard op t ox oy x' y').run P w=.ok () w:=fun w=>fK w (.inr (.inr (.inl (by rw[hx];simp)))) (.inl (by rw[hx];simp))
  cases hsh:Al op with
  |true=>
   rw[hsh]at h
   have h:PW op t x y=some v:=h
   (replace h:=ah h;obtain⟨p,hp,h⟩:=h)
   (replace h:=ah h;obtain⟨q,hq,h⟩:=h)
   have hye:=gN hq
   rw[hye]at hy
   have hy:=hy.of_int
   obtain⟨hs,hr⟩:=nW (P:=P) h
   refine⟨.sc _ hs,fun w=>jA (g w) ?_⟩
   rw[hx,hy,←hxe,←hye]
   exact hr w
  |false=>
   rw[hsh]at h
   have h:(ai (jg y) fun b=>gd (Nat.beq (ig a.1) (ig b.1)) (Np op a.1 a.2 b.2))=some v:=h
   (replace h:=ah h;obtain⟨q,hq,h⟩:=h)
   (replace h:=aH h;obtain⟨hk,h⟩:=h)
   have hye:=gN hq
   rw[hye]at hy
   have hy:=hy.of_int
   have hk:=pR hk
   obtain⟨hs,hr⟩:=UT (P:=P) (t:=t) h
   refine⟨.sc _ hs,fun w=>jA (g w) ?_⟩
   rw[hx,hy,←hk]
   exact hr w
 |none=>
  rw[hi]at h
  cases hst:jh x with
  |some a=>
   rw[hst]at h
   have h:(ai (jh y) fun b=>UN op a b)=some v:=h
   (replace h:=ah h;obtain⟨b,hb,h⟩:=h)
   have hxe:=fJ hst
   have hye:=fJ hb
   rw[hxe]at hx;rw[hye]at hy
   have hx:=hx.jU
   have hy:=hy.jU
   obtain⟨hs,hr⟩:=UU (P:=P) (t:=t) h
   refine⟨.sc _ hs,fun w=>jA (fK w (.inr (.inr (.inl (by rw[hx];simp)))) (.inl (by rw[hx];simp))) ?_⟩
   rw[hx,hy]
   exact hr w
  |none=>
   rw[hst]at h
   cases ND:Nat.ble 1 (lu x)with
   |true=>
    rw[ND]at h
    have h:Jt op t x y=some v:=h
    have h0:=h
    obtain⟨hv,hr⟩:=Nz (P:=P) h hx hy
    have hsx:eH x=true:=by
     have:=Nat.le_of_ble_eq_true ND
     cases x<;>simp[lu]at this<;>rfl
    have hx:=hx.jy hsx
    have hne:(x'≠.nilIface)∧∀c,x'≠.agg c:=by
     rw[hx]
     have:=Nat.le_of_ble_eq_true ND
     constructor
     ·intro e;rw[e]at this;simp[lu]at this
     ·intro c e;rw[e]at this;simp[lu]at this
    exact⟨hv,fun w=>jA (fK w (.inr (.inr (.inl hne.1))) (.inl hne.2)) (hr w)⟩
   |false=>
    rw[ND]at h
    have h:uX op (Ux P t ox oy x y)=some v:=h
    have hz:lu x=0:=by
     rcases Nat.eq_zero_or_pos (lu x)with h0|h0
     ·exact h0
     ·rw[Nat.ble_eq_true_of_le h0]at ND;cases ND
    have key:∀b,Ux P t ox oy x y=some b→∀w,(eqGuard op t ox oy x' y').run P w=.ok () w∧(binOp .eql t x' y').run P w=.ok (.bool b) w∧(binOp .neq t x' y').run P w=.ok (.bool (!b)) w:=by
     intro b hb w
     obtain⟨h1,h2,h3,h4,h5,h6⟩:=Ym (op:=op) hb hx hy hox hoy ⟨hi,hst,hz⟩ w
     exact⟨h2,binOp_eql h1 h3 h4 h5 h6⟩
    cases op<;>simp only[uX,nR]at h
    case eql=>
     have h:(ai (Ux P t ox oy x y) fun b=>some (Value.bool b))=some v:=h
     (replace h:=ah h;obtain⟨b,hb,h⟩:=h)
     cases h
     exact⟨.sc _ rfl,fun w=>jA (key b hb w).1 (key b hb w).2.1⟩
    case neq=>
     have h:(ai (Ux P t ox oy x y) fun b=>some (Value.bool (!b)))=some v:=h
     (replace h:=ah h;obtain⟨b,hb,h⟩:=h)
     cases h
     exact⟨.sc _ rfl,fun w=>jA (key b hb w).1 (key b hb w).2.2⟩
    all_goals cases h
end ops
end Go.Ae
namespace Go.Ae
section ops
variable{P:Program}{m:Mp}
theorem UX{c a b v c' a' b':Value}(h:AY c a b=some v)(hc:VR m c c')(ha:VR m a a')(hb:VR m b b'):
 ∃v',VR m v v'∧∀w,(do pure (if←asBool c' then a' else b'):Sem Value).run P w=.ok v' w:=by
 (replace h:=ah h;obtain⟨t,ht,h⟩:=h)
 cases h
 rw[gm ht]at hc
 have:=hc.of_bool;subst this
 cases t
 ·exact⟨b',hb,fun w=>by simp[asBool]⟩
 ·exact⟨a',ha,fun w=>by simp[asBool]⟩
theorem UY{op:UnOp}{x v x':Value}(h:bP (Op.unary op x)=some v)(hx:VR m x x'):VR m v v∧∀w,(Op.unary op x').run P w=.ok v w:=by
 obtain⟨hs,hr⟩:=nW (P:=P) h
 have:x'=x:=by
  apply hx.jy
  cases x<;>first|rfl|(exfalso;cases op<;>simp[Op.unary,bP,stuck]at h;done)|skip
  case pointer a=>cases a<;>first|rfl|(exfalso;cases op<;>simp[Op.unary,bP,stuck,unsupported]at h)
 subst this
 exact⟨.sc _ hs,hr⟩
theorem UZ{s d:TypeId}{x v x':Value}(h:uY P s d x=some v)(hx:VR m x x'):VR m v v∧∀w,(convert s d x').run P w=.ok v w:=by
 (replace h:=ah h;obtain⟨ds,hds,h⟩:=h)
 (replace h:=ah h;obtain⟨dd,hdd,h⟩:=h)
 cases hi:jg x with
 |some a=>
  rw[hi]at h
  have hxe:=gN hi
  rw[hxe]at hx
  have hx:=hx.of_int;subst hx
  cases hk:C5 dd with
  |some k=>
   replace h:(@Option.rec IntKind (fun _=>Option Value) (av (rH dd) (some (.string (Utf8.encode a.2))) (ai (yj dd) fun k=>bP (Conv.intToFloat k a.2))) (fun k=>some (.int k (fQ k a.2))) (C5 dd))=some v:=h
   rw[hk]at h
   cases h
   have:=LA hk;subst this
   exact⟨.sc _ rfl,fun w=>by simp[convert,aD hds,aD hdd,Conv.intToInt,wY]⟩
  |none=>
   replace h:(@Option.rec IntKind (fun _=>Option Value) (av (rH dd) (some (.string (Utf8.encode a.2))) (ai (yj dd) fun k=>bP (Conv.intToFloat k a.2))) (fun k=>some (.int k (fQ k a.2))) (C5 dd))=some v:=h
   rw[hk]at h
   cases hs:rH dd with
   |true=>
    rw[hs]at h
    cases h
    have:=wW hs;subst this
    exact⟨.sc _ rfl,fun w=>by simp[convert,aD hds,aD hdd,Conv.intToString]⟩
   |false=>
    rw[hs]at h
    replace h:(ai (yj dd) fun k=>bP (Conv.intToFloat k a.2))=some v:=h
    (replace h:=ah h;obtain⟨k,hf,h⟩:=h)
    have:=Nu hf;subst this
    obtain⟨hs,hr⟩:=nW (P:=P) h
    exact⟨.sc _ hs,fun w=>by simp[convert,aD hds,aD hdd,hr]⟩
 |none=>
  rw[hi]at h
  replace h:(ai (jh x) fun b=>gd (rH dd) (some (.string b)))=some v:=h
  (replace h:=ah h;obtain⟨b,hb,h⟩:=h)
  (replace h:=aH h;obtain⟨hg,h⟩:=h)
  cases h
  rw[fJ hb]at hx
  have hx:=hx.jU;subst hx
  have:=wW hg;subst this
  refine⟨.sc _ rfl,fun w=>?_⟩
  cases ds<;>simp[convert,aD hds,aD hdd]
theorem Yo{t:TypeId}{x v x':Value}(h:Jv P t x=some v)(hx:VR m x x'):∃v',VR m v v'∧∀w,(Instr.makeInterface t x').run P w=.ok v' w:=by
 (replace h:=ah h;obtain⟨d,hd,h⟩:=h)
 (replace h:=aH h;obtain⟨hg,h⟩:=h)
 cases h
 refine⟨.iface t x',.iface t _ _ hx,fun w=>?_⟩
 cases d<;>simp[Instr.makeInterface,aD hd]<;>simp[PS]at hg
theorem JE{i:Nat}{x v x':Value}(h:l8 x i=some v)(hx:VR m x x'):∃v',VR m v v'∧∀w,(Instr.extract x' i).run P w=.ok v' w:=by
 (replace h:=ah h;obtain⟨l,hl,h⟩:=h)
 rw[UO hl]at hx
 obtain⟨l',rfl,hr⟩:=hx.EL
 rw[fC]at h
 obtain⟨v',hv',hvr⟩:=hr.get i h
 exact⟨v',hvr,fun w=>by simp[Instr.extract,hv']⟩
theorem GI{x v x':Value}(h:EC x=some v)(hx:VR m x x')(ρ:Operand→Value)(o:Oper)(xo:Operand)(ho:o.op=.nilCheck xo)(hρ:ρ xo=x'):
 VR m v x'∧∀w,(execOp ρ o).run P w=.ok (.value x') w:=by
 unfold EC at h
 cases hp:gJ x with
 |some a=>
  rw[hp]at h
  cases h
  refine⟨hx,fun w=>?_⟩
  rw[fI hp]at hx
  obtain⟨l,hm,hlo,hsp,rfl⟩:=hx.i_
  simp[execOp,ho,hρ]
 |none=>
  rw[hp]at h
  replace h:(ai (PO x) fun f=>ai (Uw f.1) fun _=>some x)=some v:=h
  (replace h:=ah h;obtain⟨f,hf,h⟩:=h)
  (replace h:=ah h;obtain⟨g,hg,h⟩:=h)
  cases h
  refine⟨hx,fun w=>?_⟩
  rw[EJ hf,EK hg]at hx
  obtain⟨x1,y1,rfl,_,_⟩:=hx.P_
  simp[execOp,ho,hρ]
theorem Yp{b:Bool}{x y v x' y':Value}(h:ZX b x y=some v)(hx:VR m x x')(hy:VR m y y'):
 VR m v v∧∀w,((if b then Builtin.max2 x' y' else Builtin.min2 x' y').run P w=.ok v w):=by
 (replace h:=ah h;obtain⟨p,hp,h⟩:=h)
 (replace h:=ah h;obtain⟨q,hq,h⟩:=h)
 (replace h:=aH h;obtain⟨hg,h⟩:=h)
 cases h
 have e1:=gN hp
 have e2:=gN hq
 rw[e1]at hx;rw[e2]at hy
 have hx:=hx.of_int
 have hy:=hy.of_int
 have hk:=pR hg
 subst hx;subst hy
 cases b
 ·have e:av (av false (C6 p.2 q.2) (C6 q.2 p.2)) y x=if q.2<p.2 then y else x:=by
   show av (C6 q.2 p.2) y x=_;rw[pI,JA];simp
  rw[e]
  split
  ·next hlt=>rw[e2];exact⟨.sc _ rfl,fun w=>by simp[Builtin.min2,hlt,hk]⟩
  ·next hlt=>rw[e1];exact⟨.sc _ rfl,fun w=>by simp[Builtin.min2,hlt]⟩
 ·have e:av (av true (C6 p.2 q.2) (C6 q.2 p.2)) y x=if p.2<q.2 then y else x:=by
   show av (C6 p.2 q.2) y x=_;rw[pI,JA];simp
  rw[e]
  split
  ·next hlt=>rw[e2];exact⟨.sc _ rfl,fun w=>by simp[Builtin.max2,hlt,hk]⟩
  ·next hlt=>rw[e1];exact⟨.sc _ rfl,fun w=>by simp[Builtin.max2,hlt]⟩
theorem Yq{b:Bool}:∀{l l':List Value}{x v x':Value},mmL b l x=some v→VR m x x'→dh m l l'→
 ∃v',VR m v v'∧∀w,((l'.foldlM (if b then Builtin.max2 else Builtin.min2) x':Sem Value).run P w=.ok v' w):=by
 intro l
 induction l with
 |nil=>
  intro l' x v x' h hx hl
  cases hl
  cases h
  exact⟨x',hx,fun w=>by simp⟩
 |cons y l ih=>
  intro l' x v x' h hx hl
  cases hl with
  |cons _ y' _ r' hy hr=>
   replace h:ai (ZX b x y) (mmL b l)=some v:=h
   (replace h:=ah h;obtain⟨z,hz,h⟩:=h)
   obtain⟨hzz,hrun⟩:=Yp (P:=P) hz hx hy
   obtain⟨v',hv,hrest⟩:=ih h hzz hr
   refine⟨v',hv,fun w=>?_⟩
   have h1:=hrun w
   cases b<;>simp at h1 hrest⊢<;>simp[h1,hrest]
theorem Qi{b:Bool}{args args':List Value}{v:Value}{ats:Array TypeId}{t:TypeId}(h:PX b args=some v)(ha:dh m args args'):
 ∃v',VR m v v'∧∀w,((if b then Builtin.max_ ats t ⟨args'⟩else Builtin.min_ ats t ⟨args'⟩).run P w=.ok v' w):=by
 cases ha with
 |nil=>cases h
 |cons x x' l l' hx hl=>
  replace h:mmL b l x=some v:=h
  obtain⟨v',hv,hr⟩:=Yq (P:=P) h hx hl
  refine⟨v',hv,fun w=>?_⟩
  have:=hr w
  cases b<;>simpa [Builtin.max_,Builtin.min_]using this
theorem Qj{f:TypeId→Value→Option Value}{ats:List TypeId}{args:List Value}{v:Value}(h:one f ats args=some v):∃t x,ats[0]?=some t∧args[0]?=some x∧f t x=some v:=by
 (replace h:=ah h;obtain⟨t,ht,h⟩:=h)
 (replace h:=ah h;obtain⟨x,hx,h⟩:=h)
 exact⟨t,x,by rw[←fC];exact ht,by rw[←fC];exact hx,h⟩
theorem U0{ats:List TypeId}{args args':List Value}{v:Value}{t:TypeId}(h:one (AZ P) ats args=some v)(ha:dh m args args'):
 VR m v v∧∀w,(Builtin.len_ ⟨ats⟩ t ⟨args'⟩).run P w=.ok v w:=by
 obtain⟨t,x,ht,hx,h⟩:=Qj h
 obtain⟨x',hx',rM⟩:=ha.get 0 hx
 (replace h:=ah h;obtain⟨d,hd,h⟩:=h)
 cases h1:rH d with
 |true=>
  rw[h1]at h
  have:=wW h1;subst this
  replace h:(ai (jh x) fun s=>some (Value.int .i64 (.ofNat (len s.data.toList))))=some v:=h
  (replace h:=ah h;obtain⟨s,hs,h⟩:=h)
  cases h
  rw[fJ hs]at rM
  have:=rM.jU;subst this
  refine⟨.sc _ rfl,fun w=>?_⟩
  simp[Builtin.len_,ht,hx',aD hd,goInt,aO]
 |false=>
  rw[h1]at h
  have h:(av (Nat.beq (l7 d) 2) (ai (y_ x) fun p=>some (.int .i64 (.ofNat p.2.1)))
   (av (Nat.beq (l7 d) 3) (ai (AQ x) fun r=>gd (aJ r) (some (.int .i64 0)))
    (ai (Gs d) fun a=>some (.int .i64 (.ofNat a.1)))))=some v:=h
  cases h2:Nat.beq (l7 d) 2 with
  |true=>
   rw[h2]at h
   replace h:(ai (y_ x) fun p=>some (Value.int .i64 (.ofNat p.2.1)))=some v:=h
   (replace h:=ah h;obtain⟨p,hp,h⟩:=h)
   cases h
   have e2:=Nat.eq_of_beq_eq_true h2
   have hdd:∃e,d=.slice e:=by cases d<;>simp[l7]at e2;exact⟨_,rfl⟩
   obtain⟨e,rfl⟩:=hdd
   rw[kF hp]at rM
   refine⟨.sc _ rfl,fun w=>?_⟩
   cases hpa:p.1 with
   |none=>
    rw[hpa]at rM
    obtain⟨e1,e2,rfl⟩:=rM.jo
    simp[Builtin.len_,ht,hx',aD hd,goInt,e1]
   |some a=>
    rw[hpa]at rM
    rcases rM.of_slice with⟨l,cc,_,_,_,rfl,_⟩|⟨a',e1,_,rfl⟩
    ·simp[Builtin.len_,ht,hx',aD hd,goInt]
    ·simp[Builtin.len_,ht,hx',aD hd,goInt,e1]
  |false=>
   rw[h2]at h
   have h:(av (Nat.beq (l7 d) 3) (ai (AQ x) fun r=>gd (aJ r) (some (.int .i64 0)))
    (ai (Gs d) fun a=>some (.int .i64 (.ofNat a.1))))=some v:=h
   cases h3:Nat.beq (l7 d) 3 with
   |true=>
    rw[h3]at h
    replace h:(ai (AQ x) fun r=>gd (aJ r) (some (Value.int .i64 0)))=some v:=h
    (replace h:=ah h;obtain⟨r,hr,h⟩:=h)
    (replace h:=aH h;obtain⟨hg,h⟩:=h)
    cases h
    have e3:=Nat.eq_of_beq_eq_true h3
    have hdd:∃k e,d=.map k e:=by cases d<;>simp[l7]at e3;exact⟨_,_,rfl⟩
    obtain⟨k,e,rfl⟩:=hdd
    cases r with
    |some _=>cases hg
    |none=>
     rw[qF hr]at rM
     have:=rM.jy rfl;subst this
     exact⟨.sc _ rfl,fun w=>by simp[Builtin.len_,ht,hx',aD hd,goInt]⟩
   |false=>
    rw[h3]at h
    replace h:(ai (Gs d) fun a=>some (Value.int .i64 (.ofNat a.1)))=some v:=h
    (replace h:=ah h;obtain⟨a,ha',h⟩:=h)
    cases h
    have:=EM ha';subst this
    exact⟨.sc _ rfl,fun w=>by simp[Builtin.len_,ht,hx',aD hd,goInt]⟩
theorem U1{ats:List TypeId}{args args':List Value}{v:Value}{t:TypeId}(h:one (Gx P) ats args=some v)(ha:dh m args args'):
 VR m v v∧∀w,(Builtin.cap_ ⟨ats⟩ t ⟨args'⟩).run P w=.ok v w:=by
 obtain⟨t,x,ht,hx,h⟩:=Qj h
 obtain⟨x',hx',rM⟩:=ha.get 0 hx
 (replace h:=ah h;obtain⟨q,hq,h⟩:=h)
 (replace h:=ah h;obtain⟨p,hp,h⟩:=h)
 (replace h:=aH h;obtain⟨hg,h⟩:=h)
 cases h
 obtain⟨hu,_,_⟩:=pG hq
 rw[kF hp]at rM
 refine⟨.sc _ rfl,fun w=>?_⟩
 cases hpa:p.1 with
 |none=>
  rw[hpa]at rM
  obtain⟨e1,e2,rfl⟩:=rM.jo
  simp[Builtin.cap_,ht,hx',aD hu,goInt,e2]
 |some a=>
  rw[hpa]at rM
  rcases rM.of_slice with⟨l,cc,_,_,_,rfl,⟨_,rfl,_⟩|⟨es,e1,_⟩⟩|⟨a',e1,e2|⟨es,_,e2,_⟩,rfl⟩
  ·simp[Builtin.cap_,ht,hx',aD hu,goInt]
  ·exact absurd e1 (o6 hg)
  ·simp[Builtin.cap_,ht,hx',aD hu,goInt,e2]
  ·exact absurd e2 (o6 hg)
end ops
end Go.Ae
