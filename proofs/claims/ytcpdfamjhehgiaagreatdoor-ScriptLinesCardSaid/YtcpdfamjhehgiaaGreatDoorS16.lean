/-
  Part 16 of the proof. No condition.
-/
import Derived.Test.YtcpdfamjhehgiaaGreatDoorS11
set_option linter.unusedVariables false
set_option linter.unusedSimpArgs false
set_option maxRecDepth 100000
set_option maxHeartbeats 8000000
noncomputable section
namespace Go.Ae
section mem
variable{P:Program}
theorem absH_cell{w:World}{T:Nat→Option bR}{r o:Nat}{v:Value}(hT:T r=none)(h:w.cell? ⟨r,o,none⟩=some v)(hs:dD v=true):r<w.heap.size∧(zO w T).cell r o=some v:=by
 unfold World.cell? at h
 cases hr:w.heap[r]? with
 |none=>simp[hr]at h
 |some ob=>
  have hlt:r<w.heap.size:=(Array.getElem?_eq_some_iff.1 hr).1
  refine⟨hlt,?_⟩
  cases ob with
  |cells cs ty fr=>
   simp[hr]at h
   have hi:o<cs.size:=(Array.getElem?_eq_some_iff.1 h).1
   unfold ag.cell
   rw[DX w T hlt]
   unfold Qb
   rw[hT,hr]
   show gd (Nat.ble (Nat.succ o) cs.size) (some ((Tr.iH top (cs.toList.map zN) 0 .nil).get top o))=_
   rw[Nat.ble_eq_true_of_le hi,lT,Tr.cz,if_pos (by simp;omega),List.getD_eq_getElem?_getD]
   have h2:cs[o]=v:=(Array.getElem?_eq_some_iff.1 h).2
   simp[hi,h2,zN,hs]
  |_=>simp[hr]at h
theorem absH_sl{w:World}{T:Nat→Option bR}{r o n c:Nat}(hr:r<w.heap.size)(hc:c≤9223372036854775807)(hn:n≤c):VR (rM w (zO w T)) (.slice (some ⟨r,o,none⟩) n c) (.slice (some ⟨r,o,none⟩) n c):=by
 have:=VR.slice (m:=rM w (zO w T)) r o n c ⟨r,0,0,pE w r,Vx ((zO w T).obj r)⟩ (by unfold rM;rw[if_pos (show r<(zO w T).next from hr)]) (Nat.zero_le _) (Nat.ble_eq_true_of_le hc) hn
 simpa using this
end mem
section steps
variable{S:List Nat}{H0 H:ag}{L L':List bF}{K:Value→ag→Prop}{r o n:Nat}{ty:TypeId}{cs:List Value}{v:Value}
end steps
section agg
variable{q:Option Value}{K:Value→Prop}{a b c d e f g h i:Value}
theorem PU.b6(hq:q=some (.agg ⟨[a,b,c,d,e,f]⟩))(k:K (.agg ⟨[a,b,c,d,e,f]⟩)):PU q K:=.of hq k
theorem PU.b7(hq:q=some (.agg ⟨[a,b,c,d,e,f,g]⟩))(k:K (.agg ⟨[a,b,c,d,e,f,g]⟩)):PU q K:=.of hq k
theorem PU.b8(hq:q=some (.agg ⟨[a,b,c,d,e,f,g,h]⟩))(k:K (.agg ⟨[a,b,c,d,e,f,g,h]⟩)):PU q K:=.of hq k
theorem PU.b9(hq:q=some (.agg ⟨[a,b,c,d,e,f,g,h,i]⟩))(k:K (.agg ⟨[a,b,c,d,e,f,g,h,i]⟩)):PU q K:=.of hq k
end agg
section steps
variable{S:List Nat}{H0 H:ag}{L L':List bF}{K:Value→ag→Prop}{r o n:Nat}{ty:TypeId}{cs:List Value}{v:Value}
end steps
end Go.Ae
