/-
  LeftNone: whatever text it is given, the call returns true; the listed package-level variables begin as the text of the program lays them.
-/
import Derived.Test.YtdkcdlnfeodaaaaGreatDoorX08
set_option linter.unusedVariables false
set_option linter.unusedSimpArgs false
set_option maxRecDepth 100000
set_option maxHeartbeats 4000000
noncomputable section
namespace Go.Proofs.Lv
open Go.Proofs.Lu
open Go.Ae Go.Ae.M
section
variable{H0 H:ae}{L M:List aC}{S:List Nat}{F:Nat→Prop}{A:At}{q:AV}{n s:Nat}
def MH(A:At)(b:Nat)(H:ae)(v:Value):Prop:=∃(ls:List (List Nat))(a:Option Addr)(c:Nat)(vs:List Value),v=.slice a A.nr c∧eO (b≤·) 23 H a A.nr 1 vs∧(∀i(h:i<vs.length),∃ra rc,vs[i]=.slice ra (ls[i]?.getD []).length rc∧eO (b≤·) 3 H ra (ls[i]?.getD []).length 1 (aP (ls[i]?.getD [])))∧∀i,i<A.nr→(∀x,x∈ls[i]?.getD []↔cal A i x)∧(ls[i]?.getD []).length≤100000
theorem MH.ex{b:Nat}{v:Value}{H':ae}(h:MH A b H v)(hx:Ext H H'):MH A b H' v:=
 let⟨ls,a,c,vs,h1,h2,h3,h4⟩:=h
 ⟨ls,a,c,vs,h1,h2.ex hx,fun i hi=>let⟨ra,rc,g1,g2⟩:=h3 i hi;⟨ra,rc,g1,g2.ex hx⟩,h4⟩
theorem Dv(hw:Wf H)(h:mJ F H A q)(ho:A.Ok):ak Pg X 23 [q.v A] H (Qe (fun v H'=>MH A H.next H' v) H):=by
 have hS:=SH.refl hw
 have G4:=ho.few
 refine ce [0,1,2,3,4,5,16,17] ?_;refine tl ?_
 refine hS.box rfl fun H1 rg hS=>?_
 rw[fZ]at hS
 refine hS.mU 0 rfl (by show 0 +6≤6;omega) ?_
 refine ak.mono (jA hS.wf (h.ex hS.ext) ho) ?_
 rintro v H2 ⟨rfl,hx⟩
 have hS:=hS.call hx
 refine au ?_
 refine aA (fun hb=>by cases hb) (fun _=>?_)
 refine hS.ld 0 (o:=0) rfl rfl ?_
 refine au ?_
 refine hS.mkS (Nat.le_refl _) aa fun H4 dc hS=>?_
 rw[gD]at hS
 refine hS.bZ fun H5 xc hS=>?_
 refine hS.iB fun Hn hS=>?_;refine hS.a_ ?_;refine hS.az ?_
 have hS:SH [] H Hn ((dc,23,List.replicate A.nr (.slice none 0 0))::(xc,50,[.slice (some ⟨dc,0,none⟩) A.nr A.nr])::(rg,26,q.cells A)::[]):=hS.perm (List.Perm.swap _ _ _)
 refine lp2 5 17 (I:=fun m x5 jc H'=>∃(i:Nat)(vs:List Value)(R:List aC)(ls:List (List Nat)),jc=vn i∧i +m=A.nr∧ls.length=A.nr∧(∀j,j<i→(∀x,x∈ls[j]?.getD []↔cal A j x)∧(ls[j]?.getD []).length≤100000)∧(∀j,i≤j→j<A.nr→vs[j]?=some (.slice none 0 0))∧CR ls vs R∧SH [] H H' ((dc,23,vs)::(xc,50,[.slice (some ⟨dc,0,none⟩) A.nr A.nr])::(rg,26,q.cells A)::R)) ?_ A.nr ⟨0,_,[],_,rfl,aa,List.length_replicate ..,fun j hj=>by omega,fun j _ hj=>by rw[List.getElem?_replicate,if_pos hj],CR.Jd _,hS⟩
 clear hS
 rintro m x5 jc eP H6 ⟨i,vs,R,ls,rfl,him,hll,hdone,hnil,hC,hS⟩
 refine tl ?_
 refine au ?_
 refine ah (fun hc=>?_) (fun hc=>?_)
 rotate_left
 ·refine tl ?_
  refine hS.a_ ?_
  have hd:=hS.wm (List.mem_cons_self ..)
  have hvl:vs.length=A.nr:=hC.len.symm.trans hll
  refine rr ?_;refine⟨⟨ls,_,_,vs,rfl,eO.one hS (List.mem_cons_self ..) aa hd,fun j hj=>?_,fun j hj=>hdone j aa⟩,hS.ext⟩
  obtain⟨a,c,e,hf⟩:=hC.all (hS.perm (List.perm_append_comm (l₁:=[_,_,_]) (l₂:=R))) j hj
  refine⟨a,c,e,hf.wk fun r hr=>?_⟩
  obtain⟨x,hx,rfl⟩:=List.mem_map.1 hr
  exact hS.wm (List.mem_cons_of_mem _ (List.mem_cons_of_mem _ (List.mem_cons_of_mem _ hx)))
 have hi:i<A.nr:=by omega
 have hvl:vs.length=A.nr:=hC.len.symm.trans hll
 show ak Pg X 54 [vn i,pt rg,pt xc] H6 _
 refine ak.mono (J' h ho hi hvl (hnil i (Nat.le_refl _) hi) hS) ?_
 rintro _ H7 ⟨v,l,gb,hv,hl,hln,hS⟩
 obtain⟨B,B',rfl,hput⟩:=hC.put i (hnil i (Nat.le_refl _) hi)
 refine ay ?_
 refine⟨A.nr -(i +1),aa,_,_,_,_,rfl,i +1,vs.set i v,B++(gb++B'),ls.set i l,iC,aa,by rw[List.length_set];exact hll,fun j hj=>?_,fun j h1 h2=>?_,hput v l gb hv,hS.perm (List.Perm.cons _ (List.Perm.cons _ (List.Perm.cons _ (bB gb B B'))))⟩
 ·rw[mI aa]
  split
  ·next e=>subst e;exact⟨hl,hln⟩
  ·exact hdone j aa
 ·rw[List.getElem?_set_ne aa]
  exact hnil j aa h2
theorem MH.uses{b:Nat}{v:Value}(h:MH A b H v):∃rows:Nat→List Int,Fh A.nr 100000 rows H v∧∀i,i<A.nr→∀x:Nat,cal A i x→x<A.nr→x∈DF A.nr rows i:=by
 obtain⟨ls,a,c,vs,rfl,h2,h3,h4⟩:=h
 have hvl:vs.length=A.nr:=by have:=h2.1.1;omega
 refine⟨fun i=>(ls[i]?.getD []).map fun x:Nat=>(x:Int),⟨a,c,vs,rfl,h2.wk fun _ _=>trivial,fun i hi=>?_⟩,fun i hi x hx hlt=>?_⟩
 ·obtain⟨ra,rc,e,hf⟩:=h3 i hi
  refine⟨ra,rc,by rw[List.length_map];exact e,?_,by rw[List.length_map];exact(h4 i aa).2⟩
  rw[List.length_map,←He]
  exact hf.wk fun _ _=>trivial
 ·unfold DF
  rw[List.map_map]
  exact List.mem_map.2 ⟨x,((h4 i hi).1 x).2 hx,by show(if 0≤(x:Int)∧(x:Int)<A.nr then(x:Int).toNat else A.nr)=x;rw[if_pos aa];rfl⟩
theorem index_spec{a:Option Addr}{c:Nat}{bs:List Bool}(hw:Wf H)(hn:bs.length≤1000000)(hf:eO F 4 H a bs.length 1 (bs.map .bool)):ak Pg X 165 [.slice a bs.length c,.bool true] H (Qe (fun v _=>(∃z:Int,v=vi z)∧(v=vi (-1)→∀j:Nat,bs[j]?.getD false=false)) H):=by
 have hS:=SH.refl hw
 refine ce [0,1,4,5,7,8] ?_;refine tl ?_
 refine au ?_
 refine Oc 4 5 8 (I:=fun m x4 x5 x8 H'=>∃i:Nat,x8=vn i∧i +m=bs.length∧(∀j:Nat,j<i→bs[j]?.getD false=false)∧H'=H) ?_ bs.length ⟨0,rfl,aa,fun j hj=>by omega,rfl⟩
 rintro m x4 x5 x8 eP H1 ⟨i,rfl,him,hno,rfl⟩
 refine tl ?_
 refine au ?_
 refine ah (fun hc=>?_) (fun hc=>?_)
 rotate_left
 ·refine tl ?_
  refine rr ?_;refine⟨⟨⟨_,rfl⟩,fun _ j=>?_⟩,Ext.refl _⟩
  rcases Nat.lt_or_ge j i with h|h
  ·exact hno j h
  ·rw[List.getElem?_eq_none aa];rfl
 have hi:i<bs.length:=by omega
 refine hf.ix hi (v:=.bool bs[i]) (by rw[List.getElem?_map,List.getElem?_eq_getElem hi];rfl) fun p=>?_
 cases hb:bs[i]with
 |true=>
  refine PU.of (v:=.bool true) (by kernel_rfl) ?_
  refine au ?_
  refine rr ?_;exact⟨⟨⟨_,rfl⟩,fun h=>by have:=(Value.int.inj h).2;omega⟩,Ext.refl _⟩
 |false=>
  refine PU.of (v:=.bool false) (by kernel_rfl) ?_
  refine au ?_
  refine ay ?_
  refine⟨bs.length -(i +1),aa,_,_,_,_,_,rfl,i +1,iC,aa,fun j hj=>?_,rfl⟩
  rcases Nat.lt_or_ge j i with h|h
  ·exact hno j h
  ·obtain rfl:j=i:=by omega
   rw[List.getElem?_eq_getElem hi,hb];rfl
def Rnk(A:At):Prop:=∃rk:Nat→Nat,∀i,i<A.nr→∀x,cal A i x→x<A.nr∧rk x<rk i
theorem Hf(ho:A.Ok){i x:Nat}(h:cal A i x):x<A.nr:=by
 obtain⟨s,e,⟨_,he⟩,hk,rfl⟩:=h
 exact ho.call he hk
theorem MI(hw:Wf H)(ho:A.Ok)(hn:A.nr≤1000){b:Nat}{v:Value}(h:MH A b H v):ak Pg X 128 [v] H (Qe (fun v _=>(∃z:Int,v=vi z)∧(v=vi (-1)→Rnk A)) H):=by
 obtain⟨rows,hU,hR⟩:=h.uses
 refine ce [0,2] ?_;refine tl ?_
 refine ak.mono (ym hw hn aa hU) ?_
 rintro _ H1 ⟨⟨a,c,bs,rfl,hbl,hf,Yo⟩,hx⟩
 rw[←hbl]at hf⊢
 have hS:=(SH.refl hw).call hx
 refine ak.mono (index_spec (F:=(H.next≤·)) hS.wf aa hf) ?_
 rintro _ H2 ⟨⟨⟨z,rfl⟩,hz⟩,hx2⟩
 refine rr ?_;refine⟨⟨⟨z,rfl⟩,fun h=>?_⟩,(hS.call hx2).ext⟩
 obtain⟨rk,hr⟩:=Yo (hz h)
 exact⟨rk,fun i hi x hx=>⟨Hf ho hx,hr i hi x (hR i hi x hx (Hf ho hx)) (Hf ho hx)⟩⟩
theorem QF(hw:Wf H)(h:mJ F H A q)(ho:A.Ok)(hn:A.nr≤1000):ak Pg X 91 [q.v A] H (Qe (fun v _=>(∃z:Int,v=vi z)∧(v=vi (-1)→Rnk A)) H):=by
 have hS:=SH.refl hw
 refine ce [0,1,2] ?_;refine tl ?_
 refine hS.box rfl fun H1 rg hS=>?_
 rw[fZ]at hS
 refine hS.mU 0 rfl (by show 0 +6≤6;omega) ?_
 refine ak.mono (jA hS.wf (h.ex hS.ext) ho) ?_
 rintro v H2 ⟨rfl,hx⟩
 have hS:=hS.call hx
 refine au ?_
 refine aA (fun hb=>by cases hb) (fun _=>?_)
 refine hS.mU 0 rfl (by show 0 +6≤6;omega) ?_
 refine ak.mono (Dv hS.wf (h.ex hS.ext) ho) ?_
 rintro v H3 ⟨hC,hx⟩
 have hS:=hS.call hx
 refine ak.mono (MI hS.wf ho hn hC) ?_
 rintro v H4 ⟨hz,hx⟩
 have hS:=hS.call hx
 refine rr ?_;exact⟨hz,hS.ext⟩
end
end Go.Proofs.Lv
namespace Go.Proofs.Lu
open Go.Ae
def nl(n:Nat)(f:Nat→Nat):List Nat:=(List.range n).map f
theorem rD(n:Nat)(f:Nat→Nat):(nl n f).length=n:=by unfold nl;simp
theorem pM{n k:Nat}(f:Nat→Nat)(h:k<n):(nl n f)[k]?=some (f k):=by unfold nl;rw[List.getElem?_map,List.getElem?_range h];rfl
theorem Vi{n:Nat}{f g:Nat→Nat}(h:∀t,t<n→f t=g t):nl n f=nl n g:=List.map_congr_left fun t ht=>h t (List.mem_range.1 ht)
theorem Hg{n k v:Nat}{f g:Nat→Nat}(h:k<n)(hg:∀t,t<n→g t=if t=k then v else f t):(nl n f).set k v=nl n g:=by
 apply List.ext_getElem?
 intro i
 rw[List.getElem?_set,rD]
 by_cases hi:i<n
 ·rw[pM g hi,hg i hi]
  by_cases e:k=i
  ·subst e;rw[if_pos rfl,if_pos rfl,if_pos h]
  ·rw[if_neg e,if_neg (fun g=>e g.symm),pM f hi]
 ·have h1:(nl n g)[i]?=none:=List.getElem?_eq_none (by rw[rD];omega)
  have h2:(nl n f)[i]?=none:=List.getElem?_eq_none (by rw[rD];omega)
  rw[h1,h2]
  split
  ·omega
  ·rfl
namespace At
open Classical
variable{A:At}{P nx:List Nat}{s t k:Nat}{e:Ed}
theorem MK(l:List Ed)(t:Nat):A.yh l t≤l.length:=by unfold yh;exact List.length_filter_le ..
theorem adi(s t:Nat):A.fc s t≤(A.E s).length:=MK _ _
theorem Hl(ho:A.Ok)(P:List Nat)(t:Nat):∀n,n≤A.ns→A.wR P n t≤A.pre n
 |0,_=>Nat.zero_le _
 |n +1,h=>by
  have:=Hl ho P t n aa
  have h2:=At.uq ho (i:=n) aa
  have h3:=adi (A:=A) n t
  rw[qx]
  split<;>omega
theorem aaY(ho:A.Ok)(P:List Nat)(t:Nat):A.cin P t≤100000:=Nat.le_trans (Hl ho P t A.ns (Nat.le_refl _)) (At.wO ho _)
theorem J_(h:(A.E s)[k]?=some e)(t:Nat):A.yh ((A.E s).take (k +1)) t=A.yh ((A.E s).take k) t +if A.JO e∧e.2.2=t then 1 else 0:=by
 rw[List.take_add_one,h,Oo]
 show _ +A.yh [e] t=_
 rw[Oq]
theorem uy(h:(A.E s)[k]?=some e)(t:Nat):A.yh ((A.E s).drop k) t=(if A.JO e∧e.2.2=t then 1 else 0) +A.yh ((A.E s).drop (k +1)) t:=by
 obtain⟨hk,rfl⟩:=List.getElem?_eq_some_iff.1 h
 rw[List.drop_eq_getElem_cons hk]
 show A.yh ([_]++_) t=_
 rw[Oo,Oq]
theorem Vj(P:List Nat)(r n:Nat):A.Ou P n r≤n:=by
 unfold Ou
 refine Nat.le_trans (List.length_filter_le ..) ?_
 rw[List.length_range];exact Nat.le_refl _
theorem adj(ho:A.Ok)(P:List Nat)(r:Nat):A.lc P r≤4000:=Nat.le_trans (Vj P r A.ns) ho.big
structure K3(A:At)(P nx:List Nat):Prop where
 kn:A.Kn P nx
 z:∀u∈nx,A.cin P u=0
structure KI(A:At)(P:List Nat)(s:Nat)(nx:List Nat)(k:Nat):Prop where
 kn:A.Kn (P++[s]) nx
 z:∀u∈nx,A.cin (P++[s]) u +A.yh ((A.E s).drop k) u=0
 zs:A.cin P s=0
 hp:s∉P
theorem OA(h:A.cin P t=0)(he:e∈A.E s)(hf:A.JO e)(ht:e.2.2=t)(hs:s<A.ns):s∈P:=by
 refine Classical.byContradiction fun hP=>?_
 have h1:=Qm h s hs hP
 have h2:=aaE he hf
 rw[ht,h1]at h2
 omega
theorem K3.lens(h:A.K3 P nx):P.length +nx.length≤A.ns:=by
 have:=List.Nodup.length_le_of_subset h.kn.nd (l₂:=List.range A.ns) fun s hs=>List.mem_range.2 (h.kn.lt s hs)
 rwa [List.length_append,List.length_range]at this
theorem K3.pop(ho:A.Ok)(h:A.K3 P (nx++[s])):A.KI P s nx 0:=by
 have hs:s<A.ns:=h.kn.lt s (by simp)
 have hnd:=h.kn.nd
 have hperm:(P++(nx++[s])).Perm ((P++[s])++nx):=by
  rw[List.append_assoc]
  exact List.Perm.append_left P (List.perm_append_comm (l₁:=nx) (l₂:=[s]))
 have hsP:s∉P:=fun hm=>by
  rw[List.nodup_append]at hnd
  exact hnd.2.2 s hm s (by simp) rfl
 have hz:=h.z s (by simp)
 refine⟨⟨hperm.nodup_iff.1 hnd,fun u hu=>h.kn.lt u (hperm.mem_iff.2 hu),fun s' e he hf i hi=>?_⟩,fun u hu=>?_,hz,hsP⟩
 ·rcases Nat.lt_or_ge i P.length with g|g
  ·rw[List.getElem?_append_left g]at hi
   obtain⟨j,hj,hj2⟩:=h.kn.ok s' e he hf i hi
   exact⟨j,hj,by rw[List.getElem?_append_left aa];exact hj2⟩
  ·have hil:=(List.getElem?_eq_some_iff.1 hi).1
   rw[List.length_append]at hil
   have:i=P.length:=by simp at hil;omega
   subst this
   rw[List.getElem?_append_right (Nat.le_refl _),Nat.sub_self]at hi
   have hi:s=e.2.2:=by simpa using hi
   have hm:=OA hz he hf hi.symm (ho.lt he)
   obtain⟨j,hj⟩:=List.mem_iff_getElem?.1 hm
   have hjl:=(List.getElem?_eq_some_iff.1 hj).1
   exact⟨j,hjl,by rw[List.getElem?_append_left hjl];exact hj⟩
 ·have h1:=h.z u (by simp[hu])
  rw[Ot hsP hs]at h1
  exact h1
theorem KI.skip(h:A.KI P s nx k)(he:(A.E s)[k]?=some e):A.KI P s nx (k +1):=⟨h.kn,fun u hu=>by
 have:=h.z u hu
 rw[uy he]at this
 omega,h.zs,h.hp⟩
theorem KI.put(ho:A.Ok)(h:A.KI P s nx k)(he:(A.E s)[k]?=some e)(hf:A.JO e)(h0:A.cin (P++[s]) e.2.2 +A.yh ((A.E s).drop (k +1)) e.2.2=0):A.KI P s (nx++[e.2.2]) (k +1):=by
 have hem:=List.mem_of_getElem? he
 have hs:=ho.lt hem
 have hpos:∀{u},u=e.2.2→A.yh ((A.E s).drop k) u≠0:=fun{u} hu g=>by
  rw[uy he,if_pos ⟨hf,hu.symm⟩]at g
  omega
 have hno:e.2.2∉(P++[s])++nx:=fun hm=>by
  rcases List.mem_append.1 hm with hm|hm
  ·rcases List.mem_append.1 hm with hm|hm
   ·obtain⟨i,hi⟩:=List.mem_iff_getElem?.1 hm
    have hil:=(List.getElem?_eq_some_iff.1 hi).1
    obtain⟨j,hj,hj2⟩:=h.kn.ok s e hem hf i (by rw[List.getElem?_append_left hil];exact hi)
    rw[List.getElem?_append_left aa]at hj2
    exact h.hp (List.mem_of_getElem? hj2)
   ·rw[List.mem_singleton]at hm
    exact h.hp (OA h.zs hem hf hm hs)
  ·have:=h.z _ hm
   have:=hpos rfl
   omega
 refine⟨⟨?_,fun u hu=>?_,h.kn.ok⟩,fun u hu=>?_,h.zs,h.hp⟩
 ·rw[←List.append_assoc,List.nodup_append]
  exact⟨h.kn.nd,by simp,fun a ha b hb=>by rw[List.mem_singleton]at hb;subst hb;exact fun g=>hno (g▸ha)⟩
 ·rw[←List.append_assoc]at hu
  rcases List.mem_append.1 hu with hu|hu
  ·exact h.kn.lt u hu
  ·rw[List.mem_singleton]at hu;subst hu;exact(ho.e s hs e hem).1
 ·rcases List.mem_append.1 hu with hu|hu
  ·exact(h.skip he).z u hu
  ·rw[List.mem_singleton]at hu;subst hu;exact h0
theorem KI.done(h:A.KI P s nx k)(hk:(A.E s).length≤k):A.K3 (P++[s]) nx:=⟨h.kn,fun u hu=>by
 have:=h.z u hu
 omega⟩
theorem K3.ini(A:At):A.K3 [] ((List.range A.ns).filter fun s=>decide (A.cin [] s=0)):=
 ⟨⟨by rw[List.nil_append];exact List.nodup_range.sublist (List.filter_sublist ..),fun s hs=>by rw[List.nil_append]at hs;exact List.mem_range.1 (List.mem_filter.1 hs).1,fun s e _ _ i hi=>by simp at hi⟩,fun u hu=>by have:=(List.mem_filter.1 hu).2;simpa using this⟩
end At
end Go.Proofs.Lu
namespace Go.Proofs.Lv
open Go.Proofs.Lu
open Go.Ae Go.Ae.M
section
variable{H0 H:ae}{L M:List aC}{S:List Nat}{F:Nat→Prop}{A:At}{q:AV}{n s:Nat}
theorem QG{b re:Nat}{v:Value}{l:List Bool}(h:H.cell re 0=some v)(hr:re<H.next)(hl:Bs b H A.nr v l)(ho:A.Ok)(hlr:∀r,r<A.nr→(on l r↔A.Mk false (A.S r))):Wnt A A.JO H (.func (.func 92) ⟨[]⟩ ⟨[pt re]⟩):=by
 intro H' s e hx hw he
 have hl:=hl.ex hx
 have h:H'.cell re 0=some v:=(fP (hx.obj re hr (by simp)) 0).trans h
 have hr:=Nat.lt_of_lt_of_le hr hx.next
 show ak Pg X 92 [_,pt re] H' _
 have hS:=SH.refl hw
 refine ce [0,1,2,3] ?_;refine tl ?_
 refine hS.box rfl fun H1 rb hS=>?_
 have hS:SH [] H' H1 [(rb,47,[vn e.1,vn e.2.1,vn e.2.2])]:=hS
 repeat(first|(refine hS.az ?_)|(refine hS.a_ ?_))
 refine ah (fun hc=>?_) (fun hc=>?_)
 ·refine rr ?_;exact⟨⟨true,rfl,fun _=>.inl aa,fun _=>rfl⟩,hS.ext⟩
 refine hS.a_ ?_;refine hS.az ?_
 refine ah (fun hc2=>?_) (fun hc2=>?_)
 ·have hca:=ho.call he aa
  refine hS.wo h hr ?_
  refine hS.a_ ?_
  obtain⟨ea,ec,rfl,_⟩:=id hl
  refine(hl.ex hS.ext).at hca fun p t ht=>?_
  refine rr ?_;refine⟨⟨t,rfl,fun h=>.inr ⟨aa,(hlr _ hca).1 (ht.1 h)⟩,fun h=>?_⟩,hS.ext⟩
  rcases h with h|h
  ·exact absurd aa hc
  ·exact ht.2 ((hlr _ hca).2 h.2)
 ·refine rr ?_;refine⟨⟨false,rfl,fun h=>(by cases h),fun h=>?_⟩,hS.ext⟩
  rcases h with h|h
  ·exact absurd aa hc
  ·exact absurd (by have:=h.1;omega) hc2
theorem Vk(z:Int):ak Pg X 94 [vi z] H fun v H'=>v=.bool (decide (0<z))∧H'=H:=by
 refine ce [0,2] ?_;refine tl ?_
 refine au ?_
 refine rr ?_;exact⟨rfl,rfl⟩
theorem Ka{a:Option Addr}{c:Nat}{f:Nat→Nat}(hw:Wf H)(hn:n≤1000000)(hf:eO F 3 H a n 1 (aP (nl n f))):ak Pg X 93 [.slice a n c,.func (.func 94) ⟨[]⟩ ⟨[]⟩] H (Qe (fun v _=>(∃z:Int,v=vi z)∧(v=vi (-1)→∀j,j<n→f j=0)) H):=by
 refine ce [0,1,4,5,7,8] ?_;refine tl ?_
 refine au ?_
 refine Oc 4 5 8 (I:=fun m x4 x5 x8 H'=>∃i:Nat,x8=vn i∧i +m=n∧(∀j,j<i→f j=0)∧H'=H) ?_ n ⟨0,rfl,aa,fun j hj=>by omega,rfl⟩
 rintro m x4 x5 x8 eP H1 ⟨i,rfl,him,hno,rfl⟩
 refine tl ?_
 refine au ?_
 refine ah (fun hc=>?_) (fun hc=>?_)
 rotate_left
 ·refine tl ?_
  refine rr ?_;exact⟨⟨⟨_,rfl⟩,fun _ j hj=>hno j aa⟩,Ext.refl _⟩
 have hi:i<n:=by omega
 refine hf.ix hi (dZ _ (pM f hi)) fun p=>?_
 show ak Pg X 94 [vn (f i)] H1 _
 refine ak.mono (Vk _) ?_
 rintro _ _ ⟨rfl,rfl⟩
 refine au ?_
 refine ah (fun hb=>?_) (fun hb=>?_)
 ·refine rr ?_;exact⟨⟨⟨_,rfl⟩,fun h=>by have:=(Value.int.inj h).2;omega⟩,Ext.refl _⟩
 ·refine ay ?_
  refine⟨n -(i +1),aa,_,_,_,_,_,rfl,i +1,iC,aa,fun j hj=>?_,rfl⟩
  rcases Nat.lt_or_ge j i with h|h
  ·exact hno j h
  ·obtain rfl:j=i:=by omega
   omega
theorem Bt{l:List Nat}{k v:Nat}:(aP l).set k (vn v)=aP (l.set k v):=List.map_set.symm
theorem _root_.Go.Ae.SH.nls{r:Nat}{ty:TypeId}{f g:Nat→Nat}(hS:SH S H0 H ((r,ty,aP (nl n f))::L))(h:∀t,t<n→f t=g t):SH S H0 H ((r,ty,aP (nl n g))::L):=hS.to (by rw[Vi h])
theorem zB(hw:Wf H)(h:mJ F H A q)(ho:A.Ok):ak Pg X 53 [q.v A] H (Qe (fun v _=>(∃z:Int,v=vi z)∧(v=vi (-1)→A.Acy)) H):=by
 have hS:=SH.refl hw
 have hbig:=ho.big
 have G4:=ho.few
 refine ce [0,1,2,3,4,5,7,9,10,11,12,13,14,16,27,28,29,33,34,35,55,56,57,107,108,109] ?_;refine tl ?_
 refine hS.box rfl fun H1 rg hS=>?_
 rw[fZ]at hS
 refine hS.mU 0 rfl (by show 0 +6≤6;omega) ?_
 refine ak.mono (jA hS.wf (h.ex hS.ext) ho) ?_
 rintro v H2 ⟨rfl,hx⟩
 have hS:=hS.call hx
 refine au ?_
 refine aA (fun hb=>by cases hb) (fun _=>?_)
 refine hS.mU 0 rfl (by show 0 +6≤6;omega) ?_
 refine ak.mono (wW hS.wf (h.ex hS.ext) ho) ?_
 rintro v H4 ⟨⟨l,hl,hlr⟩,hx⟩
 have hS:=hS.call hx
 obtain⟨ea,ec,rfl,_⟩:=id hl
 refine hS.ns rfl rfl rfl fun H5 re hS hx5=>?_
 have hS0:SH [] H H5 [(re,36,[.slice ea A.nr ec]),(rg,26,q.cells A)]:=hS
 have hrg:rg<H5.next:=(hS0.lo _ (List.mem_of_getElem? (i:=1) rfl)).2
 have hwv:=QG ((hS0.get 0 rfl).cell rfl) (hS0.lo _ (List.mem_of_getElem? (i:=0) rfl)).2 (hl.ex hx5) ho hlr
 have cS:∀{k v},(q.cells A)[k]?=some v→H5.cell rg k=some v:=fun hv=>(hS0.get 1 rfl).cell hv
 have cN:H5.read rg 0 6=some (q.cells A):=(hS0.get 1 rfl).read (Nat.le_refl 6)
 have hA:mJ F H5 A q:=h.ex hS0.ext
 have Vl:=hS0.ext
 have hw5:=hS0.wf
 clear hS hx hl hlr hS0
 have hS:=SH.refl hw5
 refine hS.mM (o:=0) (n:=6) (vs:=q.cells A) cN hrg ?_
 refine ak.mono (lW hS.wf q A) ?_
 rintro v H6 ⟨rfl,hx⟩
 have hS:=hS.call hx
 refine hS.mkS (Nat.le_refl _) aa fun H7 di hS=>?_
 rw[gD]at hS
 refine hS.wo (cS (k:=4) rfl) hrg ?_
 refine au ?_
 have hz:∀n,List.replicate n (Value.int .i64 0)=aP (nl n fun _=>0):=fun n=>by
  apply List.ext_getElem?
  intro i
  rw[List.getElem?_replicate]
  split
  ·next g=>rw[dZ _ (pM _ g)];rfl
  ·next g=>rw[List.getElem?_eq_none (by rw[List.length_map,rD];omega)]
 rw[hz]at hS
 refine aT.i_ fun K hK=>?_
 refine Zd 7 9 29 33 34 35 (I:=fun m x7 x9 x29 rH x34 xW H'=>∃i:Nat,x29=vn i∧i +m=A.ns∧SH [] H5 H' [(di,3,aP (nl A.ns fun t=>A.wR [] i t))]) ?_ A.ns ⟨0,rfl,aa,hS⟩
 clear hS
 rintro m x7 x9 x29 rH x34 xW eP H8 ⟨i,rfl,him,hS⟩
 refine tl ?_
 refine au ?_
 refine ah (fun hc=>?_) (fun hc=>?_)
 rotate_left
 ·subst hK
  refine au ?_
  obtain rfl:i=A.ns:=by omega
  have hS:SH [] H5 H8 [(di,3,aP (nl A.ns fun t=>A.cin [] t))]:=hS
  refine tl ?_
  refine au ?_
  refine hS.wo (cS (k:=0) rfl) hrg ?_
  refine au ?_
  refine hS.mkS (Nat.le_refl _) aa fun H9 dl hS=>?_
  rw[gD,hz]at hS
  refine Ht 11 12 13 57 (I:=fun m bg b_ bQ x57 H'=>∃(i:Nat)(gb:List aC),x57=vn i∧i +m=A.ns∧GB 3 1 bg (aP ((List.range i).filter fun s=>decide (A.cin [] s=0))) gb∧SH [] H5 H' ((dl,3,aP (nl A.nr fun r=>A.Ou [] i r))::(di,3,aP (nl A.ns fun t=>A.cin [] t))::gb)) ?_ A.ns ⟨0,[],rfl,aa,GB.nil _ _,hS.nls fun t _=>rfl⟩
  clear hS
  rintro m bg b_ bQ x57 aaW GU ⟨i,gb,rfl,him,hg,hS⟩
  refine tl ?_
  refine au ?_
  refine ah (fun hc=>?_) (fun hc=>?_)
  rotate_left
  ·obtain rfl:i=A.ns:=by omega
   have hS:SH [] H5 GU ((dl,3,aP (nl A.nr fun r=>A.lc [] r))::(di,3,aP (nl A.ns fun t=>A.cin [] t))::gb):=hS
   have hK:=At.K3.ini A
   generalize(List.range A.ns).filter (fun s=>decide (A.cin [] s=0))=nx at hg hK
   refine tl ?_
   refine Zd 11 14 16 107 108 109 (I:=fun m bg fU dJ x107 aet aaZ H'=>∃(P nx:List Nat)(gb:List aC),A.K3 P nx∧P.length +m=A.ns∧GB 3 1 bg (aP nx) gb∧SH [] H5 H' ((dl,3,aP (nl A.nr fun r=>A.lc P r))::(di,3,aP (nl A.ns fun t=>A.cin P t))::gb)) ?_ A.ns ⟨[],nx,gb,hK,by simp,hg,hS⟩
   clear hS hg hK
   rintro m bg fU dJ x107 aet aaZ adk Zw ⟨P,nx,gb,hK,hPm,hg,hS⟩
   refine tl ?_
   have fin:nx=[]→ak Pg X 93 [.slice (some ⟨dl,0,none⟩) A.nr A.nr,.func (.func 94) ⟨[]⟩ ⟨[]⟩] Zw (Qe (fun v _=>(∃z:Int,v=vi z)∧(v=vi (-1)→A.Acy)) Zw):=fun e=>by
    subst e
    refine ak.mono (Ka (F:=fun _=>True) hS.wf aa (eO.one hS (List.mem_cons_self ..) (by rw[List.length_map,rD,Nat.mul_one]) trivial)) ?_
    rintro v H' ⟨⟨hz,hv⟩,hx⟩
    exact⟨⟨hz,fun h=>hK.kn.acy ho (hv h)⟩,hx⟩
   rcases hg with⟨rfl,hn,rfl⟩|⟨r,n,aF,rfl,hn,rfl⟩
   ·obtain rfl:nx=[]:=by simpa using hn
    refine au ?_
    refine ah (fun hc=>absurd hc aa) (fun _=>?_)
    refine tl ?_
    refine ak.mono (fin rfl) ?_
    rintro v H' ⟨hv,hx⟩
    refine rr ?_;exact⟨hv,Vl.trans (hS.ext.trans hx)⟩
   have hn:nx.length=n:=by simpa using hn
   subst hn
   refine au ?_
   refine ah (fun hc=>?_) (fun hc=>?_)
   rotate_left
   ·refine tl ?_
    refine ak.mono (fin (List.length_eq_zero_iff.1 aa)) ?_
    rintro v H' ⟨hv,hx⟩
    refine rr ?_;exact⟨hv,Vl.trans (hS.ext.trans hx)⟩
   obtain⟨oU,cur,rfl⟩:∃a b,nx=a++[b]:=⟨nx.dropLast,nx.getLast (fun e=>by subst e;simp at hc),(List.dropLast_concat_getLast _).symm⟩
   have hlen:(oU++[cur]).length=oU.length +1:=by simp
   have hls:=hK.lens
   rw[hlen]at hls⊢
   have wT:cur<A.ns:=hK.kn.lt cur (by simp)
   have hI:=hK.pop ho
   refine aH ?_
   rw[show((oU.length +1:Nat):Int) -1=(oU.length:Nat) by omega]
   refine hS.ix (v:=vn cur) aa (by simp) fun p=>?_
   refine aH ?_
   rw[show((oU.length +1:Nat):Int) -1=(oU.length:Nat) by omega]
   refine PU.of (tq aa) ?_
   refine hS.wo (cS (k:=3) rfl) hrg ?_
   refine(hA.ex hS.ext).wo wT fun p=>?_
   have hoc:=ho.o cur wT
   have hll:=At.adj ho P (A.O cur)
   have hla:=At.UR (A:=A) hI.hp wT (A.O cur)
   rw[if_pos rfl]at hla
   refine hS.ix hoc (dZ _ (pM _ hoc)) fun p=>?_
   refine aH ?_
   rw[show((A.lc P (A.O cur):Nat):Int) -1=((A.lc (P++[cur]) (A.O cur):Nat):Int) by omega]
   refine hS.Tt hoc (by rw[List.length_map,rD];exact hoc) (kk:=fun p H12 hS=>?_)
   rw[Bt,Hg (g:=fun r=>A.lc (P++[cur]) r) hoc fun r _=>by
    by_cases e:r=A.O cur
    ·subst e;rw[if_pos rfl]
    ·rw[if_neg e,At.UR (A:=A) hI.hp wT r,if_neg fun h=>e h.symm];rfl]at hS
   have hS:SH [] H5 H12 ((dl,3,aP (nl A.nr fun r=>A.lc (P++[cur]) r))::(di,3,aP (nl A.ns fun t=>A.cin P t))::[(r,3,aP (oU++[cur])++aF)]):=hS
   refine hS.wo (cS (k:=4) rfl) hrg ?_
   refine hA.XH hS.ext wT fun p fa fc hE=>?_
   refine au ?_
   have hg:GB 3 1 (.slice (some ⟨r,0,none⟩) oU.length (aK 1)) (aP oU) [(r,3,aP (oU++[cur])++aF)]:=.inr ⟨r,_,vn cur::aF,rfl,by simp,by simp⟩
   refine Oc 11 16 109 (I:=fun m bg dJ aaZ H'=>∃(k:Nat)(nx:List Nat)(gb:List aC),aaZ=vn k∧k +m=(A.E cur).length∧A.KI P cur nx k∧GB 3 1 bg (aP nx) gb∧SH [] H5 H' ((di,3,aP (nl A.ns fun t=>A.cin (P++[cur]) t +A.yh ((A.E cur).drop k) t))::(dl,3,aP (nl A.nr fun r=>A.lc (P++[cur]) r))::gb)) ?_ (A.E cur).length ⟨0,oU,_,rfl,aa,hI,hg,(hS.perm (List.Perm.swap _ _ _)).nls fun t _=>At.Ot hI.hp wT⟩
   clear hS hg hI
   rintro m' y11 y16 aeS aeu H13 ⟨k,nx,gb,rfl,hkm,hI,hg,hS⟩
   refine tl ?_
   refine au ?_
   refine ah (fun hc2=>?_) (fun hc2=>?_)
   rotate_left
   ·obtain rfl:k=(A.E cur).length:=by omega
    refine⟨m -1,aa,_,_,_,_,_,_,_,_,rfl,P++[cur],nx,gb,hI.done (Nat.le_refl _),by rw[List.length_append];simp;omega,hg,(hS.nls fun t _=>?_).perm (List.Perm.swap _ _ _)⟩
    rw[List.drop_length];rfl
   have hk':k<(A.E cur).length:=by omega
   refine J3 (hE.ex hS.ext) hk' fun p=>?_
   have hem:=List.getElem_mem hk'
   have hke:(A.E cur)[k]?=some (A.E cur)[k]:=List.getElem?_eq_getElem hk'
   have JV:=ho.len cur
   obtain⟨g1,_,_⟩:=ho.e cur wT _ hem
   generalize(A.E cur)[k]=e at hke hem g1⊢
   have hcl:=At.aaY ho (P++[cur]) e.2.2
   have ZF:=At.uy hke e.2.2
   have hfl:=At.MK (A:=A) ((A.E cur).drop (k +1)) e.2.2
   have htl:((A.E cur).drop (k +1)).length≤(A.E cur).length:=by rw[List.length_drop];omega
   have hnx:=(Nat.le_trans (Nat.le_add_left ..) (At.K3.lens ⟨hI.kn,fun u hu=>by have:=hI.z u hu;omega⟩):nx.length≤A.ns)
   refine hS.ns rfl rfl rfl fun H14 re' hS _=>?_
   have hS:SH [] H5 H14 ((re',47,[vn e.1,vn e.2.1,vn e.2.2])::(di,3,aP (nl A.ns fun t=>A.cin (P++[cur]) t +A.yh ((A.E cur).drop k) t))::(dl,3,aP (nl A.nr fun r=>A.lc (P++[cur]) r))::gb):=hS
   refine hS.mU 0 rfl (by show 0 +3≤3;omega) ?_
   refine eG.mono (hwv H14 cur e hS.ext hS.wf hem) ?_
   rintro v H15 ⟨⟨b,rfl,hbw⟩,Qp⟩
   have hS:=hS.call Qp
   refine au ?_
   refine aA (fun hb2=>?_) (fun hb2=>?_)
   ·have hnf:¬A.JO e:=fun h=>by rw[hbw.2 h]at hb2;cases hb2
    refine ay ?_
    refine⟨(A.E cur).length -(k +1),aa,_,_,_,_,_,rfl,k +1,nx,gb,iC,aa,hI.skip hke,hg,(SH.drop (A:=[_]) hS).nls fun t _=>?_⟩
    rw[At.uy hke,if_neg fun h=>hnf h.1,Nat.zero_add]
   have hf:=hbw.1 (by simpa using hb2)
   rw[if_pos ⟨hf,rfl⟩]at ZF
   refine hS.ld 0 (o:=2) rfl rfl ?_
   refine hS.ix g1 (dZ _ (pM _ g1)) fun p=>?_
   refine aH ?_
   rw[show((A.cin (P++[cur]) e.2.2 +A.yh ((A.E cur).drop k) e.2.2:Nat):Int) -1=((A.cin (P++[cur]) e.2.2 +A.yh ((A.E cur).drop (k +1)) e.2.2:Nat):Int) by omega]
   refine hS.Tt g1 (by rw[List.length_map,rD];exact g1) (kk:=fun p H16 hS=>?_)
   rw[Bt,Hg (g:=fun t=>A.cin (P++[cur]) t +A.yh ((A.E cur).drop (k +1)) t) g1 fun t _=>by
    rw[At.uy hke]
    by_cases e':t=e.2.2
    ·subst e';rw[if_pos rfl]
    ·rw[if_neg e',if_neg fun h=>e' h.2.symm,Nat.zero_add]]at hS
   refine hS.ld 0 (o:=2) rfl rfl ?_
   refine hS.ix g1 (dZ _ (pM _ g1)) fun p=>?_
   refine au ?_
   refine ah (fun hc3=>?_) (fun hc3=>?_)
   ·refine hS.ld 0 (o:=2) rfl rfl ?_
    refine hg.push (hS.perm (List.perm_append_comm (l₁:=[_,_,_]) (l₂:=gb))) aa rfl rfl rfl rfl rfl aa (by rw[List.length_map];omega) fun w v' H17 bJ hg' hS=>?_
    have hS:=hS.perm (List.perm_append_comm (l₂:=[_,_,_]) (l₁:=bJ))
    refine ay ?_
    refine⟨(A.E cur).length -(k +1),aa,_,_,_,_,_,rfl,k +1,nx++[e.2.2],bJ,iC,aa,hI.put ho hke hf aa,?_,SH.drop (A:=[_]) hS⟩
    have e2:aP (nx++[e.2.2])=aP nx++[vn e.2.2]:=by simp
    rw[e2];exact hg'
   ·refine ay ?_
    exact⟨(A.E cur).length -(k +1),aa,_,_,_,_,_,rfl,k +1,nx,gb,iC,aa,hI.skip hke,hg,SH.drop (A:=[_]) hS⟩
  have hi:i<A.ns:=by omega
  refine hS.ix hi (dZ _ (pM _ hi)) fun p=>?_
  refine au ?_
  refine hS.wo (cS (k:=3) rfl) hrg ?_
  refine(hA.ex hS.ext).wo hi fun p=>?_
  have hoi:=ho.o i hi
  have hll:=At.Vj (A:=A) [] (A.O i) i
  refine hS.ix hoi (dZ _ (pM _ hoi)) fun p=>?_
  refine ay ?_
  rw[show((A.Ou [] i (A.O i):Nat):Int) +1=((A.Ou [] i (A.O i) +1:Nat):Int) by omega]
  refine hS.Tt hoi (by rw[List.length_map,rD];exact hoi) (kk:=fun p H12 hS=>?_)
  rw[Bt,Hg (g:=fun r=>A.Ou [] (i +1) r) hoi fun r _=>by
   rw[At.Dk]
   by_cases e:r=A.O i
   ·subst e;rw[if_pos rfl,if_pos ⟨rfl,by simp⟩]
   ·rw[if_neg e,if_neg fun h=>e h.1.symm];rfl]at hS
  have hfl:((List.range i).filter fun s=>decide (A.cin [] s=0)).length≤i:=by
   refine Nat.le_trans (List.length_filter_le ..) ?_
   rw[List.length_range];exact Nat.le_refl _
  refine ah (fun hc2=>?_) (fun hc2=>?_)
  ·refine hg.push (hS.perm (List.perm_append_comm (l₁:=[_,_]) (l₂:=gb))) aa rfl rfl rfl rfl rfl aa (by rw[List.length_map];omega) fun w v' H13 bJ hg' hS=>?_
   have hS:=hS.perm (List.perm_append_comm (l₂:=[_,_]) (l₁:=bJ))
   refine ay ?_
   refine⟨A.ns -(i +1),aa,_,_,_,_,_,_,rfl,i +1,bJ,iC,aa,?_,hS.cast (by simp)⟩
   have hf:(List.range (i +1)).filter (fun s=>decide (A.cin [] s=0))=(List.range i).filter (fun s=>decide (A.cin [] s=0))++[i]:=by
    rw[List.range_succ,List.filter_append]
    congr 1
    rw[List.filter_cons,if_pos (decide_eq_true aa)];rfl
   rw[hf]
   have e:∀l:List Nat,aP (l++[i])=aP l++[vn i]:=fun l=>by simp
   rw[e];exact hg'
  ·refine ay ?_
   refine⟨A.ns -(i +1),aa,_,_,_,_,_,_,rfl,i +1,gb,iC,aa,?_,hS⟩
   have hf:(List.range (i +1)).filter (fun s=>decide (A.cin [] s=0))=(List.range i).filter (fun s=>decide (A.cin [] s=0)):=by
    rw[List.range_succ,List.filter_append,List.filter_cons,if_neg (by simp;omega)];simp
   rw[hf];exact hg
 have hi:i<A.ns:=by omega
 refine hA.XH hS.ext hi fun p fa fc hE=>?_
 refine au ?_
 refine lp2 9 35 (I:=fun m x9 xW H'=>∃k:Nat,xW=vn k∧k +m=(A.E i).length∧SH [] H5 H' [(di,3,aP (nl A.ns fun t=>A.wR [] i t +A.yh ((A.E i).take k) t))]) ?_ (A.E i).length ⟨0,rfl,aa,hS.nls fun t _=>rfl⟩
 clear hS
 rintro m' x9 xW Eg H9 ⟨k,rfl,hkm,hS⟩
 refine tl ?_
 refine au ?_
 refine ah (fun hc2=>?_) (fun hc2=>?_)
 rotate_left
 ·obtain rfl:k=(A.E i).length:=by omega
  refine tl ?_
  refine ay ?_
  subst hK
  refine⟨A.ns -(i +1),aa,_,_,_,_,_,_,_,_,rfl,i +1,iC,aa,hS.nls fun t _=>?_⟩
  rw[At.qx,List.take_length,if_neg (by simp)];rfl
 have hk':k<(A.E i).length:=by omega
 refine J3 (hE.ex hS.ext) hk' fun p=>?_
 have hem:=List.getElem_mem hk'
 have hke:(A.E i)[k]?=some (A.E i)[k]:=List.getElem?_eq_getElem hk'
 have JV:=ho.len i
 obtain⟨g1,_,_⟩:=ho.e i hi _ hem
 generalize(A.E i)[k]=e at hke hem g1⊢
 have hcl:=At.Hl ho [] e.2.2 i aa
 have hpl:=At.wO ho i
 have hfl:=At.MK (A:=A) ((A.E i).take k) e.2.2
 have htl:((A.E i).take k).length≤k:=by rw[List.length_take];omega
 refine hS.ns rfl rfl rfl fun GU re' hS _=>?_
 have hS:SH [] H5 GU [(re',47,[vn e.1,vn e.2.1,vn e.2.2]),(di,3,aP (nl A.ns fun t=>A.wR [] i t +A.yh ((A.E i).take k) t))]:=hS
 refine hS.mU 0 rfl (by show 0 +3≤3;omega) ?_
 refine eG.mono (hwv GU i e hS.ext hS.wf hem) ?_
 rintro v Zw ⟨⟨b,rfl,hbw⟩,Qp⟩
 have hS:=hS.call Qp
 refine au ?_
 refine aA (fun hb2=>?_) (fun hb2=>?_)
 ·refine hS.ld 0 (o:=2) rfl rfl ?_
  refine hS.ix g1 (dZ _ (pM _ g1)) fun p=>?_
  refine ay ?_
  rw[show(((A.wR [] i e.2.2 +A.yh ((A.E i).take k) e.2.2:Nat):Int) +1)=((A.wR [] i e.2.2 +A.yh ((A.E i).take k) e.2.2 +1:Nat):Int) by omega]
  refine hS.Tt g1 (by rw[List.length_map,rD];exact g1) (kk:=fun p H12 hS=>?_)
  have hS:=SH.drop (A:=[_]) hS
  rw[Bt,Hg (g:=fun t=>A.wR [] i t +A.yh ((A.E i).take (k +1)) t) g1 fun t _=>by
   rw[At.J_ hke]
   by_cases e':t=e.2.2
   ·subst e';rw[if_pos rfl,if_pos ⟨hbw.1 hb2,rfl⟩];omega
   ·rw[if_neg e',if_neg fun h=>e' h.2.symm];omega]at hS
  refine ay ?_
  exact⟨(A.E i).length -(k +1),aa,_,_,_,_,rfl,k +1,iC,aa,hS⟩
 ·refine ay ?_
  refine⟨(A.E i).length -(k +1),aa,_,_,_,_,rfl,k +1,iC,aa,(SH.drop (A:=[_]) hS).nls fun t _=>?_⟩
  rw[At.J_ hke,if_neg fun h=>by rw[hbw.2 h.1]at hb2;cases hb2];rfl
end
section
variable{H0 H:ae}{L M:List aC}{S:List Nat}{F:Nat→Prop}{A:At}{q:AV}{n s:Nat}
def Use(A:At)(b:Nat)(H:ae)(x:Value):Prop:=∃q':AV,x=q'.v A.trim∧mJ (b≤·) H A.trim q'∧A.trim.Acy∧Rnk A.trim
theorem ML(hw:Wf H)(h:mJ F H A q)(ho:A.Ok):ak Pg X 51 [q.v A] H (Qe (fun v H'=>∃(x:Value)(code z:Int),v=.tuple ⟨[x,vi code,vi z]⟩∧(ax x).length=6∧all' aR (ax x)=true∧(code=0→Use A H.next H' x)) H):=by
 have hS:=SH.refl hw
 have okt:=At.GM ho
 refine ce [0,1,2,3,4,5,6,7] ?_;refine tl ?_
 refine hS.box rfl fun H1 rg hS=>?_
 rw[fZ]at hS
 refine hS.bZ fun H2 ro hS=>?_
 refine hS.mU 1 rfl (by show 0 +6≤6;omega) ?_
 refine ak.mono (jA hS.wf (h.ex hS.ext) ho) ?_
 rintro v H3 ⟨rfl,hx⟩
 have hS:=hS.call hx
 refine au ?_
 refine aA (fun hb=>by cases hb) (fun _=>?_)
 refine hS.mU 1 rfl (by show 0 +6≤6;omega) ?_
 refine ak.mono (Qt hS.wf (h.ex hS.ext) ho) ?_
 rintro v H4 ⟨⟨l,hl,hlr⟩,hx⟩
 have hS:=hS.call hx
 obtain⟨ea,ec,rfl,_⟩:=id hl
 refine hl.at ho.pos fun p t ht=>?_
 refine hS.az ?_
 refine aA (fun hb=>?_) (fun hb=>?_)
 ·refine PU.b6 rfl ?_;refine hS.iB fun Hn hS=>?_
  refine rr ?_
  refine hS.bL ?_
  exact⟨⟨_,_,_,rfl,rfl,rfl,fun h=>absurd h (by decide)⟩,hS.ext⟩
 refine hS.mU 1 rfl (by show 0 +6≤6;omega) ?_
 refine ak.mono (QC hS.wf (h.ex hS.ext) ho) ?_
 rintro v H5 ⟨⟨q',rfl,hA'⟩,hx⟩
 have hge:=hS.ext.next
 have hro:=(hS.lo _ (List.mem_of_getElem? (i:=0) rfl)).2
 have hrg:=(hS.lo _ (List.mem_of_getElem? (i:=1) rfl)).2
 have hS:=hS.call hx
 refine hS.ns rfl rfl rfl fun H6 rt hS hx6=>?_
 have hS:SH [] H H6 [(rt,26,q'.cells A.trim),(ro,26,[.slice none 0 0,.slice none 0 0,.slice none 0 0,.slice none 0 0,.slice none 0 0,vi 0]),(rg,26,q.cells A)]:=hS
 have hA':=hA'.ex hx6
 refine hS.mU 0 rfl (by show 0 +6≤6;omega) ?_
 refine ak.mono (zB hS.wf hA' okt) ?_
 rintro _ H7 ⟨⟨⟨z,rfl⟩,hz⟩,hx⟩
 have hS:=hS.call hx
 have hA':=hA'.ex hx
 refine au ?_
 refine aO (fun hc=>?_) (fun hc=>?_)
 ·refine PU.b6 rfl ?_;refine hS.iB fun Hn hS=>?_
  refine rr ?_
  refine hS.bL ?_
  exact⟨⟨_,_,_,rfl,rfl,rfl,fun h=>absurd h (by decide)⟩,hS.ext⟩
 subst hc
 refine hS.mU 0 rfl (by show 0 +6≤6;omega) ?_
 refine ak.mono (QF hS.wf hA' okt okt.few) ?_
 rintro _ H8 ⟨⟨⟨z,rfl⟩,hz2⟩,hx⟩
 have hS:=hS.call hx
 have hA':=hA'.ex hx
 refine au ?_
 refine aO (fun hc=>?_) (fun hc=>?_)
 ·refine PU.b6 rfl ?_;refine hS.iB fun Hn hS=>?_
  refine rr ?_
  refine hS.bL ?_
  exact⟨⟨_,_,_,rfl,rfl,rfl,fun h=>absurd h (by decide)⟩,hS.ext⟩
 subst hc
 refine hS.mU 0 rfl (by show 0 +6≤6;omega) ?_
 have hS0:=SH.drop (A:=[_]) hS
 have hS:=hS0.base
 refine hS.iB fun Hn hS=>?_
 refine rr ?_
 refine hS.bL ?_
 exact⟨⟨_,_,_,rfl,rfl,rfl,fun _=>⟨q',rfl,(hA'.stay hS.ext fun r hr=>by
  have hr:r∈[ro,rg]:=hr
  simp at hr
  rcases hr with rfl|rfl
  ·exact Nat.not_le_of_lt hro
  ·exact Nat.not_le_of_lt hrg).wk fun r hr=>Nat.le_trans hge hr,hz rfl,hz2 rfl⟩⟩,(hS0.over hS).ext⟩
def adl(H:ae)(v:Value)(H':ae):Prop:=∃(x:Value)(ok:Int),v=.tuple ⟨[x,vi ok]⟩∧(ax x).length=6∧all' aR (ax x)=true∧(ok≠0→∃A,At.Ok A∧A.ns≤1000∧Use A H.next H' x)
theorem Kb(hw:Wf H)(hT:rX H)(s:ByteArray):ak Pg X 21 [.string s] H (Q1 (adl H) H):=by
 have hS:=SH.refl hw
 refine ce [0,2,3,4,5,6,7] ?_;refine tl ?_
 refine hS.bZ fun H1 ro hS=>?_
 refine ak.mono (QA hS.wf (hT.ex hS.ext) s) ?_
 rintro v H2 ⟨⟨x,ok,rfl,VY,Qa,hA⟩,hx⟩
 have hge:=hS.ext.next
 have hro:=(hS.lo _ (List.mem_of_getElem? (i:=0) rfl)).2
 have hS:=hS.call hx
 refine au ?_
 refine hS.ns VY rfl Qa fun H3 ra hS hx3=>?_
 refine ah (fun hc=>?_) (fun hc=>?_)
 ·refine PU.b6 rfl ?_;refine hS.iB fun Hn hS=>?_
  refine rr ?_
  refine hS.bL ?_
  exact⟨⟨_,_,rfl,rfl,rfl,fun h=>absurd rfl h⟩,hS.ext⟩
 obtain⟨A,q,rfl,hA,ho,Zx⟩:=hA hc
 have hA:=hA.ex hx3
 refine hS.mU 0 rfl (Nat.le_refl 6) ?_
 refine ak.mono (lW hS.wf q A) ?_
 rintro v H4 ⟨rfl,hx⟩
 have hS:=hS.call hx
 have hA:=hA.ex hx
 refine au ?_
 refine ah (fun hc2=>?_) (fun hc2=>?_)
 ·refine PU.b6 rfl ?_;refine hS.iB fun Hn hS=>?_
  refine rr ?_
  refine hS.bL ?_
  exact⟨⟨_,_,rfl,rfl,rfl,fun h=>absurd rfl h⟩,hS.ext⟩
 refine tl ?_
 refine hS.mU 0 rfl (Nat.le_refl 6) ?_
 refine ak.mono (ML hS.wf hA ho) ?_
 rintro v H5 ⟨⟨x,code,z,rfl,VY,Qa,hU⟩,hx⟩
 have hge4:=hS.ext.next
 have aev:=(hS.lo _ (List.mem_of_getElem? (i:=1) rfl)).2
 have hS:=hS.call hx
 refine au ?_
 refine hS.ns VY rfl Qa fun H6 rt hS hx6=>?_
 refine aO (fun hc3=>?_) (fun hc3=>?_)
 ·refine PU.b6 rfl ?_;refine hS.iB fun Hn hS=>?_
  refine rr ?_
  refine hS.bL ?_
  exact⟨⟨_,_,rfl,rfl,rfl,fun h=>absurd rfl h⟩,hS.ext⟩
 obtain⟨q',rfl,hA',h1,h2⟩:=hU hc3
 refine hS.mU 0 rfl (Nat.le_refl 6) ?_
 have hS0:=SH.drop (A:=[_,_]) hS
 have hS:=hS0.base
 refine hS.iB fun Hn hS=>?_
 refine rr ?_
 refine hS.bL ?_
 exact⟨⟨_,_,rfl,rfl,rfl,fun _=>⟨A,ho,Zx,q',rfl,((hA'.ex hx6).stay hS.ext fun r hr=>by
  have hr:r∈[ro]:=hr
  simp at hr
  subst hr
  exact Nat.not_le_of_lt aev).wk fun r hr=>Nat.le_trans hge4 hr,h1,h2⟩⟩,(hS0.over hS).ext⟩
end
end Go.Proofs.Lv
namespace Go.Proofs.Lu
open Go.Ae Go.Ae.M Go.Proofs.Lv
section
variable{F F':Nat→Prop}{H0 H:ae}{L M:List aC}{S:List Nat}{A:At}{q q':AV}{a a':Option Addr}{n c c':Nat}
end
section
variable{F F':Nat→Prop}{H0 H:ae}{L M:List aC}{S:List Nat}{A:At}{q q':AV}{a a':Option Addr}
structure AtB(H:ae)(A:At)(q:AV)(r:Nat):Prop where
 m:mJ (fun _=>True) H A q
 lt:r<H.next
 b:Bk H r 26 (q.cells A)
theorem AtB.ex{H':ae}{r:Nat}(h:AtB H A q r)(hx:Ext H H'):AtB H' A q r:=⟨h.m.ex hx,Nat.lt_of_lt_of_le h.lt hx.next,h.b.ex h.lt hx⟩
theorem AtB.n{r:Nat}(h:AtB H A q r):AtB (hN H) A q r:=⟨h.m.n',h.lt,h.b⟩
section ld
variable{r:Nat}{K:Value→ae→Prop}
end ld
end
section
variable{F F':Nat→Prop}{H0 H:ae}{L M:List aC}{S:List Nat}{A:At}{q q':AV}{a a':Option Addr}
def cf(mk:List Bool):Nat:=(mk.filter (fun b=>!b)).length
theorem Vm{mk:List Bool}{k s:Nat}(hk:k<mk.length):on (mk.set k true) s↔s=k∨on mk s:=by
 unfold on
 rw[List.getElem?_set]
 by_cases h:k=s
 ·subst h;simp[hk]
 ·rw[if_neg h]
  constructor
  ·exact fun h=>.inr h
  ·rintro(rfl|h')
   ·exact absurd rfl h
   ·exact h'
end
section
variable{F F':Nat→Prop}{H0 H:ae}{L M:List aC}{S:List Nat}{A:At}{q q':AV}{a a':Option Addr}
structure Cm(A:At)(mk:List Bool):Prop where
 len:mk.length=A.ns
 st:∀s,A.VN s→on mk s
 so:∀s,on mk s→A.met s
def shut(A:At)(mk:List Bool)(k:Nat):Prop:=on mk k→∀e∈A.trim.E k,on mk e.2.2
def Go3(P:List Bool→Prop)(Zy mk:List Bool)(ag:Bool):Prop:=(ag=false∧mk=Zy∧P mk)∨(ag=true∧cf mk<cf Zy)
theorem Go3.mono{P Q:List Bool→Prop}{Zy mk:List Bool}{ag:Bool}(h:Go3 P Zy mk ag)(hPQ:P mk→Q mk):Go3 Q Zy mk ag:=h.imp (fun⟨a,b,c⟩=>⟨a,b,hPQ c⟩) id
theorem Go3.le{P:List Bool→Prop}{Zy mk:List Bool}{ag:Bool}(h:Go3 P Zy mk ag):cf mk≤cf Zy:=by
 rcases h with⟨_,h,_⟩|⟨_,h⟩
 ·rw[h];exact Nat.le_refl _
 ·omega
theorem Cm.done{mk:List Bool}(h:Cm A mk)(ho:A.Ok)(hc:∀k,k<A.ns→shut A mk k)(s:Nat):on mk s↔A.met s:=by
 refine⟨h.so s,fun hm=>?_⟩
 have:=(At.UM (w:=fun _=>True) ho (fun _ _ _=>trivial) (s:=s)).2 hm
 induction this with
 |base s hs=>exact h.st s hs
 |step s e hs he _ ih=>
  have hms:=(At.UM (w:=fun _=>True) ho (fun _ _ _=>trivial)).1 hs
  have hon:=ih hms
  exact hc s (by rw[←h.len];exact(List.getElem?_eq_some_iff.1 hon).1) hon e he
theorem Cm.set{mk:List Bool}(h:Cm A mk)(ho:A.Ok){k:Nat}(hk:on mk k){e:Ed}(he:e∈A.trim.E k)(ht:e.2.2<A.ns):Cm A (mk.set e.2.2 true):=by
 have hl:e.2.2<mk.length:=by rw[h.len];exact ht
 refine⟨by rw[List.length_set];exact h.len,fun s hs=>(Vm hl).2 (.inr (h.st s hs)),fun s hs=>?_⟩
 rcases(Vm hl).1 hs with rfl|hs
 ·obtain⟨h1,h2,h3⟩:=(At.um ho).1 he
  exact At.JN h1 h2 h3
 ·exact h.so s hs
end
section
variable{F F':Nat→Prop}{H0 H:ae}{L M:List aC}{S:List Nat}{A:At}{q q':AV}{a a':Option Addr}
namespace At
end At
end
section
variable{F F':Nat→Prop}{H0 H:ae}{L M:List aC}{S:List Nat}{A:At}{q q':AV}{a a':Option Addr}
theorem _root_.Go.Ae.ak.orc{P:Program}{X:Xt}{g:FuncId}{args:List Value}{v:Value}{H':ae}{K:Value→ae→Prop}(h:X.o g args H=some (v,H'))(k:K v H'):ak P X g args H K:=⟨v,H',⟨1,sK h⟩,k⟩
theorem X3:∀i,i<256→∃z:Nat,uU[i]?=some z∧(z=240∨z=241∨z=2∨z=19∨z=3∨z=35∨z=52∨z=4∨z=68):=by
 have h:((List.range 256).all fun i=>match uU[i]? with|some z=>decide (z=240∨z=241∨z=2∨z=19∨z=3∨z=35∨z=52∨z=4∨z=68)|none=>false)=true:=by decide +kernel
 intro i hi
 have:=List.all_eq_true.1 h i (List.mem_range.2 hi)
 cases hz:uU[i]? with
 |none=>rw[hz]at this;cases this
 |some z=>rw[hz]at this;exact⟨z,rfl,by simpa using this⟩
theorem X4:∀i,i<16→∃x y:Nat,AA[i*2]?=some x∧AA[i*2 +1]?=some y:=by
 intro i hi
 have hl:AA.length=32:=rfl
 exact⟨_,_,List.getElem?_eq_getElem aa,List.getElem?_eq_getElem aa⟩
theorem rX.of(h:qT H):rX H:=by
 obtain⟨h0,t1,t2,h1,h2⟩:=h
 refine⟨fun i hi=>?_,fun i hi=>?_,h0⟩
 ·obtain⟨z,hz,hv⟩:=X3 i hi
  exact⟨z,aa,Ti h1 hz⟩
 ·obtain⟨x,y,hx,hy⟩:=X4 i hi
  exact⟨x,y,PM h2 hx hy⟩
end
section
variable{F F':Nat→Prop}{H0 H:ae}{L M:List aC}{S:List Nat}{A:At}{q q':AV}{a a':Option Addr}
theorem QH{n:Nat}{l:List Nat}(hp:l.Pairwise (·<·))(hl:∀t∈l,t<n):l.length≤n:=by
 have:=List.Nodup.length_le_of_subset (hp.imp fun h=>Nat.ne_of_lt h) (l₂:=List.range n) fun s hs=>List.mem_range.2 (hl s hs)
 rwa [List.length_range]at this
def Fre(ls:List (List Nat))(g:List Bool)(j:Nat):Prop:=g[j]?=some false∧∀x∈ls[j]?.getD [],g[x]?=some true
theorem leftNone(hw:Wf H)(hT:qT H)(s:ByteArray):ak Pg X 6 [.string s] H fun v H'=>v=.bool true∧Ext H H':=by
 have hS:=SH.refl hw
 refine ce [0,2,3,4,5,6,7,8,9,10,11,12,13,14,15,16,17] ?_;refine tl ?_
 refine ak.mono (Kb hw (rX.of hT) s) ?_
 rintro v H1 ⟨⟨x,ok,rfl,VY,Qa,hA⟩,hx1⟩
 have hS:=hS.call hx1
 refine au ?_
 refine hS.ns VY rfl Qa fun H2 r3 hS hx2=>?_
 refine au ?_
 refine ah (fun hc=>?_) (fun hc=>?_)
 ·refine ak.orc (v:=.bool true) (H':=H2) (Tg (hT.ex hS.ext)) ?_
  refine rr ?_;exact⟨rfl,hS.ext⟩
 obtain⟨A0,ho0,Zx,q,rfl,hA,adm,Yo⟩:=hA hc
 have ho:=At.GM ho0
 generalize A0.trim=A at hA adm Yo ho hS VY Qa⊢
 have hA:=hA.ex hx2
 have hS:SH [] H H2 [(r3,26,q.cells A)]:=hS
 have cS:∀{k v},(q.cells A)[k]?=some v→H2.cell r3 k=some v:=fun hv=>(hS.get 0 rfl).cell hv
 have cN:H2.read r3 0 6=some (q.cells A):=(hS.get 0 rfl).read (Nat.le_refl 6)
 have hr3:r3<H2.next:=(hS.lo _ (List.mem_cons_self ..)).2
 have aew:=hS.ext
 have hw2:=hS.wf
 have hbig:=ho.big
 have G4:=ho.few
 clear hS hx1 hx2
 have hS:=SH.refl hw2
 refine hS.mM (o:=0) (n:=6) (vs:=q.cells A) cN hr3 ?_
 refine ak.mono (Dv hS.wf hA ho) ?_
 rintro v H3 ⟨⟨ls,ca,cc,vs,rfl,hc1,hc2,hc3⟩,hx3⟩
 have hS:=hS.call hx3
 have hvl:vs.length=A.nr:=by have:=hc1.1.1;omega
 refine au ?_
 refine hS.wo (cS (k:=0) rfl) hr3 ?_
 refine au ?_
 refine aO (fun hb=>absurd trivial hb) (fun _=>?_)
 have hS:=SH.refl hS.wf
 refine hS.mkS (Nat.le_refl _) aa fun H4 dg hS=>?_
 rw[gD]at hS
 have hS:SH [] H3 H4 [(dg,4,bools (List.replicate A.nr false))]:=hS.to (by rw[show bools (List.replicate A.nr false)=List.replicate A.nr (.bool false)from List.map_replicate])
 have hrows:∀{H'},Ext H3 H'→∀{j},j<A.nr→∃ra rc,vs[j]?=some (.slice ra (ls[j]?.getD []).length rc)∧eO (H2.next≤·) 3 H' ra (ls[j]?.getD []).length 1 (aP (ls[j]?.getD [])):=fun hx j hj=>by
  obtain⟨ra,rc,e,hf⟩:=hc2 j aa
  exact⟨ra,rc,by rw[List.getElem?_eq_getElem aa,e],hf.ex hx⟩
 have hlt:∀j,j<A.nr→∀x∈ls[j]?.getD [],x<A.nr:=fun j hj x hx=>Hf ho (((hc3 j hj).1 x).1 hx)
 have adn:∀{g:List Bool},g.length=A.nr→0<off g→∃j,j<A.nr∧Fre ls g j:=fun{g} hl h0=>by
  obtain⟨rk,hr⟩:=Yo
  obtain⟨i,hi,hi2⟩:=QD (n:=A.nr) (rk:=rk) (row:=fun j=>ls[j]?.getD []) (fun i hi t ht=>hr i hi t (((hc3 i hi).1 t).1 ht)) hl h0
  exact⟨i,by rw[←hl];exact(List.getElem?_eq_some_iff.1 hi).1,hi,hi2⟩
 have hA3:=hA.ex hx3
 have hcl:eO (H2.next≤·) 23 H3 ca A.nr 1 vs:=hc1
 refine aT.i_ fun K hK=>?_
 refine Zd 2 7 8 9 10 11 (I:=fun m x2 x7 x8 x9 aW bg H'=>∃(i:Nat)(g:List Bool),x7=vn i∧i +m=A.nr∧g.length=A.nr∧off g=m∧SH [] H3 H' [(dg,4,bools g)]) ?_ A.nr ⟨0,_,rfl,aa,by simp,Bl _,hS⟩
 clear hS
 rintro m x2 x7 x8 x9 aW bg eP H5 ⟨i,g,rfl,him,hgl,hof,hS⟩
 refine tl ?_
 refine au ?_
 refine ah (fun hc=>?_) (fun hc=>?_)
 rotate_left
 ·subst hK
  refine au ?_
  obtain rfl:i=A.nr:=by omega
  clear adn him hof hc
  have Vn:=hS.ext
  have hA:=hA.ex hx3|>.ex Vn
  have cS:∀{k v},(q.cells A)[k]?=some v→H5.cell r3 k=some v:=fun hv=>(fP ((hx3.trans Vn).obj r3 hr3 (by simp)) _).trans (cS hv)
  have cN:H5.read r3 0 6=some (q.cells A):=(mD ((hx3.trans Vn).obj r3 hr3 (by simp)) _ _).trans cN
  have hr3:=Nat.lt_of_lt_of_le hr3 (hx3.trans Vn).next
  have Vl:=aew.trans (hx3.trans Vn)
  have hT5:=hT.ex Vl
  have hS:=SH.refl hS.wf
  refine tl ?_
  refine hS.mM (o:=0) (n:=6) (vs:=q.cells A) cN hr3 ?_
  refine ak.mono (wW hS.wf hA ho) ?_
  rintro _ H6 ⟨⟨l,hl,hlr⟩,hx⟩
  have hS:=hS.call hx
  obtain⟨ea,ec,rfl,_⟩:=id hl
  refine au ?_
  refine aO (fun hb=>absurd trivial hb) (fun _=>?_)
  have kY:=hS
  refine Zd 2 13 14 15 16 17 (I:=fun m x2 bQ fU bU dJ jc H'=>∃i:Nat,bQ=vn i∧i +m=A.ns∧Ext H6 H') ?_ A.ns ⟨0,rfl,aa,Ext.refl _⟩
  clear hS
  rintro m x2 bQ fU bU dJ jc aaW H7 ⟨i,rfl,him,aa0⟩
  have hS:=kY.call aa0
  refine tl ?_
  refine hS.mM (o:=0) (n:=6) (vs:=q.cells A) cN hr3 ?_
  refine ak.mono (lW hS.wf q A) ?_
  rintro v H8 ⟨rfl,DD⟩
  have hS:=hS.call DD
  refine au ?_
  refine ah (fun hc=>?_) (fun hc=>?_)
  rotate_left
  ·refine tl ?_
   refine ak.orc (v:=.bool true) (H':=H8) (Tg (hT5.ex hS.ext)) ?_
   refine rr ?_;exact⟨rfl,Vl.trans hS.ext⟩
  have hi:i<A.ns:=by omega
  refine aT.i_ fun K2 hK2=>?_
  refine VP 2 14 15 16 17 (I:=fun m x2 fU bU dJ jc H'=>∃k:Nat,fU=vn k∧k +m=(A.E i).length∧Ext H6 H') ?_ (A.E i).length ⟨0,rfl,aa,aa0.trans DD⟩
  clear hS DD aa0
  rintro m2 x2 fU bU dJ jc adk H9 ⟨k,rfl,hkm,aa1⟩
  have hS:=kY.call aa1
  refine aT.i_ fun K3 hK3=>?_
  refine tl ?_
  refine au ?_
  refine hS.wo (cS (k:=4) rfl) hr3 ?_
  refine hA.XH hS.ext hi fun p fa fc hE=>?_
  refine au ?_
  refine ah (fun hc2=>?_) (fun hc2=>?_)
  rotate_left
  ·subst hK3
   subst hK2
   refine au ?_
   refine tl ?_
   refine ay ?_
   exact⟨A.ns -(i +1),aa,_,_,_,_,_,_,_,_,rfl,i +1,iC,aa,aa1⟩
  have hk:k<(A.E i).length:=by omega
  refine hS.wo (cS (k:=4) rfl) hr3 ?_
  refine hA.XH hS.ext hi fun p fa fc hE=>?_
  refine J3 (hE.ex hS.ext) hk fun p=>?_
  have hem:=List.getElem_mem hk
  have hlen:=ho.len i
  obtain⟨g1,_,_⟩:=ho.e i hi _ hem
  generalize(A.E i)[k]=e at hem g1⊢
  have hno:=fun hf=>adm.no (k:=i) hem hf
  refine hS.ns rfl rfl rfl fun GU re hS aex=>?_
  have hS:SH [] H5 GU [(re,47,[vn e.1,vn e.2.1,vn e.2.2])]:=hS
  have OB:=aa1.trans aex
  have uY:∀(x2 bU dJ jc:Value)(rg:Rs)(H':ae),Ext H6 H'→aT Pg X (sub d_ [1,1,1,1,1,1,1,1,1,0,1,0,0,1,0,0,1,0,0,1,1]) (gH (.string s) x2 (pt r3) (vi ok) (.slice ca A.nr cc) (.slice (some ⟨dg,0,none⟩) A.nr A.nr) (vn A.nr) x8 x9 aW bg (.slice ea A.nr ec) (vn i) (vn k) bU dJ jc rg H') K3:=by
   intro x2 bU dJ jc rg H' hx
   subst hK3
   refine tl ?_
   refine ay ?_
   exact⟨(A.E i).length -(k +1),aa,x2,vn (k +1),bU,dJ,jc,_,_,by rw[show vn (k +1)=vi ((k:Int) +1)from congrArg vi aa],k +1,rfl,aa,hx⟩
  have inn:∀(rg:Rs),A.JO e→aT Pg X (sub d_ [1,1,1,1,1,1,1,1,1,0,1,0,0,1,0,0,1,0,0,1,0,0,1,1]) (gH (.string s) x2 (pt r3) (vi ok) (.slice ca A.nr cc) (.slice (some ⟨dg,0,none⟩) A.nr A.nr) (vn A.nr) x8 x9 aW bg (.slice ea A.nr ec) (vn i) (vn k) (pt re) dJ jc rg GU) (iA 9 (kN Pg X (sub d_ [1,1,1,1,1,1,1,1,1,0,1,0,0,1,0,0,1,0,0,1,1]) K3)):=by
   intro rg hf
   refine tl ?_
   refine hS.mM (o:=0) (n:=6) (vs:=q.cells A) cN hr3 ?_
   refine au ?_
   refine hS.ld 0 (o:=2) rfl rfl ?_
   refine ak.mono (free_spec hS.wf (hA.ex hS.ext) ho g1) ?_
   rintro _ Zw ⟨⟨la,lc,fl,rfl,hfl,hup,hfm⟩,aey⟩
   have hll:=QH hup fun t ht=>(At.Rc.own ho (k:=A.O e.2.2) (fun s hs=>by subst hs;exact⟨g1,rfl⟩) ((hfm t).1 ht)).1
   refine lp2 2 17 (I:=fun m x2 jc H'=>∃j:Nat,jc=vn j∧j +m=fl.length∧H'=Zw) ?_ fl.length ⟨0,rfl,aa,rfl⟩
   rintro m3 y2 jc aeu Zw ⟨j,rfl,hjm,rfl⟩
   refine tl ?_
   refine au ?_
   refine ah (fun Py=>?_) (fun Py=>?_)
   rotate_left
   ·exact uY _ _ _ _ _ _ (OB.trans aey)
   have hj:j<fl.length:=by omega
   refine hfl.ix hj (zz hj) fun p=>?_
   rw[getD_in (h:=hj)]
   refine au ?_
   refine ah (fun hc6=>?_) (fun hc6=>?_)
   ·have:fl[j]=i:=by omega
    exact absurd ((hfm i).1 (this▸List.getElem_mem hj)) (hno hf)
   ·refine ay ?_
    exact⟨fl.length -(j +1),aa,_,_,_,_,rfl,j +1,iC,aa,rfl⟩
  repeat(first|(refine hS.az ?_)|(refine hS.a_ ?_))
  refine ah (fun hc3=>?_) (fun hc3=>?_)
  ·refine ay ?_
   subst hK3
   exact⟨(A.E i).length -(k +1),aa,_,_,_,_,_,_,_,rfl,k +1,iC,aa,OB⟩
  refine hS.a_ ?_;refine hS.az ?_
  refine ah (fun hc4=>?_) (fun hc4=>?_)
  ·have hca:=ho.call hem aa
   refine hS.a_ ?_
   refine(hl.ex OB).at hca fun p t ht=>?_
   refine au ?_
   refine aA (fun hb=>?_) (fun hb=>?_)
   ·refine ay ?_
    subst hK3
    exact⟨(A.E i).length -(k +1),aa,_,_,_,_,_,_,_,rfl,k +1,iC,aa,OB⟩
   ·exact inn _ (.inr ⟨aa,(hlr _ hca).1 (ht.1 (by simpa using hb))⟩)
  ·refine inn _ (.inl ?_)
   rcases(ho.e i hi e hem).2.2 with h|⟨h,_⟩|⟨h,_⟩
   ·exact h
   ·exact absurd aa hc3
   ·exact absurd aa hc4
 have hi:i<A.nr:=by omega
 refine Ht 8 9 10 11 (I:=fun m x8 x9 aW bg H'=>∃(j:Nat)(last:Int),x9=vn j∧j +m=A.nr∧x8=vi last∧(last=-1∨∃k:Nat,last=k∧g[k]?=some false)∧(last=-1→∀j',j'<j→¬Fre ls g j')∧H'=H5) ?_ A.nr ⟨0,-1,rfl,aa,rfl,.inl rfl,fun _ j' h=>by omega,rfl⟩
 rintro m2 x8 x9 aW bg aaW H5 ⟨j,last,rfl,hjm,rfl,hl1,hl2,rfl⟩
 refine aT.i_ fun K2 hK2=>?_
 refine tl ?_
 refine au ?_
 refine ah (fun hc2'=>?_) (fun hc2'=>?_)
 rotate_left
 ·subst hK2
  refine au ?_
  obtain rfl:j=A.nr:=by omega
  refine tl ?_
  refine au ?_
  rcases hl1 with rfl|⟨k,rfl,hk⟩
  ·obtain⟨j,hj,hF⟩:=adn hgl aa
   exact absurd hF (hl2 rfl j hj)
  refine ah (fun aaQ=>absurd aaQ aa) (fun _=>?_)
  have hkl:k<A.nr:=by rw[←hgl];exact(List.getElem?_eq_some_iff.1 hk).1
  refine hS.Tt hkl (by simp;omega) (kk:=fun p H6 hS=>?_)
  refine tl ?_
  refine ay ?_
  subst hK
  have ho':=GN hk
  refine⟨m -1,aa,_,_,_,_,_,_,_,_,rfl,i +1,g.set k true,iC,aa,by rw[List.length_set];exact hgl,aa,hS.to ?_⟩
  exact List.map_set.symm
 have hj:j<A.nr:=by omega
 obtain⟨bj,hbj⟩:∃b,g[j]?=some b:=⟨_,List.getElem?_eq_getElem aa⟩
 refine hS.ix (v:=.bool bj) hj (dZ _ hbj) fun p=>?_
 refine au ?_
 obtain⟨ra,rc,hrv,hrf⟩:=hrows hS.ext hj
 have hrl:=(hc3 j hj).2
 refine lp2 10 11 (I:=fun m aW bg H'=>∃(k:Nat)(b:Bool),bg=vn k∧k +m=(ls[j]?.getD []).length∧aW=.bool b∧(b=true→bj=false)∧(bj=false→(∀x∈(ls[j]?.getD []).take k,g[x]?=some true)→b=true)∧H'=H5) ?_ (ls[j]?.getD []).length ⟨0,!bj,rfl,aa,rfl,fun h=>by simpa using h,fun h _=>by simp[h],rfl⟩
 rintro m3 aW bg adk H5 ⟨k,b,rfl,hkm,rfl,hb1,hb2,rfl⟩
 refine tl ?_
 refine(hcl.ex hS.ext).ix hj hrv fun p=>?_
 refine au ?_
 refine ah (fun hc4=>?_) (fun hc4=>?_)
 rotate_left
 ·obtain rfl:k=(ls[j]?.getD []).length:=by omega
  rw[List.take_length]at hb2
  refine tl ?_
  refine au ?_
  have uY:∀(x8:Int)(aW bg:Value)(rg:Rs),(x8=-1∨∃k:Nat,x8=k∧g[k]?=some false)→(x8=-1→last=-1∧¬Fre ls g j)→aT Pg X (sub d_ [1,1,1,1,1,1,0,1,0,0,1,0,0,1,0,1,0,0,1,1]) (gH (.string s) x2 (pt r3) (vi ok) (.slice ca A.nr cc) (.slice (some ⟨dg,0,none⟩) A.nr A.nr) (vn i) (vi x8) (vn j) aW bg top top top top top top rg H5) K2:=by
   intro x8 aW bg rg h1 h2
   subst hK2
   refine tl ?_
   refine ay ?_
   refine⟨A.nr -(j +1),aa,_,_,_,_,_,_,rfl,j +1,x8,iC,aa,rfl,h1,fun h j' hj'=>?_,rfl⟩
   obtain⟨h3,h4⟩:=h2 h
   rcases Nat.lt_or_ge j' j with h5|h5
   ·exact hl2 h3 j' h5
   ·obtain rfl:j'=j:=by omega
    exact h4
  refine aA (fun hb=>?_) (fun hb=>?_)
  ·exact uY _ _ _ _ (.inr ⟨j,rfl,by rw[hbj,hb1 hb]⟩) fun h=>by omega
  ·refine uY _ _ _ _ hl1 fun h=>⟨h,fun⟨h1,h2⟩=>?_⟩
   rw[hbj]at h1
   rw[hb2 (Option.some.inj h1) h2]at hb
   cases hb
 have hk:k<(ls[j]?.getD []).length:=by omega
 have hke:(ls[j]?.getD [])[k]?=some (ls[j]?.getD [])[k]:=List.getElem?_eq_getElem hk
 have hxl:=hlt j hj _ (List.getElem_mem hk)
 have htk:=List.take_add_one (l:=ls[j]?.getD []) (i:=k)
 rw[hke]at htk
 generalize(ls[j]?.getD [])[k]=x at hke hxl htk
 obtain⟨bx,hbx⟩:∃b,g[x]?=some b:=⟨_,List.getElem?_eq_getElem aa⟩
 refine aA (fun hb=>?_) (fun hb=>?_)
 ·refine(hcl.ex hS.ext).ix hj hrv fun p=>?_
  refine hrf.ix hk (dZ _ hke) fun p=>?_
  refine au ?_
  rw[decide_eq_true aa]
  refine au ?_
  refine(hcl.ex hS.ext).ix hj hrv fun p=>?_
  refine hrf.ix hk (dZ _ hke) fun p=>?_
  refine au ?_
  rw[decide_eq_true aa]
  refine au ?_
  refine(hcl.ex hS.ext).ix hj hrv fun p=>?_
  refine hrf.ix hk (dZ _ hke) fun p=>?_
  refine hS.ix (v:=.bool bx) hxl (dZ _ hbx) fun p=>?_
  refine ay ?_
  exact⟨(ls[j]?.getD []).length -(k +1),aa,_,_,_,_,rfl,k +1,bx,iC,aa,rfl,fun _=>hb1 hb,fun _ h=>by
   have:=h x (by rw[htk];simp)
   rw[hbx]at this
   exact Option.some.inj this,rfl⟩
 ·refine ay ?_
  exact⟨(ls[j]?.getD []).length -(k +1),aa,_,_,_,_,rfl,k +1,false,iC,aa,rfl,fun h=>by(cases h),fun h1 h=>(by
   rw[hb2 h1 fun y hy=>h y (by rw[htk];exact List.mem_append_left _ hy)]at hb
   cases hb),rfl⟩
end
end Go.Proofs.Lu
namespace Go.Proofs.YtdkcdlnfeodaaaaGreatDoor
open Go.ChangeShapes Go.WideShapes Go.ChangeAt Go.RowKit
theorem X5:(Rows.leftNoneRow.wf (OpenSpec.ofChange Rows.leftNoneSpec))=true:=by kernel_rfl
theorem X6:(laidOutB Tryz.prog)=true:=by kernel_rfl
theorem closed2:(mapsRowed Tryz.prog)=true:=by kernel_rfl
theorem X7:(Tryz.f6.params.all (Tryz.prog.readableRec ·))=true:=by kernel_rfl
theorem X8:(namedTie Tryz.prog Rows.leftNoneRow.named Rows.leftNoneSpec.vars)=true:=by kernel_rfl
theorem X9:((Rows.leftNoneRow.stops==[]))=true:=by kernel_rfl
theorem X_:((Tryz.prog.stops==[]))=true:=by kernel_rfl
theorem Ya:((Rows.leftNoneRow.knobs==[]))=true:=by kernel_rfl
theorem Yb:((Tryz.prog.stopKnobs==[]))=true:=by kernel_rfl
theorem Yc:((Rows.leftNoneRow.inPlace==Tryz.prog.inPlace 6))=true:=by kernel_rfl
theorem Vp:((Rows.leftNoneRow.unfollowed==Tryz.prog.unfollowed 6))=true:=by kernel_rfl
theorem Vq:((Rows.leftNoneRow.recurses==Tryz.prog.recurses 6))=true:=by kernel_rfl
theorem Vr:((Rows.leftNoneRow.named==Tryz.prog.varsNamed 6))=true:=by kernel_rfl
theorem Vs:((Rows.leftNoneRow.maps==(Tryz.f6.params.toList++Rows.leftNoneSpec.plain.varTypes Tryz.prog).any (Tryz.prog.mapsRec ·)))=true:=by kernel_rfl
theorem Vt:((Rows.leftNoneRow.ifaces==(Tryz.f6.params.toList++Rows.leftNoneSpec.plain.varTypes Tryz.prog).any (Tryz.prog.ifacesRec ·)))=true:=by kernel_rfl
theorem Vu:((Rows.leftNoneRow.mapsOut==Tryz.prog.mapsAmong Tryz.f6.resultTypes.toList))=true:=by kernel_rfl
theorem Vv:((Rows.leftNoneRow.loops==(Tryz.f6.params.toList++Rows.leftNoneSpec.plain.varTypes Tryz.prog).any (Tryz.prog.loopsFrom ·)))=true:=by kernel_rfl
theorem Vw:((Rows.leftNoneRow.wideKeys==(Tryz.f6.params.toList++Rows.leftNoneSpec.plain.varTypes Tryz.prog++Tryz.f6.resultTypes.toList).any (Tryz.prog.wideKeysFrom ·)))=true:=by kernel_rfl
theorem Vx:(Rows.leftNoneSpec.vars.all (Tryz.prog.varReadable ·))=true:=by kernel_rfl
theorem Vy:(Tryz.f6.resultTypes.all (fun t=>Tryz.prog.readableRec t&&decide (t<Tryz.prog.types.size)))=true:=by kernel_rfl
theorem Vz:((Rows.leftNoneRow.ifacesOut==Tryz.f6.resultTypes.toList.any (Tryz.prog.ifacesRec ·)))=true:=by kernel_rfl
theorem VA:((Rows.leftNoneRow.loopsOut==Tryz.f6.resultTypes.toList.any (Tryz.prog.loopsFrom ·)))=true:=by kernel_rfl
theorem VB:((Rows.leftNoneRow.plainKeys==Tryz.prog.plainKeys))=true:=by kernel_rfl
theorem VC:(Rows.leftNoneRow.shortTexts.isNone)=true:=by kernel_rfl
theorem VD:(Tryz.prog.stopsHeard)=true:=by kernel_rfl
theorem VE:(Tryz.prog.mayEnter)=true:=by kernel_rfl
theorem VF:((Rows.leftNoneRow.lifted==Tryz.prog.liftsFinal))=true:=by kernel_rfl
theorem VG:((Tryz.prog.make==some Rows.leftNoneRow.make))=true:=by kernel_rfl
theorem VH:((Rows.leftNoneRow.kinds==(if Rows.leftNoneRow.domain.isEmpty then[]else Tryz.f6.params.toList.map fun t=>match Tryz.prog.underlying t with|some (.int k)=>some k|_=>none)))=true:=by kernel_rfl
theorem VI:((Rows.leftNoneRow.pinned==Rows.leftNoneRow.pinnedBy))=true:=by kernel_rfl
theorem VJ:((Rows.leftNoneRow.veiled==(Tryz.f6.params.toList++Rows.leftNoneSpec.plain.varTypes Tryz.prog++Tryz.f6.resultTypes.toList).any (Tryz.prog.veiledRec ·)))=true:=by kernel_rfl
theorem VK:(Rows.leftNoneRow.veiledFits Tryz.prog Tryz.f6.params.toList (Tryz.f6.params.toList++Rows.leftNoneSpec.plain.varTypes Tryz.prog++Tryz.f6.resultTypes.toList))=true:=by kernel_rfl
set_option maxRecDepth 100000 in
theorem closed:joinedFacts Tryz.prog 6 Tryz.f6 Rows.leftNoneSpec Rows.leftNoneRow=true:=by
 unfold joinedFacts
 exact(Go.Ae.f_ ((Go.Ae.f_ ((Go.Ae.f_ ((Go.Ae.f_ ((Go.Ae.f_ ((Go.Ae.f_ ((Go.Ae.f_ ((Go.Ae.f_ ((Go.Ae.f_ ((Go.Ae.f_ ((Go.Ae.f_ ((Go.Ae.f_ ((Go.Ae.f_ ((Go.Ae.f_ ((Go.Ae.f_ ((Go.Ae.f_ ((Go.Ae.f_ ((Go.Ae.f_ ((Go.Ae.f_ ((Go.Ae.f_ ((Go.Ae.f_ ((Go.Ae.f_ ((Go.Ae.f_ ((Go.Ae.f_ ((Go.Ae.f_ ((Go.Ae.f_ ((Go.Ae.f_ ((Go.Ae.f_ ((Go.Ae.f_ ((Go.Ae.f_ ((Go.Ae.f_ (X5) (X6))) (closed2))) (X7))) (X8))) (X9))) (X_))) (Ya))) (Yb))) (Yc))) (Vp))) (Vq))) (Vr))) (Vs))) (Vt))) (Vu))) (Vv))) (Vw))) (Vx))) (Vy))) (Vz))) (VA))) (VB))) (VC))) (VD))) (VE))) (VF))) (VG))) (VH))) (VI))) (VJ))) (VK))
section
open Go.Ae Go.Proofs.Lu Go.ChangeShapes Go.WideShapes Go.ChangeAt Go.RowKit Go.Deep
theorem own:ownKnob Tryz.prog.godebug=none:=by kernel_rfl
theorem laidOut:laidOutB Tryz.prog=true:=by kernel_rfl
theorem Yd{W:World}(h:laidMetH Tryz.prog Rows.leftNoneRow.laid W):Lu.Laid W:=by
 rw[MakeChecks.laidMetH_plain _ _ _ (by kernel_rfl)]at h
 obtain⟨ps,⟨ga,ta,csa,fa,pa,qa,hga,hta,hva,hda,⟨gb,tb,csb,fb,pb,qb,hgb,htb,hvb,hdb,_⟩,_⟩,_,_⟩:=h
 obtain rfl:=Option.some.inj ((show Tryz.prog.globalNamed "unicode/utf8.acceptRanges" =some 2 by kernel_rfl).symm.trans hga)
 obtain rfl:=Option.some.inj ((show Tryz.prog.globalNamed "unicode/utf8.first" =some 1 by kernel_rfl).symm.trans hgb)
 obtain rfl:=Option.some.inj ((show(Tryz.prog.globals[2]?).map (·.type)=some 285 by kernel_rfl).symm.trans hta)
 obtain rfl:=Option.some.inj ((show(Tryz.prog.globals[1]?).map (·.type)=some 282 by kernel_rfl).symm.trans htb)
 have block:∀{n:String}{g:Nat}{cs:Array Value},Tryz.prog.globalNamed n=some g→W.var? Tryz.prog n=some cs→∃ty fr,W.heap[g]?=some (.cells cs ty fr):=by
  intro n g cs hg hv
  simp only[World.var?,hg,Option.bind_some]at hv
  split at hv
  ·next cs' ty fr hh=>cases hv;exact⟨ty,fr,hh⟩
  ·cases hv
 obtain⟨tya,fra,ba⟩:=block hga hva
 obtain⟨tyb,frb,bb⟩:=block hgb hvb
 refine⟨?_,⟨tyb,csb,frb,bb,Un hdb⟩,⟨tya,csa,fra,ba,P4 hda⟩⟩
 have:=(Array.getElem?_eq_some_iff.1 ba).1
 omega
theorem Ye{W:World}(hL:Lu.Laid W)(s:ByteArray)(hs:s.size≤maxLen):Calls Tryz.prog 6 #[.string s] W fun e w'=>e=.returned (.bool true)∧Below W.heap.size W w':=by
 have hwf:Wf (Lr W T0):=Nat.le_refl _
 refine PO (P:=Tryz.prog) (X:=X) (H:=Lr W T0) (b:=true) (args:=[.string s]) hL.size mixed (pW.F8 fns) xs ors Tryz.func6 (by kernel_rfl) ?_ (Nat.le_refl _) (WZ fun r o h=>nomatch h) (args':=[.string s]) (.cons _ _ _ _ (.sc _ rfl) .nil)
 exact(leftNone hwf hL.tabs s).mono fun v H' h=>⟨h.1,h.2.low _ (Nat.le_refl _) (Nat.le_refl _) fun r h=>nomatch h⟩
theorem lifted(os:Os)(started:os.Started)(H:Type)(enc:TypeId×Value→H):
 ReturnsInHanded {} Tryz.checked os 6 .any (fun w args=>(Rows.leftNoneSpec.pre enc Tryz.prog Tryz.f6 [] false w args∧laidMetH Tryz.prog Rows.leftNoneRow.laid w)∧sizedMet enc Tryz.prog Tryz.f6 (OpenSpec.ofChange Rows.leftNoneSpec) false w args)
  (Rows.leftNoneSpec.post enc Tryz.prog Tryz.f6 false true false false):=by
 refine returnsInHanded_of_change_and (C:=Tryz.checked) (X:=fun w _=>laidMetH Tryz.prog Rows.leftNoneRow.laid w) (fun _ _ _ hh h=>h.of_heap hh) own started (by kernel_rfl) Tryz.func6
  (ChangeSpec.witness_shaped (enc:=enc) (C:=Tryz.checked) (os:=os) (X:=fun w _=>laidMetH Tryz.prog Rows.leftNoneRow.laid w) false (World.laidAll Tryz.prog os Rows.leftNoneRow.laid) #[.string ⟨#[]⟩] 8 (World.laidAll_os _ _ _)
   (World.shaped_of_ZipB (by kernel_rfl) (by kernel_rfl)) (by kernel_rfl) (by kernel_rfl) (by kernel_rfl)
   (by rw[MakeChecks.laidMetH_plain _ _ _ (by kernel_rfl)];exact laidMet_laidAll _ (by kernel_rfl) (by kernel_rfl))) ?_
 intro W base args ds gs before hval0 hW _ hwt hL _
 have hval:∀(j:Nat) t v,Tryz.f6.params[j]?=some t→args[j]?=some v→Value.okWide Tryz.prog W .any base t v:=hval0
 have hW':=hW
 obtain⟨p,q,hA0,hV,rfl,_,_⟩:=hW
 have hA:DataW.TrodAll enc Tryz.prog W 0 (fun _=>true) true Tryz.f6.params.toList args.toList ds p:=hA0
 rw[Tryz.params6]at hA hval hwt
 obtain⟨v0,vs0,d0,ds0,p0,q0,hargs,rfl,rfl,h0,r0⟩:=trodAll_cons hA
 obtain⟨rfl,rfl,rfl⟩:=trodAll_nil r0
 obtain rfl:args=#[v0]:=by cases args;simp_all
 obtain⟨rfl,rfl⟩:=trodVars_none hV
 simp only[List.append_nil]at hW'
 obtain⟨fuel,hd⟩:=id h0
 obtain⟨s,rfl⟩:=okWide_string Tryz.underlying9 (hval 0 9 v0 rfl rfl)
 have hs:s.size≤maxLen:=by
  obtain⟨s',e1,_,e3⟩:=DataW.trod_string Tryz.underlying9 hd
  injection e1 with e1 _
  injection e1 with e1
  subst e1;exact e3
 refine(Ye (Yd hL) s hs).mono fun e W' ⟨he,hb⟩=>?_
 subst he
 have hlt:∀x∈p0,x.block<W.heap.size:=fun x hx=>hW'.lt x (by simpa using hx)
 have g0:DataW.Trod enc Tryz.prog W' 0 (fun b=>decide (b<W.heap.size)) true 9 (.string s) d0 p0:=
  WideElems.Trod_stays laidOut (by kernel_rfl) (of_decide_eq_true (by kernel_rfl)) h0 (fun x hx=>hb.same (hlt x hx)) (fun x hx=>by simpa using hlt x hx)
 refine⟨_,rfl,_,_,_,[],p0++[],[],hW',trodAll_mk1 (shut_bool Tryz.underlying4 _),trodAll_cons_mk g0 trodAll_mk0,rfl,?_,fun h=>by cases h⟩
 refine World.keptBut_mono (fun x hx=>⟨hx,?_⟩) (hb.frame (·∈p0))
 simpa using hx
theorem named:Tryz.pinned.checked.prog.funcNamed Rows.leftNoneRow.func=some 6:=by kernel_rfl
theorem QI:Tryz.f6.isInstance Tryz.pinned.checked.prog Rows.leftNoneRow.origin Rows.leftNoneRow.targs:=of_decide_eq_true (by kernel_rfl)
theorem wrapper:Tryz.f6.isWrapper Tryz.pinned.checked.prog Rows.leftNoneRow.wrapper Rows.leftNoneRow.mainSum:=by
 unfold Func.isWrapper
 first|(rw[if_pos (by decide +kernel)];kernel_rfl)|(rw[if_neg (by decide +kernel)];exact⟨rfl,rfl⟩)
theorem holds:Rows.LeftNoneSaid:=
 OpenClaim.holds_of_wide 6 Tryz.f6 rfl rfl rfl rfl rfl rfl rfl ⟨rfl,rfl,rfl,rfl,rfl⟩ rfl rfl rfl rfl rfl named Tryz.func6 closed QI wrapper (fun os started H enc _=>lifted os started H enc)
theorem Yf:Rows.leftNoneRow.wfByText (OpenSpec.ofChange Rows.leftNoneSpec)=true:=by kernel_rfl
theorem QJ:Tryz.pinned.checked.prog.mainIs=some (true, "32f7528da065070f008ebf890a3bbb37ef6b53503a88d639bc554603bffb0775".toList):=by kernel_rfl
theorem MM:Tryz.prog.funcNamed "souffleur/souffleurlaw18.LeftNone" =some 6:=by kernel_rfl
theorem MN:false=Tryz.pinned.checked.prog.looks []:=by kernel_rfl
theorem MO:([9].all fun u=>!Tryz.prog.wantsStandIn u)=true:=by kernel_rfl
theorem QK:false=Rows.leftNoneRow.goesBy Tryz.pinned.checked.prog:=by kernel_rfl
theorem leftNone_card:Rows.LeftNoneCardSaid:=
 Claim7.holds_tied_plain_at .later [] [.data,.pinned] true (true, "32f7528da065070f008ebf890a3bbb37ef6b53503a88d639bc554603bffb0775") false holds (fun _ h=>by cases h) Yf (fun _ h=>by cases h) leftNone_row_tie rfl ⟨rfl,rfl⟩ QJ rfl
  (fun f fn hf hfn=>by
   obtain rfl:f=6:=Option.some.inj (MM.symm.trans hf)|>.symm
   obtain rfl:fn=Tryz.f6:=(Option.some.inj (Tryz.func6.symm.trans hfn)).symm
   exact⟨MN,fun j t ht=>by
    rw[Tryz.params6]at ht
    have hm:t∈[9]:=by simpa using Array.mem_of_getElem? ht
    exact(show Tryz.prog.wantsStandIn t=false by simpa using List.all_eq_true.1 MO t hm)⟩)
  QK
#print axioms leftNone_card
end
end Go.Proofs.YtdkcdlnfeodaaaaGreatDoor
