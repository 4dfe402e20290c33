/-
  The law UsefulRules, whatever text it is given: the call returns true; the listed package-level variables begin as the text of the program lays them.
-/
import Derived.Test.YtdkcdlnfeodaaaaGreatDoorR14
import Derived.Test.YtdkcdlnfeodaaaaGreatDoorR15
import Derived.Test.YtdkcdlnfeodaaaaGreatDoorRows
import Derived.Test.YtdkcdlnfeodaaaaGreatDoorProg
import Derived.Below
import Derived.RowKit3
import Derived.Lib.Bytealg
import Derived.Calls
import Derived.Control
import Derived.Orders
import Derived.Scope
import Derived.Laws.Externs
import Derived.Laws.Tables
import Derived.Lib.UnsafeStr
import Derived.Lib.ConvBytes
import Derived.Laws.BytesString
import Derived.Laws.IdiomStrings
import Derived.Laws.Sem
import Derived.Laws.Cells
import Derived.Laws.World
import Derived.Laws.StructEq
import Derived.IntWalk
import Derived.Laws.Strings
import Derived.ChangeKeysEq
import Derived.ProofKit
import Derived.OpenShut
import Derived.Carry
import Derived.Deep.Slices
import Derived.Deep.Fields
import Derived.ChangeSame
import Derived.LaidMore
import Derived.Lay
import Derived.JoinedOf
import Derived.Test.YtdkcdlnfeodaaaaGreatDoorCards
import Derived.Test.YtdkcdlnfeodaaaaGreatDoorTie
import Derived.SevenTiedAt
import Derived.Stop.Joined
set_option linter.unusedVariables false
set_option linter.unusedSimpArgs false
set_option maxRecDepth 100000
set_option maxHeartbeats 4000000
noncomputable section
namespace Go.Proofs.YtdkcdlnfeodaaaaGreatDoor
open Go.Ae Go.Proofs.Lu Go.ChangeShapes Go.WideShapes Go.ChangeAt Go.RowKit Go.Deep
theorem own:ownKnob Tryz.prog.godebug=none:=by kernel_rfl
theorem laidOut:laidOutB Tryz.prog=true:=by kernel_rfl
theorem ace{W:World}(h:laidMetH Tryz.prog Rows.usefulRulesRow.laid W):Lu.Laid W:=by
 rw[MakeChecks.laidMetH_plain _ _ _ (by kernel_rfl)]at h;obtain⟨ps,⟨ga,ta,csa,fa,pa,qa,hga,hta,hva,hda,⟨gb,tb,csb,fb,pb,qb,hgb,htb,hvb,hdb,_⟩,_⟩,_,_⟩:=h;obtain rfl:=bN<|(show Tryz.prog.globalNamed "unicode/utf8.acceptRanges" =some 2 by kernel_rfl).symm.trans hga;obtain rfl:=bN<|(show Tryz.prog.globalNamed "unicode/utf8.first" =some 1 by kernel_rfl).symm.trans hgb;obtain rfl:=bN<|(show(Tryz.prog.globals[2]?).map (·.type)=some 285 by kernel_rfl).symm.trans hta;obtain rfl:=bN<|(show(Tryz.prog.globals[1]?).map (·.type)=some 282 by kernel_rfl).symm.trans htb
 have block:∀{n:String}{g:Nat}{cs:Array Value},Tryz.prog.globalNamed n=some g->W.var? Tryz.prog n=some cs->∃ty fr,W.heap[g]?=some (.cells cs ty fr):=by
  intro n g cs hg hv;simp only[World.var?,hg,Option.bind_some]at hv;split at hv
  .next cs' ty fr hh=>cases hv;exact⟨ty,fr,hh⟩
  .cases hv
 obtain⟨tya,fra,ba⟩:=block hga hva;obtain⟨tyb,frb,bb⟩:=block hgb hvb;refine⟨?_,⟨tyb,csb,frb,bb,Y7 hdb⟩,⟨tya,csa,fra,ba,Vj hda⟩⟩;have:=(cr.1 ba).1;omega
theorem acf{W:World}(hL:Lu.Laid W)(s:ByteArray)(hs:s.size<=maxLen):Calls Tryz.prog 3 #[.string s] W λe w'=>e=.returned (.bool true)/\Below W.heap.size W w':=by
 have hwf:Wf (QY W T0):=aj _;refine U_ (P:=Tryz.prog) (X:=X) (H:=QY W T0) (b:=true) (args:=[.string s]) hL.size mixed (xU.L9 fns) xs ors Tryz.func3 (by kernel_rfl) ?_ (aj _) (abr λr o h=>nomatch h) (args':=[.string s])<|.cons _ _ _ _ (.sc _ rfl) .nil;exact(usefulRules hwf hL.tabs s).mono λv H' h=>⟨h.1,h.2.low _ (aj _) (aj _) λr h=>nomatch h⟩
theorem lifted(os:Os)(started:os.Started)(H:Type)(enc:TypeId×Value->H):
 ReturnsInHanded {} Tryz.checked os 3 .any (λw args=>(Rows.usefulRulesSpec.pre enc Tryz.prog Tryz.f3 [] false w args/\laidMetH Tryz.prog Rows.usefulRulesRow.laid w)/\sizedMet enc Tryz.prog Tryz.f3 (OpenSpec.ofChange Rows.usefulRulesSpec) false w args)
  (Rows.usefulRulesSpec.post enc Tryz.prog Tryz.f3 false true false false):=by
 refine returnsInHanded_of_change_and (C:=Tryz.checked) (X:=λw _=>laidMetH Tryz.prog Rows.usefulRulesRow.laid w) (λ_ _ _ hh h=>h.of_heap hh) own started (by kernel_rfl) Tryz.func3
  (ChangeSpec.witness_shaped (enc:=enc) (C:=Tryz.checked) (os:=os) (X:=λw _=>laidMetH Tryz.prog Rows.usefulRulesRow.laid w) false (World.laidAll Tryz.prog os Rows.usefulRulesRow.laid) #[.string ⟨#[]⟩] 8 (World.laidAll_os _ _ _)
   (World.shaped_of_ZipB (by kernel_rfl)<|by kernel_rfl) (by kernel_rfl) (by kernel_rfl) (by kernel_rfl)
   (by rw[MakeChecks.laidMetH_plain _ _ _ (by kernel_rfl)];exact laidMet_laidAll _ (by kernel_rfl)<|by kernel_rfl)) ?_
 intro W base args ds gs before hval0 hW _ hwt hL _;have hval:∀(j:Nat) t v,Tryz.f3.params[j]?=some t->args[j]?=some v->Value.okWide Tryz.prog W .any base t v:=hval0;have hW':=hW;obtain⟨p,q,hA0,hV,rfl,_,_⟩:=hW;have hA:DataW.TrodAll enc Tryz.prog W 0 (λ_=>true) true Tryz.f3.params.toList args.toList ds p:=hA0;rw[Tryz.params3]at hA hval hwt;obtain⟨v0,vs0,d0,ds0,p0,q0,hargs,rfl,rfl,h0,r0⟩:=trodAll_cons hA;obtain⟨rfl,rfl,rfl⟩:=trodAll_nil r0;obtain rfl:args=#[v0]:=by cases args;simp_all
 obtain⟨rfl,rfl⟩:=trodVars_none hV;simp only[aQ]at hW';obtain⟨fuel,hd⟩:=id h0;obtain⟨s,rfl⟩:=okWide_string Tryz.underlying9<|hval 0 9 v0 rfl rfl
 have hs:s.size<=maxLen:=by
  obtain⟨s',e1,_,e3⟩:=DataW.trod_string Tryz.underlying9 hd;injection e1 with e1 _
  injection e1 with e1
  subst e1;exact e3
 refine(acf (ace hL) s hs).mono λe W' ⟨he,hb⟩=>?_;subst he;have hlt:∀x∈p0,x.block<W.heap.size:=λx hx=>hW'.lt x (by simpa using hx)
 have g0:DataW.Trod enc Tryz.prog W' 0 (λb=>decide<|b<W.heap.size) true 9 (.string s) d0 p0:=
  WideElems.Trod_stays laidOut (by kernel_rfl) (cZ<|by kernel_rfl) h0 (λx hx=>hb.same<|hlt x hx) (λx hx=>by simpa using hlt x hx)
 refine⟨_,rfl,_,_,_,[],p0++[],[],hW',trodAll_mk1<|shut_bool Tryz.underlying4 _,trodAll_cons_mk g0 trodAll_mk0,rfl,?_,λh=>by cases h⟩;refine World.keptBut_mono (λx hx=>⟨hx,?_⟩)<|hb.frame (·∈p0);simpa using hx
theorem named:Tryz.pinned.checked.prog.funcNamed Rows.usefulRulesRow.func=some 3:=by kernel_rfl
theorem VY:Tryz.f3.isInstance Tryz.pinned.checked.prog Rows.usefulRulesRow.origin Rows.usefulRulesRow.targs:=cZ (by kernel_rfl)
theorem wrapper:Tryz.f3.isWrapper Tryz.pinned.checked.prog Rows.usefulRulesRow.wrapper Rows.usefulRulesRow.mainSum:=by
 unfold Func.isWrapper
 first|(rw[if_pos (by decide +kernel)];kernel_rfl)|(rw[if_neg (by decide +kernel)];exact⟨rfl,rfl⟩)
theorem holds:Rows.UsefulRulesSaid:=
 OpenClaim.holds_of_wide 3 Tryz.f3 rfl rfl rfl rfl rfl rfl rfl ⟨rfl,rfl,rfl,rfl,rfl⟩ rfl rfl rfl rfl rfl named Tryz.func3 closed VY wrapper (λos started H enc _=>lifted os started H enc)
theorem acg:Rows.usefulRulesRow.wfByText (OpenSpec.ofChange Rows.usefulRulesSpec)=true:=by kernel_rfl
theorem VZ:Tryz.pinned.checked.prog.mainIs=some (true, "32f7528da065070f008ebf890a3bbb37ef6b53503a88d639bc554603bffb0775".toList):=by kernel_rfl
theorem Sb:Tryz.prog.funcNamed "souffleur/souffleurlaw17.UsefulRules" =some 3:=by kernel_rfl
theorem Sc:false=Tryz.pinned.checked.prog.looks []:=by kernel_rfl
theorem Se:([9].all λu=>!Tryz.prog.wantsStandIn u)=true:=by kernel_rfl
theorem V2:false=Rows.usefulRulesRow.goesBy Tryz.pinned.checked.prog:=by kernel_rfl
theorem usefulRules_card:Rows.UsefulRulesCardSaid:=
 Claim7.holds_tied_plain_at .later [] [.data,.pinned] true (true, "32f7528da065070f008ebf890a3bbb37ef6b53503a88d639bc554603bffb0775") false holds (λ_ h=>by cases h) acg (λ_ h=>by cases h) usefulRules_row_tie rfl ⟨rfl,rfl⟩ VZ rfl
  (λf fn hf hfn=>by
   obtain rfl:f=3:=bN (Sb.symm.trans hf)|>.symm;obtain rfl:fn=Tryz.f3:=(bN<|Tryz.func3.symm.trans hfn).symm
   exact⟨Sc,λj t ht=>by
    rw[Tryz.params3]at ht;have hm:t∈[9]:=by simpa using Array.mem_of_getElem? ht
    exact(show Tryz.prog.wantsStandIn t=false by simpa using bU.1 Se t hm)⟩)
  V2
#print axioms usefulRules_card
end Go.Proofs.YtdkcdlnfeodaaaaGreatDoor
