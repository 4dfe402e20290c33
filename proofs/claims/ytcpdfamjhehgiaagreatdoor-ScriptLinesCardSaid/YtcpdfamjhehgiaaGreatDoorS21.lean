/-
  ScriptLines: whatever act it is given, the call returns true; the listed package-level variables begin as the text of the program lays them.
-/
import Derived.Test.YtcpdfamjhehgiaaGreatDoorS18
import Derived.Test.YtcpdfamjhehgiaaGreatDoorS19
import Derived.Test.YtcpdfamjhehgiaaGreatDoorS20
import Derived.Test.YtcpdfamjhehgiaaGreatDoorS14
set_option linter.unusedVariables false
set_option linter.unusedSimpArgs false
set_option maxRecDepth 100000
set_option maxHeartbeats 8000000
noncomputable section
namespace Go.Proofs.YtcpdfamjhehgiaaGreatDoor
open Go.Ae Go.Proofs.Lu Go.ChangeShapes Go.WideShapes Go.ChangeAt Go.RowKit Go.Deep
theorem own:ownKnob Tryz.prog.godebug=none:=by kernel_rfl
theorem laidOut:laidOutB Tryz.prog=true:=by kernel_rfl
theorem OV{W:World}{cs:Array Value}{fuel:Nat}{p:List MemPlace}{name:String}{d:DataW Unit}(h:DataW.trod (fun _=>()) Tryz.prog W 0 (fun _=>true) false fuel 88 cs.toList=some (.iface name d,p)):∃u v,cs.toList=[.iface u v]:=by
 obtain⟨_,u,v,h,_⟩:=iface_of_trod Tryz.underlying88 h
 exact⟨u,v,h⟩
theorem QX{W:World}(h:laidMetH Tryz.prog Rows.scriptLinesRow.laid W):Lu.Laid W:=by
 rw[MakeChecks.laidMetH_plain _ _ _ (by kernel_rfl)]at h
 obtain⟨ps,⟨gf,tf,csf,ff,pf,qf,hgf,PM,hvf,hdf,⟨gg,tg,csg,fg,pg,qg,hgg,htg,hvg,hdg,⟨gc,tc,csc,fc,pc,qc,hgc,htc,hvc,hdc,⟨gd,td,csd,fd,pd,qd,hgd,htd,hvd,hdd,⟨ge,te,cse,fe,pe,qe,hge,hte,UM,hde,⟨ga,ta,csa,fa,pa,qa,hga,hta,hva,hda,⟨gb,tb,csb,fb,pb,qb,hgb,htb,hvb,hdb,_⟩,_⟩,_⟩,_⟩,_⟩,_⟩,_⟩,_,_⟩:=h
 obtain rfl:=Option.some.inj ((show Tryz.prog.globalNamed "strconv.ErrSyntax" =some 3 by kernel_rfl).symm.trans hga)
 obtain rfl:=Option.some.inj ((show Tryz.prog.globalNamed "strconv.ErrRange" =some 4 by kernel_rfl).symm.trans hgb)
 obtain rfl:=Option.some.inj ((show Tryz.prog.globalNamed "internal/strconv.uint64pow10" =some 5 by kernel_rfl).symm.trans hgc)
 obtain rfl:=Option.some.inj ((show Tryz.prog.globalNamed "math/bits.deBruijn32tab" =some 7 by kernel_rfl).symm.trans hgd)
 obtain rfl:=Option.some.inj ((show Tryz.prog.globalNamed "math/bits.deBruijn64tab" =some 6 by kernel_rfl).symm.trans hge)
 obtain rfl:=Option.some.inj ((show Tryz.prog.globalNamed "unicode/utf8.first" =some 0 by kernel_rfl).symm.trans hgf)
 obtain rfl:=Option.some.inj ((show Tryz.prog.globalNamed "unicode/utf8.acceptRanges" =some 1 by kernel_rfl).symm.trans hgg)
 obtain rfl:=Option.some.inj ((show(Tryz.prog.globals[3]?).map (·.type)=some 88 by kernel_rfl).symm.trans hta)
 obtain rfl:=Option.some.inj ((show(Tryz.prog.globals[4]?).map (·.type)=some 88 by kernel_rfl).symm.trans htb)
 obtain rfl:=Option.some.inj ((show(Tryz.prog.globals[5]?).map (·.type)=some 368 by kernel_rfl).symm.trans htc)
 obtain rfl:=Option.some.inj ((show(Tryz.prog.globals[6]?).map (·.type)=some 484 by kernel_rfl).symm.trans hte)
 obtain rfl:=Option.some.inj ((show(Tryz.prog.globals[0]?).map (·.type)=some 170 by kernel_rfl).symm.trans PM)
 obtain rfl:=Option.some.inj ((show(Tryz.prog.globals[1]?).map (·.type)=some 173 by kernel_rfl).symm.trans htg)
 have block:∀{n:String}{g:Nat}{cs:Array Value},Tryz.prog.globalNamed n=some g→W.var? Tryz.prog n=some cs→∃ty fr,W.heap[g]?=some (.cells cs ty fr):=by
  intro n g cs hg hv
  simp only[World.var?,hg,Option.bind_some]at hv
  split at hv
  ·next cs' ty fr hh=>cases hv;exact⟨ty,fr,hh⟩
  ·cases hv
 obtain⟨tya,fra,ba⟩:=block hga hva
 obtain⟨tyb,frb,bb⟩:=block hgb hvb
 obtain⟨tyc,frc,bc⟩:=block hgc hvc
 obtain⟨tyd,frd,bd⟩:=block hgd hvd
 obtain⟨tye,fre,be⟩:=block hge UM
 obtain⟨tyf,frf,bf⟩:=block hgf hvf
 obtain⟨tyg,frg,bg⟩:=block hgg hvg
 refine⟨?_,⟨tyf,csf,frf,bf,?_⟩,⟨tyg,csg,frg,bg,Kn hdg⟩,⟨tyc,csc,frc,bc,?_⟩,⟨tye,cse,fre,be,?_⟩,⟨tya,csa,fra,ba,OV hda⟩,⟨tyb,csb,frb,bb,OV hdb⟩⟩
 ·have:=(Array.getElem?_eq_some_iff.1 bd).1
  omega
 ·exact Gj (zs:=mO) (k:=.u8) Tryz.underlying170 Tryz.underlying5 (by kernel_rfl) (by kernel_rfl) rfl hdf
 ·exact Gj (zs:=FQ) (k:=.u64) Tryz.underlying368 Tryz.underlying129 (by kernel_rfl) (by kernel_rfl) rfl hdc
 ·exact Gj (zs:=rQ) (k:=.u8) Tryz.underlying484 Tryz.underlying5 (by kernel_rfl) (by kernel_rfl) rfl hde
theorem QY{W:World}(hL:Lu.Laid W){v:Value}(hv:ActIn W v):Calls Tryz.prog 3 #[v] W fun e w'=>e=.returned (.bool true)∧Below W.heap.size W w':=by
 have hwf:Wf (zO W T0):=Nat.le_refl _
 obtain⟨k,a,n,c,l,t,rfl,hf,X8⟩:=hv
 refine JW (P:=Tryz.prog) (X:=X) (H:=zO W T0) (b:=true) (args:=[Us k a n c t]) hL.size mixed (l5.Mj fns) xs ors Tryz.func3 (by kernel_rfl) ?_ (Nat.le_refl _) (Qc fun r o h=>nomatch h) (args':=[Us k a n c t]) (.cons _ _ _ _ X8 .nil)
 exact(scriptLines hwf hL.tabs hL.te k hf t).mono fun v H' h=>⟨h.1,h.2.low _ (Nat.le_refl _) (Nat.le_refl _) fun r h=>nomatch h⟩
theorem lifted(os:Os)(started:os.Started)(H:Type)(enc:TypeId×Value→H):
 ReturnsInHanded {} Tryz.checked os 3 .any (fun w args=>(Rows.scriptLinesSpec.pre enc Tryz.prog Tryz.f3 [] false w args∧laidMetH Tryz.prog Rows.scriptLinesRow.laid w)∧sizedMet enc Tryz.prog Tryz.f3 (OpenSpec.ofChange Rows.scriptLinesSpec) false w args)
  (Rows.scriptLinesSpec.post enc Tryz.prog Tryz.f3 false true false false):=by
 refine returnsInHanded_of_change_and (C:=Tryz.checked) (X:=fun w _=>laidMetH Tryz.prog Rows.scriptLinesRow.laid w) (fun _ _ _ hh h=>h.of_heap hh) own started (by kernel_rfl) Tryz.func3
  (ChangeSpec.witness_shaped (enc:=enc) (C:=Tryz.checked) (os:=os) (X:=fun w _=>laidMetH Tryz.prog Rows.scriptLinesRow.laid w) false (World.laidAll Tryz.prog os Rows.scriptLinesRow.laid) #[.agg #[.int .i64 0,.slice none 0 0,.string ⟨#[]⟩]] 8 (World.laidAll_os _ _ _)
   (World.shaped_of_ZipB (by kernel_rfl) (by kernel_rfl)) (by kernel_rfl) (by kernel_rfl) (by kernel_rfl)
   (by rw[MakeChecks.laidMetH_plain _ _ _ (by kernel_rfl)];exact laidMet_laidAll _ (by kernel_rfl) (by kernel_rfl))) ?_
 intro W base args ds gs before hval0 hW _ hwt hL _
 have hval:∀(j:Nat) t v,Tryz.f3.params[j]?=some t→args[j]?=some v→Value.okWide Tryz.prog W .any base t v:=hval0
 have Zt:=hW
 obtain⟨p,q,hA0,hV,rfl,_,_⟩:=hW
 have hA:DataW.TrodAll enc Tryz.prog W 0 (fun _=>true) true Tryz.f3.params.toList args.toList ds p:=hA0
 rw[Tryz.params3]at hA hval hwt
 obtain⟨v0,vs0,d0,ds0,p0,q0,hargs,rfl,rfl,h0,r0⟩:=trodAll_cons hA
 obtain⟨rfl,rfl,rfl⟩:=trodAll_nil r0
 obtain rfl:args=#[v0]:=by cases args;simp_all
 obtain⟨rfl,rfl⟩:=trodVars_none hV
 simp only[List.append_nil]at Zt
 obtain⟨fuel,hd⟩:=id h0
 have hact:ActIn W v0:=act_of (okWide_struct Tryz.underlying24 (hval 0 24 v0 rfl rfl)) hd
 refine(QY (QX hL) hact).mono fun e W' ⟨he,hb⟩=>?_
 subst he
 have hlt:∀x∈p0,x.block<W.heap.size:=fun x hx=>Zt.lt x (by simpa using hx)
 have g0:DataW.Trod enc Tryz.prog W' 0 (fun b=>decide (b<W.heap.size)) true 24 v0 d0 p0:=
  WideElems.Trod_stays laidOut (by kernel_rfl) (of_decide_eq_true (by kernel_rfl)) h0 (fun x hx=>hb.same (hlt x hx)) (fun x hx=>by simpa using hlt x hx)
 refine⟨_,rfl,_,_,_,[],p0++[],[],Zt,trodAll_mk1 (shut_bool Tryz.underlying4 _),trodAll_cons_mk g0 trodAll_mk0,rfl,?_,fun h=>by cases h⟩
 refine World.keptBut_mono (fun x hx=>⟨hx,?_⟩) (hb.frame (·∈p0))
 simpa using hx
theorem named:Tryz.pinned.checked.prog.funcNamed Rows.scriptLinesRow.func=some 3:=by kernel_rfl
theorem Kr:Tryz.f3.isInstance Tryz.pinned.checked.prog Rows.scriptLinesRow.origin Rows.scriptLinesRow.targs:=of_decide_eq_true (by kernel_rfl)
theorem wrapper:Tryz.f3.isWrapper Tryz.pinned.checked.prog Rows.scriptLinesRow.wrapper Rows.scriptLinesRow.mainSum:=by
 unfold Func.isWrapper
 first|(rw[if_pos (by decide +kernel)];kernel_rfl)|(rw[if_neg (by decide +kernel)];exact⟨rfl,rfl⟩)
theorem holds:Rows.ScriptLinesSaid:=
 OpenClaim.holds_of_wide 3 Tryz.f3 rfl rfl rfl rfl rfl rfl rfl ⟨rfl,rfl,rfl,rfl,rfl⟩ rfl rfl rfl rfl rfl named Tryz.func3 closed Kr wrapper (fun os started H enc _=>lifted os started H enc)
theorem QZ:Rows.scriptLinesRow.wfByText (OpenSpec.ofChange Rows.scriptLinesSpec)=true:=by kernel_rfl
theorem Ks:Tryz.pinned.checked.prog.mainIs=some (true, "bf8c68b5324341c0436a6c369459a0da0de5fb4aca2e3fae97282f45f37952f0".toList):=by kernel_rfl
theorem Gm:Tryz.prog.funcNamed "souffleur/souffleurlaw35.ScriptLines" =some 3:=by kernel_rfl
theorem Gn:true=Tryz.pinned.checked.prog.looks []:=by kernel_rfl
theorem Gp:([24].all fun u=>!Tryz.prog.wantsStandIn u)=true:=by kernel_rfl
theorem Kt:false=Rows.scriptLinesRow.goesBy Tryz.pinned.checked.prog:=EG (P:=Tryz.pinned.checked.prog) Kq Rows.scriptLinesRow rfl
theorem scriptLines_card:Rows.ScriptLinesCardSaid:=
 Claim7.holds_tied_plain_at .later [] [.pinned,.data,.data,.data,.data,.sentinel,.sentinel] true (true, "bf8c68b5324341c0436a6c369459a0da0de5fb4aca2e3fae97282f45f37952f0") true holds (fun _ h=>by cases h) QZ (fun _ h=>by cases h) scriptLines_row_tie rfl ⟨rfl,rfl⟩ Ks rfl
  (fun f fn hf hfn=>by
   obtain rfl:f=3:=Option.some.inj (Gm.symm.trans hf)|>.symm
   obtain rfl:fn=Tryz.f3:=(Option.some.inj (Tryz.func3.symm.trans hfn)).symm
   exact⟨Gn,fun j t ht=>by
    rw[Tryz.params3]at ht
    have hm:t∈[24]:=by simpa using Array.mem_of_getElem? ht
    exact(show Tryz.prog.wantsStandIn t=false by simpa using List.all_eq_true.1 Gp t hm)⟩)
  Kt
#print axioms scriptLines_card
end Go.Proofs.YtcpdfamjhehgiaaGreatDoor
