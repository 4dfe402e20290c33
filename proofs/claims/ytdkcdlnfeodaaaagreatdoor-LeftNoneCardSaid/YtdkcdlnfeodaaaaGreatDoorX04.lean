/-
  Part 4 of the proof. No condition.
-/
import Derived.Test.YtdkcdlnfeodaaaaGreatDoorX03
set_option linter.unusedVariables false
set_option linter.unusedSimpArgs false
set_option maxRecDepth 100000
set_option maxHeartbeats 4000000
noncomputable section
namespace Go.Ae
theorem J{a b:Prop}(x:a)(y:b):a∧b:=⟨x,y⟩
structure fF(s s':St):Prop where
 nl:s.nl=s'.nl
 nt:s.nt=s'.nt
 df:s.df=s'.df
 H:s.H=s'.H
 lk:∀t,aY s t=aY s' t
inductive qz:Out→Out→Prop where
 |fail:qz .fail .fail
 |norm {s s':St} (h:fF s s'):qz (.norm s) (.norm s')
 |exit (i:Nat) {s s':St} (h:fF s s'):qz (.exit i s) (.exit i s')
 |goto (l:Nat) {s s':St} (h:fF s s'):qz (.goto l s) (.goto l s')
 |ret {s s':St} (h:fF s s'):qz (.ret s) (.ret s')
theorem fF.look{s s':St}(h:fF s s'):aY s=aY s':=funext h.lk
theorem fF.ev{s s':St}(h:fF s s'):ev s=ev s':=by
 funext x
 cases x with
 |tmp t=>exact congrFun h.look t
 |_=>rfl
theorem qz.refl(o:Out):qz o o:=by
 cases o with
 |fail=>exact .fail
 |norm s=>exact .norm ⟨rfl,rfl,rfl,rfl,fun _=>rfl⟩
 |exit i s=>exact .exit i ⟨rfl,rfl,rfl,rfl,fun _=>rfl⟩
 |goto l s=>exact .goto l ⟨rfl,rfl,rfl,rfl,fun _=>rfl⟩
 |ret s=>exact .ret ⟨rfl,rfl,rfl,rfl,fun _=>rfl⟩
theorem fF.Aw{s s':St}(h:fF s s'):Aw s=Aw s':=by
 funext x
 cases x with
 |none=>rfl
 |some x=>exact congrArg some (congrFun h.ev x)
theorem fF.Fy{s s':St}(h:fF s s'):Fy s=Fy s':=by
 funext ps
 unfold Go.Ae.Fy
 rw[h.ev]
theorem uM(d:Nat)(v:Value)(l:List (Nat×Value))(t:Nat):Go.Ae.look ((d,v)::l) t=if d=t then v else Go.Ae.look l t:=by
 show av (Nat.beq d t) v (Go.Ae.look l t)=_
 by_cases e:d=t
 ·subst e;rw[show Nat.beq d d=true from Nat.beq_refl d];simp[gm]
 ·rw[show Nat.beq d t=false from by rw[←Bool.not_eq_true];exact fun g=>e (Nat.eq_of_beq_eq_true g),if_neg e];rfl
def wr(s:St)(d:Nat):Bool:=av (aV s.nl d) (Nat.ble (Nat.succ d) s.nt) true
theorem nP(s:St)(d:Nat)(v:Value)(H:ae)(t:Nat):aY (h_ s d v H) t=if d=t∧wr s d=true then v else aY s t:=by
 by_cases hb:aV s.nl d=true
 ·have e:h_ s d v H=⟨s.nl,s.nt,s.reg,av (Nat.ble (Nat.succ d) s.nt) (s.tm.set top d v) s.tm,s.df,H⟩:=by unfold h_;rw[hb];rfl
  have ew:wr s d=Nat.ble (Nat.succ d) s.nt:=by unfold wr;rw[hb];rfl
  rw[e,ew]
  show av (aV s.nl t) ((av (Nat.ble (Nat.succ d) s.nt) (s.tm.set top d v) s.tm).get top t) (Go.Ae.look s.reg t)=if d=t∧Nat.ble (Nat.succ d) s.nt=true then v else av (aV s.nl t) (s.tm.get top t) (Go.Ae.look s.reg t)
  by_cases hn:Nat.ble (Nat.succ d) s.nt=true
  ·rw[hn]
   show av (aV s.nl t) ((s.tm.set top d v).get top t) (Go.Ae.look s.reg t)=_
   rw[Tr.jQ]
   by_cases e:d=t
   ·subst e
    rw[if_pos rfl,if_pos ⟨rfl,rfl⟩,hb];rfl
   ·rw[if_neg (fun h=>e h.symm),if_neg (fun h=>e h.1)]
  ·rw[Bool.not_eq_true]at hn
   rw[hn,if_neg (fun h=>by cases h.2)];rfl
 ·rw[Bool.not_eq_true]at hb
  have e:h_ s d v H=⟨s.nl,s.nt,(d,v)::s.reg,s.tm,s.df,H⟩:=by unfold h_;rw[hb];rfl
  have ew:wr s d=true:=by unfold wr;rw[hb];rfl
  rw[e,ew]
  show av (aV s.nl t) (s.tm.get top t) (Go.Ae.look ((d,v)::s.reg) t)=if d=t∧true=true then v else av (aV s.nl t) (s.tm.get top t) (Go.Ae.look s.reg t)
  rw[uM]
  by_cases e:d=t
  ·subst e
   rw[if_pos rfl,if_pos ⟨rfl,rfl⟩,hb];rfl
  ·rw[if_neg e,if_neg (fun h=>e h.1)]
theorem Bh(s:St)(d:Nat)(v:Value)(H:ae):(h_ s d v H).nl=s.nl∧(h_ s d v H).nt=s.nt∧(h_ s d v H).df=s.df∧(h_ s d v H).H=H:=by
 unfold h_
 cases aV s.nl d<;>exact⟨rfl,rfl,rfl,rfl⟩
theorem fF.h_{s s':St}(h:fF s s')(d:Nat)(v:Value)(H:ae):fF (h_ s d v H) (h_ s' d v H):=by
 obtain⟨a1,a2,a3,a4⟩:=Bh s d v H
 obtain⟨b1,b2,b3,b4⟩:=Bh s' d v H
 refine⟨a1.trans (h.nl.trans b1.symm),a2.trans (h.nt.trans b2.symm),a3.trans (h.df.trans b3.symm),a4.trans b4.symm,fun t=>?_⟩
 rw[nP,nP,h.lk]
 have:wr s d=wr s' d:=by unfold wr;rw[h.nl,h.nt]
 rw[this]
theorem fF.same(s:St)(t:Nat):fF s (Go.Ae.h_ s t (aY s t) s.H):=by
 obtain⟨b1,b2,b3,b4⟩:=Bh s t (aY s t) s.H
 refine⟨b1.symm,b2.symm,b3.symm,b4.symm,fun u=>?_⟩
 rw[nP]
 split
 ·next h=>rw[h.1]
 ·rfl
theorem fF.bI{s s':St}(h:fF s s')(d:Option Nat)(v:Value)(H:ae):fF (bI s d v H) (bI s' d v H):=by
 cases d with
 |none=>exact⟨h.nl,h.nt,h.df,rfl,h.lk⟩
 |some d=>exact h.h_ d v H
theorem v_(s:St)(t:Nat):aY (clear s) t=av (aV s.nl t) (aY s t) top:=by
 unfold aY
 show av (aV s.nl t) (s.tm.get top t) (Go.Ae.look [] t)=_
 cases aV s.nl t<;>rfl
theorem fF.clear{s s':St}(h:fF s s'):fF (clear s) (clear s'):=⟨h.nl,h.nt,h.df,h.H,fun t=>by rw[v_,v_,h.nl,h.lk]⟩
theorem fF.aU{s s':St}(h:fF s s'):fF (aU s) (aU s'):=⟨h.nl,h.nt,h.df,by show ae.mk _ _ _=ae.mk _ _ _;rw[h.H],h.lk⟩
theorem fF.heap{s s':St}(h:fF s s')(d:List Deferred)(H:ae):fF ⟨s.nl,s.nt,s.reg,s.tm,d,H⟩ ⟨s'.nl,s'.nt,s'.reg,s'.tm,d,H⟩:=⟨h.nl,h.nt,rfl,rfl,h.lk⟩
theorem fF.refl(s:St):fF s s:=⟨rfl,rfl,rfl,rfl,fun _=>rfl⟩
theorem fF.symm{s s':St}(h:fF s s'):fF s' s:=⟨h.nl.symm,h.nt.symm,h.df.symm,h.H.symm,fun t=>(h.lk t).symm⟩
theorem fF.trans{s s' s2:St}(h:fF s s')(h2:fF s' s2):fF s s2:=⟨h.nl.trans h2.nl,h.nt.trans h2.nt,h.df.trans h2.df,h.H.trans h2.H,fun t=>(h.lk t).trans (h2.lk t)⟩
section mem
variable{P:Program}{cf:cz}
theorem fF.eY{s s':St}(h:fF s s')(c:Callee):eY c P s=eY c P s':=by
 cases c with
 |value f=>show(aj (Q5 (Go.Ae.ev s f)) _)=_;rw[h.ev];rfl
 |invoke r n=>show(aj (vL (Go.Ae.ev s r)) _)=_;rw[h.ev];rfl
 |builtin b=>rfl
theorem fF.m_{s s':St}(h:fF s s')(o:Op):m_ o P cf s=m_ o P cf s':=by
 have e:=h.ev
 have e1:=h.Aw
 have e2:=h.Fy
 have e3:=h.H
 cases o with
 |call c=>
  show kW c P cf s=kW c P cf s'
  unfold kW
  rw[h.eY,e,e3]
 |move x=>show R3.rT (Go.Ae.ev s x)=_;rw[e];rfl
 |assign x=>show R3.rT (Go.Ae.ev s x)=_;rw[e];rfl
 |pick c a b=>show rp (BB (Go.Ae.ev s c) (Go.Ae.ev s a) (Go.Ae.ev s b))=_;rw[e];rfl
 |alloc t=>show rm (sD P t s.H)=_;rw[e3];rfl
 |box t x=>show rm (Fx t (Go.Ae.ev s x) s.H)=_;rw[e,e3];rfl
 |build t ps=>show rp (sw P t (Go.Ae.Fy s ps))=_;rw[e2];rfl
 |buildSlice t n ps=>show rm (jo P t n (Go.Ae.Fy s ps) s.H)=_;rw[e2,e3];rfl
 |insert t m k v=>show rm (jg P t (Go.Ae.ev s m) (Go.Ae.ev s k) (Go.Ae.ev s v) s.H)=_;rw[e,e3];rfl
 |load t x=>show rm (kz P t (Go.Ae.ev s x) s.H)=_;rw[e,e3];rfl
 |store t x v=>show rm (nX P t (Go.Ae.ev s x) (Go.Ae.ev s v) s.H)=_;rw[e,e3];rfl
 |nilCheck x=>show rp (Fw (Go.Ae.ev s x))=_;rw[e];rfl
 |binOp op t x y u=>show rp (eF P op t x y (Go.Ae.ev s x) (Go.Ae.ev s y))=_;rw[e];rfl
 |unOp op t x=>show rp (bV (Op.unary op (Go.Ae.ev s x)))=_;rw[e];rfl
 |convert a b x=>show rpm (vo P a b (Go.Ae.ev s x)) (rm (kC P a b (Go.Ae.ev s x) s.H))=_;rw[e,e3];rfl
 |makeInterface t x=>show rp (Ko P t (Go.Ae.ev s x))=_;rw[e];rfl
 |makeFunc f fi ca=>show rp (some (.func f ⟨mp (Go.Ae.ev s) fi.toList⟩ ⟨mp (Go.Ae.ev s) ca.toList⟩))=_;rw[e];rfl
 |makeMap t r=>show rm (kD P t (Go.Ae.Aw s r) s.H)=_;rw[e1,e3];rfl
 |makeSlice t l c=>show rm (g_ P t (Go.Ae.ev s l) (Go.Ae.ev s c) s.H)=_;rw[e,e3];rfl
 |slice t x lo hi mx=>show rp (pF P t (Go.Ae.ev s x) (Go.Ae.Aw s lo) (Go.Ae.Aw s hi) (Go.Ae.Aw s mx))=_;rw[e,e1];rfl
 |fieldAddr t x f=>show rp (iR P t (Go.Ae.ev s x) f)=_;rw[e];rfl
 |field t x f=>show rp (su P t (Go.Ae.ev s x) f)=_;rw[e];rfl
 |indexAddr t x i=>show rp (iQ P t (Go.Ae.ev s x) (Go.Ae.ev s i))=_;rw[e];rfl
 |index t x i=>show rp (si P t (Go.Ae.ev s x) (Go.Ae.ev s i))=_;rw[e];rfl
 |lookup t x k ok=>show rm (lX P t (Go.Ae.ev s x) (Go.Ae.ev s k) ok s.H)=_;rw[e,e3];rfl
 |mapUpdate t m k v=>show rm (jg P t (Go.Ae.ev s m) (Go.Ae.ev s k) (Go.Ae.ev s v) s.H)=_;rw[e,e3];rfl
 |range t x=>show rm (yL P t (Go.Ae.ev s x) s.H)=_;rw[e,e3];rfl
 |next x b=>show rm (Ep (Go.Ae.ev s x) b s.H)=_;rw[e,e3];rfl
 |extract t i=>show rp (l9 (Go.Ae.ev s t) i)=_;rw[e];rfl
 |_=>rfl
theorem fF.qE{s s':St}(h:fF s s')(c:Call):qE c P s=qE c P s':=by
 unfold Go.Ae.qE
 rw[h.ev]
inductive QN:Option St→Option St→Prop where
 |none:QN none none
 |some {s s':St} (h:fF s s'):QN (some s) (some s')
theorem fF.iw{s s':St}(h:fF s s')(ops:Array Oper)(g:Option (Nat×Bool)):iw ops s g=iw ops s' g:=by
 cases g with
 |none=>rfl
 |some g=>
  show Er ops s g=Er ops s' g
  unfold Er qD
  rw[h.look]
theorem fF.vQ{s s':St}(h:fF s s')(o:Oper)(r:R3):QN (vQ o s r) (vQ o s' r):=by
 cases r with
 |fail=>exact .none
 |rT v=>show QN (Option.some (Go.Ae.bI s o.dst v s.H)) (Option.some (Go.Ae.bI s' o.dst v s'.H));rw[h.H];exact .some (h.bI ..)
 |mem v H=>exact .some (h.bI ..)
theorem fF.oW{s s':St}(h:fF s s')(o:Oper):QN (oW P cf o s) (oW P cf o s'):=by
 unfold Go.Ae.oW
 cases iI o.op with
 |none=>
  show QN (Go.Ae.vQ o s (Go.Ae.m_ o.op P cf s)) (Go.Ae.vQ o s' (Go.Ae.m_ o.op P cf s'))
  rw[h.m_];exact h.vQ ..
 |some c=>
  show QN (aj (Go.Ae.qE c P s) _) (aj (Go.Ae.qE c P s') _)
  rw[h.qE]
  cases Go.Ae.qE c P s' with
  |none=>exact .none
  |some d=>
   show QN (Option.some (Go.Ae.bI ⟨s.nl,s.nt,s.reg,s.tm,d::s.df,s.H⟩ o.dst undef s.H)) (Option.some (Go.Ae.bI ⟨s'.nl,s'.nt,s'.reg,s'.tm,d::s'.df,s'.H⟩ o.dst undef s'.H))
   rw[h.df,h.H]
   exact .some ((h.heap _ _).bI ..)
theorem fF.dK{s s':St}(h:fF s s')(ops:Array Oper)(o:Oper):QN (dK P cf ops o s) (dK P cf ops o s'):=by
 unfold Go.Ae.dK
 rw[h.iw]
 cases Go.Ae.iw ops s' o.guard with
 |none=>exact .none
 |some b=>cases b with
  |true=>exact h.oW o
  |false=>show QN (Option.some (Go.Ae.bI s o.dst undef s.H)) (Option.some (Go.Ae.bI s' o.dst undef s'.H));rw[h.H];exact .some (h.bI ..)
theorem fF.dS(ops:Array Oper):∀(l:List Oper){s s':St},fF s s'→QN (dS P cf ops l s) (dS P cf ops l s'):=by
 intro l
 induction l with
 |nil=>intro s s' h;exact .some h
 |cons o l ih=>
  intro s s' h
  show QN (aj (Go.Ae.dK P cf ops o s) (Go.Ae.dS P cf ops l)) (aj (Go.Ae.dK P cf ops o s') (Go.Ae.dS P cf ops l))
  have:=h.dK (P:=P) (cf:=cf) ops o
  generalize Go.Ae.dK P cf ops o s=a at this
  generalize Go.Ae.dK P cf ops o s'=b at this
  cases this with
  |none=>exact .none
  |some h1=>exact ih h1
inductive WN{α:Type}:Option (St×α)→Option (St×α)→Prop where
 |none:WN none none
 |some {s s':St} (x:α) (h:fF s s'):WN (some (s,x)) (some (s',x))
theorem fF.iY{s s':St}(h:fF s s')(o:Op)(H:ae):iY P o s H=iY P o s' H:=by
 unfold Go.Ae.iY o9
 rw[h.ev,h.H]
theorem fF.cZ{s s':St}(h:fF s s')(ops:Array Oper)(o:Oper):WN (cZ P cf ops o s) (cZ P cf ops o s'):=by
 unfold Go.Ae.cZ
 rw[h.iw]
 cases Go.Ae.iw ops s' o.guard with
 |none=>exact .none
 |some b=>cases b with
  |true=>
   show WN (zF P o s (Go.Ae.m_ o.op P cf (Go.Ae.aU s))) (zF P o s' (Go.Ae.m_ o.op P cf (Go.Ae.aU s')))
   rw[h.aU.m_]
   cases Go.Ae.m_ o.op P cf (Go.Ae.aU s')with
   |fail=>exact .none
   |rT v=>show WN (Option.some (Go.Ae.bI s o.dst v s.H,cl 0)) (Option.some (Go.Ae.bI s' o.dst v s'.H,cl 0));rw[h.H];exact .some _ (h.bI ..)
   |mem v H=>
    show WN (Option.some (Go.Ae.bI s o.dst v ⟨H.j6,H.next,fC s.H.low H.low⟩,Go.Ae.iY P o.op s H)) (Option.some (Go.Ae.bI s' o.dst v ⟨H.j6,H.next,fC s'.H.low H.low⟩,Go.Ae.iY P o.op s' H))
    rw[h.iY,h.H];exact .some _ (h.bI ..)
  |false=>show WN (Option.some (Go.Ae.bI s o.dst undef s.H,cl 0)) (Option.some (Go.Ae.bI s' o.dst undef s'.H,cl 0));rw[h.H];exact .some _ (h.bI ..)
theorem fF.bH(ops:Array Oper):∀(l:List Oper){s s':St}(acc:List Cl),fF s s'→WN (bH P cf ops l s acc) (bH P cf ops l s' acc):=by
 intro l
 induction l with
 |nil=>intro s s' acc h;exact .some _ h
 |cons o l ih=>
  intro s s' acc h
  show WN (aj (Go.Ae.cZ P cf ops o s) fun q=>Go.Ae.bH P cf ops l q.1 (q.2::acc)) (aj (Go.Ae.cZ P cf ops o s') fun q=>Go.Ae.bH P cf ops l q.1 (q.2::acc))
  have:=h.cZ (P:=P) (cf:=cf) ops o
  generalize Go.Ae.cZ P cf ops o s=a at this
  generalize Go.Ae.cZ P cf ops o s'=b at this
  cases this with
  |none=>exact .none
  |some x h1=>exact ih _ h1
theorem fF.region{s s':St}(h:fF s s')(ops:Array Oper)(d:Bool):qz (region P cf ops d s) (region P cf ops d s'):=by
 cases d with
 |false=>
  show qz (zH (Go.Ae.dS P cf ops ops.toList (Go.Ae.clear s))) (zH (Go.Ae.dS P cf ops ops.toList (Go.Ae.clear s')))
  have:=fF.dS (P:=P) (cf:=cf) ops ops.toList h.clear
  generalize Go.Ae.dS P cf ops ops.toList (Go.Ae.clear s)=a at this
  generalize Go.Ae.dS P cf ops ops.toList (Go.Ae.clear s')=b at this
  cases this with
  |none=>exact .fail
  |some h1=>exact .norm h1
 |true=>
  show qz (av (bX ops&&gz ops) (jU ops (Go.Ae.bH P cf ops ops.toList (Go.Ae.clear s) [])) .fail) (av (bX ops&&gz ops) (jU ops (Go.Ae.bH P cf ops ops.toList (Go.Ae.clear s') [])) .fail)
  cases(bX ops&&gz ops)with
  |false=>exact .fail
  |true=>
   show qz (jU ops (Go.Ae.bH P cf ops ops.toList (Go.Ae.clear s) [])) (jU ops (Go.Ae.bH P cf ops ops.toList (Go.Ae.clear s') []))
   have:=fF.bH (P:=P) (cf:=cf) ops ops.toList [] h.clear
   generalize Go.Ae.bH P cf ops ops.toList (Go.Ae.clear s) []=a at this
   generalize Go.Ae.bH P cf ops ops.toList (Go.Ae.clear s') []=b at this
   cases this with
   |none=>exact .fail
   |some x h1=>
    show qz (av (bO ops x) (.norm _) .fail) (av (bO ops x) (.norm _) .fail)
    cases bO ops x with
    |true=>exact .norm h1
    |false=>exact .fail
theorem qz.trans{a b c:Out}(h:qz a b)(h2:qz b c):qz a c:=by
 cases h with
 |fail=>exact h2
 |norm h=>cases h2 with|norm h2=>exact .norm (h.trans h2)
 |exit i h=>cases h2 with|exit _ h2=>exact .exit i (h.trans h2)
 |goto l h=>cases h2 with|goto _ h2=>exact .goto l (h.trans h2)
 |ret h=>cases h2 with|ret h2=>exact .ret (h.trans h2)
theorem SF{f:St→Out}(hf:∀s s',fF s s'→qz (f s) (f s')):∀n s s',fF s s'→qz (mh n f s) (mh n f s'):=by
 intro n
 induction n with
 |zero=>intro s s' _;exact .fail
 |succ n ih=>
  intro s s' h
  show qz (andThen (f s) (mh n f)) (andThen (f s') (mh n f))
  have:=hf s s' h
  generalize f s=a at this
  generalize f s'=b at this
  cases this with
  |fail=>exact .fail
  |norm h1=>exact ih _ _ h1
  |exit i h1=>exact .exit i h1
  |goto l h1=>exact .goto l h1
  |ret h1=>exact .ret h1
theorem PG{cx:Code→St→Out}(hx:∀c s s',fF s s'→qz (cx c s) (cx c s'))(body:Code):∀n o o',qz o o'→qz (eZ cx n body o) (eZ cx n body o'):=by
 intro n
 induction n with
 |zero=>intro o o' _;exact .fail
 |succ n ih=>
  intro o o' h
  cases h with
  |fail=>exact .fail
  |norm h1=>exact .norm h1
  |exit i h1=>exact .exit i h1
  |ret h1=>exact .ret h1
  |goto l h1=>
   rename_i s s'
   show qz (@Option.rec Code (fun _=>Out) (.goto l s) (fun rest=>eZ cx n body (cx rest s)) (findLabel body l)) (@Option.rec Code (fun _=>Out) (.goto l s') (fun rest=>eZ cx n body (cx rest s')) (findLabel body l))
   cases findLabel body l with
   |none=>exact .goto l h1
   |some rest=>exact ih _ _ (hx rest _ _ h1)
theorem Nu{cx:Code→St→Out}(hx:∀c s s',fF s s'→qz (cx c s) (cx c s'))(n:Nat)(c:Code):∀s s',fF s s'→qz (exec P cf cx n c s) (exec P cf cx n c s'):=by
 induction c with
 |skip=>intro s s' h;exact .norm h
 |region id ops d=>intro s s' h;exact h.region ops d
 |seq a b iha ihb=>
  intro s s' h
  show qz (andThen (exec P cf cx n a s) (exec P cf cx n b)) (andThen (exec P cf cx n a s') (exec P cf cx n b))
  have:=iha s s' h
  generalize exec P cf cx n a s=x at this
  generalize exec P cf cx n a s'=y at this
  cases this with
  |fail=>exact .fail
  |norm h1=>exact ihb _ _ h1
  |exit i h1=>exact .exit i h1
  |goto l h1=>exact .goto l h1
  |ret h1=>exact .ret h1
 |cond x a b iha ihb=>
  intro s s' h
  show qz (zG (bK (ev s x)) (exec P cf cx n a s) (exec P cf cx n b s)) (zG (bK (ev s' x)) (exec P cf cx n a s') (exec P cf cx n b s'))
  rw[h.ev]
  cases bK (ev s' x)with
  |none=>exact .fail
  |some t=>cases t with
   |true=>exact iha _ _ h
   |false=>exact ihb _ _ h
 |block id a ih=>
  intro s s' h
  show qz (lz id (exec P cf cx n a s)) (lz id (exec P cf cx n a s'))
  have:=ih s s' h
  generalize exec P cf cx n a s=x at this
  generalize exec P cf cx n a s'=y at this
  cases this with
  |fail=>exact .fail
  |norm h1=>exact .norm h1
  |exit i h1=>
   show qz (av (Nat.beq i id) _ _) (av (Nat.beq i id) _ _)
   cases Nat.beq i id with
   |true=>exact .norm h1
   |false=>exact .exit i h1
  |goto l h1=>exact .goto l h1
  |ret h1=>exact .ret h1
 |loop a ih=>intro s s' h;exact SF ih n s s' h
 |scope a ih=>intro s s' h;exact PG hx a n _ _ (ih s s' h)
 |label l=>intro s s' h;exact .norm h
 |exit i=>intro s s' h;exact .exit i h
 |goto l=>intro s s' h;exact .goto l h
 |ret=>intro s s' h;exact .ret h
 |_=>intro s s' h;exact .fail
variable{X:Xt}
theorem abw(n:Nat):∀c s s',fF s s'→qz ((lv P X n).cx c s) ((lv P X n).cx c s'):=by
 induction n with
 |zero=>intro c s s' _;exact .fail
 |succ n ih=>intro c s s' h;exact Nu ih n c s s' h
theorem Ev.alike{c:Code}{s s':St}{o:Out}(he:fF s s')(h:Ev P X c s o):∃o',qz o o'∧Ev P X c s' o':=by
 obtain⟨hne,k,hk⟩:=h
 have:=Nu (P:=P) (cf:=(lv P X k).ca) (abw (P:=P) (X:=X) k) k c s s' he
 refine⟨xI P X k c s',by rw[←hk];exact this,?_,k,rfl⟩
 intro hf
 replace this:qz (xI P X k c s) (xI P X k c s'):=this
 rw[hf,hk]at this
 cases this
 exact hne rfl
theorem fF.dn{s s':St}(h:fF s s')(l:List ResultVar):dn P s l=dn P s' l:=by
 induction l with
 |nil=>rfl
 |cons r l ih=>
  show(aj (uB P s r) fun v=>aj (Go.Ae.dn P s l) fun vs=>some (v::vs))=(aj (uB P s' r) fun v=>aj (Go.Ae.dn P s' l) fun vs=>some (v::vs))
  rw[ih]
  have:uB P s r=uB P s' r:=by
   cases r with
   |tmp t=>show some (aY s t)=some (aY s' t);rw[h.look]
   |cell a t=>show(aj (kz P t (aY s a) s.H) _)=(aj (kz P t (aY s' a) s'.H) _);rw[h.look,h.H]
  rw[this]
end mem
def PU(o:Option Value)(K:Value→Prop):Prop:=@Option.rec Value (fun _=>Prop) False (fun v=>K v) o
def ME(o:Option (Value×ae))(K:Value→ae→Prop):Prop:=@Option.rec (Value×ae) (fun _=>Prop) False (fun p=>K p.1 p.2) o
def CV(o:Option Value)(q:Option (Value×ae))(Kp:Value→Prop)(Km:Value→ae→Prop):Prop:=@Option.rec Value (fun _=>Prop) (ME q Km) (fun v=>Kp v) o
def ak(P:Program)(X:Xt)(g:FuncId)(args:List Value)(H:ae)(K:Value→ae→Prop):Prop:=∃v H',Ca P X g args H v H'∧K v H'
def eG(P:Program)(X:Xt)(q:Option (FuncId×List Value×List Value))(args:List Value)(H:ae)(K:Value→ae→Prop):Prop:=
 @Option.rec (FuncId×List Value×List Value) (fun _=>Prop) False (fun q=>ak P X q.1 (app q.2.1 (app args q.2.2)) H K) q
def sQ(b:Builtin):List TypeId→List Value→Program→ae→(Value→Prop)→(Value→ae→Prop)→Prop:=
 @Builtin.rec (fun _=>List TypeId→List Value→Program→ae→(Value→Prop)→(Value→ae→Prop)→Prop)
  (fun ats args P H Kp Km=>ME (uA P ats args H) Km) (fun _ _ _ _ _ _=>False) (fun ats args P H Kp Km=>ME (yK P ats args H) Km) (fun _ _ _ _ _ _=>False) (fun _ _ _ _ _ _=>False) (fun ats args P H Kp Km=>ME (Eo P ats args H) Km) (fun _ _ _ _ _ _=>False) (fun _ _ _ _ _ _=>False) (fun ats args P H Kp Km=>CV (one (BC P) ats args) (BI P ats args H) Kp Km) (fun _ _ _ _ _ _=>False) (fun ats args P H Kp Km=>PU (Ra true args) Kp) (fun ats args P H Kp Km=>PU (Ra false args) Kp) (fun _ _ _ _ _ _=>False) (fun _ _ _ _ _ _=>False) (fun _ _ _ _ _ _=>False) (fun _ _ _ _ _ _=>False) (fun _ _ _ _ _ _=>False) (fun _ _ _ _ _ _=>False) (fun _ _ _ _ _ _=>False) (fun _ _ _ _ _ _=>False) (fun ats args P H Kp Km=>ME (xw args H) Km) (fun ats args P H Kp Km=>ME (lq P ats args H) Km) (fun _ _ _ _ _ _=>False) (fun _ _ _ _ _ _=>False) (fun _ _ _ _ _ _=>False) (fun _ _ _ _ _ _=>False) b
def SG(P:Program)(X:Xt)(c:Call)(s:St)(Kp:Value→Prop)(Km:Value→ae→Prop):Prop:=
 @Option.rec Builtin (fun _=>Prop) (eG P X (eY c.callee P s) (mp (ev s) c.args.toList) s.H Km)
  (fun b=>sQ b c.argTypes.toList (mp (ev s) c.args.toList) P s.H Kp Km) (isBuiltin c.callee)
def QO(o:Op):Program→Xt→St→(Value→Prop)→(Value→ae→Prop)→Prop:=
 @Op.rec (fun _=>Program→Xt→St→(Value→Prop)→(Value→ae→Prop)→Prop)
  (fun x P X s Kp Km=>Kp (ev s x)) (fun x P X s Kp Km=>Kp (ev s x)) (fun c a b P X s Kp Km=>PU (BB (ev s c) (ev s a) (ev s b)) Kp) (fun e P X s Kp Km=>ME (sD P e s.H) Km) (fun e x P X s Kp Km=>ME (Fx e (ev s x) s.H) Km) (fun t ps P X s Kp Km=>PU (sw P t (Fy s ps)) Kp) (fun t n ps P X s Kp Km=>ME (jo P t n (Fy s ps) s.H) Km) (fun t m k v P X s Kp Km=>ME (jg P t (ev s m) (ev s k) (ev s v) s.H) Km) (fun t x P X s Kp Km=>ME (kz P t (ev s x) s.H) Km) (fun t x v P X s Kp Km=>ME (nX P t (ev s x) (ev s v) s.H) Km) (fun _ _ _ _ _ _=>False) (fun _ _ _ _ _ _=>False) (fun x P X s Kp Km=>PU (Fw (ev s x)) Kp) (fun op t x y _ P X s Kp Km=>PU (eF P op t x y (ev s x) (ev s y)) Kp) (fun op _ x P X s Kp Km=>PU (bV (Op.unary op (ev s x))) Kp) (fun a b x P X s Kp Km=>CV (vo P a b (ev s x)) (kC P a b (ev s x) s.H) Kp Km) (fun _ _ _ _ _ _ _=>False) (fun t x P X s Kp Km=>PU (Ko P t (ev s x)) Kp) (fun f fi ca P X s Kp Km=>Kp (.func f ⟨mp (ev s) fi.toList⟩ ⟨mp (ev s) ca.toList⟩)) (fun t r P X s Kp Km=>ME (kD P t (Aw s r) s.H) Km) (fun _ _ _ _ _ _ _=>False) (fun t l c P X s Kp Km=>ME (g_ P t (ev s l) (ev s c) s.H) Km) (fun t x lo hi mx P X s Kp Km=>PU (pF P t (ev s x) (Aw s lo) (Aw s hi) (Aw s mx)) Kp) (fun t x f P X s Kp Km=>PU (iR P t (ev s x) f) Kp) (fun t x f P X s Kp Km=>PU (su P t (ev s x) f) Kp) (fun t x i P X s Kp Km=>PU (iQ P t (ev s x) (ev s i)) Kp) (fun t x i P X s Kp Km=>PU (si P t (ev s x) (ev s i)) Kp) (fun t x k ok P X s Kp Km=>ME (lX P t (ev s x) (ev s k) ok s.H) Km) (fun t m k v P X s Kp Km=>ME (jg P t (ev s m) (ev s k) (ev s v) s.H) Km) (fun _ _ _ _ _ _ _ _=>False) (fun _ _ _ _ _ _ _ _ _=>False) (fun t x P X s Kp Km=>ME (yL P t (ev s x) s.H) Km) (fun x b P X s Kp Km=>ME (Ep (ev s x) b s.H) Km) (fun _ _ _ _ _ _=>False) (fun _ _ _ _ _ _ _ _ _=>False) (fun t i P X s Kp Km=>PU (l9 (ev s t) i) Kp) (fun c P X s Kp Km=>SG P X c s Kp Km) (fun _ _ _ _ _ _=>False) (fun _ _ _ _ _ _=>False) (fun _ _ _ _ _ _=>False) (fun _ _ _ _ _ _ _=>False) (fun _ _ _ _ _ _ _ _=>False) (fun _ _ _ _ _ _ _=>False) o
def vB(v:Option Bool)(A B:Prop):Prop:=@Option.rec Bool (fun _=>Prop) False (fun b=>@Bool.rec (fun _=>Prop) B A b) v
def pY(l:List Nat)(t:Nat):Bool:=@List.rec Nat (fun _=>Bool) false (fun x _ r=>av (Nat.beq x t) true r) l
def j_(l:List Nat)(t:Nat):List Nat:=@List.rec Nat (fun _=>List Nat) [] (fun x _ r=>av (Nat.beq x t) r (x::r)) l
def cB(l:List Nat)(d:Option Nat):List Nat:=@Option.rec Nat (fun _=>List Nat) l (j_ l) d
def DY(s:St)(l:List Nat)(d:Option Nat):List Nat:=@Option.rec Nat (fun _=>List Nat) l (fun d=>av (wr s d) (d::l) l) d
def Z8(ops:Array Oper)(s:St)(sk:List Nat)(g:Option (Nat×Bool))(K:Bool→St→List Nat→Prop):Prop:=
 @Option.rec (Nat×Bool) (fun _=>Prop) (K true s sk) (fun g=>
  @Option.rec Oper (fun _=>Prop) False (fun o=>@Option.rec Nat (fun _=>Prop) False (fun t=>
   @Bool.rec (fun _=>Prop)
    (vB (bK (aY s t)) (K (qy true g.2) (h_ s t (.bool true) s.H) (j_ sk t)) (K (qy false g.2) (h_ s t (.bool false) s.H) (j_ sk t)))
    (K false s sk) (pY sk t)) o.dst) (nth ops.toList g.1)) g
def pZ(P:Program)(X:Xt)(ops:Array Oper)(l:List Oper):St→List Nat→(St→Prop)→Prop:=
 @List.rec Oper (fun _=>St→List Nat→(St→Prop)→Prop) (fun s _ K=>K s)
  (fun o _ ih s sk K=>Z8 ops s sk o.guard (fun b s sk=>@Bool.rec (fun _=>Prop)
   (ih (bI s o.dst undef s.H) (DY s sk o.dst) K)
   (@Option.rec Call (fun _=>Prop) (QO o.op P X s (fun v=>ih (bI s o.dst v s.H) (cB sk o.dst) K) (fun v H=>ih (bI s o.dst v H) (cB sk o.dst) K)) (fun _=>False) (iI o.op))
   b)) l
def Li(P:Program)(X:Xt)(ops:Array Oper)(l:List Oper):St→List Nat→List Cl→(St→List Cl→Prop)→Prop:=
 @List.rec Oper (fun _=>St→List Nat→List Cl→(St→List Cl→Prop)→Prop) (fun s _ acc K=>K s acc)
  (fun o _ ih s sk acc K=>Z8 ops s sk o.guard (fun b s sk=>@Bool.rec (fun _=>Prop)
   (ih (bI s o.dst undef s.H) (DY s sk o.dst) (cl 0::acc) K)
   (QO o.op P X (aU s) (fun v=>ih (bI s o.dst v s.H) (cB sk o.dst) (cl 0::acc) K) (fun v H=>ih (bI s o.dst v ⟨H.j6,H.next,fC s.H.low H.low⟩) (cB sk o.dst) (iY P o.op s H::acc) K))
   b)) l
def adC(P:Program)(X:Xt)(ops:Array Oper)(draw:Bool)(s:St)(K:Out→Prop):Prop:=
 @Bool.rec (fun _=>Prop) (pZ P X ops ops.toList (clear s) [] (fun s=>K (.norm s)))
  (@Bool.rec (fun _=>Prop) False (Li P X ops ops.toList (clear s) [] [] (fun s cls=>bO ops cls=true∧K (.norm s))) (bX ops&&gz ops)) draw
def iA(id:Nat)(K:Out→Prop):Out→Prop:=fun o=>K (lz id o)
def aT(P:Program)(X:Xt)(c:Code)(s:St)(K:Out→Prop):Prop:=∃o o',Ev P X c s o∧qz o o'∧K o'
def kN(P:Program)(X:Xt)(b:Code)(K:Out→Prop):Out→Prop:=
 fun o=>@Out.rec (fun _=>Prop) (K .fail) (fun s=>aT P X b s K) (fun i s=>K (.exit i s)) (fun l s=>K (.goto l s)) (fun s=>K (.ret s)) o
def adD(l:List Oper):Nat:=@List.rec Oper (fun _=>Nat) 1 (fun o _ r=>@Option.rec (Nat×Bool) (fun _=>Nat) r (fun _=>2) o.guard) l
def Z9(c:Code)(i:Nat):Nat:=
 @Code.rec (fun _=>Nat) 0 (fun _ _ _=>0) (fun _ _ a b=>Nat.add a b) (fun _ _ _ a b=>Nat.add a b) (fun _ _ a=>a) (fun _ _=>0) (fun _ _ _ _ _ _=>0) (fun j=>av (Nat.beq j i) 1 0) (fun _ _=>0) (fun _=>0) (fun _=>0) 0 (fun _=>0) c
def abx(c:Code):Nat:=
 @Code.rec (fun _=>Nat) 1 (fun _ ops _=>adD ops.toList) (fun _ _ a b=>Nat.mul a b) (fun _ _ _ a b=>Nat.add a b) (fun i a r=>Nat.add r (Z9 a i)) (fun _ _=>0) (fun _ _ _ _ _ _=>0) (fun _=>0) (fun _ _=>0) (fun _=>1) (fun _=>0) 0 (fun _=>0) c
def WO(c:Code):Nat:=
 @Code.rec (fun _=>Nat) 0 (fun _ ops _=>len ops.toList) (fun _ _ a b=>Nat.add a b) (fun _ _ _ a b=>Nat.add a b) (fun _ _ r=>r) (fun _ _=>4) (fun _ _ _ _ _ _=>0) (fun _=>0) (fun _ _=>4) (fun _=>0) (fun _=>0) 0 (fun _=>0) c
def xJ(a b:Code):Bool:=Nat.ble 2 (abx a)&&Nat.ble 4 (WO b)
section mem
variable{P:Program}{X:Xt}
theorem aby{o:Option Value}{K:Value→Prop}(h:PU o K):∃v,o=some v∧K v:=by
 cases o with
 |none=>exact h.elim
 |some v=>exact⟨v,rfl,h⟩
theorem Yt{o:Option (Value×ae)}{K:Value→ae→Prop}(h:ME o K):∃v H,o=some (v,H)∧K v H:=by
 cases o with
 |none=>exact h.elim
 |some v=>exact⟨v.1,v.2,rfl,h⟩
def nQ(P:Program)(X:Xt)(o:Op)(s:St)(Kp:Value→Prop)(Km:Value→ae→Prop):Prop:=
 ∃k,(∃v,m_ o P (bT P X k) s=.rT v∧Kp v)∨∃v H,m_ o P (bT P X k) s=.mem v H∧Km v H
theorem nQ.pu{o:Op}{s:St}{Kp:Value→Prop}{Km:Value→ae→Prop}{q:Option Value}(hq:∀cf,m_ o P cf s=rp q)(h:PU q Kp):nQ P X o s Kp Km:=by
 obtain⟨v,h1,h2⟩:=aby h
 exact⟨0,.inl ⟨v,by rw[hq,h1];rfl,h2⟩⟩
theorem nQ.me{o:Op}{s:St}{Kp:Value→Prop}{Km:Value→ae→Prop}{q:Option (Value×ae)}(hq:∀cf,m_ o P cf s=rm q)(h:ME q Km):nQ P X o s Kp Km:=by
 obtain⟨v,H,h1,h2⟩:=Yt h
 exact⟨0,.inr ⟨v,H,by rw[hq,h1];rfl,h2⟩⟩
theorem nQ.cv{o:Op}{s:St}{Kp:Value→Prop}{Km:Value→ae→Prop}{q:Option Value}{r:Option (Value×ae)}(hq:∀cf,m_ o P cf s=rpm q (rm r))(h:CV q r Kp Km):nQ P X o s Kp Km:=by
 cases q with
 |none=>exact nQ.me (q:=r) (fun cf=>hq cf) h
 |some v=>exact⟨0,.inl ⟨v,by rw[hq];rfl,h⟩⟩
theorem nQ.cons{o:Op}{s:St}{Kp:Value→Prop}{Km:Value→ae→Prop}{v:Value}(hq:∀cf,m_ o P cf s=.rT v)(h:Kp v):nQ P X o s Kp Km:=⟨0,.inl ⟨v,hq _,h⟩⟩
theorem IM{b:Builtin}{c:Call}{s:St}{ats:List TypeId}{args:List Value}{Kp:Value→Prop}{Km:Value→ae→Prop}(hq:∀cf,m_ (.call c) P cf s=pQ b ats args P s.H)(h:sQ b ats args P s.H Kp Km):nQ P X (.call c) s Kp Km:=by
 cases b with
 |append=>exact nQ.me hq h
 |clear=>exact nQ.me hq h
 |copy=>exact nQ.me hq h
 |len=>exact nQ.cv hq h
 |max=>exact nQ.pu hq h
 |min=>exact nQ.pu hq h
 |unsafeSliceData=>exact nQ.me hq h
 |unsafeString=>exact nQ.me hq h
 |_=>exact h.elim
theorem SI{c:Call}{s:St}{Kp:Value→Prop}{Km:Value→ae→Prop}(h:SG P X c s Kp Km):nQ P X (.call c) s Kp Km:=by
 unfold SG at h
 cases hb:isBuiltin c.callee with
 |some b=>
  rw[hb]at h
  refine IM (b:=b) (ats:=c.argTypes.toList) (args:=mp (ev s) c.args.toList) (fun cf=>?_) h
  show kW c P cf s=_
  unfold kW
  rw[hb]
 |none=>
  rw[hb]at h
  replace h:eG P X (eY c.callee P s) (mp (ev s) c.args.toList) s.H Km:=h
  unfold eG at h
  cases hc:eY c.callee P s with
  |none=>rw[hc]at h;exact h.elim
  |some q=>
   rw[hc]at h
   obtain⟨v,H',⟨k,h1⟩,h2⟩:=h
   refine⟨k,.inr ⟨v,H',?_,h2⟩⟩
   show kW c P (bT P X k) s=_
   unfold kW
   rw[hb]
   show rm (aj (eY c.callee P s) fun z=>bT P X k z.1 (app z.2.1 (app (mp (ev s) c.args.toList) z.2.2)) s.H)=_
   rw[hc]
   show rm (bT P X k q.1 (app q.2.1 (app (mp (ev s) c.args.toList) q.2.2)) s.H)=_
   rw[h1];rfl
theorem SK{o:Op}{s:St}{Kp:Value→Prop}{Km:Value→ae→Prop}(h:QO o P X s Kp Km):nQ P X o s Kp Km:=by
 cases o with
 |move _=>exact nQ.cons (fun _=>rfl) h
 |assign _=>exact nQ.cons (fun _=>rfl) h
 |pick _ _ _=>exact nQ.pu (fun _=>rfl) h
 |alloc _=>exact nQ.me (fun _=>rfl) h
 |box _ _=>exact nQ.me (fun _=>rfl) h
 |build _ _=>exact nQ.pu (fun _=>rfl) h
 |buildSlice _ _ _=>exact nQ.me (fun _=>rfl) h
 |insert _ _ _ _=>exact nQ.me (fun _=>rfl) h
 |load _ _=>exact nQ.me (fun _=>rfl) h
 |store _ _ _=>exact nQ.me (fun _=>rfl) h
 |nilCheck _=>exact nQ.pu (fun _=>rfl) h
 |binOp _ _ _ _ _=>exact nQ.pu (fun _=>rfl) h
 |unOp _ _ _=>exact nQ.pu (fun _=>rfl) h
 |convert _ _ _=>exact nQ.cv (fun _=>rfl) h
 |makeInterface _ _=>exact nQ.pu (fun _=>rfl) h
 |makeFunc _ _ _=>exact nQ.cons (fun _=>rfl) h
 |makeMap _ _=>exact nQ.me (fun _=>rfl) h
 |makeSlice _ _ _=>exact nQ.me (fun _=>rfl) h
 |slice _ _ _ _ _=>exact nQ.pu (fun _=>rfl) h
 |fieldAddr _ _ _=>exact nQ.pu (fun _=>rfl) h
 |field _ _ _=>exact nQ.pu (fun _=>rfl) h
 |indexAddr _ _ _=>exact nQ.pu (fun _=>rfl) h
 |index _ _ _=>exact nQ.pu (fun _=>rfl) h
 |lookup _ _ _ _=>exact nQ.me (fun _=>rfl) h
 |mapUpdate _ _ _ _=>exact nQ.me (fun _=>rfl) h
 |range _ _=>exact nQ.me (fun _=>rfl) h
 |next _ _=>exact nQ.me (fun _=>rfl) h
 |extract _ _=>exact nQ.pu (fun _=>rfl) h
 |call c=>exact SI h
 |_=>exact h.elim
theorem SL{l:List Nat}{t:Nat}:pY l t=true↔t∈l:=by
 induction l with
 |nil=>exact⟨(fun h=>by cases h),(fun h=>by cases h)⟩
 |cons x l ih=>
  show av (Nat.beq x t) true (pY l t)=true↔_
  by_cases e:x=t
  ·subst e;rw[show Nat.beq x x=true from Nat.beq_refl x];simp[gm]
  ·rw[show Nat.beq x t=false from by rw[←Bool.not_eq_true];exact fun g=>e (Nat.eq_of_beq_eq_true g)]
   rw[bR,ih,List.mem_cons]
   exact⟨.inr,fun h=>h.resolve_left (fun g=>e g.symm)⟩
theorem WR{l:List Nat}{t u:Nat}(h:u∈j_ l t):u∈l∧u≠t:=by
 induction l with
 |nil=>cases h
 |cons x l ih=>
  replace h:u∈av (Nat.beq x t) (j_ l t) (x::j_ l t):=h
  by_cases e:x=t
  ·subst e
   rw[show Nat.beq x x=true from Nat.beq_refl x,gm]at h
   exact⟨List.mem_cons_of_mem _ (ih h).1,(ih h).2⟩
  ·rw[show Nat.beq x t=false from by rw[←Bool.not_eq_true];exact fun g=>e (Nat.eq_of_beq_eq_true g),bR,List.mem_cons]at h
   rcases h with h|h
   ·subst h;exact⟨List.mem_cons_self ..,e⟩
   ·exact⟨List.mem_cons_of_mem _ (ih h).1,(ih h).2⟩
def Left(s:St)(sk:List Nat):Prop:=∀t,t∈sk→aY s t=undef
theorem Left.put{s:St}{sk:List Nat}(h:Left s sk)(d:Option Nat)(v:Value)(H:ae):Left (bI s d v H) (cB sk d):=by
 cases d with
 |none=>exact fun t ht=>h t ht
 |some d=>
  intro t ht
  obtain⟨h1,h2⟩:=WR (l:=sk) ht
  show aY (h_ s d v H) t=_
  rw[nP,if_neg (fun g=>h2 g.1.symm)]
  exact h t h1
theorem Left.skip{s:St}{sk:List Nat}(h:Left s sk)(d:Option Nat):Left (bI s d undef s.H) (DY s sk d):=by
 cases d with
 |none=>exact fun t ht=>h t ht
 |some d=>
  intro t ht
  show aY (h_ s d undef s.H) t=_
  rw[nP]
  split
  ·rfl
  ·next hn=>
   replace ht:t∈av (wr s d) (d::sk) sk:=ht
   cases hw:wr s d with
   |true=>
    rw[hw,gm,List.mem_cons]at ht
    rcases ht with e|ht
    ·exact absurd ⟨e.symm,hw⟩ hn
    ·exact h t ht
   |false=>rw[hw]at ht;exact h t ht
theorem Left.aU{s:St}{sk:List Nat}(h:Left s sk):Left (aU s) sk:=h
theorem F9{v:Option Bool}{A B:Prop}(h:vB v A B):(v=some true∧A)∨(v=some false∧B):=by
 cases v with
 |none=>exact h.elim
 |some b=>cases b with
  |true=>exact .inl ⟨rfl,h⟩
  |false=>exact .inr ⟨rfl,h⟩
theorem SN{ops:Array Oper}{s:St}{sk:List Nat}{g:Option (Nat×Bool)}{K:Bool→St→List Nat→Prop}(hl:Left s sk)(h:Z8 ops s sk g K):
 ∃b s' sk',iw ops s g=some b∧fF s s'∧Left s' sk'∧K b s' sk':=by
 cases g with
 |none=>exact⟨true,s,sk,rfl,fF.refl s,hl,h⟩
 |some g=>
  cases ho:nth ops.toList g.1 with
  |none=>
   unfold Z8 at h
   replace h:@Option.rec Oper (fun _=>Prop) False _ (nth ops.toList g.1):=h
   rw[ho]at h
   exact h.elim
  |some o=>
   cases ht:o.dst with
   |none=>
    unfold Z8 at h
    replace h:@Option.rec Oper (fun _=>Prop) False _ (nth ops.toList g.1):=h
    rw[ho]at h
    replace h:@Option.rec Nat (fun _=>Prop) False _ o.dst:=h
    rw[ht]at h
    exact h.elim
   |some t=>
    unfold Z8 at h
    replace h:@Option.rec Oper (fun _=>Prop) False _ (nth ops.toList g.1):=h
    rw[ho]at h
    replace h:@Option.rec Nat (fun _=>Prop) False _ o.dst:=h
    rw[ht]at h
    have hy:∀y,(@Option.rec Bool (fun _=>Option (Option Bool)) (gd (isU (aY s t)) (some none)) (fun b=>some (some b)) (bK (aY s t)))=some y→qD ops s g.1=some y:=by
     intro y hy
     unfold qD
     rw[ho]
     show(aj o.dst _)=_
     rw[ht]
     exact hy
    have hw:∀y,qD ops s g.1=some y→iw ops s (some g)=some (@Option.rec Bool (fun _=>Bool) false (fun b=>qy b g.2) y):=by
     intro y hy
     show Er ops s g=_
     unfold Er
     rw[hy];rfl
    cases he:pY sk t with
    |true=>
     replace h:@Bool.rec (fun _=>Prop) _ (K false s sk) (pY sk t):=h
     rw[he]at h
     refine⟨false,s,sk,?_,fF.refl s,hl,h⟩
     have hu:=hl t (SL.1 he)
     exact hw none (hy none (by rw[hu];rfl))
    |false=>
     replace h:@Bool.rec (fun _=>Prop) (vB (bK (aY s t)) (K (qy true g.2) (h_ s t (.bool true) s.H) (j_ sk t)) (K (qy false g.2) (h_ s t (.bool false) s.H) (j_ sk t))) (K false s sk) (pY sk t):=h
     rw[he]at h
     have fin:∀b,bK (aY s t)=some b→K (qy b g.2) (h_ s t (.bool b) s.H) (j_ sk t)→∃b s' sk',iw ops s (some g)=some b∧fF s s'∧Left s' sk'∧K b s' sk':=by
      intro b hb hk
      refine⟨_,_,_,hw (some b) (hy (some b) (by rw[hb])),?_,Left.put hl (some t) _ _,hk⟩
      have hv:=gB hb
      have:=fF.same s t
      rw[hv]at this
      exact this
     rcases F9 h with⟨h1,h2⟩|⟨h1,h2⟩
     ·exact fin _ h1 h2
     ·exact fin _ h1 h2
theorem SQ{ops:Array Oper}:∀{l:List Oper}{s:St}{sk:List Nat}{K:St→Prop},Left s sk→pZ P X ops l s sk K→∃s' s2,Ro P X ops l s s'∧fF s' s2∧K s2:=by
 intro l
 induction l with
 |nil=>intro s sk K _ h;exact⟨s,s,Ro.nil,fF.refl s,h⟩
 |cons o l ih=>
  intro s0 sk0 K hl0 h
  obtain⟨b,s,sk,hw,he,hl,h⟩:=SN (K:=fun b s sk=>@Bool.rec (fun _=>Prop)
   (pZ P X ops l (bI s o.dst undef s.H) (DY s sk o.dst) K)
   (@Option.rec Call (fun _=>Prop) (QO o.op P X s (fun v=>pZ P X ops l (bI s o.dst v s.H) (cB sk o.dst) K) (fun v H=>pZ P X ops l (bI s o.dst v H) (cB sk o.dst) K)) (fun _=>False) (iI o.op))
   b) hl0 h
  have fin:∀k s1 Z',dK P (bT P X k) ops o s0=some s1∨dK P (bT P X k) ops o s=some s1→Left s1 Z'→pZ P X ops l s1 Z' K→∃s' s2,Ro P X ops (o::l) s0 s'∧fF s' s2∧K s2:=by
   intro k s1 Z' hst hl1 hK
   obtain⟨s',s2,h3,h4,h5⟩:=ih hl1 hK
   rcases hst with hst|hst
   ·exact⟨s',s2,Ro.cons ⟨k,hst⟩ h3,h4,h5⟩
   ·have hx:=he.dK (P:=P) (cf:=bT P X k) ops o
    rw[hst]at hx
    generalize hz:dK P (bT P X k) ops o s0=z at hx
    cases hx with
    |some hx=>
     rename_i s3
     obtain⟨k2,h3⟩:=h3
     have hy:=fF.dS (P:=P) (cf:=bT P X k2) ops l hx
     rw[h3]at hy
     generalize hq:dS P (bT P X k2) ops l s3=q at hy
     cases hy with
     |some hy=>exact⟨_,s2,Ro.cons ⟨k,hz⟩ ⟨k2,hq⟩,hy.trans h4,h5⟩
  have hw':iw ops s o.guard=some b:=by rw[←he.iw];exact hw
  cases b with
  |false=>
   refine fin 0 _ _ (.inr ?_) (Left.skip hl o.dst) h
   unfold dK
   rw[hw'];rfl
  |true=>
   cases hd:iI o.op with
   |some c=>
    replace h:@Option.rec Call (fun _=>Prop) _ (fun _=>False) (iI o.op):=h
    rw[hd]at h;exact h.elim
   |none=>
    replace h:@Option.rec Call (fun _=>Prop) (QO o.op P X s (fun v=>pZ P X ops l (bI s o.dst v s.H) (cB sk o.dst) K) (fun v H=>pZ P X ops l (bI s o.dst v H) (cB sk o.dst) K)) (fun _=>False) (iI o.op):=h
    rw[hd]at h
    have st:∀k v H,vQ o s (m_ o.op P (bT P X k) s)=some (bI s o.dst v H)→dK P (bT P X k) ops o s=some (bI s o.dst v H):=by
     intro k v H he
     unfold dK
     rw[hw']
     show oW P (bT P X k) o s=_
     unfold oW
     rw[hd]
     exact he
    obtain⟨k,⟨v,h1,h2⟩|⟨v,H,h1,h2⟩⟩:=SK h
    ·exact fin k _ _ (.inr (st k v s.H (by rw[h1];rfl))) (Left.put hl o.dst v s.H) h2
    ·exact fin k _ _ (.inr (st k v H (by rw[h1];rfl))) (Left.put hl o.dst v H) h2
theorem Z7.abz{ops:Array Oper}{o:Oper}{l:List Oper}{s s1:St}{c:Cl}{acc:List Cl}{r:St×List Cl}{k:Nat}(h1:cZ P (bT P X k) ops o s=some (s1,c))(h2:Z7 P X ops l s1 (c::acc) r):Z7 P X ops (o::l) s acc r:=by
 obtain⟨k2,h2⟩:=h2
 refine⟨max k k2,?_⟩
 show(aj (cZ P (bT P X (max k k2)) ops o s) fun q=>bH P (bT P X (max k k2)) ops l q.1 (q.2::acc))=_
 rw[show cZ P (bT P X (max k k2)) ops o s=some (s1,c)from xF (nE k _ (Nat.le_max_left k k2)).1 h1]
 exact xG (nE k2 _ (Nat.le_max_right k k2)).1 h2
theorem Z_{ops:Array Oper}:∀{l:List Oper}{s:St}{sk:List Nat}{acc:List Cl}{K:St→List Cl→Prop},Left s sk→Li P X ops l s sk acc K→∃s' s2 cls,Z7 P X ops l s acc (s',cls)∧fF s' s2∧K s2 cls:=by
 intro l
 induction l with
 |nil=>intro s sk acc K _ h;exact⟨s,s,acc,⟨0,rfl⟩,fF.refl s,h⟩
 |cons o l ih=>
  intro s0 sk0 acc K hl0 h
  obtain⟨b,s,sk,hw,he,hl,h⟩:=SN (K:=fun b s sk=>@Bool.rec (fun _=>Prop)
   (Li P X ops l (bI s o.dst undef s.H) (DY s sk o.dst) (cl 0::acc) K)
   (QO o.op P X (aU s) (fun v=>Li P X ops l (bI s o.dst v s.H) (cB sk o.dst) (cl 0::acc) K) (fun v H=>Li P X ops l (bI s o.dst v ⟨H.j6,H.next,fC s.H.low H.low⟩) (cB sk o.dst) (iY P o.op s H::acc) K))
   b) hl0 h
  have fin:∀k s1 Z' c,cZ P (bT P X k) ops o s=some (s1,c)→Left s1 Z'→Li P X ops l s1 Z' (c::acc) K→∃s' s2 cls,Z7 P X ops (o::l) s0 acc (s',cls)∧fF s' s2∧K s2 cls:=by
   intro k s1 Z' c hst hl1 hK
   obtain⟨s',s2,cls,h3,h4,h5⟩:=ih hl1 hK
   have hx:=he.cZ (P:=P) (cf:=bT P X k) ops o
   rw[hst]at hx
   generalize hz:cZ P (bT P X k) ops o s0=z at hx
   cases hx with
   |some _ hx=>
    rename_i s3
    obtain⟨k2,h3⟩:=h3
    have hy:=fF.bH (P:=P) (cf:=bT P X k2) ops l (c::acc) hx
    rw[h3]at hy
    generalize hq:bH P (bT P X k2) ops l s3 (c::acc)=q at hy
    cases hy with
    |some _ hy=>exact⟨_,s2,cls,Z7.abz hz ⟨k2,hq⟩,hy.trans h4,h5⟩
  have hw':iw ops s o.guard=some b:=by rw[←he.iw];exact hw
  cases b with
  |false=>
   refine fin 0 _ _ (cl 0) ?_ (Left.skip hl o.dst) h
   unfold cZ
   rw[hw'];rfl
  |true=>
   obtain⟨k,⟨v,h1,h2⟩|⟨v,H,h1,h2⟩⟩:=SK h
   ·refine fin k _ _ (cl 0) ?_ (Left.put hl o.dst v s.H) h2
    unfold cZ
    rw[hw']
    show zF P o s (m_ o.op P (bT P X k) (aU s))=_
    rw[h1];rfl
   ·refine fin k _ _ (iY P o.op s H) ?_ (Left.put hl o.dst v ⟨H.j6,H.next,fC s.H.low H.low⟩) h2
    unfold cZ
    rw[hw']
    show zF P o s (m_ o.op P (bT P X k) (aU s))=_
    rw[h1];rfl
theorem aT.alike{c:Code}{s s':St}{K:Out→Prop}(he:fF s s')(h:aT P X c s' K):aT P X c s K:=by
 obtain⟨o,o',h1,h2,h3⟩:=h
 obtain⟨o2,h4,h5⟩:=Ev.alike he.symm h1
 refine⟨o2,o',h5,?_,h3⟩
 have:qz o2 o:=by
  cases h4 with
  |fail=>exact .fail
  |norm h=>exact .norm h.symm
  |exit i h=>exact .exit i h.symm
  |goto l h=>exact .goto l h.symm
  |ret h=>exact .ret h.symm
 exact this.trans h2
theorem Left.nil(s:St):Left s []:=fun t h=>by cases h
theorem WS{id:Nat}{ops:Array Oper}{d:Bool}{s:St}{K:Out→Prop}(h:adC P X ops d s K):aT P X (.region id ops d) s K:=by
 cases d with
 |false=>
  obtain⟨s',s2,h1,h2,h3⟩:=SQ (l:=ops.toList) (s:=clear s) (K:=fun s=>K (.norm s)) (Left.nil _) h
  exact⟨_,_,Ev.region h1,.norm h2,h3⟩
 |true=>
  cases hst:(bX ops&&gz ops)with
  |false=>
   have h':@Bool.rec (fun _=>Prop) False (Li P X ops ops.toList (clear s) [] [] (fun s cls=>bO ops cls=true∧K (.norm s))) (bX ops&&gz ops):=h
   rw[hst]at h'
   exact h'.elim
  |true=>
   have h':@Bool.rec (fun _=>Prop) False (Li P X ops ops.toList (clear s) [] [] (fun s cls=>bO ops cls=true∧K (.norm s))) (bX ops&&gz ops):=h
   rw[hst]at h'
   obtain⟨s',s2,cls,h1,he,h2,h3⟩:=Z_ (Left.nil _) h'
   exact⟨_,_,Ev.IK hst h1 h2,.norm he,h3⟩
theorem aT.mono{c:Code}{s:St}{K K':Out→Prop}(h:aT P X c s K)(hk:∀o,K o→K' o):aT P X c s K':=by
 obtain⟨o,o',h1,h2,h3⟩:=h
 exact⟨o,o',h1,h2,hk o' h3⟩
theorem aT.seq{a b:Code}{s:St}{K:Out→Prop}(h:aT P X a s (kN P X b K)):aT P X (.seq a b) s K:=by
 obtain⟨o,o1,h1,he,h2⟩:=h
 cases he with
 |fail=>exact absurd rfl h1.1
 |norm he=>
  obtain⟨o',o2,h3,h5,h4⟩:=aT.alike he (K:=K) h2
  exact⟨o',o2,Ev.seq h1 h3,h5,h4⟩
 |exit i he=>exact⟨_,_,Ev.Sz h1,.exit i he,h2⟩
 |goto l he=>
  refine⟨_,_,?_,.goto l he,h2⟩
  obtain⟨n1,k1,h1⟩:=h1
  refine⟨n1,k1,?_⟩
  show andThen (xI P X k1 a s) (xI P X k1 b)=_
  rw[h1];rfl
 |ret he=>exact⟨_,_,Ev.WJ h1,.ret he,h2⟩
theorem aT.block{id:Nat}{a:Code}{s:St}{K:Out→Prop}(h:aT P X a s (iA id K)):aT P X (.block id a) s K:=by
 obtain⟨o,o',h1,he,h2⟩:=h
 refine⟨lz id o,_,?_,?_,h2⟩
 ·obtain⟨n1,k1,h1⟩:=h1
  refine⟨?_,k1,?_⟩
  ·cases o with
   |fail=>exact absurd rfl n1
   |exit i s'=>
    show av (Nat.beq i id) (Out.norm s') (Out.exit i s')≠.fail
    cases Nat.beq i id<;>simp[gm,bR]
   |_=>intro e;cases e
  ·show lz id (xI P X k1 a s)=_
   rw[h1]
 ·cases he with
  |fail=>exact .fail
  |norm he=>exact .norm he
  |exit i he=>
   show qz (av (Nat.beq i id) _ _) (av (Nat.beq i id) _ _)
   cases Nat.beq i id with
   |true=>exact .norm he
   |false=>exact .exit i he
  |goto l he=>exact .goto l he
  |ret he=>exact .ret he
def aaa{T:Type}(emb:T→St)(Inv:T→Prop)(μ:T→Nat)(n:Nat)(K:Out→Prop):Out→Prop:=fun o=>match o with
 |.norm s'=>∃t',s'=emb t'∧Inv t'∧μ t'<n
 |.fail=>False
 |o=>K o
theorem aT.loop{T:Type}{a:Code}{K:Out→Prop}(emb:T→St)(Inv:T→Prop)(μ:T→Nat)(h:∀t,Inv t→aT P X a (emb t) (aaa emb Inv μ (μ t) K)):
 ∀(t:T),Inv t→aT P X (.loop a) (emb t) K:=by
 suffices∀n t,μ t<n→Inv t→aT P X (.loop a) (emb t) K from fun t ht=>this (μ t +1) t (Nat.lt_succ_self _) ht
 intro n
 induction n with
 |zero=>intro t hn;omega
 |succ n ih=>
  intro t hn hI
  obtain⟨o,o',h1,he,h2⟩:=h t hI
  cases he with
  |fail=>exact h2.elim
  |norm he=>
   obtain⟨t',rfl,h3,h4⟩:=h2
   obtain⟨o',o2,h5,h7,h6⟩:=aT.alike he (ih t' aa h3)
   exact⟨o',o2,Ev.WK h1 h5,h7,h6⟩
  |exit i he=>exact⟨_,_,Ev.SA h1,.exit i he,h2⟩
  |goto l he=>
   refine⟨_,_,?_,.goto l he,h2⟩
   obtain⟨n1,k1,h1⟩:=h1
   refine⟨n1,k1 +1,?_⟩
   show andThen (xI P X (k1 +1) a (emb t)) _=_
   rw[qO h1 n1 (Nat.le_succ _)];rfl
  |ret he=>exact⟨_,_,Ev.SC h1,.ret he,h2⟩
theorem ak.mono{g:FuncId}{args:List Value}{H:ae}{K K':Value→ae→Prop}(h:ak P X g args H K)(hk:∀v H',K v H'→K' v H'):ak P X g args H K':=by
 obtain⟨v,H',h1,h2⟩:=h
 exact⟨v,H',h1,hk _ _ h2⟩
def cK(P:Program)(rs:List ResultVar)(K:Value→ae→Prop):Out→Prop:=fun o=>
 @Out.rec (fun _=>Prop) False (fun s=>s.df=[]∧@Option.rec (List Value) (fun _=>Prop) False (fun vs=>K (je vs) s.H) (dn P s rs)) (fun _ _=>False) (fun _ _=>False)
  (fun s=>s.df=[]∧@Option.rec (List Value) (fun _=>Prop) False (fun vs=>K (je vs) s.H) (dn P s rs)) o
def uN(args:List Value)(n:Nat):Tr Value:=Tr.jG top (app args (Q9 top (Nat.sub n (len args)))) 0 .nil
theorem IP(args:List Value)(n k:Nat):(Tr.jG top args 0 .nil).get top k=(uN args n).get top k:=by
 unfold uN
 rw[Tr.dW,Tr.dW,jd]
 simp only[Nat.zero_le,true_and,Nat.zero_add,Nat.sub_zero]
 have hrep:∀m,(Q9 top m).length=m:=by intro m;induction m with|zero=>rfl|succ m ih=>exact congrArg Nat.succ ih
 have hget:∀m j,(Q9 top m).getD j top=top:=by
  intro m
  induction m with
  |zero=>intro j;rfl
  |succ m ih=>intro j;cases j with
   |zero=>rfl
   |succ j=>exact ih j
 by_cases h1:k<args.length
 ·rw[if_pos h1,if_pos (by simp;omega)]
  simp[List.getD_eq_getElem?_getD,List.getElem?_append_left h1]
 ·rw[if_neg h1]
  split
  ·rw[List.getD_eq_getElem?_getD,List.getElem?_append_right aa,←List.getD_eq_getElem?_getD,hget,Tr.get_nil]
  ·rfl
theorem ak.body{g:FuncId}{fn:Func}{c:Code}{args:List Value}{H:ae}{K:Value→ae→Prop}{nl:Nat}(hor:X.o g args H=none)(hg:nth P.funcs.toList g=some fn)(hb:fn.body=some c)(hl:Nat.ble (len args) fn.ntmps=true)(hn:bP P g=nl)
 (h:aT P X c ⟨nl,fn.ntmps,[],uN args fn.ntmps,[],H⟩ (cK P fn.results.toList K)):ak P X g args H K:=by
 obtain⟨o,o1,h1,h0,h2⟩:=h
 subst hn
 have he:fF ⟨bP P g,fn.ntmps,[],uN args fn.ntmps,[],H⟩ ⟨bP P g,fn.ntmps,[],Tr.jG top args 0 .nil,[],H⟩:=⟨rfl,rfl,rfl,rfl,fun k=>by
  show av (aV (bP P g) k) ((uN args fn.ntmps).get top k) _=av (aV (bP P g) k) ((Tr.jG top args 0 .nil).get top k) _
  rw[IP args fn.ntmps k]⟩
 obtain⟨o',h3,h4⟩:=Ev.alike he h1
 have fin:∀s s':St,fF s' s→Fz o'=some s'→(s.df=[]∧@Option.rec (List Value) (fun _=>Prop) False (fun vs=>K (je vs) s.H) (dn P s fn.results.toList))→ak P X g args H K:=by
  intro s s' hs ho ⟨hd,hr⟩
  rw[←hs.dn]at hr
  cases ha:dn P s' fn.results.toList with
  |none=>rw[ha]at hr;exact hr.elim
  |some vs=>
   rw[ha]at hr
   refine⟨_,_,Ca.body hor hg hb hl h4 ho ?_ ha,?_⟩
   ·rw[hs.df,hd];rfl
   ·rw[hs.H];exact hr
 have adE:qz o' o:=by
  cases h3 with
  |fail=>exact .fail
  |norm h=>exact .norm h.symm
  |exit i h=>exact .exit i h.symm
  |goto l h=>exact .goto l h.symm
  |ret h=>exact .ret h.symm
 have h5:=adE.trans h0
 cases h5 with
 |fail=>exact h2.elim
 |norm hs=>exact fin _ _ hs rfl h2
 |exit i hs=>exact h2.elim
 |goto l hs=>exact h2.elim
 |ret hs=>exact fin _ _ hs rfl h2
theorem IQ{b:Code}{K:Out→Prop}{s:St}:kN P X b K (.norm s)=aT P X b s K:=rfl
theorem IU{b:Code}{K:Out→Prop}{s:St}{i:Nat}:kN P X b K (.exit i s)=K (.exit i s):=rfl
theorem Nv{b:Code}{K:Out→Prop}{s:St}:kN P X b K (.ret s)=K (.ret s):=rfl
theorem IV{K:Out→Prop}{s:St}{i:Nat}:iA i K (.norm s)=K (.norm s):=rfl
theorem Nw{K:Out→Prop}{s:St}{i:Nat}:iA i K (.ret s)=K (.ret s):=rfl
theorem IW{K:Out→Prop}{s:St}{i:Nat}:iA i K (.exit i s)=K (.norm s):=by
 show K (av (Nat.beq i i) _ _)=_
 rw[show Nat.beq i i=true from Nat.beq_refl i];rfl
theorem IX{K:Out→Prop}{s:St}{i j:Nat}(h:j≠i):iA i K (.exit j s)=K (.exit j s):=by
 show K (av (Nat.beq j i) _ _)=_
 rw[show Nat.beq j i=false from by rw[←Bool.not_eq_true];exact fun g=>h (Nat.eq_of_beq_eq_true g)];rfl
theorem IY{A B:Prop}:vB (some true) A B=A:=rfl
theorem EM{A B:Prop}:vB (some false) A B=B:=rfl
theorem dY{v:Value}{K:Value→Prop}:PU (some v) K=K v:=rfl
theorem Ny{v:Value}{H:ae}{K:Value→ae→Prop}:ME (some (v,H)) K=K v H:=rfl
theorem Nz{v:Value}{q:Option (Value×ae)}{Kp:Value→Prop}{Km:Value→ae→Prop}:CV (some v) q Kp Km=Kp v:=rfl
end mem
def kid(c:Code)(i:Nat):Code:=
 @Code.rec (fun _=>Nat→Code) (fun _=>.skip) (fun _ _ _ _=>.skip) (fun a b _ _ i=>@Nat.rec (fun _=>Code) a (fun _ _=>b) i)
  (fun _ a b _ _ i=>@Nat.rec (fun _=>Code) a (fun _ _=>b) i) (fun _ a _ _=>a) (fun a _ _=>a) (fun _ _ _ _ _ _ _=>.skip) (fun _ _=>.skip) (fun a _ _=>a) (fun _ _=>.skip) (fun _ _=>.skip) (fun _=>.skip) (fun _ _=>.skip) c i
def sub(c:Code)(p:List Nat):Code:=@List.rec Nat (fun _=>Code→Code) (fun c=>c) (fun i _ ih c=>ih (kid c i)) p c
def opsOf(c:Code):Array Oper:=
 @Code.rec (fun _=>Array Oper) #[] (fun _ ops _=>ops) (fun _ _ _ _=>#[]) (fun _ _ _ _ _=>#[]) (fun _ _ _=>#[]) (fun _ _=>#[]) (fun _ _ _ _ _ _=>#[]) (fun _=>#[]) (fun _ _=>#[]) (fun _=>#[]) (fun _=>#[]) #[] (fun _=>#[]) c
def F_(f:Func):Code:=@Option.rec Code (fun _=>Code) .skip (fun c=>c) f.body
def fld(off:Nat)(x:Value):Option Value:=aj (gT x) fun a=>some (.pointer (some ⟨a.block,Nat.add a.off off,none⟩))
def aab(l:Option Nat)(off:Nat)(x:Value):Option Value:=aj (kR x) fun cs=>apart l cs off
def lM(l:Option Nat)(x:Value)(H:ae):Option (Value×ae):=aj (gT x) fun a=>loadAt l a H
def yB(n:Nat)(x v:Value)(H:ae):Option (Value×ae):=
 aj (gT x) fun a=>gd (Nat.beq (len (ax v)) n) (aj (H.write a.block a.off (ax v)) fun H'=>some (undef,H'))
def sS(es:Nat)(x i:Value):Option Value:=aj (oV i) fun k=>aj (Av x) fun p=>aj p.1 fun a=>gd (Nat.ble (Nat.succ k) p.2.1) (some (.pointer (some ⟨a.block,Nat.add a.off (Nat.mul k es),none⟩)))
def idR(n es:Nat)(x i:Value):Option Value:=aj (oV i) fun k=>aj (gT x) fun a=>gd (Nat.ble (Nat.succ k) n) (some (.pointer (some ⟨a.block,Nat.add a.off (Nat.mul k es),none⟩)))
def idS(x i:Value):Option Value:=aj (oV i) fun k=>aj (jl x) fun s=>aj (nth s.data.toList k) fun b=>some (.int .u8 (.ofNat b.toNat))
def WT(es:Nat)(x:Value)(lo hi mx:Option Value):Option Value:=aj (Av x) fun p=>MQ es p lo hi mx
def slT(x:Value)(lo hi mx:Option Value):Option Value:=aj (jl x) fun s=>gd (aD mx) (Fv s lo hi)
def abA(x:Value):Option Value:=aj (Av x) fun p=>some (.int .i64 (.ofNat p.2.1))
def abB(x:Value):Option Value:=aj (jl x) fun s=>some (.int .i64 (.ofNat (len s.data.toList)))
def bZ(e:TypeId)(z:List Value)(H:ae):Option (Value×ae):=some (BD H.next,H.new (rowOf e z))
def mkS(e:TypeId)(z:List Value)(l c:Value)(H:ae):Option (Value×ae):=
 aj (oV l) fun n=>aj (oV c) fun m=>gd (Nat.ble n m&&Nat.ble m 16777216&&true) (some (.slice (some ⟨H.next,0,none⟩) n m,H.new (rowOf e (gQ z m))))
def wh(e:TypeId)(es:Nat)(s x:Value)(H:ae):Option (Value×ae):=
 aj (Av s) fun p=>aj (appended H es x) fun r=>gd (Nat.ble r.1 16777216) (MS (e,es) s p r.1 r.2 H)
def cpA(es:Nat)(d x:Value)(H:ae):Option (Value×ae):=
 aj (Av d) fun p=>aj (appended H es x) fun e=>
  @Option.rec Addr (fun _=>Option (Value×ae)) (gd (Nat.beq p.2.1 0) (some (.int .i64 0,H)))
   (fun a=>aj (H.write a.block a.off (tk (Nat.mul (av (Nat.ble e.1 p.2.1) e.1 p.2.1) es) e.2)) fun H'=>some (.int .i64 (.ofNat (av (Nat.ble e.1 p.2.1) e.1 p.2.1)),H')) p.1
def clA(z:List Value)(d:Value)(H:ae):Option (Value×ae):=
 aj (Av d) fun p=>@Option.rec Addr (fun _=>Option (Value×ae)) (some (.tuple #[],H)) (fun a=>aj (H.write a.block a.off (gQ z p.2.1)) fun H'=>some (.tuple #[],H')) p.1
def Dy(x:Value):Option (FuncId×List Value×List Value):=aj (Q5 x) fun q=>aj (VL q.1) fun g=>some (g,q.2)
def hN(H:ae):ae:=⟨H.j6,H.next,H.next⟩
def hM(H H':ae):ae:=⟨H'.j6,H'.next,fC H.low H'.low⟩
def DZ(H H':ae):Cl:=av (Nat.ble H.next H'.low) (cl 1) ⟨2,0,0,0,H,H'⟩
def PI(H H':ae):Cl:=av (Nat.ble H.next H'.low) (cl 5) ⟨2,0,0,0,H,H'⟩
def Yu(n:Nat)(x:Value)(H H':ae):Cl:=av (Nat.ble H.next H'.low) ((aj (gT x) fun a=>some (Cl.mk 4 a.block a.off n hh0 hh0)).getD (cl 1)) ⟨2,0,0,0,H,H'⟩
def clS(x v:Value)(H H':ae):Cl:=@Option.rec Addr (fun _=>Cl) ⟨2,0,0,0,H,H'⟩ (fun a=>⟨3,a.block,a.off,len (ax v),hh0,hh0⟩) (gT x)
def wZ(R:Nat→St→Prop)(n:Nat)(K:Out→Prop):Out→Prop:=fun o=>
 @Out.rec (fun _=>Prop) False (fun s=>∃m,m<n∧R m s) (fun i s=>K (.exit i s)) (fun l s=>K (.goto l s)) (fun s=>K (.ret s)) o
theorem IZ{R:Nat→St→Prop}{n:Nat}{K:Out→Prop}{s:St}:wZ R n K (.norm s)=∃m,m<n∧R m s:=rfl
theorem I1{R:Nat→St→Prop}{n:Nat}{K:Out→Prop}{s:St}{i:Nat}:wZ R n K (.exit i s)=K (.exit i s):=rfl
theorem NA{R:Nat→St→Prop}{n:Nat}{K:Out→Prop}{s:St}:wZ R n K (.ret s)=K (.ret s):=rfl
theorem aT.sU{P:Program}{X:Xt}{a:Code}{K:Out→Prop}{R:Nat→St→Prop}(h:∀n s,R n s→aT P X a s (wZ R n K)):∀n s,R n s→aT P X (.loop a) s K:=by
 intro n s hs
 refine aT.loop (T:=Nat×St) (fun t=>t.2) (fun t=>R t.1 t.2) (fun t=>t.1) ?_ (n,s) hs
 rintro⟨n,s⟩ hR
 refine aT.mono (h n s hR) fun o ho=>?_
 cases o with
 |fail=>exact ho
 |norm s'=>
  obtain⟨m,h1,h2⟩:=ho
  exact⟨(m,s'),rfl,h2,h1⟩
 |exit i s'=>exact ho
 |goto l s'=>exact ho
 |ret s'=>exact ho
abbrev Az:=look
def Lj(P:Program)(s:St)(rs:List ResultVar):(List Value→Prop)→Prop:=
 @List.rec ResultVar (fun _=>(List Value→Prop)→Prop) (fun k=>k []) (fun r _ ih k=>
  @ResultVar.rec (fun _=>Prop) (fun t=>ih (fun vs=>k (aY s t::vs))) (fun a t=>ME (kz P t (aY s a) s.H) fun v _=>ih (fun vs=>k (v::vs))) r) rs
theorem NB{P:Program}{s:St}:∀{rs:List ResultVar}{k:List Value→Prop},Lj P s rs k→∃vs,dn P s rs=some vs∧k vs:=by
 intro rs
 induction rs with
 |nil=>intro k h;exact⟨[],rfl,h⟩
 |cons r rs ih=>
  intro k h
  cases r with
  |tmp t=>
   obtain⟨vs,h1,h2⟩:=ih (k:=fun vs=>k (aY s t::vs)) h
   refine⟨aY s t::vs,?_,h2⟩
   show(aj (some (aY s t)) fun v=>aj (dn P s rs) fun vs=>some (v::vs))=_
   rw[h1];rfl
  |cell a t=>
   obtain⟨v,H',h0,h⟩:=Yt (K:=fun v _=>Lj P s rs (fun vs=>k (v::vs))) h
   obtain⟨vs,h1,h2⟩:=ih (k:=fun vs=>k (v::vs)) h
   refine⟨v::vs,?_,h2⟩
   show(aj (aj (kz P t (aY s a) s.H) fun p=>some p.1) fun v=>aj (dn P s rs) fun vs=>some (v::vs))=_
   rw[h0,h1];rfl
theorem SS{P:Program}{s:St}{rs:List ResultVar}{K:Value→ae→Prop}(hd:s.df=[])(h:Lj P s rs (fun vs=>K (je vs) s.H)):cK P rs K (.ret s):=by
 obtain⟨vs,h1,h2⟩:=NB h
 refine⟨hd,?_⟩
 rw[h1];exact h2
theorem PK{P:Program}{s:St}{rs:List ResultVar}{K:Value→ae→Prop}(hd:s.df=[])(h:Lj P s rs (fun vs=>K (je vs) s.H)):cK P rs K (.norm s):=by
 obtain⟨vs,h1,h2⟩:=NB h
 refine⟨hd,?_⟩
 rw[h1];exact h2
section
theorem p8(H:ae)(r:Nat)(o:dh)(q:Nat):(H.put r o).obj q=if q=r then o else H.obj q:=Tr.jQ _ _ _ _ _
theorem oz(H:ae)(o:dh)(q:Nat):(H.new o).obj q=if q=H.next then o else H.obj q:=Tr.jQ _ _ _ _ _
theorem kG(H:ae)(r:Nat)(o:dh):(H.put r o).low=min H.low r:=by
 show av (Nat.ble H.low r) H.low r=_
 cases h:Nat.ble H.low r with
 |true=>have:=Nat.le_of_ble_eq_true h;rw[gm,Nat.min_eq_left this]
 |false=>
  have:¬H.low≤r:=fun g=>by rw[Nat.ble_eq_true_of_le g]at h;cases h
  rw[bR,Nat.min_eq_right aa]
def Bk(H:ae)(r:Nat)(ty:TypeId)(cs:List Value):Prop:=
 ∃R:Row,H.obj r=.row R∧R.ty=ty∧R.n=cs.length∧R.dA=false∧R.fz=0∧∀i(h:i<cs.length),R.cells.get top i=cs[i]
theorem Bk.cell{H:ae}{r:Nat}{ty:TypeId}{cs:List Value}(h:Bk H r ty cs){o:Nat}{v:Value}(hv:cs[o]?=some v):H.cell r o=some v:=by
 obtain⟨R,h1,_,h2,_,_,h3⟩:=h
 obtain⟨ho,hv⟩:=List.getElem?_eq_some_iff.1 hv
 unfold ae.cell
 rw[h1]
 show gd (Nat.ble (Nat.succ o) R.n) (some (R.cells.get top o))=_
 rw[h2,Nat.ble_eq_true_of_le aa,h3 o ho,hv];rfl
theorem Bk.dL{H H':ae}{r:Nat}{ty:TypeId}{cs:List Value}(h:Bk H r ty cs)(e:H'.obj r=H.obj r):Bk H' r ty cs:=by
 obtain⟨R,h1,h2⟩:=h
 exact⟨R,e.trans h1,h2⟩
theorem fP{H H':ae}{r:Nat}(e:H'.obj r=H.obj r)(o:Nat):H'.cell r o=H.cell r o:=by unfold ae.cell;rw[e]
theorem mD{H H':ae}{r:Nat}(e:H'.obj r=H.obj r)(o n:Nat):H'.read r o n=H.read r o n:=by unfold ae.read;rw[e]
theorem Bk.new(H:ae)(ty:TypeId)(cs:List Value):Bk (H.new (rowOf ty cs)) H.next ty cs:=by
 refine⟨⟨ty,Tr.jG top cs 0 .nil,len cs,false,0⟩,by rw[oz,if_pos rfl];rfl,rfl,aM cs,rfl,rfl,fun i h=>?_⟩
 rw[Tr.dW,if_pos aa,List.getD_eq_getElem?_getD]
 simp[h]
theorem SV{n:Nat}:∀{k:Nat}(t:Tr Value)(cs:List Value),k +n≤cs.length→(∀i(h:i<cs.length),t.get top i=cs[i])→Tr.vK top t k n=(cs.drop k).take n:=by
 induction n with
 |zero=>intro k t cs _ _;rw[Tr.rZ];simp
 |succ n ih=>
  intro k t cs hk ht
  rw[Tr.l7,ih t cs aa ht,ht k aa,List.drop_eq_getElem_cons (by omega:k<cs.length),List.take_succ_cons]
theorem Bk.read{H:ae}{r:Nat}{ty:TypeId}{cs:List Value}(h:Bk H r ty cs){o n:Nat}(hn:o +n≤cs.length):H.read r o n=some ((cs.drop o).take n):=by
 obtain⟨R,h1,_,h2,_,_,h3⟩:=h
 cases n with
 |zero=>show some []=_;simp
 |succ n=>
  show(aj (kg (H.obj r)) fun w=>gd (Nat.ble (Nat.add o (n +1)) w.n) (some (Tr.vK top w.cells o (n +1))))=_
  rw[h1]
  show gd (Nat.ble (Nat.add o (n +1)) R.n) (some (Tr.vK top R.cells o (n +1)))=_
  rw[h2,Nat.ble_eq_true_of_le (by simpa using hn),SV R.cells cs hn h3];rfl
def splice(cs:List Value)(o:Nat)(vs:List Value):List Value:=cs.take o++vs++cs.drop (o +vs.length)
theorem eH{cs vs:List Value}{o:Nat}(h:o +vs.length≤cs.length):(splice cs o vs).length=cs.length:=by unfold splice;simp;omega
theorem iU{cs vs:List Value}{o:Nat}(h:o +vs.length≤cs.length)(i:Nat):(splice cs o vs)[i]?=if o≤i∧i<o +vs.length then vs[i -o]? else cs[i]?:=by
 unfold splice
 rw[List.append_assoc,List.getElem?_append,List.getElem?_append]
 simp only[List.length_take]
 by_cases h1:i<o
 ·rw[if_pos aa,if_neg aa,List.getElem?_take,if_pos h1]
 ·rw[if_neg aa]
  by_cases h2:i<o +vs.length
  ·rw[if_pos aa,if_pos ⟨aa,h2⟩];congr 1;omega
  ·rw[if_neg aa,if_neg aa,List.getElem?_drop];congr 1;omega
theorem Bk.write{H:ae}{r:Nat}{ty:TypeId}{cs vs:List Value}(h:Bk H r ty cs){o:Nat}(hn:o +vs.length≤cs.length)(hk:all' aR vs=true):
 ∃H',H.write r o vs=some H'∧Bk H' r ty (splice cs o vs)∧H'.next=H.next∧(∀q,q≠r→H'.obj q=H.obj q)∧(H'.low=min H.low r∨H'.low=H.low):=by
 obtain⟨R,h1,h2,h3,h4,h5,h6⟩:=h
 cases vs with
 |nil=>
  refine⟨H,rfl,⟨R,h1,h2,by rw[eH hn];exact h3,h4,h5,fun i hi=>?_⟩,rfl,fun _ _=>rfl,.inr rfl⟩
  have hi':i<cs.length:=by rwa [eH hn]at hi
  have:=iU hn i
  rw[if_neg (fun h=>absurd h.2 (by simp;omega)),List.getElem?_eq_getElem hi,List.getElem?_eq_getElem hi']at this
  rw[h6 i hi'];exact(Option.some.inj this).symm
 |cons v vs'=>
  have hw:H.write r o (v::vs')=some (H.put r (.row ⟨R.ty,Tr.jG top (v::vs') o R.cells,R.n,false,R.fz⟩)):=by
   show(aj (kg (H.obj r)) fun w=>gd (!w.dA&&Nat.ble (Nat.add o (len (v::vs'))) w.n&&Nat.ble w.fz o&&all' aR (v::vs')) (some (H.put r (.row ⟨w.ty,Tr.jG top (v::vs') o w.cells,w.n,false,w.fz⟩))))=_
   rw[h1]
   show gd (!R.dA&&Nat.ble (Nat.add o (len (v::vs'))) R.n&&Nat.ble R.fz o&&all' aR (v::vs')) _=_
   rw[hk,h4,h3,h5,aM,Nat.ble_eq_true_of_le (by simpa using hn),Nat.ble_eq_true_of_le (Nat.zero_le o)];rfl
  refine⟨_,hw,⟨⟨R.ty,Tr.jG top (v::vs') o R.cells,R.n,false,R.fz⟩,by rw[p8,if_pos rfl],h2,by rw[eH hn];exact h3,rfl,h5,fun i hi=>?_⟩,rfl,fun q hq=>by rw[p8,if_neg hq],.inl (kG _ _ _)⟩
  have hi':i<cs.length:=by rwa [eH hn]at hi
  have hg:=iU hn i
  rw[List.getElem?_eq_getElem hi]at hg
  show(Tr.jG top (v::vs') o R.cells).get top i=_
  rw[Tr.dW]
  by_cases hc:o≤i∧i<o +(v::vs').length
  ·rw[if_pos hc]at hg⊢
   rw[List.getD_eq_getElem?_getD,←hg];rfl
  ·rw[if_neg hc]at hg⊢
   rw[h6 i hi']
   rw[List.getElem?_eq_getElem hi']at hg
   exact(Option.some.inj hg).symm
structure kP(S:List Nat)(H H':ae):Prop where
 next:H.next≤H'.next
 obj:∀r,r<H.next→r∉S→H'.obj r=H.obj r
 low:∀b,b≤H.low→b≤H.next→(∀r∈S,b≤r)→b≤H'.low
 wf:H.low≤H.next→H'.low≤H'.next
abbrev Wf(H:ae):Prop:=H.low≤H.next
abbrev Ext(H H':ae):Prop:=kP [] H H'
theorem Ext.refl(H:ae):Ext H H:=⟨Nat.le_refl _,fun _ _ _=>rfl,fun _ h _ _=>h,fun h=>h⟩
theorem kP.refl(S:List Nat)(H:ae):kP S H H:=⟨Nat.le_refl _,fun _ _ _=>rfl,fun _ h _ _=>h,fun h=>h⟩
theorem kP.trans{S:List Nat}{A B C:ae}(h1:kP S A B)(h2:kP S B C):kP S A C:=
 ⟨Nat.le_trans h1.next h2.next,fun r hr hS=>(h2.obj r (Nat.lt_of_lt_of_le hr h1.next) hS).trans (h1.obj r hr hS),fun b hl hn hS=>h2.low b (h1.low b hl hn hS) (Nat.le_trans hn h1.next) hS,fun h=>h2.wf (h1.wf h)⟩
theorem kP.later{S S':List Nat}{A B C:ae}(h1:kP S A B)(h2:kP S' B C)(hS:∀r∈S',r∈S∨A.next≤r):kP S A C:=
 ⟨Nat.le_trans h1.next h2.next,fun r hr hn=>(h2.obj r (Nat.lt_of_lt_of_le hr h1.next) (fun h=>by
     rcases hS r h with h|h
     ·exact hn h
     ·omega)).trans (h1.obj r hr hn),
  fun b hl hn hb=>h2.low b (h1.low b hl hn hb) (Nat.le_trans hn h1.next) (fun r hr=>by
   rcases hS r hr with h|h
   ·exact hb r h
   ·omega),fun h=>h2.wf (h1.wf h)⟩
theorem kP.weaken{S S':List Nat}{A B:ae}(h:kP S A B)(hs:∀r∈S,r∈S'):kP S' A B:=⟨h.next,fun r hr hn=>h.obj r hr (fun g=>hn (hs r g)),fun b hl hn hb=>h.low b hl hn (fun r hr=>hb r (hs r hr)),h.wf⟩
theorem Ext.new(H:ae)(o:dh):Ext H (H.new o):=⟨Nat.le_succ _,fun r hr _=>by rw[oz,if_neg aa],fun _ h _ _=>h,fun h=>Nat.le_succ_of_le h⟩
theorem kP.put(H:ae)(r:Nat)(o:dh):kP [r] H (H.put r o):=⟨Nat.le_refl _,fun q _ hq=>by rw[p8,if_neg (fun e=>hq (by simp[e]))],fun b h _ hb=>by rw[kG];have:=hb r (by simp);omega,fun h=>by rw[kG];show min H.low r≤H.next;omega⟩
abbrev aC:=Nat×TypeId×List Value
structure SH(S:List Nat)(H0 H:ae)(L:List aC):Prop where
 ext:kP S H0 H
 bk:∀e∈L,Bk H e.1 e.2.1 e.2.2
 lo:∀e∈L,(e.1∈S∨H0.next≤e.1)∧e.1<H.next
 ne:L.Pairwise (fun a b=>a.1≠b.1)
 wf:H.low≤H.next
variable{S:List Nat}
theorem SH.refl{H:ae}(hw:Wf H):SH [] H H []:=⟨Ext.refl H,(fun e h=>by cases h),(fun e h=>by cases h),List.Pairwise.nil,hw⟩
theorem SH.wm{H0 H:ae}{L:List aC}(hS:SH [] H0 H L){e:aC}(he:e∈L):H0.next≤e.1:=(hS.lo e he).1.resolve_left (fun h=>nomatch h)
theorem SH.get{H0 H:ae}{L:List aC}(hS:SH S H0 H L)(i:Nat){r:Nat}{ty:TypeId}{cs:List Value}(hi:L[i]?=some (r,ty,cs)):Bk H r ty cs:=hS.bk _ (List.mem_of_getElem? hi)
theorem SH.old{H0 H:ae}{L:List aC}(hS:SH [] H0 H L){r o:Nat}(hr:r<H0.next):H.cell r o=H0.cell r o:=fP (hS.ext.obj r hr (by simp)) o
theorem SH.grow{H0 H:ae}{L:List aC}(hS:SH S H0 H L)(ty:TypeId)(cs:List Value):SH S H0 (H.new (rowOf ty cs)) ((H.next,ty,cs)::L):=by
 refine⟨hS.ext.later (Ext.new _ _) (fun r h=>nomatch h),?_,?_,?_,(Ext.new _ _).wf hS.wf⟩
 ·intro e he
  rcases List.mem_cons.1 he with rfl|he
  ·exact Bk.new H ty cs
  ·exact(hS.bk e he).dL (by rw[oz,if_neg (by have:=(hS.lo e he).2;omega)])
 ·intro e he
  rcases List.mem_cons.1 he with rfl|he
  ·exact⟨.inr hS.ext.next,Nat.lt_succ_self _⟩
  ·exact⟨(hS.lo e he).1,Nat.lt_succ_of_lt (hS.lo e he).2⟩
 ·refine List.Pairwise.cons (fun e he=>?_) hS.ne
  have:=(hS.lo e he).2
  show H.next≠e.1
  omega
theorem SH.turn{H0 H H':ae}{A A' L:List aC}(hS:SH S H0 H (A++L))(hx:kP (A.map (·.1)) H H')(hb:∀e∈A',Bk H' e.1 e.2.1 e.2.2∧(e.1∈A.map (·.1)∨H.next≤e.1)∧e.1<H'.next)(hn:A'.Pairwise (fun a b=>a.1≠b.1)):SH S H0 H' (A'++L):=by
 have hp:=List.pairwise_append.1 hS.ne
 have hA:∀r∈A.map (·.1),∃e∈A,e.1=r:=fun r hr=>by simpa using hr
 have hnot:∀e∈L,e.1∉A.map (·.1):=fun e he h=>by
  obtain⟨a,ha,e1⟩:=hA _ h
  exact hp.2.2 a ha e he e1
 refine⟨?_,?_,?_,?_,hx.wf hS.wf⟩
 ·refine kP.later hS.ext hx (fun r hr=>?_)
  obtain⟨a,ha,rfl⟩:=hA r hr
  exact(hS.lo a (List.mem_append_left _ ha)).1
 ·intro e he
  rcases List.mem_append.1 he with he|he
  ·exact(hb e he).1
  ·exact(hS.bk e (List.mem_append_right _ he)).dL (hx.obj _ (hS.lo e (List.mem_append_right _ he)).2 (hnot e he))
 ·intro e he
  rcases List.mem_append.1 he with he|he
  ·refine⟨?_,(hb e he).2.2⟩
   rcases(hb e he).2.1 with h|h
   ·obtain⟨a,ha,e1⟩:=hA _ h
    rw[←e1];exact(hS.lo a (List.mem_append_left _ ha)).1
   ·have:=hS.ext.next;exact .inr aa
  ·have:=hS.lo e (List.mem_append_right _ he)
   exact⟨this.1,Nat.lt_of_lt_of_le this.2 hx.next⟩
 ·refine List.pairwise_append.2 ⟨hn,hp.2.1,fun a ha e he=>?_⟩
  rcases(hb a ha).2.1 with h|h
  ·exact fun e1=>hnot e he (by rw[←e1];exact h)
  ·have:=(hS.lo e (List.mem_append_right _ he)).2;omega
theorem SH.call{H0 H H':ae}{L:List aC}(hS:SH S H0 H L)(hx:Ext H H'):SH S H0 H' L:=SH.turn (A:=[]) (A':=[]) hS hx (fun e h=>nomatch h) List.Pairwise.nil
theorem SH.drop{H0 H:ae}{A L:List aC}(hS:SH S H0 H (A++L)):SH S H0 H L:=SH.turn (A:=A) (A':=[]) hS (kP.refl _ _) (fun e h=>nomatch h) List.Pairwise.nil
theorem SH.perm{H0 H:ae}{L L':List aC}(hS:SH S H0 H L)(hp:L.Perm L'):SH S H0 H L':=
 ⟨hS.ext,fun e he=>hS.bk e (hp.mem_iff.2 he),fun e he=>hS.lo e (hp.mem_iff.2 he),hp.pairwise hS.ne (fun h=>h.symm),hS.wf⟩
theorem SH.base{H0 H:ae}{L:List aC}(hS:SH S H0 H L):SH (L.map (·.1)) H H L:=
 ⟨kP.refl _ _,hS.bk,fun e he=>⟨.inl (List.mem_map.2 ⟨e,he,rfl⟩),(hS.lo e he).2⟩,hS.ne,hS.wf⟩
theorem SH.over{H0 H H':ae}{L L':List aC}(hS:SH S H0 H L)(h:SH (L.map (·.1)) H H' L'):SH S H0 H' L':=by
 have hA:∀r∈L.map (·.1),∃e∈L,e.1=r:=fun r hr=>by simpa using hr
 refine⟨kP.later hS.ext h.ext (fun r hr=>?_),h.bk,fun e he=>⟨?_,(h.lo e he).2⟩,h.ne,h.wf⟩
 ·obtain⟨a,ha,rfl⟩:=hA r hr
  exact(hS.lo a ha).1
 ·rcases(h.lo e he).1 with h1|h1
  ·obtain⟨a,ha,e1⟩:=hA _ h1
   rw[←e1];exact(hS.lo a ha).1
  ·have:=hS.ext.next;exact .inr aa
theorem SH.lt{H0 H:ae}{L:List aC}(hS:SH S H0 H L):∀r∈L.map (·.1),r<H.next:=fun r hr=>by
 obtain⟨e,he,rfl⟩:=List.mem_map.1 hr
 exact(hS.lo e he).2
theorem SH.weaken{S':List Nat}{H0 H:ae}{L:List aC}(hS:SH S H0 H L)(h:∀r∈S,r∈S'):SH S' H0 H L:=
 ⟨hS.ext.weaken h,hS.bk,fun e he=>⟨(hS.lo e he).1.imp_left (h _),(hS.lo e he).2⟩,hS.ne,hS.wf⟩
section steps
variable{H0 H:ae}{L:List aC}{K:Value→ae→Prop}
theorem SH.box(hS:SH S H0 H L){ty:TypeId}{x:Value}(hx:ko x=true)(k:∀H1 r,SH S H0 H1 ((r,ty,ax x)::L)→K (.pointer (some ⟨r,0,none⟩)) H1):ME (Fx ty x H) K:=by
 unfold Fx
 rw[hx]
 exact k _ _ (hS.grow ty (ax x))
theorem SH.bZ(hS:SH S H0 H L){ty:TypeId}{z:List Value}(k:∀H1 r,SH S H0 H1 ((r,ty,z)::L)→K (.pointer (some ⟨r,0,none⟩)) H1):ME (Go.Ae.bZ ty z H) K:=k _ _ (hS.grow ty z)
theorem ME.ld{r o:Nat}{v:Value}(h:H.cell r o=some v)(k:K v H):ME (lM none (.pointer (some ⟨r,o,none⟩)) H) K:=by
 show ME (aj (H.cell r o) fun v=>some (v,H)) K
 rw[h];exact k
theorem ME.mU{r o n:Nat}{vs:List Value}(h:H.read r o n=some vs)(k:K (.agg ⟨vs⟩) H):ME (lM (some n) (.pointer (some ⟨r,o,none⟩)) H) K:=by
 show ME (aj (H.read r o n) fun vs=>some (.agg ⟨vs⟩,H)) K
 rw[h];exact k
theorem SH.ld(hS:SH S H0 H L)(i:Nat){r o:Nat}{ty:TypeId}{cs:List Value}{v:Value}(hi:L[i]?=some (r,ty,cs))(hv:cs[o]?=some v)(k:K v H):ME (lM none (.pointer (some ⟨r,o,none⟩)) H) K:=ME.ld ((hS.get i hi).cell hv) k
theorem SH.mU(hS:SH S H0 H L)(i:Nat){r o n:Nat}{ty:TypeId}{cs:List Value}(hi:L[i]?=some (r,ty,cs))(hn:o +n≤cs.length)(k:K (.agg ⟨(cs.drop o).take n⟩) H):ME (lM (some n) (.pointer (some ⟨r,o,none⟩)) H) K:=ME.mU ((hS.get i hi).read hn) k
theorem SH.wo(hS:SH [] H0 H L){r o:Nat}{v:Value}(h:H0.cell r o=some v)(hr:r<H0.next)(k:K v H):ME (lM none (.pointer (some ⟨r,o,none⟩)) H) K:=ME.ld ((hS.old hr).trans h) k
theorem SH.mM(hS:SH [] H0 H L){r o n:Nat}{vs:List Value}(h:H0.read r o n=some vs)(hr:r<H0.next)(k:K (.agg ⟨vs⟩) H):ME (lM (some n) (.pointer (some ⟨r,o,none⟩)) H) K:=ME.mU ((mD (hS.ext.obj r hr (by simp)) o n).trans h) k
theorem Cj{α:Type}:∀{l:List α}{i:Nat}(h:i<l.length),(l[i]::l.eraseIdx i).Perm l:=by
 intro l
 induction l with
 |nil=>intro i h;cases h
 |cons x l ih=>
  intro i h
  cases i with
  |zero=>exact List.Perm.refl _
  |succ i=>exact(List.Perm.swap x _ _).trans ((ih (by simpa using h)).cons x)
theorem SH.qP(hS:SH S H0 H L)(i:Nat){r o:Nat}{ty:TypeId}{cs vs:List Value}(hi:L[i]?=some (r,ty,cs))(hn:o +vs.length≤cs.length)(hk:all' aR vs=true):
 ∃H1,H.write r o vs=some H1∧SH S H0 H1 (L.set i (r,ty,splice cs o vs))∧kP [r] H H1:=by
 have hil:i<L.length:=(List.getElem?_eq_some_iff.1 hi).1
 have hig:L[i]=(r,ty,cs):=(List.getElem?_eq_some_iff.1 hi).2
 obtain⟨H1,h1,h2,h3,h4,h5⟩:=(hS.get i hi).write hn hk
 have hx:kP [r] H H1:=⟨aa,fun q _ hq=>h4 q (fun e=>hq (by simp[e])),fun b hl _ hb=>by
  have:=hb r (by simp)
  rcases h5 with h5|h5<;>omega,fun h=>by rcases h5 with h5|h5<;>omega⟩
 refine⟨H1,h1,?_,hx⟩
 have hp:L.Perm ((r,ty,cs)::L.eraseIdx i):=by rw[←hig];exact(Cj hil).symm
 have hS2:SH S H0 H ([(r,ty,cs)]++L.eraseIdx i):=hS.perm hp
 have kH:=SH.turn (A':=[(r,ty,splice cs o vs)]) hS2 hx (fun e he=>by
  rw[List.mem_singleton]at he
  subst he
  refine⟨h2,.inl (by simp),?_⟩
  have:=(hS.lo _ (List.mem_of_getElem? hi)).2
  show r<H1.next
  omega) (List.pairwise_singleton _ _)
 refine kH.perm ?_
 have:(L.set i (r,ty,splice cs o vs)).eraseIdx i=L.eraseIdx i:=by rw[List.eraseIdx_set_eq]
 have hl:i<(L.set i (r,ty,splice cs o vs)).length:=by simpa using hil
 have hg:(L.set i (r,ty,splice cs o vs))[i]=(r,ty,splice cs o vs):=by simp
 have hq:=Cj hl
 rw[hg,this]at hq
 exact hq
theorem SH.st(hS:SH S H0 H L)(i:Nat){r o n:Nat}{ty:TypeId}{cs:List Value}{v:Value}(hi:L[i]?=some (r,ty,cs))(hl:(ax v).length=n)(hn:o +n≤cs.length)(hk:all' aR (ax v)=true)
 (k:∀H1,SH S H0 H1 (L.set i (r,ty,splice cs o (ax v)))→K undef H1):ME (yB n (.pointer (some ⟨r,o,none⟩)) v H) K:=by
 obtain⟨H1,h1,h2,_⟩:=hS.qP (vs:=ax v) (o:=o) i hi aa hk
 show ME (gd (Nat.beq (len (ax v)) n) (aj (H.write r o (ax v)) fun H'=>some (undef,H'))) K
 rw[aM,hl,Nat.beq_refl,h1]
 exact k H1 h2
end steps
theorem aZ{H:ae}(h:H.low≤H.next):hM H (hN H)=H:=by
 show ae.mk H.j6 H.next (av (Nat.ble H.low H.next) H.low H.next)=H
 rw[Nat.ble_eq_true_of_le h];rfl
theorem oC(H:ae):Wf (hN H):=Nat.le_refl _
theorem ze(a b:Nat):fC a b=min a b:=by
 show av (Nat.ble a b) a b=_
 cases h:Nat.ble a b with
 |true=>rw[gm,Nat.min_eq_left (Nat.le_of_ble_eq_true h)]
 |false=>
  have:¬a≤b:=fun g=>by rw[Nat.ble_eq_true_of_le g]at h;cases h
  rw[bR,Nat.min_eq_right aa]
theorem kP.draw{S:List Nat}{H H':ae}(hx:kP S (hN H) H'):kP S H (hM H H'):=
 ⟨hx.next,hx.obj,fun b hl hn hb=>by show b≤fC H.low H'.low;rw[ze];have:=hx.low b hn hn hb;omega,fun h=>by show fC H.low H'.low≤H'.next;rw[ze];have:H.next≤H'.next:=hx.next;omega⟩
theorem SH.kX{H0 H H':ae}{L:List aC}(hS:SH S H0 H L)(hx:Ext (hN H) H'):SH S H0 (hM H H') L:=hS.call hx.draw
theorem SH.hN{H0 H:ae}{L:List aC}(hS:SH S H0 H L):(∀r o,(Go.Ae.hN H).cell r o=H.cell r o)∧(∀r o n,(Go.Ae.hN H).read r o n=H.read r o n):=⟨fun _ _=>rfl,fun _ _ _=>rfl⟩
theorem aN(n r o:Nat)(H:ae):Yu n (.pointer (some ⟨r,o,none⟩)) H (hN H)=⟨4,r,o,n,hh0,hh0⟩:=by
 show av (Nat.ble H.next H.next) _ _=_
 rw[Nat.ble_eq_true_of_le (Nat.le_refl _)];rfl
theorem bn{H H':ae}(hx:Ext (hN H) H'):DZ H H'=cl 1:=by
 show av (Nat.ble H.next H'.low) _ _=_
 rw[Nat.ble_eq_true_of_le (hx.low H.next (Nat.le_refl _) (Nat.le_refl _) (fun r h=>nomatch h))];rfl
theorem Bi{H H':ae}(hx:Ext (hN H) H'):PI H H'=cl 5:=by
 show av (Nat.ble H.next H'.low) _ _=_
 rw[Nat.ble_eq_true_of_le (hx.low H.next (Nat.le_refl _) (Nat.le_refl _) (fun r h=>nomatch h))];rfl
theorem aQ(r o:Nat)(v:Value)(H H':ae):clS (.pointer (some ⟨r,o,none⟩)) v H H'=⟨3,r,o,len (ax v),hh0,hh0⟩:=rfl
theorem zQ{ops:Array Oper}{cls:List Cl}(h:noTwo cls=true):bO ops cls=true:=by
 unfold bO;rw[h];rfl
end
section
variable{S:List Nat}
abbrev vi(n:Int):Value:=.int .i64 n
abbrev vn(n:Nat):Value:=.int .i64 (n:Int)
theorem uO(a b:Int):DN a b=decide (a<b):=by
 cases a with
 |ofNat m=>cases b with
  |ofNat n=>show Nat.ble (Nat.succ m) n=_;rw[Bool.eq_iff_iff,Nat.ble_eq];simp;omega
  |negSucc n=>show false=_;symm;simp;omega
 |negSucc m=>cases b with
  |ofNat n=>show true=_;symm;simp;omega
  |negSucc n=>show Nat.ble (Nat.succ n) m=_;rw[Bool.eq_iff_iff,Nat.ble_eq];simp;omega
theorem Ga(a b:Int):Ib a b=decide (a=b):=by
 cases a with
 |ofNat m=>cases b with
  |ofNat n=>show Nat.beq m n=_;rw[Bool.eq_iff_iff,Nat.beq_eq];simp;omega
  |negSucc n=>show false=_;symm;simp
 |negSucc m=>cases b with
  |ofNat n=>show false=_;symm;simp
  |negSucc n=>show Nat.beq m n=_;rw[Bool.eq_iff_iff,Nat.beq_eq];simp
theorem nR{n:Int}(h1:-9223372036854775808≤n)(h2:n≤9223372036854775807):fO .i64 n=n:=by
 cases n with
 |ofNat m=>
  show av (ve .i64&&Nat.ble m 9223372036854775807) (Int.ofNat m) _=_
  rw[show(ve .i64&&Nat.ble m 9223372036854775807)=true from by
   rw[show ve .i64=true from rfl,Bool.true_and];exact Nat.ble_eq_true_of_le (by have:(m:Int)≤9223372036854775807:=h2;omega)];rfl
 |negSucc m=>
  show av (ve .i64&&Nat.ble m 9223372036854775807) (Int.negSucc m) _=_
  rw[show(ve .i64&&Nat.ble m 9223372036854775807)=true from by
   rw[show ve .i64=true from rfl,Bool.true_and];exact Nat.ble_eq_true_of_le aa];rfl
section bin
variable{P:Program}{t:TypeId}{ox oy:Operand}{a b:Int}{k:IntKind}
theorem qQ:Nat.beq (ik k) (ik k)=true:=Nat.beq_refl _
theorem cO{op:BinOp}{v:Value}(hs:AZ op=false)(h:OD op k a b=some v):eF P op t ox oy (.int k a) (.int k b)=some v:=by
 show av (AZ op) (Q_ op t (.int k a) (.int k b)) (gd (Nat.beq (ik k) (ik k)) (OD op k a b))=_
 rw[hs,qQ];exact h
theorem xK:eF P .lss t ox oy (.int k a) (.int k b)=some (.bool (decide (a<b))):=cO rfl (by show some (Value.bool (DN a b))=_;rw[uO])
theorem I4:eF P .gtr t ox oy (.int k a) (.int k b)=some (.bool (decide (b<a))):=cO rfl (by show some (Value.bool (DN b a))=_;rw[uO])
theorem xL:eF P .leq t ox oy (.int k a) (.int k b)=some (.bool (decide (a≤b))):=cO rfl (by
 show some (Value.bool (!(DN b a)))=_
 rw[uO,←decide_not];simp[Int.not_lt])
theorem iZ:eF P .geq t ox oy (.int k a) (.int k b)=some (.bool (decide (b≤a))):=cO rfl (by
 show some (Value.bool (!(DN a b)))=_
 rw[uO,←decide_not];simp[Int.not_lt])
theorem I5:eF P .eql t ox oy (.int k a) (.int k b)=some (.bool (decide (a=b))):=cO rfl (by show some (Value.bool (Ib a b))=_;rw[Ga])
theorem I6:eF P .neq t ox oy (.int k a) (.int k b)=some (.bool (!decide (a=b))):=cO rfl (by show some (Value.bool (!(Ib a b)))=_;rw[Ga])
theorem aL(h1:-9223372036854775808≤a +b)(h2:a +b≤9223372036854775807):eF P .add t ox oy (vi a) (vi b)=some (vi (a +b)):=cO rfl (by show some (Value.int .i64 (fO .i64 (a +b)))=_;rw[nR h1 h2])
theorem oD(h1:-9223372036854775808≤a -b)(h2:a -b≤9223372036854775807):eF P .sub t ox oy (vi a) (vi b)=some (vi (a -b)):=cO rfl (by show some (Value.int .i64 (fO .i64 (a -b)))=_;rw[nR h1 h2])
theorem SX(h1:-9223372036854775808≤a*b)(h2:a*b≤9223372036854775807):eF P .mul t ox oy (vi a) (vi b)=some (vi (a*b)):=cO rfl (by show some (Value.int .i64 (fO .i64 (a*b)))=_;rw[nR h1 h2])
end bin
theorem I7(b:Bool):bV (Op.unary .not (.bool b))=some (.bool !b):=rfl
theorem min2(k:IntKind)(a b:Int):Ra false [.int k a,.int k b]=some (.int k (min a b)):=by
 show aj (gd (Nat.beq (ik k) (ik k)) (some (av (DN b a) (Value.int k b) (Value.int k a)))) some=_
 rw[qQ,uz,Bv,uO]
 by_cases h:b<a
 ·rw[decide_eq_true h,gm,Int.min_eq_right aa]
 ·rw[decide_eq_false h,bR,Int.min_eq_left aa]
theorem max2(k:IntKind)(a b:Int):Ra true [.int k a,.int k b]=some (.int k (max a b)):=by
 show aj (gd (Nat.beq (ik k) (ik k)) (some (av (DN a b) (Value.int k b) (Value.int k a)))) some=_
 rw[qQ,uz,Bv,uO]
 by_cases h:a<b
 ·rw[decide_eq_true h,gm,Int.max_eq_right aa]
 ·rw[decide_eq_false h,bR,Int.max_eq_left aa]
theorem Ck(b:Bool):bK (.bool b)=some b:=rfl
theorem NC(off r o:Nat):fld off (.pointer (some ⟨r,o,none⟩))=some (.pointer (some ⟨r,o +off,none⟩)):=rfl
theorem dH(a:Addr):Fw (.pointer (some a))=some (.pointer (some a)):=rfl
theorem ND(a:Option Addr)(n c:Nat):abA (.slice a n c)=some (vn n):=rfl
theorem I8(s:ByteArray):abB (.string s)=some (vn s.size):=by
 show some (Value.int .i64 (Int.ofNat (len s.data.toList)))=_
 rw[aM];rfl
theorem oF{es r o n c k:Nat}(h:k<n):sS es (.slice (some ⟨r,o,none⟩) n c) (vn k)=some (.pointer (some ⟨r,o +k*es,none⟩)):=by
 show gd (Nat.ble (Nat.succ k) n) (some (Value.pointer (some ⟨r,Nat.add o (Nat.mul k es),none⟩)))=_
 rw[Nat.ble_eq_true_of_le h];rfl
theorem jF{s:ByteArray}{k:Nat}(h:k<s.size):idS (.string s) (vn k)=some (.int .u8 ((s.data.toList[k]'(by simpa using h)).toNat:Int)):=by
 show(aj (nth s.data.toList k) fun b=>some (Value.int .u8 (.ofNat b.toNat)))=_
 rw[fH,List.getElem?_eq_getElem (by simpa using h)];rfl
def Fl(H:ae)(a:Option Addr)(n es:Nat)(cs:List Value):Prop:=
 cs.length=n*es∧∀(i:Nat)(x:Value),cs[i]?=some x→∃r o,a=some ⟨r,o,none⟩∧r<H.next∧H.cell r (o +i)=some x
theorem Fl.ext{S:List Nat}{H H':ae}{a:Option Addr}{n es:Nat}{cs:List Value}(h:Fl H a n es cs)(hx:kP S H H')(hS:∀r o,a=some ⟨r,o,none⟩→r∉S):Fl H' a n es cs:=
 ⟨h.1,fun i x hi=>by
   obtain⟨r,o,h1,h2,h3⟩:=h.2 i x hi
   exact⟨r,o,h1,Nat.lt_of_lt_of_le h2 hx.next,(fP (hx.obj r h2 (hS r o h1)) _).trans h3⟩⟩
theorem Fl.ex{H H':ae}{a:Option Addr}{n es:Nat}{cs:List Value}(h:Fl H a n es cs)(hx:Ext H H'):Fl H' a n es cs:=h.ext hx (fun r o _ h=>nomatch h)
theorem Fl.nil(H:ae)(a:Option Addr)(es:Nat):Fl H a 0 es []:=⟨by simp,fun i x h=>by simp at h⟩
theorem Fl.idx{H:ae}{a:Option Addr}{n es c:Nat}{cs:List Value}(h:Fl H a n es cs)(he:0<es){k:Nat}(hk:k<n):
 ∃r o,sS es (.slice a n c) (vn k)=some (.pointer (some ⟨r,o,none⟩))∧r<H.next∧(∀f x,f<es→cs[k*es +f]?=some x→H.cell r (o +f)=some x)∧(∃o0,a=some ⟨r,o0,none⟩∧o=o0 +k*es):=by
 have hl:k*es<cs.length:=by rw[h.1];exact Nat.mul_lt_mul_of_pos_right hk he
 obtain⟨r,o,rfl,h2,h3⟩:=h.2 (k*es) _ (List.getElem?_eq_getElem hl)
 refine⟨r,o +k*es,oF hk,h2,fun f x hf hx=>?_,o,rfl,rfl⟩
 obtain⟨r',o',h4,_,h5⟩:=h.2 _ _ hx
 cases h4
 rw[Nat.add_assoc];exact h5
theorem Bk.fl{H:ae}{r:Nat}{ty:TypeId}{cs:List Value}(h:Bk H r ty cs)(hr:r<H.next){n es:Nat}(hn:cs.length=n*es):Fl H (some ⟨r,0,none⟩) n es cs:=
 ⟨hn,fun i x hi=>⟨r,0,rfl,hr,by rw[Nat.zero_add];exact h.cell hi⟩⟩
abbrev aP(l:List Nat):List Value:=l.map vn
abbrev bools(l:List Bool):List Value:=l.map Value.bool
theorem dZ{α:Type}(f:α→Value){l:List α}{i:Nat}{x:α}(h:l[i]?=some x):(l.map f)[i]?=some (f x):=by rw[List.getElem?_map,h];rfl
theorem EN(z:List Value)(n:Nat):(gQ z n).length=n*z.length:=by
 induction n with
 |zero=>show([]:List Value).length=_;simp
 |succ n ih=>show(app z (gQ z n)).length=_;rw[jd,List.length_append,ih,Nat.succ_mul];omega
theorem gD(x:Value)(n:Nat):gQ [x] n=List.replicate n x:=by
 induction n with
 |zero=>rfl
 |succ n ih=>show app [x] (gQ [x] n)=_;rw[jd,ih];rfl
theorem SH.mkS{H0 H:ae}{L:List aC}{K:Value→ae→Prop}(hS:SH S H0 H L){e:TypeId}{z:List Value}{n m:Nat}(hn:n≤m)(hm:m≤16777216)
 (k:∀H1 r,SH S H0 H1 ((r,e,gQ z m)::L)→K (.slice (some ⟨r,0,none⟩) n m) H1):ME (Go.Ae.mkS e z (vn n) (vn m) H) K:=by
 show ME (gd (Nat.ble n m&&Nat.ble m 16777216&&true) (some (Value.slice (some ⟨H.next,0,none⟩) n m,H.new (rowOf e (gQ z m))))) K
 rw[Nat.ble_eq_true_of_le hn,Nat.ble_eq_true_of_le hm]
 exact k _ _ (hS.grow e _)
theorem SH.sub{H0 H:ae}{L L':List aC}(hS:SH S H0 H L)(h:L'.Sublist L):SH S H0 H L':=
 ⟨hS.ext,fun e he=>hS.bk e (h.mem he),fun e he=>hS.lo e (h.mem he),hS.ne.sublist h,hS.wf⟩
theorem SH.take{H0 H:ae}{L:List aC}(hS:SH S H0 H L)(n:Nat):SH S H0 H (L.take n):=hS.sub (List.take_sublist n L)
theorem SH.cast{H0 H:ae}{L L':List aC}(hS:SH S H0 H L)(h:L=L'):SH S H0 H L':=h▸hS
theorem SH.to{H0 H:ae}{L:List aC}{r:Nat}{ty:TypeId}{cs cs':List Value}(hS:SH S H0 H ((r,ty,cs)::L))(h:cs=cs'):SH S H0 H ((r,ty,cs')::L):=h▸hS
theorem gF{α:Type}(f:α→Value){l:List α}{k:Nat}(hk:k<l.length)(x:α):splice (l.map f) k [f x]=(l.set k x).map f:=by
 apply List.ext_getElem?
 intro i
 rw[iU (by simp;omega),List.getElem?_map,List.getElem?_map,List.getElem?_set]
 by_cases h:k=i
 ·subst h
  rw[if_pos ⟨Nat.le_refl _,by simp⟩,if_pos rfl,if_pos hk,Nat.sub_self];rfl
 ·rw[if_neg (by simp;omega),if_neg h]
end
section
variable{S:List Nat}
def bS(e:TypeId)(z:List Value)(es n:Nat)(ps:List (Nat×Value))(H:ae):Option (Value×ae):=
 gd (Nat.ble (Nat.mul n es) 16777216) (aj (vv (fun k=>some (Nat.mul k es,es)) ps (gQ z n)) fun cs=>some (.slice (some ⟨H.next,0,none⟩) n n,H.new (rowOf e cs)))
def bld(pl:List (Nat×Nat))(z:List Value)(ps:List (Nat×Value)):Option Value:=aj (vv (nth pl) ps z) fun cs=>some (.agg ⟨cs⟩)
theorem PU.of{o:Option Value}{v:Value}{K:Value→Prop}(h:o=some v)(k:K v):PU o K:=by rw[h];exact k
theorem ME.of{o:Option (Value×ae)}{v:Value}{H:ae}{K:Value→ae→Prop}(h:o=some (v,H))(k:K v H):ME o K:=by rw[h];exact k
theorem SY:∀(vs:List Value)(k:Nat)(cs:List Value),k +vs.length≤cs.length→yJ vs k cs=splice cs k vs:=by
 intro vs
 induction vs with
 |nil=>
  intro k cs h
  show cs=_
  unfold splice;simp
 |cons v vs ih=>
  intro k cs h
  have hset:∀(k:Nat)(cs:List Value),setAt v k cs=cs.set k v:=by
   intro k
   induction k with
   |zero=>intro cs;cases cs<;>rfl
   |succ k ihk=>intro cs;cases cs with
    |nil=>rfl
    |cons c cs=>exact congrArg (c::·) (ihk cs)
  show yJ vs (Nat.succ k) (setAt v k cs)=_
  simp only[List.length_cons]at h
  rw[hset,ih (k +1) _ (by simp;omega)]
  apply List.ext_getElem?
  intro i
  rw[iU (by simp;omega),iU (by simp;omega),List.getElem?_set]
  by_cases h1:i=k
  ·subst h1
   rw[if_neg aa,if_pos rfl,if_pos aa,if_pos ⟨Nat.le_refl _,by simp⟩]
   simp
  ·by_cases h2:k +1≤i∧i<k +1 +vs.length
   ·rw[if_pos h2,if_pos (by simp;omega),show i -k=(i -(k +1)) +1 by omega];simp
   ·rw[if_neg h2,if_neg (fun e=>h1 e.symm),if_neg (by simp only[List.length_cons];omega)]
theorem nG(cs vs:List Value)(h:cs.length=vs.length):splice cs 0 vs=vs:=by
 unfold splice
 rw[List.drop_of_length_le aa];simp
theorem S7{e:TypeId}{z:List Value}{es:Nat}{v:Value}{H:ae}(hz:z.length=es)(hv:ko v=true)(hc:(ax v).length=es)(he:es≤16777216):
 bS e z es 1 [(0,v)] H=some (.slice (some ⟨H.next,0,none⟩) 1 1,H.new (rowOf e (ax v))):=by
 have hr:gQ z 1=z:=by show app z []=z;rw[jd,List.append_nil]
 unfold bS
 rw[Nat.ble_eq_true_of_le (by show 1*es≤_;omega),hr]
 show(aj (gd (ko v&&Nat.beq (len (ax v)) es&&Nat.ble (Nat.add (Nat.mul 0 es) es) (len z)) (some (yJ (ax v) (Nat.mul 0 es) z))) fun cs=>some (Value.slice (some ⟨H.next,0,none⟩) 1 1,H.new (rowOf e cs)))=_
 have e0:Nat.mul 0 es=0:=Nat.zero_mul es
 rw[hv,aM,hc,Nat.beq_refl,aM,hz,e0]
 rw[show Nat.ble (Nat.add 0 es) es=true from Nat.ble_eq_true_of_le (by show 0 +es≤es;omega),SY _ _ _ aa,nG _ _ aa]
 rfl
theorem sV{H:ae}{r es k c:Nat}{ty:TypeId}{xs:List Value}(h:Bk H r ty xs)(hk:xs.length=k*es):appended H es (.slice (some ⟨r,0,none⟩) k c)=some (k,xs):=by
 show(aj (H.read r 0 (Nat.mul k es)) fun l=>some (k,l))=_
 have:H.read r 0 (Nat.mul k es)=some xs:=by
  rw[h.read (by show 0 +k*es≤_;omega)]
  simp only[List.drop_zero]
  rw[List.take_of_length_le (by show xs.length≤k*es;omega)]
 rw[this];rfl
theorem Gb{H:ae}{e:TypeId}{es k:Nat}{x:Value}{xs:List Value}(ha:appended H es x=some (k +1,xs))(hk:k +1≤16777216):
 wh e es (.slice none 0 0) x H=some (.slice (some ⟨H.next,0,none⟩) (k +1) (aK es),H.new (rowOf e xs)):=by
 unfold wh
 show(aj (appended H es x) fun r=>gd (Nat.ble r.1 16777216) (MS (e,es) (.slice none 0 0) (none,0,0) r.1 r.2 H))=_
 rw[ha]
 show gd (Nat.ble (k +1) 16777216) _=_
 rw[Nat.ble_eq_true_of_le hk];rfl
theorem p9(es:Nat):aX (aK es)=false:=by
 show Nat.ble (18446744073709551616 +es) 9223372036854775807=false
 rw[←Bool.not_eq_true];intro h;have:=Nat.le_of_ble_eq_true h;omega
theorem NF{H:ae}{e:TypeId}{es k n r:Nat}{x:Value}{cs aF xs:List Value}(he:0<es)(hb:Bk H r e (cs++aF))(hr:r<H.next)(hn:cs.length=n*es)(ha:appended H es x=some (k +1,xs))(hx:xs.length=(k +1)*es)(hok:all' aR xs=true)(hk:k +1≤16777216)(hnn:n≤16777216):
 ∃r' H' Cn,wh e es (.slice (some ⟨r,0,none⟩) n (aK es)) x H=some (.slice (some ⟨r',0,none⟩) (n +(k +1)) (aK es),H')∧Bk H' r' e (cs++xs++Cn)∧(r'=r∨r'=H.next)∧r'<H'.next∧kP [r] H H'∧(H'.low≤r):=by
 have hap:wh e es (.slice (some ⟨r,0,none⟩) n (aK es)) x H=jq (e,es) ⟨r,0,none⟩ n (aK es) (k +1) xs H:=by
  unfold wh
  show(aj (appended H es x) fun q=>gd (Nat.ble q.1 16777216) (MS (e,es) (.slice (some ⟨r,0,none⟩) n (aK es)) (some ⟨r,0,none⟩,n,aK es) q.1 q.2 H))=_
  rw[ha]
  show gd (Nat.ble (k +1) 16777216) (gd (Nat.ble n 16777216) (av (aX (aK es)) _ (gd (Nat.beq (aK es) (aK es)) (jq (e,es) ⟨r,0,none⟩ n (aK es) (k +1) xs H))))=_
  rw[Nat.ble_eq_true_of_le hk,Nat.ble_eq_true_of_le hnn,p9,Nat.beq_refl];rfl
 rw[hap]
 obtain⟨R,h1,h2,h3,h4,h5,h6⟩:=id hb
 have hmul:(n +(k +1))*es=n*es +(k +1)*es:=Nat.add_mul ..
 have hlen:(cs++aF).length=n*es +aF.length:=by rw[List.length_append,hn]
 have hun:jq (e,es) ⟨r,0,none⟩ n (aK es) (k +1) xs H=av (Nat.ble (Nat.add 0 (Nat.mul (Nat.add n (k +1)) es)) R.n)
  (aj (H.write r (Nat.add 0 (Nat.mul n es)) xs) fun H'=>some (Value.slice (some ⟨r,0,none⟩) (Nat.add n (k +1)) (aK es),H'))
  (gd (Nat.ble (Nat.add 0 (Nat.mul n es)) R.n&&Nat.ble R.fz (Nat.add 0 (Nat.mul n es))&&all' aR xs)
   (some (Value.slice (some ⟨H.next,0,none⟩) (Nat.add n (k +1)) (aK es),
    (H.put r .dead).new (.row ⟨R.ty,Tr.jG top xs (Nat.add 0 (Nat.mul n es)) R.cells,Nat.add 0 (Nat.mul (Nat.add n (k +1)) es),false,R.fz⟩)))):=by
  unfold jq
  show(aj (kg (H.obj r)) _)=_
  rw[h1]
  show gd (Nat.beq R.ty e&&!R.dA) _=_
  rw[h2,Nat.beq_refl,h4];rfl
 rw[hun]
 have e1:Nat.add 0 (Nat.mul n es)=n*es:=Nat.zero_add _
 have e2:Nat.add 0 (Nat.mul (Nat.add n (k +1)) es)=n*es +(k +1)*es:=(Nat.zero_add _).trans hmul
 rw[e1,e2,h3,hlen]
 by_cases hc:n*es +(k +1)*es≤n*es +aF.length
 ·rw[Nat.ble_eq_true_of_le hc,gm]
  obtain⟨H1,w1,w2,w3,w4,w5⟩:=hb.write (o:=n*es) (vs:=xs) (by rw[hlen];omega) hok
  rw[w1]
  have hlow:H1.low≤r:=by
   rcases w5 with w5|w5
   ·omega
   ·
    cases xs with
    |nil=>
     have h0:0<(k +1)*es:=Nat.mul_pos aa he
     rw[←hx]at h0;cases h0
    |cons v vs'=>
     have:H.write r (n*es) (v::vs')=some (H.put r (.row ⟨R.ty,Tr.jG top (v::vs') (n*es) R.cells,R.n,false,R.fz⟩)):=by
      show(aj (kg (H.obj r)) fun w=>gd (!w.dA&&Nat.ble (Nat.add (n*es) (len (v::vs'))) w.n&&Nat.ble w.fz (n*es)&&all' aR (v::vs')) (some (H.put r (.row ⟨w.ty,Tr.jG top (v::vs') (n*es) w.cells,w.n,false,w.fz⟩))))=_
      rw[h1]
      show gd (!R.dA&&Nat.ble (Nat.add (n*es) (len (v::vs'))) R.n&&Nat.ble R.fz (n*es)&&all' aR (v::vs')) _=_
      rw[hok,h4,h3,h5,aM,Nat.ble_eq_true_of_le (by show n*es +(v::vs').length≤_;rw[hlen];omega),Nat.ble_eq_true_of_le (Nat.zero_le _)];rfl
     rw[this]at w1
     cases w1
     rw[kG];omega
  refine⟨r,H1,aF.drop xs.length,rfl,?_,.inl rfl,aa,⟨aa,fun q _ hq=>w4 q (fun e=>hq (by simp[e])),fun b hl _ hb=>by
   have:=hb r (by simp)
   rcases w5 with w5|w5<;>omega,fun h=>by rcases w5 with w5|w5<;>omega⟩,hlow⟩
  have:splice (cs++aF) (n*es) xs=cs++xs++aF.drop xs.length:=by
   unfold splice
   rw[←hn,List.take_left,List.drop_append,List.drop_of_length_le aa,List.nil_append,Nat.add_sub_cancel_left]
  rw[←this];exact w2
 ·have hb':Nat.ble (n*es +(k +1)*es) (n*es +aF.length)=false:=by
   rw[←Bool.not_eq_true];intro h;exact hc (Nat.le_of_ble_eq_true h)
  rw[hb',bR,Nat.ble_eq_true_of_le (by omega:n*es≤n*es +aF.length),h5,Nat.ble_eq_true_of_le (Nat.zero_le _),hok]
  refine⟨H.next,_,[],rfl,?_,.inr rfl,Nat.lt_succ_self _,⟨Nat.le_succ _,fun q hq hn'=>?_,fun b hl hn' hb=>?_,fun h=>?_⟩,?_⟩
  ·refine⟨⟨R.ty,Tr.jG top xs (n*es) R.cells,n*es +(k +1)*es,false,R.fz⟩,by rw[oz,if_pos (show H.next=(H.put r dh.dead).next from rfl),h5],h2,by simp;omega,rfl,h5,fun i hi=>?_⟩
   show(Tr.jG top xs (n*es) R.cells).get top i=_
   rw[Tr.dW]
   have hi':i<n*es +(k +1)*es:=by simp at hi;omega
   by_cases hc':n*es≤i∧i<n*es +xs.length
   ·rw[if_pos hc',List.getD_eq_getElem?_getD,List.getElem?_eq_getElem aa]
    simp only[List.append_nil,Option.getD_some]
    rw[List.getElem_append_right aa]
    congr 1;omega
   ·rw[if_neg hc']
    have hin:i<n*es:=by omega
    rw[h6 i (by rw[hlen];omega)]
    simp only[List.append_nil]
    rw[List.getElem_append_left aa,List.getElem_append_left aa]
  ·rw[oz,if_neg (by show q≠H.next;omega),p8,if_neg (fun e=>hn' (by simp[e]))]
  ·show b≤(H.put r dh.dead).low
   rw[kG];have:=hb r (by simp);omega
  ·show(H.put r dh.dead).low≤H.next +1
   rw[kG];omega
  ·show(H.put r dh.dead).low≤r
   rw[kG];omega
section steps
variable{H0 H:ae}{L:List aC}{K:Value→ae→Prop}
theorem SH.EO(hS:SH S H0 H L)(ty:TypeId)(cs:List Value):SH S H0 (hM H ((Go.Ae.hN H).new (rowOf ty cs))) ((H.next,ty,cs)::L):=by
 have hx:Ext (Go.Ae.hN H) ((Go.Ae.hN H).new (rowOf ty cs)):=Ext.new _ _
 refine SH.turn (A:=[]) (A':=[(H.next,ty,cs)]) hS hx.draw (fun e he=>?_) (List.pairwise_singleton _ _)
 rw[List.mem_singleton]at he
 subst he
 exact⟨Bk.new (Go.Ae.hN H) ty cs,.inr (Nat.le_refl _),Nat.lt_succ_self _⟩
theorem SH.S8(hS:SH S H0 H L){e:TypeId}{z:List Value}{es:Nat}{v:Value}(hz:z.length=es)(hv:ko v=true)(hc:(ax v).length=es)(he:es≤16777216)
 (k:∀H1 r,SH S H0 (hM H H1) ((r,e,ax v)::L)→PI H H1=cl 5→K (.slice (some ⟨r,0,none⟩) 1 1) H1):ME (bS e z es 1 [(0,v)] (Go.Ae.hN H)) K:=by
 rw[S7 hz hv hc he]
 exact k _ _ (hS.EO e _) (Bi (Ext.new _ _))
theorem SH.bS(hS:SH S H0 H L){e:TypeId}{z:List Value}{es:Nat}{v:Value}(hz:z.length=es)(hv:ko v=true)(hc:(ax v).length=es)(he:es≤16777216)
 (k:∀H1 r,SH S H0 H1 ((r,e,ax v)::L)→K (.slice (some ⟨r,0,none⟩) 1 1) H1):ME (Go.Ae.bS e z es 1 [(0,v)] H) K:=by
 rw[S7 hz hv hc he]
 exact k _ _ (hS.grow e _)
end steps
end
section
variable{S:List Nat}
def GB(ty:TypeId)(es:Nat)(v:Value)(cs:List Value)(gb:List aC):Prop:=
 (v=.slice none 0 0∧cs=[]∧gb=[])∨∃r n aF,v=.slice (some ⟨r,0,none⟩) n (aK es)∧cs.length=n*es∧gb=[(r,ty,cs++aF)]
theorem GB.nil(ty:TypeId)(es:Nat):GB ty es (.slice none 0 0) [] []:=.inl ⟨rfl,rfl,rfl⟩
section steps
variable{H0 H:ae}{L:List aC}{K:Value→ae→Prop}{ty:TypeId}{es:Nat}{v:Value}{cs xs:List Value}{gb:List aC}{rx:Nat}
theorem WU{H H':ae}(h:H'.low<H.next):DZ H H'=⟨2,0,0,0,H,H'⟩:=by
 show av (Nat.ble H.next H'.low) _ _=_
 rw[show Nat.ble H.next H'.low=false from by rw[←Bool.not_eq_true];intro g;have:=Nat.le_of_ble_eq_true g;omega];rfl
theorem GB.app(hg:GB ty es v cs gb)(hS:SH S H0 H ((rx,ty,xs)::(gb++L))){m:Nat}(he:0<es)(hx:xs.length=(m +1)*es)(hok:all' aR xs=true)(hm:m +1≤16777216)(hc:cs.length≤16777216){cx:Nat}:
 ∃v' H1 bJ,wh ty es v (.slice (some ⟨rx,0,none⟩) (m +1) cx) H=some (v',H1)∧GB ty es v' (cs++xs) bJ∧SH S H0 H1 (bJ++L)∧kP (gb.map (·.1)) H H1:=by
 have hbx:=hS.get 0 rfl
 have ha:=sV (k:=m +1) (c:=cx) hbx hx
 have hS1:SH S H0 H (gb++L):=SH.drop (A:=[(rx,ty,xs)]) hS
 rcases hg with⟨rfl,rfl,rfl⟩|⟨r,n,aF,rfl,hn,rfl⟩
 ·refine⟨_,_,[(H.next,ty,xs)],Gb ha hm,.inr ⟨H.next,m +1,[],rfl,hx,by simp⟩,hS1.grow ty xs,Ext.new _ _⟩
 ·have hb:=hS1.get 0 rfl
  have hr:=(hS1.lo _ (List.mem_cons_self ..)).2
  have hnn:n≤16777216:=by
   have:n*1≤n*es:=Nat.mul_le_mul_left n he
   omega
  obtain⟨r',H1,Cn,h1,h2,h3,h4,h5,h6⟩:=NF he hb hr hn ha hx hok hm hnn
  refine⟨_,H1,[(r',ty,cs++xs++Cn)],h1,.inr ⟨r',n +(m +1),Cn,rfl,?_,rfl⟩,?_,h5⟩
  ·rw[List.length_append,hn,hx,←Nat.add_mul]
  ·refine SH.turn (A:=[(r,ty,cs++aF)]) hS1 h5 (fun e he'=>?_) (List.pairwise_singleton _ _)
   rw[List.mem_singleton]at he'
   subst he'
   refine⟨h2,?_,h4⟩
   rcases h3 with h3|h3
   ·exact .inl (by simp[h3])
   ·exact .inr (by show H.next≤r';omega)
theorem GB.add(hg:GB ty es v cs gb)(hS:SH S H0 H ((rx,ty,xs)::(gb++L)))(he:0<es)(hx:xs.length=es)(hok:all' aR xs=true)(hc:cs.length≤16777216){cx:Nat}
 (k:∀v' H1 bJ,GB ty es v' (cs++xs) bJ→SH S H0 H1 (bJ++L)→kP (gb.map (·.1)) H H1→K v' H1):ME (wh ty es v (.slice (some ⟨rx,0,none⟩) 1 cx) H) K:=by
 obtain⟨v',H1,bJ,h1,h2,h3,h4⟩:=hg.app (m:=0) (cx:=cx) hS he aa hok aa hc
 rw[h1]
 exact k v' H1 bJ h2 h3 h4
theorem SH.mV(hS:SH S H0 H L):SH S (Go.Ae.hN H0) (Go.Ae.hN H) L:=
 ⟨⟨hS.ext.next,hS.ext.obj,fun b hl hn _=>Nat.le_trans hn hS.ext.next,fun _=>Nat.le_refl _⟩,hS.bk,hS.lo,hS.ne,Nat.le_refl _⟩
theorem GB.Co(hg:GB ty es v cs gb)(hS:SH S H0 H ((rx,ty,xs)::(gb++L)))(he:0<es)(hx:xs.length=es)(hok:all' aR xs=true)(hc:cs.length≤16777216){cx:Nat}
 (k:∀v' H1 bJ,GB ty es v' (cs++xs) bJ→SH S H0 (hM H H1) (bJ++L)→kP (gb.map (·.1)) H (hM H H1)→(∀r,r<H.next→r∉gb.map (·.1)→H1.obj r=H.obj r)→(DZ H H1=cl 1∨DZ H H1=⟨2,0,0,0,H,H1⟩)→K v' H1):ME (wh ty es v (.slice (some ⟨rx,0,none⟩) 1 cx) (Go.Ae.hN H)) K:=by
 have hS':SH [] (Go.Ae.hN H) (Go.Ae.hN H) []:=SH.refl (Nat.le_refl _)
 have hbx:=hS.get 0 rfl
 have ha:appended (Go.Ae.hN H) es (.slice (some ⟨rx,0,none⟩) (0 +1) cx)=some (0 +1,xs):=sV (H:=Go.Ae.hN H) (k:=0 +1) hbx aa
 have hS1:SH S H0 H (gb++L):=SH.drop (A:=[(rx,ty,xs)]) hS
 have hcls:∀H1:ae,DZ H H1=cl 1∨DZ H H1=⟨2,0,0,0,H,H1⟩:=by
  intro H1
  show av (Nat.ble H.next H1.low) _ _=_∨av (Nat.ble H.next H1.low) _ _=_
  cases Nat.ble H.next H1.low with
  |true=>exact .inl rfl
  |false=>exact .inr rfl
 rcases hg with⟨rfl,rfl,rfl⟩|⟨r,n,aF,rfl,hn,rfl⟩
 ·rw[show wh ty es (.slice none 0 0) (.slice (some ⟨rx,0,none⟩) 1 cx) (Go.Ae.hN H)=_ from Gb ha aa]
  have hx':Ext (Go.Ae.hN H) ((Go.Ae.hN H).new (rowOf ty xs)):=Ext.new _ _
  exact k _ _ [(H.next,ty,xs)] (.inr ⟨H.next,1,[],rfl,by simp;omega,by simp⟩) (hS1.EO ty xs) hx'.draw (fun q hq hn'=>hx'.obj q hq (by simp)) (hcls _)
 ·have hb:Bk (Go.Ae.hN H) r ty (cs++aF):=hS1.get 0 rfl
  have hr:=(hS1.lo _ (List.mem_cons_self ..)).2
  have hnn:n≤16777216:=by
   have:n*1≤n*es:=Nat.mul_le_mul_left n he
   omega
  obtain⟨r',H1,Cn,h1,h2,h3,h4,h5,h6⟩:=NF he hb hr hn ha aa hok aa hnn
  rw[show wh ty es (.slice (some ⟨r,0,none⟩) n (aK es)) (.slice (some ⟨rx,0,none⟩) 1 cx) (Go.Ae.hN H)=_ from h1]
  refine k _ H1 [(r',ty,cs++xs++Cn)] (.inr ⟨r',n +(0 +1),Cn,rfl,?_,rfl⟩) ?_ h5.draw (fun q hq hn'=>h5.obj q hq hn') (hcls _)
  ·rw[List.length_append,hn,hx,Nat.add_mul];omega
  ·refine SH.turn (A:=[(r,ty,cs++aF)]) hS1 h5.draw (fun e he'=>?_) (List.pairwise_singleton _ _)
   rw[List.mem_singleton]at he'
   subst he'
   refine⟨h2,?_,h4⟩
   rcases h3 with h3|h3
   ·exact .inl (by simp[h3])
   ·exact .inr (by show H.next≤r';rw[h3];exact Nat.le_refl _)
theorem GB.fl(hg:GB ty es v cs gb)(hS:SH S H0 H (gb++L)):∃a n c,v=.slice a n c∧cs.length=n*es∧Fl H a n es cs:=by
 rcases hg with⟨rfl,rfl,rfl⟩|⟨r,n,aF,rfl,hn,rfl⟩
 ·exact⟨none,0,0,rfl,by simp,Fl.nil _ _ _⟩
 ·refine⟨_,n,_,rfl,hn,hn,fun i x hi=>⟨r,0,rfl,(hS.lo _ (List.mem_cons_self ..)).2,?_⟩⟩
  rw[Nat.zero_add]
  refine(hS.get 0 rfl).cell ?_
  rw[List.getElem?_append_left (List.getElem?_eq_some_iff.1 hi).1];exact hi
theorem GB.aR(hg:GB ty es v cs gb):all' Go.Ae.aR (ax v)=true∧(ax v).length=1∧ax v=[v]:=by
 rcases hg with⟨rfl,_,_⟩|⟨r,n,aF,rfl,_,_⟩<;>exact⟨rfl,rfl,rfl⟩
end steps
theorem uP{A B:ae}{r off n:Nat}{vs:List Value}(ha:A.read r off n=some vs)(hb:B.read r off n=some vs)(hs:xx vs vs=true):sameAt A B r off n=true:=by
 unfold sameAt
 rw[ha,hb]
 show gU (gd (xx vs vs) (some ()))=true
 rw[hs];rfl
end
section bin
variable{P:Program}{t:TypeId}{ox oy:Operand}{a b:Int}{k:IntKind}
end bin
theorem S9:∀(a b:List UInt8),V4 a=V4 b→a=b:=by
 intro a
 induction a with
 |nil=>intro b h;cases b with
  |nil=>rfl
  |cons y b=>cases h
 |cons x a ih=>intro b h;cases b with
  |nil=>cases h
  |cons y b=>
   have h1:x.toNat=y.toNat:=(List.cons.inj h).1
   have h2:V4 a=V4 b:=(List.cons.inj h).2
   rw[ih b h2,UInt8.toNat_inj.1 h1]
theorem I9:∀(a b:List Nat),BA a b=true↔a=b:=by
 intro a
 induction a with
 |nil=>intro b;cases b with
  |nil=>exact⟨fun _=>rfl,fun _=>rfl⟩
  |cons y b=>exact⟨(fun h=>by cases h),(fun h=>by cases h)⟩
 |cons x a ih=>intro b;cases b with
  |nil=>exact⟨(fun h=>by cases h),(fun h=>by cases h)⟩
  |cons y b=>
   show av (Nat.beq x y) (BA a b) false=true↔_
   by_cases e:x=y
   ·subst e;rw[Nat.beq_refl,gm,ih];simp
   ·rw[show Nat.beq x y=false from by rw[←Bool.not_eq_true];exact fun g=>e (Nat.eq_of_beq_eq_true g),bR]
    simp[e]
theorem EP(a b:ByteArray):iM a b=decide (a=b):=by
 rw[Bool.eq_iff_iff,decide_eq_true_iff]
 unfold iM
 rw[I9]
 constructor
 ·intro h
  have:=S9 _ _ h
  obtain⟨⟨x⟩⟩:=a
  obtain⟨⟨y⟩⟩:=b
  exact congrArg (fun l=>ByteArray.mk (Array.mk l)) this
 ·intro h;rw[h]
section bin
variable{P:Program}{t:TypeId}{ox oy:Operand}
theorem ER(a b:ByteArray):eF P .eql t ox oy (.string a) (.string b)=some (.bool (decide (a=b))):=by
 show some (Value.bool (iM a b))=_;rw[EP]
theorem ES(a b:ByteArray):eF P .neq t ox oy (.string a) (.string b)=some (.bool (!decide (a=b))):=by
 show some (Value.bool (!(iM a b)))=_;rw[EP]
end bin
def part(s:ByteArray)(lo hi:Nat):ByteArray:=⟨⟨(s.data.toList.drop lo).take (hi -lo)⟩⟩
theorem lN(s:ByteArray){lo hi:Nat}(h:lo≤hi)(h2:hi≤s.size):(part s lo hi).size=hi -lo:=by
 show((s.data.toList.drop lo).take (hi -lo)).length=_
 have:s.data.toList.length=s.size:=rfl
 simp;omega
theorem I_{s:ByteArray}{lo hi:Nat}(h:lo≤hi)(h2:hi≤s.size):slT (.string s) (some (vn lo)) (some (vn hi)) none=some (.string (part s lo hi)):=by
 show gd (Nat.ble lo hi&&Nat.ble hi (len s.data.toList)) (some (Value.string ⟨⟨tk (Nat.sub hi lo) (dp lo s.data.toList)⟩⟩))=_
 rw[aM,Nat.ble_eq_true_of_le h,Nat.ble_eq_true_of_le (show hi≤s.data.toList.length from h2),zC,Em];rfl
theorem sW{s:ByteArray}{lo:Nat}(h:lo≤s.size):slT (.string s) (some (vn lo)) none none=some (.string (part s lo s.size)):=by
 show gd (Nat.ble lo (len s.data.toList)&&Nat.ble (len s.data.toList) (len s.data.toList)) (some (Value.string ⟨⟨tk (Nat.sub (len s.data.toList) lo) (dp lo s.data.toList)⟩⟩))=_
 rw[aM,Nat.ble_eq_true_of_le (show lo≤s.data.toList.length from h),Nat.ble_eq_true_of_le (Nat.le_refl _),zC,Em];rfl
theorem aac{s:ByteArray}{hi:Nat}(h2:hi≤s.size):slT (.string s) none (some (vn hi)) none=some (.string (part s 0 hi)):=by
 show gd (Nat.ble 0 hi&&Nat.ble hi (len s.data.toList)) (some (Value.string ⟨⟨tk (Nat.sub hi 0) (dp 0 s.data.toList)⟩⟩))=_
 rw[aM,Nat.ble_eq_true_of_le (Nat.zero_le _),Nat.ble_eq_true_of_le (show hi≤s.data.toList.length from h2),zC,Em];rfl
def cvI(k:IntKind)(x:Value):Option Value:=@Option.rec (IntKind×Int) (fun _=>Option Value) (aj (jl x) fun b=>gd false (some (.string b))) (fun a=>some (.int k (fO k a.2))) (jk x)
def cvT(x:Value):Option Value:=@Option.rec (IntKind×Int) (fun _=>Option Value) (aj (jl x) fun b=>gd true (some (.string b))) (fun a=>some (.string (Utf8.encode a.2))) (jk x)
theorem nH(k k':IntKind)(a:Int):cvI k (.int k' a)=some (.int k (fO k a)):=rfl
theorem NG(k:IntKind)(a:Int):cvT (.int k a)=some (.string (Utf8.encode a)):=rfl
theorem NH(s:ByteArray):cvT (.string s)=some (.string s):=rfl
theorem aad(vs:List Value)(i:Nat):l9 (.tuple ⟨vs⟩) i=vs[i]?:=fH vs i
section
variable{S:List Nat}
theorem ah{p:Prop}[Decidable p]{A B:Prop}(h1:p→A)(h2:¬p→B):vB (some (decide p)) A B:=by
 by_cases h:p
 ·rw[decide_eq_true h];exact h1 h
 ·rw[decide_eq_false h];exact h2 h
theorem aO{p:Prop}[Decidable p]{A B:Prop}(h1:¬p→A)(h2:p→B):vB (some (!decide p)) A B:=by
 by_cases h:p
 ·rw[decide_eq_true h];exact h2 h
 ·rw[decide_eq_false h];exact h1 h
theorem aA{b:Bool}{A B:Prop}(h1:b=true→A)(h2:b=false→B):vB (some b) A B:=by
 cases b with
 |true=>exact h1 rfl
 |false=>exact h2 rfl
def Ll(k:IntKind)(a b:Int):Int:=k.wrap (BitVec.toNat (BitVec.ofInt k.bits a&&&BitVec.ofInt k.bits b))
def bOr(k:IntKind)(a b:Int):Int:=k.wrap (BitVec.toNat (BitVec.ofInt k.bits a|||BitVec.ofInt k.bits b))
def WV(k:IntKind)(a b:Int):Int:=k.wrap (BitVec.toNat (BitVec.ofInt k.bits a&&&~~~BitVec.ofInt k.bits b))
def Gc(k:IntKind)(a b:Int):Int:=k.wrap (a*2^min b.toNat k.bits)
def Cq(k:IntKind)(a b:Int):Int:=a.fdiv (2^min b.toNat k.bits)
section bits
variable{P:Program}{t:TypeId}{ox oy:Operand}{a b:Int}{k:IntKind}
theorem uQ:eF P .and t ox oy (.int k a) (.int k b)=some (.int k (Ll k a b)):=cO rfl rfl
theorem Ja:eF P .or t ox oy (.int k a) (.int k b)=some (.int k (bOr k a b)):=cO rfl rfl
theorem xM:eF P .andNot t ox oy (.int k a) (.int k b)=some (.int k (WV k a b)):=cO rfl rfl
theorem p_(h:0≤b):eF P .shl t ox oy (.int k a) (.int .u64 b)=some (.int k (Gc k a b)):=by
 show bV (Op.shift .shl k a .u64 b)=_
 unfold Op.shift
 rw[if_neg aa];rfl
theorem jb(h:0≤b):eF P .shr t ox oy (.int k a) (.int .u64 b)=some (.int k (Cq k a b)):=by
 show bV (Op.shift .shr k a .u64 b)=_
 unfold Op.shift
 rw[if_neg aa];rfl
theorem Cr:eF P .shl t ox oy (.int k a) (.int .u64 4)=some (.int k (Gc k a 4)):=p_ (by decide)
theorem Cs:eF P .shl t ox oy (.int k a) (.int .u64 6)=some (.int k (Gc k a 6)):=p_ (by decide)
theorem zR:eF P .shl t ox oy (.int k a) (.int .u64 12)=some (.int k (Gc k a 12)):=p_ (by decide)
theorem zS:eF P .shl t ox oy (.int k a) (.int .u64 18)=some (.int k (Gc k a 18)):=p_ (by decide)
theorem zT:eF P .shl t ox oy (.int k a) (.int .u64 31)=some (.int k (Gc k a 31)):=p_ (by decide)
theorem Cu:eF P .shr t ox oy (.int k a) (.int .u64 4)=some (.int k (Cq k a 4)):=jb (by decide)
theorem Cv:eF P .shr t ox oy (.int k a) (.int .u64 6)=some (.int k (Cq k a 6)):=jb (by decide)
theorem zU:eF P .shr t ox oy (.int k a) (.int .u64 12)=some (.int k (Cq k a 12)):=jb (by decide)
theorem zV:eF P .shr t ox oy (.int k a) (.int .u64 18)=some (.int k (Cq k a 18)):=jb (by decide)
theorem zW:eF P .shr t ox oy (.int k a) (.int .u64 31)=some (.int k (Cq k a 31)):=jb (by decide)
end bits
theorem S_{n k es r o:Nat}{kk:IntKind}(h:k<n):idR n es (.pointer (some ⟨r,o,none⟩)) (.int kk (k:Int))=some (.pointer (some ⟨r,o +k*es,none⟩)):=by
 show gd (Nat.ble (Nat.succ k) n) (some (Value.pointer (some ⟨r,Nat.add o (Nat.mul k es),none⟩)))=_
 rw[Nat.ble_eq_true_of_le h];rfl
section ar
variable{P:Program}{t:TypeId}{ox oy:Operand}{a b:Int}
theorem zX:eF P .add t ox oy (.int .u8 a) (.int .u8 b)=some (.int .u8 (fO .u8 (a +b))):=cO rfl rfl
theorem xN:eF P .add t ox oy (.int .i32 a) (.int .i32 b)=some (.int .i32 (fO .i32 (a +b))):=cO rfl rfl
theorem zY:eF P .sub t ox oy (.int .u8 a) (.int .u8 b)=some (.int .u8 (fO .u8 (a -b))):=cO rfl rfl
theorem xO:eF P .sub t ox oy (.int .i32 a) (.int .i32 b)=some (.int .i32 (fO .i32 (a -b))):=cO rfl rfl
theorem zZ:eF P .mul t ox oy (.int .u8 a) (.int .u8 b)=some (.int .u8 (fO .u8 (a*b))):=cO rfl rfl
theorem xP:eF P .mul t ox oy (.int .i32 a) (.int .i32 b)=some (.int .i32 (fO .i32 (a*b))):=cO rfl rfl
end ar
theorem lQ{t:Nat}{v:Value}{l:List (Nat×Value)}:Az ((t,v)::l) t=v:=by
 show Go.Ae.look ((t,v)::l) t=v
 rw[uM,if_pos rfl]
theorem qR{d t:Nat}{v:Value}{l:List (Nat×Value)}(h:(d==t)=false):Az ((d,v)::l) t=Az l t:=by
 show Go.Ae.look ((d,v)::l) t=Go.Ae.look l t
 rw[uM,if_neg (by simpa using h)]
section quiet
variable{H0 H:ae}{L:List aC}{K:Value→ae→Prop}
theorem SH.vC(hS:SH S H0 H L)(i:Nat){r o:Nat}{ty:TypeId}{cs:List Value}{v:Value}(hi:L[i]?=some (r,ty,cs))(hv:cs[o]?=some v)(k:K v (Go.Ae.hN H)):ME (lM none (.pointer (some ⟨r,o,none⟩)) (Go.Ae.hN H)) K:=
 ME.ld (H:=Go.Ae.hN H) ((hS.get i hi).cell hv) k
theorem SH.PL(hS:SH S H0 H L)(i:Nat){r o n:Nat}{ty:TypeId}{cs:List Value}(hi:L[i]?=some (r,ty,cs))(hn:o +n≤cs.length)(k:K (.agg ⟨(cs.drop o).take n⟩) (Go.Ae.hN H)):ME (lM (some n) (.pointer (some ⟨r,o,none⟩)) (Go.Ae.hN H)) K:=
 ME.mU (H:=Go.Ae.hN H) ((hS.get i hi).read hn) k
theorem SH.zf(hS:SH [] H0 H L){r o:Nat}{v:Value}(h:H0.cell r o=some v)(hr:r<H0.next)(k:K v (Go.Ae.hN H)):ME (lM none (.pointer (some ⟨r,o,none⟩)) (Go.Ae.hN H)) K:=
 ME.ld (H:=Go.Ae.hN H) ((hS.old hr).trans h) k
end quiet
section mem
variable{P:Program}{X:Xt}
def Ta(a:Code)(R:Nat→Nat→St→Prop)(n:Nat)(K:Out→Prop):Out→Prop:=fun o=>
 @Out.rec (fun _=>Prop) False (fun s=>K (.norm s)) (fun i s=>K (.exit i s)) (fun l s=>@Option.rec Code (fun _=>Prop) (K (.goto l s)) (fun _=>∃m,m<n∧R m l s) (findLabel a l)) (fun s=>K (.ret s)) o
theorem Tc{a:Code}{R:Nat→Nat→St→Prop}{n:Nat}{K:Out→Prop}{s:St}:Ta a R n K (.norm s)=K (.norm s):=rfl
theorem NI{a:Code}{R:Nat→Nat→St→Prop}{n:Nat}{K:Out→Prop}{s:St}:Ta a R n K (.ret s)=K (.ret s):=rfl
theorem Cw{a rest:Code}{R:Nat→Nat→St→Prop}{n l:Nat}{K:Out→Prop}{s:St}(h:findLabel a l=some rest):Ta a R n K (.goto l s)=∃m,m<n∧R m l s:=by
 show(@Option.rec Code (fun _=>Prop) _ _ (findLabel a l))=_
 rw[h]
def ScP(P:Program)(X:Xt)(a:Code)(o:Out)(K:Out→Prop):Prop:=∃k o1 o2,eZ (lv P X k).cx k a o=o1∧o1≠.fail∧qz o1 o2∧K o2
theorem Td{a:Code}{K:Out→Prop}{R:Nat→Nat→St→Prop}(h:∀n l s rest,R n l s→findLabel a l=some rest→aT P X rest s (Ta a R n K)):
 ∀n o o',qz o o'→o≠.fail→Ta a R n K o'→ScP P X a o K:=by
 intro n
 induction n using Nat.strongRecOn with
 |_ n ih=>
  intro o o' he hne hg
  cases he with
  |fail=>exact absurd rfl hne
  |norm he=>exact⟨1,.norm _,_,rfl,(fun h=>nomatch h),.norm he,hg⟩
  |exit i he=>exact⟨1,.exit i _,_,rfl,(fun h=>nomatch h),.exit i he,hg⟩
  |ret he=>exact⟨1,.ret _,_,rfl,(fun h=>nomatch h),.ret he,hg⟩
  |goto l he=>
   rename_i s s'
   cases hf:findLabel a l with
   |none=>
    have hg':K (.goto l s'):=by
     have:(@Option.rec Code (fun _=>Prop) (K (.goto l s')) (fun _=>∃m,m<n∧R m l s') (findLabel a l)):=hg
     rw[hf]at this;exact this
    refine⟨1,.goto l s,_,?_,by simp,.goto l he,hg'⟩
    show(@Option.rec Code (fun _=>Out) (.goto l s) _ (findLabel a l))=_
    rw[hf]
   |some rest=>
    rw[Cw hf]at hg
    obtain⟨m,hm,hR⟩:=hg
    obtain⟨o1,o1',h1,h2,h3⟩:=aT.alike he (h m l s' rest hR hf)
    obtain⟨n1,k1,h1⟩:=h1
    obtain⟨k2,o3,o4,h4,h5,h6,h7⟩:=ih m hm o1 o1' h2 n1 h3
    refine⟨max k1 k2 +1,o3,o4,?_,h5,h6,h7⟩
    show(@Option.rec Code (fun _=>Out) (.goto l s) (fun rest=>eZ (lv P X (max k1 k2 +1)).cx (max k1 k2) a ((lv P X (max k1 k2 +1)).cx rest s)) (findLabel a l))=o3
    rw[hf]
    show eZ (lv P X (max k1 k2 +1)).cx (max k1 k2) a (xI P X (max k1 k2) rest s)=o3
    rw[qO h1 n1 (Nat.le_max_left _ _),←h4]
    have hx:Sy (lv P X k2).cx (lv P X (max k1 k2 +1)).cx:=(nE k2 _ aa).2
    refine sO hx a k2 _ (Nat.le_max_right _ _) o1 ?_
    rw[h4];exact h5
theorem aT.scope{a:Code}{K:Out→Prop}{s:St}(R:Nat→Nat→St→Prop)(h:∀n l s rest,R n l s→findLabel a l=some rest→aT P X rest s (Ta a R n K))(n:Nat)(h0:aT P X a s (Ta a R n K)):aT P X (.scope a) s K:=by
 obtain⟨o,o',h1,h2,h3⟩:=h0
 obtain⟨n1,k1,h1⟩:=h1
 obtain⟨k2,o3,o4,h4,h5,h6,h7⟩:=Td h n o o' h2 n1 h3
 refine⟨o3,o4,⟨h5,max k1 k2,?_⟩,h6,h7⟩
 show eZ (lv P X (max k1 k2)).cx (max k1 k2) a (xI P X (max k1 k2) a s)=o3
 rw[qO h1 n1 (Nat.le_max_left _ _),←h4]
 refine sO (nE k2 _ (Nat.le_max_right _ _)).2 a k2 _ (Nat.le_max_right _ _) o ?_
 rw[h4];exact h5
end mem
end
theorem WW{es r o n c:Nat}{z:Int}(h0:0≤z)(h:z<n):sS es (.slice (some ⟨r,o,none⟩) n c) (vi z)=some (.pointer (some ⟨r,o +z.toNat*es,none⟩)):=by
 obtain⟨k,rfl⟩:∃k:Nat,z=k:=⟨z.toNat,aa⟩
 exact oF aa
section bin
variable{P:Program}{t:TypeId}{ox oy:Operand}{a b:Int}
theorem Te(ha:0≤a)(hb:0<b)(h:a≤9223372036854775807):eF P .quo t ox oy (vi a) (vi b)=some (vi (a/b)):=cO rfl (by
 show bV (Op.intDiv .quo .i64 a b)=_
 unfold Op.intDiv
 rw[if_neg aa]
 show some (Value.int .i64 (IntKind.i64.wrap (a.tdiv b)))=_
 have h1:a.tdiv b=a/b:=Int.tdiv_eq_ediv_of_nonneg ha
 have h2:0≤a/b:=Int.ediv_nonneg ha aa
 have h3:a/b≤a:=Int.ediv_le_self b ha
 rw[h1]
 have:IntKind.i64.wrap (a/b)=a/b:=IntWalk.i64_in _ aa
 rw[this])
theorem PU.quo{K:Value→Prop}(ha:0≤a)(hb:0<b)(h:a≤9223372036854775807)(k:∀q:Int,0≤q→b*q≤a→a<b*q +b→K (vi q)):PU (eF P .quo t ox oy (vi a) (vi b)) K:=by
 rw[Te ha hb h]
 have h1:=Int.mul_ediv_add_emod a b
 have h2:=Int.emod_nonneg a (show b≠0 by omega)
 have h3:=Int.emod_lt_of_pos a hb
 exact k (a/b) (Int.ediv_nonneg ha aa) aa aa
end bin
theorem SH.Lm{H0 H:ae}{L:List aC}{K:Value→ae→Prop}(hS:SH [] H0 H L)(i:Nat){r o n:Nat}{ty:TypeId}{cs:List Value}{v:Value}(hi:L[i]?=some (r,ty,cs))(hl:(ax v).length=n)(hn:o +n≤cs.length)(hk:all' aR (ax v)=true)
 (k:∀H1,SH [] H0 (hM H H1) (L.set i (r,ty,splice cs o (ax v)))→K undef H1):ME (yB n (.pointer (some ⟨r,o,none⟩)) v (Go.Ae.hN H)) K:=by
 obtain⟨H1,h1,h2,h3⟩:=hS.mV.qP (vs:=ax v) (o:=o) i hi aa hk
 show ME (gd (Nat.beq (len (ax v)) n) (aj ((Go.Ae.hN H).write r o (ax v)) fun H'=>some (undef,H'))) K
 rw[aM,hl,Nat.beq_refl,h1]
 refine k H1 ⟨hS.ext.later h3.draw (fun q hq=>.inr ?_),fun e he=>(h2.bk e he).dL rfl,h2.lo,h2.ne,h3.draw.wf hS.wf⟩
 rw[List.mem_singleton]at hq
 subst hq
 exact hS.wm (List.mem_of_getElem? hi)
def El(cs:List Value)(es k:Nat):List Value:=(cs.drop (k*es)).take es
theorem jv(cs:List Value)(es k i:Nat):(El cs es k)[i]?=if i<es then cs[k*es +i]? else none:=by
 unfold El
 rw[List.getElem?_take]
 split
 ·rw[List.getElem?_drop]
 ·rfl
theorem zg{cs vs:List Value}{es k:Nat}(hv:vs.length=es)(h:k*es +es≤cs.length)(k':Nat):El (splice cs (k*es) vs) es k'=if k'=k then vs else El cs es k':=by
 apply List.ext_getElem?
 intro i
 rw[jv]
 by_cases hi:i<es
 ·rw[if_pos hi,iU aa]
  by_cases hk:k'=k
  ·subst hk
   rw[if_pos aa,if_pos rfl,Nat.add_sub_cancel_left]
  ·rw[if_neg hk,jv,if_pos hi,if_neg]
   rintro⟨h1,h2⟩
   rcases Nat.lt_or_ge k' k with h3|h3
   ·have:(k' +1)*es≤k*es:=Nat.mul_le_mul_right es h3
    rw[Nat.add_mul]at this
    omega
   ·have:(k +1)*es≤k'*es:=Nat.mul_le_mul_right es aa
    rw[Nat.add_mul]at this
    omega
 ·rw[if_neg hi]
  split
  ·symm;exact List.getElem?_eq_none aa
  ·rw[jv,if_neg hi]
def SB(P:List Value→Prop)(r:Nat)(ty:TypeId)(es n:Nat)(H0 H:ae)(L:List aC):Prop:=∃cs,n*es≤cs.length∧(∀k,k<n→P (El cs es k))∧SH [] H0 H ((r,ty,cs)::L)
section steps
variable{P:List Value→Prop}{r:Nat}{ty:TypeId}{es n:Nat}{H0 H:ae}{L:List aC}{K:Value→ae→Prop}
theorem SB.wf(h:SB P r ty es n H0 H L):Wf H:=by obtain⟨_,_,_,hS⟩:=h;exact hS.wf
theorem SB.ext(h:SB P r ty es n H0 H L):Ext H0 H:=by obtain⟨_,_,_,hS⟩:=h;exact hS.ext
theorem SB.call{H':ae}(h:SB P r ty es n H0 H L)(hx:Ext H H'):SB P r ty es n H0 H' L:=by obtain⟨cs,h1,h2,hS⟩:=h;exact⟨cs,h1,h2,hS.call hx⟩
theorem SB.new(h:SB P r ty es n H0 H L){t2:TypeId}{z:List Value}(k:∀H1 q,SB P r ty es n H0 H1 ((q,t2,z)::L)→K (.pointer (some ⟨q,0,none⟩)) H1):ME (bZ t2 z H) K:=by
 obtain⟨cs,h1,h2,hS⟩:=h
 exact hS.bZ fun H1 q hS=>k H1 q ⟨cs,h1,h2,hS.perm (List.Perm.swap _ _ _)⟩
theorem SB.ld(h:SB P r ty es n H0 H L)(i:Nat){q o:Nat}{t2:TypeId}{cs:List Value}{v:Value}(hi:L[i]?=some (q,t2,cs))(hv:cs[o]?=some v)(k:K v H):ME (lM none (.pointer (some ⟨q,o,none⟩)) H) K:=by
 obtain⟨cs,h1,h2,hS⟩:=h
 exact hS.ld (i +1) (by rw[List.getElem?_cons_succ];exact hi) hv k
theorem SB.vC(h:SB P r ty es n H0 H L)(i:Nat){q o:Nat}{t2:TypeId}{cs:List Value}{v:Value}(hi:L[i]?=some (q,t2,cs))(hv:cs[o]?=some v)(k:K v (Go.Ae.hN H)):ME (lM none (.pointer (some ⟨q,o,none⟩)) (Go.Ae.hN H)) K:=by
 obtain⟨cs,h1,h2,hS⟩:=h
 exact hS.vC (i +1) (by rw[List.getElem?_cons_succ];exact hi) hv k
theorem SB.st(h:SB P r ty es n H0 H L)(i:Nat){q o m:Nat}{t2:TypeId}{cs:List Value}{v:Value}(hi:L[i]?=some (q,t2,cs))(hl:(ax v).length=m)(hn:o +m≤cs.length)(hk:all' aR (ax v)=true)
 (k:∀H1,SB P r ty es n H0 H1 (L.set i (q,t2,splice cs o (ax v)))→K undef H1):ME (yB m (.pointer (some ⟨q,o,none⟩)) v H) K:=by
 obtain⟨ds,h1,h2,hS⟩:=h
 exact hS.st (i +1) (by rw[List.getElem?_cons_succ];exact hi) hl hn hk fun H1 hS=>k H1 ⟨ds,h1,h2,hS⟩
theorem SB.row(h:SB P r ty es n H0 H L){k:Nat}(hk:k<n):∃cs,SH [] H0 H ((r,ty,cs)::L)∧P (El cs es k)∧k*es +es≤cs.length:=by
 obtain⟨cs,h1,h2,hS⟩:=h
 refine⟨cs,hS,h2 k hk,?_⟩
 have:(k +1)*es≤n*es:=Nat.mul_le_mul_right es hk
 rw[Nat.add_mul]at this
 omega
theorem SB.e1(h:SB P r ty 1 n H0 H L){z:Int}(h0:0≤z)(hz:z<n)(k:∀v,P [v]→K v H):ME (lM none (.pointer (some ⟨r,z.toNat*1,none⟩)) H) K:=by
 obtain⟨cs,hS,hp,hl⟩:=h.row (k:=z.toNat) aa
 have hlt:z.toNat<cs.length:=by omega
 refine hS.ld 0 rfl (v:=cs[z.toNat]) (by rw[Nat.mul_one];exact List.getElem?_eq_getElem hlt) (k _ ?_)
 have:El cs 1 z.toNat=[cs[z.toNat]]:=by
  unfold El
  rw[Nat.mul_one,List.drop_eq_getElem_cons hlt];rfl
 rw[←this];exact hp
theorem SB.mV(h:SB P r ty es n H0 H L):SB P r ty es n (Go.Ae.hN H0) (Go.Ae.hN H) L:=by obtain⟨cs,h1,h2,hS⟩:=h;exact⟨cs,h1,h2,hS.mV⟩
theorem SB.e1Q(h:SB P r ty 1 n H0 H L){z:Int}(h0:0≤z)(hz:z<n)(k:∀v,P [v]→K v (Go.Ae.hN H)):ME (lM none (.pointer (some ⟨r,z.toNat*1,none⟩)) (Go.Ae.hN H)) K:=h.mV.e1 h0 hz k
theorem SB.em(h:SB P r ty es n H0 H L){z:Int}(h0:0≤z)(hz:z<n)(k:∀l,P l→K (.agg ⟨l⟩) H):ME (lM (some es) (.pointer (some ⟨r,z.toNat*es,none⟩)) H) K:=by
 obtain⟨cs,hS,hp,hl⟩:=h.row (k:=z.toNat) aa
 exact hS.mU 0 rfl aa (k _ hp)
theorem SB.emQ(h:SB P r ty es n H0 H L){z:Int}(h0:0≤z)(hz:z<n)(k:∀l,P l→K (.agg ⟨l⟩) (Go.Ae.hN H)):ME (lM (some es) (.pointer (some ⟨r,z.toNat*es,none⟩)) (Go.Ae.hN H)) K:=h.mV.em h0 hz k
theorem SB.w(h:SB P r ty es n H0 H L){z:Int}(h0:0≤z)(hz:z<n){v:Value}(hp:P (ax v))(hl:(ax v).length=es)(hk:all' aR (ax v)=true)(k:∀H1,SB P r ty es n H0 H1 L→K undef H1):
 ME (yB es (.pointer (some ⟨r,z.toNat*es,none⟩)) v H) K:=by
 obtain⟨cs,h1,h2,hS⟩:=h
 have hle:z.toNat*es +es≤cs.length:=by
  have:(z.toNat +1)*es≤n*es:=Nat.mul_le_mul_right es aa
  rw[Nat.add_mul]at this
  omega
 refine hS.st 0 rfl hl aa hk fun H1 hS=>k H1 ⟨splice cs (z.toNat*es) (ax v),?_,fun j hj=>?_,?_⟩
 ·rw[eH aa];exact h1
 ·rw[zg hl hle]
  split
  ·exact hp
  ·exact h2 j hj
 ·exact hS
theorem SB.wQ(h:SB P r ty es n H0 H L){z:Int}(h0:0≤z)(hz:z<n){v:Value}(hp:P (ax v))(hl:(ax v).length=es)(hk:all' aR (ax v)=true)(k:∀H1,SB P r ty es n H0 (hM H H1) L→K undef H1):
 ME (yB es (.pointer (some ⟨r,z.toNat*es,none⟩)) v (Go.Ae.hN H)) K:=by
 obtain⟨cs,h1,h2,hS⟩:=h
 have hle:z.toNat*es +es≤cs.length:=by
  have:(z.toNat +1)*es≤n*es:=Nat.mul_le_mul_right es aa
  rw[Nat.add_mul]at this
  omega
 refine hS.Lm 0 rfl hl aa hk fun H1 hS=>k H1 ⟨splice cs (z.toNat*es) (ax v),?_,fun j hj=>?_,?_⟩
 ·rw[eH aa];exact h1
 ·rw[zg hl hle]
  split
  ·exact hp
  ·exact h2 j hj
 ·exact hS
def WX(Q:Int→Prop)(l:List Value):Prop:=∃z:Int,l=[vi z]∧Q z
theorem SB.wu{Q:Int→Prop}(h:SB (WX Q) r ty 1 n H0 H L){z:Int}(h0:0≤z)(hz:z<n)(k:∀x,Q x→K (vi x) (Go.Ae.hN H)):ME (lM none (.pointer (some ⟨r,z.toNat*1,none⟩)) (Go.Ae.hN H)) K:=
 h.e1Q h0 hz fun v ⟨x,hx,hq⟩=>by cases hx;exact k x hq
theorem SB.Kc{Q:Int→Prop}(h:SB (WX Q) r ty 1 n H0 H L){z:Int}(h0:0≤z)(hz:z<n){x:Int}(hx:Q x)(k:∀H1,SB (WX Q) r ty 1 n H0 (hM H H1) L→K undef H1):ME (yB 1 (.pointer (some ⟨r,z.toNat*1,none⟩)) (vi x) (Go.Ae.hN H)) K:=
 h.wQ h0 hz ⟨x,rfl,hx⟩ rfl rfl k
end steps
theorem aT.i_{P:Program}{X:Xt}{c:Code}{s:St}{K:Out→Prop}(h:∀K',K'=K→aT P X c s K'):aT P X c s K:=h K rfl
theorem xQ{K:Out→Prop}{s:St}{i j:Nat}(h:(j==i)=false):iA i K (.exit j s)=K (.exit j s):=IX (by simpa using h)
theorem eG.mono{P:Program}{X:Xt}{q:Option (FuncId×List Value×List Value)}{args:List Value}{H:ae}{K K':Value→ae→Prop}(h:eG P X q args H K)(hk:∀v H',K v H'→K' v H'):eG P X q args H K':=by
 cases q with
 |none=>exact h
 |some q=>exact ak.mono h hk
def adF(k:IntKind)(a b:Int):Int:=k.wrap (BitVec.toNat (BitVec.ofInt k.bits a^^^BitVec.ofInt k.bits b))
section bin
variable{P:Program}{t:TypeId}{ox oy:Operand}{a b:Int}{k k2:IntKind}
theorem nS:eF P .xor t ox oy (.int k a) (.int k b)=some (.int k (adF k a b)):=cO rfl rfl
theorem qc(h:0≤b):eF P .shl t ox oy (.int k a) (.int k2 b)=some (.int k (Gc k a b)):=by
 show bV (Op.shift .shl k a k2 b)=_
 unfold Op.shift
 rw[if_neg aa];rfl
theorem Cx(h:k.wrap (a -b)=a -b):eF P .sub t ox oy (.int k a) (.int k b)=some (.int k (a -b)):=cO rfl (by
 show some (Value.int k (fO k (a -b)))=_
 rw[xz,h])
end bin
theorem mE{k:IntKind}{n:Int}(h:k.wrap n=n):fO k n=n:=by rw[xz,h]
theorem u64_in{n:Int}(h:0≤n∧n<18446744073709551616):IntKind.u64.wrap n=n:=by
 show n %18446744073709551616=n
 omega
theorem u8_in{n:Int}(h:0≤n∧n<256):IntKind.u8.wrap n=n:=by
 show n %256=n
 omega
theorem NJ{a b:Int}(h:0≤b∧b<18446744073709551616):0≤Ll .u64 a b∧Ll .u64 a b≤b:=by
 unfold Ll
 have h1:(BitVec.ofInt IntKind.u64.bits a&&&BitVec.ofInt IntKind.u64.bits b).toNat≤(BitVec.ofInt IntKind.u64.bits b).toNat:=by
  rw[BitVec.toNat_and];exact Nat.and_le_right
 have h2:((BitVec.ofInt IntKind.u64.bits b).toNat:Int)=b:=by
  show((BitVec.ofInt 64 b).toNat:Int)=b
  rw[BitVec.toNat_ofInt]
  omega
 rw[u64_in aa]
 omega
theorem Tf{l:Nat}(h:l≤32):Gc .u64 1 (l:Int)=((2^l:Nat):Int):=by
 unfold Gc
 have h1:min ((l:Int).toNat) IntKind.u64.bits=l:=by
  show min ((l:Int).toNat) 64=l
  omega
 rw[h1]
 have h2:(2:Nat)^l≤2^32:=Nat.pow_le_pow_right aa h
 have h3:(1:Int)*2^l=((2^l:Nat):Int):=by
  rw[Int.one_mul];simp
 rw[h3]
 have h4:(2:Nat)^l≤4294967296:=h2
 generalize(2:Nat)^l=m at h4
 exact u64_in aa
theorem NK{k:IntKind}{a:Int}{n:Nat}(h:n≤32)(h2:32≤k.bits):Cq k a (n:Int)=a.fdiv ((2^n:Nat):Int):=by
 unfold Cq
 have:min ((n:Int).toNat) k.bits=n:=by omega
 rw[this]
 simp
def aae(s:ByteArray):Bool:=(List.range 256).all fun k=>match s.data.toList[k]? with
 |none=>false
 |some t=>Nat.ble t.toNat 8&&Nat.ble (2^t.toNat) (2*k +(if k=0 then 1 else 0))
theorem PU.aae{s:ByteArray}{y:Int}{K:Value→Prop}(ht:Go.Ae.aae s=true)(h0:0≤y)(h1:y<256)(h:∀t:Nat,t≤8→(1≤y→((2^t:Nat):Int)≤2*y)→K (.int .u8 (t:Int))):PU (idS (.string s) (.int .u8 y)) K:=by
 obtain⟨k,rfl⟩:∃k:Nat,y=k:=⟨y.toNat,aa⟩
 have hk:k<256:=by omega
 have:=List.all_eq_true.1 ht k (List.mem_range.2 hk)
 show PU (aj (nth s.data.toList k) fun b=>some (Value.int .u8 (.ofNat b.toNat))) K
 rw[fH]
 revert this
 cases s.data.toList[k]? with
 |none=>intro h;cases h
 |some t=>
  intro h2
  simp only[Bool.and_eq_true]at h2
  have h3:=Nat.le_of_ble_eq_true h2.1
  have h4:=Nat.le_of_ble_eq_true h2.2
  exact h t.toNat h3 fun h5=>by
   rw[if_neg aa]at h4
   omega
section steps
variable{P:List Value→Prop}{r:Nat}{ty:TypeId}{es n:Nat}{H0 H:ae}{L:List aC}{K:Value→ae→Prop}
theorem SB.kX{H':ae}(h:SB P r ty es n H0 H L)(hx:Ext (Go.Ae.hN H) H'):SB P r ty es n H0 (hM H H') L:=by obtain⟨cs,h1,h2,hS⟩:=h;exact⟨cs,h1,h2,hS.kX hx⟩
theorem SB.Lm(h:SB P r ty es n H0 H L)(i:Nat){q o m:Nat}{t2:TypeId}{cs:List Value}{v:Value}(hi:L[i]?=some (q,t2,cs))(hl:(ax v).length=m)(hn:o +m≤cs.length)(hk:all' aR (ax v)=true)
 (k:∀H1,SB P r ty es n H0 (hM H H1) (L.set i (q,t2,splice cs o (ax v)))→K undef H1):ME (yB m (.pointer (some ⟨q,o,none⟩)) v (Go.Ae.hN H)) K:=by
 obtain⟨ds,h1,h2,hS⟩:=h
 exact hS.Lm (i +1) (by rw[List.getElem?_cons_succ];exact hi) hl hn hk fun H1 hS=>k H1 ⟨ds,h1,h2,hS⟩
theorem SB.drop{b:aC}(h:SB P r ty es n H0 H (b::L)):SB P r ty es n H0 H L:=by
 obtain⟨cs,g1,g2,hS⟩:=h
 exact⟨cs,g1,g2,SH.drop (A:=[_]) (hS.perm (List.Perm.swap _ _ _))⟩
end steps
def Hr(l:List Value):Prop:=∃a b:Int,l=[.int .i32 a,.int .i32 b]
theorem SB.xR{r:Nat}{ty:TypeId}{n:Nat}{H0 H:ae}{L:List aC}{K:Value→ae→Prop}(h:SB Hr r ty 2 n H0 H L){z:Int}(h0:0≤z)(hz:z<n)(k:∀a b,K (.agg ⟨[.int .i32 a,.int .i32 b]⟩) (Go.Ae.hN H)):ME (lM (some 2) (.pointer (some ⟨r,z.toNat*2,none⟩)) (Go.Ae.hN H)) K:=
 h.emQ h0 hz fun l hl=>by obtain⟨a,b,rfl⟩:=hl;exact k a b
theorem SB.r1{r:Nat}{ty:TypeId}{n:Nat}{H0 H:ae}{L:List aC}{K:Value→ae→Prop}(h:SB Hr r ty 2 n H0 H L){z:Int}(h0:0≤z)(hz:z<n)(k:∀a b,K (.agg ⟨[.int .i32 a,.int .i32 b]⟩) H):ME (lM (some 2) (.pointer (some ⟨r,z.toNat*2,none⟩)) H) K:=
 h.em h0 hz fun l hl=>by obtain⟨a,b,rfl⟩:=hl;exact k a b
theorem SB.Lp{r:Nat}{ty:TypeId}{n:Nat}{H0 H:ae}{L:List aC}{K:Value→ae→Prop}(h:SB Hr r ty 2 n H0 H L){z:Int}(h0:0≤z)(hz:z<n){a b:Int}(k:∀H1,SB Hr r ty 2 n H0 (hM H H1) L→K undef H1):ME (yB 2 (.pointer (some ⟨r,z.toNat*2,none⟩)) (.agg ⟨[.int .i32 a,.int .i32 b]⟩) (Go.Ae.hN H)) K:=
 h.wQ h0 hz ⟨a,b,rfl⟩ rfl rfl k
theorem SB.rw'{r:Nat}{ty:TypeId}{n:Nat}{H0 H:ae}{L:List aC}{K:Value→ae→Prop}(h:SB Hr r ty 2 n H0 H L){z:Int}(h0:0≤z)(hz:z<n){a b:Int}(k:∀H1,SB Hr r ty 2 n H0 H1 L→K undef H1):ME (yB 2 (.pointer (some ⟨r,z.toNat*2,none⟩)) (.agg ⟨[.int .i32 a,.int .i32 b]⟩) H) K:=
 h.w h0 hz ⟨a,b,rfl⟩ rfl rfl k
def uU:List Nat:=List.replicate 128 240++(List.replicate 66 241++(List.replicate 30 2++(19::(List.replicate 12 3++([35,3,3,52,4,4,4,68]++List.replicate 11 241)))))
def AA:List Nat:=[128,191,160,191,128,159,144,191,128,143,0,0,0,0,0,0,0,0,0,0,0,0,0,0,0,0,0,0,0,0,0,0]
def qT(H:ae):Prop:=3≤H.next∧∃t1 t2,H.obj 1=jW t1 .u8 uU∧H.obj 2=jW t2 .u8 AA
theorem qT.ex{H H':ae}(h:qT H)(hx:Ext H H'):qT H':=by
 obtain⟨h0,t1,t2,h1,h2⟩:=h
 exact⟨Nat.le_trans h0 hx.next,t1,t2,(hx.obj 1 aa (by simp)).trans h1,(hx.obj 2 aa (by simp)).trans h2⟩
open Classical in
def orT(args:List Value)(H:ae):Option (Value×ae):=if args=[]∧qT H then some (.bool true,H)else none
theorem Tg{H:ae}(h:qT H):orT [] H=some (.bool true,H):=by unfold orT;rw[if_pos ⟨rfl,h⟩]
theorem aaf{args:List Value}{v:Value}{H H':ae}(h:orT args H=some (v,H')):args=[]∧qT H∧v=.bool true∧H'=H:=by
 unfold orT at h
 split at h
 ·next hc=>cases h;exact⟨hc.1,hc.2,rfl,rfl⟩
 ·cases h
theorem Ti{ty:TypeId}{k:IntKind}{l:List Nat}{H:ae}{r i z:Nat}(h:H.obj r=jW ty k l)(hz:l[i]?=some z):H.cell r i=some (.int k (z:Int)):=by
 have hi:i<l.length:=(List.getElem?_eq_some_iff.1 hz).1
 unfold ae.cell
 rw[h]
 show gd (Nat.ble (Nat.succ i) (len l)) (some ((Tr.jG top (mp (fun n=>Value.int k (Int.ofNat n)) l) 0 .nil).get top i))=_
 rw[aM,Nat.ble_eq_true_of_le hi,uz,Tr.dW,xh,if_pos (by simp;omega),List.getD_eq_getElem?_getD,Nat.sub_zero,List.getElem?_map,hz];rfl
theorem PM{ty:TypeId}{k:IntKind}{l:List Nat}{H:ae}{r i x y:Nat}(h:H.obj r=jW ty k l)(hx:l[i]?=some x)(hy:l[i +1]?=some y):H.read r i 2=some [.int k (x:Int),.int k (y:Int)]:=by
 have hi:i +1<l.length:=(List.getElem?_eq_some_iff.1 hy).1
 show(aj (kg (H.obj r)) fun w=>gd (Nat.ble (Nat.add i 2) w.n) (some (Tr.vK top w.cells i 2)))=_
 rw[h]
 show gd (Nat.ble (i +2) (len l)) (some (Tr.vK top (Tr.jG top (mp (fun n=>Value.int k (Int.ofNat n)) l) 0 .nil) i 2))=_
 rw[aM,Nat.ble_eq_true_of_le hi,uz,Tr.l7,Tr.l7,Tr.rZ,Tr.dW,Tr.dW,xh,if_pos (by simp;omega),if_pos (by simp;omega),List.getD_eq_getElem?_getD,List.getD_eq_getElem?_getD,Nat.sub_zero,Nat.sub_zero,List.getElem?_map,List.getElem?_map,hx,hy];rfl
section
variable{S:List Nat}
theorem PN(t:Tr Value):∀(n k:Nat)(cs:List Value),cs.length=n→(∀i(h:i<cs.length),t.get top (k +i)=cs[i])→Tr.vK top t k n=cs:=by
 intro n
 induction n with
 |zero=>intro k cs h _;rw[Tr.rZ];exact(List.length_eq_zero_iff.1 h).symm
 |succ n ih=>
  intro k cs h hc
  cases cs with
  |nil=>cases h
  |cons x cs=>
   rw[Tr.l7,ih (k +1) cs (by simpa using h) (fun i hi=>by
    have:=hc (i +1) (by simpa using hi)
    rw[show k +1 +i=k +(i +1) by omega,this];rfl)]
   have:=hc 0 (by simp)
   rw[Nat.add_zero]at this
   rw[this];rfl
theorem vD{H:ae}{r o:Nat}{cs:List Value}(h:∀i x,cs[i]?=some x→H.cell r (o +i)=some x):H.read r o cs.length=some cs:=by
 cases cs with
 |nil=>rfl
 |cons x cs=>
  have hrow:∃R,H.obj r=.row R:=by
   have:=h 0 x rfl
   unfold ae.cell at this
   obtain⟨R,h1,_⟩:=ai this
   exact⟨R,jR h1⟩
  obtain⟨R,hR⟩:=hrow
  have hcell:∀i(hi:i<(x::cs).length),o +i<R.n∧R.cells.get top (o +i)=(x::cs)[i]:=by
   intro i hi
   have h1:=h i _ (List.getElem?_eq_getElem hi)
   unfold ae.cell at h1
   rw[hR]at h1
   replace h1:gd (Nat.ble (Nat.succ (o +i)) R.n) (some (R.cells.get top (o +i)))=some _:=h1
   obtain⟨h2,h3⟩:=aG h1
   exact⟨Nat.le_of_ble_eq_true h2,Option.some.inj h3⟩
  show(aj (kg (H.obj r)) fun w=>gd (Nat.ble (Nat.add o (cs.length +1)) w.n) (some (Tr.vK top w.cells o (cs.length +1))))=_
  rw[hR]
  show gd (Nat.ble (o +(cs.length +1)) R.n) (some (Tr.vK top R.cells o (cs.length +1)))=_
  have hl:=(hcell cs.length (by simp)).1
  rw[Nat.ble_eq_true_of_le aa,uz,PN R.cells (cs.length +1) o (x::cs) rfl fun i hi=>(hcell i hi).2]
theorem Fl.read{H:ae}{a:Option Addr}{n es k:Nat}{cs:List Value}(h:Fl H a n es cs)(he:0<es)(hk:k<n)(c:Nat):
 ∃r o,sS es (.slice a n c) (vn k)=some (.pointer (some ⟨r,o,none⟩))∧r<H.next∧H.read r o es=some (El cs es k)∧(El cs es k).length=es∧∃o0,a=some ⟨r,o0,none⟩∧o=o0 +k*es:=by
 obtain⟨r,o,h1,h2,h3,h4⟩:=h.idx (c:=c) he hk
 have hl:(El cs es k).length=es:=by
  unfold El
  have:(k +1)*es≤n*es:=Nat.mul_le_mul_right es hk
  rw[Nat.add_mul]at this
  have:=h.1
  simp;omega
 refine⟨r,o,h1,h2,?_,hl,h4⟩
 have:=vD (H:=H) (r:=r) (o:=o) (cs:=El cs es k) fun i x hx=>by
  rw[jv]at hx
  split at hx
  ·next hi=>exact h3 i x hi hx
  ·cases hx
 rwa [hl]at this
theorem sZ{H:ae}{a:Option Addr}{n es c:Nat}{cs:List Value}(h:Fl H a n es cs)(he:0<es):appended H es (.slice a n c)=some (n,cs):=by
 rcases Nat.eq_zero_or_pos n with rfl|hn
 ·have hc:cs=[]:=List.length_eq_zero_iff.1 (by have:=h.1;omega)
  subst hc
  cases a with
  |none=>rfl
  |some a=>
   show(aj (H.read a.block a.off (Nat.mul 0 es)) fun l=>some (0,l))=_
   rw[show Nat.mul 0 es=0 from Nat.zero_mul es];rfl
 ·have hl:0<cs.length:=by rw[h.1];exact Nat.mul_pos hn he
  obtain⟨r,o,rfl,_,_⟩:=h.2 0 _ (List.getElem?_eq_getElem hl)
  show(aj (H.read r o (Nat.mul n es)) fun l=>some (n,l))=_
  have h1:=vD (H:=H) (r:=r) (o:=o) (cs:=cs) fun i x hx=>by
   obtain⟨r',o',e,_,h5⟩:=h.2 i x hx
   cases e;exact h5
  rw[h.1]at h1
  rw[show Nat.mul n es=n*es from rfl,h1];rfl
theorem Cz{H:ae}{e:TypeId}{es n:Nat}{v x:Value}{xs:List Value}(hv:v=.slice none 0 0∨∃a,v=.slice (some a) 0 0)(ha:appended H es x=some (n,xs))(hn:n≤16777216):
 wh e es v x H=if n=0 then some (v,H)else some (.slice (some ⟨H.next,0,none⟩) n (aK es),H.new (rowOf e xs)):=by
 cases n with
 |zero=>
  rw[if_pos rfl]
  rcases hv with rfl|⟨a,rfl⟩
  ·unfold wh
   rw[ha]
   show gd (Nat.ble 0 16777216) (some (Value.slice none 0 0,H))=_
   rw[Nat.ble_eq_true_of_le aa];rfl
  ·unfold wh
   rw[ha]
   show gd (Nat.ble 0 16777216) (some (Value.slice (some a) 0 0,H))=_
   rw[Nat.ble_eq_true_of_le aa];rfl
 |succ k=>
  rw[if_neg aa]
  rcases hv with rfl|⟨a,rfl⟩
  ·exact Gb ha hn
  ·unfold wh
   rw[ha]
   show gd (Nat.ble (k +1) 16777216) (gd (Nat.ble 0 16777216) (av (aX 0) (mg (e,es) a 0 0 (k +1) xs H) (gd (Nat.beq 0 (aK es)) (jq (e,es) a 0 0 (k +1) xs H))))=_
   rw[Nat.ble_eq_true_of_le hn,Nat.ble_eq_true_of_le aa,show aX 0=true from rfl]
   show mg (e,es) a 0 0 (k +1) xs H=_
   unfold mg
   have e1:Nat.ble (Nat.add 0 (k +1)) 0=false:=by
    rw[←Bool.not_eq_true];intro h;have:=Nat.le_of_ble_eq_true h;have e:Nat.add 0 (k +1)=k +1:=Nat.zero_add _;omega
   have e2:Nat.add 0 (k +1)=k +1:=Nat.zero_add _
   have e3:Nat.mul 0 es=0:=Nat.zero_mul es
   rw[e1,bR]
   show(aj (H.read a.block a.off (Nat.mul 0 es)) fun old=>some (pG e es (Nat.add 0 (k +1)) (app old xs) H))=_
   rw[e3,e2]
   rfl
section steps
variable{H0 H:ae}{L:List aC}{K:Value→ae→Prop}{ty:TypeId}{es n:Nat}{v x:Value}{cs xs:List Value}{gb:List aC}
end steps
theorem tq{r o n es w:Nat}(h:w≤n):WT es (.slice (some ⟨r,o,none⟩) n (aK es)) none (some (vn w)) none=some (.slice (some ⟨r,o,none⟩) w (aK es)):=by
 show av (aX (aK es)) _ (gd (Nat.beq (aK es) (aK es)) (gd (Nat.ble 0 w&&Nat.ble w n) (some (Value.slice (some ⟨r,Nat.add o (Nat.mul 0 es),none⟩) (Nat.sub w 0) (aK es)))))=_
 rw[p9,bR,Nat.beq_refl,Nat.ble_eq_true_of_le (Nat.zero_le _),Nat.ble_eq_true_of_le h,show Nat.mul 0 es=0 from Nat.zero_mul es];rfl
theorem Tm{r o n es w:Nat}(h:w≤n):WT es (.slice (some ⟨r,o,none⟩) n (aK es)) (some (vn w)) none none=some (.slice (some ⟨r,o +w*es,none⟩) (n -w) (aK es)):=by
 show av (aX (aK es)) _ (gd (Nat.beq (aK es) (aK es)) (gd (Nat.ble w n&&Nat.ble n n) (some (Value.slice (some ⟨r,Nat.add o (Nat.mul w es),none⟩) (Nat.sub n w) (aK es)))))=_
 rw[p9,bR,Nat.beq_refl,Nat.ble_eq_true_of_le (Nat.le_refl _),Nat.ble_eq_true_of_le h];rfl
theorem NL{es:Nat}:WT es (.slice none 0 0) none (some (vn 0)) none=some (.slice none 0 0):=rfl
theorem GB.cut{H0 H:ae}{L:List aC}{ty:TypeId}{es w:Nat}{v:Value}{cs:List Value}{gb:List aC}(hg:GB ty es v cs gb)(he:0<es)(hw:w*es≤cs.length){K:Value→Prop}(k:∀v',GB ty es v' (cs.take (w*es)) gb→K v'):PU (WT es v none (some (vn w)) none) K:=by
 rcases hg with⟨rfl,rfl,rfl⟩|⟨r,n,aF,rfl,hn,rfl⟩
 ·have:w=0:=by
   rcases Nat.eq_zero_or_pos w with h|h
   ·exact h
   ·have:=Nat.mul_pos h he
    have h2:w*es≤0:=hw
    omega
  subst this
  rw[NL]
  exact k _ (.inl ⟨rfl,by simp,rfl⟩)
 ·have hwn:w≤n:=by rw[hn]at hw;exact Nat.le_of_mul_le_mul_right hw he
  rw[tq hwn]
  refine k _ (.inr ⟨r,w,cs.drop (w*es)++aF,rfl,?_,?_⟩)
  ·simp;omega
  ·rw[←List.append_assoc,List.take_append_drop]
section bin
variable{P:Program}{t:TypeId}{ox:Operand}
theorem tu{a:Option Addr}{n c:Nat}(ht:yH P t=2):eF P .eql t ox (.const (.slice none 0 0)) (.slice a n c) (.slice none 0 0)=some (.bool (aD a)):=by
 show vk .eql (En (yH P t) (.slice none 0 0) (.slice a n c))=_
 rw[ht];rfl
end bin
theorem aag{e:TypeId}{z:List Value}{es:Nat}{H:ae}(he:es≤16777216):bS e z es 0 [] H=some (.slice (some ⟨H.next,0,none⟩) 0 0,H.new (rowOf e [])):=by
 unfold bS
 rw[show Nat.mul 0 es=0 from Nat.zero_mul es,Nat.ble_eq_true_of_le (Nat.zero_le _)];rfl
end
def Tn(w:World)(o:dh)(r:Nat):Prop:=o=.dead∨∃(R:Row)(cs:Array Value)(fr:Nat×Nat),o=.row R∧w.heap[r]?=some (.cells cs R.ty fr)∧R.dA=true∧R.n≤cs.size∧∀i,i<R.n→∃v,cs[i]?=some v∧(R.cells.get top i=top∨(eU v=true∧R.cells.get top i=v))
theorem abC{w:World}{H:ae}(h:H.next≤w.heap.size)(ht:∀r,r<H.next→Tn w (H.obj r) r):RH (vZ w H) H w:=by
 refine⟨?_,?_,?_⟩
 ·intro r l hr
  unfold vZ at hr
  split at hr
  ·next h1=>exact h1
  ·cases hr
 ·intro r l hr
  unfold vZ at hr
  split at hr
  ·next h1=>
   cases hr
   refine⟨w.heap[r]'aa,Array.getElem?_eq_getElem (i:=r) aa,?_⟩
   rcases ht r h1 with h2|⟨R,cs,fr,h2,h3,hse,hle,h4⟩
   ·rw[h2];trivial
   ·have hcn:sP w r=cs.size:=by unfold sP;rw[h3]
    have hget:w.heap[r]'aa=.cells cs R.ty fr:=by
     have:=Array.getElem?_eq_getElem (xs:=w.heap) (i:=r) aa
     rw[h3]at this;injection this with this;exact this.symm
    rw[hget,h2]
    refine⟨⟨rfl,rfl⟩,rfl,hcn.symm,Nat.zero_le _,?_,?_,?_⟩
    ·show 0 +(R.n -0)≤sP w r
     rw[hcn];omega
    ·rw[hse];intro h;cases h
    ·intro i _ hi
     obtain⟨v,h5,h6⟩:=h4 i hi
     refine⟨v,by simpa using h5,?_⟩
     rcases h6 with h6|⟨h6,h7⟩
     ·rw[h6];exact .top _
     ·rw[h7];exact .sc _ h6
  ·cases hr
 ·intro r r' l l' hr hr' _ _ hc
  unfold vZ at hr hr'
  split at hr
  ·split at hr'
   ·cases hr;cases hr';exact hc
   ·cases hr'
  ·cases hr
section mem
variable{P:Program}
theorem PO{X:Xt}{H:ae}{n:Nat}(hn:n≤H.next)(hmo:P.follows .mixedOrders=true)(hP:pW P n)(hX:QM P X)(hO:yX P X n){g:FuncId}{fn:Func}(hg:P.funcs[g]?=some fn)(hb:fn.body.isSome=true)
 {args:List Value}{b:Bool}(h:ak P X g args H fun v H'=>v=.bool b∧H.next≤H'.low){w:World}(hw:H.next≤w.heap.size)
 (ht:∀r,r<H.next→Tn w (H.obj r) r){args':List Value}(ha:dF (vZ w H) args args'):
 Calls P g ⟨args'⟩ w fun e w'=>e=.returned (.bool b)∧Go.RowKit.Below w.heap.size w w':=by
 obtain⟨v,H',⟨k,h⟩,rfl,hlow⟩:=h
 refine(levels hmo hP hX hO k g args _ _ H' fn h hg hb (vZ w H) w args' (abC hw ht) (fun g hg=>Nt w H g aa) ha).mono ?_
 rintro e w' ⟨m',v',rfl,h1,h2,h3⟩
 rw[h1.of_bool]
 refine⟨rfl,⟨h3.os,h3.tape,h3.output,h3.size,fun c hc=>h3.keep c hc ?_⟩⟩
 intro r l hr _
 unfold vZ at hr
 split at hr
 ·next h4=>exact Nat.lt_of_lt_of_le h4 hlow
 ·cases hr
def Jb(v:Value):Value:=if eU v=true then v else top
def aah:Obj→dh
 |.cells cs ty _=>.row ⟨ty,Tr.jG top (cs.toList.map Jb) 0 .nil,cs.size,true,0⟩
 |_=>.dead
def WY(w:World)(T:Nat→Option dh)(r:Nat):dh:=(T r).getD (match w.heap[r]? with|some o=>aah o|none=>.dead)
def Lr(w:World)(T:Nat→Option dh):ae:=⟨Tr.jG .dead ((List.range w.heap.size).map (WY w T)) 0 .nil,w.heap.size,w.heap.size⟩
theorem Jc(w:World)(T:Nat→Option dh){r:Nat}(h:r<w.heap.size):(Lr w T).obj r=WY w T r:=by
 show(Tr.jG .dead ((List.range w.heap.size).map (WY w T)) 0 .nil).get .dead r=_
 rw[Tr.dW,if_pos (by simp;omega),List.getD_eq_getElem?_getD]
 simp[h]
theorem WZ{w:World}{T:Nat→Option dh}(hT:∀r o,T r=some o→Tn w o r):∀r,r<(Lr w T).next→Tn w ((Lr w T).obj r) r:=by
 intro r hr
 replace hr:r<w.heap.size:=hr
 rw[Jc w T hr]
 unfold WY
 cases hc:T r with
 |some o=>exact hT r o hc
 |none=>
  rw[Array.getElem?_eq_getElem hr]
  show Tn w (aah _) r
  cases ho:w.heap[r]with
  |cells cs ty fr=>
   refine .inr ⟨_,cs,fr,rfl,by rw[Array.getElem?_eq_getElem hr,ho],rfl,Nat.le_refl _,fun i hi=>?_⟩
   replace hi:i<cs.size:=hi
   refine⟨cs[i],Array.getElem?_eq_getElem hi,?_⟩
   show(Tr.jG top (cs.toList.map Jb) 0 .nil).get top i=top∨_
   have e:(Tr.jG top (cs.toList.map Jb) 0 .nil).get top i=Jb cs[i]:=by
    rw[Tr.dW,if_pos (by simp;omega),List.getD_eq_getElem?_getD]
    simp[hi]
   show(Tr.jG top (cs.toList.map Jb) 0 .nil).get top i=top∨(eU cs[i]=true∧(Tr.jG top (cs.toList.map Jb) 0 .nil).get top i=cs[i])
   rw[e]
   unfold Jb
   split
   ·next h=>exact .inr ⟨h,rfl⟩
   ·exact .inl rfl
  |_=>exact .inl rfl
end mem
section
variable{S:List Nat}
def GK(ty:TypeId)(es:Nat)(v:Value)(cs:List Value)(gb:List aC):Prop:=
 GB ty es v cs gb∨∃r n m aF,v=.slice (some ⟨r,0,none⟩) n m∧m≤16777216∧cs.length=n*es∧(cs++aF).length=m*es∧gb=[(r,ty,cs++aF)]
theorem CB{m:Nat}(h:m≤16777216):aX m=true:=Nat.ble_eq_true_of_le aa
section steps
variable{H0 H:ae}{L:List aC}{K:Value→ae→Prop}{ty:TypeId}{es:Nat}{v:Value}{cs xs:List Value}{gb:List aC}{rx:Nat}
theorem GK.app(hg:GK ty es v cs gb)(hS:SH S H0 H ((rx,ty,xs)::(gb++L))){m:Nat}(he:0<es)(hx:xs.length=(m +1)*es)(hok:all' aR xs=true)(hm:m +1≤16777216)(hc:cs.length≤16777216){cx:Nat}:
 ∃v' H1 bJ,wh ty es v (.slice (some ⟨rx,0,none⟩) (m +1) cx) H=some (v',H1)∧GK ty es v' (cs++xs) bJ∧SH S H0 H1 (bJ++L)∧kP (gb.map (·.1)) H H1:=by
 rcases hg with hg|⟨r,n,mm,aF,rfl,hmm,hn,hj,rfl⟩
 ·obtain⟨v',H1,bJ,h1,h2,h3,h4⟩:=hg.app (cx:=cx) hS he hx hok hm hc
  exact⟨v',H1,bJ,h1,.inl h2,h3,h4⟩
 have hbx:=hS.get 0 rfl
 have ha:=sV (k:=m +1) (c:=cx) hbx hx
 have hS1:SH S H0 H ([(r,ty,cs++aF)]++L):=SH.drop (A:=[(rx,ty,xs)]) hS
 have hb:=hS1.get 0 rfl
 have hnn:n≤16777216:=by
  have:n*1≤n*es:=Nat.mul_le_mul_left n he
  omega
 have hap:wh ty es (.slice (some ⟨r,0,none⟩) n mm) (.slice (some ⟨rx,0,none⟩) (m +1) cx) H=mg (ty,es) ⟨r,0,none⟩ n mm (m +1) xs H:=by
  unfold wh
  rw[ha]
  show gd (Nat.ble (m +1) 16777216) (gd (Nat.ble n 16777216) (av (aX mm) (mg (ty,es) ⟨r,0,none⟩ n mm (m +1) xs H) _))=_
  rw[Nat.ble_eq_true_of_le hm,Nat.ble_eq_true_of_le hnn,CB hmm];rfl
 rw[hap]
 unfold mg
 show∃v' H1 bJ,av (Nat.ble (n +(m +1)) mm) (aj (H.write r (Nat.add 0 (n*es)) xs) fun H'=>some (Value.slice (some ⟨r,0,none⟩) (n +(m +1)) mm,H')) (aj (H.read r 0 (n*es)) fun old=>some (pG ty es (n +(m +1)) (Go.Ae.app old xs) H))=some (v',H1)∧_
 rw[show Nat.add 0 (n*es)=n*es from Nat.zero_add _]
 have hmul:(n +(m +1))*es=n*es +(m +1)*es:=Nat.add_mul ..
 by_cases hfit:n +(m +1)≤mm
 ·rw[Nat.ble_eq_true_of_le hfit,gm]
  have hle:(n +(m +1))*es≤mm*es:=Nat.mul_le_mul_right es hfit
  obtain⟨H1,h1,h2,h3⟩:=hS1.qP (vs:=xs) (o:=n*es) 0 rfl aa hok
  rw[h1]
  have hs:splice (cs++aF) (n*es) xs=cs++xs++aF.drop xs.length:=by
   unfold splice
   rw[←hn,List.take_left,List.drop_append,List.drop_of_length_le aa,List.nil_append,Nat.add_sub_cancel_left]
  rw[hs]at h2
  refine⟨_,H1,[(r,ty,cs++xs++aF.drop xs.length)],rfl,.inr ⟨r,n +(m +1),mm,aF.drop xs.length,rfl,hmm,?_,?_,rfl⟩,h2,h3⟩
  ·rw[List.length_append,hn,hx,hmul]
  ·rw[←hs,eH aa];exact hj
 ·rw[show Nat.ble (n +(m +1)) mm=false from by rw[←Bool.not_eq_true];intro h;exact hfit (Nat.le_of_ble_eq_true h),bR]
  have hrd:H.read r 0 (n*es)=some cs:=by
   rw[hb.read (by simp;omega)]
   simp only[List.drop_zero]
   rw[←hn,List.take_left]
  rw[hrd]
  show∃v' H1 bJ,some (pG ty es (n +(m +1)) (Go.Ae.app cs xs) H)=some (v',H1)∧_
  rw[jd]
  refine⟨_,_,[(H.next,ty,cs++xs)],rfl,.inl (.inr ⟨H.next,n +(m +1),[],rfl,?_,by simp⟩),?_,(Ext.new _ _).weaken (fun _ h=>nomatch h)⟩
  ·rw[List.length_append,hn,hx,hmul]
  ·exact(SH.drop (A:=[(r,ty,cs++aF)]) hS1).grow ty (cs++xs)
theorem GK.fl(hg:GK ty es v cs gb)(hS:SH S H0 H (gb++L)):∃a n c,v=.slice a n c∧cs.length=n*es∧Fl H a n es cs:=by
 rcases hg with hg|⟨r,n,m,aF,rfl,hmm,hn,hj,rfl⟩
 ·exact hg.fl hS
 ·refine⟨_,n,_,rfl,hn,hn,fun i x hi=>⟨r,0,rfl,(hS.lo _ (List.mem_cons_self ..)).2,?_⟩⟩
  rw[Nat.zero_add]
  refine(hS.get 0 rfl).cell ?_
  rw[List.getElem?_append_left (List.getElem?_eq_some_iff.1 hi).1];exact hi
end steps
end
theorem PP:type_of%(J @xQ<|J @dY<|J @Ny<|J @Nz<|J @NC<|J @ND<|J @I8<|J @xK<|J @I4<|J @xL<|J @iZ<|J @I5<|J @I6<|J @ER<|J @ES<|J @I7<|J @Ck<|J @IY<|J @EM<|J @dH<|J @min2<|J @max2<|J @nH<|J @NG<|J @NH<|J @IQ<|J @IU<|J @Nv<|J @IV<|J @Nw<|J @IW<|J @IZ<|J @I1<|J @NA<|J @lQ<|J @qR<|J @uQ<|J @Ja<|J @xM<|J @Cr<|J @Cs<|J @zR<|J @zS<|J @zT<|J @Cu<|J @Cv<|J @zU<|J @zV<|J @zW<|J @zX<|J @xN<|J @zY<|J @xO<|J @zZ<|J @xP<|J @aad<|J (@List.getElem?_cons_zero Value)<|J (@List.getElem?_cons_succ Value)<|J @Nat.zero_add<|J @Nat.add_zero<|J (@List.set_cons_zero aC) (@List.set_cons_succ aC)):=J @xQ<|J @dY<|J @Ny<|J @Nz<|J @NC<|J @ND<|J @I8<|J @xK<|J @I4<|J @xL<|J @iZ<|J @I5<|J @I6<|J @ER<|J @ES<|J @I7<|J @Ck<|J @IY<|J @EM<|J @dH<|J @min2<|J @max2<|J @nH<|J @NG<|J @NH<|J @IQ<|J @IU<|J @Nv<|J @IV<|J @Nw<|J @IW<|J @IZ<|J @I1<|J @NA<|J @lQ<|J @qR<|J @uQ<|J @Ja<|J @xM<|J @Cr<|J @Cs<|J @zR<|J @zS<|J @zT<|J @Cu<|J @Cv<|J @zU<|J @zV<|J @zW<|J @zX<|J @xN<|J @zY<|J @xO<|J @zZ<|J @xP<|J @aad<|J (@List.getElem?_cons_zero Value)<|J (@List.getElem?_cons_succ Value)<|J @Nat.zero_add<|J @Nat.add_zero<|J (@List.set_cons_zero aC) (@List.set_cons_succ aC)
class CE (L:List aC) (r:Nat) (ty:outParam TypeId) (cs:outParam (List Value)):Prop where
 at':∃i:Nat,L[i]?=some ((r,ty,cs):aC)
instance CE.there{r:Nat}{ty:TypeId}{cs:List Value}{b:aC}{L:List aC}[h:CE L r ty cs]:CE (b::L) r ty cs:=⟨let⟨i,hi⟩:=h.at';⟨i +1,hi⟩⟩
instance CE.here{r:Nat}{ty:TypeId}{cs:List Value}{L:List aC}:CE ((r,ty,cs)::L) r ty cs:=⟨⟨0,rfl⟩⟩
class Gd (L:List aC) (r:Nat) (F:List Value→List Value) (ty:outParam TypeId) (cs:outParam (List Value)) (L':outParam (List aC)):Prop where
 at':∃i:Nat,L[i]?=some ((r,ty,cs):aC)∧L'=L.set i (r,ty,F cs)
instance Gd.there{r:Nat}{F:List Value→List Value}{ty:TypeId}{cs:List Value}{b:aC}{L L':List aC}[h:Gd L r F ty cs L']:Gd (b::L) r F ty cs (b::L'):=⟨let⟨i,hi,e⟩:=h.at';⟨i +1,hi,by rw[e];rfl⟩⟩
instance Gd.here{r:Nat}{F:List Value→List Value}{ty:TypeId}{cs:List Value}{L:List aC}:Gd ((r,ty,cs)::L) r F ty cs ((r,ty,F cs)::L):=⟨⟨0,rfl,rfl⟩⟩
section steps
variable{S:List Nat}{H0 H:ae}{L L':List aC}{K:Value→ae→Prop}{r o n:Nat}{ty:TypeId}{cs:List Value}{v:Value}
theorem SH.a_(hS:SH S H0 H L)[hb:CE L r ty cs](k:K v H)(hv:cs[o]?=some v:=by rfl):ME (lM none (.pointer (some ⟨r,o,none⟩)) H) K:=let⟨i,hi⟩:=hb.at';hS.ld i hi hv k
theorem SH.bL(hS:SH S H0 H L)[hb:CE L r ty cs](k:K (.agg ⟨(cs.drop o).take n⟩) H)(hn:o +n≤cs.length:=by exact Nat.le_of_ble_eq_true rfl):ME (lM (some n) (.pointer (some ⟨r,o,none⟩)) H) K:=let⟨i,hi⟩:=hb.at';hS.mU i hi hn k
theorem SH.iG(hS:SH S H0 H L)[hb:CE L r ty cs](k:K v (Go.Ae.hN H))(hv:cs[o]?=some v:=by rfl):ME (lM none (.pointer (some ⟨r,o,none⟩)) (Go.Ae.hN H)) K:=let⟨i,hi⟩:=hb.at';hS.vC i hi hv k
theorem SH.mW(hS:SH S H0 H L)[hb:CE L r ty cs](k:K (.agg ⟨(cs.drop o).take n⟩) (Go.Ae.hN H))(hn:o +n≤cs.length:=by exact Nat.le_of_ble_eq_true rfl):ME (lM (some n) (.pointer (some ⟨r,o,none⟩)) (Go.Ae.hN H)) K:=let⟨i,hi⟩:=hb.at';hS.PL i hi hn k
theorem SH.iB(hS:SH S H0 H L)[hb:Gd L r (fun cs=>splice cs o (ax v)) ty cs L'](k:∀H1,SH S H0 H1 L'→K undef H1)(hl:(ax v).length=n:=by rfl)(hn:o +n≤cs.length:=by exact Nat.le_of_ble_eq_true rfl)(hk:all' aR (ax v)=true:=by rfl):ME (yB n (.pointer (some ⟨r,o,none⟩)) v H) K:=by
 obtain⟨i,hi,e⟩:=hb.at'
 subst e
 exact hS.st i hi hl hn hk k
end steps
section agg
variable{q:Option Value}{K:Value→Prop}{a b c d e f g h i:Value}
theorem PU.b1(hq:q=some (.agg ⟨[a]⟩))(k:K (.agg ⟨[a]⟩)):PU q K:=.of hq k
theorem PU.b2(hq:q=some (.agg ⟨[a,b]⟩))(k:K (.agg ⟨[a,b]⟩)):PU q K:=.of hq k
theorem PU.b3(hq:q=some (.agg ⟨[a,b,c]⟩))(k:K (.agg ⟨[a,b,c]⟩)):PU q K:=.of hq k
theorem PU.b4(hq:q=some (.agg ⟨[a,b,c,d]⟩))(k:K (.agg ⟨[a,b,c,d]⟩)):PU q K:=.of hq k
theorem PU.b5(hq:q=some (.agg ⟨[a,b,c,d,e]⟩))(k:K (.agg ⟨[a,b,c,d,e]⟩)):PU q K:=.of hq k
theorem PU.b6(hq:q=some (.agg ⟨[a,b,c,d,e,f]⟩))(k:K (.agg ⟨[a,b,c,d,e,f]⟩)):PU q K:=.of hq k
theorem PU.b7(hq:q=some (.agg ⟨[a,b,c,d,e,f,g]⟩))(k:K (.agg ⟨[a,b,c,d,e,f,g]⟩)):PU q K:=.of hq k
theorem PU.b8(hq:q=some (.agg ⟨[a,b,c,d,e,f,g,h]⟩))(k:K (.agg ⟨[a,b,c,d,e,f,g,h]⟩)):PU q K:=.of hq k
theorem PU.b9(hq:q=some (.agg ⟨[a,b,c,d,e,f,g,h,i]⟩))(k:K (.agg ⟨[a,b,c,d,e,f,g,h,i]⟩)):PU q K:=.of hq k
end agg
def qA(H:ae)(r:Nat)(ty:TypeId):Prop:=∃R,H.obj r=.row R∧R.ty=ty
theorem qA.one{H:ae}{r:Nat}{ty ty':TypeId}(h:qA H r ty)(h':qA H r ty'):ty=ty':=by
 obtain⟨R,h1,h2⟩:=h
 obtain⟨R',h3,h4⟩:=h'
 rw[h1]at h3;cases h3
 rw[←h2,←h4]
theorem Bk.QS{H:ae}{r:Nat}{ty:TypeId}{cs:List Value}(h:Bk H r ty cs):qA H r ty:=by
 obtain⟨R,h1,h2,_⟩:=h
 exact⟨R,h1,h2⟩
theorem qA.dL{H H':ae}{r:Nat}{ty:TypeId}(h:qA H r ty)(e:H'.obj r=H.obj r):qA H' r ty:=by
 obtain⟨R,h1,h2⟩:=h
 exact⟨R,e.trans h1,h2⟩
def eO(F:Nat→Prop)(ty:TypeId)(H:ae)(a:Option Addr)(n es:Nat)(cs:List Value):Prop:=Fl H a n es cs∧∀r o,a=some ⟨r,o,none⟩→0<n→F r∧r<H.next∧qA H r ty
theorem eO.nil(F:Nat→Prop)(ty:TypeId)(H:ae)(a:Option Addr)(es:Nat):eO F ty H a 0 es []:=⟨Fl.nil _ _ _,fun _ _ _ h=>absurd h aa⟩
theorem eO.stay{S:List Nat}{F:Nat→Prop}{es n:Nat}{ty:TypeId}{a:Option Addr}{H H':ae}{cs:List Value}(h:eO F ty H a n es cs)(hx:kP S H H')(hS:∀q∈S,¬F q∨¬qA H q ty):eO F ty H' a n es cs:=by
 obtain⟨h1,h2⟩:=h
 have key:∀r o,a=some ⟨r,o,none⟩→0<n→r∉S:=fun r o e hn hr=>by
  obtain⟨h3,_,h4⟩:=h2 r o e hn
  rcases hS r hr with h5|h5
  ·exact h5 h3
  ·exact h5 h4
 rcases Nat.eq_zero_or_pos n with rfl|hn
 ·have:cs=[]:=List.length_eq_zero_iff.1 (by have:=h1.1;omega)
  subst this;exact eO.nil _ _ _ _ _
 ·refine⟨h1.ext hx fun r o e=>key r o e hn,fun r o e _=>?_⟩
  obtain⟨h3,h4,h5⟩:=h2 r o e hn
  exact⟨h3,Nat.lt_of_lt_of_le h4 hx.next,h5.dL (hx.obj r h4 (key r o e hn))⟩
theorem eO.ex{F:Nat→Prop}{es n:Nat}{ty:TypeId}{a:Option Addr}{H H':ae}{cs:List Value}(h:eO F ty H a n es cs)(hx:Ext H H'):eO F ty H' a n es cs:=h.stay hx (fun q h=>nomatch h)
theorem eO.wk{F F':Nat→Prop}{es n:Nat}{ty:TypeId}{a:Option Addr}{H:ae}{cs:List Value}(h:eO F ty H a n es cs)(hb:∀r,F r→F' r):eO F' ty H a n es cs:=⟨h.1,fun r o e hn=>⟨hb _ (h.2 r o e hn).1,(h.2 r o e hn).2⟩⟩
theorem eO.le{b b' es n:Nat}{ty:TypeId}{a:Option Addr}{H:ae}{cs:List Value}(h:eO (b≤·) ty H a n es cs)(hb:b'≤b):eO (b'≤·) ty H a n es cs:=h.wk fun _ h=>Nat.le_trans hb h
theorem SH.PR{S:List Nat}{H0 H:ae}{L:List aC}(hS:SH S H0 H L){ty:TypeId}(h:L.all (fun e=>!(e.2.1==ty))=true):∀q∈L.map (·.1),¬qA H q ty:=fun q hq ht=>by
 obtain⟨e,he,rfl⟩:=List.mem_map.1 hq
 have h1:=(hS.bk e he).QS.one ht
 have h2:=List.all_eq_true.1 h e he
 simp[h1]at h2
theorem GB.W9{S:List Nat}{H0 H:ae}{L:List aC}{F:Nat→Prop}{ty:TypeId}{es:Nat}{v:Value}{cs:List Value}{gb:List aC}(hg:GB ty es v cs gb)(hS:SH S H0 H (gb++L))(hF:∀e∈gb,F e.1):∃a n c,v=.slice a n c∧cs.length=n*es∧eO F ty H a n es cs:=by
 rcases hg with⟨rfl,rfl,rfl⟩|⟨r,n,aF,rfl,hn,rfl⟩
 ·exact⟨none,0,0,rfl,by simp,eO.nil _ _ _ _ _⟩
 ·refine⟨_,n,_,rfl,hn,⟨hn,fun i x hi=>⟨r,0,rfl,(hS.lo _ (List.mem_cons_self ..)).2,?_⟩⟩,fun r' o e _=>?_⟩
  ·rw[Nat.zero_add]
   refine(hS.get 0 rfl).cell ?_
   rw[List.getElem?_append_left (List.getElem?_eq_some_iff.1 hi).1];exact hi
  ·cases e
   exact⟨hF _ (List.mem_cons_self ..),(hS.lo _ (List.mem_cons_self ..)).2,(hS.get 0 rfl).QS⟩
theorem GB.QT{H0 H:ae}{L:List aC}{ty:TypeId}{es:Nat}{v:Value}{cs:List Value}{gb:List aC}(hg:GB ty es v cs gb)(hS:SH [] H0 H (gb++L)):∃a n c,v=.slice a n c∧cs.length=n*es∧eO (H0.next≤·) ty H a n es cs:=
 hg.W9 hS fun e he=>hS.wm (List.mem_append_left _ he)
theorem GB.all{ty ty':TypeId}{es:Nat}{v:Value}{cs:List Value}{gb:List aC}(hg:GB ty es v cs gb)(h:(ty==ty')=false):gb.all (fun e=>!(e.2.1==ty'))=true:=by
 rcases hg with⟨_,_,rfl⟩|⟨r,n,aF,_,_,rfl⟩
 ·rfl
 ·simp at h;simp[h]
section steps
variable{S:List Nat}{H0 H:ae}{L L':List aC}{K:Value→ae→Prop}{r o n:Nat}{ty:TypeId}{cs:List Value}{v:Value}
theorem SH.qf(hS:SH S H0 H L)[hb:Gd L r (fun cs=>splice cs o (ax v)) ty cs L'](k:∀H1,SH S H0 (hM H H1) L'→K undef H1)(hl:(ax v).length=n:=by rfl)(hn:o +n≤cs.length:=by exact Nat.le_of_ble_eq_true rfl)(hk:all' aR (ax v)=true:=by rfl):ME (yB n (.pointer (some ⟨r,o,none⟩)) v (Go.Ae.hN H)) K:=by
 obtain⟨i,hi,e⟩:=hb.at'
 subst e
 obtain⟨H1,h1,h2,hx⟩:=(SH.mV hS).qP (vs:=ax v) (o:=o) i hi aa hk
 show ME (gd (Nat.beq (len (ax v)) n) (aj ((Go.Ae.hN H).write r o (ax v)) fun H'=>some (undef,H'))) K
 rw[aM,hl,Nat.beq_refl,h1]
 refine k H1 ?_
 have hm:hM H H1=hM H H1:=rfl
 exact⟨kP.later hS.ext hx.draw (fun q hq=>by
  simp at hq;subst hq
  exact(hS.lo _ (List.mem_of_getElem? hi)).1),h2.bk,fun e he=>⟨(h2.lo e he).1,(h2.lo e he).2⟩,h2.ne,hx.draw.wf hS.wf⟩
end steps
theorem SH.Ls{S:List Nat}{H0 H:ae}{L:List aC}{K:Value→ae→Prop}{ty:TypeId}{es n:Nat}{v:Value}{xs:List Value}(hS:SH S H0 H L)(he:0<es)(hv:v=.slice none 0 0∨∃a,v=.slice (some a) 0 0){a:Option Addr}{c:Nat}(hx:Fl H a n es xs)(hn:n≤16777216)
 (k:∀a' c' H1 L',eO (H.next≤·) ty H1 a' n es xs→SH S H0 H1 (L'++L)→K (.slice a' n c') H1):ME (wh ty es v (.slice a n c) H) K:=by
 rw[Cz hv (sZ hx he) hn]
 split
 ·next h0=>
  subst h0
  have hc:xs=[]:=List.length_eq_zero_iff.1 (by have:=hx.1;omega)
  subst hc
  rcases hv with rfl|⟨a,rfl⟩
  ·exact k none 0 H [] (eO.nil _ _ _ _ _) hS
  ·exact k (some a) 0 H [] (eO.nil _ _ _ _ _) hS
 ·next h0=>
  have hb:=Bk.new H ty xs
  exact k _ _ _ [(H.next,ty,xs)] ⟨hb.fl (Nat.lt_succ_self _) hx.1,fun r o e _=>by cases e;exact⟨Nat.le_refl _,Nat.lt_succ_self _,hb.QS⟩⟩ (hS.grow ty xs)
theorem SH.own{S:List Nat}{H0 H:ae}{M L:List aC}(hS:SH S H0 H (M++L)):SH (M.map (·.1)) H H M:=(hS.sub (List.sublist_append_left M L)).base
theorem SH.frame{S:List Nat}{H0 H H':ae}{M M' L:List aC}(hS:SH S H0 H (M++L))(h:SH (M.map (·.1)) H H' M'):SH S H0 H' (M'++L):=
 hS.turn h.ext (fun e he=>⟨h.bk e he,h.lo e he⟩) h.ne
theorem ET(x:aC)(L:List aC):(x::(L++[])).Perm (L++[x]):=by rw[List.append_nil];exact List.perm_append_comm (l₁:=[x])
theorem abD(x y z:aC)(L:List aC):(x::y::z::(L++[])).Perm (L++[x,y,z]):=by rw[List.append_nil];exact List.perm_append_comm (l₁:=[x,y,z])
theorem jw{ops:Array Oper}{cls:List Cl}{K:Prop}(h:noTwo cls=true)(k:K):bO ops cls=true∧K:=⟨zQ h,k⟩
def Np(R:List Int→Prop)(r:Nat)(ty:TypeId)(n:Nat)(H0 H:ae)(L:List aC):Prop:=∃cs vs,cs.length=n∧R cs∧SH [] H0 H ((r,ty,cs.map vi++vs)::L)
def Rn(R:List Int→Prop)(z x:Int)(cs:List Int):Prop:=R cs∧cs[z.toNat]?=some x
def Wn(R:List Int→Prop)(z x:Int)(cs:List Int):Prop:=∃c,R c∧cs=c.set z.toNat x
def Pn(c0 cs:List Int):Prop:=cs.Perm c0
class Bn (R:List Int→Prop) (c0:outParam (List Int)):Prop where
 h:∀cs,R cs→Pn c0 cs
instance Bn.s{c0:List Int}:Bn (Pn c0) c0:=⟨fun _ h=>h⟩
instance Bn.r{R:List Int→Prop}{z x:Int}{c0:List Int}[b:Bn R c0]:Bn (Rn R z x) c0:=⟨fun _ h=>b.h _ h.1⟩
theorem EU{c:List Int}{i j:Nat}{x y:Int}(hi:c[i]?=some x)(hj:c[j]?=some y):((c.set i y).set j x).Perm c:=by
 obtain⟨h1,rfl⟩:=List.getElem?_eq_some_iff.1 hi
 obtain⟨h2,rfl⟩:=List.getElem?_eq_some_iff.1 hj
 exact List.set_set_perm h1 h2
instance Bn.w{R:List Int→Prop}{c0:List Int}{p q x y:Int}[b:Bn R c0]:Bn (Wn (Wn (Rn (Rn R p x) q y) p y) q x) c0:=⟨fun _ ⟨_,⟨_,h,e⟩,e2⟩=>by
 subst e e2;exact(EU h.1.2 h.2).trans (b.h _ h.1.1)⟩
instance Bn.w'{R:List Int→Prop}{c0:List Int}{p q x y:Int}[b:Bn R c0]:Bn (Wn (Wn (Rn (Rn R p x) q y) q x) p y) c0:=⟨fun _ ⟨_,⟨_,h,e⟩,e2⟩=>by
 subst e e2;exact(EU h.2 h.1.2).trans (b.h _ h.1.1)⟩
section steps
variable{R R':List Int→Prop}{r:Nat}{ty:TypeId}{n:Nat}{H0 H:ae}{L:List aC}{K:Value→ae→Prop}
theorem Np.mono(h:Np R r ty n H0 H L)(hr:∀c,c.length=n→R c→R' c):Np R' r ty n H0 H L:=by obtain⟨cs,vs,h1,h2,hS⟩:=h;exact⟨cs,vs,h1,hr _ h1 h2,hS⟩
theorem Np.bk{c0:List Int}[b:Bn R c0](h:Np R r ty n H0 H L):Np (Pn c0) r ty n H0 H L:=h.mono fun c _=>b.h c
theorem Np.wf(h:Np R r ty n H0 H L):Wf H:=by obtain⟨_,_,_,_,hS⟩:=h;exact hS.wf
theorem Np.ext(h:Np R r ty n H0 H L):Ext H0 H:=by obtain⟨_,_,_,_,hS⟩:=h;exact hS.ext
theorem Np.new(h:Np R r ty n H0 H L){t2:TypeId}{z:List Value}(k:∀H1 q,Np R r ty n H0 H1 ((q,t2,z)::L)→K (.pointer (some ⟨q,0,none⟩)) H1):ME (bZ t2 z H) K:=by
 obtain⟨cs,vs,h1,h2,hS⟩:=h
 exact hS.bZ fun H1 q hS=>k H1 q ⟨cs,vs,h1,h2,hS.perm (List.Perm.swap _ _ _)⟩
theorem Np.ld(h:Np R r ty n H0 H L)(i:Nat){q o:Nat}{t2:TypeId}{cs:List Value}{v:Value}(hi:L[i]?=some (q,t2,cs))(hv:cs[o]?=some v)(k:K v H):ME (lM none (.pointer (some ⟨q,o,none⟩)) H) K:=by
 obtain⟨_,_,_,_,hS⟩:=h
 exact hS.ld (i +1) (by rw[List.getElem?_cons_succ];exact hi) hv k
theorem Np.vC(h:Np R r ty n H0 H L)(i:Nat){q o:Nat}{t2:TypeId}{cs:List Value}{v:Value}(hi:L[i]?=some (q,t2,cs))(hv:cs[o]?=some v)(k:K v (Go.Ae.hN H)):ME (lM none (.pointer (some ⟨q,o,none⟩)) (Go.Ae.hN H)) K:=by
 obtain⟨_,_,_,_,hS⟩:=h
 exact hS.vC (i +1) (by rw[List.getElem?_cons_succ];exact hi) hv k
theorem Np.st(h:Np R r ty n H0 H L)(i:Nat){q o m:Nat}{t2:TypeId}{cs:List Value}{v:Value}(hi:L[i]?=some (q,t2,cs))(hl:(ax v).length=m)(hn:o +m≤cs.length)(hk:all' aR (ax v)=true)
 (k:∀H1,Np R r ty n H0 H1 (L.set i (q,t2,splice cs o (ax v)))→K undef H1):ME (yB m (.pointer (some ⟨q,o,none⟩)) v H) K:=by
 obtain⟨ds,vs,h1,h2,hS⟩:=h
 exact hS.st (i +1) (by rw[List.getElem?_cons_succ];exact hi) hl hn hk fun H1 hS=>k H1 ⟨ds,vs,h1,h2,hS⟩
theorem Np.Lm(h:Np R r ty n H0 H L)(i:Nat){q o m:Nat}{t2:TypeId}{cs:List Value}{v:Value}(hi:L[i]?=some (q,t2,cs))(hl:(ax v).length=m)(hn:o +m≤cs.length)(hk:all' aR (ax v)=true)
 (k:∀H1,Np R r ty n H0 (hM H H1) (L.set i (q,t2,splice cs o (ax v)))→K undef H1):ME (yB m (.pointer (some ⟨q,o,none⟩)) v (Go.Ae.hN H)) K:=by
 obtain⟨ds,vs,h1,h2,hS⟩:=h
 exact hS.Lm (i +1) (by rw[List.getElem?_cons_succ];exact hi) hl hn hk fun H1 hS=>k H1 ⟨ds,vs,h1,h2,hS⟩
theorem Np.drop{b:aC}(h:Np R r ty n H0 H (b::L)):Np R r ty n H0 H L:=by
 obtain⟨cs,vs,h1,h2,hS⟩:=h
 exact⟨cs,vs,h1,h2,SH.drop (A:=[_]) (hS.perm (List.Perm.swap _ _ _))⟩
theorem Np.mV(h:Np R r ty n H0 H L):Np R r ty n (Go.Ae.hN H0) (Go.Ae.hN H) L:=by obtain⟨cs,vs,h1,h2,hS⟩:=h;exact⟨cs,vs,h1,h2,hS.mV⟩
theorem Np.i1N(h:Np R r ty n H0 H L){o:Nat}(hz:o<n)(k:∀x,Np (Rn R (o:Int) x) r ty n H0 H L→K (vi x) H):ME (lM none (.pointer (some ⟨r,o,none⟩)) H) K:=by
 obtain⟨cs,vs,h1,h2,hS⟩:=h
 have hlt:o<cs.length:=by omega
 refine hS.ld 0 rfl (v:=vi cs[o]) (by rw[List.getElem?_append_left (by rw[List.length_map];exact hlt),List.getElem?_map,List.getElem?_eq_getElem hlt];rfl) (k _ ⟨cs,vs,h1,⟨h2,?_⟩,hS⟩)
 exact List.getElem?_eq_getElem hlt
theorem Np.W_(h:Np R r ty n H0 H L){o:Nat}(hz:o<n)(k:∀x,Np (Rn R (o:Int) x) r ty n H0 H L→K (vi x) (Go.Ae.hN H)):ME (lM none (.pointer (some ⟨r,o,none⟩)) (Go.Ae.hN H)) K:=by
 obtain⟨cs,vs,h1,h2,hS⟩:=h
 have hlt:o<cs.length:=by omega
 refine hS.vC 0 rfl (v:=vi cs[o]) (by rw[List.getElem?_append_left (by rw[List.length_map];exact hlt),List.getElem?_map,List.getElem?_eq_getElem hlt];rfl) (k _ ⟨cs,vs,h1,⟨h2,?_⟩,hS⟩)
 exact List.getElem?_eq_getElem hlt
theorem EW{cs:List Int}{vs:List Value}{o:Nat}(h:o<cs.length)(x:Int):splice (cs.map vi++vs) o [vi x]=(cs.set o x).map vi++vs:=by
 rw[←gF vi h x]
 unfold splice
 rw[List.take_append_of_le_length (by rw[List.length_map];omega),List.drop_append_of_le_length (by rw[List.length_map];show o +1≤_;omega)]
 simp
theorem Np.iwN(h:Np R r ty n H0 H L){o:Nat}(hz:o<n){x:Int}(k:∀H1,Np (Wn R (o:Int) x) r ty n H0 H1 L→K undef H1):ME (yB 1 (.pointer (some ⟨r,o,none⟩)) (vi x) H) K:=by
 obtain⟨cs,vs,h1,h2,hS⟩:=h
 refine hS.st 0 rfl rfl (by rw[List.length_append,List.length_map];omega) rfl fun H1 hS=>k H1 ⟨cs.set o x,vs,by rw[List.length_set];exact h1,⟨cs,h2,rfl⟩,?_⟩
 rw[←EW aa];exact hS
theorem Np.adG(h:Np R r ty n H0 H L){o:Nat}(hz:o<n){x:Int}(k:∀H1,Np (Wn R (o:Int) x) r ty n H0 (hM H H1) L→K undef H1):ME (yB 1 (.pointer (some ⟨r,o,none⟩)) (vi x) (Go.Ae.hN H)) K:=by
 obtain⟨cs,vs,h1,h2,hS⟩:=h
 refine hS.Lm 0 rfl rfl (by rw[List.length_append,List.length_map];omega) rfl fun H1 hS=>k H1 ⟨cs.set o x,vs,by rw[List.length_set];exact h1,⟨cs,h2,rfl⟩,?_⟩
 rw[←EW aa];exact hS
variable{z:Int}(h0:0≤z)(hz:z<n)
include h0 hz
theorem Np.wu(h:Np R r ty n H0 H L)(k:∀x,Np (Rn R z x) r ty n H0 H L→K (vi x) (Go.Ae.hN H)):ME (lM none (.pointer (some ⟨r,z.toNat*1,none⟩)) (Go.Ae.hN H)) K:=by
 rw[Nat.mul_one];exact h.W_ aa fun x hB=>k x (hB.mono fun _ _ h=>h)
theorem Np.Kc(h:Np R r ty n H0 H L){x:Int}(k:∀H1,Np (Wn R z x) r ty n H0 (hM H H1) L→K undef H1):ME (yB 1 (.pointer (some ⟨r,z.toNat*1,none⟩)) (vi x) (Go.Ae.hN H)) K:=by
 rw[Nat.mul_one];exact h.adG aa fun x hB=>k x (hB.mono fun _ _ h=>h)
end steps
theorem au{A B:Prop}(h:B)(he:A=B:=by simp only[PP,Nat.reduceBEq];rfl):A:=by rw[he];exact h
section az
variable{A B:Prop}{S:List Nat}{H0 H:ae}{L:List aC}
theorem SH.az(hS:SH S H0 H L)(h:B)(he:Wf H→A=B:=by intro w;simp only[PP,Nat.reduceBEq,aZ w];rfl):A:=by rw[he hS.wf];exact h
theorem SB.az{P:List Value→Prop}{r:Nat}{ty:TypeId}{es n:Nat}(hS:SB P r ty es n H0 H L)(h:B)(he:Wf H→A=B:=by intro w;simp only[PP,Nat.reduceBEq,aZ w];rfl):A:=by rw[he hS.wf];exact h
theorem Np.az{R:List Int→Prop}{r:Nat}{ty:TypeId}{n:Nat}(hS:Np R r ty n H0 H L)(h:B)(he:Wf H→A=B:=by intro w;simp only[PP,Nat.reduceBEq,aZ w];rfl):A:=by rw[he hS.wf];exact h
end az
section bin
variable{P:Program}{t:TypeId}{ox oy:Operand}{a b:Int}{K:Value→Prop}
theorem ay(k:K (vi (a +b)))(h1:-9223372036854775808≤a +b:=by omega)(h2:a +b≤9223372036854775807:=by omega):PU (eF P .add t ox oy (vi a) (vi b)) K:=PU.of (aL h1 h2) k
theorem aH(k:K (vi (a -b)))(h1:-9223372036854775808≤a -b:=by omega)(h2:a -b≤9223372036854775807:=by omega):PU (eF P .sub t ox oy (vi a) (vi b)) K:=PU.of (oD h1 h2) k
theorem z8(k:K (vi (a*b)))(h1:-9223372036854775808≤a*b:=by omega)(h2:a*b≤9223372036854775807:=by omega):PU (eF P .mul t ox oy (vi a) (vi b)) K:=PU.of (SX h1 h2) k
theorem bC{es r o n c:Nat}{z:Int}(k:K (.pointer (some ⟨r,o +z.toNat*es,none⟩)))(h0:0≤z:=by omega)(h:z<n:=by omega):PU (sS es (.slice (some ⟨r,o,none⟩) n c) (vi z)) K:=PU.of (WW h0 h) k
end bin
theorem iC{k:Nat}:vi ((k:Int) +1)=vn (k +1):=by rw[show((k:Int) +1)=((k +1:Nat):Int) by omega]
theorem iL{ops:Array Oper}{cls:List Cl}{q:Prop}(k:q)(h:bO ops cls=true:=by((try simp only[aN,aQ,bn (Ext.refl (hN _))]);kernel_rfl)):bO ops cls=true∧q:=⟨h,k⟩
theorem pK{ops:Array Oper}{cls:List Cl}{q:Prop}(k:q)(h:noTwo cls=true:=by simp only[aN,bn (Ext.refl (hN _))];rfl):bO ops cls=true∧q:=jw h k
theorem splitK{p q:Prop}(h:∀K:Prop,K→p∧K)(k:q):p∧q:=h q k
def jX(g:Nat→Nat)(c:Cl):Cl:=⟨c.k,g c.r,c.off,c.n,c.a,c.b⟩
def tC(m:Nat)(c:Cl):Bool:=av (Nat.beq c.k 3||Nat.beq c.k 4) (Nat.ble 1 c.r&&Nat.ble c.r m) true
def kill(c:Cl):Cl:=av (Nat.beq c.k 2) ⟨2,0,0,0,hh0,hh0⟩ c
theorem PS{g:Nat→Nat}{x y:Cl}(h:g x.r=g y.r→x.r=y.r):mK (jX g x) (jX g y)=mK x y:=by
 unfold mK jX
 have:Nat.beq (g x.r) (g y.r)=Nat.beq x.r y.r:=by
  rw[Bool.eq_iff_iff,Nat.beq_eq,Nat.beq_eq]
  exact⟨h,fun e=>by rw[e]⟩
 simp only[this]
theorem EX{a b:ae}{l:Cl}(ha:a=hh0)(hn:l.n≠0):fQ ⟨2,0,0,0,a,b⟩ l=false:=by
 subst ha
 unfold fQ sameAt
 show gU (aj (ae.read hh0 l.r l.off l.n) _)=false
 obtain⟨k,hk⟩:=Nat.exists_eq_succ_of_ne_zero hn
 rw[hk]
 rfl
theorem NM{m:Nat}{x:Cl}(h:tC m x=true)(hk:x.k=3∨x.k=4):1≤x.r∧x.r≤m:=by
 unfold tC at h
 have:(Nat.beq x.k 3||Nat.beq x.k 4)=true:=by
  rcases hk with e|e<;>rw[e]<;>rfl
 rw[this]at h
 replace h:(Nat.ble 1 x.r&&Nat.ble x.r m)=true:=h
 rw[Bool.and_eq_true]at h
 exact⟨Nat.le_of_ble_eq_true h.1,Nat.le_of_ble_eq_true h.2⟩
theorem qB{a b:Nat}(h:a≠b):Nat.beq a b=false:=by rw[←Bool.not_eq_true];exact fun e=>h (Nat.eq_of_beq_eq_true e)
theorem Tp{g:Nat→Nat}{m:Nat}(hg:∀i j,1≤i→i≤m→1≤j→j≤m→g i=g j→i=j){x y:Cl}(hx:tC m x=true)(hy:tC m y=true)(b:Bool)(h:aS (kill y) (kill x) b=true):aS (jX g y) (jX g x) b=true:=by
 cases b with
 |true=>
  unfold aS at h⊢
  simp only[Bool.true_or]at h⊢
  have ek:∀c:Cl,(kill c).k=c.k:=fun c=>by
   unfold kill
   by_cases e:c.k=2
   ·rw[e];rfl
   ·rw[qB e];rfl
  rw[ek,ek]at h
  show av (Nat.beq y.k 0||Nat.beq x.k 0||Nat.beq y.k 5||Nat.beq x.k 5) true _=true
  exact h
 |false=>
  by_cases hx2:x.k=2
  ·have kx:kill x=⟨2,0,0,0,hh0,hh0⟩:=by unfold kill;rw[hx2];rfl
   have ky:(kill y).k=y.k:=by
    unfold kill
    by_cases e:y.k=2
    ·rw[e];rfl
    ·rw[qB e];rfl
   unfold aS at h⊢
   rw[kx]at h
   simp only[ky]at h
   simp only[jX,hx2]
   simp only[show Nat.beq 2 0=false from rfl,show Nat.beq 2 5=false from rfl,show Nat.beq 2 3=false from rfl,show Nat.beq 2 4=false from rfl,show Nat.beq 2 1=false from rfl,show Nat.beq 2 2=true from rfl,Bool.or_false,Bool.false_or,Bool.false_and,Bool.and_false,bR,gm]at h⊢
   by_cases h0:(Nat.beq y.k 0||Nat.beq y.k 5)=true
   ·rw[h0];rfl
   ·rw[Bool.not_eq_true]at h0
    rw[h0]at h⊢
    by_cases h3:y.k=3
    ·rw[h3]at h;cases h
    ·rw[qB h3]at h⊢
     by_cases h4:y.k=4
     ·have hy2:kill y=y:=by unfold kill;rw[qB aa];rfl
      rw[hy2,h4]at h
      replace h:fQ ⟨2,0,0,0,hh0,hh0⟩ y=true:=h
      by_cases hn:y.n=0
      ·rw[h4]
       show fQ _ _=true
       unfold fQ sameAt
       show gU (aj (ae.read x.a (g y.r) y.off y.n) fun u=>aj (ae.read x.b (g y.r) y.off y.n) fun v=>gd (xx u v) (some ()))=true
       rw[hn];rfl
      ·rw[EX rfl hn]at h;cases h
     ·rw[qB h4]at h;cases h
  ·have kx:kill x=x:=by unfold kill;rw[qB hx2];rfl
   by_cases hy2:y.k=2
   ·have ky:kill y=⟨2,0,0,0,hh0,hh0⟩:=by unfold kill;rw[hy2];rfl
    unfold aS at h⊢
    rw[ky,kx]at h
    simp only[jX,hy2]
    simp only[show Nat.beq 2 0=false from rfl,show Nat.beq 2 5=false from rfl,show Nat.beq 2 3=false from rfl,show Nat.beq 2 4=false from rfl,show Nat.beq 2 1=false from rfl,show Nat.beq 2 2=true from rfl,Bool.or_false,Bool.false_or,Bool.false_and,Bool.and_false,bR,gm]at h⊢
    by_cases h0:(Nat.beq x.k 0||Nat.beq x.k 5)=true
    ·rw[h0];rfl
    ·rw[Bool.not_eq_true]at h0
     rw[h0]at h⊢
     by_cases h3:x.k=3
     ·rw[h3]at h;cases h
     ·rw[qB h3]at h⊢
      by_cases h4:x.k=4
      ·rw[h4]at h
       replace h:fQ ⟨2,0,0,0,hh0,hh0⟩ x=true:=h
       by_cases hn:x.n=0
       ·rw[h4]
        show fQ _ _=true
        unfold fQ sameAt
        show gU (aj (ae.read y.a (g x.r) x.off x.n) fun u=>aj (ae.read y.b (g x.r) x.off x.n) fun v=>gd (xx u v) (some ()))=true
        rw[hn];rfl
       ·rw[EX rfl hn]at h;cases h
      ·rw[qB h4]at h;cases h
   ·have ky:kill y=y:=by unfold kill;rw[qB hy2];rfl
    rw[kx,ky]at h
    by_cases hm:(x.k=3∨x.k=4)∧(y.k=3∨y.k=4)
    ·obtain⟨a1,a2⟩:=NM hx hm.1
     obtain⟨b1,b2⟩:=NM hy hm.2
     have e2:=PS (g:=g) (x:=x) (y:=y) (hg _ _ a1 a2 b1 b2)
     unfold aS at h⊢
     rw[e2]
     simp only[jX,qB hx2,qB hy2,bR]at h⊢
     exact h
    ·unfold aS at h⊢
     simp only[jX,qB hx2,qB hy2,bR]at h⊢
     by_cases x3:x.k=3
     ·have y3:y.k≠3:=fun e=>hm ⟨.inl x3,.inl e⟩
      have y4:y.k≠4:=fun e=>hm ⟨.inl x3,.inr e⟩
      rw[qB y3,qB y4]at h⊢
      exact h
     ·by_cases x4:x.k=4
      ·have y3:y.k≠3:=fun e=>hm ⟨.inr x4,.inl e⟩
       have y4:y.k≠4:=fun e=>hm ⟨.inr x4,.inr e⟩
       rw[qB y3,qB y4]at h⊢
       exact h
      ·rw[qB x3,qB x4]at h⊢
       exact h
theorem tF{a:Bool}{b:Bool}(h:av a b false=true):a=true∧b=true:=by
 cases a with
 |true=>exact⟨rfl,h⟩
 |false=>cases h
theorem CF{g:Nat→Nat}{m:Nat}(hg:∀i j,1≤i→i≤m→1≤j→j≤m→g i=g j→i=j):∀(ms:List Nat)(l:List Cl),(∀c∈l,tC m c=true)→pairs aS ms (l.map kill)=true→pairs aS ms (l.map (jX g))=true:=by
 have row:∀(x:Cl)(k:Nat)(l:List Cl),tC m x=true→(∀c∈l,tC m c=true)→bW aS (kill x) k (l.map kill)=true→bW aS (jX g x) k (l.map (jX g))=true:=by
  intro x k l hx
  induction l with
  |nil=>intro _ _;rfl
  |cons y l ih=>
   intro h h1
   replace h1:av (aS (kill x) (kill y) (aV k (len (l.map kill)))) (bW aS (kill x) k (l.map kill)) false=true:=h1
   obtain⟨h2,h3⟩:=tF h1
   show av (aS (jX g x) (jX g y) (aV k (len (l.map (jX g))))) (bW aS (jX g x) k (l.map (jX g))) false=true
   rw[aM,List.length_map]at h2⊢
   rw[Tp hg (h y (List.mem_cons_self ..)) hx _ h2,ih (fun c hc=>h c (List.mem_cons_of_mem _ hc)) h3];rfl
 intro ms
 induction ms with
 |nil=>intro l _ _;rfl
 |cons k ms ih=>
  intro l h h1
  cases l with
  |nil=>rfl
  |cons x l=>
   replace h1:av (bW aS (kill x) k (l.map kill)) (pairs aS ms (l.map kill)) false=true:=h1
   obtain⟨h2,h3⟩:=tF h1
   show av (bW aS (jX g x) k (l.map (jX g))) (pairs aS ms (l.map (jX g))) false=true
   rw[row x k l (h x (List.mem_cons_self ..)) (fun c hc=>h c (List.mem_cons_of_mem _ hc)) h2,ih l (fun c hc=>h c (List.mem_cons_of_mem _ hc)) h3];rfl
theorem tH{g:Nat→Nat}{m:Nat}(hg:∀i j,1≤i→i≤m→1≤j→j≤m→g i=g j→i=j){ops:Array Oper}{l:List Cl}(hl:all' (tC m) l=true)(h:bO ops (l.map kill)=true):bO ops (l.map (jX g))=true:=by
 rw[all_eq,List.all_eq_true]at hl
 have e:noTwo (l.map (jX g))=noTwo (l.map kill):=by
  unfold noTwo
  rw[all_eq,all_eq,List.all_map,List.all_map]
  congr 1
  funext c
  show(!(Nat.beq c.k 2||Nat.beq c.k 3))=(!(Nat.beq (kill c).k 2||Nat.beq (kill c).k 3))
  unfold kill
  by_cases e:c.k=2
  ·rw[e];rfl
  ·rw[qB e];rw[bR,qB e]
 unfold bO at h⊢
 rw[e]
 by_cases h2:noTwo (l.map kill)=true
 ·rw[h2];rfl
 ·rw[Bool.not_eq_true]at h2
  rw[h2]at h⊢
  exact CF hg _ l hl h
def g3(a b c d:Nat):Nat→Nat
 |1=>a
 |2=>b
 |3=>c
 |4=>d
 |_=>0
theorem oG{ops:Array Oper}{C:Nat→Nat→List Cl}{a b:Nat}{K:Prop}(hab:a≠b)(hC:∀a b,C a b=(C 1 2).map (jX (g3 a b 0 0)))(hk:all' (tC 2) (C 1 2)=true)(h:bO ops ((C 1 2).map kill)=true)(k:K):bO ops (C a b)=true∧K:=by
 refine⟨?_,k⟩
 rw[hC]
 refine tH (m:=2) (fun i j h1 h2 h3 h4 e=>?_) hk h
 have hi:i=1∨i=2:=by omega
 have hj:j=1∨j=2:=by omega
 rcases hi with rfl|rfl<;>rcases hj with rfl|rfl<;>first|rfl|exact absurd e hab|exact absurd e.symm hab
theorem Gf{ops:Array Oper}{C:Nat→Nat→Nat→List Cl}{a b c:Nat}{K:Prop}(hab:a≠b)(hac:a≠c)(hbc:b≠c)(hC:∀a b c,C a b c=(C 1 2 3).map (jX (g3 a b c 0)))(hk:all' (tC 3) (C 1 2 3)=true)(h:bO ops ((C 1 2 3).map kill)=true)(k:K):bO ops (C a b c)=true∧K:=by
 refine⟨?_,k⟩
 rw[hC]
 refine tH (m:=3) (fun i j h1 h2 h3 h4 e=>?_) hk h
 have hi:i=1∨i=2∨i=3:=by omega
 have hj:j=1∨j=2∨j=3:=by omega
 rcases hi with rfl|rfl|rfl<;>rcases hj with rfl|rfl|rfl<;>first|rfl|exact absurd e hab|exact absurd e.symm hab|exact absurd e hac|exact absurd e.symm hac|exact absurd e hbc|exact absurd e.symm hbc
theorem aai{ops:Array Oper}{C:Nat→Nat→Nat→Nat→List Cl}{a b c d:Nat}{K:Prop}(hab:a≠b)(hac:a≠c)(had:a≠d)(hbc:b≠c)(hbd:b≠d)(hcd:c≠d)(hC:∀a b c d,C a b c d=(C 1 2 3 4).map (jX (g3 a b c d)))(hk:all' (tC 4) (C 1 2 3 4)=true)(h:bO ops ((C 1 2 3 4).map kill)=true)(k:K):bO ops (C a b c d)=true∧K:=by
 refine⟨?_,k⟩
 rw[hC]
 refine tH (m:=4) (fun i j h1 h2 h3 h4 e=>?_) hk h
 have hi:i=1∨i=2∨i=3∨i=4:=by omega
 have hj:j=1∨j=2∨j=3∨j=4:=by omega
 rcases hi with rfl|rfl|rfl|rfl<;>rcases hj with rfl|rfl|rfl|rfl<;>first|rfl|exact absurd e hab|exact absurd e.symm hab|exact absurd e hac|exact absurd e.symm hac|exact absurd e had|exact absurd e.symm had|exact absurd e hbc|exact absurd e.symm hbc|exact absurd e hbd|exact absurd e.symm hbd|exact absurd e hcd|exact absurd e.symm hcd
theorem Lt{ops:Array Oper}{C:Nat→List Cl}{a:Nat}{K:Prop}(hC:∀a,C a=(C 1).map (jX (g3 a 0 0 0)))(hk:all' (tC 1) (C 1)=true)(h:bO ops ((C 1).map kill)=true)(k:K):bO ops (C a)=true∧K:=by
 refine⟨?_,k⟩
 rw[hC]
 refine tH (m:=1) (fun i j h1 h2 h3 h4 e=>?_) hk h
 omega
theorem qU(H H':ae):DZ H H'=cl 1∨DZ H H'=⟨2,0,0,0,H,H'⟩:=by
 show av (Nat.ble H.next H'.low) _ _=_∨av (Nat.ble H.next H'.low) _ _=_
 cases Nat.ble H.next H'.low with
 |true=>exact .inl rfl
 |false=>exact .inr rfl
theorem SH.Tq{S:List Nat}{H0 H H':ae}{M M' L:List aC}(hS:SH S H0 H (M++L))(h:SH (M.map (·.1)) (Go.Ae.hN H) H' M'):SH S H0 (hM H H') (M'++L):=
 hS.turn h.ext.draw (fun e he=>⟨h.bk e he,h.lo e he⟩) h.ne
theorem SH.apart{S:List Nat}{H0 H:ae}{A B:List aC}(hS:SH S H0 H (A++B)){x y:aC}(hx:x∈A)(hy:y∈B):x.1≠y.1:=(List.pairwise_append.1 hS.ne).2.2 x hx y hy
theorem eO.one{S:List Nat}{H0 H:ae}{L:List aC}{F:Nat→Prop}{r:Nat}{ty:TypeId}{es n:Nat}{cs:List Value}(hS:SH S H0 H L)(hm:((r,ty,cs):aC)∈L)(hn:cs.length=n*es)(hF:F r):eO F ty H (some ⟨r,0,none⟩) n es cs:=
 ⟨(hS.bk _ hm).fl (hS.lo _ hm).2 hn,fun r' o e _=>by cases e;exact⟨hF,(hS.lo _ hm).2,(hS.bk _ hm).QS⟩⟩
theorem SH.nq{S:List Nat}{H0 H:ae}{L:List aC}(hS:SH S H0 H L)(i j:Nat){r r':Nat}{t t':TypeId}{x y:List Value}(hi:L[i]?=some (r,t,x))(hj:L[j]?=some (r',t',y))(hij:i<j):r≠r':=by
 obtain⟨h1,e1⟩:=List.getElem?_eq_some_iff.1 hi
 obtain⟨h2,e2⟩:=List.getElem?_eq_some_iff.1 hj
 have:=List.pairwise_iff_getElem.1 hS.ne i j h1 h2 hij
 rw[e1,e2]at this
 exact this
theorem SH.neq{S:List Nat}{H0 H:ae}{L:List aC}(hS:SH S H0 H L)(i j:Nat){x y:aC}(hi:L[i]?=some x)(hj:L[j]?=some y)(hij:i<j):x.1≠y.1:=by
 obtain⟨h1,rfl⟩:=List.getElem?_eq_some_iff.1 hi
 obtain⟨h2,rfl⟩:=List.getElem?_eq_some_iff.1 hj
 exact List.pairwise_iff_getElem.1 hS.ne i j h1 h2 hij
section
def CG(ty:TypeId)(es:Nat):List (List Value)→List Value→List aC→Prop
 |[],[],R=>R=[]
 |ks::yC,v::vs,R=>∃gb R',R=gb++R'∧GB ty es v ks gb∧CG ty es yC vs R'
 |_,_,_=>False
variable{ty:TypeId}{es:Nat}
theorem CG.len:∀{yC:List (List Value)}{vs:List Value}{R:List aC},CG ty es yC vs R→yC.length=vs.length
 |[],[],R,h=>rfl
 |ks::yC,v::vs,R,⟨gb,R',_,_,h⟩=>congrArg Nat.succ h.len
 |[],v::vs,R,h=>h.elim
 |ks::yC,[],R,h=>h.elim
theorem CG.Jd:∀n,CG ty es (List.replicate n []) (List.replicate n (.slice none 0 0)) []
 |0=>rfl
 |n +1=>⟨[],[],rfl,GB.nil _ _,CG.Jd n⟩
theorem CG.at:∀{yC:List (List Value)}{vs:List Value}{R:List aC}(i:Nat),CG ty es yC vs R→(h:i<vs.length)→∃A gb B,R=A++(gb++B)∧GB ty es vs[i] (yC[i]?.getD []) gb∧
 ∀v' ks' bJ,GB ty es v' ks' bJ→CG ty es (yC.set i ks') (vs.set i v') (A++(bJ++B))
 |ks::yC,v::vs,R,0,h,_=>by
  obtain⟨gb,R',rfl,h1,h4⟩:=h
  exact⟨[],gb,R',rfl,h1,fun v' ks' bJ g1=>⟨bJ,R',rfl,g1,h4⟩⟩
 |ks::yC,v::vs,R,i +1,h,hi=>by
  obtain⟨gb,R',rfl,h1,h4⟩:=h
  obtain⟨A,Xa,B,rfl,g1,g4⟩:=CG.at i h4 (by simpa using hi)
  refine⟨gb++A,Xa,B,by rw[List.append_assoc],g1,fun v' ks' bJ k1=>?_⟩
  exact⟨gb,A++(bJ++B),by rw[List.append_assoc],h1,g4 v' ks' bJ k1⟩
 |[],[],R,i,h,hi=>absurd hi (by simp)
 |[],v::vs,R,i,h,hi=>h.elim
 |ks::yC,[],R,i,h,hi=>h.elim
theorem CG.snoc:∀{yC:List (List Value)}{vs:List Value}{R gb:List aC}{ks:List Value}{v:Value},CG ty es yC vs R→GB ty es v ks gb→CG ty es (yC++[ks]) (vs++[v]) (R++gb)
 |[],[],R,gb,ks,v,h,hg=>by
  subst h
  exact⟨gb,[],by simp,hg,rfl⟩
 |k::yC,w::vs,R,gb,ks,v,⟨gb0,R',h1,h2,h3⟩,hg=>⟨gb0,R'++gb,by rw[h1,List.append_assoc],h2,h3.snoc hg⟩
 |[],v::vs,R,gb,ks,w,h,hg=>h.elim
 |ks::yC,[],R,gb,k,v,h,hg=>h.elim
theorem CG.all{S:List Nat}{H0 H:ae}:∀{yC:List (List Value)}{vs:List Value}{R L:List aC},CG ty es yC vs R→SH S H0 H (R++L)→∀i(h:i<vs.length),∃a n c,vs[i]=.slice a n c∧(yC[i]?.getD []).length=n*es∧eO (fun r=>r∈R.map (·.1)) ty H a n es (yC[i]?.getD [])
 |[],[],R,L,h,hS=>fun i hi=>absurd hi (by simp)
 |ks::yC,v::vs,R,L,⟨gb,R',h1,h2,h4⟩,hS=>by
  subst h1
  rw[List.append_assoc]at hS
  intro i hi
  cases i with
  |zero=>
   obtain⟨a,n,c,e,hl,hf⟩:=h2.W9 (F:=fun r=>r∈(gb++R').map (·.1)) hS fun e he=>List.mem_map.2 ⟨e,List.mem_append_left _ he,rfl⟩
   exact⟨a,n,c,e,hl,hf⟩
  |succ i=>
   obtain⟨a,n,c,e,hl,hf⟩:=CG.all h4 (SH.drop hS) i (by simpa using hi)
   refine⟨a,n,c,e,hl,hf.wk fun r hr=>?_⟩
   obtain⟨e,he,rfl⟩:=List.mem_map.1 hr
   exact List.mem_map.2 ⟨e,List.mem_append_right _ he,rfl⟩
 |[],v::vs,R,L,h,hS=>h.elim
 |ks::yC,[],R,L,h,hS=>h.elim
end
section
variable{S:List Nat}{H0 H:ae}{L L':List aC}{r n c k:Nat}{ty:TypeId}{cs:List Value}{v:Value}
theorem Xb(h:k<n){o:Nat}:sS 1 (.slice (some ⟨r,o,none⟩) n c) (vn k)=some (.pointer (some ⟨r,o +k,none⟩)):=by rw[oF h,Nat.mul_one]
theorem NN{cs:List Value}{i:Nat}{v:Value}(hi:i<cs.length):splice cs i [v]=cs.set i v:=by
 apply List.ext_getElem?
 intro j
 rw[iU (by show i +1≤_;omega),List.getElem?_set]
 by_cases h:i≤j∧j<i +[v].length
 ·have:i=j:=by have:=h.2;simp at this;omega
  subst this
  rw[if_pos h,if_pos rfl,if_pos hi,Nat.sub_self];rfl
 ·rw[if_neg h,if_neg (fun e=>h (by subst e;simp))]
theorem SH.ix{K:Value→Value→ae→Prop}(hS:SH S H0 H L)[hb:CE L r ty cs](hk:k<n)(hv:cs[k]?=some v)(kk:∀p,K p v H):
 PU (sS 1 (.slice (some ⟨r,0,none⟩) n c) (vn k)) fun p=>ME (lM none p H) (K p):=by
 obtain⟨i,hi⟩:=hb.at'
 refine PU.of (Xb hk) ?_
 rw[Nat.zero_add]
 exact hS.ld i hi hv (kk _)
theorem SH.Tt{K:Value→Value→ae→Prop}(hS:SH S H0 H L)[hb:Gd L r (fun cs=>cs.set k v) ty cs L'](hk:k<n)(hl:k<cs.length)(hc:ax v=[v]:=by rfl)(ho:aR v=true:=by rfl)(kk:∀p H1,SH S H0 H1 L'→K p undef H1):
 PU (sS 1 (.slice (some ⟨r,0,none⟩) n c) (vn k)) fun p=>ME (yB 1 p v H) (K p):=by
 obtain⟨i,hi,e⟩:=hb.at'
 refine PU.of (Xb hk) ?_
 rw[Nat.zero_add]
 refine hS.st i hi (by rw[hc];rfl) aa (by rw[hc];show av (aR v) _ _=_;rw[ho];rfl) fun H1 h=>kk _ H1 ?_
 rw[e]
 rw[hc,NN hl]at h
 exact h
theorem eO.ix{F:Nat→Prop}{a:Option Addr}{K:Value→Value→ae→Prop}(h:eO F ty H a n 1 cs)(hk:k<n)(hv:cs[k]?=some v)(kk:∀p,K p v H):
 PU (sS 1 (.slice a n c) (vn k)) fun p=>ME (lM none p H) (K p):=by
 obtain⟨r,o,h1,h2,h3,_⟩:=h.1.idx (c:=c) (Nat.lt_succ_self 0) hk
 refine PU.of h1 ?_
 refine ME.ld ?_ (kk _)
 have:=h3 0 v (Nat.lt_succ_self 0) (by rw[Nat.mul_one,Nat.add_zero];exact hv)
 exact this
theorem eO.ixN{F:Nat→Prop}{a:Option Addr}{es:Nat}{K:Value→Value→ae→Prop}(h:eO F ty H a n es cs)(he:0<es)(hk:k<n){l:List Value}(hl:El cs es k=l)(kk:∀p,K p (.agg ⟨l⟩) H):
 PU (sS es (.slice a n c) (vn k)) fun p=>ME (lM (some es) p H) (K p):=by
 obtain⟨r,o,h1,h2,h3,_⟩:=h.1.idx (c:=c) he hk
 refine PU.of h1 ?_
 have hlen:k*es +es≤cs.length:=by
  have:(k +1)*es≤n*es:=Nat.mul_le_mul_right es hk
  rw[Nat.add_mul]at this
  have:=h.1.1;omega
 refine ME.mU ?_ (kk _)
 obtain⟨v0,hv0⟩:∃v0,cs[k*es]?=some v0:=⟨_,List.getElem?_eq_getElem aa⟩
 rw[←hl]
 have hn:∀m,m≤es→H.read r o m=some ((cs.drop (k*es)).take m):=by
  intro m hm
  have key:∀i,i<m→H.cell r (o +i)=cs[k*es +i]?:=fun i hi=>by
   have:k*es +i<cs.length:=by omega
   rw[List.getElem?_eq_getElem this]
   exact h3 i _ aa (List.getElem?_eq_getElem this)
  cases m with
  |zero=>show some []=_;simp
  |succ m=>
   obtain⟨R,hR⟩:∃R,H.obj r=.row R:=by
    have h0:=key m aa
    rw[List.getElem?_eq_getElem aa]at h0
    unfold ae.cell at h0
    cases hr:H.obj r with
    |row R=>exact⟨R,rfl⟩
    |_=>rw[hr]at h0;cases h0
   have cl:∀i,i<m +1→o +i<R.n∧some (R.cells.get top (o +i))=cs[k*es +i]?:=fun i hi=>by
    have h0:=key i hi
    rw[List.getElem?_eq_getElem aa]at h0
    unfold ae.cell at h0
    rw[hR]at h0
    have h0:gd (Nat.ble (Nat.succ (o +i)) R.n) (some (R.cells.get top (o +i)))=_:=h0
    cases hb:Nat.ble (Nat.succ (o +i)) R.n with
    |false=>rw[hb]at h0;cases h0
    |true=>
     rw[hb]at h0
     refine⟨Nat.le_of_ble_eq_true hb,?_⟩
     rw[List.getElem?_eq_getElem aa]
     exact h0
   show(aj (kg (H.obj r)) fun w=>gd (Nat.ble (Nat.add o (m +1)) w.n) (some (Tr.vK top w.cells o (m +1))))=_
   rw[hR]
   show gd (Nat.ble (Nat.add o (m +1)) R.n) (some (Tr.vK top R.cells o (m +1)))=_
   rw[Nat.ble_eq_true_of_le (show Nat.add o (m +1)≤R.n from(cl m aa).1)]
   refine congrArg some ?_
   have gen:∀j p,(∀i,i<j→some (R.cells.get top (o +p +i))=cs[k*es +p +i]?)→Tr.vK top R.cells (o +p) j=(cs.drop (k*es +p)).take j:=by
    intro j
    induction j with
    |zero=>intro p _;rw[Tr.rZ];simp
    |succ j ih=>
     intro p hp
     have h0:=hp 0 aa
     rw[Nat.add_zero,Nat.add_zero]at h0
     obtain⟨hl0,e0⟩:=List.getElem?_eq_some_iff.1 h0.symm
     rw[Tr.l7,show o +p +1=o +(p +1) by omega,ih (p +1) (fun i hi=>by
      have:=hp (i +1) aa
      rw[show o +(p +1) +i=o +p +(i +1) by omega,show k*es +(p +1) +i=k*es +p +(i +1) by omega]
      exact this),List.drop_eq_getElem_cons hl0,List.take_succ_cons,e0]
     rfl
   have:=gen (m +1) 0 (fun i hi=>by rw[Nat.add_zero,Nat.add_zero];exact(cl i hi).2)
   exact this
 exact hn es (Nat.le_refl _)
theorem SH.ns{z:List Value}{m:Nat}{K:Value→Value→ae→Prop}(hS:SH S H0 H L)(hl:(ax v).length=m)(hz:z.length=m)(hk:all' aR (ax v)=true)
 (kk:∀H2 r,SH S H0 H2 ((r,ty,ax v)::L)→Ext H H2→K (.pointer (some ⟨r,0,none⟩)) undef H2):ME (Go.Ae.bZ ty z H) fun p H1=>ME (Go.Ae.yB m p v H1) fun u H2=>K p u H2:=by
 have hO:=SH.refl hS.wf
 refine hO.bZ fun H1 r hO=>?_
 refine hO.st 0 rfl hl aa hk fun H2 hO=>?_
 have hO:SH [] H H2 [(r,ty,splice z 0 (ax v))]:=hO
 rw[nG _ _ aa]at hO
 exact kk H2 r (SH.frame (M:=[]) (L:=L) hS hO) hO.ext
theorem bB(P M L:List aC):(P++(M++L)).Perm (M++(P++L)):=by
 rw[←List.append_assoc,←List.append_assoc];exact List.Perm.append_right _ List.perm_append_comm
theorem SH.nD(hS:SH S H0 H L){e:TypeId}{z:List Value}{K:Value→ae→Prop}(k:∀H1 r,SH S H0 (hM H H1) ((r,e,z)::L)→PI H H1=cl 5→K (.pointer (some ⟨r,0,none⟩)) H1):ME (Go.Ae.bZ e z (Go.Ae.hN H)) K:=
 ME.of rfl (k _ _ (hS.EO e z) (Bi (Ext.new _ _)))
theorem GB.push{es:Nat}{x z:List Value}{w:Value}{xs:List Value}{gb:List aC}{K:Value→Value→ae→Prop}(hg:GB ty es v xs gb)(hS:SH S H0 H (gb++L))(he:0<es)(hz:z.length=es)(hw:ax w=x)(hx:x.length=es)(ht:ko w=true)(hok:all' Go.Ae.aR x=true)(hb:es≤16777216)(hc:xs.length≤16777216)
 (kk:∀q v' H' bJ,GB ty es v' (xs++x) bJ→SH S H0 H' (bJ++L)→K q v' H'):ME (bS ty z es 1 [(0,w)] H) fun q H1=>ME (wh ty es v q H1) (K q):=by
 refine hS.bS hz ht (by rw[hw];exact hx) hb fun H1 rx hS1=>?_
 rw[hw]at hS1
 obtain⟨v',H6,bJ,e1,hg',kY,_⟩:=hg.app (m:=0) (cx:=1) hS1 he aa hok aa hc
 exact ME.of e1 (kk _ v' H6 bJ hg' kY)
end
def g7(c:Cl):Cl:=av (Nat.beq c.k 2) ⟨7,0,0,0,hh0,hh0⟩ c
theorem Tu{c:Cl}(h:c.k=2):g7 c=⟨7,0,0,0,hh0,hh0⟩:=by unfold g7;rw[h];rfl
theorem Tv{c:Cl}(h:c.k≠2):g7 c=c:=by unfold g7;rw[qB h];rfl
theorem CJ{x y:Cl}{b:Bool}(h:aS (g7 y) (g7 x) b=true)(hx:y.k=2→x.k=4→fQ y x=true)(hy:x.k=2→y.k=4→fQ x y=true):aS y x b=true:=by
 by_cases y2:y.k=2
 ·rw[Tu y2]at h
  by_cases x2:x.k=2
  ·rw[Tu x2]at h
   unfold aS
   rw[y2,x2]
   exact h
  ·rw[Tv x2]at h
   unfold aS at h⊢
   rw[y2]
   by_cases x0:x.k=0
   ·rw[x0];rfl
   by_cases x5:x.k=5
   ·rw[x5];rfl
   by_cases x3:x.k=3
   ·rw[x3]at h;cases h
   by_cases x4:x.k=4
   ·have:=hx y2 x4
    rw[x4]
    show(b||fQ y x)=true
    rw[this];cases b<;>rfl
   ·rw[qB x0,qB x5,qB x3,qB x4]at h⊢
    have h:av (Nat.beq x.k 1&&false) true b=true:=h
    show av (Nat.beq x.k 1&&false) true b=true
    exact h
 ·rw[Tv y2]at h
  by_cases x2:x.k=2
  ·rw[Tu x2]at h
   unfold aS at h⊢
   rw[x2]
   by_cases y0:y.k=0
   ·rw[y0];rfl
   by_cases y5:y.k=5
   ·rw[y5];rfl
   by_cases y3:y.k=3
   ·rw[y3]at h⊢;exact h
   by_cases y4:y.k=4
   ·have:=hy x2 y4
    rw[y4]
    show(b||fQ x y)=true
    rw[this];cases b<;>rfl
   ·rw[qB y0,qB y5,qB y3,qB y4]at h⊢
    exact h
  ·rw[Tv x2]at h
   exact h
def wz{α:Type}(p:α→Prop):List α→Prop
 |[]=>True
 |x::l=>p x∧wz p l
theorem wz.mem{α:Type}{p:α→Prop}:∀{l:List α},wz p l→∀x∈l,p x
 |y::l,h,x,hx=>by
  rcases List.mem_cons.1 hx with rfl|hx
  ·exact h.1
  ·exact wz.mem h.2 x hx
def Xc(A B:ae)(c:Cl):Prop:=(c.k=2→c.a=A∧c.b=B)∧(c.k=4→fQ ⟨2,0,0,0,A,B⟩ c=true)
theorem Xc.rd{A B:ae}{x y:Cl}(hx:Xc A B x)(hy:Xc A B y)(h2:y.k=2)(h4:x.k=4):fQ y x=true:=by
 obtain⟨e1,e2⟩:=hy.1 h2
 have:=hx.2 h4
 unfold fQ at this⊢
 rw[e1,e2]
 exact this
theorem Tw{A B:ae}:∀(ms:List Nat)(l:List Cl),wz (Xc A B) l→pairs aS ms (l.map g7)=true→pairs aS ms l=true:=by
 have row:∀(x:Cl)(k:Nat)(l:List Cl),Xc A B x→wz (Xc A B) l→bW aS (g7 x) k (l.map g7)=true→bW aS x k l=true:=by
  intro x k l hx
  induction l with
  |nil=>intro _ _;rfl
  |cons y l ih=>
   intro h h1
   replace h1:av (aS (g7 x) (g7 y) (aV k (len (l.map g7)))) (bW aS (g7 x) k (l.map g7)) false=true:=h1
   obtain⟨h2,h3⟩:=tF h1
   show av (aS x y (aV k (len l))) (bW aS x k l) false=true
   rw[aM,List.length_map]at h2
   rw[aM,CJ h2 (fun a b=>h.1.rd hx a b) (fun a b=>hx.rd h.1 a b),ih h.2 h3];rfl
 intro ms
 induction ms with
 |nil=>intro l _ _;rfl
 |cons k ms ih=>
  intro l h h1
  cases l with
  |nil=>rfl
  |cons x l=>
   replace h1:av (bW aS (g7 x) k (l.map g7)) (pairs aS ms (l.map g7)) false=true:=h1
   obtain⟨h2,h3⟩:=tF h1
   show av (bW aS x k l) (pairs aS ms l) false=true
   rw[row x k l h.1 h.2 h2,ih l h.2 h3];rfl
theorem NP(l:List Cl):(l.map g7).map kill=l.map g7:=by
 rw[List.map_map]
 apply List.map_congr_left
 intro c _
 show kill (g7 c)=g7 c
 by_cases h:c.k=2
 ·rw[Tu h];rfl
 ·rw[Tv h];unfold kill;rw[qB h];rfl
theorem Tx{ops:Array Oper}{l l1:List Cl}{g:Nat→Nat}{m:Nat}{A B:ae}(hg:∀i j,1≤i→i≤m→1≤j→j≤m→g i=g j→i=j)(hC:l.map g7=(l1.map g7).map (jX g))(hk:all' (tC m) (l1.map g7)=true)(h:pairs aS (jH ops.toList [] 0) (l1.map g7)=true)(hr:wz (Xc A B) l):bO ops l=true:=by
 unfold bO
 have:pairs aS (jH ops.toList [] 0) l=true:=by
  refine Tw (A:=A) (B:=B) _ l hr ?_
  rw[hC]
  rw[all_eq,List.all_eq_true]at hk
  refine CF hg _ _ hk ?_
  rw[NP]
  exact h
 rw[this]
 cases noTwo l<;>rfl
theorem Gg{ops:Array Oper}{C:Nat→Nat→List Cl}{a b:Nat}{A B:ae}{K:Prop}(hab:a≠b)(hC:(C a b).map g7=((C 1 2).map g7).map (jX (g3 a b 0 0)))(hk:all' (tC 2) ((C 1 2).map g7)=true)(h:pairs aS (jH ops.toList [] 0) ((C 1 2).map g7)=true)(k:K)(hr:wz (Xc A B) (C a b)):bO ops (C a b)=true∧K:=by
 refine⟨Tx (m:=2) (fun i j h1 h2 h3 h4 e=>?_) hC hk h hr,k⟩
 have hi:i=1∨i=2:=by omega
 have hj:j=1∨j=2:=by omega
 rcases hi with rfl|rfl<;>rcases hj with rfl|rfl<;>first|rfl|exact absurd e hab|exact absurd e.symm hab
theorem Gh{ops:Array Oper}{C:Nat→Nat→Nat→List Cl}{a b c:Nat}{A B:ae}{K:Prop}(hab:a≠b)(hac:a≠c)(hbc:b≠c)(hC:(C a b c).map g7=((C 1 2 3).map g7).map (jX (g3 a b c 0)))(hk:all' (tC 3) ((C 1 2 3).map g7)=true)(h:pairs aS (jH ops.toList [] 0) ((C 1 2 3).map g7)=true)(k:K)(hr:wz (Xc A B) (C a b c)):bO ops (C a b c)=true∧K:=by
 refine⟨Tx (m:=3) (fun i j h1 h2 h3 h4 e=>?_) hC hk h hr,k⟩
 have hi:i=1∨i=2∨i=3:=by omega
 have hj:j=1∨j=2∨j=3:=by omega
 rcases hi with rfl|rfl|rfl<;>rcases hj with rfl|rfl|rfl<;>first|rfl|exact absurd e hab|exact absurd e.symm hab|exact absurd e hac|exact absurd e.symm hac|exact absurd e hbc|exact absurd e.symm hbc
theorem qg(k:IntKind)(n:Int):gK (.int k n) (.int k n)=true:=by
 have h:Ri (.int k n) (.int k n)=true:=by
  show gU (gd (Nat.beq (ik k) (ik k)&&Ib n n) (some ()))=true
  rw[qQ,Ga,decide_eq_true rfl];rfl
 unfold gK vP pP
 rw[h];rfl
theorem jy(a:Option Addr)(n c:Nat)(h:∀x,a=some x→x.spot=none):gK (.slice a n c) (.slice a n c)=true:=by
 have h1:A_ a a=true:=by
  cases a with
  |none=>rfl
  |some x=>
   show addrEq x x=true
   unfold addrEq
   rw[h x rfl,Nat.beq_refl,Nat.beq_refl];rfl
 have h2:Yh (.slice a n c) (.slice a n c)=true:=by
  show gU (gd (A_ a a&&Nat.beq n n&&Nat.beq c c) (some ()))=true
  rw[h1,Nat.beq_refl,Nat.beq_refl];rfl
 unfold gK vP pP
 rw[h2]
 cases Ri (.slice a n c) (.slice a n c)<;>cases Rh (.slice a n c) (.slice a n c)<;>rfl
theorem qh:∀{l:List Value},(∀v∈l,gK v v=true)→xx l l=true
 |[],_=>rfl
 |x::l,h=>by
  show av (gK x x) (xx l l) false=true
  rw[h x (List.mem_cons_self ..),qh fun v hv=>h v (List.mem_cons_of_mem _ hv)];rfl
theorem iV{A B:ae}{r o n:Nat}{ty:TypeId}{cs:List Value}{a b:ae}(hA:Bk A r ty cs)(hB:Bk B r ty cs)(hn:o +n≤cs.length)(hs:∀v∈(cs.drop o).take n,gK v v=true):fQ ⟨2,0,0,0,A,B⟩ ⟨4,r,o,n,a,b⟩=true:=
 uP (hA.read hn) (hB.read hn) (qh hs)
def g8(c:Cl):Cl:=⟨av (Nat.beq c.k 2) 7 c.k,0,0,0,hh0,hh0⟩
def Yv(T:Cl→Prop)(c:Cl):Prop:=(c.k=2→T c)∧(c.k=4→∀w,T w→fQ w c=true)
theorem Ty{x y:Cl}{b:Bool}(x3:x.k≠3)(y3:y.k≠3)(h:aS (g8 y) (g8 x) b=true)(hx:y.k=2→x.k=4→fQ y x=true)(hy:x.k=2→y.k=4→fQ x y=true):aS y x b=true:=by
 refine CJ ?_ hx hy
 have e:∀c:Cl,c.k≠3→(g7 c).k=(g8 c).k∧(g7 c).k≠3∧(g7 c).k≠2:=fun c hc=>by
  by_cases h2:c.k=2
  ·rw[Tu h2];unfold g8;rw[h2];exact⟨rfl,by decide,by decide⟩
  ·rw[Tv h2];unfold g8;rw[qB h2];exact⟨rfl,hc,h2⟩
 obtain⟨e1,e2,e3⟩:=e x x3
 obtain⟨f1,f2,f3⟩:=e y y3
 have g1:(g8 x).k≠3:=by rw[←e1];exact e2
 have g2:(g8 y).k≠3:=by rw[←f1];exact f2
 have g3:(g8 x).k≠2:=by rw[←e1];exact e3
 have g4:(g8 y).k≠2:=by rw[←f1];exact f3
 unfold aS at h⊢
 rw[qB g1,qB g2,qB g3,qB g4]at h
 rw[qB e2,qB f2,qB e3,qB f3,e1,f1]
 exact h
theorem Tz{T:Cl→Prop}:∀(ms:List Nat)(l:List Cl),wz (Yv T) l→(∀c∈l,c.k≠3)→pairs aS ms (l.map g8)=true→pairs aS ms l=true:=by
 have row:∀(x:Cl)(k:Nat)(l:List Cl),Yv T x→x.k≠3→wz (Yv T) l→(∀c∈l,c.k≠3)→bW aS (g8 x) k (l.map g8)=true→bW aS x k l=true:=by
  intro x k l hx hx3
  induction l with
  |nil=>intro _ _ _;rfl
  |cons y l ih=>
   intro h h3 h1
   replace h1:av (aS (g8 x) (g8 y) (aV k (len (l.map g8)))) (bW aS (g8 x) k (l.map g8)) false=true:=h1
   obtain⟨h2,h4⟩:=tF h1
   show av (aS x y (aV k (len l))) (bW aS x k l) false=true
   rw[aM,List.length_map]at h2
   rw[aM,Ty (h3 y (List.mem_cons_self ..)) hx3 h2 (fun a b=>h.1.2 b x (hx.1 a)) (fun a b=>hx.2 b y (h.1.1 a)),ih h.2 (fun c hc=>h3 c (List.mem_cons_of_mem _ hc)) h4];rfl
 intro ms
 induction ms with
 |nil=>intro l _ _ _;rfl
 |cons k ms ih=>
  intro l h h3 h1
  cases l with
  |nil=>rfl
  |cons x l=>
   replace h1:av (bW aS (g8 x) k (l.map g8)) (pairs aS ms (l.map g8)) false=true:=h1
   obtain⟨h2,h4⟩:=tF h1
   show av (bW aS x k l) (pairs aS ms l) false=true
   rw[row x k l h.1 (h3 x (List.mem_cons_self ..)) h.2 (fun c hc=>h3 c (List.mem_cons_of_mem _ hc)) h2,ih l h.2 (fun c hc=>h3 c (List.mem_cons_of_mem _ hc)) h4];rfl
theorem Gi{ops:Array Oper}{l:List Cl}{T:Cl→Prop}{K:Prop}(h3:all' (fun c=>!(Nat.beq c.k 3)) (l.map g8)=true)(h:pairs aS (jH ops.toList [] 0) (l.map g8)=true)(k:K)(hr:wz (Yv T) l):bO ops l=true∧K:=by
 refine⟨?_,k⟩
 unfold bO
 have:pairs aS (jH ops.toList [] 0) l=true:=by
  refine Tz _ l hr (fun c hc e=>?_) h
  rw[all_eq,List.all_eq_true]at h3
  have:=h3 (g8 c) (List.mem_map_of_mem hc)
  unfold g8 at this
  rw[e]at this
  cases this
 rw[this]
 cases noTwo l<;>rfl
theorem PT{T:Cl→Prop}:∀(ms:List Nat)(l:List Cl),wz (Yv T) l→pairs aS ms (l.map g7)=true→pairs aS ms l=true:=by
 have row:∀(x:Cl)(k:Nat)(l:List Cl),Yv T x→wz (Yv T) l→bW aS (g7 x) k (l.map g7)=true→bW aS x k l=true:=by
  intro x k l hx
  induction l with
  |nil=>intro _ _;rfl
  |cons y l ih=>
   intro h h1
   replace h1:av (aS (g7 x) (g7 y) (aV k (len (l.map g7)))) (bW aS (g7 x) k (l.map g7)) false=true:=h1
   obtain⟨h2,h3⟩:=tF h1
   show av (aS x y (aV k (len l))) (bW aS x k l) false=true
   rw[aM,List.length_map]at h2
   rw[aM,CJ h2 (fun a b=>h.1.2 b x (hx.1 a)) (fun a b=>hx.2 b y (h.1.1 a)),ih h.2 h3];rfl
 intro ms
 induction ms with
 |nil=>intro l _ _;rfl
 |cons k ms ih=>
  intro l h h1
  cases l with
  |nil=>rfl
  |cons x l=>
   replace h1:av (bW aS (g7 x) k (l.map g7)) (pairs aS ms (l.map g7)) false=true:=h1
   obtain⟨h2,h3⟩:=tF h1
   show av (bW aS x k l) (pairs aS ms l) false=true
   rw[row x k l h.1 h.2 h2,ih l h.2 h3];rfl
theorem Xd{ops:Array Oper}{C:Nat→List Cl}{a:Nat}{T:Cl→Prop}{K:Prop}(hC:(C a).map g7=((C 1).map g7).map (jX (g3 a 0 0 0)))(hk:all' (tC 1) ((C 1).map g7)=true)(h:pairs aS (jH ops.toList [] 0) ((C 1).map g7)=true)(k:K)(hr:wz (Yv T) (C a)):bO ops (C a)=true∧K:=by
 refine⟨?_,k⟩
 unfold bO
 have:pairs aS (jH ops.toList [] 0) (C a)=true:=by
  refine PT (T:=T) _ _ hr ?_
  rw[hC]
  rw[all_eq,List.all_eq_true]at hk
  refine CF (m:=1) (fun i j h1 h2 h3 h4 e=>by omega) _ _ hk ?_
  rw[NP]
  exact h
 rw[this]
 cases noTwo (C a)<;>rfl
theorem Xe{S:List Nat}{X H3:ae}{r o n k:Nat}{vs:List Value}{a b:ae}{w:Cl}(hw:w.a=X∧w.b=H3)(hx:kP S (hN X) H3)(hr:r<X.next)(hn:r∉S)(h:X.read r o n=some vs)(hs:∀v∈vs,gK v v=true):fQ w ⟨k,r,o,n,a,b⟩=true:=by
 unfold fQ
 rw[hw.1,hw.2]
 have h2:H3.read r o n=some vs:=(mD (hx.obj r hr hn) o n).trans h
 exact uP h h2 (qh hs)
theorem abE{H:ae}{r o:Nat}{v:Value}(h:H.cell r o=some v):H.read r o 1=some [v]:=by
 unfold ae.cell at h
 cases hr:H.obj r with
 |row R=>
  rw[hr]at h
  replace h:gd (Nat.ble (Nat.succ o) R.n) (some (R.cells.get top o))=some v:=h
  cases hb:Nat.ble (Nat.succ o) R.n with
  |false=>rw[hb]at h;cases h
  |true=>
   rw[hb]at h
   have h:some (R.cells.get top o)=some v:=h
   show(aj (kg (H.obj r)) fun w=>gd (Nat.ble (Nat.add o 1) w.n) (some (Tr.vK top w.cells o 1)))=_
   rw[hr]
   show gd (Nat.ble (Nat.succ o) R.n) (some (Tr.vK top R.cells o 1))=_
   rw[hb,Tr.l7,Tr.rZ]
   rw[Option.some.inj h];rfl
 |_=>rw[hr]at h;cases h
theorem PV(r o:Nat):pP (.pointer (some ⟨r,o,none⟩)) (.pointer (some ⟨r,o,none⟩))=true:=by
 have h:Rh (.pointer (some ⟨r,o,none⟩)) (.pointer (some ⟨r,o,none⟩))=true:=by
  show gU (gd (Nat.beq r r&&Nat.beq o o&&true&&true) (some ()))=true
  rw[Nat.beq_refl,Nat.beq_refl];rfl
 unfold pP
 rw[h];rfl
theorem CK{f:Value→Value→Bool}:∀{l:List Value},(∀v∈l,f v v=true)→qC f l l=true
 |[],_=>rfl
 |x::l,h=>by
  show av (f x x) (qC f l l) false=true
  rw[h x (List.mem_cons_self ..),CK fun v hv=>h v (List.mem_cons_of_mem _ hv)];rfl
theorem TA(g:Nat){l:List Value}(h:∀v∈l,∃r,v=.pointer (some ⟨r,0,none⟩)):gK (.func (.func g) ⟨[]⟩ ⟨l⟩) (.func (.func g) ⟨[]⟩ ⟨l⟩)=true:=by
 have h0:MU pP (.func (.func g) ⟨[]⟩ ⟨l⟩) (.func (.func g) ⟨[]⟩ ⟨l⟩)=true:=by
  show gU (gd (Nat.beq g g&&qC pP [] []&&qC pP l l) (some ()))=true
  rw[Nat.beq_refl,show qC pP [] []=true from rfl,CK (l:=l) fun v hv=>by obtain⟨r,rfl⟩:=h v hv;exact PV r 0];rfl
 unfold gK vP
 rw[h0]
 cases pP (.func (.func g) ⟨[]⟩ ⟨l⟩) (.func (.func g) ⟨[]⟩ ⟨l⟩)<;>rfl
end Go.Ae
