/-
  Part 3 of the proof. No condition.
-/
import Derived.Test.YtdkcdlnfeodaaaaGreatDoorY02
set_option linter.unusedVariables false
set_option linter.unusedSimpArgs false
namespace Go.Ae
section mem
variable{P:Program}{m:Mp}{H:aa}{w:World}
theorem Vd{args args':List Value}{v:Value}(hl:args.length=1)(hv:args[0]?=some v)(ha:dh m args args'):
 ∃v',VR m v v'∧(Extern.AbiNoEscape.same ⟨args'⟩).run P w=.ok v' w:=by
 obtain⟨v',h0,hr⟩:=ha.get 0 hv
 have hl':args'.length=1:=by rw[←ha.length,hl]
 have he:args'=[v']:=by
  match args',hl',h0 with
  |[y],_,h0=>cases h0;rfl
 subst he
 exact⟨v',hr,rfl⟩
theorem QD(c:Nat)(hc:c≤255):∀(l:List UInt8)(k:Nat),(mO c l k=none∧Lib.indexByte l c.toUInt8=-1)∨∃j,mO c l k=some (k +j)∧Lib.indexByte l c.toUInt8=j:=by
 intro l
 induction l with
 |nil=>intro k;exact .inl ⟨rfl,rfl⟩
 |cons b l ih=>
  intro k
  have hbc:Nat.beq b.toNat c=(b==c.toUInt8):=by
   rw[Bool.eq_iff_iff,beq_iff_eq]
   constructor
   ·intro h
    have:=Nat.eq_of_beq_eq_true h
    rw[←this];simp
   ·intro h
    rw[h]
    have h2:c.toUInt8.toNat=c:=by simp;omega
    rw[h2]
    exact Nat.beq_refl c
  show(av (Nat.beq b.toNat c) (some k) (mO c l (k +1))=none∧_)∨∃j,av (Nat.beq b.toNat c) (some k) (mO c l (k +1))=some (k +j)∧_
  rw[hbc]
  cases hh:(b==c.toUInt8)with
  |true=>exact .inr ⟨0,rfl,by simp[Lib.indexByte,hh]⟩
  |false=>
   rcases ih (k +1)with⟨h1,h2⟩|⟨j,h1,h2⟩
   ·exact .inl ⟨h1,by simp[Lib.indexByte,hh,h2]⟩
   ·refine .inr ⟨j +1,by show mO c l (k +1)=_;rw[h1];congr 1;omega,?_⟩
    have:((j:Int)==-1)=false:=by rw[beq_eq_false_iff_ne];omega
    simp[Lib.indexByte,hh,h2,this]
theorem GU{args args':List Value}{q:ByteArray×Nat}(h:Be args=some q)(ha:dh m args args'):args'=[.string q.1,.int .u8 q.2]∧q.2≤255:=by
 (replace h:=ah h;obtain⟨s,hs,h⟩:=h)
 (replace h:=ah h;obtain⟨b,hb,h⟩:=h)
 (replace h:=ah h;obtain⟨c,hc,h⟩:=h)
 (replace h:=ah h;obtain⟨p,hp,h⟩:=h)
 (replace h:=ah h;obtain⟨n,hn,h⟩:=h)
 (replace h:=aH h;obtain⟨hg,h⟩:=h)
 cases h
 rw[fC]at hs hc
 simp only[Bool.and_eq_true,aO]at hg
 have hl:=Nat.eq_of_beq_eq_true hg.2
 have hle:=Nat.le_of_ble_eq_true hg.1.2
 obtain⟨s',h0,hr0⟩:=ha.get 0 hs
 obtain⟨c',h1,hr1⟩:=ha.get 1 hc
 have hl':args'.length=2:=by rw[←ha.length,hl]
 have he:args'=[s',c']:=by
  match args',hl',h0,h1 with
  |[y,z],_,h0,h1=>cases h0;cases h1;rfl
 rw[fJ hb]at hr0
 rw[gN hp,EI hn]at hr1
 have:=hr0.jU;subst this
 have:=hr1.of_int;subst this
 have hk:p.1=.u8:=by
  have:=hg.1.1
  cases hp1:p.1<;>rw[hp1]at this<;>first|rfl|(simp[AU]at this)
 rw[he,hk]
 exact⟨rfl,hle⟩
theorem E7{args args':List Value}{q:ByteArray×Nat}(h:Be args=some q)(ha:dh m args args'):
 VR m (Jw (mO q.2 q.1.data.toList 0)) (Jw (mO q.2 q.1.data.toList 0))∧(Extern.BytealgIndexByte.indexByte ⟨args'⟩).run P w=.ok (Jw (mO q.2 q.1.data.toList 0)) w:=by
 obtain⟨rfl,hle⟩:=GU h ha
 have hr:=Lib.run_indexByteString (P:=P) q.1 (q.2:Int) w
 rw[Int.toNat_natCast]at hr
 rcases QD q.2 hle q.1.data.toList 0 with⟨h1,h2⟩|⟨j,h1,h2⟩
 ·rw[h1]
  rw[h2]at hr
  exact⟨.sc _ rfl,hr⟩
 ·rw[h1,Nat.zero_add]
  rw[h2]at hr
  exact⟨.sc _ rfl,hr⟩
theorem N7(c:Nat)(hc:c≤255):∀(l:List UInt8),countB c l=Lib.countByte l c.toUInt8:=by
 intro l
 induction l with
 |nil=>rfl
 |cons b l ih=>
  have hbc:Nat.beq b.toNat c=(b==c.toUInt8):=by
   rw[Bool.eq_iff_iff,beq_iff_eq]
   constructor
   ·intro h
    have:=Nat.eq_of_beq_eq_true h
    rw[←this];simp
   ·intro h
    rw[h]
    have h2:c.toUInt8.toNat=c:=by simp;omega
    rw[h2]
    exact Nat.beq_refl c
  show av (Nat.beq b.toNat c) (Nat.succ (countB c l)) (countB c l)=_
  rw[hbc,ih]
  unfold Lib.countByte
  rw[List.count_cons]
  cases hh:(b==c.toUInt8)<;>rfl
theorem E8{args args':List Value}{q:ByteArray×Nat}(h:Be args=some q)(ha:dh m args args'):
 VR m (.int .i64 (.ofNat (countB q.2 q.1.data.toList))) (.int .i64 (.ofNat (countB q.2 q.1.data.toList)))∧(Extern.BytealgCount.count ⟨args'⟩).run P w=.ok (.int .i64 (.ofNat (countB q.2 q.1.data.toList))) w:=by
 obtain⟨rfl,hle⟩:=GU h ha
 have hr:=Lib.run_countString (P:=P) q.1 (q.2:Int) w
 rw[Int.toNat_natCast,←N7 _ hle]at hr
 exact⟨.sc _ rfl,hr⟩
end mem
end Go.Ae
namespace Go.Ae
section mem
variable{P:Program}{m:Mp}{H:aa}{w:World}
theorem QE(rh:RH m H w){s d:TypeId}{x x' v:Value}{H':aa}(h:kC P s d x H=some (v,H'))(hx:VR m x x'):jK P m H w (convert s d x') v H':=by
 (replace h:=ah h;obtain⟨q,hq,h⟩:=h)
 replace hq:(ai (P.underlying s) fun x=>ai (P.underlying d) fun y=>
  av (rH x) (ai (Gg P d) fun q=>some (1,q)) (av (rH y) (ai (Gg P s) fun q=>some (2,q))
   (av (wS y) (ai (wR x) fun e=>some (3,e,0)) (av (wS x) (ai (wR y) fun e=>some (4,e,0)) none))))=some q:=hq
 obtain⟨ds,hds,h1⟩:=ah hq;clear hq
 obtain⟨dd,hdd,hq⟩:=ah h1;clear h1
 cases h1:rH ds with
 |true=>
  rw[h1]at hq
  obtain⟨q1,hq1,hq2⟩:=ah hq
  cases hq2
  obtain⟨hu,_⟩:=pG hq1
  have h:vG P q1 x H=some (v,H'):=h
  exact GM rh h hx hds hu
 |false=>
  rw[h1]at hq
  replace hq:(av (rH dd) (ai (Gg P s) fun q=>some (2,q))
   (av (wS dd) (ai (wR ds) fun e=>some (3,e,0)) (av (wS ds) (ai (wR dd) fun e=>some (4,e,0)) none)))=some q:=hq
  cases h2:rH dd with
  |true=>
   rw[h2]at hq
   obtain⟨q1,hq1,hq2⟩:=ah hq
   cases hq2
   obtain⟨hu,_⟩:=pG hq1
   have h:vH P q1 x H=some (v,H'):=h
   exact GN rh h hx hu (by rw[hdd,wW h2])
  |false=>
   rw[h2]at hq
   replace hq:(av (wS dd) (ai (wR ds) fun e=>some (3,e,0)) (av (wS ds) (ai (wR dd) fun e=>some (4,e,0)) none))=some q:=hq
   cases h3:wS dd with
   |true=>
    rw[h3]at hq
    obtain⟨e,he,hq2⟩:=ah hq
    cases hq2
    have h:Ba P e x H=some (v,H'):=h
    exact yE rh h hx (by rw[hds,Ao he]) h3 hdd
   |false=>
    rw[h3]at hq
    replace hq:(av (wS ds) (ai (wR dd) fun e=>some (4,e,0)) none)=some q:=hq
    cases h4:wS ds with
    |false=>rw[h4]at hq;cases hq
    |true=>
     rw[h4]at hq
     obtain⟨e,he,hq2⟩:=ah hq
     cases hq2
     have h:Bb P e x H=some (v,H'):=h
     exact yF rh h hx h4 hds (by rw[hdd,Ao he])
end mem
end Go.Ae
namespace Go.Ae
section mem
variable{P:Program}{m:Mp}{H:aa}{w:World}
theorem ja{o:Option Value}{v:Value}(h:rp o=.rJ v):o=some v:=by
 cases o with
 |none=>cases h
 |some x=>cases h;rfl
theorem vP{o:Option Value}{v:Value}{H:aa}(h:rp o=.mem v H):False:=by cases o<;>cases h
theorem dP{o:Option (Value×aa)}{v:Value}{H:aa}(h:rm o=.mem v H):o=some (v,H):=by
 cases o with
 |none=>cases h
 |some x=>cases h;rfl
theorem pJ{o:Option (Value×aa)}{v:Value}(h:rm o=.rJ v):False:=by cases o<;>cases h
theorem LK{o:Option Value}{q:Option (Value×aa)}{v:Value}(h:ZZ o (rm q)=.rJ v):o=some v:=by
 cases o with
 |none=>exact(pJ (o:=q) h).elim
 |some x=>cases h;rfl
theorem LM{o:Option Value}{q:Option (Value×aa)}{v:Value}{H:aa}(h:ZZ o (rm q)=.mem v H):q=some (v,H):=by
 cases o with
 |none=>exact dP (o:=q) h
 |some x=>cases h
structure Gh(m:Mp)(s:St)(ρ:Operand→Value)(L:List Operand):Prop where
 all:∀x,x∈L→VR m (ev s x) (ρ x)
theorem Gh.list{s:St}{ρ:Operand→Value}{L:List Operand}(e:Gh m s ρ L):∀l:List Operand,(∀x,x∈l→x∈L)→dh m (mp (ev s) l) (l.map ρ)
 |[],_=>.nil
 |x::l,h=>.cons _ _ _ _ (e.all x (h x (by simp))) (e.list l fun y hy=>h y (by simp[hy]))
theorem Gh.opt{s:St}{ρ:Operand→Value}{L:List Operand}(e:Gh m s ρ L):∀o:Option Operand,(∀x,x∈o→x∈L)→OR m (zX s o) (o.map ρ)
 |none,_=>.nn
 |some x,h=>.ss _ _ (e.all x (h x rfl))
theorem Gh.pairs{s:St}{ρ:Operand→Value}{L:List Operand}(e:Gh m s ρ L)(ps:Array (Nat×Operand))(h:∀x,x∈ps.toList→x.2∈L):WO m (EG s ps) (ps.map fun(i,x)=>(i,ρ x)).toList:=by
 obtain⟨l⟩:=ps
 have:∀l:List (Nat×Operand),(∀x,x∈l→x.2∈L)→WO m (mp (fun p=>(p.1,ev s p.2)) l) (l.map fun(i,x)=>(i,ρ x)):=by
  intro l
  induction l with
  |nil=>intro _;exact .nil
  |cons x l ih=>intro h;exact .cons _ _ _ _ _ (e.all x.2 (h x (by simp))) (ih fun y hy=>h y (by simp[hy]))
 simpa [EG]using this l h
def Ve(P:Program)(m:Mp)(v:Value)(s:Sem Next):Prop:=∃v',VR m v v'∧∀w,s.run P w=.ok (.value v') w
theorem fM{m:Mp}{v v':Value}{s:Sem Value}(h:VR m v v')(hs:∀w,s.run P w=.ok v' w):Ve P m v (do pure (.value (←s))):=
 ⟨v',h,fun w=>by simp[hs]⟩
theorem GV{b:Builtin}{ats:List TypeId}{ty:TypeId}{cs:Array Bool}{args args':List Value}{v:Value}(h:pQ b ats args P H=.rJ v)(ha:dh m args args'):
 Ve P m v (builtin b ⟨ats⟩ ty cs ⟨args'⟩):=by
 cases b
 case cap=>
  have h:=ja (o:=one (Gx P) ats args) h
  obtain⟨h1,h2⟩:=U1 (t:=ty) h ha
  exact fM h1 h2
 case complex=>
  have h:=ja (o:=sw args) h
  obtain⟨h1,h2⟩:=JF (P:=P) (ats:=⟨ats⟩) (t:=ty) h ha
  exact fM h1 h2
 case imag=>
  have h:=ja (o:=Gz args) h
  obtain⟨h1,h2⟩:=U5 (P:=P) (ats:=⟨ats⟩) (t:=ty) h ha
  exact fM h1 h2
 case real=>
  have h:=ja (o:=Gy args) h
  obtain⟨h1,h2⟩:=U4 (P:=P) (ats:=⟨ats⟩) (t:=ty) h ha
  exact fM h1 h2
 case len=>
  have h:=LK (o:=one (AZ P) ats args) (q:=Bc P ats args H) h
  obtain⟨h1,h2⟩:=U0 (t:=ty) h ha
  exact fM h1 h2
 case max=>
  have h:=ja (o:=PX true args) h
  obtain⟨v',h1,h2⟩:=Qi (P:=P) (ats:=⟨ats⟩) (t:=ty) h ha
  exact fM h1 h2
 case min=>
  have h:=ja (o:=PX false args) h
  obtain⟨v',h1,h2⟩:=Qi (P:=P) (ats:=⟨ats⟩) (t:=ty) h ha
  exact fM h1 h2
 case append=>exact(pJ (o:=uw P ats args H) h).elim
 case copy=>exact(pJ (o:=DD P ats args H) h).elim
 case clear=>exact(pJ (o:=yw P ats args H) h).elim
 case delete=>exact(pJ (o:=wT P ats args H) h).elim
 all_goals first|cases h|exact(pJ (o:=wU args H) h).elim|exact(pJ (o:=lz P ats args H) h).elim
theorem E9{cf:cr}{s:St}{o:Oper}{ρ:Operand→Value}{v:Value}(h:mV o.op P cf s=.rJ v)(e:Gh m s ρ o.op.operands.toList)(hc:∀c,ρ (.const c)=c):Ve P m v (execOp ρ o):=by
 cases hop:o.op
 case move x=>
  rw[hop]at h e;cases h
  exact⟨ρ x,e.all x (by simp[Op.operands,Call.operands]),fun w=>by simp[execOp,hop]⟩
 case assign x=>
  rw[hop]at h e;cases h
  exact⟨ρ x,e.all x (by simp[Op.operands,Call.operands]),fun w=>by simp[execOp,hop]⟩
 case pick c a b=>
  rw[hop]at h e
  have h:=ja (o:=AY (ev s c) (ev s a) (ev s b)) h
  obtain⟨v',h1,h2⟩:=UX (P:=P) h (e.all c (by simp[Op.operands,Call.operands])) (e.all a (by simp[Op.operands,Call.operands])) (e.all b (by simp[Op.operands,Call.operands]))
  have:=fM h1 h2
  refine⟨v',h1,fun w=>?_⟩
  have h2:=h2 w
  simp only[execOp,hop]
  simp only[Sem.run_bind]at h2⊢
  cases hr:(asBool (ρ c)).run P w with
  |ok b' w'=>rw[hr]at h2;simp only[Result.andThen_ok,Sem.run_pure]at h2⊢;cases h2;rfl
  |halt x w'=>rw[hr]at h2;cases h2
 case build t ps=>
  rw[hop]at h e
  have h:=ja (o:=su P t (EG s ps)) h
  obtain⟨v',h1,h2⟩:=Qr h (e.pairs ps (by intro x hx;simp[Op.operands];exact⟨x.1,by simpa using hx⟩))
  have:Ve P m v (do pure (.value (←Instr.build t (ps.map fun(i,x)=>(i,ρ x))))):=fM h1 h2
  simp only[execOp,hop]
  exact this
 case nilCheck x=>
  rw[hop]at h e
  have h:=ja (o:=EC (ev s x)) h
  obtain⟨h1,h2⟩:=GI (P:=P) h (e.all x (by simp[Op.operands,Call.operands])) ρ o x hop rfl
  exact⟨_,h1,h2⟩
 case binOp op t x y z=>
  rw[hop]at h e
  have h:=ja (o:=eG P op t x y (ev s x) (ev s y)) h
  obtain⟨h1,h2⟩:=Yn h (e.all x (by simp[Op.operands,Call.operands])) (e.all y (by simp[Op.operands,Call.operands])) (fun c hx=>by subst hx;rfl) (fun c hy=>by subst hy;rfl)
  have:=fM h1 h2
  simpa [execOp,hop]using this
 case unOp op t x=>
  rw[hop]at h e
  have h:=ja (o:=bP (Op.unary op (ev s x))) h
  obtain⟨h1,h2⟩:=UY (P:=P) h (e.all x (by simp[Op.operands,Call.operands]))
  have:=fM h1 h2
  simpa [execOp,hop]using this
 case convert a b x=>
  rw[hop]at h e
  have h:=LK (o:=uY P a b (ev s x)) (q:=kC P a b (ev s x) s.H) h
  obtain⟨h1,h2⟩:=UZ h (e.all x (by simp[Op.operands,Call.operands]))
  have:=fM h1 h2
  simpa [execOp,hop]using this
 case makeInterface t x=>
  rw[hop]at h e
  have h:=ja (o:=Jv P t (ev s x)) h
  obtain⟨v',h1,h2⟩:=Yo h (e.all x (by simp[Op.operands,Call.operands]))
  have:=fM h1 h2
  simpa [execOp,hop]using this
 case makeFunc f fi ca=>
  rw[hop]at h e
  cases h
  refine⟨.func f (fi.map ρ) (ca.map ρ),?_,fun w=>by simp[execOp,hop,Instr.makeFunc]⟩
  obtain⟨fi⟩:=fi
  obtain⟨ca⟩:=ca
  have:=VR.func f _ _ _ _ (e.list fi (by intro x hx;simp[Op.operands,Call.operands,hx])) (e.list ca (by intro x hx;simp[Op.operands,Call.operands,hx]))
  simpa using this
 case slice t x lo hi mx=>
  rw[hop]at h e
  have h:=ja (o:=pE P t (ev s x) (zX s lo) (zX s hi) (zX s mx)) h
  obtain⟨v',h1,h2⟩:=Qm h (e.all x (by simp[Op.operands,Call.operands])) (e.opt lo (by intro x hx;simp[Op.operands]at hx⊢;simp[hx])) (e.opt hi (by intro x hx;simp[Op.operands]at hx⊢;simp[hx])) (e.opt mx (by intro x hx;simp[Op.operands]at hx⊢;simp[hx]))
  have:=fM h1 h2
  simpa [execOp,hop]using this
 case fieldAddr t x f=>
  rw[hop]at h e
  have h:=ja (o:=iO P t (ev s x) f) h
  obtain⟨v',h1,h2⟩:=ER h (e.all x (by simp[Op.operands,Call.operands]))
  have:=fM h1 h2
  simpa [execOp,hop]using this
 case field t x f=>
  rw[hop]at h e
  have h:=ja (o:=si P t (ev s x) f) h
  obtain⟨v',h1,h2⟩:=Qb h (e.all x (by simp[Op.operands,Call.operands]))
  have:=fM h1 h2
  simpa [execOp,hop]using this
 case indexAddr t x i=>
  rw[hop]at h e
  have h:=ja (o:=iN P t (ev s x) (ev s i)) h
  obtain⟨v',h1,h2⟩:=EP h (e.all x (by simp[Op.operands,Call.operands])) (e.all i (by simp[Op.operands,Call.operands]))
  have:=fM h1 h2
  simpa [execOp,hop]using this
 case index t x i=>
  rw[hop]at h e
  have h:=ja (o:=r_ P t (ev s x) (ev s i)) h
  obtain⟨v',h1,h2⟩:=Qa h (e.all x (by simp[Op.operands,Call.operands])) (e.all i (by simp[Op.operands,Call.operands]))
  have:=fM h1 h2
  simpa [execOp,hop]using this
 case extract t i=>
  rw[hop]at h e
  have h:=ja (o:=l8 (ev s t) i) h
  obtain⟨v',h1,h2⟩:=JE (P:=P) h (e.all t (by simp[Op.operands,Call.operands]))
  have:=fM h1 h2
  simpa [execOp,hop]using this
 case call c=>
  rw[hop]at h e
  replace h:kZ c P cf s=.rJ v:=h
  obtain⟨callee,⟨args⟩,ats⟩:=c
  cases callee with
  |value f=>exact(pJ h).elim
  |invoke r n=>exact(pJ h).elim
  |builtin b=>
   have h:pQ b ats.toList (mp (ev s) args) P s.H=.rJ v:=h
   obtain⟨cs,hcs⟩:∃cs,∀w,(execOp ρ o).run P w=(builtin b ⟨ats.toList⟩ o.type cs ⟨args.map ρ⟩).run P w:=
    ⟨args.toArray.map fun|.const _=>true|_=>false,fun w=>by
     simp only[execOp,hop,resolve,invoke,Sem.run_bind,Sem.run_pure,Result.andThen_ok,List.map_toArray]
     rfl⟩
   obtain⟨v',h1,h2⟩:=GV (P:=P) (ty:=o.type) (cs:=cs) h (e.list args (by intro x hx;simp[Op.operands,Call.operands,hx]))
   exact⟨v',h1,fun w=>by rw[hcs,h2]⟩
 all_goals(rw[hop]at h;first|cases h|exact(pJ h).elim|skip)
end mem
end Go.Ae
namespace Go.Ae
section mem
variable{P:Program}{m:Mp}{H:aa}{w:World}
def Gl(n:Nat)(m:Mp):Prop:=∀g,g<n→∃l,m g=some l∧l.c=g∧l.lo=0∧l.base=0
theorem Gl.mono{n:Nat}{m m':Mp}(h:Gl n m)(hm:Mp.le m m'):Gl n m':=fun g hg=>let⟨l,a,b⟩:=h g hg;⟨l,hm _ _ a,b⟩
def xg(P:Program)(n:Nat)(cf:cr):Prop:=∀g args v H H',cf g args H=some (v,H')→∀m w args',RH m H w→Gl n m→dh m args args'→
 ∀(o:Oper)(a:Act)(next:Act→World→Prop)(Q:Exit→Act→World→Prop),
  (∀m' v' w',VR m' v v'→RH m' H' w'→Ex m m' H H' w w'→next (a.put o.dst v') w')→o.upon P a next Q ((callFunc g ⟨args'⟩).run P w)
theorem eX{v:Value}{H':aa}{s:Sem Value}{o:Oper}{a:Act}{next:Act→World→Prop}{Q:Exit→Act→World→Prop}(h:jK P m H w s v H')
 (K:∀m' v' w',VR m' v v'→RH m' H' w'→Ex m m' H H' w w'→next (a.put o.dst v') w'):o.upon P a next Q ((do pure (.value (←s)):Sem Next).run P w):=by
 obtain⟨m',cv,w',h1,h2,h3,h4⟩:=h
 have:(do pure (.value (←s)):Sem Next).run P w=.ok (.value cv) w':=by simp[h1]
 rw[this]
 exact K m' cv w' h2 h3 h4
theorem yG{v:Value}{H':aa}{s:Sem Unit}{o:Oper}{a:Act}{next:Act→World→Prop}{Q:Exit→Act→World→Prop}
 (h:v=undef∧∃w',s.run P w=.ok () w'∧RH m H' w'∧Ex m m H H' w w')
 (K:∀m' v' w',VR m' v v'→RH m' H' w'→Ex m m' H H' w w'→next (a.put o.dst v') w'):o.upon P a next Q ((do s;pure .skip:Sem Next).run P w):=by
 obtain⟨rfl,w',h1,h3,h4⟩:=h
 have:(do s;pure .skip:Sem Next).run P w=.ok .skip w':=by simp[h1]
 rw[this]
 exact K m undef w' (.tuple [] [] .nil) h3 h4
theorem vQ{v v':Value}{s:Sem Value}{H':aa}(rh:RH m H w)(e:H'=H)(h:VR m v v')(hr:s.run P w=.ok v' w):jK P m H w s v H':=by
 subst e;exact⟨m,v',w,hr,h,rh,Ex.refl _ _ _⟩
theorem GX{b:Builtin}{ats:List TypeId}{ty:TypeId}{cs:Array Bool}{args args':List Value}{v:Value}{H':aa}(rh:RH m H w)(h:pQ b ats args P H=.mem v H')(ha:dh m args args')
 {o:Oper}{a:Act}{next:Act→World→Prop}{Q:Exit→Act→World→Prop}
 (K:∀m' v' w',VR m' v v'→RH m' H' w'→Ex m m' H H' w w'→next (a.put o.dst v') w'):o.upon P a next Q ((builtin b ⟨ats⟩ ty cs ⟨args'⟩).run P w):=by
 cases b
 case append=>exact eX (NS rh (dP (o:=uw P ats args H) h) ha) K
 case copy=>exact eX (Va rh (dP (o:=DD P ats args H) h) ha) K
 case clear=>exact eX (QB rh (dP (o:=yw P ats args H) h) ha) K
 case delete=>exact eX (NW rh (dP (o:=wT P ats args H) h) ha) K
 case len=>
  have h:=LM (o:=one (AZ P) ats args) (q:=Bc P ats args H) h
  obtain⟨e,h1,h2⟩:=U7 (t:=ty) rh h ha
  exact eX (vQ rh e h1 h2) K
 case cap=>exact(vP (o:=one (Gx P) ats args) h).elim
 case complex=>exact(vP (o:=sw args) h).elim
 case imag=>exact(vP (o:=Gz args) h).elim
 case real=>exact(vP (o:=Gy args) h).elim
 case max=>exact(vP (o:=PX true args) h).elim
 case min=>exact(vP (o:=PX false args) h).elim
 all_goals first
  |cases h
  |exact eX (NY (fun _ _ _ _ _=>rfl) (fun _ _ _ _ _ _=>rfl) rh (dP (o:=wU args H) h) ha) K
  |exact eX (GR ⟨_,_,_,_,_,fun _ _ _ _ _=>rfl⟩ rh (dP (o:=lz P ats args H) h) ha) K
theorem LP{cf:cr}{s:St}{o:Oper}{ρ:Operand→Value}{v:Value}{H':aa}(rh:RH m s.H w)(h:mV o.op P cf s=.mem v H')(e:Gh m s ρ o.op.operands.toList)
 {a:Act}{next:Act→World→Prop}{Q:Exit→Act→World→Prop}
 (hcall:∀c,o.op=.call c→isBuiltin c.callee=none→o.upon P a next Q ((execOp ρ o).run P w))
 (K:∀m' v' w',VR m' v v'→RH m' H' w'→Ex m m' s.H H' w w'→next (a.put o.dst v') w'):o.upon P a next Q ((execOp ρ o).run P w):=by
 cases hop:o.op
 case alloc t=>
  rw[hop]at h e
  simp only[execOp,hop]
  exact eX (Qv rh (dP h)) K
 case box t x=>
  rw[hop]at h e
  simp only[execOp,hop]
  exact eX (Yr rh (dP h) (e.all x (by simp[Op.operands,Call.operands]))) K
 case buildSlice t n ps=>
  rw[hop]at h e
  simp only[execOp,hop]
  exact eX (JJ rh (dP h) (e.pairs ps (by intro x hx;simp[Op.operands];exact⟨x.1,by simpa using hx⟩))) K
 case insert t x k y=>
  rw[hop]at h e
  simp only[execOp,hop]
  exact yG (DU rh (dP h) (e.all x (by simp[Op.operands,Call.operands])) (e.all k (by simp[Op.operands,Call.operands])) (e.all y (by simp[Op.operands,Call.operands]))) K
 case mapUpdate t x k y=>
  rw[hop]at h e
  simp only[execOp,hop]
  exact yG (DU rh (dP h) (e.all x (by simp[Op.operands,Call.operands])) (e.all k (by simp[Op.operands,Call.operands])) (e.all y (by simp[Op.operands,Call.operands]))) K
 case load t x=>
  rw[hop]at h e
  simp only[execOp,hop]
  obtain⟨h1,v',h2,h3⟩:=LH rh (dP h) (e.all x (by simp[Op.operands,Call.operands]))
  exact eX (vQ rh h1 h2 h3) K
 case store t x y=>
  rw[hop]at h e
  simp only[execOp,hop]
  exact yG (Qu rh (dP h) (e.all x (by simp[Op.operands,Call.operands])) (e.all y (by simp[Op.operands,Call.operands]))) K
 case convert c d x=>
  rw[hop]at h e
  simp only[execOp,hop]
  exact eX (QE rh (LM (o:=uY P c d (ev s x)) (q:=kC P c d (ev s x) s.H) h) (e.all x (by simp[Op.operands,Call.operands]))) K
 case makeMap t r=>
  rw[hop]at h e
  simp only[execOp,hop]
  exact eX (JN rh (dP h) (e.opt r (by intro x hx;simp[Op.operands]at hx⊢;simp[hx]))) K
 case makeSlice t l c=>
  rw[hop]at h e
  simp only[execOp,hop]
  exact eX (EX rh (dP h) (e.all l (by simp[Op.operands,Call.operands])) (e.all c (by simp[Op.operands,Call.operands]))) K
 case lookup t x k ok=>
  rw[hop]at h e
  simp only[execOp,hop]
  obtain⟨h1,v',h2,h3⟩:=NM rh (dP h) (e.all x (by simp[Op.operands,Call.operands])) (e.all k (by simp[Op.operands,Call.operands]))
  exact eX (vQ rh h1 h2 h3) K
 case range t x=>
  rw[hop]at h e
  simp only[execOp,hop]
  exact eX (QC rh (dP h) (e.all x (by simp[Op.operands,Call.operands]))) K
 case next x b=>
  rw[hop]at h e
  simp only[execOp,hop]
  exact eX (Vb rh (dP h) (e.all x (by simp[Op.operands,Call.operands]))) K
 case call c=>
  rw[hop]at h e
  cases hb:isBuiltin c.callee with
  |none=>exact hcall c hop hb
  |some b=>
   obtain⟨callee,⟨args⟩,ats⟩:=c
   cases callee with
   |value f=>cases hb
   |invoke r n=>cases hb
   |builtin b=>
    have h:pQ b ats.toList (mp (ev s) args) P s.H=.mem v H':=h
    obtain⟨cs,hcs⟩:∃cs,∀w,(execOp ρ o).run P w=(builtin b ⟨ats.toList⟩ o.type cs ⟨args.map ρ⟩).run P w:=
     ⟨args.toArray.map fun|.const _=>true|_=>false,fun w=>by
      simp only[execOp,hop,resolve,invoke,Sem.run_bind,Sem.run_pure,Result.andThen_ok,List.map_toArray]
      rfl⟩
    rw[hcs]
    exact GX rh h (e.list args (by intro x hx;simp[Op.operands,Call.operands,hx])) K
 all_goals(rw[hop]at h;first|cases h|exact(vP h).elim)
end mem
end Go.Ae
namespace Go.Ae
section mem
variable{P:Program}{m:Mp}{H:aa}{w:World}
theorem GY{cf:cr}{n:Nat}(hcf:xg P n cf)(gl:Gl n m){s:St}{o:Oper}{ρ:Operand→Value}{v:Value}{H':aa}{f:Operand}{args:List Operand}{ats:Array TypeId}(rh:RH m s.H w)
 (hop:o.op=.call ⟨.value f,⟨args⟩,ats⟩)(h:kZ ⟨.value f,⟨args⟩,ats⟩ P cf s=.mem v H')(e:Gh m s ρ o.op.operands.toList)
 {a:Act}{next:Act→World→Prop}{Q:Exit→Act→World→Prop}
 (K:∀m' v' w',VR m' v v'→RH m' H' w'→Ex m m' s.H H' w w'→next (a.put o.dst v') w'):o.upon P a next Q ((execOp ρ o).run P w):=by
 replace h:rm (ai (ai (PO (ev s f)) fun q=>ai (Uw q.1) fun g=>some (g,q.2)) fun q=>cf q.1 (app q.2.1 (app (mp (ev s) args) q.2.2)) s.H)=.mem v H':=h
 replace h:=dP h
 (replace h:=ah h;obtain⟨q,hq,h⟩:=h)
 obtain⟨p,hp,hq⟩:=ah hq
 obtain⟨g,hg,hq⟩:=ah hq
 cases hq
 rw[hop]at e
 have hf:=e.all f (by simp[Op.operands,Call.operands])
 rw[EJ hp,EK hg]at hf
 obtain⟨p0,p1,p2⟩:=p
 obtain⟨x',y',hh,hx,hy⟩:=hf.P_
 have hargs:dh m (app p1 (app (mp (ev s) args) p2)) (x'++(args.map ρ++y')):=by
  rw[iY,iY]
  exact hx.append ((e.list args (by intro x hx;simp[Op.operands,Call.operands,hx])).append hy)
 have:=hcf _ _ _ _ _ h m w _ rh gl hargs o a next Q K
 have hr:(execOp ρ o).run P w=(callFunc g ⟨x'++(args.map ρ++y')⟩).run P w:=by
  simp only[execOp,hop,resolve,hh,Deferred.ofValue,invoke,Sem.run_bind,Sem.run_pure,Result.andThen_ok,List.map_toArray]
  congr 2
  rw[←Array.toList_inj];simp
 rw[hr]
 exact this
end mem
end Go.Ae
namespace Go.Ae
section mem
variable{P:Program}{m:Mp}{H:aa}{w:World}
theorem QF{d:TypeDesc}(h:l7 d=1):∃e,d=.pointer e:=by
 cases d<;>simp[l7]at h;exact⟨_,rfl⟩
theorem JR{t:TypeId}{name:String}{q:FuncId×Bool}{v:Value}(h:methodOf P t name=some q)(n:Nat)(w:World):(method (n +1) t v name).run P w=.ok (q.1,v) w:=by
 (replace h:=ah h;obtain⟨i,hi,h⟩:=h)
 (replace h:=ah h;obtain⟨mm,hmm,h⟩:=h)
 (replace h:=ah h;obtain⟨q',hq,h⟩:=h)
 (replace h:=ah h;obtain⟨d,hd,h⟩:=h)
 (replace h:=aH h;obtain⟨hg,h⟩:=h)
 cases h
 have hi:P.info? t=some i:=hi
 have hmm:i.methods.find? (·.name==name)=some mm:=by rw[←Array.find?_toList];exact hmm
 simp only[Bool.and_eq_true]at hg
 have hp:=Nat.eq_of_beq_eq_true hg.1
 rw[aO]at hp
 have hp:mm.path.toList=[]:=List.eq_nil_of_length_eq_zero hp
 obtain⟨f,b⟩:=q
 have hg2:=hg.2
 cases b with
 |true=>
  replace hg2:Nat.beq (l7 d) 1=true:=hg2
  obtain⟨e,rfl⟩:=QF (Nat.eq_of_beq_eq_true hg2)
  simp[method,nU hi,hmm,hp,follow,hq,receiverAt,aD hd,Place.get]
 |false=>
  replace hg2:(!(Nat.beq (l7 d) 1))=true:=hg2
  have hd1:∀e,d≠.pointer e:=by
   intro e he;subst he;simp[l7]at hg2
  cases d<;>first|exact absurd rfl (hd1 _)|simp[method,nU hi,hmm,hp,follow,hq,receiverAt,aD hd,Place.get]
theorem GZ{cf:cr}{n:Nat}(hcf:xg P n cf)(gl:Gl n m){s:St}{o:Oper}{ρ:Operand→Value}{v:Value}{H':aa}{r:Operand}{name:String}{args:List Operand}{ats:Array TypeId}(rh:RH m s.H w)
 (hop:o.op=.call ⟨.invoke r name,⟨args⟩,ats⟩)(h:kZ ⟨.invoke r name,⟨args⟩,ats⟩ P cf s=.mem v H')(e:Gh m s ρ o.op.operands.toList)
 {a:Act}{next:Act→World→Prop}{Q:Exit→Act→World→Prop}
 (K:∀m' v' w',VR m' v v'→RH m' H' w'→Ex m m' s.H H' w w'→next (a.put o.dst v') w'):o.upon P a next Q ((execOp ρ o).run P w):=by
 replace h:rm (ai (ai (vE (ev s r)) fun p=>ai (methodOf P p.1 name) fun q=>some (q.1,[p.2],([]:List Value))) fun q=>cf q.1 (app q.2.1 (app (mp (ev s) args) q.2.2)) s.H)=.mem v H':=h
 replace h:=dP h
 (replace h:=ah h;obtain⟨q,hq,h⟩:=h)
 obtain⟨p,hp,hq⟩:=ah hq
 obtain⟨g,hg,hq⟩:=ah hq
 cases hq
 rw[hop]at e
 have hf:=e.all r (by simp[Op.operands,Call.operands])
 rw[Nt hp]at hf
 obtain⟨x',hh,hx⟩:=hf.GA
 have hargs:dh m (app [p.2] (app (mp (ev s) args) [])) ([x']++(args.map ρ++[])):=by
  rw[iY,iY]
  exact(dh.cons _ _ _ _ hx .nil).append ((e.list args (by intro x hx;simp[Op.operands,Call.operands,hx])).append .nil)
 have:=hcf _ _ _ _ _ h m w _ rh gl hargs o a next Q K
 have hr:(execOp ρ o).run P w=(callFunc g.1 ⟨[x']++(args.map ρ++[])⟩).run P w:=by
  have hm:=JR (v:=x') hg (P.types.size +Made.depth -1) w
  have hd:P.types.size +Made.depth -1 +1=P.types.size +Made.depth:=by
   have:1≤Made.depth:=by decide
   omega
  rw[hd]at hm
  have ht:(List.map ρ args).take args.length=List.map ρ args:=List.take_of_length_le (by simp)
  simp[execOp,hop,resolve,invoke,callMethod,hh,hm,ht]
 rw[hr]
 exact this
end mem
end Go.Ae
namespace Go.Ae
noncomputable def vR(n:Nat)(x:Operand):Bool:=@Operand.rec (fun _=>Bool) (fun _=>true) (fun v=>eH v) (fun g=>Nat.ble (Nat.succ g) n) (fun _=>true) x
noncomputable def Bw(nt:Nat)(d:Option Nat):Bool:=@Option.rec Nat (fun _=>Bool) true (fun d=>Nat.ble (Nat.succ d) nt) d
noncomputable def lJ(n nt:Nat)(o:Oper):Bool:=all' (vR n) o.op.operands.toList&&Bw nt o.dst
section mem
variable{P:Program}{m:Mp}{H:aa}{w:World}
structure FR(m:Mp)(s:St)(a:Act):Prop where
 size:a.tmps.size=s.nt
 slot:∀t,VR m (aX s t) (a.tmps.getD t undef)
theorem FR.mono{m m':Mp}{s:St}{a:Act}(h:FR m s a)(hm:Mp.le m m'):FR m' s a:=⟨h.size,fun t=>(h.slot t).mono hm⟩
theorem FR.ev{m:Mp}{s:St}{a:Act}{n:Nat}(h:FR m s a)(g:Gl n m){L:List Operand}(hL:all' (vR n) L=true):Gh m s a.eval L:=by
 refine⟨fun x hx=>?_⟩
 rw[all_eq]at hL
 have hx:=List.all_eq_true.1 hL x hx
 cases x with
 |tmp t=>exact h.slot t
 |const v=>exact .sc v hx
 |global k=>
  obtain⟨l,h1,h2,h3,h4⟩:=g k (Nat.le_of_ble_eq_true hx)
  have:=VR.ptr (m:=m) k 0 l h1 (by omega)
  rw[h2,h3,h4]at this
  exact this
 |func f=>exact .func (.func f) [] [] [] [] .nil .nil
theorem FR.put{m:Mp}{s:St}{a:Act}{H':aa}{d:Option Nat}{v v':Value}(h:FR m s a)(hd:Bw s.nt d=true)(hv:VR m v v'):FR m (bG s d v H') (a.put d v'):=by
 cases d with
 |none=>exact⟨h.size,h.slot⟩
 |some d=>
  have hd:d<s.nt:=Nat.le_of_ble_eq_true hd
  have hget:∀t,(a.tmps.setIfInBounds d v').getD t undef=if t=d then v' else a.tmps.getD t undef:=by
   intro t
   by_cases e:t=d
   ·subst e
    rw[if_pos rfl]
    simp[Array.getD,h.size,hd]
   ·rw[if_neg e]
    simp only[Array.getD_eq_getD_getElem?]
    rw[Array.getElem?_setIfInBounds_ne (Ne.symm e)]
  show FR m (gX s d v H') {a with tmps:=a.tmps.setIfInBounds d v'}
  unfold gX
  cases hb:aS s.nl d with
  |true=>
   show FR m ⟨s.nl,s.nt,s.reg,av (Nat.ble (Nat.succ d) s.nt) (s.tm.set top d v) s.tm,s.df,H'⟩ _
   rw[show Nat.ble (Nat.succ d) s.nt=true from Nat.ble_eq_true_of_le hd]
   refine⟨by simpa using h.size,fun t=>?_⟩
   rw[hget]
   have hl:=h.slot t
   unfold aX at hl⊢
   simp only at hl⊢
   by_cases e:t=d
   ·subst e
    rw[if_pos rfl,hb]
    show VR m ((s.tm.set top t v).get top t) v'
    rw[Tr.jP,if_pos rfl];exact hv
   ·rw[if_neg e]
    cases hbt:aS s.nl t with
    |true=>
     rw[hbt]at hl
     show VR m ((s.tm.set top d v).get top t) _
     rw[Tr.jP,if_neg e];exact hl
    |false=>rw[hbt]at hl;exact hl
  |false=>
   show FR m ⟨s.nl,s.nt,(d,v)::s.reg,s.tm,s.df,H'⟩ _
   refine⟨by simpa using h.size,fun t=>?_⟩
   rw[hget]
   have hl:=h.slot t
   unfold aX at hl⊢
   simp only at hl⊢
   by_cases e:t=d
   ·subst e
    rw[if_pos rfl,hb]
    show VR m (av (Nat.beq t t) v (look s.reg t)) v'
    rw[show Nat.beq t t=true from Nat.beq_refl t];exact hv
   ·rw[if_neg e]
    cases hbt:aS s.nl t with
    |true=>rw[hbt]at hl;exact hl
    |false=>
     rw[hbt]at hl
     show VR m (av (Nat.beq d t) v (look s.reg t)) _
     rw[show Nat.beq d t=false from by rw[←Bool.not_eq_true];exact fun g=>e (Nat.eq_of_beq_eq_true g).symm];exact hl
end mem
end Go.Ae
namespace Go.Ae
section mem
variable{P:Program}{m:Mp}{H:aa}{w:World}
theorem QG{v:Value}(h:Z0 v=true):v=.tuple #[]:=by
 cases v with
 |tuple l=>
  obtain⟨l⟩:=l
  have h:Nat.beq (len l) 0=true:=h
  have h:=Nat.eq_of_beq_eq_true h
  rw[aO]at h
  rw[List.eq_nil_of_length_eq_zero h]
 |_=>simp[Z0,PR]at h
theorem QH{ops:Array Oper}{s:St}{a:Act}{j:Nat}{y:Option Bool}(f:FR m s a)(h:qB ops s j=some y):yielded ops a.tmps j=y:=by
 (replace h:=ah h;obtain⟨o,ho,h⟩:=h)
 (replace h:=ah h;obtain⟨t,ht,h⟩:=h)
 rw[fC,Array.getElem?_toList]at ho
 have hs:=f.slot t
 have hy:yielded ops a.tmps j=match a.tmps[t]? with|some (.bool b)=>some b|_=>none:=by
  unfold yielded
  rw[ho]
  show(match(o.dst).bind (a.tmps[·]?)with|some (.bool b)=>some b|_=>none)=_
  rw[ht]
  rfl
 rw[hy]
 cases hb:bK (aX s t)with
 |some b=>
  rw[hb]at h
  replace h:some (some b)=some y:=h
  cases h
  rw[gm hb]at hs
  have hs:=hs.of_bool
  rw[Array.getD_eq_getD_getElem?]at hs
  cases hq:a.tmps[t]? with
  |none=>rw[hq]at hs;cases hs
  |some x=>rw[hq]at hs;replace hs:x=.bool b:=hs;rw[hs]
 |none=>
  rw[hb]at h
  replace h:(gd (Z0 (aX s t)) (some (none:Option Bool)))=some y:=h
  (replace h:=aH h;obtain⟨hg,h⟩:=h)
  cases h
  rw[QG hg]at hs
  obtain⟨l',hl,hv⟩:=VR.EL (x:=[]) hs
  cases hv
  rw[Array.getD_eq_getD_getElem?]at hl
  cases hq:a.tmps[t]? with
  |none=>rfl
  |some x=>rw[hq]at hl;replace hl:x=.tuple ⟨[]⟩:=hl;rw[hl]
theorem Vf{ops:Array Oper}{s:St}{a:Act}{o:Oper}{b:Bool}(f:FR m s a)(h:iq ops s o.guard=some b):Region.wanted o (yielded ops a.tmps)=b:=by
 unfold Region.wanted
 cases hg:o.guard with
 |none=>rw[hg]at h;cases h;rfl
 |some p=>
  rw[hg]at h
  replace h:(ai (qB ops s p.1) fun y=>some (@Option.rec Bool (fun _=>Bool) false (fun b=>qw b p.2) y))=some b:=h
  (replace h:=ah h;obtain⟨y,hy,h⟩:=h)
  cases h
  obtain⟨j,want⟩:=p
  simp only
  rw[QH f hy]
  cases y with
  |none=>rfl
  |some c=>cases c<;>cases want<;>rfl
end mem
end Go.Ae
namespace Go.Ae
section mem
variable{P:Program}{m:Mp}{H:aa}{w:World}
theorem put_defers(a:Act)(d:Option Tmp)(v:Value):(a.put d v).defers=a.defers:=by cases d<;>rfl
theorem dz(s:St)(d:Option Nat)(v:Value)(H:aa):(bG s d v H).H=H:=by
 cases d with
 |none=>rfl
 |some d=>show(gX s d v H).H=H;unfold gX;cases aS s.nl d<;>rfl
theorem mZ(s:St)(d:Option Nat)(v:Value)(H:aa):(bG s d v H).nt=s.nt:=by
 cases d with
 |none=>rfl
 |some d=>show(gX s d v H).nt=s.nt;unfold gX;cases aS s.nl d<;>rfl
theorem uE(s:St)(d:Option Nat)(v:Value)(H:aa):(bG s d v H).df=s.df:=by
 cases d with
 |none=>rfl
 |some d=>show(gX s d v H).df=s.df;unfold gX;cases aS s.nl d<;>rfl
theorem Vg{cf:cr}{n:Nat}(hcf:xg P n cf){s s1:St}{o:Oper}{a:Act}(rh:RH m s.H w)(f:FR m s a)(gl:Gl n m)(hok:lJ n s.nt o=true)(hd:iE o.op=none)
 (h:oN P cf o s=some s1){next:Act→World→Prop}{Q:Exit→Act→World→Prop}
 (K:∀m' a' w',FR m' s1 a'→RH m' s1.H w'→Ex m m' s.H s1.H w w'→a'.defers=a.defers→next a' w'):o.wp P a w next Q:=by
 unfold oN at h
 rw[hd]at h
 replace h:vJ o s (mV o.op P cf s)=some s1:=h
 unfold lJ at hok
 simp only[Bool.and_eq_true]at hok
 have e:=f.ev gl hok.1
 unfold Oper.wp
 cases hr:mV o.op P cf s with
 |fail=>rw[hr]at h;cases h
 |rJ v=>
  rw[hr]at h
  replace h:some (bG s o.dst v s.H)=some s1:=h
  cases h
  obtain⟨v',h1,h2⟩:=E9 hr e (fun _=>rfl)
  rw[h2 w]
  have hf:FR m (bG s o.dst v s.H) (a.put o.dst v'):=f.put hok.2 h1
  exact K m _ w hf (by rw[dz];exact rh) (by rw[dz];exact Ex.refl _ _ _) (put_defers _ _ _)
 |mem v H'=>
  rw[hr]at h
  replace h:some (bG s o.dst v H')=some s1:=h
  cases h
  have K':∀m' v' w',VR m' v v'→RH m' H' w'→Ex m m' s.H H' w w'→next (a.put o.dst v') w':=by
   intro m' v' w' h1 h2 h3
   exact K m' _ w' ((f.mono h3.le).put hok.2 h1) (by rw[dz];exact h2) (by rw[dz];exact h3) (put_defers _ _ _)
  refine LP rh hr e ?_ K'
  intro c hop hb
  rw[hop]at hr
  replace hr:kZ c P cf s=.mem v H':=hr
  obtain⟨callee,⟨args⟩,ats⟩:=c
  cases callee with
  |value g=>exact GY hcf gl rh hop hr e K'
  |invoke r name=>exact GZ hcf gl rh hop hr e K'
  |builtin b=>cases hb
end mem
end Go.Ae
namespace Go.Ae
section mem
variable{P:Program}{m:Mp}{H:aa}{w:World}
theorem N8{cf:cr}{n:Nat}(hcf:xg P n cf){ops:Array Oper}{nt:Nat}(hall:all' (lJ n nt) ops.toList=true)(hnd:all' (fun o=>aJ (iE o.op)) ops.toList=true){Q:Exit→Act→World→Prop}:
 ∀(l:List Oper)(k:Nat)(m:Mp)(s s1:St)(a:Act)(w:World),ops.toList.drop k=l→s.nt=nt→RH m s.H w→FR m s a→Gl n m→dW P cf ops l s=some s1→
 (∀m' a' w',FR m' s1 a'→RH m' s1.H w'→Ex m m' s.H s1.H w w'→a'.defers=a.defers→s1.nt=nt→s1.df=s.df→Q .normal a' w')→
 wpOps P ops Q (List.range' k l.length) a w:=by
 intro l
 induction l with
 |nil=>
  intro k m s s1 a w _ hnt rh f gl h K
  cases h
  exact K m a w f rh (Ex.refl _ _ _) rfl hnt rfl
 |cons o l ih=>
  intro k m s s1 a w hl hnt rh f gl h K
  have hk:ops[k]?=some o:=by
   rw[←Array.getElem?_toList]
   have:=congrArg List.head? hl
   rw[List.head?_drop]at this
   exact this
  have hmem:o∈ops.toList:=List.mem_of_getElem? (by rw[Array.getElem?_toList];exact hk)
  have hdrop:ops.toList.drop (k +1)=l:=by
   rw[←List.tail_drop,hl];rfl
  rw[all_eq]at hall hnd
  have ho:=List.all_eq_true.1 hall o hmem
  have hd:=List.all_eq_true.1 hnd o hmem
  have hd:iE o.op=none:=by
   cases hc:iE o.op with
   |none=>rfl
   |some c=>rw[hc]at hd;cases hd
  replace h:(ai (ai (iq ops s o.guard) fun b=>av b (oN P cf o s) (some (bG s o.dst undef s.H))) fun s=>dW P cf ops l s)=some s1:=h
  obtain⟨s2,h1,h2⟩:=ah h
  obtain⟨b,hb,h3⟩:=ah h1
  have hw:=Vf f hb
  rw[List.length_cons,List.range'_succ]
  show wpOps P ops Q (k::List.range' (k +1) l.length) a w
  rw[wpOps_cons]
  unfold wpOp
  rw[hk]
  simp only[hw]
  cases b with
  |true=>
   replace h3:oN P cf o s=some s2:=h3
   simp only[if_true]
   left
   have aap:s2.nt=s.nt∧s2.df=s.df:=by
    unfold oN at h3
    rw[hd]at h3
    replace h3:vJ o s (mV o.op P cf s)=some s2:=h3
    cases hr:mV o.op P cf s with
    |fail=>rw[hr]at h3;cases h3
    |rJ v=>rw[hr]at h3;replace h3:some (bG s o.dst v s.H)=some s2:=h3;cases h3;exact⟨mZ _ _ _ _,uE _ _ _ _⟩
    |mem v H'=>rw[hr]at h3;replace h3:some (bG s o.dst v H')=some s2:=h3;cases h3;exact⟨mZ _ _ _ _,uE _ _ _ _⟩
   refine Vg hcf rh f gl (by rw[hnt];exact ho) hd h3 ?_
   intro m' a' w' f' rh' ex' hdf
   refine ih (k +1) m' s2 s1 a' w' hdrop (by rw[aap.1,hnt]) rh' f' (gl.mono ex'.le) h2 ?_
   intro m2 a2 w2 f2 rh2 ex2 Yv hn2 hs2
   exact K m2 a2 w2 f2 rh2 (ex'.trans ex2) (by rw[Yv,hdf]) hn2 (by rw[hs2,aap.2])
  |false=>
   replace h3:some (bG s o.dst undef s.H)=some s2:=h3
   cases h3
   simp only[Bool.false_eq_true,if_false]
   unfold lJ at ho
   simp only[Bool.and_eq_true]at ho
   have f':FR m (bG s o.dst undef s.H) (a.put o.dst undef):=f.put (by rw[hnt];exact ho.2) (.tuple [] [] .nil)
   refine ih (k +1) m _ s1 _ w hdrop (by rw[mZ,hnt]) (by rw[dz];exact rh) f' gl h2 ?_
   intro m2 a2 w2 f2 rh2 ex2 Yv hn2 hs2
   rw[dz]at ex2
   rw[uE]at hs2
   exact K m2 a2 w2 f2 rh2 ex2 (by rw[Yv,put_defers]) hn2 hs2
end mem
end Go.Ae
namespace Go.Ae
section rules
variable{P:Program}{Q:Exit→Act→World→Prop}{a:Act}{w:World}
theorem least{p:Nat→Prop}(h:∃n,p n):∃n,p n∧∀k,k<n→¬p k:=by
 obtain⟨n,hn⟩:=h
 induction n using Nat.strongRecOn with
 |_ n ih=>
  by_cases hx:∃k,k<n∧p k
  ·obtain⟨k,h1,h2⟩:=hx
   exact ih k h1 h2
  ·exact⟨n,hn,fun k hk hp=>hx ⟨k,hk,hp⟩⟩
theorem N9{c:Code}(R:Nat→Act→World→Prop)(h0:∀a w,¬R 0 a w)(hs:∀n a w,R (n +1) a w→c.wp P (Exit.then (R n) Q) a w){n:Nat}(h:R n a w):(Code.loop c).wp P Q a w:=by
 classical
 refine wp_loop (fun a w=>∃n,R n a w) (fun a w=>if h:∃n,R n a w then Classical.choose (least h)else 0) ⟨n,h⟩ ?_
 intro a w hI
 have hf:=Classical.choose_spec (least hI)
 have hd:(if h:∃n,R n a w then Classical.choose (least h)else 0)=Classical.choose (least hI):=dif_pos hI
 rw[hd]
 generalize Classical.choose (least hI)=k0 at hf
 cases k0 with
 |zero=>exact(h0 a w hf.1).elim
 |succ k=>
  refine wp_mono (hs k a w hf.1) ?_
  intro e a' w' he
  cases e with
  |normal=>
   have hI':∃n,R n a' w':=⟨k,he⟩
   refine⟨hI',?_⟩
   have hd':(if h:∃n,R n a' w' then Classical.choose (least h)else 0)=Classical.choose (least hI'):=dif_pos hI'
   rw[hd']
   have hf':=Classical.choose_spec (least hI')
   exact Nat.lt_succ_of_le (Nat.le_of_not_lt fun hlt=>hf'.2 k hlt he)
  |_=>exact he
def QI(J:Nat→Act→World→Prop)(Q:Exit→Act→World→Prop):Exit→Act→World→Prop
 |.goto l,a,w=>J l a w
 |e,a,w=>Q e a w
theorem JS{c:Code}(R:Nat→Nat→Act→World→Prop)
 (hs:∀n l a w,R n l a w→(∃n' rest,n=n' +1∧findLabel c l=some rest∧rest.wp P (QI (R n') Q) a w)∨(findLabel c l=none∧Q (.goto l) a w))
 {n:Nat}(first:c.wp P (QI (R n) Q) a w):(Code.scope c).wp P Q a w:=by
 intro b k cs
 have key:∀n l a w,R n l a w→∀m₀,(∀k',gotoIn l (.inScope c::k)=some k'→Steps P m₀ (lone (b.at a k') cs w))→∃e a' w',Q e a' w'∧Arrives P m₀ b k cs e a' w':=by
  intro n
  induction n with
  |zero=>
   intro l a w hR m₀ hm
   rcases hs 0 l a w hR with⟨n',rest,h1,_⟩|⟨h1,h2⟩
   ·cases h1
   ·exact⟨_,a,w,h2,fun k' hk=>hm k' (by simp[gotoIn,h1,hk])⟩
  |succ n ih=>
   intro l a w hR m₀ hm
   rcases hs (n +1) l a w hR with⟨n',rest,h1,h2,h3⟩|⟨h1,h2⟩
   ·cases h1
    obtain⟨e,a₁,w₁,hq,harr⟩:=h3 b (.inScope c::k) cs
    have hg:=hm (.code rest::.inScope c::k) (by simp[gotoIn,h2])
    cases e with
    |normal=>exact⟨.normal,a₁,w₁,hq,hg.trans (Steps.trans harr (.one step_inScope))⟩
    |exit id=>exact⟨.exit id,a₁,w₁,hq,fun k' hk=>hg.trans (harr k' (by simp[exitTo,hk]))⟩
    |goto l'=>exact ih l' a₁ w₁ hq m₀ fun k' hk=>hg.trans (harr k' hk)
    |ret=>exact⟨_,a₁,w₁,hq,.of_steps hg harr⟩
    |panic ch=>exact⟨_,a₁,w₁,hq,.of_steps hg harr⟩
    |outgrown=>exact⟨_,a₁,w₁,hq,.of_steps hg harr⟩
   ·exact⟨_,a,w,h2,fun k' hk=>hm k' (by simp[gotoIn,h1,hk])⟩
 obtain⟨e,a₁,w₁,hq,harr⟩:=first b (.inScope c::k) cs
 cases e with
 |normal=>exact⟨.normal,a₁,w₁,hq,.head step_scope (Steps.trans harr (.one step_inScope))⟩
 |exit id=>exact⟨.exit id,a₁,w₁,hq,fun k' hk=>.head step_scope (harr k' (by simp[exitTo,hk]))⟩
 |goto l'=>exact key n l' a₁ w₁ hq _ fun k' hk=>.head step_scope (harr k' hk)
 |ret=>exact⟨_,a₁,w₁,hq,.of_steps (.one step_scope) harr⟩
 |panic ch=>exact⟨_,a₁,w₁,hq,.of_steps (.one step_scope) harr⟩
 |outgrown=>exact⟨_,a₁,w₁,hq,.of_steps (.one step_scope) harr⟩
end rules
end Go.Ae
namespace Go.Ae
noncomputable def codeOk(n nt:Nat):Code→Bool
 |.region _ ops _=>all' (lJ n nt) ops.toList&&bV ops
 |.seq a b=>codeOk n nt a&&codeOk n nt b
 |.cond c a b=>vR n c&&(codeOk n nt a&&codeOk n nt b)
 |.block _ c=>codeOk n nt c
 |.loop c=>codeOk n nt c
 |.scope c=>codeOk n nt c
 |_=>true
theorem qJ{n nt:Nat}:∀{c:Code}{l:Nat}{rest:Code},codeOk n nt c=true→findLabel c l=some rest→codeOk n nt rest=true
 |.seq a b,l,rest,hc,h=>by
  simp only[codeOk,Bool.and_eq_true]at hc
  simp only[findLabel]at h
  cases ha:findLabel a l with
  |some r=>
   rw[ha]at h
   replace h:some (Code.seq r b)=some rest:=h
   cases h
   simp only[codeOk,Bool.and_eq_true]
   exact⟨qJ hc.1 ha,hc.2⟩
  |none=>
   rw[ha]at h
   exact qJ hc.2 h
 |.label l',l,rest,_,h=>by
  simp only[findLabel]at h
  split at h
  ·cases h;rfl
  ·cases h
 |.skip,_,_,_,h=>by simp[findLabel]at h
 |.region ..,_,_,_,h=>by simp[findLabel]at h
 |.cond ..,_,_,_,h=>by simp[findLabel]at h
 |.block ..,_,_,_,h=>by simp[findLabel]at h
 |.loop _,_,_,_,h=>by simp[findLabel]at h
 |.rangeFunc ..,_,_,_,h=>by simp[findLabel]at h
 |.exit _,_,_,_,h=>by simp[findLabel]at h
 |.scope _,_,_,_,h=>by simp[findLabel]at h
 |.goto _,_,_,_,h=>by simp[findLabel]at h
 |.ret,_,_,_,h=>by simp[findLabel]at h
 |.refuse _,_,_,_,h=>by simp[findLabel]at h
structure At(m0:Mp)(H0:aa)(w0:World)(d0:List Deferred)(nt:Nat)(df:List Deferred)(s1:St)(a:Act)(w:World)(m:Mp):Prop where
 fr:FR m s1 a
 rh:RH m s1.H w
 ex:Ex m0 m H0 s1.H w0 w
 de:a.defers=d0
 nt:s1.nt=nt
 df:s1.df=df
def To(m0:Mp)(H0:aa)(w0:World)(d0:List Deferred)(nt:Nat)(df:List Deferred)(s1:St)(q:Act→World→Prop):Prop:=
 ∀m a w,At m0 H0 w0 d0 nt df s1 a w m→q a w
def Post(m0:Mp)(H0:aa)(w0:World)(d0:List Deferred)(nt:Nat)(df:List Deferred)(Q:Exit→Act→World→Prop):Out→Prop
 |.fail=>False
 |.norm s=>To m0 H0 w0 d0 nt df s (Q .normal)
 |.exit i s=>To m0 H0 w0 d0 nt df s (Q (.exit i))
 |.goto l s=>To m0 H0 w0 d0 nt df s (Q (.goto l))
 |.ret s=>To m0 H0 w0 d0 nt df s (Q .ret)
theorem At.trans{m0 m1 m:Mp}{H0:aa}{w0 w1 w:World}{d0:List Deferred}{nt:Nat}{df:List Deferred}{s1 s2:St}{a1 a:Act}
 (h1:At m0 H0 w0 d0 nt df s1 a1 w1 m1)(h2:At m1 s1.H w1 a1.defers s1.nt s1.df s2 a w m):At m0 H0 w0 d0 nt df s2 a w m:=
 ⟨h2.fr,h2.rh,h1.ex.trans h2.ex,by rw[h2.de,h1.de],by rw[h2.nt,h1.nt],by rw[h2.df,h1.df]⟩
theorem Post.from'{m0 m1:Mp}{H0:aa}{w0 w1:World}{d0:List Deferred}{nt:Nat}{df:List Deferred}{s1:St}{a1:Act}{Q:Exit→Act→World→Prop}
 (h1:At m0 H0 w0 d0 nt df s1 a1 w1 m1){o:Out}(h:Post m0 H0 w0 d0 nt df Q o):Post m1 s1.H w1 a1.defers nt s1.df Q o:=by
 have e:=h1.nt
 cases o with
 |fail=>exact h
 |_=>exact fun m a w h2=>h m a w (h1.trans (by rw[e];exact h2))
theorem Post.from{m0 m1:Mp}{H0:aa}{w0 w1:World}{d0:List Deferred}{nt:Nat}{df:List Deferred}{s1:St}{a1:Act}{Q:Exit→Act→World→Prop}
 (h1:At m0 H0 w0 d0 nt df s1 a1 w1 m1){o:Out}(h:Post m0 H0 w0 d0 nt df Q o):Post m1 s1.H w1 a1.defers s1.nt s1.df Q o:=by
 cases o with
 |fail=>exact h
 |_=>exact fun m a w h2=>h m a w (h1.trans h2)
def E_(P:Program)(cf:cr)(n nt:Nat):Prop:=∀(id:Nat)(ops:Array Oper)(s:St)(m:Mp)(a:Act)(w:World)(Q:Exit→Act→World→Prop),
 all' (lJ n nt) ops.toList=true→bV ops=true→s.nt=nt→RH m s.H w→FR m s a→Gl n m→
 Post m s.H w a.defers nt s.df Q (region P cf ops true s)→(Code.region id ops true).wp P Q a w
def Fb(P:Program)(ex:Code→St→Out)(n nt:Nat):Prop:=∀(c:Code)(s:St)(m:Mp)(a:Act)(w:World)(Q:Exit→Act→World→Prop),
 codeOk n nt c=true→s.nt=nt→RH m s.H w→FR m s a→Gl n m→
 Post m s.H w a.defers nt s.df Q (ex c s)→c.wp P Q a w
theorem FR.clear{m:Mp}{s:St}{a:Act}(h:FR m s a):FR m (clear s) a:=by
 refine⟨h.size,fun t=>?_⟩
 have ht:=h.slot t
 unfold aX at ht⊢
 show VR m (av (aS s.nl t) (s.tm.get top t) (look [] t)) _
 cases hb:aS s.nl t with
 |true=>rw[hb]at ht;exact ht
 |false=>exact .top _
section mem
variable{P:Program}
theorem LQ{cf:cr}{n nt:Nat}(hcf:xg P n cf){cx:Code→St→Out}(hcx:Fb P cx n nt)(hdr:E_ P cf n nt)(k:Nat):Fb P (exec P cf cx k) n nt:=by
 intro c
 induction c with
 |skip=>intro s m a w Q _ hnt rh f _ h;exact wp_skip (h m a w ⟨f,rh,Ex.refl _ _ _,rfl,hnt,rfl⟩)
 |label l=>intro s m a w Q _ hnt rh f _ h;exact wp_label (h m a w ⟨f,rh,Ex.refl _ _ _,rfl,hnt,rfl⟩)
 |exit id=>intro s m a w Q _ hnt rh f _ h;exact wp_exit (h m a w ⟨f,rh,Ex.refl _ _ _,rfl,hnt,rfl⟩)
 |goto l=>intro s m a w Q _ hnt rh f _ h;exact wp_goto (h m a w ⟨f,rh,Ex.refl _ _ _,rfl,hnt,rfl⟩)
 |ret=>intro s m a w Q _ hnt rh f _ h;exact wp_ret (h m a w ⟨f,rh,Ex.refl _ _ _,rfl,hnt,rfl⟩)
 |refuse=>intro s m a w Q _ _ _ _ _ h;exact h.elim
 |rangeFunc=>intro s m a w Q _ _ _ _ _ h;exact h.elim
 |region id ops draw=>
  intro s m a w Q hc hnt rh f gl h
  simp only[codeOk,Bool.and_eq_true]at hc
  cases draw with
  |true=>exact hdr id ops s m a w Q hc.1 hc.2 hnt rh f gl h
  |false=>
   replace h:Post m s.H w a.defers nt s.df Q (zh (dW P cf ops ops.toList (clear s))):=h
   cases hr:dW P cf ops ops.toList (clear s)with
   |none=>rw[hr]at h;exact h.elim
   |some s1=>
    rw[hr]at h
    replace h:To m s.H w a.defers nt s.df s1 (Q .normal):=h
    have hpl:all' (fun o=>aJ (iE o.op)) ops.toList=true:=by
     have:=hc.2
     unfold bV at this
     rw[all_eq]at this⊢
     rw[List.all_eq_true]at this⊢
     intro o ho
     have:=this o ho
     simp only[Bool.and_eq_true]at this
     exact this.1
    have hw:wpOps P ops Q (List.range' 0 ops.toList.length) a w:=by
     refine N8 (P:=P) hcf (n:=n) (nt:=nt) hc.1 hpl ops.toList 0 m (clear s) s1 a w (by simp) hnt rh f.clear gl hr ?_
     intro m' a' w' f' rh' ex' hd' hn' hs'
     exact h m' a' w' ⟨f',rh',ex',hd',hn',hs'⟩
    refine wp_region ?_
    rw[List.range_eq_range']
    exact hw
 |seq x y ihx ihy=>
  intro s m a w Q hc hnt rh f gl h
  simp only[codeOk,Bool.and_eq_true]at hc
  replace h:Post m s.H w a.defers nt s.df Q (andThen (exec P cf cx k x s) (exec P cf cx k y)):=h
  refine wp_seq (ihx s m a w _ hc.1 hnt rh f gl ?_)
  cases hx:exec P cf cx k x s with
  |fail=>rw[hx]at h;exact h
  |norm s1=>
   rw[hx]at h
   intro m1 a1 w1 h1
   have:=h.from h1
   rw[h1.nt]at this
   exact ihy s1 m1 a1 w1 Q hc.2 h1.nt h1.rh h1.fr (gl.mono h1.ex.le) this
  |exit i s1=>rw[hx]at h;exact h
  |goto l s1=>rw[hx]at h;exact h
  |ret s1=>rw[hx]at h;exact h
 |cond c x y ihx ihy=>
  intro s m a w Q hc hnt rh f gl h
  simp only[codeOk,Bool.and_eq_true]at hc
  replace h:Post m s.H w a.defers nt s.df Q (zg (bK (ev s c)) (exec P cf cx k x s) (exec P cf cx k y s)):=h
  cases hb:bK (ev s c)with
  |none=>rw[hb]at h;exact h.elim
  |some b=>
   rw[hb]at h
   have hL:all' (vR n) [c]=true:=by rw[all_eq];simp[hc.1]
   have he:=(f.ev gl hL).all c (by simp)
   rw[gm hb]at he
   have he:=he.of_bool
   cases b with
   |true=>exact wp_cond_true he (ihx s m a w Q hc.2.1 hnt rh f gl h)
   |false=>exact wp_cond_false he (ihy s m a w Q hc.2.2 hnt rh f gl h)
 |block id c ih=>
  intro s m a w Q hc hnt rh f gl h
  replace h:Post m s.H w a.defers nt s.df Q (lD id (exec P cf cx k c s)):=h
  refine wp_block (ih s m a w _ hc hnt rh f gl ?_)
  cases hx:exec P cf cx k c s with
  |fail=>rw[hx]at h;exact h
  |norm s1=>rw[hx]at h;exact h
  |exit i s1=>
   rw[hx]at h
   replace h:Post m s.H w a.defers nt s.df Q (av (Nat.beq i id) (.norm s1) (.exit i s1)):=h
   intro m1 a1 w1 h1
   by_cases e:i=id
   ·subst e
    rw[show Nat.beq i i=true from Nat.beq_refl i]at h
    simp only[Exit.inBlock,if_true]
    exact h m1 a1 w1 h1
   ·rw[show Nat.beq i id=false from by rw[←Bool.not_eq_true];exact fun g=>e (Nat.eq_of_beq_eq_true g)]at h
    simp only[Exit.inBlock,e,if_false]
    exact h m1 a1 w1 h1
  |goto l s1=>rw[hx]at h;exact h
  |ret s1=>rw[hx]at h;exact h
 |loop c ih=>
  intro s m a w Q hc hnt rh f gl h
  replace h:Post m s.H w a.defers nt s.df Q (l_ k (exec P cf cx k c) s):=h
  have key:∀j,Post m s.H w a.defers nt s.df Q (l_ j (exec P cf cx k c) s)→(Code.loop c).wp P Q a w:=by
   intro j hj
   refine N9 (fun j a1 w1=>∃m1 s1,At m s.H w a.defers nt s.df s1 a1 w1 m1∧Post m s.H w a.defers nt s.df Q (l_ j (exec P cf cx k c) s1)) ?_ ?_ (n:=j)
    ⟨m,s,⟨f,rh,Ex.refl _ _ _,rfl,hnt,rfl⟩,hj⟩
   ·rintro a1 w1 ⟨m1,s1,_,h0⟩
    exact h0
   ·rintro j a1 w1 ⟨m1,s1,h1,h0⟩
    replace h0:Post m s.H w a.defers nt s.df Q (andThen (exec P cf cx k c s1) (l_ j (exec P cf cx k c))):=h0
    refine ih s1 m1 a1 w1 _ hc h1.nt h1.rh h1.fr (gl.mono h1.ex.le) ?_
    cases hx:exec P cf cx k c s1 with
    |fail=>rw[hx]at h0;exact h0
    |norm s2=>
     rw[hx]at h0
     intro m2 a2 w2 h2
     exact⟨m2,s2,h1.trans (by rw[h1.nt];exact h2),h0⟩
    |exit i s2=>rw[hx]at h0;exact h0.from' h1
    |goto l s2=>rw[hx]at h0;exact h0.from' h1
    |ret s2=>rw[hx]at h0;exact h0.from' h1
  exact key k h
 |scope c ih=>
  intro s m a w Q hc hnt rh f gl h
  replace h:Post m s.H w a.defers nt s.df Q (eU cx k c (exec P cf cx k c s)):=h
  have hc':codeOk n nt c=true:=hc
  have pass:∀j(o:Out),Post m s.H w a.defers nt s.df Q (eU cx j c o)→
   Post m s.H w a.defers nt s.df (QI (fun l a1 w1=>∃m1 s1,At m s.H w a.defers nt s.df s1 a1 w1 m1∧Post m s.H w a.defers nt s.df Q (eU cx j c (.goto l s1))) Q) o:=by
   intro j o ho
   cases j with
   |zero=>exact ho.elim
   |succ j=>
    cases o with
    |fail=>exact ho
    |norm s1=>exact ho
    |exit i s1=>exact ho
    |ret s1=>exact ho
    |goto l s1=>
     intro m1 a1 w1 h1
     exact⟨m1,s1,h1,ho⟩
  refine JS (n:=k) (fun j l a1 w1=>∃m1 s1,At m s.H w a.defers nt s.df s1 a1 w1 m1∧Post m s.H w a.defers nt s.df Q (eU cx j c (.goto l s1))) ?_ (ih s m a w _ hc hnt rh f gl (pass k _ h))
  rintro j l a1 w1 ⟨m1,s1,h1,h0⟩
  cases j with
  |zero=>exact h0.elim
  |succ j=>
   replace h0:Post m s.H w a.defers nt s.df Q (@Option.rec Code (fun _=>Out) (.goto l s1) (fun rest=>eU cx j c (cx rest s1)) (findLabel c l)):=h0
   cases hf:findLabel c l with
   |none=>
    rw[hf]at h0
    exact .inr ⟨rfl,h0 m1 a1 w1 h1⟩
   |some rest=>
    rw[hf]at h0
    refine .inl ⟨j,rest,rfl,rfl,?_⟩
    have:=(pass j _ h0).from h1
    rw[h1.nt]at this
    exact hcx rest s1 m1 a1 w1 _ (qJ hc' hf) h1.nt h1.rh h1.fr (gl.mono h1.ex.le) this
end mem
end Go.Ae
namespace Go.Ae
noncomputable def m_(n nt:Nat)(c:Code):Bool:=
 @Code.rec (fun _=>Bool) true (fun _ ops _=>all' (lJ n nt) ops.toList&&bV ops) (fun _ _ a b=>a&&b) (fun c _ _ a b=>vR n c&&(a&&b)) (fun _ _ a=>a) (fun _ a=>a)
  (fun _ _ _ _ _ _=>true) (fun _=>true) (fun _ a=>a) (fun _=>true) (fun _=>true) true (fun _=>true) c
theorem JU{n nt:Nat}(c:Code)(h:m_ n nt c=true):codeOk n nt c=true:=by
 have:m_ n nt c=codeOk n nt c:=by
  clear h
  induction c with
  |seq a b iha ihb=>show(m_ n nt a&&m_ n nt b)=_;rw[iha,ihb];rfl
  |cond c a b iha ihb=>show(vR n c&&(m_ n nt a&&m_ n nt b))=_;rw[iha,ihb];rfl
  |block id a ih=>exact ih
  |loop a ih=>exact ih
  |scope a ih=>exact ih
  |_=>rfl
 rw[←this];exact h
noncomputable def QJ(n:Nat)(fn:Func):Bool:=@Option.rec Code (fun _=>Bool) true (fun c=>m_ n fn.ntmps c&&!(fn.name== "runtime.NumGoroutine")) fn.body
def pX(P:Program)(n:Nat):Prop:=∀(g:FuncId)(fn:Func),P.funcs[g]?=some fn→QJ n fn=true
def Pt(P:Program)(X:Xt):Prop:=∀(g:FuncId)(fn:Func)(args:List Value)(v:Value)(H H':aa),P.funcs[g]?=some fn→fn.body=none→Nq P (X g) fn.resultTypes.toList args H=some (v,H')→
 ∀m w args',RH m H w→dh m args args'→∃m' v' w',(callFunc g ⟨args'⟩).run P w=.ok (.value v') w'∧VR m' v v'∧RH m' H' w'∧Ex m m' H H' w w'
def Fe(P:Program)(n:Nat)(cf:cr):Prop:=∀g args v H H' fn,cf g args H=some (v,H')→P.funcs[g]?=some fn→fn.body.isSome=true→∀m w args',RH m H w→Gl n m→dh m args args'→
 Calls P g ⟨args'⟩ w fun e w'=>∃m' v',e=.returned v'∧VR m' v v'∧RH m' H' w'∧Ex m m' H H' w w'
def yH(P:Program)(X:Xt)(n:Nat):Prop:=∀(g:FuncId)(args:List Value)(v:Value)(H H':aa),X.o g args H=some (v,H')→(∃fn,P.funcs[g]?=some fn∧fn.body.isSome=true)∧∀m w args',RH m H w→Gl n m→dh m args args'→
 Calls P g ⟨args'⟩ w fun e w'=>∃m' v',e=.returned v'∧VR m' v v'∧RH m' H' w'∧Ex m m' H H' w w'
theorem yH.none{P:Program}{X:Xt}{n:Nat}(h:∀g a H,X.o g a H=none):yH P X n:=fun g a v H H' e=>by rw[h]at e;cases e
theorem mh{P:Program}{X:Xt}{L:Lv}{k:Nat}{g:FuncId}{args:List Value}{H:aa}(h:X.o g args H=none):qE P X L k g args H=ai (nth P.funcs.toList g) fun fn=>Ns P L k g (X g) fn args H:=by
 show orO (X.o g args H) _=_
 rw[h];rfl
theorem sN{P:Program}{X:Xt}{L:Lv}{k:Nat}{g:FuncId}{args:List Value}{H:aa}{r:Value×aa}(h:X.o g args H=some r):qE P X L k g args H=some r:=by
 show orO (X.o g args H) _=_
 rw[h];rfl
section mem
variable{P:Program}
theorem JV{m:Mp}{w:World}{s:St}{a:Act}(rh:RH m s.H w)(f:FR m s a){fn:Func}{vs:List Value}(h:dw P s fn.results.toList=some vs):
 ∃v',VR m (iZ vs) v'∧(results fn a.tmps).run P w=.ok v' w:=by
 have key:∀(l:List ResultVar)(vs:List Value),dw P s l=some vs→∃vs',dh m vs vs'∧
  Sem.run P (l.mapM fun|ResultVar.tmp t=>(pure (a.tmps.getD t undef):Sem Value)|ResultVar.cell b t=>do loadVar t (←asAddr (a.tmps.getD b undef))) w=Result.ok vs' w:=by
  intro l
  induction l with
  |nil=>intro vs h;cases h;exact⟨[],.nil,by simp⟩
  |cons r l ih=>
   intro vs h
   replace h:(ai (uy P s r) fun v=>ai (dw P s l) fun vs=>some (v::vs))=some vs:=h
   (replace h:=ah h;obtain⟨v,hv,h⟩:=h)
   (replace h:=ah h;obtain⟨vs1,hvs,h⟩:=h)
   cases h
   obtain⟨vs',h1,h2⟩:=ih vs1 hvs
   cases r with
   |tmp t=>
    replace hv:some (aX s t)=some v:=hv
    cases hv
    refine⟨_::vs',.cons _ _ _ _ (f.slot t) h1,?_⟩
    simp only[List.mapM_cons,Sem.run_bind,Sem.run_pure,Result.andThen_ok,h2]
   |cell b t=>
    replace hv:(ai (kz P t (aX s b) s.H) fun p=>some p.1)=some v:=hv
    obtain⟨p,hp,hv⟩:=ah hv
    cases hv
    have hb:=f.slot b
    obtain⟨hH,v',h3,h4⟩:=LH (P:=P) rh (show kz P t (aX s b) s.H=some (p.1,p.2)from hp) hb
    refine⟨v'::vs',.cons _ _ _ _ h3 h1,?_⟩
    have h5:∃a',a.tmps.getD b undef=.pointer (some a'):=by
     have h:=hp
     (replace h:=ah h;obtain⟨a0,ha0,h⟩:=h)
     rw[fI ha0]at hb
     obtain⟨l,_,_,_,h⟩:=hb.i_
     exact⟨_,h⟩
    obtain⟨a',ha'⟩:=h5
    rw[ha']at h4
    simp only[Instr.loadAt,Instr.sureAddr,Sem.run_bind,Sem.run_pure,Result.andThen_ok]at h4
    have has:asAddr (.pointer (some a'))=pure a':=rfl
    simp only[List.mapM_cons,ha',has,Sem.run_bind,Sem.run_pure,Result.andThen_ok,h4,h2]
 obtain⟨vs',h1,h2⟩:=key _ _ h
 have hlen:=h1.length
 refine⟨if h:vs'.toArray.size=1 then vs'.toArray[0]else .tuple vs'.toArray,?_,?_⟩
 ·unfold iZ
  cases vs with
  |nil=>cases h1;exact .tuple [] [] .nil
  |cons v vs=>
   cases h1 with
   |cons _ v' _ x' hv hx=>
    cases vs with
    |nil=>cases hx;exact hv
    |cons u vs=>
     have:(v'::x').toArray.size≠1:=by simp at hlen⊢;intro h;rw[h]at hlen;simp at hlen
     rw[dif_neg this]
     exact .tuple _ _ (.cons _ _ _ _ hv hx)
 ·show Sem.run P (do
   let vs←fn.results.mapM (fun|ResultVar.tmp t=>(pure (a.tmps.getD t undef):Sem Value)|ResultVar.cell b t=>do loadVar t (←asAddr (a.tmps.getD b undef)))
   pure (if h:vs.size=1 then vs[0]else .tuple vs)) w=_
  simp only[Sem.run_bind,Array.mapM_eq_mapM_toList,Sem.run_map,h2,Result.andThen_ok,Sem.run_pure]
theorem Yw{m:Mp}{args args':List Value}(h:dh m args args')(nl nt:Nat)(hle:args.length≤nt)(H:aa):
 FR m ⟨nl,nt,[],Tr.jE top args 0 .nil,[],H⟩ {tmps:=(⟨args'⟩:Array Value)++Array.replicate (nt -(⟨args'⟩:Array Value).size) undef,defers:=[]}:=by
 have hl:=h.length
 refine⟨by simp;omega,fun t=>?_⟩
 show VR m (av (aS nl t) ((Tr.jE top args 0 .nil).get top t) (look [] t)) _
 cases aS nl t with
 |false=>exact .top _
 |true=>
  show VR m ((Tr.jE top args 0 .nil).get top t) _
  rw[Tr.dY]
  by_cases ht:t<args.length
  ·rw[if_pos (by omega)]
   have hg:args[t]?=some (args.getD t top):=by rw[List.getD_eq_getElem?_getD,List.getElem?_eq_getElem ht];rfl
   obtain⟨v',h1,h2⟩:=h.get t hg
   have:((⟨args'⟩:Array Value)++Array.replicate (nt -(⟨args'⟩:Array Value).size) undef).getD t undef=v':=by
    rw[Array.getD_eq_getD_getElem?,Array.getElem?_append_left (by simp;omega)]
    simp[h1]
   rw[this]
   exact h2
  ·rw[if_neg (by omega),Tr.get_nil]
   exact .top _
theorem N_{m:Mp}{H:aa}{w:World}{nt:Nat}{s:St}{o:Out}{fn:Func}{R:Ending→World→Prop}(h:EH o=some s)(K:∀a' w' m',At m H w [] nt [] s a' w' m'→a'.defers=[]∧∃v,(results fn a'.tmps).run P w'=.ok v w'∧R (.returned v) w'):
 Post m H w [] nt [] (bodyPost P fn R) o:=by
 cases o with
 |fail=>cases h
 |norm s1=>cases h;intro m' a' w' ha;exact K a' w' m' ha
 |exit=>cases h
 |goto=>cases h
 |ret s1=>cases h;intro m' a' w' ha;exact K a' w' m' ha
theorem Oa{X:Xt}{n:Nat}{L:Lv}(hP:pX P n)(hO:yH P X n)(hcf:xg P n L.ca)(hcx:∀nt,Fb P L.cx n nt)(hdr:∀nt,E_ P L.ca n nt)(k:Nat):
 Fe P n (qE P X L k):=by
 intro g args v H H' fn h hg hb m w args' rh gl hv
 cases hor:X.o g args H with
 |some r=>
  rw[sN hor]at h
  cases h
  exact(hO g args v H H' hor).2 m w args' rh gl hv
 |none=>
 rw[mh hor]at h
 (replace h:=ah h;obtain⟨fn',hfn,h⟩:=h)
 rw[fC,Array.getElem?_toList,hg]at hfn
 cases hfn
 have hok:=hP g fn hg
 cases hbody:fn.body with
 |none=>rw[hbody]at hb;cases hb
 |some c=>
  replace h:(@Option.rec Code (fun _=>Option (Value×aa)) (Nq P (X g) fn.resultTypes.toList args H)
   (fun c=>gd (Nat.ble (len args) fn.ntmps) (ai (EH (exec P L.ca L.cx k c ⟨bQ P g,fn.ntmps,[],Tr.jE top args 0 .nil,[],H⟩)) fun s=>zi P fn s)) fn.body)=some (v,H'):=h
  unfold QJ at hok
  rw[hbody]at h hok
  replace h:(gd (Nat.ble (len args) fn.ntmps) (ai (EH (exec P L.ca L.cx k c ⟨bQ P g,fn.ntmps,[],Tr.jE top args 0 .nil,[],H⟩)) fun s=>zi P fn s))=some (v,H'):=h
  replace hok:(m_ n fn.ntmps c&&!(fn.name== "runtime.NumGoroutine"))=true:=hok
  rw[Bool.and_eq_true]at hok
  (replace h:=aH h;obtain⟨hle,h⟩:=h)
  have hle:=Nat.le_of_ble_eq_true hle
  rw[aO]at hle
  (replace h:=ah h;obtain⟨s,hs,h⟩:=h)
  (replace h:=aH h;obtain⟨hdf,h⟩:=h)
  (replace h:=ah h;obtain⟨vs,hvs,h⟩:=h)
  cases h
  refine calls_of_wp hg hbody ?_
  refine LQ hcf (hcx fn.ntmps) (hdr fn.ntmps) k c ⟨bQ P g,fn.ntmps,[],Tr.jE top args 0 .nil,[],H⟩ m _ w _ (JU c hok.1) rfl rh (Yw hv (bQ P g) fn.ntmps hle H) gl ?_
  refine N_ hs ?_
  intro a' w' m' ha
  obtain⟨v',h1,h2⟩:=JV ha.rh ha.fr hvs
  exact⟨ha.de,v',h2,m',v',rfl,h1,ha.rh,ha.ex⟩
theorem Vh{X:Xt}{n:Nat}{L:Lv}{k:Nat}(hP:pX P n)(hX:Pt P X)(hO:yH P X n)(hc:Fe P n (qE P X L k)):xg P n (qE P X L k):=by
 intro g args v H H' h m w args' rh gl hv o a next Q K
 have h0:=h
 have acn:∃fn,P.funcs[g]?=some fn∧(fn.body=none→X.o g args H=none):=by
  cases hor:X.o g args H with
  |some r=>
   obtain⟨⟨fn,h1,h2⟩,_⟩:=hO g args r.1 H r.2 hor
   exact⟨fn,h1,fun h3=>by rw[h3]at h2;cases h2⟩
  |none=>
   rw[mh hor]at h
   obtain⟨fn,h1,_⟩:=ah h
   rw[fC,Array.getElem?_toList]at h1
   exact⟨fn,h1,fun _=>rfl⟩
 obtain⟨fn,hfn,hno⟩:=acn
 cases hbody:fn.body with
 |some c=>
  have hok:=hP g fn hfn
  unfold QJ at hok
  rw[hbody]at hok
  replace hok:(m_ n fn.ntmps c&&!(fn.name== "runtime.NumGoroutine"))=true:=hok
  rw[Bool.and_eq_true]at hok
  have hn:fn.name≠ "runtime.NumGoroutine" :=by simpa using hok.2
  have hr:(callFunc g ⟨args'⟩).run P w=.ok (.enter g ⟨args'⟩) w:=by
   simp[callFunc,hfn,hn,hbody]
  rw[hr,Oper.upon_enter]
  refine(hc g args v H H' fn h0 hfn (by rw[hbody];rfl) m w args' rh gl hv).mono ?_
  rintro e w' ⟨m',v',rfl,h1,h2,h3⟩
  exact K m' v' w' h1 h2 h3
 |none=>
  rw[mh (hno hbody),fC,Array.getElem?_toList,hfn]at h
  replace h:(@Option.rec Code (fun _=>Option (Value×aa)) (Nq P (X g) fn.resultTypes.toList args H)
   (fun c=>gd (Nat.ble (len args) fn.ntmps) (ai (EH (exec P L.ca L.cx k c ⟨bQ P g,fn.ntmps,[],Tr.jE top args 0 .nil,[],H⟩)) fun s=>zi P fn s)) fn.body)=some (v,H'):=h
  rw[hbody]at h
  obtain⟨m',v',w',h1,h2,h3,h4⟩:=hX g fn args v H H' hfn hbody h m w args' rh hv
  rw[h1,Oper.upon_value]
  exact K m' v' w' h2 h3 h4
theorem QK{X:Xt}{n:Nat}(hP:pX P n)(hX:Pt P X)(hO:yH P X n)(hdr:∀cf,xg P n cf→∀nt,E_ P cf n nt):
 ∀k,xg P n (lv P X k).ca∧(∀nt,Fb P (lv P X k).cx n nt)∧Fe P n (lv P X k).ca:=by
 intro k
 induction k with
 |zero=>
  refine⟨?_,?_,?_⟩
  ·intro g args v H H' h;cases h
  ·intro nt c s m a w Q _ _ _ _ _ h;exact h.elim
  ·intro g args v H H' fn h;cases h
 |succ k ih=>
  have hc:=Oa (X:=X) hP hO ih.1 ih.2.1 (hdr _ ih.1) k
  exact⟨Vh hP hX hO hc,fun nt=>LQ ih.1 (ih.2.1 nt) (hdr _ ih.1 nt) k,hc⟩
end mem
end Go.Ae
namespace Go.Ae
def Mp.upto(m:Mp)(b:Nat):Mp:=fun r=>if r<b then m r else none
theorem Mp.LU(m:Mp)(b:Nat):Mp.le (m.upto b) m:=by
 intro r l h
 unfold Mp.upto at h
 split at h
 ·exact h
 ·cases h
theorem Mp.lK{m m':Mp}{b b':Nat}(hm:Mp.le m m')(hb:b≤b'):Mp.le (m.upto b) (m'.upto b'):=by
 intro r l h
 unfold Mp.upto at h⊢
 split at h
 ·next h1=>rw[if_pos (by omega)];exact hm r l h
 ·cases h
theorem Mp.fT{m:Mp}{b r:Nat}{l:Loc}(h:m.upto b r=some l):r<b∧m r=some l:=by
 unfold Mp.upto at h
 split at h
 ·next h1=>exact⟨h1,h⟩
 ·cases h
theorem Mp.xh{m:Mp}{b r:Nat}{l:Loc}(h:m r=some l)(hr:r<b):m.upto b r=some l:=by
 unfold Mp.upto;rw[if_pos hr];exact h
theorem xk{es:Nat}(h:aY (aT es)=true):False:=by
 have:=Nat.le_of_ble_eq_true h
 unfold aT at this
 have e:Nat.add 18446744073709551616 es=18446744073709551616 +es:=rfl
 omega
mutual
theorem VR.restrict{m1 m2:Mp}(hm:Mp.le m1 m2):∀{x v v':Value},VR m2 x v'→VR m1 x v→VR m1 x v'
 |_,_,_,.sc v h,_=>.sc v h
 |_,_,_,.top v,_=>.top v
 |_,_,_,.ptr r off l h hl,g=>by
  obtain⟨l1,h1,h2,_,_⟩:=g.i_
  have:=hm _ _ h1
  simp only at this h1
  rw[h]at this;cases this
  exact .ptr r off l h1 hl
 |_,_,_,.slice r off n cp l h hl hk hn,g=>by
  cases g with
  |sc _ hs=>simp[Ae.eH,aJ]at hs
  |slice _ _ _ _ l1 h1 _ _ _=>
   have:=hm _ _ h1
   rw[h]at this;cases this
   exact .slice r off n cp l h1 hl hk hn
  |jm=>exact(xk hk).elim
  |lF=>exact .lF _ _
  |jv=>exact(xk hk).elim
 |_,_,_,.jm r off n es cc l h hl he ht hc hN,g=>by
  generalize Aq:aT es=cu at g
  cases g with
  |sc _ hs=>simp[Ae.eH,aJ]at hs
  |slice _ _ _ _ l1 h1 _ hk _=>subst Aq;exact(xk hk).elim
  |jm _ _ _ es1 _ l1 h1 _ _ _ _ _=>
   have:=hm _ _ h1
   rw[h]at this;cases this
   rw[←Aq]
   exact .jm r off n es cc l h1 hl he ht hc hN
  |lF=>unfold aT at Aq;have e:Nat.add 18446744073709551616 es=18446744073709551616 +es:=rfl;omega
  |jv _ _ es1 _ l1 h1 _ _ _=>
   have:=hm _ _ h1
   rw[h]at this;cases this
   rw[←Aq]
   exact .jm r off _ es cc l h1 hl he ht hc hN
 |_,_,_,.lF a a',_=>.lF a a'
 |_,_,_,.jv r off es a' l h hl he hN,g=>by
  generalize Aq:aT es=cu at g
  cases g with
  |sc _ hs=>simp[Ae.eH,aJ]at hs
  |slice _ _ _ _ l1 h1 _ hk _=>subst Aq;exact(xk hk).elim
  |jm _ _ _ es1 _ l1 h1 _ _ _ _ _=>
   have:=hm _ _ h1
   rw[h]at this;cases this
   rw[←Aq]
   exact .jv r off es a' l h1 hl he hN
  |lF=>unfold aT at Aq;have e:Nat.add 18446744073709551616 es=18446744073709551616 +es:=rfl;omega
  |jv _ _ es1 _ l1 h1 _ _ _=>
   have:=hm _ _ h1
   rw[h]at this;cases this
   rw[←Aq]
   exact .jv r off es a' l h1 hl he hN
 |_,_,_,.map r l h,g=>by
  obtain⟨l1,h1,_⟩:=g.of_map
  have:=hm _ _ h1
  rw[h]at this;cases this
  exact .map r l h1
 |_,_,_,.func f x y x' y' hx hy,g=>by
  obtain⟨_,_,rfl,h1,h2⟩:=g.P_
  exact .func f x y x' y' (dh.restrict hm hx h1) (dh.restrict hm hy h2)
 |_,_,_,.iface t v v' h,g=>by
  obtain⟨_,rfl,h1⟩:=g.GA
  exact .iface t v v' (VR.restrict hm h h1)
 |_,_,_,.agg x x' h,g=>by
  obtain⟨_,rfl,h1⟩:=g.lG
  exact .agg x x' (dh.restrict hm h h1)
 |_,_,_,.tuple x x' h,g=>by
  obtain⟨_,rfl,h1⟩:=g.EL
  exact .tuple x x' (dh.restrict hm h h1)
theorem dh.restrict{m1 m2:Mp}(hm:Mp.le m1 m2):∀{x v v':List Value},dh m2 x v'→dh m1 x v→dh m1 x v'
 |_,_,_,.nil,_=>.nil
 |_,_,_,.cons v v' x x' h hx,g=>by
  cases g with
  |cons _ _ _ _ g1 g2=>exact .cons v v' x x' (VR.restrict hm h g1) (dh.restrict hm hx g2)
end
theorem rO.restrict{m1 m2:Mp}(hm:Mp.le m1 m2){x:List (Value×Value)}{v v':List MapEntry}(h:rO m2 x v')(g:rO m1 x v):rO m1 x v':=by
 induction h generalizing v with
 |nil=>exact .nil
 |cons k x e l l' hk hv _ ih=>
  cases g with
  |cons _ _ _ _ _ gk gv gl=>exact .cons k x e l l' (VR.restrict hm hk gk) (VR.restrict hm hv gv) (ih gl)
def Bz:dn→dn
 |.row R=>.row ⟨R.ty,.nil,R.n,R.dB,R.fz⟩
 |o=>o
noncomputable def dG:dn→Nat→Option Value
 |.row R,i=>if i<R.n then some (R.cells.get top i)else none
 |_,_=>none
def dZ(m:Mp)(l:Loc):dn→Obj→Prop
 |.dead,_=>True
 |.row R,.cells cs ty fr=>(ty=R.ty∧l.base=0)∧R.n=l.n∧cs.size=l.tot∧l.lo≤R.n∧l.base +(R.n -l.lo)≤l.tot∧(R.dB=false→fr.2≤l.base +(R.fz -l.lo))
 |.map es,.map mH _=>rO m es mH.toList
 |.rY s p,.stringIter s' p'=>s'=s∧p'=p∧l.base=0
 |_,_=>False
def lM(m:Mp)(l:Loc)(i:Nat)(x:Value)(ob:Obj):Prop:=∃cs ty fr v,ob=.cells cs ty fr∧cs[l.base +(i -l.lo)]?=some v∧VR m x v
theorem dZ.JW{m:Mp}{l:Loc}{o o':dn}{ob:Obj}(h:dZ m l o ob)(e:Bz o=Bz o'):dZ m l o' ob:=by
 cases o<;>cases o'<;>simp only[Bz]at e<;>first|(cases e;exact h)|cases e|skip
 case row.row R R'=>
  obtain⟨a1,a2,a3,a4,a5⟩:=R
  obtain⟨b1,b2,b3,b4,b5⟩:=R'
  simp only[dn.row.injEq,Row.mk.injEq]at e
  obtain⟨rfl,_,rfl,rfl,rfl⟩:=e
  cases ob<;>first|exact h|exact h.elim
theorem jJ.split{m:Mp}{l:Loc}{o:dn}{ob:Obj}(h:jJ m l o ob):dZ m l o ob∧∀i x,dG o i=some x→l.lo≤i→lM m l i x ob:=by
 cases o with
 |row R=>
  cases ob<;>first|exact h.elim|skip
  case cells cs ty fr=>
   obtain⟨h1,h2,h3,h4,h5,h6,h7⟩:=h
   refine⟨⟨h1,h2,h3,h4,h5,h6⟩,?_⟩
   intro i x hx hi
   simp only[dG]at hx
   split at hx
   ·next hn=>
    cases hx
    obtain⟨v,h8,h9⟩:=h7 i hi hn
    exact⟨cs,ty,fr,v,rfl,h8,h9⟩
   ·cases hx
 |dead=>exact⟨trivial,fun i x hx=>by cases hx⟩
 |map es=>cases ob<;>first|exact h.elim|exact⟨h,fun i x hx=>by cases hx⟩
 |rY s p=>cases ob<;>first|exact h.elim|exact⟨h,fun i x hx=>by cases hx⟩
theorem jJ.join{m:Mp}{l:Loc}{o:dn}{ob:Obj}(h:dZ m l o ob)(hc:∀i x,dG o i=some x→l.lo≤i→lM m l i x ob):jJ m l o ob:=by
 cases o with
 |row R=>
  cases ob<;>first|exact h.elim|skip
  case cells cs ty fr=>
   obtain⟨h1,h2,h3,h4,h5,h6⟩:=h
   refine⟨h1,h2,h3,h4,h5,h6,?_⟩
   intro i hi hn
   obtain⟨cs',ty',fr',v,e,h8,h9⟩:=hc i _ (by simp only[dG];rw[if_pos hn]) hi
   cases e
   exact⟨v,h8,h9⟩
 |dead=>trivial
 |map es=>cases ob<;>first|exact h.elim|exact h
 |rY s p=>cases ob<;>first|exact h.elim|exact h
theorem dZ.mono{m m':Mp}(hm:Mp.le m m'){l:Loc}{o:dn}{ob:Obj}(h:dZ m l o ob):dZ m' l o ob:=by
 cases o<;>cases ob<;>first|exact h|exact rO.mono hm h
theorem dZ.restrict{m1 m2:Mp}(hm:Mp.le m1 m2){l:Loc}{o:dn}{ob Bl:Obj}(h:dZ m2 l o Bl)(g:dZ m1 l o ob):dZ m1 l o Bl:=by
 cases o with
 |dead=>trivial
 |row R=>cases Bl<;>exact h
 |rY s p=>cases Bl<;>exact h
 |map es=>
  cases Bl<;>first|exact h.elim|skip
  cases ob<;>first|exact g.elim|skip
  exact rO.restrict hm h g
theorem lM.mono{m m':Mp}(hm:Mp.le m m'){l:Loc}{i:Nat}{x:Value}{ob:Obj}(h:lM m l i x ob):lM m' l i x ob:=by
 obtain⟨cs,ty,fr,v,h1,h2,h3⟩:=h
 exact⟨cs,ty,fr,v,h1,h2,h3.mono hm⟩
theorem lM.restrict{m1 m2:Mp}(hm:Mp.le m1 m2){l:Loc}{i:Nat}{x:Value}{ob Bl:Obj}(h:lM m2 l i x Bl)(g:lM m1 l i x ob):lM m1 l i x Bl:=by
 obtain⟨cs,ty,fr,v,h1,h2,h3⟩:=h
 obtain⟨_,_,_,_,_,_,g3⟩:=g
 exact⟨cs,ty,fr,v,h1,h2,VR.restrict hm h3 g3⟩
theorem QL{o o':dn}(e:Bz o=Bz o')(h:o≠.dead):o'≠.dead:=by
 intro e';subst e'
 cases o<;>first|exact h rfl|cases e
theorem sO(m i:Nat):aS m i=m.testBit i:=by
 unfold aS
 rw[Nat.testBit_eq_decide_div_mod_eq]
 have e1:Nat.shiftRight m i=m>>>i:=rfl
 rw[e1,Nat.shiftRight_eq_div_pow]
 have e2:Nat.mod (m/2^i) 2=(m/2^i) %2:=rfl
 rw[e2,Bool.eq_iff_iff,decide_eq_true_iff]
 exact⟨Nat.eq_of_beq_eq_true,fun h=>by rw[h];rfl⟩
theorem Ob(e i:Nat):aS (Nat.shiftLeft 1 e) i=true↔i=e:=by
 rw[sO]
 have e1:Nat.shiftLeft 1 e=1<<<e:=rfl
 rw[e1,Nat.one_shiftLeft,Nat.testBit_two_pow]
 simp[eq_comm]
theorem DY(a b i:Nat):aS (Nat.lor a b) i=(aS a i||aS b i):=by
 rw[sO,sO,sO]
 exact Nat.testBit_or a b i
theorem JX(i:Nat):aS 0 i=false:=by rw[sO];simp
theorem JY{acc:List Nat}{n:Nat}:∀{l:List Edge}{i:Nat},aS (nT acc n l) i=true→∃e,e∈l∧Region.binds .any e=true∧(i=e.on∨aS ((nth acc (n -1 -e.on)).getD 0) i=true):=by
 intro l
 induction l with
 |nil=>intro i h;rw[show nT acc n []=0 from rfl,JX]at h;cases h
 |cons e l ih=>
  intro i h
  replace h:aS (av (Region.binds .any e) (Nat.lor (Nat.lor (Nat.shiftLeft 1 e.on) ((nth acc (Nat.sub (Nat.sub n 1) e.on)).getD 0)) (nT acc n l)) (nT acc n l)) i=true:=h
  cases hb:Region.binds .any e with
  |false=>
   rw[hb]at h
   obtain⟨e',h1,h2⟩:=ih h
   exact⟨e',List.mem_cons_of_mem _ h1,h2⟩
  |true=>
   rw[hb]at h
   replace h:aS (Nat.lor (Nat.lor (Nat.shiftLeft 1 e.on) ((nth acc (Nat.sub (Nat.sub n 1) e.on)).getD 0)) (nT acc n l)) i=true:=h
   rw[DY,DY,Bool.or_eq_true,Bool.or_eq_true]at h
   rcases h with(h|h)|h
   ·exact⟨e,List.mem_cons_self ..,hb,.inl ((Ob _ _).1 h)⟩
   ·exact⟨e,List.mem_cons_self ..,hb,.inr h⟩
   ·obtain⟨e',h1,h2⟩:=ih h
    exact⟨e',List.mem_cons_of_mem _ h1,h2⟩
noncomputable def pK(ops:Array Oper)(j:Nat):Nat:=(iT ops.toList [] 0).getD (ops.size -1 -j) 0
theorem DZ:∀(l:List Oper)(acc:List Nat)(n:Nat),(iT l acc n).length=l.length +acc.length:=by
 intro l
 induction l with
 |nil=>intro acc n;simp[show iT [] acc n=acc from rfl]
 |cons o l ih=>
  intro acc n
  rw[show iT (o::l) acc n=iT l (nT acc n o.after.toList::acc) (n +1)from rfl,ih]
  simp;omega
theorem BA:∀(l:List Oper)(acc:List Nat)(n k:Nat),l.length≤k→(iT l acc n).getD k 0=acc.getD (k -l.length) 0:=by
 intro l
 induction l with
 |nil=>intro acc n k _;rfl
 |cons o l ih=>
  intro acc n k hk
  rw[show iT (o::l) acc n=iT l (nT acc n o.after.toList::acc) (n +1)from rfl,ih _ _ _ (by simp at hk;omega)]
  simp only[List.length_cons]at hk⊢
  rw[show k -l.length=(k -(l.length +1)) +1 from by omega]
  rfl
theorem QM:∀(l:List Oper)(acc:List Nat)(n j:Nat)(o:Oper),acc.length=n→l[j]?=some o→
 ∃acc',acc'.length=n +j∧(iT l acc n).getD (l.length -1 -j) 0=nT acc' (n +j) o.after.toList∧∀k,k<n +j→acc'.getD (n +j -1 -k) 0=(iT l acc n).getD (n +l.length -1 -k) 0:=by
 intro l
 induction l with
 |nil=>intro acc n j o _ h;simp at h
 |cons p l ih=>
  intro acc n j o hn h
  rw[show iT (p::l) acc n=iT l (nT acc n p.after.toList::acc) (n +1)from rfl]
  cases j with
  |zero=>
   simp at h
   subst h
   refine⟨acc,by simpa using hn,?_,?_⟩
   ·rw[BA _ _ _ _ (by simp)]
    simp
   ·intro k hk
    rw[BA _ _ _ _ (by simp;omega)]
    simp only[List.length_cons,Nat.add_zero]
    rw[show n +(l.length +1) -1 -k -l.length=(n -1 -k) +1 from by omega]
    rfl
  |succ j=>
   obtain⟨acc',h1,h2,h3⟩:=ih (nT acc n p.after.toList::acc) (n +1) j o (by simp[hn]) (by simpa using h)
   have hj:j<l.length:=by
    have:l[j]?=some o:=by simpa using h
    exact(List.getElem?_eq_some_iff.1 this).1
   refine⟨acc',by omega,?_,?_⟩
   ·simp only[List.length_cons]
    rw[show l.length +1 -1 -(j +1)=l.length -1 -j from by omega,h2,show n +1 +j=n +(j +1)from by omega]
   ·intro k hk
    have:=h3 k (by omega)
    rw[show n +1 +j -1 -k=n +(j +1) -1 -k from by omega,show n +1 +l.length -1 -k=n +(l.length +1) -1 -k from by omega]at this
    exact this
theorem sP:∀(l:List Oper)(n j:Nat)(o:Oper),lC l n=true→l[j]?=some o→∀e,e∈o.after.toList→Region.binds .any e=true→e.on<n +j:=by
 intro l
 induction l with
 |nil=>intro n j o _ h;simp at h
 |cons p l ih=>
  intro n j o hb h e he hbe
  replace hb:av (all' (fun e=>!(Region.binds .any e)||Nat.ble (Nat.succ e.on) n) p.after.toList) (lC l (Nat.succ n)) false=true:=hb
  cases ha:all' (fun e=>!(Region.binds .any e)||Nat.ble (Nat.succ e.on) n) p.after.toList with
  |false=>rw[ha]at hb;cases hb
  |true=>
   rw[ha]at hb
   replace hb:lC l (Nat.succ n)=true:=hb
   cases j with
   |zero=>
    simp at h
    subst h
    rw[all_eq,List.all_eq_true]at ha
    have:=ha e he
    rw[hbe]at this
    simp only[Bool.not_true,Bool.false_or]at this
    have:=Nat.le_of_ble_eq_true this
    omega
   |succ j=>
    have:=ih (n +1) j o hb (by simpa using h) e he hbe
    omega
theorem dV{ops:Array Oper}(hb:lC ops.toList 0=true){D:Nat→Prop}(hD:∀j o,ops[j]?=some o→D j→∀e,e∈o.after.toList→Region.binds .any e=true→D e.on):
 ∀(j:Nat)(o:Oper),ops[j]?=some o→(∀e,e∈o.after.toList→Region.binds .any e=true→D e.on)→∀i,aS (pK ops j) i=true→D i:=by
 intro j
 induction j using Nat.strongRecOn with
 |_ j ih=>
  intro o ho hall i hi
  have hol:ops.toList[j]?=some o:=by rw[Array.getElem?_toList];exact ho
  obtain⟨acc',h1,h2,h3⟩:=QM ops.toList [] 0 j o rfl hol
  unfold pK at hi
  rw[show ops.size -1 -j=ops.toList.length -1 -j from by simp,h2]at hi
  obtain⟨e,he,hbe,hie⟩:=JY hi
  have hlt:=sP _ 0 j o hb hol e he hbe
  rcases hie with rfl|hie
  ·exact hall e he hbe
  ·have hDe:=hall e he hbe
   have hjs:j<ops.size:=(Array.getElem?_eq_some_iff.1 ho).1
   have hoe:ops[e.on]?=some ops[e.on]:=Array.getElem?_eq_getElem (by omega)
   refine ih e.on (by omega) _ hoe (hD e.on _ hoe hDe) i ?_
   have h4:=h3 e.on (by omega)
   unfold pK
   rw[show ops.size -1 -e.on=0 +ops.toList.length -1 -e.on from by simp,←h4]
   rw[fC]at hie
   rw[List.getD_eq_getElem?_getD]
   exact hie
theorem Ff{α:Type}{f:α→α→Bool→Bool}{x:α}{m:Nat}:∀{l:List α},bF f x m l=true→∀i y,l[i]?=some y→f x y (aS m (l.length -1 -i))=true:=by
 intro l
 induction l with
 |nil=>intro _ i y h;simp at h
 |cons z l ih=>
  intro h i y hy
  replace h:av (f x z (aS m (len l))) (bF f x m l) false=true:=h
  cases hf:f x z (aS m (len l))with
  |false=>rw[hf]at h;cases h
  |true=>
   rw[hf]at h
   cases i with
   |zero=>simp at hy;subst hy;rw[aO]at hf;simpa using hf
   |succ i=>
    have:=ih h i y (by simpa using hy)
    simp only[List.length_cons]
    rw[show l.length +1 -1 -(i +1)=l.length -1 -i from by omega]
    exact this
theorem BB{α:Type}{f:α→α→Bool→Bool}:∀{ms:List Nat}{xs:List α},pairs f ms xs=true→∀i j x y,i<j→xs[i]?=some x→xs[j]?=some y→i<ms.length→
 f x y (aS (ms.getD i 0) (xs.length -1 -j))=true:=by
 intro ms
 induction ms with
 |nil=>intro xs _ i j x y _ _ _ h;simp at h
 |cons m ms ih=>
  intro xs h i j x y hij hx hy hi
  cases xs with
  |nil=>simp at hx
  |cons z xs=>
   replace h:av (bF f z m xs) (pairs f ms xs) false=true:=h
   cases hr:bF f z m xs with
   |false=>rw[hr]at h;cases h
   |true=>
    rw[hr]at h
    cases j with
    |zero=>omega
    |succ j=>
     simp only[List.length_cons]
     rw[show xs.length +1 -1 -(j +1)=xs.length -1 -j from by omega]
     cases i with
     |zero=>
      simp at hx;subst hx
      exact Ff hr j y (by simpa using hy)
     |succ i=>exact ih h i j x y (by omega) (by simpa using hx) (by simpa using hy) (by simpa using hi)
end Go.Ae
namespace Go.Ae
section mem
variable{P:Program}
theorem JZ{o:Oper}{a:Act}{w:World}{next:Act→World→Prop}{Q:Exit→Act→World→Prop}{F:Prop}(h:o.wp P a w next Q)(hn:∀a w,next a w→F)(hq:∀e a w,Q e a w→F):F:=by
 unfold Oper.wp at h
 generalize(execOp a.eval o).run P w=r at h
 cases r with
 |ok n w'=>
  cases n with
  |value v=>exact hn _ _ h
  |skip=>exact hn _ _ h
  |defer d=>exact hn _ _ h
  |enter f args=>
   obtain⟨e,w2,fr,hR,_⟩:=h []
   cases e with
   |returned v=>exact hn _ _ hR
   |panicked ch=>exact hq _ _ _ hR
   |outgrown=>obtain⟨a1,w1,h1⟩:=hR;exact hq _ _ _ h1
  |row row args=>
   obtain⟨v,w2,hR,_⟩:=h default []
   exact hn _ _ hR
  |_=>exact h.elim
 |halt x w'=>
  cases x with
  |panic v=>exact hq _ _ _ h
  |_=>exact h.elim
theorem BC{cf:cr}{n:Nat}(hcf:xg P n cf){m:Mp}{w:World}{s:St}{o:Oper}{a:Act}{v:Value}{H':aa}(rh:RH m s.H w)(gl:Gl n m)(hr:mV o.op P cf s=.mem v H')(e:Gh m s a.eval o.op.operands.toList)
 {next:Act→World→Prop}{Q:Exit→Act→World→Prop}
 (K:∀m' v' w',VR m' v v'→RH m' H' w'→Ex m m' s.H H' w w'→next (a.put o.dst v') w'):o.wp P a w next Q:=by
 unfold Oper.wp
 refine LP rh hr e ?_ K
 intro c hop hb
 rw[hop]at hr
 replace hr:kZ c P cf s=.mem v H':=hr
 obtain⟨callee,⟨args⟩,ats⟩:=c
 cases callee with
 |value g=>exact GY hcf gl rh hop hr e K
 |invoke r name=>exact GZ hcf gl rh hop hr e K
 |builtin b=>cases hb
theorem Gh.aV{m:Mp}{s:St}{ρ:Operand→Value}{L:List Operand}(e:Gh m s ρ L):Gh m (aV s) ρ L:=⟨fun x hx=>by have:=e.all x hx;cases x<;>exact this⟩
inductive BD(P:Program)(cf:cr)(ops:Array Oper)(o:Oper)(s:St):St→Cl→Prop where
 |skip (hw:iq ops s o.guard=some false):BD P cf ops o s (bG s o.dst undef s.H) (cl 0)
 |rJ (v:Value) (hw:iq ops s o.guard=some true) (hr:mV o.op P cf (aV s)=.rJ v):BD P cf ops o s (bG s o.dst v s.H) (cl 0)
 |mem (v:Value) (H':aa) (hw:iq ops s o.guard=some true) (hr:mV o.op P cf (aV s)=.mem v H'):
  BD P cf ops o s (bG s o.dst v ⟨H'.j6,H'.next,fH s.H.low H'.low⟩) (iR P o.op s H')
theorem QN{cf:cr}{ops:Array Oper}{o:Oper}{s s1:St}{c:Cl}(h:cO P cf ops o s=some (s1,c)):BD P cf ops o s s1 c:=by
 (replace h:=ah h;obtain⟨b,hb,h⟩:=h)
 cases b with
 |false=>
  replace h:some (bG s o.dst undef s.H,cl 0)=some (s1,c):=h
  cases h
  exact .skip hb
 |true=>
  replace h:zf P o s (mV o.op P cf (aV s))=some (s1,c):=h
  cases hr:mV o.op P cf (aV s)with
  |fail=>rw[hr]at h;cases h
  |rJ v=>
   rw[hr]at h
   replace h:some (bG s o.dst v s.H,cl 0)=some (s1,c):=h
   cases h
   exact .rJ v hb hr
  |mem v H'=>
   rw[hr]at h
   replace h:some (bG s o.dst v ⟨H'.j6,H'.next,fH s.H.low H'.low⟩,iR P o.op s H')=some (s1,c):=h
   cases h
   exact .mem v H' hb hr
def TF(P:Program)(cf:cr)(ops:Array Oper)(o:Oper)(s:St):Prop:=∀v H',mV o.op P cf (aV s)=.mem v H'→iq ops s o.guard=some true→s.H.next≤H'.next∧∀r,r<s.H.next→r<H'.low→H'.obj r=s.H.obj r
theorem RH.low{m:Mp}{H:aa}{w:World}(rh:RH m H w)(k:Nat):RH m ⟨H.j6,H.next,k⟩ w:=⟨rh.dom,rh.ok,rh.sep⟩
theorem trace{cf:cr}{n:Nat}(hcf:xg P n cf){ops:Array Oper}{nt:Nat}:
 ∀(l:List Oper)(s s1:St)(acc cls:List Cl)(m:Mp)(a:Act)(w:World),(∀o,o∈l→lJ n nt o=true)→s.nt=nt→RH m s.H w→FR m s a→Gl n m→
 bD P cf ops l s acc=some (s1,cls)→
 ∃(S:Nat→St)(C:Nat→Cl),S 0=s∧S l.length=s1∧cls.length=l.length +acc.length∧(∀j,j<l.length→cls[l.length -1 -j]?=some (C j))∧(∀k,cls[l.length +k]?=acc[k]?)∧
  ∀j o,l[j]?=some o→BD P cf ops o (S j) (S (j +1)) (C j)∧TF P cf ops o (S j)∧(S j).nt=nt:=by
 intro l
 induction l with
 |nil=>
  intro s s1 acc cls m a w _ hnt _ _ _ h
  cases h
  exact⟨fun _=>s,fun _=>cl 0,rfl,rfl,by simp,by simp,by simp,by simp⟩
 |cons o l ih=>
  intro s s1 acc cls m a w hall hnt rh f gl h
  replace h:(ai (cO P cf ops o s) fun q=>bD P cf ops l q.1 (q.2::acc))=some (s1,cls):=h
  (replace h:=ah h;obtain⟨q,hq,h⟩:=h)
  obtain⟨s2,c⟩:=q
  have hst:=QN hq
  have ho:=hall o (by simp)
  unfold lJ at ho
  simp only[Bool.and_eq_true]at ho
  have key:(∃m' a' w',RH m' s2.H w'∧FR m' s2 a'∧Gl n m')∧TF P cf ops o s∧s2.nt=nt:=by
   cases hst with
   |skip hw=>
    refine⟨⟨m,a.put o.dst undef,w,by rw[dz];exact rh,f.put (by rw[hnt];exact ho.2) (.tuple [] [] .nil),gl⟩,?_,by rw[mZ];exact hnt⟩
    intro v H' _ hw';rw[hw]at hw';cases hw'
   |rJ v hw hr=>
    have e:=(f.ev gl ho.1).aV
    obtain⟨v',h1,h2⟩:=E9 hr e (fun _=>rfl)
    refine⟨⟨m,a.put o.dst v',w,by rw[dz];exact rh,f.put (by rw[hnt];exact ho.2) h1,gl⟩,?_,by rw[mZ];exact hnt⟩
    intro v1 H' hr' _;rw[hr]at hr';cases hr'
   |mem v H' hw hr=>
    have e:=(f.ev gl ho.1).aV
    have hx:o.wp P a w (fun a' w'=>∃m',(RH m' (bG s o.dst v ⟨H'.j6,H'.next,fH s.H.low H'.low⟩).H w'∧FR m' (bG s o.dst v ⟨H'.j6,H'.next,fH s.H.low H'.low⟩) a'∧Gl n m')∧
     (s.H.next≤H'.next∧∀r,r<s.H.next→r<H'.low→H'.obj r=s.H.obj r)) (fun _ _ _=>False):=by
     refine BC hcf (s:=aV s) (rh.low _) gl hr e ?_
     intro m' v' w' h1 h2 h3
     exact⟨m',⟨by rw[dz];exact h2.low _,(f.mono h3.le).put (by rw[hnt];exact ho.2) h1,gl.mono h3.le⟩,h3.next,h3.j6⟩
    have:=JZ (F:=(∃m' a' w',RH m' (bG s o.dst v ⟨H'.j6,H'.next,fH s.H.low H'.low⟩).H w'∧FR m' (bG s o.dst v ⟨H'.j6,H'.next,fH s.H.low H'.low⟩) a'∧Gl n m')∧
     (s.H.next≤H'.next∧∀r,r<s.H.next→r<H'.low→H'.obj r=s.H.obj r)) hx
     (fun a' w' ⟨m',h1,h2⟩=>⟨⟨m',a',w',h1⟩,h2⟩) (fun _ _ _ h=>h.elim)
    refine⟨this.1,?_,by rw[mZ];exact hnt⟩
    intro v1 H1 hr' _;rw[hr]at hr';cases hr'
    exact this.2
  obtain⟨⟨m',a',w',rh',f',gl'⟩,Yx,aco⟩:=key
  obtain⟨S,C,e1,e2,e3,e4,e5,e6⟩:=ih s2 s1 (c::acc) cls m' a' w' (fun p hp=>hall p (by simp[hp])) aco rh' f' gl' h
  refine⟨fun k=>match k with|0=>s|k +1=>S k,fun k=>match k with|0=>c|k +1=>C k,rfl,e2,by simp at e3⊢;omega,?_,?_,?_⟩
  ·intro j hj
   cases j with
   |zero=>
    have:=e5 0
    simpa using this
   |succ j=>
    simp only[List.length_cons]at hj⊢
    rw[show l.length +1 -1 -(j +1)=l.length -1 -j from by omega]
    exact e4 j (by omega)
  ·intro k
   have:=e5 (k +1)
   simp only[List.length_cons]
   rw[show l.length +1 +k=l.length +(k +1)from by omega,this]
   rfl
  ·intro j p hp
   cases j with
   |zero=>
    simp at hp;subst hp
    exact⟨by simpa [e1]using hst,Yx,hnt⟩
   |succ j=>exact e6 j p (by simpa using hp)
theorem QO{o:Op}{s:St}{H':aa}:(iR P o s H').k≤5:=by
 unfold iR
 cases qD o with
 |none=>
  show(av (Nat.ble s.H.next H'.low) (av (oZ o) (cl 5) (o5 P o s)) ⟨2,0,0,0,s.H,H'⟩:Cl).k≤5
  cases Nat.ble s.H.next H'.low with
  |false=>exact Nat.le_of_ble_eq_true rfl
  |true=>
   cases oZ o with
   |true=>exact Nat.le_of_ble_eq_true rfl
   |false=>
    show(o5 P o s).k≤5
    unfold o5
    cases h:(ai (yz o) fun p=>ai (gJ (ev s p.2)) fun a=>ai (Ps P p.1) fun l=>some (Cl.mk 4 a.block a.off (l.getD 1) hh0 hh0))with
    |none=>exact Nat.le_of_ble_eq_true rfl
    |some q=>
     (replace h:=ah h;obtain⟨p,hp,h⟩:=h)
     (replace h:=ah h;obtain⟨a,ha,h⟩:=h)
     (replace h:=ah h;obtain⟨l,hl,h⟩:=h)
     cases h
     exact Nat.le_of_ble_eq_true rfl
 |some p=>
  show(@Option.rec Addr (fun _=>Cl) ⟨2,0,0,0,s.H,H'⟩ (fun a=>⟨3,a.block,a.off,len (ay (ev s p.2)),hh0,hh0⟩) (gJ (ev s p.1)):Cl).k≤5
  cases gJ (ev s p.1)<;>exact Nat.le_of_ble_eq_true rfl
theorem Oc{ops:Array Oper}(h:f_ ops=true):lC ops.toList 0=true∧∀i j oi oj,i<j→ops[i]?=some oi→ops[j]?=some oj→aS (pK ops j) i=true∨oi.apart ops oj=true:=by
 unfold f_ at h
 rw[Bool.and_eq_true]at h
 refine⟨h.1,fun i j oi oj hij hi hj=>?_⟩
 have hjs:j<ops.size:=(Array.getElem?_eq_some_iff.1 hj).1
 have hget:∀k o,ops[k]?=some o→ops.toList.reverse[ops.size -1 -k]?=some o:=by
  intro k o hk
  have hks:k<ops.size:=(Array.getElem?_eq_some_iff.1 hk).1
  rw[List.getElem?_reverse (by simp;omega)]
  simp only[Array.length_toList]
  rw[show ops.size -1 -(ops.size -1 -k)=k from by omega,Array.getElem?_toList]
  exact hk
 have:=BB h.2 (ops.size -1 -j) (ops.size -1 -i) oj oi (by omega) (hget j oj hj) (hget i oi hi) (by rw[DZ];simp;omega)
 simp only[List.length_reverse,Array.length_toList]at this
 rw[show ops.size -1 -(ops.size -1 -i)=i from by omega]at this
 simpa [pK]using this
theorem QS{ops:Array Oper}{cls:List Cl}{C:Nat→Cl}(h:bO ops cls=true)(hl:cls.length=ops.size)(hC:∀j,j<ops.size→cls[ops.size -1 -j]?=some (C j))(hk:∀j,j<ops.size→(C j).k≤5):
 ∀i j,i<j→j<ops.size→aL (C j) (C i) (aS (pK ops j) i)=true:=by
 intro i j hij hj
 unfold bO at h
 cases hn:noTwo cls with
 |false=>
  rw[hn]at h
  have:=BB (f:=aL) h (ops.size -1 -j) (ops.size -1 -i) (C j) (C i) (by omega) (hC j hj) (hC i (by omega)) (by rw[DZ];simp;omega)
  rw[hl,show ops.size -1 -(ops.size -1 -i)=i from by omega]at this
  exact this
 |true=>
  have hno:∀k,k<ops.size→(C k).k≠2∧(C k).k≠3:=by
   intro k hk'
   unfold noTwo at hn
   rw[all_eq,List.all_eq_true]at hn
   have:=hn (C k) (List.mem_of_getElem? (hC k hk'))
   simp only[Bool.not_eq_true',Bool.or_eq_false_iff]at this
   exact⟨fun e=>by rw[e]at this;exact absurd this.1 (by decide),fun e=>by rw[e]at this;exact absurd this.2 (by decide)⟩
  have h1:=hno i (by omega)
  have h2:=hno j hj
  have h3:=hk i (by omega)
  have h4:=hk j hj
  generalize C i=ci at h1 h3⊢
  generalize C j=cj at h2 h4⊢
  obtain⟨ki,_,_,_,_,_⟩:=ci
  obtain⟨kj,_,_,_,_,_⟩:=cj
  simp only at h1 h2 h3 h4
  have e1:ki=0∨ki=1∨ki=4∨ki=5:=by omega
  have e2:kj=0∨kj=1∨kj=4∨kj=5:=by omega
  rcases e1 with rfl|rfl|rfl|rfl<;>rcases e2 with rfl|rfl|rfl|rfl<;>rfl
theorem Fg{x y:Cl}{b:Bool}(h:aL y x b=true)(hx:x.k=1∨x.k=2)(hy:y.k=1∨y.k=2)(h2:x.k=2∨y.k=2):b=true:=by
 obtain⟨kx,_,_,_,_,_⟩:=x
 obtain⟨ky,_,_,_,_,_⟩:=y
 simp only at hx hy h2
 rcases hx with rfl|rfl<;>rcases hy with rfl|rfl<;>first|(exfalso;omega)|exact h
theorem LV{x y:Cl}{b:Bool}(h:aL y x b=true)(hx:x.k=3)(hy:y.k=1∨y.k=2):False:=by
 obtain⟨kx,_,_,_,_,_⟩:=x
 obtain⟨ky,_,_,_,_,_⟩:=y
 simp only at hx hy
 subst hx
 rcases hy with rfl|rfl<;>(cases b<;>exact absurd (show false=true from h) (by simp))
theorem LW{x y:Cl}{b:Bool}(h:aL y x b=true)(hx:x.k=1∨x.k=2)(hy:y.k=3):b=true:=by
 obtain⟨kx,_,_,_,_,_⟩:=x
 obtain⟨ky,_,_,_,_,_⟩:=y
 simp only at hx hy
 subst hy
 rcases hx with rfl|rfl<;>(cases b<;>first|rfl|exact h)
theorem QT{x y:Cl}{b:Bool}(h:aL y x b=true)(hx:x.k=3)(hy:y.k=3):b=true∨kE x y=true:=by
 obtain⟨kx,_,_,_,_,_⟩:=x
 obtain⟨ky,_,_,_,_,_⟩:=y
 simp only at hx hy
 subst hx hy
 cases b with
 |true=>exact .inl rfl
 |false=>exact .inr h
theorem Yy{x y:Cl}{b:Bool}(h:aL y x b=true)(hx:x.k=4)(hy:y.k=3):b=true∨kE x y=true:=by
 obtain⟨kx,_,_,_,_,_⟩:=x
 obtain⟨ky,_,_,_,_,_⟩:=y
 simp only at hx hy
 subst hx hy
 cases b with
 |true=>exact .inl rfl
 |false=>exact .inr h
theorem Yz{x y:Cl}{b:Bool}(h:aL y x b=true)(hx:x.k=3)(hy:y.k=4):b=true∨kE x y=true:=by
 obtain⟨kx,_,_,_,_,_⟩:=x
 obtain⟨ky,_,_,_,_,_⟩:=y
 simp only at hx hy
 subst hx hy
 cases b with
 |true=>exact .inl rfl
 |false=>exact .inr h
theorem YA{x y:Cl}{b:Bool}(h:aL y x b=true)(hx:x.k=4)(hy:y.k=2):b=true∨gI y x=true:=by
 obtain⟨kx,_,_,_,_,_⟩:=x
 obtain⟨ky,_,_,_,_,_⟩:=y
 simp only at hx hy
 subst hx hy
 cases b with
 |true=>exact .inl rfl
 |false=>exact .inr h
theorem YB{x y:Cl}{b:Bool}(h:aL y x b=true)(hx:x.k=2)(hy:y.k=4):b=true∨gI x y=true:=by
 obtain⟨kx,_,_,_,_,_⟩:=x
 obtain⟨ky,_,_,_,_,_⟩:=y
 simp only at hx hy
 subst hx hy
 cases b with
 |true=>exact .inl rfl
 |false=>exact .inr h
end mem
end Go.Ae
namespace Go.Ae
section cls
variable{P:Program}
theorem Fh{o:Op}{s:St}{H':aa}:
 (∃p a,qD o=some p∧gJ (ev s p.1)=some a∧iR P o s H'=⟨3,a.block,a.off,len (ay (ev s p.2)),hh0,hh0⟩)∨
 (iR P o s H'=⟨2,0,0,0,s.H,H'⟩)∨
 (s.H.next≤H'.low∧((oZ o=true∧iR P o s H'=cl 5)∨iR P o s H'=cl 1∨
   ∃p a l,yz o=some p∧gJ (ev s p.2)=some a∧Ps P p.1=some l∧iR P o s H'=⟨4,a.block,a.off,l.getD 1,hh0,hh0⟩)):=by
 have e:iR P o s H'=@Option.rec (Operand×Operand) (fun _=>Cl) (av (Nat.ble s.H.next H'.low) (av (oZ o) (cl 5) (o5 P o s)) ⟨2,0,0,0,s.H,H'⟩)
  (fun p=>@Option.rec Addr (fun _=>Cl) ⟨2,0,0,0,s.H,H'⟩ (fun a=>⟨3,a.block,a.off,len (ay (ev s p.2)),hh0,hh0⟩) (gJ (ev s p.1))) (qD o):=rfl
 cases hs:qD o with
 |none=>
  rw[hs]at e
  cases hb:Nat.ble s.H.next H'.low with
  |false=>rw[hb]at e;exact .inr (.inl e)
  |true=>
   rw[hb]at e
   refine .inr (.inr ⟨Nat.le_of_ble_eq_true hb,?_⟩)
   cases hf:oZ o with
   |true=>rw[hf]at e;exact .inl ⟨rfl,e⟩
   |false=>
    rw[hf]at e
    replace e:iR P o s H'=o5 P o s:=e
    unfold o5 at e
    cases h:(ai (yz o) fun p=>ai (gJ (ev s p.2)) fun a=>ai (Ps P p.1) fun l=>some (Cl.mk 4 a.block a.off (l.getD 1) hh0 hh0))with
    |none=>rw[h]at e;exact .inr (.inl e)
    |some q=>
     rw[h]at e
     (replace h:=ah h;obtain⟨p,hp,h⟩:=h)
     (replace h:=ah h;obtain⟨a,ha,h⟩:=h)
     (replace h:=ah h;obtain⟨l,hl,h⟩:=h)
     cases h
     exact .inr (.inr ⟨p,a,l,hp,ha,hl,e⟩)
 |some p=>
  rw[hs]at e
  replace e:iR P o s H'=@Option.rec Addr (fun _=>Cl) ⟨2,0,0,0,s.H,H'⟩ (fun a=>⟨3,a.block,a.off,len (ay (ev s p.2)),hh0,hh0⟩) (gJ (ev s p.1)):=e
  cases ha:gJ (ev s p.1)with
  |none=>rw[ha]at e;exact .inr (.inl e)
  |some a=>rw[ha]at e;exact .inl ⟨p,a,rfl,ha,e⟩
end cls
structure Rg(P:Program)(cf:cr)(ops:Array Oper)(n nt:Nat)(S:Nat→St)(C:Nat→Cl):Prop where
 step:∀(j:Nat)(o:Oper),ops[j]?=some o→BD P cf ops o (S j) (S (j +1)) (C j)
 tf:∀(j:Nat)(o:Oper),ops[j]?=some o→TF P cf ops o (S j)
 nts:∀(j:Nat)(o:Oper),ops[j]?=some o→(S j).nt=nt
 ok:∀(j:Nat)(o:Oper),ops[j]?=some o→lJ n nt o=true
 back:lC ops.toList 0=true
 stat:∀(i j:Nat)(oi oj:Oper),i<j→ops[i]?=some oi→ops[j]?=some oj→aS (pK ops j) i=true∨oi.apart ops oj=true
 dyn:∀i j,i<j→j<ops.size→aL (C j) (C i) (aS (pK ops j) i)=true
def Closed(ops:Array Oper)(D:Nat→Prop):Prop:=∀(j:Nat)(o:Oper),ops[j]?=some o→D j→∀e,e∈o.after.toList→Region.binds .any e=true→D e.on
def xm(D:Nat→Prop)(i:Nat)(j:Nat):Prop:=D j∨j=i
inductive Ct where
 |shape(o:dn)
 |cell(v:Option Value)
noncomputable def cont:Option Nat→dn→Ct
 |none,o=>.shape (Bz o)
 |some i,o=>.cell (dG o i)
def Rel(κ:Option Nat)(m:Mp)(l:Loc)(c:Ct)(ob:Obj):Prop:=
 match κ,c with
 |none,.shape o=>dZ m l o ob
 |some i,.cell (some x)=>l.lo≤i→lM m l i x ob
 |_,_=>True
theorem Rel.mono{κ:Option Nat}{m m':Mp}(hm:Mp.le m m'){l:Loc}{c:Ct}{ob:Obj}(h:Rel κ m l c ob):Rel κ m' l c ob:=by
 cases κ with
 |none=>cases c with|shape o=>exact dZ.mono hm h|cell v=>trivial
 |some i=>cases c with
  |shape o=>trivial
  |cell v=>cases v with|none=>trivial|some x=>exact fun hl=>lM.mono hm (h hl)
theorem Rel.restrict{κ:Option Nat}{m1 m2:Mp}(hm:Mp.le m1 m2){l:Loc}{c:Ct}{ob Bl:Obj}(h:Rel κ m2 l c Bl)(g:Rel κ m1 l c ob):Rel κ m1 l c Bl:=by
 cases κ with
 |none=>cases c with|shape o=>exact dZ.restrict hm h g|cell v=>trivial
 |some i=>cases c with
  |shape o=>trivial
  |cell v=>cases v with|none=>trivial|some x=>exact fun hl=>lM.restrict hm (h hl) (g hl)
theorem LX(o:dn):Bz (Bz o)=Bz o:=by cases o<;>rfl
theorem Rel.fO{κ:Option Nat}{m:Mp}{l:Loc}{o:dn}{ob:Obj}(h:jJ m l o ob):Rel κ m l (cont κ o) ob:=by
 cases κ with
 |none=>exact(h.split.1).JW (LX o).symm
 |some i=>
  show Rel (some i) m l (.cell (dG o i)) ob
  cases hc:dG o i with
  |none=>trivial
  |some x=>exact fun hl=>h.split.2 i x hc hl
theorem Rel.QU{m:Mp}{l:Loc}{o:dn}{ob:Obj}(h:∀κ,Rel κ m l (cont κ o) ob):jJ m l o ob:=by
 refine jJ.join ((show dZ m l (Bz o) ob from h none).JW (LX o)) ?_
 intro i x hx hl
 have:=h (some i)
 rw[show cont (some i) o=.cell (some x)from by show Ct.cell (dG o i)=_;rw[hx]]at this
 exact this hl
section con
variable{S:Nat→St}{N:Nat}
noncomputable abbrev nx(S:Nat→St)(k:Nat):Nat:=(S k).H.next
noncomputable abbrev at'(S:Nat→St)(κ:Option Nat)(r k:Nat):Ct:=cont κ ((S k).H.obj r)
def ve(S:Nat→St)(N:Nat)(D:Nat→Prop)(κ:Option Nat)(r k:Nat):Prop:=r<nx S k∧∀j,j<N→r<nx S j→at' S κ r j≠at' S κ r (j +1)→(D j↔j<k)
theorem ve.WT(mono:∀i j,i≤j→j≤N→nx S i≤nx S j){D:Nat→Prop}{κ:Option Nat}{r:Nat}:∀(d k:Nat),k +d≤N→ve S N D κ r k→ve S N D κ r (k +d)→at' S κ r k=at' S κ r (k +d):=by
 intro d k hkd h1 h2
 have:∀e,e≤d→at' S κ r k=at' S κ r (k +e):=by
  intro e
  induction e with
  |zero=>intro _;rfl
  |succ e ih=>
   intro he
   rw[ih (by omega)]
   apply Classical.byContradiction
   intro hne
   have hr:r<nx S (k +e):=Nat.lt_of_lt_of_le h1.1 (mono _ _ (by omega) (by omega))
   have a1:=h1.2 (k +e) (by omega) hr hne
   have a2:=h2.2 (k +e) (by omega) hr hne
   have:=a1.1 (a2.2 (by omega))
   omega
 exact this d (Nat.le_refl _)
theorem ve.eq(mono:∀i j,i≤j→j≤N→nx S i≤nx S j){D:Nat→Prop}{κ:Option Nat}{r k k':Nat}(hk:k≤N)(hk':k'≤N)(h1:ve S N D κ r k)(h2:ve S N D κ r k'):at' S κ r k=at' S κ r k':=by
 rcases Nat.le_total k k' with h|h
 ·have:=ve.WT mono (k' -k) k (by omega) h1 (by rw[show k +(k' -k)=k' from by omega];exact h2)
  rwa [show k +(k' -k)=k' from by omega]at this
 ·have:=ve.WT mono (k -k') k' (by omega) h2 (by rw[show k' +(k -k')=k from by omega];exact h1)
  rw[show k' +(k -k')=k from by omega]at this
  exact this.symm
theorem ve.less{D:Nat→Prop}{i:Nat}{κ:Option Nat}{r k:Nat}(h:ve S N (xm D i) κ r k)(hi:r<nx S i→at' S κ r i=at' S κ r (i +1)):ve S N D κ r k:=by
 refine⟨h.1,fun j hj hr hne=>?_⟩
 have hji:j≠i:=fun e=>hne (by subst e;exact hi hr)
 rw[←h.2 j hj hr hne]
 exact⟨.inl,fun hh=>hh.resolve_right hji⟩
end con
structure MInv(S:Nat→St)(C:Nat→Cl)(N:Nat)(m0:Mp)(w0:World)(D:Nat→Prop)(m:Mp)(w:World):Prop where
 dom:∀r l,m r=some l→(m0 r=some l∧r<nx S 0)∨∃i,i<N∧D i∧nx S i≤r∧r<nx S (i +1)
 Od:∀r l,m r=some l→∃o,w.heap[l.c]?=some o
 cnt:∀κ r l k o,k≤N→m r=some l→ve S N D κ r k→w.heap[l.c]?=some o→Rel κ (m.upto (nx S k)) l (at' S κ r k) o
 sep:∀r r' l l' k k',m r=some l→m r'=some l'→l.c=l'.c→k≤N→k'≤N→ve S N D none r k→ve S N D none r' k'→(S k).H.obj r≠.dead→(S k').H.obj r'≠.dead→r=r'
 clash:∀r r' l l' j,m r=some l→m r'=some l'→l.c=l'.c→j<N→¬D j→(C j).k=2→(r<nx S j↔r'<nx S j)
 hid:∀j r,j<N→D j→r<nx S j→m r=none→(S (j +1)).H.obj r=(S j).H.obj r
 le:Mp.le m0 m
 fresh:∀r l,m r=some l→m0 r=none→l.c<w0.heap.size→∃r0 l0,m0 r0=some l0∧l0.c=l.c∧(S N).H.low≤r0
 os:w.os=w0.os
 tape:w.tape=w0.tape
 output:w.output=w0.output
 size:w0.heap.size≤w.heap.size
 keep:∀c,c<w0.heap.size→(∀r l,m0 r=some l→l.c=c→r<(S N).H.low)→w.heap[c]?=w0.heap[c]?
section rg
variable{P:Program}{cf:cr}{ops:Array Oper}{n nt:Nat}{S:Nat→St}{C:Nat→Cl}
theorem Rg.G4(g:Rg P cf ops n nt S C){j:Nat}(hj:j<ops.size):nx S j≤nx S (j +1):=by
 have ho:ops[j]?=some ops[j]:=Array.getElem?_eq_getElem hj
 have hs:=g.step j _ ho
 have Yx:=g.tf j _ ho
 show(S j).H.next≤(S (j +1)).H.next
 generalize S (j +1)=s1 at hs
 generalize C j=c at hs
 cases hs with
 |skip hw=>rw[dz];exact Nat.le_refl _
 |rJ v hw hr=>rw[dz];exact Nat.le_refl _
 |mem v H' hw hr=>rw[dz];exact(Yx v H' hr hw).1
theorem Rg.mono(g:Rg P cf ops n nt S C):∀i j,i≤j→j≤ops.size→nx S i≤nx S j:=by
 intro i j hij hj
 obtain⟨d,rfl⟩:=Nat.exists_eq_add_of_le hij
 clear hij
 induction d with
 |zero=>exact Nat.le_refl _
 |succ d ih=>exact Nat.le_trans (ih (by omega)) (g.G4 (by omega))
theorem uF(a b:Nat):fH a b≤a∧fH a b≤b:=by
 unfold fH
 cases h:Nat.ble a b with
 |true=>exact⟨Nat.le_refl _,Nat.le_of_ble_eq_true h⟩
 |false=>
  have:¬a≤b:=fun h'=>by rw[Nat.ble_eq_true_of_le h']at h;cases h
  exact⟨by show b≤a;omega,Nat.le_refl _⟩
theorem Rg.acp(g:Rg P cf ops n nt S C){j:Nat}(hj:j<ops.size):(S (j +1)).H.low≤(S j).H.low:=by
 have hs:=g.step j _ (Array.getElem?_eq_getElem hj)
 generalize S (j +1)=s1 at hs
 generalize C j=c at hs
 cases hs with
 |skip hw=>rw[dz];exact Nat.le_refl _
 |rJ v hw hr=>rw[dz];exact Nat.le_refl _
 |mem v H' hw hr=>rw[dz];exact(uF _ _).1
theorem Rg.low(g:Rg P cf ops n nt S C):∀i j,i≤j→j≤ops.size→(S j).H.low≤(S i).H.low:=by
 intro i j hij hj
 obtain⟨d,rfl⟩:=Nat.exists_eq_add_of_le hij
 clear hij
 induction d with
 |zero=>exact Nat.le_refl _
 |succ d ih=>exact Nat.le_trans (g.acp (j:=i +d) (by omega)) (ih (by omega))
theorem Rg.same(g:Rg P cf ops n nt S C){j r:Nat}(hj:j<ops.size)(h2:(C j).k≠2)(h3:(C j).k≠3)(hr:r<nx S j):(S (j +1)).H.obj r=(S j).H.obj r:=by
 have ho:ops[j]?=some ops[j]:=Array.getElem?_eq_getElem hj
 have hs:=g.step j _ ho
 have Yx:=g.tf j _ ho
 generalize S (j +1)=s1 at hs
 generalize hc:C j=c at hs
 rw[hc]at h2 h3
 cases hs with
 |skip hw=>rw[dz]
 |rJ v hw hr=>rw[dz]
 |mem v H' hw hr'=>
  rw[dz]
  show H'.obj r=_
  rcases Fh (P:=P) (o:=ops[j].op) (s:=S j) (H':=H')with⟨p,a,_,_,e⟩|e|⟨hlow,_⟩
  ·rw[e]at h3;exact absurd rfl h3
  ·rw[e]at h2;exact absurd rfl h2
  ·exact(Yx v H' hr' hw).2 r hr (Nat.lt_of_lt_of_le hr hlow)
theorem Rg.Vi(g:Rg P cf ops n nt S C){j r:Nat}(hj:j<ops.size)(hr:r<nx S j)(hl:r<(S ops.size).H.low):(S (j +1)).H.obj r=(S j).H.obj r:=by
 have ho:ops[j]?=some ops[j]:=Array.getElem?_eq_getElem hj
 have hs:=g.step j _ ho
 have Yx:=g.tf j _ ho
 have hlow:=g.low (j +1) ops.size (by omega) (Nat.le_refl _)
 generalize S (j +1)=s1 at hs hlow
 generalize C j=c at hs
 cases hs with
 |skip hw=>rw[dz]
 |rJ v hw hr=>rw[dz]
 |mem v H' hw hr'=>
  rw[dz]at hlow⊢
  exact(Yx v H' hr' hw).2 r hr (Nat.lt_of_lt_of_le (Nat.lt_of_lt_of_le hl hlow) (uF _ _).2)
theorem Rg.turns(g:Rg P cf ops n nt S C){κ:Option Nat}{j r:Nat}(hj:j<ops.size)(hr:r<nx S j)(hne:at' S κ r j≠at' S κ r (j +1)):(C j).k=2∨(C j).k=3:=by
 apply Classical.byContradiction
 intro h
 exact hne (by show cont κ _=cont κ _;rw[g.same hj (fun e=>h (.inl e)) (fun e=>h (.inr e)) hr])
theorem Rg.LY(g:Rg P cf ops n nt S C){D:Nat→Prop}(hD:Closed ops D){i:Nat}(hi:i<ops.size)(vg:¬D i)(fD:∀e,e∈ops[i].after.toList→Region.binds .any e=true→D e.on)
 (hc:(C i).k=1∨(C i).k=2){κ:Option Nat}{r:Nat}(hr:r<nx S i):ve S ops.size D κ r i:=by
 refine⟨hr,fun j hj Gi hne=>?_⟩
 have hcj:=g.turns hj Gi hne
 have hoi:ops[i]?=some ops[i]:=Array.getElem?_eq_getElem hi
 have hoj:ops[j]?=some ops[j]:=Array.getElem?_eq_getElem hj
 rcases Nat.lt_trichotomy j i with h|h|h
 ·refine⟨fun _=>h,fun _=>?_⟩
  have hd:=g.dyn j i h hi
  rcases hcj with hcj|hcj
  ·exact dV g.back hD i _ hoi fD j (Fg hd (.inr hcj) hc (.inl hcj))
  ·exact(LV hd hcj hc).elim
 ·subst h;exact⟨fun h=>absurd h vg,fun h=>absurd h (Nat.lt_irrefl _)⟩
 ·refine⟨fun CU=>?_,fun h'=>by omega⟩
  have hd:=g.dyn i j h hj
  have hb:aS (pK ops j) i=true:=by
   rcases hcj with hcj|hcj
   ·exact Fg hd hc (.inr hcj) (.inr hcj)
   ·exact LW hd hc hcj
  exact absurd (dV g.back hD j _ hoj (hD j _ hoj CU) i hb) vg
theorem Rg.acr(g:Rg P cf ops n nt S C){D:Nat→Prop}(hD:Closed ops D){i:Nat}(hi:i<ops.size)(vg:¬D i)(fD:∀e,e∈ops[i].after.toList→Region.binds .any e=true→D e.on)
 (hc:(C i).k=2){κ:Option Nat}{r:Nat}(hr:r<nx S i):ve S ops.size (xm D i) κ r (i +1):=by
 have h0:=g.LY hD hi vg fD (.inr hc) (κ:=κ) hr
 refine⟨Nat.lt_of_lt_of_le hr (g.G4 hi),fun j hj Gi hne=>?_⟩
 have:=h0.2 j hj Gi hne
 constructor
 ·rintro(h|h)
  ·have:=this.1 h;omega
  ·omega
 ·intro h
  by_cases e:j=i
  ·exact .inr e
  ·exact .inl (this.2 (by omega))
end rg
end Go.Ae
namespace Go.Ae
section rg
variable{P:Program}{cf:cr}{ops:Array Oper}{n nt:Nat}{S:Nat→St}{C:Nat→Cl}{m0:Mp}{w0:World}
theorem MInv.still{D:Nat→Prop}{m:Mp}{w:World}(I:MInv S C ops.size m0 w0 D m w){i:Nat}(hi:i<ops.size)(hs:∀r,r<nx S i→(S (i +1)).H.obj r=(S i).H.obj r):MInv S C ops.size m0 w0 (xm D i) m w where
 dom:=fun r l h=>(I.dom r l h).imp id fun⟨j,h1,h2,h3⟩=>⟨j,h1,.inl h2,h3⟩
 Od:=I.Od
 cnt:=fun κ r l k o hk hm hc ho=>I.cnt κ r l k o hk hm (hc.less fun hr=>by show cont κ _=cont κ _;rw[hs r hr]) ho
 sep:=fun r r' l l' k k' h1 h2 h3 h4 h5 h6 h7 h8 h9=>I.sep r r' l l' k k' h1 h2 h3 h4 h5 (h6.less fun hr=>by show cont none _=cont none _;rw[hs r hr]) (h7.less fun hr=>by show cont none _=cont none _;rw[hs r' hr]) h8 h9
 clash:=fun r r' l l' j h1 h2 h3 h4 h5 h6=>I.clash r r' l l' j h1 h2 h3 h4 (fun h=>h5 (.inl h)) h6
 hid:=fun j r h1 h2 h3 h4=>by
  rcases h2 with h2|rfl
  ·exact I.hid j r h1 h2 h3 h4
  ·exact hs r h3
 le:=I.le
 fresh:=I.fresh
 os:=I.os
 tape:=I.tape
 output:=I.output
 size:=I.size
 keep:=I.keep
def join(m2 m:Mp):Mp:=fun r=>match m2 r with|some l=>some l|none=>m r
theorem qK{o o':dn}(e:cont none o=cont none o')(h:o≠.dead):o'≠.dead:=by
 have e:Bz o=Bz o':=by
  have:Ct.shape (Bz o)=Ct.shape (Bz o'):=e
  injection this
 exact QL e h
theorem MInv.made(g:Rg P cf ops n nt S C){D:Nat→Prop}(hD:Closed ops D){m:Mp}{w:World}(I:MInv S C ops.size m0 w0 D m w){i:Nat}(hi:i<ops.size)(vg:¬D i)
 (fD:∀e,e∈ops[i].after.toList→Region.binds .any e=true→D e.on){A A':aa}{m2:Mp}{w':World}(hA:A.next=nx S i)(hA':A'.next=nx S (i +1))
 (rh:RH m2 A' w')(ex:Ex (m.upto (nx S i)) m2 A A' w w')(hlow:A.next≤A'.low∨(S ops.size).H.low≤A'.low)(hnew:∀r,nx S i≤r→r<nx S (i +1)→A'.obj r=(S (i +1)).H.obj r)
 (h3:(C i).k≠3)(hcase:((C i).k=2∧(∀r,A'.obj r=(S (i +1)).H.obj r)∧(∀r,A.obj r=(S i).H.obj r))∨((C i).k≠2∧A.next≤A'.low)):
 ∃m',MInv S C ops.size m0 w0 (xm D i) m' w'∧Mp.le m m'∧Mp.le m2 (m'.upto (nx S (i +1))):=by
 have hmono:=g.mono
 have hn1:nx S i≤nx S (i +1):=g.G4 hi
 have hrange:∀r l,m r=some l→r<nx S i∨nx S (i +1)≤r:=by
  intro r l hr
  rcases I.dom r l hr with⟨_,h⟩|⟨j,hj,CU,h1,h2⟩
  ·exact .inl (Nat.lt_of_lt_of_le h (hmono 0 i (by omega) (by omega)))
  ·have hji:j≠i:=fun e=>vg (e▸CU)
   rcases Nat.lt_or_ge j i with h|h
   ·exact .inl (Nat.lt_of_lt_of_le h2 (hmono (j +1) i (by omega) (by omega)))
   ·exact .inr (Nat.le_trans (hmono (i +1) j (by omega) (by omega)) h1)
 have hm2:∀r l,m2 r=some l→r<nx S (i +1):=fun r l h=>by have:=rh.dom r l h;rw[hA']at this;exact this
 have hup:∀r l,m r=some l→r<nx S i→m2 r=some l:=fun r l h hr=>ex.le r l (Mp.xh h hr)
 have hnb:∀r l,m2 r=some l→m r≠some l→m r=none∧nx S i≤r∧m.upto (nx S i) r=none:=by
  intro r l h hne
  have aaq:m.upto (nx S i) r=none:=by
   cases hu:m.upto (nx S i) r with
   |none=>rfl
   |some l'=>
    have:=ex.le r l' hu
    rw[h]at this;cases this
    exact absurd (Mp.fT hu).2 hne
  have hge:=ex.new r l h aaq
  rw[hA]at hge
  refine⟨?_,hge,aaq⟩
  cases hm:m r with
  |none=>rfl
  |some l'=>
   have h1:=hm2 r l h
   rcases hrange r l' hm with h'|h'<;>omega
 have hj2:∀r l,m2 r=some l→join m2 m r=some l:=fun r l h=>by unfold join;rw[h]
 have hj1:∀r l,m r=some l→join m2 m r=some l:=by
  intro r l h
  unfold join
  cases h2:m2 r with
  |none=>exact h
  |some l2=>
   by_cases e:m r=some l2
   ·rw[h]at e;cases e;rfl
   ·have:=(hnb r l2 h2 e).1;rw[h]at this;cases this
 have hcs:∀r l,join m2 m r=some l→m r=some l∨(m r=none∧m2 r=some l∧nx S i≤r∧r<nx S (i +1)∧m.upto (nx S i) r=none):=by
  intro r l h
  unfold join at h
  cases h2:m2 r with
  |none=>rw[h2]at h;exact .inl h
  |some l2=>
   rw[h2]at h
   have hl:l2=l:=by injection h
   subst hl
   by_cases e:m r=some l2
   ·exact .inl e
   ·have:=hnb r l2 h2 e
    exact .inr ⟨this.1,rfl,this.2.1,hm2 r l2 h2,this.2.2⟩
 have hle2:Mp.le m2 ((join m2 m).upto (nx S (i +1))):=fun r l h=>Mp.xh (hj2 r l h) (hm2 r l h)
 have YC:Mp.le m (join m2 m):=hj1
 have aar:∀r l,m r=some l→((C i).k≠2∨nx S i≤r)→w'.heap[l.c]?=w.heap[l.c]?:=by
  intro r l h hor
  obtain⟨o,ho⟩:=I.Od r l h
  refine ex.keep l.c (iG ho) ?_
  intro r1 l1 h1 hc1
  have hu:=Mp.fT h1
  rcases hcase with⟨hk,_,_⟩|⟨_,hlo⟩
  ·rcases hor with h'|h'
   ·exact absurd hk h'
   ·have:=(I.clash r r1 l l1 i h hu.2 hc1.symm hi vg hk).2 hu.1
    omega
  ·rw[hA]at hlo
   exact Nat.lt_of_lt_of_le hu.1 hlo
 have hsame:∀κ r,((C i).k≠2∨nx S i≤r)→r<nx S i→at' S κ r i=at' S κ r (i +1):=by
  intro κ r hor hr
  rcases hor with h|h
  ·show cont κ _=cont κ _;rw[g.same hi h h3 hr]
  ·omega
 have hborn:∀κ r l,m r=none→m2 r=some l→nx S i≤r→r<nx S (i +1)→ve S ops.size (xm D i) κ r (i +1):=by
  intro κ r l hm _ hge hlt
  refine⟨hlt,fun j hj Gi hne=>?_⟩
  have hji:i<j:=by
   rcases Nat.lt_or_ge i j with h|h
   ·exact h
   ·have:=hmono j i h (by omega);omega
  constructor
  ·rintro(h|h)
   ·exact absurd (by show cont κ _=cont κ _;rw[I.hid j r hj h Gi hm]) hne
   ·omega
  ·intro h;omega
 have hfr:∀r l,m2 r=some l→m.upto (nx S i) r=none→l.c<w.heap.size→(C i).k=2∧∃r0 l0,m r0=some l0∧l0.c=l.c∧r0<nx S i∧A'.low≤r0:=by
  intro r l h h0 hlt
  obtain⟨r0,l0,e1,e2,e3⟩:=ex.fresh r l h h0 hlt
  have hu:=Mp.fT e1
  refine⟨?_,r0,l0,hu.2,e2,hu.1,e3⟩
  rcases hcase with⟨hk,_,_⟩|⟨_,hlo⟩
  ·exact hk
  ·rw[hA]at hlo;omega
 have aas:(C i).k=2→∀κ r,r<nx S i→ve S ops.size (xm D i) κ r (i +1):=fun hk κ r hr=>g.acr hD hi vg fD hk hr
 have J2:∀r l,join m2 m r=some l→(m r=some l∧((C i).k≠2∨nx S i≤r))∨(m2 r=some l∧(∀κ,ve S ops.size (xm D i) κ r (i +1))∧A'.obj r=(S (i +1)).H.obj r∧
  ((m r=none∧nx S i≤r∧r<nx S (i +1)∧m.upto (nx S i) r=none)∨((C i).k=2∧m r=some l∧r<nx S i))):=by
  intro r l h
  rcases hcs r l h with h|⟨h1,h2,h3',h4,h5⟩
  ·by_cases hor:(C i).k≠2∨nx S i≤r
   ·exact .inl ⟨h,hor⟩
   ·have hk:(C i).k=2:=Classical.byContradiction fun e=>hor (.inl e)
    have hr:r<nx S i:=Nat.lt_of_not_le fun e=>hor (.inr e)
    refine .inr ⟨hup r l h hr,fun κ=>aas hk κ r hr,?_,.inr ⟨hk,h,hr⟩⟩
    rcases hcase with⟨_,h,_⟩|⟨h,_⟩
    ·exact h r
    ·exact absurd hk h
  ·exact .inr ⟨h2,fun κ=>hborn κ r l h1 h2 h3' h4,hnew r h3' h4,.inl ⟨h1,h3',h4,h5⟩⟩
 have aat:∀r r' l l',m r=some l→((C i).k≠2∨nx S i≤r)→m2 r'=some l'→
  ((m r'=none∧nx S i≤r'∧r'<nx S (i +1)∧m.upto (nx S i) r'=none)∨((C i).k=2∧m r'=some l'∧r'<nx S i))→l.c=l'.c→False:=by
  intro r r' l l' e hor e' hk hcc
  obtain⟨o,ho⟩:=I.Od r l e
  have hlt:=iG ho
  rcases hk with⟨_,_,_,hu0⟩|⟨hk2,h1,h2⟩
  ·obtain⟨hk2,r0,l0,f1,f2,f3,_⟩:=hfr r' l' e' hu0 (by rw[←hcc];exact hlt)
   rcases hor with h1|h1
   ·exact h1 hk2
   ·have:=(I.clash r r0 l l0 i e f1 (by rw[f2,hcc]) hi vg hk2).2 f3
    omega
  ·rcases hor with h3|h3
   ·exact h3 hk2
   ·have:=(I.clash r r' l l' i e h1 hcc hi vg hk2).2 h2
    omega
 refine⟨join m2 m,⟨?_,?_,?_,?_,?_,?_,?_,?_,?_,?_,?_,?_,?_⟩,YC,hle2⟩
 ·
  intro r l h
  rcases hcs r l h with h|⟨_,_,h3',h4,_⟩
  ·exact(I.dom r l h).imp id fun⟨j,h1,h2,h3⟩=>⟨j,h1,.inl h2,h3⟩
  ·exact .inr ⟨i,hi,.inr rfl,h3',h4⟩
 ·
  intro r l h
  rcases hcs r l h with h|⟨_,h2,_⟩
  ·obtain⟨o,ho⟩:=I.Od r l h
   have:l.c<w'.heap.size:=Nat.lt_of_lt_of_le (iG ho) ex.size
   exact⟨w'.heap[l.c],Array.getElem?_eq_getElem this⟩
  ·obtain⟨o,ho,_⟩:=rh.ok r l h2
   exact⟨o,ho⟩
 ·
  intro κ r l k o hk hm hc ho
  rcases J2 r l hm with⟨h,hor⟩|⟨h2,hcon,rP,_⟩
  ·rw[aar r l h hor]at ho
   exact(I.cnt κ r l k o hk h (hc.less fun hr=>hsame κ r hor hr) ho).mono (Mp.lK YC (Nat.le_refl _))
  ·obtain⟨o2,ho2,hok⟩:=rh.ok r l h2
   rw[ho]at ho2;cases ho2
   have hrel:Rel κ m2 l (cont κ (A'.obj r)) o:=Rel.fO hok
   rw[rP]at hrel
   have heq:at' S κ r (i +1)=at' S κ r k:=ve.eq hmono (by omega) hk (hcon κ) hc
   replace hrel:Rel κ m2 l (at' S κ r (i +1)) o:=hrel
   rw[heq]at hrel
   rcases Nat.lt_or_ge i k with hik|hik
   ·exact hrel.mono fun r1 l1 h1=>Mp.xh (hj2 r1 l1 h1) (Nat.lt_of_lt_of_le (hm2 r1 l1 h1) (hmono _ _ hik hk))
   ·
    have hrk:=hc.1
    have hri:r<nx S i:=Nat.lt_of_lt_of_le hrk (hmono k i hik (by omega))
    have hmr:m r=some l:=by
     rcases hcs r l hm with h|⟨_,_,h3',_⟩
     ·exact h
     ·omega
    have hnot:at' S κ r i=at' S κ r (i +1):=by
     apply Classical.byContradiction
     intro hne
     have:=(hc.2 i hi hri hne).1 (.inr rfl)
     omega
    obtain⟨o0,ho0⟩:=I.Od r l hmr
    have hold:=I.cnt κ r l k o0 hk hmr (hc.less fun _=>hnot) ho0
    have hlr:Mp.le (m.upto (nx S k)) m2:=by
     intro r1 l1 h1
     have hu:=Mp.fT h1
     exact hup r1 l1 hu.2 (Nat.lt_of_lt_of_le hu.1 (hmono k i hik (by omega)))
    exact(Rel.restrict hlr hrel hold).mono (Mp.lK YC (Nat.le_refl _))
 ·
  intro r r' l l' k k' h h' hcc hk hk' hc hc' hd hd'
  rcases J2 r l h with⟨e,hor⟩|⟨e,hcon,rP,hw⟩<;>rcases J2 r' l' h' with⟨e',aau⟩|⟨e',QV,aav,hw'⟩
  ·exact I.sep r r' l l' k k' e e' hcc hk hk' (hc.less fun hr=>hsame none r hor hr) (hc'.less fun hr=>hsame none r' aau hr) hd hd'
  ·exact(aat r r' l l' e hor e' hw' hcc).elim
  ·exact(aat r' r l' l e' aau e hw hcc.symm).elim
  ·refine rh.sep r r' l l' e e' ?_ ?_ hcc
   ·rw[rP]
    exact qK (ve.eq hmono hk (by omega) hc (hcon none)) hd
   ·rw[aav]
    exact qK (ve.eq hmono hk' (by omega) hc' (QV none)) hd'
 ·
  intro r r' l l' j h h' hcc hj CU hkj
  have hji:j≠i:=fun e=>CU (.inr e)
  have YD:¬D j:=fun e=>CU (.inl e)
  have hside:∀r1,nx S i≤r1→r1<nx S (i +1)→(r1<nx S j↔i<j):=by
   intro r1 h1 h2
   constructor
   ·intro h3
    rcases Nat.lt_or_ge i j with h4|h4
    ·exact h4
    ·have:=hmono j i h4 (by omega);omega
   ·intro h3;exact Nat.lt_of_lt_of_le h2 (hmono _ _ h3 (by omega))
  have hone:∀r r' l l',m r=none→m2 r=some l→nx S i≤r→r<nx S (i +1)→m.upto (nx S i) r=none→m r'=some l'→l.c=l'.c→(r<nx S j↔r'<nx S j):=by
   intro r r' l l' h1 h2 h3 h4 h5 h6 hcc
   obtain⟨o,ho⟩:=I.Od r' l' h6
   obtain⟨hk2,r0,l0,f1,f2,f3,_⟩:=hfr r l h2 h5 (by rw[hcc];exact iG ho)
   have hij:i<j:=by
    rcases Nat.lt_or_ge i j with h7|h7
    ·exact h7
    ·have hlt:j<i:=by omega
     have hb:=Fg (g.dyn j i hlt hi) (.inr hkj) (.inr hk2) (.inl hkj)
     exact absurd (dV g.back hD i _ (Array.getElem?_eq_getElem hi) fD j hb) YD
   rw[hside r h3 h4]
   have h8:r0<nx S j:=Nat.lt_of_lt_of_le f3 (hmono i j (by omega) (by omega))
   have:=(I.clash r' r0 l' l0 j h6 f1 (by rw[f2,hcc]) hj YD hkj).2 h8
   exact⟨fun _=>this,fun _=>hij⟩
  rcases hcs r l h with e|⟨a1,a2,a3,a4,a5⟩<;>rcases hcs r' l' h' with e'|⟨b1,b2,b3,b4,b5⟩
  ·exact I.clash r r' l l' j e e' hcc hj YD hkj
  ·exact(hone r' r l' l b1 b2 b3 b4 b5 e hcc.symm).symm
  ·exact hone r r' l l' a1 a2 a3 a4 a5 e' hcc
  ·rw[hside r a3 a4,hside r' b3 b4]
 ·
  intro j r hj CU hr hm
  have hmr:m r=none:=by
   cases h:m r with
   |none=>rfl
   |some l=>have:=hj1 r l h;rw[hm]at this;cases this
  rcases CU with h|rfl
  ·exact I.hid j r hj h hr hmr
  ·rcases hcase with⟨hk,h1,h2⟩|⟨hk,_⟩
   ·rw[←h1,←h2]
    refine ex.hid r (by rw[hA];exact hr) ?_
    unfold Mp.upto
    rw[hmr];simp
   ·exact g.same hi hk h3 hr
 ·exact fun r l h=>hj1 r l (I.le r l h)
 ·
  intro r l h h0 hlt
  rcases hcs r l h with e|⟨a1,a2,a3,a4,a5⟩
  ·exact I.fresh r l e h0 hlt
  ·obtain⟨hk2,r0,l0,f1,f2,f3,f4⟩:=hfr r l a2 a5 (Nat.lt_of_lt_of_le hlt I.size)
   have hl2:(S ops.size).H.low≤r0:=by
    rcases hlow with h1|h1
    ·rw[hA]at h1;omega
    ·exact Nat.le_trans h1 f4
   cases h1:m0 r0 with
   |some l1=>
    have:=I.le r0 l1 h1
    rw[f1]at this;cases this
    exact⟨r0,l0,h1,f2,hl2⟩
   |none=>
    obtain⟨r1,l1,g1,g2,g3⟩:=I.fresh r0 l0 f1 h1 (by rw[f2];exact hlt)
    exact⟨r1,l1,g1,g2.trans f2,g3⟩
 ·exact ex.os.trans I.os
 ·exact ex.tape.trans I.tape
 ·exact ex.output.trans I.output
 ·exact Nat.le_trans I.size ex.size
 ·
  intro c hc hk
  rw[ex.keep c (Nat.lt_of_lt_of_le hc I.size),I.keep c hc hk]
  intro r l h1 h2
  have hu:=Mp.fT h1
  rcases hlow with h3'|h3'
  ·rw[hA]at h3';exact Nat.lt_of_lt_of_le hu.1 h3'
  ·cases h0:m0 r with
   |some l0=>
    have:=I.le r l0 h0
    rw[hu.2]at this;cases this
    exact Nat.lt_of_lt_of_le (hk r l h0 h2) h3'
   |none=>
    obtain⟨r0,l0,e1,e2,e3⟩:=I.fresh r l hu.2 h0 (by rw[h2];exact hc)
    have:=hk r0 l0 e1 (e2.trans h2)
    omega
end rg
end Go.Ae
namespace Go.Ae
theorem mo{o:Option Unit}(h:gK o=true):o=some ():=by
 cases o with
 |none=>cases h
 |some u=>rfl
theorem D3{a b:Addr}(h:addrEq a b=true):a=b:=by
 obtain⟨r,o,s⟩:=a
 obtain⟨r',o',s'⟩:=b
 simp only[addrEq,Bool.and_eq_true]at h
 obtain⟨⟨⟨h1,h2⟩,h3⟩,h4⟩:=h
 have h1:=Nat.eq_of_beq_eq_true h1
 have h2:=Nat.eq_of_beq_eq_true h2
 cases s with
 |some _=>cases h3
 |none=>cases s' with
  |some _=>cases h4
  |none=>rw[h1,h2]
theorem J3{a b:Option Addr}(h:Am a b=true):a=b:=by
 cases a with
 |none=>cases b with
  |none=>rfl
  |some _=>cases h
 |some x=>cases b with
  |none=>cases h
  |some y=>rw[D3 (show addrEq x y=true from h)]
theorem Oe{a b:Option Nat}(h:P4 a b=true):a=b:=by
 cases a with
 |none=>cases b with
  |none=>rfl
  |some _=>cases h
 |some x=>cases b with
  |none=>cases h
  |some y=>rw[Nat.eq_of_beq_eq_true (show Nat.beq x y=true from h)]
theorem G5{x y:Value}(h:pP x y=true):x=y:=by
 unfold pP at h
 simp only[Bool.or_eq_true]at h
 rcases h with h|h|h|h|h|h|h
 ·replace h:=mo h
  (replace h:=ah h;obtain⟨a,ha,h⟩:=h)
  (replace h:=ah h;obtain⟨b,hb,h⟩:=h)
  (replace h:=aH h;obtain⟨hg,h⟩:=h)
  rw[Bool.and_eq_true,Bf,beq_iff_eq]at hg
  rw[gN ha,gN hb,pR hg.1,hg.2]
 ·replace h:=mo h
  (replace h:=ah h;obtain⟨a,ha,h⟩:=h)
  (replace h:=ah h;obtain⟨b,hb,h⟩:=h)
  (replace h:=aH h;obtain⟨hg,h⟩:=h)
  rw[fI ha,fI hb,D3 hg]
 ·replace h:=mo h
  (replace h:=ah h;obtain⟨a,ha,h⟩:=h)
  (replace h:=ah h;obtain⟨b,hb,h⟩:=h)
  (replace h:=aH h;obtain⟨hg,h⟩:=h)
  rw[Bool.and_eq_true,Bool.and_eq_true]at hg
  rw[kF ha,kF hb,J3 hg.1.1,Nat.eq_of_beq_eq_true hg.1.2,Nat.eq_of_beq_eq_true hg.2]
 ·replace h:=mo h
  (replace h:=ah h;obtain⟨a,ha,h⟩:=h)
  (replace h:=ah h;obtain⟨b,hb,h⟩:=h)
  (replace h:=aH h;obtain⟨hg,h⟩:=h)
  rw[Bg,beq_iff_eq]at hg
  rw[gm ha,gm hb,hg]
 ·replace h:=mo h
  (replace h:=ah h;obtain⟨a,ha,h⟩:=h)
  (replace h:=ah h;obtain⟨b,hb,h⟩:=h)
  (replace h:=aH h;obtain⟨hg,h⟩:=h)
  rw[nX,beq_iff_eq,ByteArray.toList_eq,ByteArray.toList_eq]at hg
  have:a=b:=by
   obtain⟨⟨la⟩⟩:=a
   obtain⟨⟨lb⟩⟩:=b
   simp at hg
   rw[hg]
  rw[fJ ha,fJ hb,this]
 ·replace h:=mo h
  (replace h:=ah h;obtain⟨a,ha,h⟩:=h)
  (replace h:=ah h;obtain⟨b,hb,h⟩:=h)
  (replace h:=aH h;obtain⟨hg,h⟩:=h)
  rw[qF ha,qF hb,Oe hg]
 ·unfold WN at h
  rw[Bool.and_eq_true,Bool.and_eq_true]at h
  obtain⟨⟨h1,h2⟩,h3⟩:=h
  cases x<;>first|(replace h1:false=true:=h1;cases h1;done)|skip
  all_goals cases y<;>first|rfl|(replace h2:false=true:=h2;cases h2;done)|(replace h3:false=true:=h3;cases h3;done)|skip
  all_goals
   rename_i p q
   cases p<;>cases q<;>first|rfl|(replace h1:false=true:=h1;cases h1;done)|(replace h2:false=true:=h2;cases h2;done)
theorem D4{f:Value→Value→Bool}(hf:∀{x y:Value},f x y=true→x=y):∀{xs ys:List Value},qA f xs ys=true→xs=ys:=by
 intro xs
 induction xs with
 |nil=>
  intro ys h
  cases ys with
  |nil=>rfl
  |cons y ys=>cases h
 |cons x xs ih=>
  intro ys h
  cases ys with
  |nil=>cases h
  |cons y ys=>
   replace h:av (f x y) (qA f xs ys) false=true:=h
   cases h1:f x y with
   |false=>rw[h1]at h;cases h
   |true=>
    rw[h1]at h
    rw[hf h1,ih h]
theorem G6{f:Value→Value→Bool}(hf:∀{x y:Value},f x y=true→x=y){x y:Value}(h:Lt f x y=true):x=y:=by
 replace h:=mo h
 (replace h:=ah h;obtain⟨a,ha,h⟩:=h)
 (replace h:=ah h;obtain⟨b,hb,h⟩:=h)
 (replace h:=ah h;obtain⟨g,hg,h⟩:=h)
 (replace h:=ah h;obtain⟨k,hk,h⟩:=h)
 (replace h:=aH h;obtain⟨hh,h⟩:=h)
 rw[Bool.and_eq_true,Bool.and_eq_true]at hh
 rw[EJ ha,EJ hb,EK hg,EK hk,Nat.eq_of_beq_eq_true hh.1.1,D4 hf hh.1.2,D4 hf hh.2]
theorem QW{x y:Value}(h:gD x y=true):x=y:=by
 have h00:∀{x y:Value},vI x y=true→x=y:=by
  intro x y h
  unfold vI at h
  rw[Bool.or_eq_true]at h
  rcases h with h|h
  ·exact G5 h
  ·exact G6 G5 h
 unfold gD at h
 rw[Bool.or_eq_true]at h
 rcases h with h|h
 ·exact h00 h
 ·exact G6 h00 h
theorem QX:∀{xs ys:List Value},wV xs ys=true→xs=ys:=by
 intro xs
 induction xs with
 |nil=>
  intro ys h
  cases ys with
  |nil=>rfl
  |cons y ys=>cases h
 |cons x xs ih=>
  intro ys h
  cases ys with
  |nil=>cases h
  |cons y ys=>
   replace h:av (gD x y) (wV xs ys) false=true:=h
   cases h1:gD x y with
   |false=>rw[h1]at h;cases h
   |true=>
    rw[h1]at h
    rw[QW h1,ih h]
theorem vS{H:aa}{r off k:Nat}{vs:List Value}(h:H.read r off k=some vs):∀j,j<k→dG (H.obj r) (off +j)=vs[j]?∧j<vs.length:=by
 intro j hj
 cases k with
 |zero=>omega
 |succ k=>
  replace h:(ai (ko (H.obj r)) fun w=>gd (Nat.ble (Nat.add off (k +1)) w.n) (some (Tr.vD top w.cells off (k +1))))=some vs:=h
  (replace h:=ah h;obtain⟨R,hR,h⟩:=h)
  (replace h:=aH h;obtain⟨hg,h⟩:=h)
  cases h
  have hg:off +(k +1)≤R.n:=Nat.le_of_ble_eq_true hg
  rw[jQ hR,LG _ _ _ _ _ hj,LF]
  refine⟨?_,hj⟩
  simp only[dG]
  rw[if_pos (by omega)]
theorem Fj{A B:aa}{r off k:Nat}(h:sameAt A B r off k=true):∀j,off≤j→j<off +k→dG (A.obj r) j=dG (B.obj r) j:=by
 replace h:=mo h
 (replace h:=ah h;obtain⟨x,hx,h⟩:=h)
 (replace h:=ah h;obtain⟨y,hy,h⟩:=h)
 (replace h:=aH h;obtain⟨hg,h⟩:=h)
 intro j h1 h2
 have a1:=(vS hx (j -off) (by omega)).1
 have a2:=(vS hy (j -off) (by omega)).1
 rw[show off +(j -off)=j from by omega]at a1 a2
 rw[a1,a2,QX hg]
theorem QY{o o':dn}(e:Bz o=Bz o')(i:Nat):(dG o i).isSome=(dG o' i).isSome:=by
 cases o<;>cases o'<;>simp only[Bz]at e<;>first|rfl|cases e|skip
 case row.row R R'=>
  simp only[dn.row.injEq,Row.mk.injEq]at e
  simp only[dG,e.2.2.1]
  split<;>rfl
theorem yI{H H':aa}{r off:Nat}{vs:List Value}(h:H.write r off vs=some H'):
 H'.next=H.next∧(∀k,k≠r→H'.obj k=H.obj k)∧Bz (H'.obj r)=Bz (H.obj r)∧(∀i,¬(off≤i∧i<off +vs.length)→dG (H'.obj r) i=dG (H.obj r) i)∧
   (∀i,off≤i→i<off +vs.length→dG (H'.obj r) i=vs[i -off]?)∧(vs≠[]→H'.low≤r):=by
 cases vs with
 |nil=>
  cases h
  exact⟨rfl,fun _ _=>rfl,rfl,fun _ _=>rfl,fun i a b=>by simp at b;omega,fun h=>absurd rfl h⟩
 |cons v vs=>
  replace h:(ai (ko (H.obj r)) fun w=>
   gd (!w.dB&&Nat.ble (Nat.add off (len (v::vs))) w.n&&Nat.ble w.fz off&&all' aU (v::vs))
   (some (H.put r (.row ⟨w.ty,Tr.jE top (v::vs) off w.cells,w.n,false,w.fz⟩))))=some H':=h
  (replace h:=ah h;obtain⟨R,hR,h⟩:=h)
  (replace h:=aH h;obtain⟨hg,h⟩:=h)
  cases h
  have CS:=jQ hR
  simp only[Bool.and_eq_true,aO]at hg
  obtain⟨⟨⟨g0,g1⟩,g2⟩,g3⟩:=hg
  have g1:off +(v::vs).length≤R.n:=Nat.le_of_ble_eq_true g1
  have g0:R.dB=false:=by simpa using g0
  have rP:(H.put r (.row ⟨R.ty,Tr.jE top (v::vs) off R.cells,R.n,false,R.fz⟩)).obj r=.row ⟨R.ty,Tr.jE top (v::vs) off R.cells,R.n,false,R.fz⟩:=by rw[kG,if_pos rfl]
  refine⟨rfl,fun k hk=>by rw[kG,if_neg hk],?_,?_,?_,fun _=>(Ar _ _ _).1⟩
  ·rw[rP,CS]
   simp only[Bz,g0]
  ·intro i hi
   rw[rP,CS]
   simp only[dG]
   rw[Tr.dY,if_neg hi]
  ·intro i h1 h2
   rw[rP]
   simp only[dG]
   rw[if_pos (by omega),Tr.dY,if_pos ⟨h1,h2⟩,List.getD_eq_getElem?_getD,List.getElem?_eq_getElem (by omega)]
   rfl
section rg
variable{P:Program}{cf:cr}{ops:Array Oper}{n nt:Nat}{S:Nat→St}{C:Nat→Cl}{m0:Mp}{w0:World}
theorem J4{o:Op}{p:Operand×Operand}(h:qD o=some p):∃t,o=.store t p.1 p.2:=by
 cases o<;>first|cases h|skip
 exact⟨_,rfl⟩
theorem Og{o:Op}{p:TypeId×Operand}(h:yz o=some p):o=.load p.1 p.2:=by
 cases o<;>first|cases h|skip
 rfl
structure YE(P:Program)(cf:cr)(ops:Array Oper)(o:Oper)(s s1:St)(c:Cl):Prop where
 ex:∃t x y a H',o.op=.store t x y∧iq ops s o.guard=some true∧gJ (ev s x)=some a∧c=⟨3,a.block,a.off,len (ay (ev s y)),hh0,hh0⟩∧
  nS P t (ev s x) (ev s y) (aV s).H=some (undef,H')∧s1=bG s o.dst undef ⟨H'.j6,H'.next,fH s.H.low H'.low⟩∧
  (aV s).H.write a.block a.off (ay (ev s y))=some H'
theorem pY(s:St)(x:Operand):ev (aV s) x=ev s x:=by cases x<;>rfl
theorem yJ{o:Oper}{s s1:St}{c:Cl}(h:BD P cf ops o s s1 c)(hc:c.k=3):YE P cf ops o s s1 c:=by
 cases h with
 |skip hw=>cases hc
 |rJ v hw hr=>cases hc
 |mem v H' hw hr=>
  rcases Fh (P:=P) (o:=o.op) (s:=s) (H':=H')with⟨p,a,hs,ha,e⟩|e|⟨hlow,⟨_,e⟩|e|⟨p,a,l,hs,ha,hl,e⟩⟩
  ·obtain⟨t,hop⟩:=J4 hs
   rw[hop]at hr
   have h:=dP (o:=nS P t (ev (aV s) p.1) (ev (aV s) p.2) (aV s).H) hr
   rw[pY,pY]at h
   have h0:=h
   (replace h:=ah h;obtain⟨a',ha',h⟩:=h)
   (replace h:=ah h;obtain⟨s',hs',h⟩:=h)
   (replace h:=aH h;obtain⟨hg,h⟩:=h)
   (replace h:=ah h;obtain⟨H1,hH1,h⟩:=h)
   cases h
   rw[ha]at ha';cases ha'
   exact⟨t,p.1,p.2,a,_,hop,hw,ha,e,h0,rfl,hH1⟩
  all_goals(rw[e]at hc;cases hc)
theorem Rg.j3(g:Rg P cf ops n nt S C){κ:Option Nat}{j r:Nat}(hj:j<ops.size)(hc:(C j).k=3)(hne:at' S κ r j≠at' S κ r (j +1)):
 r=(C j).r∧∃i,κ=some i∧(C j).off≤i∧i<(C j).off +(C j).n:=by
 have hs:=yJ (g.step j _ (Array.getElem?_eq_getElem hj)) hc
 obtain⟨t,x,y,a,H',hop,hw,ha,e,hst,hs1,hwr⟩:=hs.ex
 obtain⟨_,h1,h2,h3,_,_⟩:=yI hwr
 have Jl:∀k,(S (j +1)).H.obj k=H'.obj k:=by intro k;rw[hs1,dz];rfl
 have YF:∀k,(aV (S j)).H.obj k=(S j).H.obj k:=fun _=>rfl
 rw[e]
 simp only[aO]
 by_cases hr:r=a.block
 ·subst hr
  refine⟨rfl,?_⟩
  cases κ with
  |none=>exact absurd (by show Ct.shape _=Ct.shape _;rw[Jl,h2,YF]) hne
  |some i=>
   refine⟨i,rfl,?_⟩
   apply Classical.byContradiction
   intro hni
   exact hne (by show Ct.cell _=Ct.cell _;rw[Jl,h3 i hni,YF])
 ·exact absurd (by show cont κ _=cont κ _;rw[Jl,h1 r hr,YF]) hne
theorem Rg.J5(g:Rg P cf ops n nt S C){j r:Nat}(hj:j<ops.size)(hc:(C j).k=3)(hr:r≠(C j).r):(S (j +1)).H.obj r=(S j).H.obj r:=by
 have hs:=yJ (g.step j _ (Array.getElem?_eq_getElem hj)) hc
 obtain⟨t,x,y,a,H',hop,hw,ha,e,hst,hs1,hwr⟩:=hs.ex
 rw[e]at hr
 rw[hs1,dz]
 exact(yI hwr).2.1 r hr
theorem qL{x y:Cl}(h:kE x y=true){i:Nat}(hr:x.r=y.r)(h1:x.off≤i)(h2:i<x.off +x.n)(h3:y.off≤i)(h4:i<y.off +y.n):False:=by
 unfold kE at h
 rw[Bool.or_eq_true,Bool.or_eq_true]at h
 rcases h with(h|h)|h
 ·rw[hr]at h
  rw[show Nat.beq y.r y.r=true from Nat.beq_refl _]at h
  cases h
 ·have:=Nat.le_of_ble_eq_true h
  have e:Nat.add x.off x.n=x.off +x.n:=rfl
  omega
 ·have:=Nat.le_of_ble_eq_true h
  have e:Nat.add y.off y.n=y.off +y.n:=rfl
  omega
theorem Rg.LZ(g:Rg P cf ops n nt S C){j:Nat}{l:Cl}(hj:j<ops.size)(hc:(C j).k=2)(h:gI (C j) l=true){i:Nat}(h1:l.off≤i)(h2:i<l.off +l.n):at' S (some i) l.r j=at' S (some i) l.r (j +1):=by
 have hs:=g.step j _ (Array.getElem?_eq_getElem hj)
 generalize hcj:C j=c at hs hc h
 generalize hsj:S (j +1)=s1 at hs
 show Ct.cell (dG ((S j).H.obj l.r) i)=Ct.cell (dG ((S (j +1)).H.obj l.r) i)
 rw[hsj]
 cases hs with
 |skip hw=>rw[dz]
 |rJ v hw hr=>rw[dz]
 |mem v H' hw hr=>
  rw[dz]
  rcases Fh (P:=P) (o:=ops[j].op) (s:=S j) (H':=H')with⟨p,a,hs,ha,e⟩|e|⟨hlow,⟨_,e⟩|e|⟨p,a,l,hs,ha,hl,e⟩⟩
  ·rw[e]at hc;cases hc
  ·rw[e]at h
   have:=Fj (show sameAt (S j).H H' l.r l.off l.n=true from h) i h1 h2
   rw[this]
   rfl
  all_goals(rw[e]at hc;cases hc)
theorem Rg.acs(g:Rg P cf ops n nt S C){D:Nat→Prop}(hD:Closed ops D){i:Nat}(hi:i<ops.size)(vg:¬D i)(fD:∀e,e∈ops[i].after.toList→Region.binds .any e=true→D e.on)
 (hc:(C i).k=4){k:Nat}(h1:(C i).off≤k)(h2:k<(C i).off +(C i).n)(hr:(C i).r<nx S i):ve S ops.size D (some k) (C i).r i:=by
 refine⟨hr,fun j hj Gi hne=>?_⟩
 have hcj:=g.turns hj Gi hne
 have hoi:ops[i]?=some ops[i]:=Array.getElem?_eq_getElem hi
 have hoj:ops[j]?=some ops[j]:=Array.getElem?_eq_getElem hj
 have WU:(C j).k=3→∀x y,kE x y=true→((x=C j∧y=C i)∨(x=C i∧y=C j))→False:=by
  intro h3 x y hno hxy
  obtain⟨e1,i',e2,e3,e4⟩:=g.j3 hj h3 hne
  cases e2
  rcases hxy with⟨rfl,rfl⟩|⟨rfl,rfl⟩
  ·exact qL hno e1.symm e3 e4 h1 h2
  ·exact qL hno e1 h1 h2 e3 e4
 rcases Nat.lt_trichotomy j i with h|h|h
 ·refine⟨fun _=>h,fun _=>?_⟩
  have hd:=g.dyn j i h hi
  rcases hcj with hcj|hcj
  ·rcases YB hd hcj hc with hb|hb
   ·exact dV g.back hD i _ hoi fD j hb
   ·exact absurd (g.LZ hj hcj hb h1 h2) hne
  ·rcases Yz hd hcj hc with hb|hb
   ·exact dV g.back hD i _ hoi fD j hb
   ·exact(WU hcj _ _ hb (.inl ⟨rfl,rfl⟩)).elim
 ·subst h;exact⟨fun h=>absurd h vg,fun h=>absurd h (Nat.lt_irrefl _)⟩
 ·refine⟨fun CU=>?_,fun h'=>by omega⟩
  have hd:=g.dyn i j h hj
  have hb:aS (pK ops j) i=true:=by
   rcases hcj with hcj|hcj
   ·rcases YA hd hc hcj with hb|hb
    ·exact hb
    ·exact absurd (g.LZ hj hcj hb h1 h2) hne
   ·rcases Yy hd hc hcj with hb|hb
    ·exact hb
    ·exact(WU hcj _ _ hb (.inr ⟨rfl,rfl⟩)).elim
  exact absurd (dV g.back hD j _ hoj (hD j _ hoj CU) i hb) vg
theorem J6{m:Mp}{H H':aa}{w:World}{t:TypeId}{x x' v:Value}{a:Addr}{ld:Option Nat}{l:Loc}{ob:Obj}(h:kz P t x H=some (v,H'))(hx:VR m x x')(ha:gJ x=some a)(hl:Ps P t=some ld)
 (hm:m a.block=some l)(Jl:w.heap[l.c]?=some ob)(hc:∀i u,a.off≤i→i<a.off +ld.getD 1→dG (H.obj a.block) i=some u→lM m l i u ob):
 ∃v',VR m v v'∧(Instr.loadAt t x').run P w=.ok v' w:=by
 (replace h:=ah h;obtain⟨a0,ha0,h⟩:=h)
 (replace h:=ah h;obtain⟨l0,hl0,h⟩:=h)
 rw[ha]at ha0;cases ha0
 rw[hl]at hl0;cases hl0
 rw[fI ha]at hx
 obtain⟨l1,hm1,hlo,hsp,rfl⟩:=hx.i_
 rw[hm]at hm1;cases hm1
 have hcell:∀i u,a.off≤i→i<a.off +ld.getD 1→dG (H.obj a.block) i=some u→∃u',VR m u u'∧w.cell? ⟨l.c,l.base +(i -l.lo),none⟩=some u':=by
  intro i u h1 h2 h3
  obtain⟨cs,ty,fr,u',e,h4,h5⟩:=hc i u h1 h2 h3
  subst e
  exact⟨u',h5,by rw[cell_of Jl];exact h4⟩
 obtain⟨d,i,hd,hi,hk⟩:=Jz hl
 rcases hk with⟨hag,rfl⟩|⟨hag,rfl⟩
 ·replace h:(ai (H.read a.block a.off i.size) fun vs=>some (Value.agg ⟨vs⟩,H))=some (v,H'):=h
  (replace h:=ah h;obtain⟨vs,hvs,h⟩:=h)
  cases h
  have hrc:=vS hvs
  have hvl:vs.length=i.size:=by
   cases hz:i.size with
   |zero=>rw[hz]at hvs;cases hvs;rfl
   |succ k=>
    rw[hz]at hvs
    have h:=hvs
    replace h:(ai (ko (H.obj a.block)) fun w=>gd (Nat.ble (Nat.add a.off (k +1)) w.n) (some (Tr.vD top w.cells a.off (k +1))))=some vs:=h
    (replace h:=ah h;obtain⟨R,hR,h⟩:=h)
    (replace h:=aH h;obtain⟨hg,h⟩:=h)
    cases h
    exact LF _ _ _ _
  have key:∀(q:List Value)(b:Nat),vs.drop b=q→∃q',dh m q q'∧∀j u,q'[j]?=some u→w.cell? ((⟨l.c,l.base +(a.off -l.lo),none⟩:Addr).add (b +j))=some u:=by
   intro q
   induction q with
   |nil=>intro b _;exact⟨[],.nil,by simp⟩
   |cons u q ih=>
    intro b hb
    have hbu:vs[b]?=some u:=by
     have:=congrArg List.head? hb
     rwa [List.head?_drop]at this
    have hbl:b<vs.length:=(List.getElem?_eq_some_iff.1 hbu).1
    obtain⟨q',h1,h2⟩:=ih (b +1) (by rw[←List.tail_drop,hb];rfl)
    obtain⟨u',h3,h4⟩:=hcell (a.off +b) u (by omega) (by show a.off +b<a.off +i.size;omega) (by rw[(hrc b (by omega)).1];exact hbu)
    refine⟨u'::q',.cons _ _ _ _ h3 h1,?_⟩
    intro j z hz
    cases j with
    |zero=>
     simp at hz;subst hz
     rw[Nat.add_zero,uC l a.off _ hlo]
     exact h4
    |succ j=>
     have:=h2 j z (by simpa using hz)
     rw[show b +(j +1)=b +1 +j from by omega]
     exact this
  obtain⟨vs',h1,h2⟩:=key vs 0 rfl
  have hrun:=run_loadCells_list (P:=P) w ⟨l.c,l.base +(a.off -l.lo),none⟩ vs' (fun j u hu=>by have:=h2 j u hu;rwa [Nat.zero_add]at this)
  rw[←h1.length,hvl]at hrun
  exact⟨.agg ⟨vs'⟩,.agg _ _ h1,by simp[Instr.loadAt,Instr.sureAddr,loadVar,lH hd,hag,bM hi,hrun]⟩
 ·replace h:(ai (H.cell a.block a.off) fun v=>some (v,H))=some (v,H'):=h
  (replace h:=ah h;obtain⟨u,hu,h⟩:=h)
  cases h
  have h:=hu
  (replace h:=ah h;obtain⟨R,hR,h⟩:=h)
  (replace h:=aH h;obtain⟨hg,h⟩:=h)
  cases h
  have hg:a.off +1≤R.n:=Nat.le_of_ble_eq_true hg
  obtain⟨v',h1,h2⟩:=hcell a.off (R.cells.get top a.off) (Nat.le_refl _) (by show a.off<a.off +1;omega) (by rw[jQ hR];simp only[dG];rw[if_pos (by omega)])
  exact⟨v',h1,by simp[Instr.loadAt,Instr.sureAddr,loadVar,lH hd,hag,h2]⟩
theorem QZ{o:Op}{s:St}{v:Value}{H':aa}(hf:oZ o=true)(h:mV o P cf s=.mem v H'):
 ∃ob,H'=s.H.new ob∧∀A:aa,A.next=s.H.next→mV o P cf ⟨s.nl,s.nt,s.reg,s.tm,s.df,A⟩=.mem v (A.new ob):=by
 cases o<;>first|cases hf|skip
 case alloc e=>
  replace h:=dP (o:=sD P e s.H) h
  (replace h:=ah h;obtain⟨z,hz,h⟩:=h)
  cases h
  refine⟨_,rfl,fun A hA=>?_⟩
  show rm (ai (pz P e) fun z=>some (A_ A.next,A.new (rowOf e z)))=_
  rw[hz,hA];rfl
 case box e x=>
  replace h:=dP (o:=EF e (ev s x) s.H) h
  (replace h:=aH h;obtain⟨hg,h⟩:=h)
  cases h
  refine⟨_,rfl,fun A hA=>?_⟩
  have e1:ev ⟨s.nl,s.nt,s.reg,s.tm,s.df,A⟩ x=ev s x:=by cases x<;>rfl
  show rm (gd (kr (ev ⟨s.nl,s.nt,s.reg,s.tm,s.df,A⟩ x)) (some (A_ A.next,A.new (rowOf e (ay (ev ⟨s.nl,s.nt,s.reg,s.tm,s.df,A⟩ x))))))=_
  rw[e1,hg,hA];rfl
 case makeMap t r=>
  replace h:=dP (o:=kD P t (zX s r) s.H) h
  (replace h:=ah h;obtain⟨q,hq,h⟩:=h)
  (replace h:=aH h;obtain⟨hg,h⟩:=h)
  cases h
  refine⟨_,rfl,fun A hA=>?_⟩
  have e1:zX ⟨s.nl,s.nt,s.reg,s.tm,s.df,A⟩ r=zX s r:=by
   cases r with
   |none=>rfl
   |some x=>cases x<;>rfl
  show rm (ai (qz P t) fun _=>gd (@Option.rec Value (fun _=>Bool) true (fun v=>!(aJ (jg v))) (zX ⟨s.nl,s.nt,s.reg,s.tm,s.df,A⟩ r)) (some (Value.map (some A.next),A.new (.map []))))=_
  rw[e1,hq,hA]
  show rm (gd (@Option.rec Value (fun _=>Bool) true (fun v=>!(aJ (jg v))) (zX s r)) _)=_
  rw[hg];rfl
 case makeSlice t l c=>
  replace h:=dP (o:=gW P t (ev s l) (ev s c) s.H) h
  (replace h:=ah h;obtain⟨q,hq,h⟩:=h)
  (replace h:=ah h;obtain⟨i,hi,h⟩:=h)
  (replace h:=ah h;obtain⟨z,hz,h⟩:=h)
  (replace h:=ah h;obtain⟨k,hk,h⟩:=h)
  (replace h:=ah h;obtain⟨k2,hk2,h⟩:=h)
  (replace h:=aH h;obtain⟨hg,h⟩:=h)
  cases h
  refine⟨_,rfl,fun A hA=>?_⟩
  have e1:ev ⟨s.nl,s.nt,s.reg,s.tm,s.df,A⟩ l=ev s l:=by cases l<;>rfl
  have e2:ev ⟨s.nl,s.nt,s.reg,s.tm,s.df,A⟩ c=ev s c:=by cases c<;>rfl
  show rm (gW P t (ev ⟨s.nl,s.nt,s.reg,s.tm,s.df,A⟩ l) (ev ⟨s.nl,s.nt,s.reg,s.tm,s.df,A⟩ c) A)=_
  unfold gW
  rw[e1,e2,hq]
  show rm (ai (tI P q.1) _)=_
  rw[hi]
  show rm (ai (pz P q.1) _)=_
  rw[hz]
  show rm (ai (oM (ev s l)) _)=_
  rw[hk]
  show rm (ai (oM (ev s c)) _)=_
  rw[hk2]
  show rm (gd _ _)=_
  rw[hg,hA];rfl
 case buildSlice t k ps=>
  replace h:=dP (o:=jk P t k (EG s ps) s.H) h
  (replace h:=ah h;obtain⟨q,hq,h⟩:=h)
  (replace h:=ah h;obtain⟨z,hz,h⟩:=h)
  (replace h:=aH h;obtain⟨hg,h⟩:=h)
  (replace h:=ah h;obtain⟨cs,hcs,h⟩:=h)
  cases h
  refine⟨_,rfl,fun A hA=>?_⟩
  have e1:EG ⟨s.nl,s.nt,s.reg,s.tm,s.df,A⟩ ps=EG s ps:=by
   obtain⟨ps⟩:=ps
   show mp (fun p=>(p.1,ev ⟨s.nl,s.nt,s.reg,s.tm,s.df,A⟩ p.2)) ps=mp (fun p=>(p.1,ev s p.2)) ps
   congr 1
   funext p
   cases p.2<;>rfl
  show rm (jk P t k (EG ⟨s.nl,s.nt,s.reg,s.tm,s.df,A⟩ ps) A)=_
  unfold jk
  rw[e1,hq]
  show rm (ai (pz P q.1) _)=_
  rw[hz]
  show rm (gd _ _)=_
  rw[hg]
  show rm (ai (uZ _ (EG s ps) _) _)=_
  rw[hcs,hA];rfl
end rg
end Go.Ae
