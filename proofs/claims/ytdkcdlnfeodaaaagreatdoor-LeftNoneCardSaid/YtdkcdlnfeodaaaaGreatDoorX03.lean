/-
  Part 3 of the proof. No condition.
-/
import Derived.Test.YtdkcdlnfeodaaaaGreatDoorX02
set_option linter.unusedVariables false
set_option linter.unusedSimpArgs false
set_option maxRecDepth 100000
set_option maxHeartbeats 4000000
noncomputable section
namespace Go.Ae
section mem
variable{P:Program}{m:Mp}{H:ae}{w:World}
theorem Wv{args args':List Value}{v:Value}(hl:args.length=1)(hv:args[0]?=some v)(ha:dF m args args'):
 ∃v',VR m v v'∧(Extern.AbiNoEscape.same ⟨args'⟩).run P w=.ok v' w:=by
 obtain⟨v',h0,hr⟩:=ha.get 0 hv
 have hl':args'.length=1:=by rw[←ha.length,hl]
 have he:args'=[v']:=by
  match args',hl',h0 with
  |[y],_,h0=>cases h0;rfl
 subst he
 exact⟨v',hr,rfl⟩
theorem R4(c:Nat)(hc:c≤255):∀(l:List UInt8)(k:Nat),(mR c l k=none∧Lib.indexByte l c.toUInt8=-1)∨∃j,mR c l k=some (k +j)∧Lib.indexByte l c.toUInt8=j:=by
 intro l
 induction l with
 |nil=>intro k;exact .inl ⟨rfl,rfl⟩
 |cons b l ih=>
  intro k
  have hbc:Nat.beq b.toNat c=(b==c.toUInt8):=by
   rw[Bool.eq_iff_iff,beq_iff_eq]
   constructor
   ·intro h
    have:=Nat.eq_of_beq_eq_true h
    rw[←this];simp
   ·intro h
    rw[h]
    have h2:c.toUInt8.toNat=c:=by simp;omega
    rw[h2]
    exact Nat.beq_refl c
  show(av (Nat.beq b.toNat c) (some k) (mR c l (k +1))=none∧_)∨∃j,av (Nat.beq b.toNat c) (some k) (mR c l (k +1))=some (k +j)∧_
  rw[hbc]
  cases hh:(b==c.toUInt8)with
  |true=>exact .inr ⟨0,rfl,by simp[Lib.indexByte,hh]⟩
  |false=>
   rcases ih (k +1)with⟨h1,h2⟩|⟨j,h1,h2⟩
   ·exact .inl ⟨h1,by simp[Lib.indexByte,hh,h2]⟩
   ·refine .inr ⟨j +1,by show mR c l (k +1)=_;rw[h1];congr 1;omega,?_⟩
    have:((j:Int)==-1)=false:=by rw[beq_eq_false_iff_ne];omega
    simp[Lib.indexByte,hh,h2,this]
theorem Iv{args args':List Value}{q:ByteArray×Nat}(h:BJ args=some q)(ha:dF m args args'):args'=[.string q.1,.int .u8 q.2]∧q.2≤255:=by
 (replace h:=ai h;obtain⟨s,hs,h⟩:=h)
 (replace h:=ai h;obtain⟨b,hb,h⟩:=h)
 (replace h:=ai h;obtain⟨c,hc,h⟩:=h)
 (replace h:=ai h;obtain⟨p,hp,h⟩:=h)
 (replace h:=ai h;obtain⟨n,hn,h⟩:=h)
 (replace h:=aG h;obtain⟨hg,h⟩:=h)
 cases h
 rw[fH]at hs hc
 simp only[Bool.and_eq_true,aM]at hg
 have hl:=Nat.eq_of_beq_eq_true hg.2
 have hle:=Nat.le_of_ble_eq_true hg.1.2
 obtain⟨s',h0,hr0⟩:=ha.get 0 hs
 obtain⟨c',h1,hr1⟩:=ha.get 1 hc
 have hl':args'.length=2:=by rw[←ha.length,hl]
 have he:args'=[s',c']:=by
  match args',hl',h0,h1 with
  |[y,z],_,h0,h1=>cases h0;cases h1;rfl
 rw[fJ hb]at hr0
 rw[gW hp,FB hn]at hr1
 have:=hr0.jV;subst this
 have:=hr1.of_int;subst this
 have hk:p.1=.u8:=by
  have:=hg.1.1
  cases hp1:p.1<;>rw[hp1]at this<;>first|rfl|(simp[Bz]at this)
 rw[he,hk]
 exact⟨rfl,hle⟩
theorem FV{args args':List Value}{q:ByteArray×Nat}(h:BJ args=some q)(ha:dF m args args'):
 VR m (Kq (mR q.2 q.1.data.toList 0)) (Kq (mR q.2 q.1.data.toList 0))∧(Extern.BytealgIndexByte.indexByte ⟨args'⟩).run P w=.ok (Kq (mR q.2 q.1.data.toList 0)) w:=by
 obtain⟨rfl,hle⟩:=Iv h ha
 have hr:=Lib.run_indexByteString (P:=P) q.1 (q.2:Int) w
 rw[Int.toNat_natCast]at hr
 rcases R4 q.2 hle q.1.data.toList 0 with⟨h1,h2⟩|⟨j,h1,h2⟩
 ·rw[h1]
  rw[h2]at hr
  exact⟨.sc _ rfl,hr⟩
 ·rw[h1,Nat.zero_add]
  rw[h2]at hr
  exact⟨.sc _ rfl,hr⟩
theorem Ph(c:Nat)(hc:c≤255):∀(l:List UInt8),countB c l=Lib.countByte l c.toUInt8:=by
 intro l
 induction l with
 |nil=>rfl
 |cons b l ih=>
  have hbc:Nat.beq b.toNat c=(b==c.toUInt8):=by
   rw[Bool.eq_iff_iff,beq_iff_eq]
   constructor
   ·intro h
    have:=Nat.eq_of_beq_eq_true h
    rw[←this];simp
   ·intro h
    rw[h]
    have h2:c.toUInt8.toNat=c:=by simp;omega
    rw[h2]
    exact Nat.beq_refl c
  show av (Nat.beq b.toNat c) (Nat.succ (countB c l)) (countB c l)=_
  rw[hbc,ih]
  unfold Lib.countByte
  rw[List.count_cons]
  cases hh:(b==c.toUInt8)<;>rfl
theorem FW{args args':List Value}{q:ByteArray×Nat}(h:BJ args=some q)(ha:dF m args args'):
 VR m (.int .i64 (.ofNat (countB q.2 q.1.data.toList))) (.int .i64 (.ofNat (countB q.2 q.1.data.toList)))∧(Extern.BytealgCount.count ⟨args'⟩).run P w=.ok (.int .i64 (.ofNat (countB q.2 q.1.data.toList))) w:=by
 obtain⟨rfl,hle⟩:=Iv h ha
 have hr:=Lib.run_countString (P:=P) q.1 (q.2:Int) w
 rw[Int.toNat_natCast,←Ph _ hle]at hr
 exact⟨.sc _ rfl,hr⟩
end mem
section mem
variable{P:Program}{m:Mp}{H:ae}{w:World}
theorem R5(rh:RH m H w){s d:TypeId}{x x' v:Value}{H':ae}(h:kC P s d x H=some (v,H'))(hx:VR m x x'):j3 P m H w (convert s d x') v H':=by
 (replace h:=ai h;obtain⟨q,hq,h⟩:=h)
 replace hq:(aj (P.underlying s) fun x=>aj (P.underlying d) fun y=>
  av (rQ x) (aj (H_ P d) fun q=>some (1,q)) (av (rQ y) (aj (H_ P s) fun q=>some (2,q))
   (av (xq y) (aj (xm x) fun e=>some (3,e,0)) (av (xq x) (aj (xm y) fun e=>some (4,e,0)) none))))=some q:=hq
 obtain⟨ds,hds,h1⟩:=ai hq;clear hq
 obtain⟨dd,hdd,hq⟩:=ai h1;clear h1
 cases h1:rQ ds with
 |true=>
  rw[h1]at hq
  obtain⟨q1,hq1,hq2⟩:=ai hq
  cases hq2
  obtain⟨hu,_⟩:=qH hq1
  have h:vN P q1 x H=some (v,H'):=h
  exact Ip rh h hx hds hu
 |false=>
  rw[h1]at hq
  replace hq:(av (rQ dd) (aj (H_ P s) fun q=>some (2,q))
   (av (xq dd) (aj (xm ds) fun e=>some (3,e,0)) (av (xq ds) (aj (xm dd) fun e=>some (4,e,0)) none)))=some q:=hq
  cases h2:rQ dd with
  |true=>
   rw[h2]at hq
   obtain⟨q1,hq1,hq2⟩:=ai hq
   cases hq2
   obtain⟨hu,_⟩:=qH hq1
   have h:vO P q1 x H=some (v,H'):=h
   exact Iq rh h hx hu (by rw[hdd,xy h2])
  |false=>
   rw[h2]at hq
   replace hq:(av (xq dd) (aj (xm ds) fun e=>some (3,e,0)) (av (xq ds) (aj (xm dd) fun e=>some (4,e,0)) none))=some q:=hq
   cases h3:xq dd with
   |true=>
    rw[h3]at hq
    obtain⟨e,he,hq2⟩:=ai hq
    cases hq2
    have h:BF P e x H=some (v,H'):=h
    exact yT rh h hx (by rw[hds,Ba he]) h3 hdd
   |false=>
    rw[h3]at hq
    replace hq:(av (xq ds) (aj (xm dd) fun e=>some (4,e,0)) none)=some q:=hq
    cases h4:xq ds with
    |false=>rw[h4]at hq;cases hq
    |true=>
     rw[h4]at hq
     obtain⟨e,he,hq2⟩:=ai hq
     cases hq2
     have h:BH P e x H=some (v,H'):=h
     exact yU rh h hx h4 hds (by rw[hdd,Ba he])
end mem
section mem
variable{P:Program}{m:Mp}{H:ae}{w:World}
theorem kF{o:Option Value}{v:Value}(h:rp o=.rT v):o=some v:=by
 cases o with
 |none=>cases h
 |some x=>cases h;rfl
theorem KU{o:Option Value}{v:Value}{H:ae}(h:rp o=.mem v H):False:=by cases o<;>cases h
theorem dU{o:Option (Value×ae)}{v:Value}{H:ae}(h:rm o=.mem v H):o=some (v,H):=by
 cases o with
 |none=>cases h
 |some x=>cases h;rfl
theorem qK{o:Option (Value×ae)}{v:Value}(h:rm o=.rT v):False:=by cases o<;>cases h
theorem Nb{o:Option Value}{q:Option (Value×ae)}{v:Value}(h:rpm o (rm q)=.rT v):o=some v:=by
 cases o with
 |none=>exact(qK (o:=q) h).elim
 |some x=>cases h;rfl
theorem Nc{o:Option Value}{q:Option (Value×ae)}{v:Value}{H:ae}(h:rpm o (rm q)=.mem v H):q=some (v,H):=by
 cases o with
 |none=>exact dU (o:=q) h
 |some x=>cases h
structure EF(m:Mp)(s:St)(ρ:Operand→Value)(L:List Operand):Prop where
 all:∀x,x∈L→VR m (ev s x) (ρ x)
theorem EF.uJ{s:St}{ρ:Operand→Value}{L:List Operand}(e:EF m s ρ L)(x:Operand)(h:x∈L:=by simp[Op.operands,Call.operands]):VR m (ev s x) (ρ x):=e.all x h
theorem EF.list{s:St}{ρ:Operand→Value}{L:List Operand}(e:EF m s ρ L):∀l:List Operand,(∀x,x∈l→x∈L)→dF m (mp (ev s) l) (l.map ρ)
 |[],_=>.nil
 |x::l,h=>.cons _ _ _ _ (e.all x (h x (by simp))) (e.list l fun y hy=>h y (by simp[hy]))
theorem EF.opt{s:St}{ρ:Operand→Value}{L:List Operand}(e:EF m s ρ L):∀o:Option Operand,(∀x,x∈o→x∈L)→OR m (Aw s o) (o.map ρ)
 |none,_=>.nn
 |some x,h=>.ss _ _ (e.all x (h x rfl))
theorem EF.pairs{s:St}{ρ:Operand→Value}{L:List Operand}(e:EF m s ρ L)(ps:Array (Nat×Operand))(h:∀x,x∈ps.toList→x.2∈L):Yk m (Fy s ps) (ps.map fun(i,x)=>(i,ρ x)).toList:=by
 obtain⟨l⟩:=ps
 have:∀l:List (Nat×Operand),(∀x,x∈l→x.2∈L)→Yk m (mp (fun p=>(p.1,ev s p.2)) l) (l.map fun(i,x)=>(i,ρ x)):=by
  intro l
  induction l with
  |nil=>intro _;exact .nil
  |cons x l ih=>intro h;exact .cons _ _ _ _ _ (e.all x.2 (h x (by simp))) (ih fun y hy=>h y (by simp[hy]))
 simpa [Fy]using this l h
def Ww(P:Program)(m:Mp)(v:Value)(s:Sem Next):Prop:=∃v',VR m v v'∧∀w,s.run P w=.ok (.value v') w
theorem iT{m:Mp}{v v':Value}{s:Sem Value}(h:VR m v v')(hs:∀w,s.run P w=.ok v' w):Ww P m v (do pure (.value (←s))):=
 ⟨v',h,fun w=>by simp[hs]⟩
theorem Iw{b:Builtin}{ats:List TypeId}{ty:TypeId}{cs:Array Bool}{args args':List Value}{v:Value}(h:pQ b ats args P H=.rT v)(ha:dF m args args'):
 Ww P m v (builtin b ⟨ats⟩ ty cs ⟨args'⟩):=by
 cases b
 case len=>
  have h:=Nb (o:=one (BC P) ats args) (q:=BI P ats args H) h
  obtain⟨h1,h2⟩:=Wj (t:=ty) h ha
  exact iT h1 h2
 case max=>
  have h:=kF (o:=Ra true args) h
  obtain⟨v',h1,h2⟩:=Ry (P:=P) (ats:=⟨ats⟩) (t:=ty) h ha
  exact iT h1 h2
 case min=>
  have h:=kF (o:=Ra false args) h
  obtain⟨v',h1,h2⟩:=Ry (P:=P) (ats:=⟨ats⟩) (t:=ty) h ha
  exact iT h1 h2
 case append=>exact(qK (o:=uA P ats args H) h).elim
 case copy=>exact(qK (o:=Eo P ats args H) h).elim
 case clear=>exact(qK (o:=yK P ats args H) h).elim
 all_goals first|cases h|exact(qK (o:=xw args H) h).elim|exact(qK (o:=lq P ats args H) h).elim
theorem FX{cf:cz}{s:St}{o:Oper}{ρ:Operand→Value}{v:Value}(h:m_ o.op P cf s=.rT v)(e:EF m s ρ o.op.operands.toList)(hc:∀c,ρ (.const c)=c):Ww P m v (execOp ρ o):=by
 cases hop:o.op
 case move x=>
  rw[hop]at h e;cases h
  exact⟨ρ x,e.all x (by simp[Op.operands,Call.operands]),fun w=>by simp[execOp,hop]⟩
 case assign x=>
  rw[hop]at h e;cases h
  exact⟨ρ x,e.all x (by simp[Op.operands,Call.operands]),fun w=>by simp[execOp,hop]⟩
 case pick c a b=>
  rw[hop]at h e
  have h:=kF (o:=BB (ev s c) (ev s a) (ev s b)) h
  obtain⟨v',h1,h2⟩:=We (P:=P) h (e.uJ c) (e.uJ a) (e.uJ b)
  have:=iT h1 h2
  refine⟨v',h1,fun w=>?_⟩
  have h2:=h2 w
  simp only[execOp,hop]
  simp only[Sem.run_bind]at h2⊢
  cases hr:(asBool (ρ c)).run P w with
  |ok b' w'=>rw[hr]at h2;simp only[Result.andThen_ok,Sem.run_pure]at h2⊢;cases h2;rfl
  |halt x w'=>rw[hr]at h2;cases h2
 case build t ps=>
  rw[hop]at h e
  have h:=kF (o:=sw P t (Fy s ps)) h
  obtain⟨v',h1,h2⟩:=RF h (e.pairs ps (by intro x hx;simp[Op.operands];exact⟨x.1,by simpa using hx⟩))
  have:Ww P m v (do pure (.value (←Instr.build t (ps.map fun(i,x)=>(i,ρ x))))):=iT h1 h2
  simp only[execOp,hop]
  exact this
 case nilCheck x=>
  rw[hop]at h e
  have h:=kF (o:=Fw (ev s x)) h
  obtain⟨h1,h2⟩:=Ik (P:=P) h (e.uJ x) ρ o x hop rfl
  exact⟨_,h1,h2⟩
 case binOp op t x y z=>
  rw[hop]at h e
  have h:=kF (o:=eF P op t x y (ev s x) (ev s y)) h
  obtain⟨h1,h2⟩:=ZH h (e.uJ x) (e.uJ y) (fun c hx=>by subst hx;rfl) (fun c hy=>by subst hy;rfl)
  have:=iT h1 h2
  simpa [execOp,hop]using this
 case unOp op t x=>
  rw[hop]at h e
  have h:=kF (o:=bV (Op.unary op (ev s x))) h
  obtain⟨h1,h2⟩:=Wh (P:=P) h (e.uJ x)
  have:=iT h1 h2
  simpa [execOp,hop]using this
 case convert a b x=>
  rw[hop]at h e
  have h:=Nb (o:=vo P a b (ev s x)) (q:=kC P a b (ev s x) s.H) h
  obtain⟨h1,h2⟩:=Wi h (e.uJ x)
  have:=iT h1 h2
  simpa [execOp,hop]using this
 case makeInterface t x=>
  rw[hop]at h e
  have h:=kF (o:=Ko P t (ev s x)) h
  obtain⟨v',h1,h2⟩:=ZI h (e.uJ x)
  have:=iT h1 h2
  simpa [execOp,hop]using this
 case makeFunc f fi ca=>
  rw[hop]at h e
  cases h
  refine⟨.func f (fi.map ρ) (ca.map ρ),?_,fun w=>by simp[execOp,hop,Instr.makeFunc]⟩
  obtain⟨fi⟩:=fi
  obtain⟨ca⟩:=ca
  have:=VR.func f _ _ _ _ (e.list fi (by intro x hx;simp[Op.operands,Call.operands,hx])) (e.list ca (by intro x hx;simp[Op.operands,Call.operands,hx]))
  simpa using this
 case slice t x lo hi mx=>
  rw[hop]at h e
  have h:=kF (o:=pF P t (ev s x) (Aw s lo) (Aw s hi) (Aw s mx)) h
  obtain⟨v',h1,h2⟩:=RD h (e.uJ x) (e.opt lo (by intro x hx;simp[Op.operands]at hx⊢;simp[hx])) (e.opt hi (by intro x hx;simp[Op.operands]at hx⊢;simp[hx])) (e.opt mx (by intro x hx;simp[Op.operands]at hx⊢;simp[hx]))
  have:=iT h1 h2
  simpa [execOp,hop]using this
 case fieldAddr t x f=>
  rw[hop]at h e
  have h:=kF (o:=iR P t (ev s x) f) h
  obtain⟨v',h1,h2⟩:=FK h (e.uJ x)
  have:=iT h1 h2
  simpa [execOp,hop]using this
 case field t x f=>
  rw[hop]at h e
  have h:=kF (o:=su P t (ev s x) f) h
  obtain⟨v',h1,h2⟩:=Rq h (e.uJ x)
  have:=iT h1 h2
  simpa [execOp,hop]using this
 case indexAddr t x i=>
  rw[hop]at h e
  have h:=kF (o:=iQ P t (ev s x) (ev s i)) h
  obtain⟨v',h1,h2⟩:=FJ h (e.uJ x) (e.uJ i)
  have:=iT h1 h2
  simpa [execOp,hop]using this
 case index t x i=>
  rw[hop]at h e
  have h:=kF (o:=si P t (ev s x) (ev s i)) h
  obtain⟨v',h1,h2⟩:=Rp h (e.uJ x) (e.uJ i)
  have:=iT h1 h2
  simpa [execOp,hop]using this
 case extract t i=>
  rw[hop]at h e
  have h:=kF (o:=l9 (ev s t) i) h
  obtain⟨v',h1,h2⟩:=Ky (P:=P) h (e.uJ t)
  have:=iT h1 h2
  simpa [execOp,hop]using this
 case call c=>
  rw[hop]at h e
  replace h:kW c P cf s=.rT v:=h
  obtain⟨callee,⟨args⟩,ats⟩:=c
  cases callee with
  |value f=>exact(qK h).elim
  |invoke r n=>exact(qK h).elim
  |builtin b=>
   have h:pQ b ats.toList (mp (ev s) args) P s.H=.rT v:=h
   obtain⟨cs,hcs⟩:∃cs,∀w,(execOp ρ o).run P w=(builtin b ⟨ats.toList⟩ o.type cs ⟨args.map ρ⟩).run P w:=
    ⟨args.toArray.map fun|.const _=>true|_=>false,fun w=>by
     simp only[execOp,hop,resolve,invoke,Sem.run_bind,Sem.run_pure,Result.andThen_ok,List.map_toArray]
     rfl⟩
   obtain⟨v',h1,h2⟩:=Iw (P:=P) (ty:=o.type) (cs:=cs) h (e.list args (by intro x hx;simp[Op.operands,Call.operands,hx]))
   exact⟨v',h1,fun w=>by rw[hcs,h2]⟩
 all_goals(rw[hop]at h;first|cases h|exact(qK h).elim|skip)
end mem
section mem
variable{P:Program}{m:Mp}{H:ae}{w:World}
def Gl(n:Nat)(m:Mp):Prop:=∀g,g<n→∃l,m g=some l∧l.c=g∧l.lo=0∧l.base=0
theorem Gl.mono{n:Nat}{m m':Mp}(h:Gl n m)(hm:Mp.le m m'):Gl n m':=fun g hg=>let⟨l,a,b⟩:=h g hg;⟨l,hm _ _ a,b⟩
def xB(P:Program)(n:Nat)(cf:cz):Prop:=∀g args v H H',cf g args H=some (v,H')→∀m w args',RH m H w→Gl n m→dF m args args'→
 ∀(o:Oper)(a:Act)(next:Act→World→Prop)(Q:Exit→Act→World→Prop),
  (∀m' v' w',VR m' v v'→RH m' H' w'→Ex m m' H H' w w'→next (a.put o.dst v') w')→o.upon P a next Q ((callFunc g ⟨args'⟩).run P w)
theorem fE{v:Value}{H':ae}{s:Sem Value}{o:Oper}{a:Act}{next:Act→World→Prop}{Q:Exit→Act→World→Prop}(h:j3 P m H w s v H')
 (K:∀m' v' w',VR m' v v'→RH m' H' w'→Ex m m' H H' w w'→next (a.put o.dst v') w'):o.upon P a next Q ((do pure (.value (←s)):Sem Next).run P w):=by
 obtain⟨m',cv,w',h1,h2,h3,h4⟩:=h
 have:(do pure (.value (←s)):Sem Next).run P w=.ok (.value cv) w':=by simp[h1]
 rw[this]
 exact K m' cv w' h2 h3 h4
theorem yV{v:Value}{H':ae}{s:Sem Unit}{o:Oper}{a:Act}{next:Act→World→Prop}{Q:Exit→Act→World→Prop}
 (h:v=undef∧∃w',s.run P w=.ok () w'∧RH m H' w'∧Ex m m H H' w w')
 (K:∀m' v' w',VR m' v v'→RH m' H' w'→Ex m m' H H' w w'→next (a.put o.dst v') w'):o.upon P a next Q ((do s;pure .skip:Sem Next).run P w):=by
 obtain⟨rfl,w',h1,h3,h4⟩:=h
 have:(do s;pure .skip:Sem Next).run P w=.ok .skip w':=by simp[h1]
 rw[this]
 exact K m undef w' (.tuple [] [] .nil) h3 h4
theorem vW{v v':Value}{s:Sem Value}{H':ae}(rh:RH m H w)(e:H'=H)(h:VR m v v')(hr:s.run P w=.ok v' w):j3 P m H w s v H':=by
 subst e;exact⟨m,v',w,hr,h,rh,Ex.refl _ _ _⟩
theorem Iy{b:Builtin}{ats:List TypeId}{ty:TypeId}{cs:Array Bool}{args args':List Value}{v:Value}{H':ae}(rh:RH m H w)(h:pQ b ats args P H=.mem v H')(ha:dF m args args')
 {o:Oper}{a:Act}{next:Act→World→Prop}{Q:Exit→Act→World→Prop}
 (K:∀m' v' w',VR m' v v'→RH m' H' w'→Ex m m' H H' w w'→next (a.put o.dst v') w'):o.upon P a next Q ((builtin b ⟨ats⟩ ty cs ⟨args'⟩).run P w):=by
 cases b
 case append=>exact fE (O8 rh (dU (o:=uA P ats args H) h) ha) K
 case copy=>exact fE (Wt rh (dU (o:=Eo P ats args H) h) ha) K
 case clear=>exact fE (RV rh (dU (o:=yK P ats args H) h) ha) K
 case len=>
  have h:=Nc (o:=one (BC P) ats args) (q:=BI P ats args H) h
  obtain⟨e,h1,h2⟩:=Wm (t:=ty) rh h ha
  exact fE (vW rh e h1 h2) K
 case max=>exact(KU (o:=Ra true args) h).elim
 case min=>exact(KU (o:=Ra false args) h).elim
 all_goals first
  |cases h
  |exact fE (O_ (fun _ _ _ _ _=>rfl) (fun _ _ _ _ _ _=>rfl) rh (dU (o:=xw args H) h) ha) K
  |exact fE (Iu ⟨_,_,_,_,_,fun _ _ _ _ _=>rfl⟩ rh (dU (o:=lq P ats args H) h) ha) K
theorem Nf{cf:cz}{s:St}{o:Oper}{ρ:Operand→Value}{v:Value}{H':ae}(rh:RH m s.H w)(h:m_ o.op P cf s=.mem v H')(e:EF m s ρ o.op.operands.toList)
 {a:Act}{next:Act→World→Prop}{Q:Exit→Act→World→Prop}
 (hcall:∀c,o.op=.call c→isBuiltin c.callee=none→o.upon P a next Q ((execOp ρ o).run P w))
 (K:∀m' v' w',VR m' v v'→RH m' H' w'→Ex m m' s.H H' w w'→next (a.put o.dst v') w'):o.upon P a next Q ((execOp ρ o).run P w):=by
 cases hop:o.op
 case alloc t=>
  rw[hop]at h e
  simp only[execOp,hop]
  exact fE (RN rh (dU h)) K
 case box t x=>
  rw[hop]at h e
  simp only[execOp,hop]
  exact fE (ZM rh (dU h) (e.uJ x)) K
 case buildSlice t n ps=>
  rw[hop]at h e
  simp only[execOp,hop]
  exact fE (KF rh (dU h) (e.pairs ps (by intro x hx;simp[Op.operands];exact⟨x.1,by simpa using hx⟩))) K
 case insert t x k y=>
  rw[hop]at h e
  simp only[execOp,hop]
  exact yV (Ez rh (dU h) (e.uJ x) (e.uJ k) (e.uJ y)) K
 case mapUpdate t x k y=>
  rw[hop]at h e
  simp only[execOp,hop]
  exact yV (Ez rh (dU h) (e.uJ x) (e.uJ k) (e.uJ y)) K
 case load t x=>
  rw[hop]at h e
  simp only[execOp,hop]
  obtain⟨h1,v',h2,h3⟩:=M_ rh (dU h) (e.uJ x)
  exact fE (vW rh h1 h2 h3) K
 case store t x y=>
  rw[hop]at h e
  simp only[execOp,hop]
  exact yV (RL rh (dU h) (e.uJ x) (e.uJ y)) K
 case convert c d x=>
  rw[hop]at h e
  simp only[execOp,hop]
  exact fE (R5 rh (Nc (o:=vo P c d (ev s x)) (q:=kC P c d (ev s x) s.H) h) (e.uJ x)) K
 case makeMap t r=>
  rw[hop]at h e
  simp only[execOp,hop]
  exact fE (KN rh (dU h) (e.opt r (by intro x hx;simp[Op.operands]at hx⊢;simp[hx]))) K
 case makeSlice t l c=>
  rw[hop]at h e
  simp only[execOp,hop]
  exact fE (FO rh (dU h) (e.uJ l) (e.uJ c)) K
 case lookup t x k ok=>
  rw[hop]at h e
  simp only[execOp,hop]
  obtain⟨h1,v',h2,h3⟩:=O3 rh (dU h) (e.uJ x) (e.uJ k)
  exact fE (vW rh h1 h2 h3) K
 case range t x=>
  rw[hop]at h e
  simp only[execOp,hop]
  exact fE (RX rh (dU h) (e.uJ x)) K
 case next x b=>
  rw[hop]at h e
  simp only[execOp,hop]
  exact fE (Wu rh (dU h) (e.uJ x)) K
 case call c=>
  rw[hop]at h e
  cases hb:isBuiltin c.callee with
  |none=>exact hcall c hop hb
  |some b=>
   obtain⟨callee,⟨args⟩,ats⟩:=c
   cases callee with
   |value f=>cases hb
   |invoke r n=>cases hb
   |builtin b=>
    have h:pQ b ats.toList (mp (ev s) args) P s.H=.mem v H':=h
    obtain⟨cs,hcs⟩:∃cs,∀w,(execOp ρ o).run P w=(builtin b ⟨ats.toList⟩ o.type cs ⟨args.map ρ⟩).run P w:=
     ⟨args.toArray.map fun|.const _=>true|_=>false,fun w=>by
      simp only[execOp,hop,resolve,invoke,Sem.run_bind,Sem.run_pure,Result.andThen_ok,List.map_toArray]
      rfl⟩
    rw[hcs]
    exact Iy rh h (e.list args (by intro x hx;simp[Op.operands,Call.operands,hx])) K
 all_goals(rw[hop]at h;first|cases h|exact(KU h).elim)
end mem
section mem
variable{P:Program}{m:Mp}{H:ae}{w:World}
theorem Iz{cf:cz}{n:Nat}(hcf:xB P n cf)(gl:Gl n m){s:St}{o:Oper}{ρ:Operand→Value}{v:Value}{H':ae}{f:Operand}{args:List Operand}{ats:Array TypeId}(rh:RH m s.H w)
 (hop:o.op=.call ⟨.value f,⟨args⟩,ats⟩)(h:kW ⟨.value f,⟨args⟩,ats⟩ P cf s=.mem v H')(e:EF m s ρ o.op.operands.toList)
 {a:Act}{next:Act→World→Prop}{Q:Exit→Act→World→Prop}
 (K:∀m' v' w',VR m' v v'→RH m' H' w'→Ex m m' s.H H' w w'→next (a.put o.dst v') w'):o.upon P a next Q ((execOp ρ o).run P w):=by
 replace h:rm (aj (aj (Q5 (ev s f)) fun q=>aj (VL q.1) fun g=>some (g,q.2)) fun q=>cf q.1 (app q.2.1 (app (mp (ev s) args) q.2.2)) s.H)=.mem v H':=h
 replace h:=dU h
 (replace h:=ai h;obtain⟨q,hq,h⟩:=h)
 obtain⟨p,hp,hq⟩:=ai hq
 obtain⟨g,hg,hq⟩:=ai hq
 cases hq
 rw[hop]at e
 have hf:=e.all f (by simp[Op.operands,Call.operands])
 rw[FC hp,FD hg]at hf
 obtain⟨p0,p1,p2⟩:=p
 obtain⟨x',y',hh,hx,hy⟩:=hf.Rm
 have hargs:dF m (app p1 (app (mp (ev s) args) p2)) (x'++(args.map ρ++y')):=by
  rw[jd,jd]
  exact hx.append ((e.list args (by intro x hx;simp[Op.operands,Call.operands,hx])).append hy)
 have:=hcf _ _ _ _ _ h m w _ rh gl hargs o a next Q K
 have hr:(execOp ρ o).run P w=(callFunc g ⟨x'++(args.map ρ++y')⟩).run P w:=by
  simp only[execOp,hop,resolve,hh,Deferred.ofValue,invoke,Sem.run_bind,Sem.run_pure,Result.andThen_ok,List.map_toArray]
  congr 2
  rw[←Array.toList_inj];simp
 rw[hr]
 exact this
end mem
section mem
variable{P:Program}{m:Mp}{H:ae}{w:World}
theorem R6{d:TypeDesc}(h:l8 d=1):∃e,d=.pointer e:=by
 cases d<;>simp[l8]at h;exact⟨_,rfl⟩
theorem KV{t:TypeId}{name:String}{q:FuncId×Bool}{v:Value}(h:methodOf P t name=some q)(n:Nat)(w:World):(method (n +1) t v name).run P w=.ok (q.1,v) w:=by
 (replace h:=ai h;obtain⟨i,hi,h⟩:=h)
 (replace h:=ai h;obtain⟨mm,hmm,h⟩:=h)
 (replace h:=ai h;obtain⟨q',hq,h⟩:=h)
 (replace h:=ai h;obtain⟨d,hd,h⟩:=h)
 (replace h:=aG h;obtain⟨hg,h⟩:=h)
 cases h
 have hi:P.info? t=some i:=hi
 have hmm:i.methods.find? (·.name==name)=some mm:=by rw[←Array.find?_toList];exact hmm
 simp only[Bool.and_eq_true]at hg
 have hp:=Nat.eq_of_beq_eq_true hg.1
 rw[aM]at hp
 have hp:mm.path.toList=[]:=List.eq_nil_of_length_eq_zero hp
 obtain⟨f,b⟩:=q
 have hg2:=hg.2
 cases b with
 |true=>
  replace hg2:Nat.beq (l8 d) 1=true:=hg2
  obtain⟨e,rfl⟩:=R6 (Nat.eq_of_beq_eq_true hg2)
  simp[method,nZ hi,hmm,hp,follow,hq,receiverAt,aB hd,Place.get]
 |false=>
  replace hg2:(!(Nat.beq (l8 d) 1))=true:=hg2
  have hd1:∀e,d≠.pointer e:=by
   intro e he;subst he;simp[l8]at hg2
  cases d<;>first|exact absurd rfl (hd1 _)|simp[method,nZ hi,hmm,hp,follow,hq,receiverAt,aB hd,Place.get]
theorem IA{cf:cz}{n:Nat}(hcf:xB P n cf)(gl:Gl n m){s:St}{o:Oper}{ρ:Operand→Value}{v:Value}{H':ae}{r:Operand}{name:String}{args:List Operand}{ats:Array TypeId}(rh:RH m s.H w)
 (hop:o.op=.call ⟨.invoke r name,⟨args⟩,ats⟩)(h:kW ⟨.invoke r name,⟨args⟩,ats⟩ P cf s=.mem v H')(e:EF m s ρ o.op.operands.toList)
 {a:Act}{next:Act→World→Prop}{Q:Exit→Act→World→Prop}
 (K:∀m' v' w',VR m' v v'→RH m' H' w'→Ex m m' s.H H' w w'→next (a.put o.dst v') w'):o.upon P a next Q ((execOp ρ o).run P w):=by
 replace h:rm (aj (aj (vL (ev s r)) fun p=>aj (methodOf P p.1 name) fun q=>some (q.1,[p.2],([]:List Value))) fun q=>cf q.1 (app q.2.1 (app (mp (ev s) args) q.2.2)) s.H)=.mem v H':=h
 replace h:=dU h
 (replace h:=ai h;obtain⟨q,hq,h⟩:=h)
 obtain⟨p,hp,hq⟩:=ai hq
 obtain⟨g,hg,hq⟩:=ai hq
 cases hq
 rw[hop]at e
 have hf:=e.all r (by simp[Op.operands,Call.operands])
 rw[OI hp]at hf
 obtain⟨x',hh,hx⟩:=hf.Ie
 have hargs:dF m (app [p.2] (app (mp (ev s) args) [])) ([x']++(args.map ρ++[])):=by
  rw[jd,jd]
  exact(dF.cons _ _ _ _ hx .nil).append ((e.list args (by intro x hx;simp[Op.operands,Call.operands,hx])).append .nil)
 have:=hcf _ _ _ _ _ h m w _ rh gl hargs o a next Q K
 have hr:(execOp ρ o).run P w=(callFunc g.1 ⟨[x']++(args.map ρ++[])⟩).run P w:=by
  have hm:=KV (v:=x') hg (P.types.size +Made.depth -1) w
  have hd:P.types.size +Made.depth -1 +1=P.types.size +Made.depth:=by
   have:1≤Made.depth:=by decide
   omega
  rw[hd]at hm
  have ht:(List.map ρ args).take args.length=List.map ρ args:=List.take_of_length_le (by simp)
  simp[execOp,hop,resolve,invoke,callMethod,hh,hm,ht]
 rw[hr]
 exact this
end mem
def vX(n:Nat)(x:Operand):Bool:=@Operand.rec (fun _=>Bool) (fun _=>true) (fun v=>eU v) (fun g=>Nat.ble (Nat.succ g) n) (fun _=>true) x
def B6(nt:Nat)(d:Option Nat):Bool:=@Option.rec Nat (fun _=>Bool) true (fun d=>Nat.ble (Nat.succ d) nt) d
def lI(n nt:Nat)(o:Oper):Bool:=all' (vX n) o.op.operands.toList&&B6 nt o.dst
section mem
variable{P:Program}{m:Mp}{H:ae}{w:World}
structure FR(m:Mp)(s:St)(a:Act):Prop where
 size:a.tmps.size=s.nt
 slot:∀t,VR m (aY s t) (a.tmps.getD t undef)
theorem FR.mono{m m':Mp}{s:St}{a:Act}(h:FR m s a)(hm:Mp.le m m'):FR m' s a:=⟨h.size,fun t=>(h.slot t).mono hm⟩
theorem FR.ev{m:Mp}{s:St}{a:Act}{n:Nat}(h:FR m s a)(g:Gl n m){L:List Operand}(hL:all' (vX n) L=true):EF m s a.eval L:=by
 refine⟨fun x hx=>?_⟩
 rw[all_eq]at hL
 have hx:=List.all_eq_true.1 hL x hx
 cases x with
 |tmp t=>exact h.slot t
 |const v=>exact .sc v hx
 |global k=>
  obtain⟨l,h1,h2,h3,h4⟩:=g k (Nat.le_of_ble_eq_true hx)
  have:=VR.ptr (m:=m) k 0 l h1 aa
  rw[h2,h3,h4]at this
  exact this
 |func f=>exact .func (.func f) [] [] [] [] .nil .nil
theorem FR.put{m:Mp}{s:St}{a:Act}{H':ae}{d:Option Nat}{v v':Value}(h:FR m s a)(hd:B6 s.nt d=true)(hv:VR m v v'):FR m (bI s d v H') (a.put d v'):=by
 cases d with
 |none=>exact⟨h.size,h.slot⟩
 |some d=>
  have hd:d<s.nt:=Nat.le_of_ble_eq_true hd
  have hget:∀t,(a.tmps.setIfInBounds d v').getD t undef=if t=d then v' else a.tmps.getD t undef:=by
   intro t
   by_cases e:t=d
   ·subst e
    rw[if_pos rfl]
    simp[Array.getD,h.size,hd]
   ·rw[if_neg e]
    simp only[Array.getD_eq_getD_getElem?]
    rw[Array.getElem?_setIfInBounds_ne (Ne.symm e)]
  show FR m (h_ s d v H') {a with tmps:=a.tmps.setIfInBounds d v'}
  unfold h_
  cases hb:aV s.nl d with
  |true=>
   show FR m ⟨s.nl,s.nt,s.reg,av (Nat.ble (Nat.succ d) s.nt) (s.tm.set top d v) s.tm,s.df,H'⟩ _
   rw[show Nat.ble (Nat.succ d) s.nt=true from Nat.ble_eq_true_of_le hd]
   refine⟨by simpa using h.size,fun t=>?_⟩
   rw[hget]
   have hl:=h.slot t
   unfold aY at hl⊢
   simp only at hl⊢
   by_cases e:t=d
   ·subst e
    rw[if_pos rfl,hb]
    show VR m ((s.tm.set top t v).get top t) v'
    rw[Tr.jQ,if_pos rfl];exact hv
   ·rw[if_neg e]
    cases hbt:aV s.nl t with
    |true=>
     rw[hbt]at hl
     show VR m ((s.tm.set top d v).get top t) _
     rw[Tr.jQ,if_neg e];exact hl
    |false=>rw[hbt]at hl;exact hl
  |false=>
   show FR m ⟨s.nl,s.nt,(d,v)::s.reg,s.tm,s.df,H'⟩ _
   refine⟨by simpa using h.size,fun t=>?_⟩
   rw[hget]
   have hl:=h.slot t
   unfold aY at hl⊢
   simp only at hl⊢
   by_cases e:t=d
   ·subst e
    rw[if_pos rfl,hb]
    show VR m (av (Nat.beq t t) v (look s.reg t)) v'
    rw[show Nat.beq t t=true from Nat.beq_refl t];exact hv
   ·rw[if_neg e]
    cases hbt:aV s.nl t with
    |true=>rw[hbt]at hl;exact hl
    |false=>
     rw[hbt]at hl
     show VR m (av (Nat.beq d t) v (look s.reg t)) _
     rw[show Nat.beq d t=false from by rw[←Bool.not_eq_true];exact fun g=>e (Nat.eq_of_beq_eq_true g).symm];exact hl
end mem
section mem
variable{P:Program}{m:Mp}{H:ae}{w:World}
theorem R7{v:Value}(h:isU v=true):v=.tuple #[]:=by
 cases v with
 |tuple l=>
  obtain⟨l⟩:=l
  have h:Nat.beq (len l) 0=true:=h
  have h:=Nat.eq_of_beq_eq_true h
  rw[aM]at h
  rw[List.eq_nil_of_length_eq_zero h]
 |_=>simp[isU,Q6]at h
theorem R8{ops:Array Oper}{s:St}{a:Act}{j:Nat}{y:Option Bool}(f:FR m s a)(h:qD ops s j=some y):yielded ops a.tmps j=y:=by
 (replace h:=ai h;obtain⟨o,ho,h⟩:=h)
 (replace h:=ai h;obtain⟨t,ht,h⟩:=h)
 rw[fH,Array.getElem?_toList]at ho
 have hs:=f.slot t
 have hy:yielded ops a.tmps j=match a.tmps[t]? with|some (.bool b)=>some b|_=>none:=by
  unfold yielded
  rw[ho]
  show(match(o.dst).bind (a.tmps[·]?)with|some (.bool b)=>some b|_=>none)=_
  rw[ht]
  rfl
 rw[hy]
 cases hb:bK (aY s t)with
 |some b=>
  rw[hb]at h
  replace h:some (some b)=some y:=h
  cases h
  rw[gB hb]at hs
  have hs:=hs.of_bool
  rw[Array.getD_eq_getD_getElem?]at hs
  cases hq:a.tmps[t]? with
  |none=>rw[hq]at hs;cases hs
  |some x=>rw[hq]at hs;replace hs:x=.bool b:=hs;rw[hs]
 |none=>
  rw[hb]at h
  replace h:(gd (isU (aY s t)) (some (none:Option Bool)))=some y:=h
  (replace h:=aG h;obtain⟨hg,h⟩:=h)
  cases h
  rw[R7 hg]at hs
  obtain⟨l',hl,hv⟩:=VR.FE (x:=[]) hs
  cases hv
  rw[Array.getD_eq_getD_getElem?]at hl
  cases hq:a.tmps[t]? with
  |none=>rfl
  |some x=>rw[hq]at hl;replace hl:x=.tuple ⟨[]⟩:=hl;rw[hl]
theorem Wx{ops:Array Oper}{s:St}{a:Act}{o:Oper}{b:Bool}(f:FR m s a)(h:iw ops s o.guard=some b):Region.wanted o (yielded ops a.tmps)=b:=by
 unfold Region.wanted
 cases hg:o.guard with
 |none=>rw[hg]at h;cases h;rfl
 |some p=>
  rw[hg]at h
  replace h:(aj (qD ops s p.1) fun y=>some (@Option.rec Bool (fun _=>Bool) false (fun b=>qy b p.2) y))=some b:=h
  (replace h:=ai h;obtain⟨y,hy,h⟩:=h)
  cases h
  obtain⟨j,want⟩:=p
  simp only
  rw[R8 f hy]
  cases y with
  |none=>rfl
  |some c=>cases c<;>cases want<;>rfl
end mem
section mem
variable{P:Program}{m:Mp}{H:ae}{w:World}
theorem put_defers(a:Act)(d:Option Tmp)(v:Value):(a.put d v).defers=a.defers:=by cases d<;>rfl
theorem dw(s:St)(d:Option Nat)(v:Value)(H:ae):(bI s d v H).H=H:=by
 cases d with
 |none=>rfl
 |some d=>show(h_ s d v H).H=H;unfold h_;cases aV s.nl d<;>rfl
theorem nA(s:St)(d:Option Nat)(v:Value)(H:ae):(bI s d v H).nt=s.nt:=by
 cases d with
 |none=>rfl
 |some d=>show(h_ s d v H).nt=s.nt;unfold h_;cases aV s.nl d<;>rfl
theorem uK(s:St)(d:Option Nat)(v:Value)(H:ae):(bI s d v H).df=s.df:=by
 cases d with
 |none=>rfl
 |some d=>show(h_ s d v H).df=s.df;unfold h_;cases aV s.nl d<;>rfl
theorem Wy{cf:cz}{n:Nat}(hcf:xB P n cf){s s1:St}{o:Oper}{a:Act}(rh:RH m s.H w)(f:FR m s a)(gl:Gl n m)(hok:lI n s.nt o=true)(hd:iI o.op=none)
 (h:oW P cf o s=some s1){next:Act→World→Prop}{Q:Exit→Act→World→Prop}
 (K:∀m' a' w',FR m' s1 a'→RH m' s1.H w'→Ex m m' s.H s1.H w w'→a'.defers=a.defers→next a' w'):o.wp P a w next Q:=by
 unfold oW at h
 rw[hd]at h
 replace h:vQ o s (m_ o.op P cf s)=some s1:=h
 unfold lI at hok
 simp only[Bool.and_eq_true]at hok
 have e:=f.ev gl hok.1
 unfold Oper.wp
 cases hr:m_ o.op P cf s with
 |fail=>rw[hr]at h;cases h
 |rT v=>
  rw[hr]at h
  replace h:some (bI s o.dst v s.H)=some s1:=h
  cases h
  obtain⟨v',h1,h2⟩:=FX hr e (fun _=>rfl)
  rw[h2 w]
  have hf:FR m (bI s o.dst v s.H) (a.put o.dst v'):=f.put hok.2 h1
  exact K m _ w hf (by rw[dw];exact rh) (by rw[dw];exact Ex.refl _ _ _) (put_defers _ _ _)
 |mem v H'=>
  rw[hr]at h
  replace h:some (bI s o.dst v H')=some s1:=h
  cases h
  have K':∀m' v' w',VR m' v v'→RH m' H' w'→Ex m m' s.H H' w w'→next (a.put o.dst v') w':=by
   intro m' v' w' h1 h2 h3
   exact K m' _ w' ((f.mono h3.le).put hok.2 h1) (by rw[dw];exact h2) (by rw[dw];exact h3) (put_defers _ _ _)
  refine Nf rh hr e ?_ K'
  intro c hop hb
  rw[hop]at hr
  replace hr:kW c P cf s=.mem v H':=hr
  obtain⟨callee,⟨args⟩,ats⟩:=c
  cases callee with
  |value g=>exact Iz hcf gl rh hop hr e K'
  |invoke r name=>exact IA hcf gl rh hop hr e K'
  |builtin b=>cases hb
end mem
section mem
variable{P:Program}{m:Mp}{H:ae}{w:World}
theorem Pj{cf:cz}{n:Nat}(hcf:xB P n cf){ops:Array Oper}{nt:Nat}(hall:all' (lI n nt) ops.toList=true)(hnd:all' (fun o=>aD (iI o.op)) ops.toList=true){Q:Exit→Act→World→Prop}:
 ∀(l:List Oper)(k:Nat)(m:Mp)(s s1:St)(a:Act)(w:World),ops.toList.drop k=l→s.nt=nt→RH m s.H w→FR m s a→Gl n m→dS P cf ops l s=some s1→
 (∀m' a' w',FR m' s1 a'→RH m' s1.H w'→Ex m m' s.H s1.H w w'→a'.defers=a.defers→s1.nt=nt→s1.df=s.df→Q .normal a' w')→
 wpOps P ops Q (List.range' k l.length) a w:=by
 intro l
 induction l with
 |nil=>
  intro k m s s1 a w _ hnt rh f gl h K
  cases h
  exact K m a w f rh (Ex.refl _ _ _) rfl hnt rfl
 |cons o l ih=>
  intro k m s s1 a w hl hnt rh f gl h K
  have hk:ops[k]?=some o:=by
   rw[←Array.getElem?_toList]
   have:=congrArg List.head? hl
   rw[List.head?_drop]at this
   exact this
  have hmem:o∈ops.toList:=List.mem_of_getElem? (by rw[Array.getElem?_toList];exact hk)
  have hdrop:ops.toList.drop (k +1)=l:=by
   rw[←List.tail_drop,hl];rfl
  rw[all_eq]at hall hnd
  have ho:=List.all_eq_true.1 hall o hmem
  have hd:=List.all_eq_true.1 hnd o hmem
  have hd:iI o.op=none:=by
   cases hc:iI o.op with
   |none=>rfl
   |some c=>rw[hc]at hd;cases hd
  replace h:(aj (aj (iw ops s o.guard) fun b=>av b (oW P cf o s) (some (bI s o.dst undef s.H))) fun s=>dS P cf ops l s)=some s1:=h
  obtain⟨s2,h1,h2⟩:=ai h
  obtain⟨b,hb,h3⟩:=ai h1
  have hw:=Wx f hb
  rw[List.length_cons,List.range'_succ]
  show wpOps P ops Q (k::List.range' (k +1) l.length) a w
  rw[wpOps_cons]
  unfold wpOp
  rw[hk]
  simp only[hw]
  cases b with
  |true=>
   replace h3:oW P cf o s=some s2:=h3
   simp only[if_true]
   left
   have abh:s2.nt=s.nt∧s2.df=s.df:=by
    unfold oW at h3
    rw[hd]at h3
    replace h3:vQ o s (m_ o.op P cf s)=some s2:=h3
    cases hr:m_ o.op P cf s with
    |fail=>rw[hr]at h3;cases h3
    |rT v=>rw[hr]at h3;replace h3:some (bI s o.dst v s.H)=some s2:=h3;cases h3;exact⟨nA _ _ _ _,uK _ _ _ _⟩
    |mem v H'=>rw[hr]at h3;replace h3:some (bI s o.dst v H')=some s2:=h3;cases h3;exact⟨nA _ _ _ _,uK _ _ _ _⟩
   refine Wy hcf rh f gl (by rw[hnt];exact ho) hd h3 ?_
   intro m' a' w' f' rh' ex' hdf
   refine ih (k +1) m' s2 s1 a' w' hdrop (by rw[abh.1,hnt]) rh' f' (gl.mono ex'.le) h2 ?_
   intro m2 a2 w2 f2 rh2 ex2 ZP hn2 hs2
   exact K m2 a2 w2 f2 rh2 (ex'.trans ex2) (by rw[ZP,hdf]) hn2 (by rw[hs2,abh.2])
  |false=>
   replace h3:some (bI s o.dst undef s.H)=some s2:=h3
   cases h3
   simp only[Bool.false_eq_true,if_false]
   unfold lI at ho
   simp only[Bool.and_eq_true]at ho
   have f':FR m (bI s o.dst undef s.H) (a.put o.dst undef):=f.put (by rw[hnt];exact ho.2) (.tuple [] [] .nil)
   refine ih (k +1) m _ s1 _ w hdrop (by rw[nA,hnt]) (by rw[dw];exact rh) f' gl h2 ?_
   intro m2 a2 w2 f2 rh2 ex2 ZP hn2 hs2
   rw[dw]at ex2
   rw[uK]at hs2
   exact K m2 a2 w2 f2 rh2 ex2 (by rw[ZP,put_defers]) hn2 hs2
end mem
section rules
variable{P:Program}{Q:Exit→Act→World→Prop}{a:Act}{w:World}
theorem least{p:Nat→Prop}(h:∃n,p n):∃n,p n∧∀k,k<n→¬p k:=by
 obtain⟨n,hn⟩:=h
 induction n using Nat.strongRecOn with
 |_ n ih=>
  by_cases hx:∃k,k<n∧p k
  ·obtain⟨k,h1,h2⟩:=hx
   exact ih k h1 h2
  ·exact⟨n,hn,fun k hk hp=>hx ⟨k,hk,hp⟩⟩
theorem Pk{c:Code}(R:Nat→Act→World→Prop)(h0:∀a w,¬R 0 a w)(hs:∀n a w,R (n +1) a w→c.wp P (Exit.then (R n) Q) a w){n:Nat}(h:R n a w):(Code.loop c).wp P Q a w:=by
 classical
 refine wp_loop (fun a w=>∃n,R n a w) (fun a w=>if h:∃n,R n a w then Classical.choose (least h)else 0) ⟨n,h⟩ ?_
 intro a w hI
 have hf:=Classical.choose_spec (least hI)
 have hd:(if h:∃n,R n a w then Classical.choose (least h)else 0)=Classical.choose (least hI):=dif_pos hI
 rw[hd]
 generalize Classical.choose (least hI)=k0 at hf
 cases k0 with
 |zero=>exact(h0 a w hf.1).elim
 |succ k=>
  refine wp_mono (hs k a w hf.1) ?_
  intro e a' w' he
  cases e with
  |normal=>
   have hI':∃n,R n a' w':=⟨k,he⟩
   refine⟨hI',?_⟩
   have hd':(if h:∃n,R n a' w' then Classical.choose (least h)else 0)=Classical.choose (least hI'):=dif_pos hI'
   rw[hd']
   have hf':=Classical.choose_spec (least hI')
   exact Nat.lt_succ_of_le (Nat.le_of_not_lt fun hlt=>hf'.2 k hlt he)
  |_=>exact he
def R9(J:Nat→Act→World→Prop)(Q:Exit→Act→World→Prop):Exit→Act→World→Prop
 |.goto l,a,w=>J l a w
 |e,a,w=>Q e a w
theorem KW{c:Code}(R:Nat→Nat→Act→World→Prop)
 (hs:∀n l a w,R n l a w→(∃n' rest,n=n' +1∧findLabel c l=some rest∧rest.wp P (R9 (R n') Q) a w)∨(findLabel c l=none∧Q (.goto l) a w))
 {n:Nat}(first:c.wp P (R9 (R n) Q) a w):(Code.scope c).wp P Q a w:=by
 intro b k cs
 have key:∀n l a w,R n l a w→∀m₀,(∀k',gotoIn l (.inScope c::k)=some k'→Steps P m₀ (lone (b.at a k') cs w))→∃e a' w',Q e a' w'∧Arrives P m₀ b k cs e a' w':=by
  intro n
  induction n with
  |zero=>
   intro l a w hR m₀ hm
   rcases hs 0 l a w hR with⟨n',rest,h1,_⟩|⟨h1,h2⟩
   ·cases h1
   ·exact⟨_,a,w,h2,fun k' hk=>hm k' (by simp[gotoIn,h1,hk])⟩
  |succ n ih=>
   intro l a w hR m₀ hm
   rcases hs (n +1) l a w hR with⟨n',rest,h1,h2,h3⟩|⟨h1,h2⟩
   ·cases h1
    obtain⟨e,a₁,w₁,hq,harr⟩:=h3 b (.inScope c::k) cs
    have hg:=hm (.code rest::.inScope c::k) (by simp[gotoIn,h2])
    cases e with
    |normal=>exact⟨.normal,a₁,w₁,hq,hg.trans (Steps.trans harr (.one step_inScope))⟩
    |exit id=>exact⟨.exit id,a₁,w₁,hq,fun k' hk=>hg.trans (harr k' (by simp[exitTo,hk]))⟩
    |goto l'=>exact ih l' a₁ w₁ hq m₀ fun k' hk=>hg.trans (harr k' hk)
    |ret=>exact⟨_,a₁,w₁,hq,.of_steps hg harr⟩
    |panic ch=>exact⟨_,a₁,w₁,hq,.of_steps hg harr⟩
    |outgrown=>exact⟨_,a₁,w₁,hq,.of_steps hg harr⟩
   ·exact⟨_,a,w,h2,fun k' hk=>hm k' (by simp[gotoIn,h1,hk])⟩
 obtain⟨e,a₁,w₁,hq,harr⟩:=first b (.inScope c::k) cs
 cases e with
 |normal=>exact⟨.normal,a₁,w₁,hq,.head step_scope (Steps.trans harr (.one step_inScope))⟩
 |exit id=>exact⟨.exit id,a₁,w₁,hq,fun k' hk=>.head step_scope (harr k' (by simp[exitTo,hk]))⟩
 |goto l'=>exact key n l' a₁ w₁ hq _ fun k' hk=>.head step_scope (harr k' hk)
 |ret=>exact⟨_,a₁,w₁,hq,.of_steps (.one step_scope) harr⟩
 |panic ch=>exact⟨_,a₁,w₁,hq,.of_steps (.one step_scope) harr⟩
 |outgrown=>exact⟨_,a₁,w₁,hq,.of_steps (.one step_scope) harr⟩
end rules
def codeOk(n nt:Nat):Code→Bool
 |.region _ ops _=>all' (lI n nt) ops.toList&&bX ops
 |.seq a b=>codeOk n nt a&&codeOk n nt b
 |.cond c a b=>vX n c&&(codeOk n nt a&&codeOk n nt b)
 |.block _ c=>codeOk n nt c
 |.loop c=>codeOk n nt c
 |.scope c=>codeOk n nt c
 |_=>true
theorem qL{n nt:Nat}:∀{c:Code}{l:Nat}{rest:Code},codeOk n nt c=true→findLabel c l=some rest→codeOk n nt rest=true
 |.seq a b,l,rest,hc,h=>by
  simp only[codeOk,Bool.and_eq_true]at hc
  simp only[findLabel]at h
  cases ha:findLabel a l with
  |some r=>
   rw[ha]at h
   replace h:some (Code.seq r b)=some rest:=h
   cases h
   simp only[codeOk,Bool.and_eq_true]
   exact⟨qL hc.1 ha,hc.2⟩
  |none=>
   rw[ha]at h
   exact qL hc.2 h
 |.label l',l,rest,_,h=>by
  simp only[findLabel]at h
  split at h
  ·cases h;rfl
  ·cases h
 |.skip,_,_,_,h=>by simp[findLabel]at h
 |.region ..,_,_,_,h=>by simp[findLabel]at h
 |.cond ..,_,_,_,h=>by simp[findLabel]at h
 |.block ..,_,_,_,h=>by simp[findLabel]at h
 |.loop _,_,_,_,h=>by simp[findLabel]at h
 |.rangeFunc ..,_,_,_,h=>by simp[findLabel]at h
 |.exit _,_,_,_,h=>by simp[findLabel]at h
 |.scope _,_,_,_,h=>by simp[findLabel]at h
 |.goto _,_,_,_,h=>by simp[findLabel]at h
 |.ret,_,_,_,h=>by simp[findLabel]at h
 |.refuse _,_,_,_,h=>by simp[findLabel]at h
structure At(m0:Mp)(H0:ae)(w0:World)(d0:List Deferred)(nt:Nat)(df:List Deferred)(s1:St)(a:Act)(w:World)(m:Mp):Prop where
 fr:FR m s1 a
 rh:RH m s1.H w
 ex:Ex m0 m H0 s1.H w0 w
 de:a.defers=d0
 nt:s1.nt=nt
 df:s1.df=df
def To(m0:Mp)(H0:ae)(w0:World)(d0:List Deferred)(nt:Nat)(df:List Deferred)(s1:St)(q:Act→World→Prop):Prop:=
 ∀m a w,At m0 H0 w0 d0 nt df s1 a w m→q a w
def Post(m0:Mp)(H0:ae)(w0:World)(d0:List Deferred)(nt:Nat)(df:List Deferred)(Q:Exit→Act→World→Prop):Out→Prop
 |.fail=>False
 |.norm s=>To m0 H0 w0 d0 nt df s (Q .normal)
 |.exit i s=>To m0 H0 w0 d0 nt df s (Q (.exit i))
 |.goto l s=>To m0 H0 w0 d0 nt df s (Q (.goto l))
 |.ret s=>To m0 H0 w0 d0 nt df s (Q .ret)
theorem At.trans{m0 m1 m:Mp}{H0:ae}{w0 w1 w:World}{d0:List Deferred}{nt:Nat}{df:List Deferred}{s1 s2:St}{a1 a:Act}
 (h1:At m0 H0 w0 d0 nt df s1 a1 w1 m1)(h2:At m1 s1.H w1 a1.defers s1.nt s1.df s2 a w m):At m0 H0 w0 d0 nt df s2 a w m:=
 ⟨h2.fr,h2.rh,h1.ex.trans h2.ex,by rw[h2.de,h1.de],by rw[h2.nt,h1.nt],by rw[h2.df,h1.df]⟩
theorem Post.from'{m0 m1:Mp}{H0:ae}{w0 w1:World}{d0:List Deferred}{nt:Nat}{df:List Deferred}{s1:St}{a1:Act}{Q:Exit→Act→World→Prop}
 (h1:At m0 H0 w0 d0 nt df s1 a1 w1 m1){o:Out}(h:Post m0 H0 w0 d0 nt df Q o):Post m1 s1.H w1 a1.defers nt s1.df Q o:=by
 have e:=h1.nt
 cases o with
 |fail=>exact h
 |_=>exact fun m a w h2=>h m a w (h1.trans (by rw[e];exact h2))
theorem Post.from{m0 m1:Mp}{H0:ae}{w0 w1:World}{d0:List Deferred}{nt:Nat}{df:List Deferred}{s1:St}{a1:Act}{Q:Exit→Act→World→Prop}
 (h1:At m0 H0 w0 d0 nt df s1 a1 w1 m1){o:Out}(h:Post m0 H0 w0 d0 nt df Q o):Post m1 s1.H w1 a1.defers s1.nt s1.df Q o:=by
 cases o with
 |fail=>exact h
 |_=>exact fun m a w h2=>h m a w (h1.trans h2)
def FY(P:Program)(cf:cz)(n nt:Nat):Prop:=∀(id:Nat)(ops:Array Oper)(s:St)(m:Mp)(a:Act)(w:World)(Q:Exit→Act→World→Prop),
 all' (lI n nt) ops.toList=true→bX ops=true→s.nt=nt→RH m s.H w→FR m s a→Gl n m→
 Post m s.H w a.defers nt s.df Q (region P cf ops true s)→(Code.region id ops true).wp P Q a w
def FZ(P:Program)(ex:Code→St→Out)(n nt:Nat):Prop:=∀(c:Code)(s:St)(m:Mp)(a:Act)(w:World)(Q:Exit→Act→World→Prop),
 codeOk n nt c=true→s.nt=nt→RH m s.H w→FR m s a→Gl n m→
 Post m s.H w a.defers nt s.df Q (ex c s)→c.wp P Q a w
theorem FR.clear{m:Mp}{s:St}{a:Act}(h:FR m s a):FR m (clear s) a:=by
 refine⟨h.size,fun t=>?_⟩
 have ht:=h.slot t
 unfold aY at ht⊢
 show VR m (av (aV s.nl t) (s.tm.get top t) (look [] t)) _
 cases hb:aV s.nl t with
 |true=>rw[hb]at ht;exact ht
 |false=>exact .top _
section mem
variable{P:Program}
theorem Ng{cf:cz}{n nt:Nat}(hcf:xB P n cf){cx:Code→St→Out}(hcx:FZ P cx n nt)(hdr:FY P cf n nt)(k:Nat):FZ P (exec P cf cx k) n nt:=by
 intro c
 induction c with
 |skip=>intro s m a w Q _ hnt rh f _ h;exact wp_skip (h m a w ⟨f,rh,Ex.refl _ _ _,rfl,hnt,rfl⟩)
 |label l=>intro s m a w Q _ hnt rh f _ h;exact wp_label (h m a w ⟨f,rh,Ex.refl _ _ _,rfl,hnt,rfl⟩)
 |exit id=>intro s m a w Q _ hnt rh f _ h;exact wp_exit (h m a w ⟨f,rh,Ex.refl _ _ _,rfl,hnt,rfl⟩)
 |goto l=>intro s m a w Q _ hnt rh f _ h;exact wp_goto (h m a w ⟨f,rh,Ex.refl _ _ _,rfl,hnt,rfl⟩)
 |ret=>intro s m a w Q _ hnt rh f _ h;exact wp_ret (h m a w ⟨f,rh,Ex.refl _ _ _,rfl,hnt,rfl⟩)
 |refuse=>intro s m a w Q _ _ _ _ _ h;exact h.elim
 |rangeFunc=>intro s m a w Q _ _ _ _ _ h;exact h.elim
 |region id ops draw=>
  intro s m a w Q hc hnt rh f gl h
  simp only[codeOk,Bool.and_eq_true]at hc
  cases draw with
  |true=>exact hdr id ops s m a w Q hc.1 hc.2 hnt rh f gl h
  |false=>
   replace h:Post m s.H w a.defers nt s.df Q (zH (dS P cf ops ops.toList (clear s))):=h
   cases hr:dS P cf ops ops.toList (clear s)with
   |none=>rw[hr]at h;exact h.elim
   |some s1=>
    rw[hr]at h
    replace h:To m s.H w a.defers nt s.df s1 (Q .normal):=h
    have hpl:all' (fun o=>aD (iI o.op)) ops.toList=true:=by
     have:=hc.2
     unfold bX at this
     rw[all_eq]at this⊢
     rw[List.all_eq_true]at this⊢
     intro o ho
     have:=this o ho
     simp only[Bool.and_eq_true]at this
     exact this.1
    have hw:wpOps P ops Q (List.range' 0 ops.toList.length) a w:=by
     refine Pj (P:=P) hcf (n:=n) (nt:=nt) hc.1 hpl ops.toList 0 m (clear s) s1 a w (by simp) hnt rh f.clear gl hr ?_
     intro m' a' w' f' rh' ex' hd' hn' hs'
     exact h m' a' w' ⟨f',rh',ex',hd',hn',hs'⟩
    refine wp_region ?_
    rw[List.range_eq_range']
    exact hw
 |seq x y ihx ihy=>
  intro s m a w Q hc hnt rh f gl h
  simp only[codeOk,Bool.and_eq_true]at hc
  replace h:Post m s.H w a.defers nt s.df Q (andThen (exec P cf cx k x s) (exec P cf cx k y)):=h
  refine wp_seq (ihx s m a w _ hc.1 hnt rh f gl ?_)
  cases hx:exec P cf cx k x s with
  |fail=>rw[hx]at h;exact h
  |norm s1=>
   rw[hx]at h
   intro m1 a1 w1 h1
   have:=h.from h1
   rw[h1.nt]at this
   exact ihy s1 m1 a1 w1 Q hc.2 h1.nt h1.rh h1.fr (gl.mono h1.ex.le) this
  |exit i s1=>rw[hx]at h;exact h
  |goto l s1=>rw[hx]at h;exact h
  |ret s1=>rw[hx]at h;exact h
 |cond c x y ihx ihy=>
  intro s m a w Q hc hnt rh f gl h
  simp only[codeOk,Bool.and_eq_true]at hc
  replace h:Post m s.H w a.defers nt s.df Q (zG (bK (ev s c)) (exec P cf cx k x s) (exec P cf cx k y s)):=h
  cases hb:bK (ev s c)with
  |none=>rw[hb]at h;exact h.elim
  |some b=>
   rw[hb]at h
   have hL:all' (vX n) [c]=true:=by rw[all_eq];simp[hc.1]
   have he:=(f.ev gl hL).all c (by simp)
   rw[gB hb]at he
   have he:=he.of_bool
   cases b with
   |true=>exact wp_cond_true he (ihx s m a w Q hc.2.1 hnt rh f gl h)
   |false=>exact wp_cond_false he (ihy s m a w Q hc.2.2 hnt rh f gl h)
 |block id c ih=>
  intro s m a w Q hc hnt rh f gl h
  replace h:Post m s.H w a.defers nt s.df Q (lz id (exec P cf cx k c s)):=h
  refine wp_block (ih s m a w _ hc hnt rh f gl ?_)
  cases hx:exec P cf cx k c s with
  |fail=>rw[hx]at h;exact h
  |norm s1=>rw[hx]at h;exact h
  |exit i s1=>
   rw[hx]at h
   replace h:Post m s.H w a.defers nt s.df Q (av (Nat.beq i id) (.norm s1) (.exit i s1)):=h
   intro m1 a1 w1 h1
   by_cases e:i=id
   ·subst e
    rw[show Nat.beq i i=true from Nat.beq_refl i]at h
    simp only[Exit.inBlock,if_true]
    exact h m1 a1 w1 h1
   ·rw[show Nat.beq i id=false from by rw[←Bool.not_eq_true];exact fun g=>e (Nat.eq_of_beq_eq_true g)]at h
    simp only[Exit.inBlock,e,if_false]
    exact h m1 a1 w1 h1
  |goto l s1=>rw[hx]at h;exact h
  |ret s1=>rw[hx]at h;exact h
 |loop c ih=>
  intro s m a w Q hc hnt rh f gl h
  replace h:Post m s.H w a.defers nt s.df Q (mh k (exec P cf cx k c) s):=h
  have key:∀j,Post m s.H w a.defers nt s.df Q (mh j (exec P cf cx k c) s)→(Code.loop c).wp P Q a w:=by
   intro j hj
   refine Pk (fun j a1 w1=>∃m1 s1,At m s.H w a.defers nt s.df s1 a1 w1 m1∧Post m s.H w a.defers nt s.df Q (mh j (exec P cf cx k c) s1)) ?_ ?_ (n:=j)
    ⟨m,s,⟨f,rh,Ex.refl _ _ _,rfl,hnt,rfl⟩,hj⟩
   ·rintro a1 w1 ⟨m1,s1,_,h0⟩
    exact h0
   ·rintro j a1 w1 ⟨m1,s1,h1,h0⟩
    replace h0:Post m s.H w a.defers nt s.df Q (andThen (exec P cf cx k c s1) (mh j (exec P cf cx k c))):=h0
    refine ih s1 m1 a1 w1 _ hc h1.nt h1.rh h1.fr (gl.mono h1.ex.le) ?_
    cases hx:exec P cf cx k c s1 with
    |fail=>rw[hx]at h0;exact h0
    |norm s2=>
     rw[hx]at h0
     intro m2 a2 w2 h2
     exact⟨m2,s2,h1.trans (by rw[h1.nt];exact h2),h0⟩
    |exit i s2=>rw[hx]at h0;exact h0.from' h1
    |goto l s2=>rw[hx]at h0;exact h0.from' h1
    |ret s2=>rw[hx]at h0;exact h0.from' h1
  exact key k h
 |scope c ih=>
  intro s m a w Q hc hnt rh f gl h
  replace h:Post m s.H w a.defers nt s.df Q (eZ cx k c (exec P cf cx k c s)):=h
  have hc':codeOk n nt c=true:=hc
  have pass:∀j(o:Out),Post m s.H w a.defers nt s.df Q (eZ cx j c o)→
   Post m s.H w a.defers nt s.df (R9 (fun l a1 w1=>∃m1 s1,At m s.H w a.defers nt s.df s1 a1 w1 m1∧Post m s.H w a.defers nt s.df Q (eZ cx j c (.goto l s1))) Q) o:=by
   intro j o ho
   cases j with
   |zero=>exact ho.elim
   |succ j=>
    cases o with
    |fail=>exact ho
    |norm s1=>exact ho
    |exit i s1=>exact ho
    |ret s1=>exact ho
    |goto l s1=>
     intro m1 a1 w1 h1
     exact⟨m1,s1,h1,ho⟩
  refine KW (n:=k) (fun j l a1 w1=>∃m1 s1,At m s.H w a.defers nt s.df s1 a1 w1 m1∧Post m s.H w a.defers nt s.df Q (eZ cx j c (.goto l s1))) ?_ (ih s m a w _ hc hnt rh f gl (pass k _ h))
  rintro j l a1 w1 ⟨m1,s1,h1,h0⟩
  cases j with
  |zero=>exact h0.elim
  |succ j=>
   replace h0:Post m s.H w a.defers nt s.df Q (@Option.rec Code (fun _=>Out) (.goto l s1) (fun rest=>eZ cx j c (cx rest s1)) (findLabel c l)):=h0
   cases hf:findLabel c l with
   |none=>
    rw[hf]at h0
    exact .inr ⟨rfl,h0 m1 a1 w1 h1⟩
   |some rest=>
    rw[hf]at h0
    refine .inl ⟨j,rest,rfl,rfl,?_⟩
    have:=(pass j _ h0).from h1
    rw[h1.nt]at this
    exact hcx rest s1 m1 a1 w1 _ (qL hc' hf) h1.nt h1.rh h1.fr (gl.mono h1.ex.le) this
end mem
def nC(n nt:Nat)(c:Code):Bool:=
 @Code.rec (fun _=>Bool) true (fun _ ops _=>all' (lI n nt) ops.toList&&bX ops) (fun _ _ a b=>a&&b) (fun c _ _ a b=>vX n c&&(a&&b)) (fun _ _ a=>a) (fun _ a=>a)
  (fun _ _ _ _ _ _=>true) (fun _=>true) (fun _ a=>a) (fun _=>true) (fun _=>true) true (fun _=>true) c
theorem KX{n nt:Nat}(c:Code)(h:nC n nt c=true):codeOk n nt c=true:=by
 have:nC n nt c=codeOk n nt c:=by
  clear h
  induction c with
  |seq a b iha ihb=>show(nC n nt a&&nC n nt b)=_;rw[iha,ihb];rfl
  |cond c a b iha ihb=>show(vX n c&&(nC n nt a&&nC n nt b))=_;rw[iha,ihb];rfl
  |block id a ih=>exact ih
  |loop a ih=>exact ih
  |scope a ih=>exact ih
  |_=>rfl
 rw[←this];exact h
def R_(n:Nat)(fn:Func):Bool:=@Option.rec Code (fun _=>Bool) true (fun c=>nC n fn.ntmps c&&!(fn.name== "runtime.NumGoroutine")) fn.body
def pW(P:Program)(n:Nat):Prop:=∀(g:FuncId)(fn:Func),P.funcs[g]?=some fn→R_ n fn=true
def QM(P:Program)(X:Xt):Prop:=∀(g:FuncId)(fn:Func)(args:List Value)(v:Value)(H H':ae),P.funcs[g]?=some fn→fn.body=none→OE P (X g) fn.resultTypes.toList args H=some (v,H')→
 ∀m w args',RH m H w→dF m args args'→∃m' v' w',(callFunc g ⟨args'⟩).run P w=.ok (.value v') w'∧VR m' v v'∧RH m' H' w'∧Ex m m' H H' w w'
def F3(P:Program)(n:Nat)(cf:cz):Prop:=∀g args v H H' fn,cf g args H=some (v,H')→P.funcs[g]?=some fn→fn.body.isSome=true→∀m w args',RH m H w→Gl n m→dF m args args'→
 Calls P g ⟨args'⟩ w fun e w'=>∃m' v',e=.returned v'∧VR m' v v'∧RH m' H' w'∧Ex m m' H H' w w'
def yX(P:Program)(X:Xt)(n:Nat):Prop:=∀(g:FuncId)(args:List Value)(v:Value)(H H':ae),X.o g args H=some (v,H')→(∃fn,P.funcs[g]?=some fn∧fn.body.isSome=true)∧∀m w args',RH m H w→Gl n m→dF m args args'→
 Calls P g ⟨args'⟩ w fun e w'=>∃m' v',e=.returned v'∧VR m' v v'∧RH m' H' w'∧Ex m m' H H' w w'
theorem yX.none{P:Program}{X:Xt}{n:Nat}(h:∀g a H,X.o g a H=none):yX P X n:=fun g a v H H' e=>by rw[h]at e;cases e
theorem mq{P:Program}{X:Xt}{L:Lv}{k:Nat}{g:FuncId}{args:List Value}{H:ae}(h:X.o g args H=none):qG P X L k g args H=aj (nth P.funcs.toList g) fun fn=>OH P L k g (X g) fn args H:=by
 show orO (X.o g args H) _=_
 rw[h];rfl
theorem sK{P:Program}{X:Xt}{L:Lv}{k:Nat}{g:FuncId}{args:List Value}{H:ae}{r:Value×ae}(h:X.o g args H=some r):qG P X L k g args H=some r:=by
 show orO (X.o g args H) _=_
 rw[h];rfl
section mem
variable{P:Program}
theorem KY{m:Mp}{w:World}{s:St}{a:Act}(rh:RH m s.H w)(f:FR m s a){fn:Func}{vs:List Value}(h:dn P s fn.results.toList=some vs):
 ∃v',VR m (je vs) v'∧(results fn a.tmps).run P w=.ok v' w:=by
 have key:∀(l:List ResultVar)(vs:List Value),dn P s l=some vs→∃vs',dF m vs vs'∧
  Sem.run P (l.mapM fun|ResultVar.tmp t=>(pure (a.tmps.getD t undef):Sem Value)|ResultVar.cell b t=>do loadVar t (←asAddr (a.tmps.getD b undef))) w=Result.ok vs' w:=by
  intro l
  induction l with
  |nil=>intro vs h;cases h;exact⟨[],.nil,by simp⟩
  |cons r l ih=>
   intro vs h
   replace h:(aj (uB P s r) fun v=>aj (dn P s l) fun vs=>some (v::vs))=some vs:=h
   (replace h:=ai h;obtain⟨v,hv,h⟩:=h)
   (replace h:=ai h;obtain⟨vs1,hvs,h⟩:=h)
   cases h
   obtain⟨vs',h1,h2⟩:=ih vs1 hvs
   cases r with
   |tmp t=>
    replace hv:some (aY s t)=some v:=hv
    cases hv
    refine⟨_::vs',.cons _ _ _ _ (f.slot t) h1,?_⟩
    simp only[List.mapM_cons,Sem.run_bind,Sem.run_pure,Result.andThen_ok,h2]
   |cell b t=>
    replace hv:(aj (kz P t (aY s b) s.H) fun p=>some p.1)=some v:=hv
    obtain⟨p,hp,hv⟩:=ai hv
    cases hv
    have hb:=f.slot b
    obtain⟨hH,v',h3,h4⟩:=M_ (P:=P) rh (show kz P t (aY s b) s.H=some (p.1,p.2)from hp) hb
    refine⟨v'::vs',.cons _ _ _ _ h3 h1,?_⟩
    have h5:∃a',a.tmps.getD b undef=.pointer (some a'):=by
     have h:=hp
     (replace h:=ai h;obtain⟨a0,ha0,h⟩:=h)
     rw[fI ha0]at hb
     obtain⟨l,_,_,_,h⟩:=hb.jf
     exact⟨_,h⟩
    obtain⟨a',ha'⟩:=h5
    rw[ha']at h4
    simp only[Instr.loadAt,Instr.sureAddr,Sem.run_bind,Sem.run_pure,Result.andThen_ok]at h4
    have has:asAddr (.pointer (some a'))=pure a':=rfl
    simp only[List.mapM_cons,ha',has,Sem.run_bind,Sem.run_pure,Result.andThen_ok,h4,h2]
 obtain⟨vs',h1,h2⟩:=key _ _ h
 have hlen:=h1.length
 refine⟨if h:vs'.toArray.size=1 then vs'.toArray[0]else .tuple vs'.toArray,?_,?_⟩
 ·unfold je
  cases vs with
  |nil=>cases h1;exact .tuple [] [] .nil
  |cons v vs=>
   cases h1 with
   |cons _ v' _ x' hv hx=>
    cases vs with
    |nil=>cases hx;exact hv
    |cons u vs=>
     have:(v'::x').toArray.size≠1:=by simp at hlen⊢;intro h;rw[h]at hlen;simp at hlen
     rw[dif_neg this]
     exact .tuple _ _ (.cons _ _ _ _ hv hx)
 ·show Sem.run P (do
   let vs←fn.results.mapM (fun|ResultVar.tmp t=>(pure (a.tmps.getD t undef):Sem Value)|ResultVar.cell b t=>do loadVar t (←asAddr (a.tmps.getD b undef)))
   pure (if h:vs.size=1 then vs[0]else .tuple vs)) w=_
  simp only[Sem.run_bind,Array.mapM_eq_mapM_toList,Sem.run_map,h2,Result.andThen_ok,Sem.run_pure]
theorem ZQ{m:Mp}{args args':List Value}(h:dF m args args')(nl nt:Nat)(hle:args.length≤nt)(H:ae):
 FR m ⟨nl,nt,[],Tr.jG top args 0 .nil,[],H⟩ {tmps:=(⟨args'⟩:Array Value)++Array.replicate (nt -(⟨args'⟩:Array Value).size) undef,defers:=[]}:=by
 have hl:=h.length
 refine⟨by simp;omega,fun t=>?_⟩
 show VR m (av (aV nl t) ((Tr.jG top args 0 .nil).get top t) (look [] t)) _
 cases aV nl t with
 |false=>exact .top _
 |true=>
  show VR m ((Tr.jG top args 0 .nil).get top t) _
  rw[Tr.dW]
  by_cases ht:t<args.length
  ·rw[if_pos aa]
   have hg:args[t]?=some (args.getD t top):=by rw[List.getD_eq_getElem?_getD,List.getElem?_eq_getElem ht];rfl
   obtain⟨v',h1,h2⟩:=h.get t hg
   have:((⟨args'⟩:Array Value)++Array.replicate (nt -(⟨args'⟩:Array Value).size) undef).getD t undef=v':=by
    rw[Array.getD_eq_getD_getElem?,Array.getElem?_append_left (by simp;omega)]
    simp[h1]
   rw[this]
   exact h2
  ·rw[if_neg aa,Tr.get_nil]
   exact .top _
theorem Pm{m:Mp}{H:ae}{w:World}{nt:Nat}{s:St}{o:Out}{fn:Func}{R:Ending→World→Prop}(h:Fz o=some s)(K:∀a' w' m',At m H w [] nt [] s a' w' m'→a'.defers=[]∧∃v,(results fn a'.tmps).run P w'=.ok v w'∧R (.returned v) w'):
 Post m H w [] nt [] (bodyPost P fn R) o:=by
 cases o with
 |fail=>cases h
 |norm s1=>cases h;intro m' a' w' ha;exact K a' w' m' ha
 |exit=>cases h
 |goto=>cases h
 |ret s1=>cases h;intro m' a' w' ha;exact K a' w' m' ha
theorem Po{X:Xt}{n:Nat}{L:Lv}(hP:pW P n)(hO:yX P X n)(hcf:xB P n L.ca)(hcx:∀nt,FZ P L.cx n nt)(hdr:∀nt,FY P L.ca n nt)(k:Nat):
 F3 P n (qG P X L k):=by
 intro g args v H H' fn h hg hb m w args' rh gl hv
 cases hor:X.o g args H with
 |some r=>
  rw[sK hor]at h
  cases h
  exact(hO g args v H H' hor).2 m w args' rh gl hv
 |none=>
 rw[mq hor]at h
 (replace h:=ai h;obtain⟨fn',hfn,h⟩:=h)
 rw[fH,Array.getElem?_toList,hg]at hfn
 cases hfn
 have hok:=hP g fn hg
 cases hbody:fn.body with
 |none=>rw[hbody]at hb;cases hb
 |some c=>
  replace h:(@Option.rec Code (fun _=>Option (Value×ae)) (OE P (X g) fn.resultTypes.toList args H)
   (fun c=>gd (Nat.ble (len args) fn.ntmps) (aj (Fz (exec P L.ca L.cx k c ⟨bP P g,fn.ntmps,[],Tr.jG top args 0 .nil,[],H⟩)) fun s=>zI P fn s)) fn.body)=some (v,H'):=h
  unfold R_ at hok
  rw[hbody]at h hok
  replace h:(gd (Nat.ble (len args) fn.ntmps) (aj (Fz (exec P L.ca L.cx k c ⟨bP P g,fn.ntmps,[],Tr.jG top args 0 .nil,[],H⟩)) fun s=>zI P fn s))=some (v,H'):=h
  replace hok:(nC n fn.ntmps c&&!(fn.name== "runtime.NumGoroutine"))=true:=hok
  rw[Bool.and_eq_true]at hok
  (replace h:=aG h;obtain⟨hle,h⟩:=h)
  have hle:=Nat.le_of_ble_eq_true hle
  rw[aM]at hle
  (replace h:=ai h;obtain⟨s,hs,h⟩:=h)
  (replace h:=aG h;obtain⟨hdf,h⟩:=h)
  (replace h:=ai h;obtain⟨vs,hvs,h⟩:=h)
  cases h
  refine calls_of_wp hg hbody ?_
  refine Ng hcf (hcx fn.ntmps) (hdr fn.ntmps) k c ⟨bP P g,fn.ntmps,[],Tr.jG top args 0 .nil,[],H⟩ m _ w _ (KX c hok.1) rfl rh (ZQ hv (bP P g) fn.ntmps hle H) gl ?_
  refine Pm hs ?_
  intro a' w' m' ha
  obtain⟨v',h1,h2⟩:=KY ha.rh ha.fr hvs
  exact⟨ha.de,v',h2,m',v',rfl,h1,ha.rh,ha.ex⟩
theorem Wz{X:Xt}{n:Nat}{L:Lv}{k:Nat}(hP:pW P n)(hX:QM P X)(hO:yX P X n)(hc:F3 P n (qG P X L k)):xB P n (qG P X L k):=by
 intro g args v H H' h m w args' rh gl hv o a next Q K
 have h0:=h
 have ads:∃fn,P.funcs[g]?=some fn∧(fn.body=none→X.o g args H=none):=by
  cases hor:X.o g args H with
  |some r=>
   obtain⟨⟨fn,h1,h2⟩,_⟩:=hO g args r.1 H r.2 hor
   exact⟨fn,h1,fun h3=>by rw[h3]at h2;cases h2⟩
  |none=>
   rw[mq hor]at h
   obtain⟨fn,h1,_⟩:=ai h
   rw[fH,Array.getElem?_toList]at h1
   exact⟨fn,h1,fun _=>rfl⟩
 obtain⟨fn,hfn,hno⟩:=ads
 cases hbody:fn.body with
 |some c=>
  have hok:=hP g fn hfn
  unfold R_ at hok
  rw[hbody]at hok
  replace hok:(nC n fn.ntmps c&&!(fn.name== "runtime.NumGoroutine"))=true:=hok
  rw[Bool.and_eq_true]at hok
  have hn:fn.name≠ "runtime.NumGoroutine" :=by simpa using hok.2
  have hr:(callFunc g ⟨args'⟩).run P w=.ok (.enter g ⟨args'⟩) w:=by
   simp[callFunc,hfn,hn,hbody]
  rw[hr,Oper.upon_enter]
  refine(hc g args v H H' fn h0 hfn (by rw[hbody];rfl) m w args' rh gl hv).mono ?_
  rintro e w' ⟨m',v',rfl,h1,h2,h3⟩
  exact K m' v' w' h1 h2 h3
 |none=>
  rw[mq (hno hbody),fH,Array.getElem?_toList,hfn]at h
  replace h:(@Option.rec Code (fun _=>Option (Value×ae)) (OE P (X g) fn.resultTypes.toList args H)
   (fun c=>gd (Nat.ble (len args) fn.ntmps) (aj (Fz (exec P L.ca L.cx k c ⟨bP P g,fn.ntmps,[],Tr.jG top args 0 .nil,[],H⟩)) fun s=>zI P fn s)) fn.body)=some (v,H'):=h
  rw[hbody]at h
  obtain⟨m',v',w',h1,h2,h3,h4⟩:=hX g fn args v H H' hfn hbody h m w args' rh hv
  rw[h1,Oper.upon_value]
  exact K m' v' w' h2 h3 h4
theorem Sa{X:Xt}{n:Nat}(hP:pW P n)(hX:QM P X)(hO:yX P X n)(hdr:∀cf,xB P n cf→∀nt,FY P cf n nt):
 ∀k,xB P n (lv P X k).ca∧(∀nt,FZ P (lv P X k).cx n nt)∧F3 P n (lv P X k).ca:=by
 intro k
 induction k with
 |zero=>
  refine⟨?_,?_,?_⟩
  ·intro g args v H H' h;cases h
  ·intro nt c s m a w Q _ _ _ _ _ h;exact h.elim
  ·intro g args v H H' fn h;cases h
 |succ k ih=>
  have hc:=Po (X:=X) hP hO ih.1 ih.2.1 (hdr _ ih.1) k
  exact⟨Wz hP hX hO hc,fun nt=>Ng ih.1 (ih.2.1 nt) (hdr _ ih.1 nt) k,hc⟩
end mem
def Mp.upto(m:Mp)(b:Nat):Mp:=fun r=>if r<b then m r else none
theorem Mp.Nh(m:Mp)(b:Nat):Mp.le (m.upto b) m:=by
 intro r l h
 unfold Mp.upto at h
 split at h
 ·exact h
 ·cases h
theorem Mp.lJ{m m':Mp}{b b':Nat}(hm:Mp.le m m')(hb:b≤b'):Mp.le (m.upto b) (m'.upto b'):=by
 intro r l h
 unfold Mp.upto at h⊢
 split at h
 ·next h1=>rw[if_pos aa];exact hm r l h
 ·cases h
theorem Mp.fT{m:Mp}{b r:Nat}{l:Loc}(h:m.upto b r=some l):r<b∧m r=some l:=by
 unfold Mp.upto at h
 split at h
 ·next h1=>exact⟨h1,h⟩
 ·cases h
theorem Mp.xC{m:Mp}{b r:Nat}{l:Loc}(h:m r=some l)(hr:r<b):m.upto b r=some l:=by
 unfold Mp.upto;rw[if_pos hr];exact h
theorem xD{es:Nat}(h:aX (aK es)=true):False:=by
 have:=Nat.le_of_ble_eq_true h
 unfold aK at this
 have e:Nat.add 18446744073709551616 es=18446744073709551616 +es:=rfl
 omega
mutual
theorem VR.restrict{m1 m2:Mp}(hm:Mp.le m1 m2):∀{x v v':Value},VR m2 x v'→VR m1 x v→VR m1 x v'
 |_,_,_,.sc v h,_=>.sc v h
 |_,_,_,.top v,_=>.top v
 |_,_,_,.ptr r off l h hl,g=>by
  obtain⟨l1,h1,h2,_,_⟩:=g.jf
  have:=hm _ _ h1
  simp only at this h1
  rw[h]at this;cases this
  exact .ptr r off l h1 hl
 |_,_,_,.slice r off n cp l h hl hk hn,g=>by
  cases g with
  |sc _ hs=>simp[Ae.eU,aD]at hs
  |slice _ _ _ _ l1 h1 _ _ _=>
   have:=hm _ _ h1
   rw[h]at this;cases this
   exact .slice r off n cp l h1 hl hk hn
  |jr=>exact(xD hk).elim
  |lC=>exact .lC _ _
  |jC=>exact(xD hk).elim
 |_,_,_,.jr r off n es cc l h hl he ht hc hN,g=>by
  generalize Be:aK es=cu at g
  cases g with
  |sc _ hs=>simp[Ae.eU,aD]at hs
  |slice _ _ _ _ l1 h1 _ hk _=>subst Be;exact(xD hk).elim
  |jr _ _ _ es1 _ l1 h1 _ _ _ _ _=>
   have:=hm _ _ h1
   rw[h]at this;cases this
   rw[←Be]
   exact .jr r off n es cc l h1 hl he ht hc hN
  |lC=>unfold aK at Be;have e:Nat.add 18446744073709551616 es=18446744073709551616 +es:=rfl;omega
  |jC _ _ es1 _ l1 h1 _ _ _=>
   have:=hm _ _ h1
   rw[h]at this;cases this
   rw[←Be]
   exact .jr r off _ es cc l h1 hl he ht hc hN
 |_,_,_,.lC a a',_=>.lC a a'
 |_,_,_,.jC r off es a' l h hl he hN,g=>by
  generalize Be:aK es=cu at g
  cases g with
  |sc _ hs=>simp[Ae.eU,aD]at hs
  |slice _ _ _ _ l1 h1 _ hk _=>subst Be;exact(xD hk).elim
  |jr _ _ _ es1 _ l1 h1 _ _ _ _ _=>
   have:=hm _ _ h1
   rw[h]at this;cases this
   rw[←Be]
   exact .jC r off es a' l h1 hl he hN
  |lC=>unfold aK at Be;have e:Nat.add 18446744073709551616 es=18446744073709551616 +es:=rfl;omega
  |jC _ _ es1 _ l1 h1 _ _ _=>
   have:=hm _ _ h1
   rw[h]at this;cases this
   rw[←Be]
   exact .jC r off es a' l h1 hl he hN
 |_,_,_,.map r l h,g=>by
  obtain⟨l1,h1,_⟩:=g.of_map
  have:=hm _ _ h1
  rw[h]at this;cases this
  exact .map r l h1
 |_,_,_,.func f x y x' y' hx hy,g=>by
  obtain⟨_,_,rfl,h1,h2⟩:=g.Rm
  exact .func f x y x' y' (dF.restrict hm hx h1) (dF.restrict hm hy h2)
 |_,_,_,.iface t v v' h,g=>by
  obtain⟨_,rfl,h1⟩:=g.Ie
  exact .iface t v v' (VR.restrict hm h h1)
 |_,_,_,.agg x x' h,g=>by
  obtain⟨_,rfl,h1⟩:=g.lF
  exact .agg x x' (dF.restrict hm h h1)
 |_,_,_,.tuple x x' h,g=>by
  obtain⟨_,rfl,h1⟩:=g.FE
  exact .tuple x x' (dF.restrict hm h h1)
theorem dF.restrict{m1 m2:Mp}(hm:Mp.le m1 m2):∀{x v v':List Value},dF m2 x v'→dF m1 x v→dF m1 x v'
 |_,_,_,.nil,_=>.nil
 |_,_,_,.cons v v' x x' h hx,g=>by
  cases g with
  |cons _ _ _ _ g1 g2=>exact .cons v v' x x' (VR.restrict hm h g1) (dF.restrict hm hx g2)
end
theorem uT.restrict{m1 m2:Mp}(hm:Mp.le m1 m2){x:List (Value×Value)}{v v':List MapEntry}(h:uT m2 x v')(g:uT m1 x v):uT m1 x v':=by
 induction h generalizing v with
 |nil=>exact .nil
 |cons k x e l l' hk hv _ ih=>
  cases g with
  |cons _ _ _ _ _ gk gv gl=>exact .cons k x e l l' (VR.restrict hm hk gk) (VR.restrict hm hv gv) (ih gl)
def B_:dh→dh
 |.row R=>.row ⟨R.ty,.nil,R.n,R.dA,R.fz⟩
 |o=>o
def dD:dh→Nat→Option Value
 |.row R,i=>if i<R.n then some (R.cells.get top i)else none
 |_,_=>none
def dX(m:Mp)(l:Loc):dh→Obj→Prop
 |.dead,_=>True
 |.row R,.cells cs ty fr=>(ty=R.ty∧l.base=0)∧R.n=l.n∧cs.size=l.tot∧l.lo≤R.n∧l.base +(R.n -l.lo)≤l.tot∧(R.dA=false→fr.2≤l.base +(R.fz -l.lo))
 |.map es,.map o_ _=>uT m es o_.toList
 |.r_ s p,.stringIter s' p'=>s'=s∧p'=p∧l.base=0
 |_,_=>False
def lK(m:Mp)(l:Loc)(i:Nat)(x:Value)(ob:Obj):Prop:=∃cs ty fr v,ob=.cells cs ty fr∧cs[l.base +(i -l.lo)]?=some v∧VR m x v
theorem dX.KZ{m:Mp}{l:Loc}{o o':dh}{ob:Obj}(h:dX m l o ob)(e:B_ o=B_ o'):dX m l o' ob:=by
 cases o<;>cases o'<;>simp only[B_]at e<;>first|(cases e;exact h)|cases e|skip
 case row.row R R'=>
  obtain⟨a1,a2,a3,a4,a5⟩:=R
  obtain⟨b1,b2,b3,b4,b5⟩:=R'
  simp only[dh.row.injEq,Row.mk.injEq]at e
  obtain⟨rfl,_,rfl,rfl,rfl⟩:=e
  cases ob<;>first|exact h|exact h.elim
theorem jN.split{m:Mp}{l:Loc}{o:dh}{ob:Obj}(h:jN m l o ob):dX m l o ob∧∀i x,dD o i=some x→l.lo≤i→lK m l i x ob:=by
 cases o with
 |row R=>
  cases ob<;>first|exact h.elim|skip
  case cells cs ty fr=>
   obtain⟨h1,h2,h3,h4,h5,h6,h7⟩:=h
   refine⟨⟨h1,h2,h3,h4,h5,h6⟩,?_⟩
   intro i x hx hi
   simp only[dD]at hx
   split at hx
   ·next hn=>
    cases hx
    obtain⟨v,h8,h9⟩:=h7 i hi hn
    exact⟨cs,ty,fr,v,rfl,h8,h9⟩
   ·cases hx
 |dead=>exact⟨trivial,fun i x hx=>by cases hx⟩
 |map es=>cases ob<;>first|exact h.elim|exact⟨h,fun i x hx=>by cases hx⟩
 |r_ s p=>cases ob<;>first|exact h.elim|exact⟨h,fun i x hx=>by cases hx⟩
theorem jN.join{m:Mp}{l:Loc}{o:dh}{ob:Obj}(h:dX m l o ob)(hc:∀i x,dD o i=some x→l.lo≤i→lK m l i x ob):jN m l o ob:=by
 cases o with
 |row R=>
  cases ob<;>first|exact h.elim|skip
  case cells cs ty fr=>
   obtain⟨h1,h2,h3,h4,h5,h6⟩:=h
   refine⟨h1,h2,h3,h4,h5,h6,?_⟩
   intro i hi hn
   obtain⟨cs',ty',fr',v,e,h8,h9⟩:=hc i _ (by simp only[dD];rw[if_pos hn]) hi
   cases e
   exact⟨v,h8,h9⟩
 |dead=>trivial
 |map es=>cases ob<;>first|exact h.elim|exact h
 |r_ s p=>cases ob<;>first|exact h.elim|exact h
theorem dX.mono{m m':Mp}(hm:Mp.le m m'){l:Loc}{o:dh}{ob:Obj}(h:dX m l o ob):dX m' l o ob:=by
 cases o<;>cases ob<;>first|exact h|exact uT.mono hm h
theorem dX.restrict{m1 m2:Mp}(hm:Mp.le m1 m2){l:Loc}{o:dh}{ob BP:Obj}(h:dX m2 l o BP)(g:dX m1 l o ob):dX m1 l o BP:=by
 cases o with
 |dead=>trivial
 |row R=>cases BP<;>exact h
 |r_ s p=>cases BP<;>exact h
 |map es=>
  cases BP<;>first|exact h.elim|skip
  cases ob<;>first|exact g.elim|skip
  exact uT.restrict hm h g
theorem lK.mono{m m':Mp}(hm:Mp.le m m'){l:Loc}{i:Nat}{x:Value}{ob:Obj}(h:lK m l i x ob):lK m' l i x ob:=by
 obtain⟨cs,ty,fr,v,h1,h2,h3⟩:=h
 exact⟨cs,ty,fr,v,h1,h2,h3.mono hm⟩
theorem lK.restrict{m1 m2:Mp}(hm:Mp.le m1 m2){l:Loc}{i:Nat}{x:Value}{ob BP:Obj}(h:lK m2 l i x BP)(g:lK m1 l i x ob):lK m1 l i x BP:=by
 obtain⟨cs,ty,fr,v,h1,h2,h3⟩:=h
 obtain⟨_,_,_,_,_,_,g3⟩:=g
 exact⟨cs,ty,fr,v,h1,h2,VR.restrict hm h3 g3⟩
theorem Sb{o o':dh}(e:B_ o=B_ o')(h:o≠.dead):o'≠.dead:=by
 intro e';subst e'
 cases o<;>first|exact h rfl|cases e
theorem sM(m i:Nat):aV m i=m.testBit i:=by
 unfold aV
 rw[Nat.testBit_eq_decide_div_mod_eq]
 have e1:Nat.shiftRight m i=m>>>i:=rfl
 rw[e1,Nat.shiftRight_eq_div_pow]
 have e2:Nat.mod (m/2^i) 2=(m/2^i) %2:=rfl
 rw[e2,Bool.eq_iff_iff,decide_eq_true_iff]
 exact⟨Nat.eq_of_beq_eq_true,fun h=>by rw[h];rfl⟩
theorem Pp(e i:Nat):aV (Nat.shiftLeft 1 e) i=true↔i=e:=by
 rw[sM]
 have e1:Nat.shiftLeft 1 e=1<<<e:=rfl
 rw[e1,Nat.one_shiftLeft,Nat.testBit_two_pow]
 simp[eq_comm]
theorem EG(a b i:Nat):aV (Nat.lor a b) i=(aV a i||aV b i):=by
 rw[sM,sM,sM]
 exact Nat.testBit_or a b i
theorem K4(i:Nat):aV 0 i=false:=by rw[sM];simp
theorem K5{acc:List Nat}{n:Nat}:∀{l:List Edge}{i:Nat},aV (nY acc n l) i=true→∃e,e∈l∧Region.binds .any e=true∧(i=e.on∨aV ((nth acc (n -1 -e.on)).getD 0) i=true):=by
 intro l
 induction l with
 |nil=>intro i h;rw[show nY acc n []=0 from rfl,K4]at h;cases h
 |cons e l ih=>
  intro i h
  replace h:aV (av (Region.binds .any e) (Nat.lor (Nat.lor (Nat.shiftLeft 1 e.on) ((nth acc (Nat.sub (Nat.sub n 1) e.on)).getD 0)) (nY acc n l)) (nY acc n l)) i=true:=h
  cases hb:Region.binds .any e with
  |false=>
   rw[hb]at h
   obtain⟨e',h1,h2⟩:=ih h
   exact⟨e',List.mem_cons_of_mem _ h1,h2⟩
  |true=>
   rw[hb]at h
   replace h:aV (Nat.lor (Nat.lor (Nat.shiftLeft 1 e.on) ((nth acc (Nat.sub (Nat.sub n 1) e.on)).getD 0)) (nY acc n l)) i=true:=h
   rw[EG,EG,Bool.or_eq_true,Bool.or_eq_true]at h
   rcases h with(h|h)|h
   ·exact⟨e,List.mem_cons_self ..,hb,.inl ((Pp _ _).1 h)⟩
   ·exact⟨e,List.mem_cons_self ..,hb,.inr h⟩
   ·obtain⟨e',h1,h2⟩:=ih h
    exact⟨e',List.mem_cons_of_mem _ h1,h2⟩
def pJ(ops:Array Oper)(j:Nat):Nat:=(jH ops.toList [] 0).getD (ops.size -1 -j) 0
theorem EH:∀(l:List Oper)(acc:List Nat)(n:Nat),(jH l acc n).length=l.length +acc.length:=by
 intro l
 induction l with
 |nil=>intro acc n;simp[show jH [] acc n=acc from rfl]
 |cons o l ih=>
  intro acc n
  rw[show jH (o::l) acc n=jH l (nY acc n o.after.toList::acc) (n +1)from rfl,ih]
  simp;omega
theorem Cb:∀(l:List Oper)(acc:List Nat)(n k:Nat),l.length≤k→(jH l acc n).getD k 0=acc.getD (k -l.length) 0:=by
 intro l
 induction l with
 |nil=>intro acc n k _;rfl
 |cons o l ih=>
  intro acc n k hk
  rw[show jH (o::l) acc n=jH l (nY acc n o.after.toList::acc) (n +1)from rfl,ih _ _ _ (by simp at hk;omega)]
  simp only[List.length_cons]at hk⊢
  rw[show k -l.length=(k -(l.length +1)) +1 from by omega]
  rfl
theorem Sc:∀(l:List Oper)(acc:List Nat)(n j:Nat)(o:Oper),acc.length=n→l[j]?=some o→
 ∃acc',acc'.length=n +j∧(jH l acc n).getD (l.length -1 -j) 0=nY acc' (n +j) o.after.toList∧∀k,k<n +j→acc'.getD (n +j -1 -k) 0=(jH l acc n).getD (n +l.length -1 -k) 0:=by
 intro l
 induction l with
 |nil=>intro acc n j o _ h;simp at h
 |cons p l ih=>
  intro acc n j o hn h
  rw[show jH (p::l) acc n=jH l (nY acc n p.after.toList::acc) (n +1)from rfl]
  cases j with
  |zero=>
   simp at h
   subst h
   refine⟨acc,by simpa using hn,?_,?_⟩
   ·rw[Cb _ _ _ _ (by simp)]
    simp
   ·intro k hk
    rw[Cb _ _ _ _ (by simp;omega)]
    simp only[List.length_cons,Nat.add_zero]
    rw[show n +(l.length +1) -1 -k -l.length=(n -1 -k) +1 from by omega]
    rfl
  |succ j=>
   obtain⟨acc',h1,h2,h3⟩:=ih (nY acc n p.after.toList::acc) (n +1) j o (by simp[hn]) (by simpa using h)
   have hj:j<l.length:=by
    have:l[j]?=some o:=by simpa using h
    exact(List.getElem?_eq_some_iff.1 this).1
   refine⟨acc',aa,?_,?_⟩
   ·simp only[List.length_cons]
    rw[show l.length +1 -1 -(j +1)=l.length -1 -j from by omega,h2,show n +1 +j=n +(j +1)from by omega]
   ·intro k hk
    have:=h3 k aa
    rw[show n +1 +j -1 -k=n +(j +1) -1 -k from by omega,show n +1 +l.length -1 -k=n +(l.length +1) -1 -k from by omega]at this
    exact this
theorem sN:∀(l:List Oper)(n j:Nat)(o:Oper),lu l n=true→l[j]?=some o→∀e,e∈o.after.toList→Region.binds .any e=true→e.on<n +j:=by
 intro l
 induction l with
 |nil=>intro n j o _ h;simp at h
 |cons p l ih=>
  intro n j o hb h e he hbe
  replace hb:av (all' (fun e=>!(Region.binds .any e)||Nat.ble (Nat.succ e.on) n) p.after.toList) (lu l (Nat.succ n)) false=true:=hb
  cases ha:all' (fun e=>!(Region.binds .any e)||Nat.ble (Nat.succ e.on) n) p.after.toList with
  |false=>rw[ha]at hb;cases hb
  |true=>
   rw[ha]at hb
   replace hb:lu l (Nat.succ n)=true:=hb
   cases j with
   |zero=>
    simp at h
    subst h
    rw[all_eq,List.all_eq_true]at ha
    have:=ha e he
    rw[hbe]at this
    simp only[Bool.not_true,Bool.false_or]at this
    have:=Nat.le_of_ble_eq_true this
    omega
   |succ j=>
    have:=ih (n +1) j o hb (by simpa using h) e he hbe
    omega
theorem dR{ops:Array Oper}(hb:lu ops.toList 0=true){D:Nat→Prop}(hD:∀j o,ops[j]?=some o→D j→∀e,e∈o.after.toList→Region.binds .any e=true→D e.on):
 ∀(j:Nat)(o:Oper),ops[j]?=some o→(∀e,e∈o.after.toList→Region.binds .any e=true→D e.on)→∀i,aV (pJ ops j) i=true→D i:=by
 intro j
 induction j using Nat.strongRecOn with
 |_ j ih=>
  intro o ho hall i hi
  have hol:ops.toList[j]?=some o:=by rw[Array.getElem?_toList];exact ho
  obtain⟨acc',h1,h2,h3⟩:=Sc ops.toList [] 0 j o rfl hol
  unfold pJ at hi
  rw[show ops.size -1 -j=ops.toList.length -1 -j from by simp,h2]at hi
  obtain⟨e,he,hbe,hie⟩:=K5 hi
  have hlt:=sN _ 0 j o hb hol e he hbe
  rcases hie with rfl|hie
  ·exact hall e he hbe
  ·have hDe:=hall e he hbe
   have hjs:j<ops.size:=(Array.getElem?_eq_some_iff.1 ho).1
   have hoe:ops[e.on]?=some ops[e.on]:=Array.getElem?_eq_getElem aa
   refine ih e.on aa _ hoe (hD e.on _ hoe hDe) i ?_
   have h4:=h3 e.on aa
   unfold pJ
   rw[show ops.size -1 -e.on=0 +ops.toList.length -1 -e.on from by simp,←h4]
   rw[fH]at hie
   rw[List.getD_eq_getElem?_getD]
   exact hie
theorem F4{α:Type}{f:α→α→Bool→Bool}{x:α}{m:Nat}:∀{l:List α},bW f x m l=true→∀i y,l[i]?=some y→f x y (aV m (l.length -1 -i))=true:=by
 intro l
 induction l with
 |nil=>intro _ i y h;simp at h
 |cons z l ih=>
  intro h i y hy
  replace h:av (f x z (aV m (len l))) (bW f x m l) false=true:=h
  cases hf:f x z (aV m (len l))with
  |false=>rw[hf]at h;cases h
  |true=>
   rw[hf]at h
   cases i with
   |zero=>simp at hy;subst hy;rw[aM]at hf;simpa using hf
   |succ i=>
    have:=ih h i y (by simpa using hy)
    simp only[List.length_cons]
    rw[show l.length +1 -1 -(i +1)=l.length -1 -i from by omega]
    exact this
theorem Cc{α:Type}{f:α→α→Bool→Bool}:∀{ms:List Nat}{xs:List α},pairs f ms xs=true→∀i j x y,i<j→xs[i]?=some x→xs[j]?=some y→i<ms.length→
 f x y (aV (ms.getD i 0) (xs.length -1 -j))=true:=by
 intro ms
 induction ms with
 |nil=>intro xs _ i j x y _ _ _ h;simp at h
 |cons m ms ih=>
  intro xs h i j x y hij hx hy hi
  cases xs with
  |nil=>simp at hx
  |cons z xs=>
   replace h:av (bW f z m xs) (pairs f ms xs) false=true:=h
   cases hr:bW f z m xs with
   |false=>rw[hr]at h;cases h
   |true=>
    rw[hr]at h
    cases j with
    |zero=>omega
    |succ j=>
     simp only[List.length_cons]
     rw[show xs.length +1 -1 -(j +1)=xs.length -1 -j from by omega]
     cases i with
     |zero=>
      simp at hx;subst hx
      exact F4 hr j y (by simpa using hy)
     |succ i=>exact ih h i j x y aa (by simpa using hx) (by simpa using hy) (by simpa using hi)
section mem
variable{P:Program}
theorem K6{o:Oper}{a:Act}{w:World}{next:Act→World→Prop}{Q:Exit→Act→World→Prop}{F:Prop}(h:o.wp P a w next Q)(hn:∀a w,next a w→F)(hq:∀e a w,Q e a w→F):F:=by
 unfold Oper.wp at h
 generalize(execOp a.eval o).run P w=r at h
 cases r with
 |ok n w'=>
  cases n with
  |value v=>exact hn _ _ h
  |skip=>exact hn _ _ h
  |defer d=>exact hn _ _ h
  |enter f args=>
   obtain⟨e,w2,fr,hR,_⟩:=h []
   cases e with
   |returned v=>exact hn _ _ hR
   |panicked ch=>exact hq _ _ _ hR
   |outgrown=>obtain⟨a1,w1,h1⟩:=hR;exact hq _ _ _ h1
  |row row args=>
   obtain⟨v,w2,hR,_⟩:=h default []
   exact hn _ _ hR
  |_=>exact h.elim
 |halt x w'=>
  cases x with
  |panic v=>exact hq _ _ _ h
  |_=>exact h.elim
theorem Ce{cf:cz}{n:Nat}(hcf:xB P n cf){m:Mp}{w:World}{s:St}{o:Oper}{a:Act}{v:Value}{H':ae}(rh:RH m s.H w)(gl:Gl n m)(hr:m_ o.op P cf s=.mem v H')(e:EF m s a.eval o.op.operands.toList)
 {next:Act→World→Prop}{Q:Exit→Act→World→Prop}
 (K:∀m' v' w',VR m' v v'→RH m' H' w'→Ex m m' s.H H' w w'→next (a.put o.dst v') w'):o.wp P a w next Q:=by
 unfold Oper.wp
 refine Nf rh hr e ?_ K
 intro c hop hb
 rw[hop]at hr
 replace hr:kW c P cf s=.mem v H':=hr
 obtain⟨callee,⟨args⟩,ats⟩:=c
 cases callee with
 |value g=>exact Iz hcf gl rh hop hr e K
 |invoke r name=>exact IA hcf gl rh hop hr e K
 |builtin b=>cases hb
theorem EF.aU{m:Mp}{s:St}{ρ:Operand→Value}{L:List Operand}(e:EF m s ρ L):EF m (aU s) ρ L:=⟨fun x hx=>by have:=e.all x hx;cases x<;>exact this⟩
inductive Cf(P:Program)(cf:cz)(ops:Array Oper)(o:Oper)(s:St):St→Cl→Prop where
 |skip (hw:iw ops s o.guard=some false):Cf P cf ops o s (bI s o.dst undef s.H) (cl 0)
 |rT (v:Value) (hw:iw ops s o.guard=some true) (hr:m_ o.op P cf (aU s)=.rT v):Cf P cf ops o s (bI s o.dst v s.H) (cl 0)
 |mem (v:Value) (H':ae) (hw:iw ops s o.guard=some true) (hr:m_ o.op P cf (aU s)=.mem v H'):
  Cf P cf ops o s (bI s o.dst v ⟨H'.j6,H'.next,fC s.H.low H'.low⟩) (iY P o.op s H')
theorem Sd{cf:cz}{ops:Array Oper}{o:Oper}{s s1:St}{c:Cl}(h:cZ P cf ops o s=some (s1,c)):Cf P cf ops o s s1 c:=by
 (replace h:=ai h;obtain⟨b,hb,h⟩:=h)
 cases b with
 |false=>
  replace h:some (bI s o.dst undef s.H,cl 0)=some (s1,c):=h
  cases h
  exact .skip hb
 |true=>
  replace h:zF P o s (m_ o.op P cf (aU s))=some (s1,c):=h
  cases hr:m_ o.op P cf (aU s)with
  |fail=>rw[hr]at h;cases h
  |rT v=>
   rw[hr]at h
   replace h:some (bI s o.dst v s.H,cl 0)=some (s1,c):=h
   cases h
   exact .rT v hb hr
  |mem v H'=>
   rw[hr]at h
   replace h:some (bI s o.dst v ⟨H'.j6,H'.next,fC s.H.low H'.low⟩,iY P o.op s H')=some (s1,c):=h
   cases h
   exact .mem v H' hb hr
def TF(P:Program)(cf:cz)(ops:Array Oper)(o:Oper)(s:St):Prop:=∀v H',m_ o.op P cf (aU s)=.mem v H'→iw ops s o.guard=some true→s.H.next≤H'.next∧∀r,r<s.H.next→r<H'.low→H'.obj r=s.H.obj r
theorem RH.low{m:Mp}{H:ae}{w:World}(rh:RH m H w)(k:Nat):RH m ⟨H.j6,H.next,k⟩ w:=⟨rh.dom,rh.ok,rh.sep⟩
theorem trace{cf:cz}{n:Nat}(hcf:xB P n cf){ops:Array Oper}{nt:Nat}:
 ∀(l:List Oper)(s s1:St)(acc cls:List Cl)(m:Mp)(a:Act)(w:World),(∀o,o∈l→lI n nt o=true)→s.nt=nt→RH m s.H w→FR m s a→Gl n m→
 bH P cf ops l s acc=some (s1,cls)→
 ∃(S:Nat→St)(C:Nat→Cl),S 0=s∧S l.length=s1∧cls.length=l.length +acc.length∧(∀j,j<l.length→cls[l.length -1 -j]?=some (C j))∧(∀k,cls[l.length +k]?=acc[k]?)∧
  ∀j o,l[j]?=some o→Cf P cf ops o (S j) (S (j +1)) (C j)∧TF P cf ops o (S j)∧(S j).nt=nt:=by
 intro l
 induction l with
 |nil=>
  intro s s1 acc cls m a w _ hnt _ _ _ h
  cases h
  exact⟨fun _=>s,fun _=>cl 0,rfl,rfl,by simp,by simp,by simp,by simp⟩
 |cons o l ih=>
  intro s s1 acc cls m a w hall hnt rh f gl h
  replace h:(aj (cZ P cf ops o s) fun q=>bH P cf ops l q.1 (q.2::acc))=some (s1,cls):=h
  (replace h:=ai h;obtain⟨q,hq,h⟩:=h)
  obtain⟨s2,c⟩:=q
  have hst:=Sd hq
  have ho:=hall o (by simp)
  unfold lI at ho
  simp only[Bool.and_eq_true]at ho
  have key:(∃m' a' w',RH m' s2.H w'∧FR m' s2 a'∧Gl n m')∧TF P cf ops o s∧s2.nt=nt:=by
   cases hst with
   |skip hw=>
    refine⟨⟨m,a.put o.dst undef,w,by rw[dw];exact rh,f.put (by rw[hnt];exact ho.2) (.tuple [] [] .nil),gl⟩,?_,by rw[nA];exact hnt⟩
    intro v H' _ hw';rw[hw]at hw';cases hw'
   |rT v hw hr=>
    have e:=(f.ev gl ho.1).aU
    obtain⟨v',h1,h2⟩:=FX hr e (fun _=>rfl)
    refine⟨⟨m,a.put o.dst v',w,by rw[dw];exact rh,f.put (by rw[hnt];exact ho.2) h1,gl⟩,?_,by rw[nA];exact hnt⟩
    intro v1 H' hr' _;rw[hr]at hr';cases hr'
   |mem v H' hw hr=>
    have e:=(f.ev gl ho.1).aU
    have hx:o.wp P a w (fun a' w'=>∃m',(RH m' (bI s o.dst v ⟨H'.j6,H'.next,fC s.H.low H'.low⟩).H w'∧FR m' (bI s o.dst v ⟨H'.j6,H'.next,fC s.H.low H'.low⟩) a'∧Gl n m')∧
     (s.H.next≤H'.next∧∀r,r<s.H.next→r<H'.low→H'.obj r=s.H.obj r)) (fun _ _ _=>False):=by
     refine Ce hcf (s:=aU s) (rh.low _) gl hr e ?_
     intro m' v' w' h1 h2 h3
     exact⟨m',⟨by rw[dw];exact h2.low _,(f.mono h3.le).put (by rw[hnt];exact ho.2) h1,gl.mono h3.le⟩,h3.next,h3.j6⟩
    have:=K6 (F:=(∃m' a' w',RH m' (bI s o.dst v ⟨H'.j6,H'.next,fC s.H.low H'.low⟩).H w'∧FR m' (bI s o.dst v ⟨H'.j6,H'.next,fC s.H.low H'.low⟩) a'∧Gl n m')∧
     (s.H.next≤H'.next∧∀r,r<s.H.next→r<H'.low→H'.obj r=s.H.obj r)) hx
     (fun a' w' ⟨m',h1,h2⟩=>⟨⟨m',a',w',h1⟩,h2⟩) (fun _ _ _ h=>h.elim)
    refine⟨this.1,?_,by rw[nA];exact hnt⟩
    intro v1 H1 hr' _;rw[hr]at hr';cases hr'
    exact this.2
  obtain⟨⟨m',a',w',rh',f',gl'⟩,ZR,adt⟩:=key
  obtain⟨S,C,e1,e2,e3,e4,e5,e6⟩:=ih s2 s1 (c::acc) cls m' a' w' (fun p hp=>hall p (by simp[hp])) adt rh' f' gl' h
  refine⟨fun k=>match k with|0=>s|k +1=>S k,fun k=>match k with|0=>c|k +1=>C k,rfl,e2,by simp at e3⊢;omega,?_,?_,?_⟩
  ·intro j hj
   cases j with
   |zero=>
    have:=e5 0
    simpa using this
   |succ j=>
    simp only[List.length_cons]at hj⊢
    rw[show l.length +1 -1 -(j +1)=l.length -1 -j from by omega]
    exact e4 j aa
  ·intro k
   have:=e5 (k +1)
   simp only[List.length_cons]
   rw[show l.length +1 +k=l.length +(k +1)from by omega,this]
   rfl
  ·intro j p hp
   cases j with
   |zero=>
    simp at hp;subst hp
    exact⟨by simpa [e1]using hst,ZR,hnt⟩
   |succ j=>exact e6 j p (by simpa using hp)
theorem Se{o:Op}{s:St}{H':ae}:(iY P o s H').k≤5:=by
 unfold iY
 cases qF o with
 |none=>
  show(av (Nat.ble s.H.next H'.low) (av (o8 o) (cl 5) (o9 P o s)) ⟨2,0,0,0,s.H,H'⟩:Cl).k≤5
  cases Nat.ble s.H.next H'.low with
  |false=>exact Nat.le_of_ble_eq_true rfl
  |true=>
   cases o8 o with
   |true=>exact Nat.le_of_ble_eq_true rfl
   |false=>
    show(o9 P o s).k≤5
    unfold o9
    cases h:(aj (yM o) fun p=>aj (gT (ev s p.2)) fun a=>aj (QL P p.1) fun l=>some (Cl.mk 4 a.block a.off (l.getD 1) hh0 hh0))with
    |none=>exact Nat.le_of_ble_eq_true rfl
    |some q=>
     (replace h:=ai h;obtain⟨p,hp,h⟩:=h)
     (replace h:=ai h;obtain⟨a,ha,h⟩:=h)
     (replace h:=ai h;obtain⟨l,hl,h⟩:=h)
     cases h
     exact Nat.le_of_ble_eq_true rfl
 |some p=>
  show(@Option.rec Addr (fun _=>Cl) ⟨2,0,0,0,s.H,H'⟩ (fun a=>⟨3,a.block,a.off,len (ax (ev s p.2)),hh0,hh0⟩) (gT (ev s p.1)):Cl).k≤5
  cases gT (ev s p.1)<;>exact Nat.le_of_ble_eq_true rfl
theorem Pq{ops:Array Oper}(h:gz ops=true):lu ops.toList 0=true∧∀i j oi oj,i<j→ops[i]?=some oi→ops[j]?=some oj→aV (pJ ops j) i=true∨oi.apart ops oj=true:=by
 unfold gz at h
 rw[Bool.and_eq_true]at h
 refine⟨h.1,fun i j oi oj hij hi hj=>?_⟩
 have hjs:j<ops.size:=(Array.getElem?_eq_some_iff.1 hj).1
 have hget:∀k o,ops[k]?=some o→ops.toList.reverse[ops.size -1 -k]?=some o:=by
  intro k o hk
  have hks:k<ops.size:=(Array.getElem?_eq_some_iff.1 hk).1
  rw[List.getElem?_reverse (by simp;omega)]
  simp only[Array.length_toList]
  rw[show ops.size -1 -(ops.size -1 -k)=k from by omega,Array.getElem?_toList]
  exact hk
 have:=Cc h.2 (ops.size -1 -j) (ops.size -1 -i) oj oi aa (hget j oj hj) (hget i oi hi) (by rw[EH];simp;omega)
 simp only[List.length_reverse,Array.length_toList]at this
 rw[show ops.size -1 -(ops.size -1 -i)=i from by omega]at this
 simpa [pJ]using this
theorem Sf{ops:Array Oper}{cls:List Cl}{C:Nat→Cl}(h:bO ops cls=true)(hl:cls.length=ops.size)(hC:∀j,j<ops.size→cls[ops.size -1 -j]?=some (C j))(hk:∀j,j<ops.size→(C j).k≤5):
 ∀i j,i<j→j<ops.size→aS (C j) (C i) (aV (pJ ops j) i)=true:=by
 intro i j hij hj
 unfold bO at h
 cases hn:noTwo cls with
 |false=>
  rw[hn]at h
  have:=Cc (f:=aS) h (ops.size -1 -j) (ops.size -1 -i) (C j) (C i) aa (hC j hj) (hC i aa) (by rw[EH];simp;omega)
  rw[hl,show ops.size -1 -(ops.size -1 -i)=i from by omega]at this
  exact this
 |true=>
  have hno:∀k,k<ops.size→(C k).k≠2∧(C k).k≠3:=by
   intro k hk'
   unfold noTwo at hn
   rw[all_eq,List.all_eq_true]at hn
   have:=hn (C k) (List.mem_of_getElem? (hC k hk'))
   simp only[Bool.not_eq_true',Bool.or_eq_false_iff]at this
   exact⟨fun e=>by rw[e]at this;exact absurd this.1 (by decide),fun e=>by rw[e]at this;exact absurd this.2 (by decide)⟩
  have h1:=hno i aa
  have h2:=hno j hj
  have h3:=hk i aa
  have h4:=hk j hj
  generalize C i=ci at h1 h3⊢
  generalize C j=cj at h2 h4⊢
  obtain⟨ki,_,_,_,_,_⟩:=ci
  obtain⟨kj,_,_,_,_,_⟩:=cj
  simp only at h1 h2 h3 h4
  have e1:ki=0∨ki=1∨ki=4∨ki=5:=by omega
  have e2:kj=0∨kj=1∨kj=4∨kj=5:=by omega
  rcases e1 with rfl|rfl|rfl|rfl<;>rcases e2 with rfl|rfl|rfl|rfl<;>rfl
theorem F5{x y:Cl}{b:Bool}(h:aS y x b=true)(hx:x.k=1∨x.k=2)(hy:y.k=1∨y.k=2)(h2:x.k=2∨y.k=2):b=true:=by
 obtain⟨kx,_,_,_,_,_⟩:=x
 obtain⟨ky,_,_,_,_,_⟩:=y
 simp only at hx hy h2
 rcases hx with rfl|rfl<;>rcases hy with rfl|rfl<;>first|(exfalso;omega)|exact h
theorem Ni{x y:Cl}{b:Bool}(h:aS y x b=true)(hx:x.k=3)(hy:y.k=1∨y.k=2):False:=by
 obtain⟨kx,_,_,_,_,_⟩:=x
 obtain⟨ky,_,_,_,_,_⟩:=y
 simp only at hx hy
 subst hx
 rcases hy with rfl|rfl<;>(cases b<;>exact absurd (show false=true from h) (by simp))
theorem Nj{x y:Cl}{b:Bool}(h:aS y x b=true)(hx:x.k=1∨x.k=2)(hy:y.k=3):b=true:=by
 obtain⟨kx,_,_,_,_,_⟩:=x
 obtain⟨ky,_,_,_,_,_⟩:=y
 simp only at hx hy
 subst hy
 rcases hx with rfl|rfl<;>(cases b<;>first|rfl|exact h)
theorem Sg{x y:Cl}{b:Bool}(h:aS y x b=true)(hx:x.k=3)(hy:y.k=3):b=true∨mK x y=true:=by
 obtain⟨kx,_,_,_,_,_⟩:=x
 obtain⟨ky,_,_,_,_,_⟩:=y
 simp only at hx hy
 subst hx hy
 cases b with
 |true=>exact .inl rfl
 |false=>exact .inr h
theorem ZS{x y:Cl}{b:Bool}(h:aS y x b=true)(hx:x.k=4)(hy:y.k=3):b=true∨mK x y=true:=by
 obtain⟨kx,_,_,_,_,_⟩:=x
 obtain⟨ky,_,_,_,_,_⟩:=y
 simp only at hx hy
 subst hx hy
 cases b with
 |true=>exact .inl rfl
 |false=>exact .inr h
theorem ZT{x y:Cl}{b:Bool}(h:aS y x b=true)(hx:x.k=3)(hy:y.k=4):b=true∨mK x y=true:=by
 obtain⟨kx,_,_,_,_,_⟩:=x
 obtain⟨ky,_,_,_,_,_⟩:=y
 simp only at hx hy
 subst hx hy
 cases b with
 |true=>exact .inl rfl
 |false=>exact .inr h
theorem ZU{x y:Cl}{b:Bool}(h:aS y x b=true)(hx:x.k=4)(hy:y.k=2):b=true∨fQ y x=true:=by
 obtain⟨kx,_,_,_,_,_⟩:=x
 obtain⟨ky,_,_,_,_,_⟩:=y
 simp only at hx hy
 subst hx hy
 cases b with
 |true=>exact .inl rfl
 |false=>exact .inr h
theorem ZV{x y:Cl}{b:Bool}(h:aS y x b=true)(hx:x.k=2)(hy:y.k=4):b=true∨fQ x y=true:=by
 obtain⟨kx,_,_,_,_,_⟩:=x
 obtain⟨ky,_,_,_,_,_⟩:=y
 simp only at hx hy
 subst hx hy
 cases b with
 |true=>exact .inl rfl
 |false=>exact .inr h
end mem
section cls
variable{P:Program}
theorem F6{o:Op}{s:St}{H':ae}:
 (∃p a,qF o=some p∧gT (ev s p.1)=some a∧iY P o s H'=⟨3,a.block,a.off,len (ax (ev s p.2)),hh0,hh0⟩)∨
 (iY P o s H'=⟨2,0,0,0,s.H,H'⟩)∨
 (s.H.next≤H'.low∧((o8 o=true∧iY P o s H'=cl 5)∨iY P o s H'=cl 1∨
   ∃p a l,yM o=some p∧gT (ev s p.2)=some a∧QL P p.1=some l∧iY P o s H'=⟨4,a.block,a.off,l.getD 1,hh0,hh0⟩)):=by
 have e:iY P o s H'=@Option.rec (Operand×Operand) (fun _=>Cl) (av (Nat.ble s.H.next H'.low) (av (o8 o) (cl 5) (o9 P o s)) ⟨2,0,0,0,s.H,H'⟩)
  (fun p=>@Option.rec Addr (fun _=>Cl) ⟨2,0,0,0,s.H,H'⟩ (fun a=>⟨3,a.block,a.off,len (ax (ev s p.2)),hh0,hh0⟩) (gT (ev s p.1))) (qF o):=rfl
 cases hs:qF o with
 |none=>
  rw[hs]at e
  cases hb:Nat.ble s.H.next H'.low with
  |false=>rw[hb]at e;exact .inr (.inl e)
  |true=>
   rw[hb]at e
   refine .inr (.inr ⟨Nat.le_of_ble_eq_true hb,?_⟩)
   cases hf:o8 o with
   |true=>rw[hf]at e;exact .inl ⟨rfl,e⟩
   |false=>
    rw[hf]at e
    replace e:iY P o s H'=o9 P o s:=e
    unfold o9 at e
    cases h:(aj (yM o) fun p=>aj (gT (ev s p.2)) fun a=>aj (QL P p.1) fun l=>some (Cl.mk 4 a.block a.off (l.getD 1) hh0 hh0))with
    |none=>rw[h]at e;exact .inr (.inl e)
    |some q=>
     rw[h]at e
     (replace h:=ai h;obtain⟨p,hp,h⟩:=h)
     (replace h:=ai h;obtain⟨a,ha,h⟩:=h)
     (replace h:=ai h;obtain⟨l,hl,h⟩:=h)
     cases h
     exact .inr (.inr ⟨p,a,l,hp,ha,hl,e⟩)
 |some p=>
  rw[hs]at e
  replace e:iY P o s H'=@Option.rec Addr (fun _=>Cl) ⟨2,0,0,0,s.H,H'⟩ (fun a=>⟨3,a.block,a.off,len (ax (ev s p.2)),hh0,hh0⟩) (gT (ev s p.1)):=e
  cases ha:gT (ev s p.1)with
  |none=>rw[ha]at e;exact .inr (.inl e)
  |some a=>rw[ha]at e;exact .inl ⟨p,a,rfl,ha,e⟩
end cls
structure Rg(P:Program)(cf:cz)(ops:Array Oper)(n nt:Nat)(S:Nat→St)(C:Nat→Cl):Prop where
 step:∀(j:Nat)(o:Oper),ops[j]?=some o→Cf P cf ops o (S j) (S (j +1)) (C j)
 tf:∀(j:Nat)(o:Oper),ops[j]?=some o→TF P cf ops o (S j)
 nts:∀(j:Nat)(o:Oper),ops[j]?=some o→(S j).nt=nt
 ok:∀(j:Nat)(o:Oper),ops[j]?=some o→lI n nt o=true
 back:lu ops.toList 0=true
 stat:∀(i j:Nat)(oi oj:Oper),i<j→ops[i]?=some oi→ops[j]?=some oj→aV (pJ ops j) i=true∨oi.apart ops oj=true
 dyn:∀i j,i<j→j<ops.size→aS (C j) (C i) (aV (pJ ops j) i)=true
def Closed(ops:Array Oper)(D:Nat→Prop):Prop:=∀(j:Nat)(o:Oper),ops[j]?=some o→D j→∀e,e∈o.after.toList→Region.binds .any e=true→D e.on
def xE(D:Nat→Prop)(i:Nat)(j:Nat):Prop:=D j∨j=i
inductive Ct where
 |shape(o:dh)
 |cell(v:Option Value)
def cont:Option Nat→dh→Ct
 |none,o=>.shape (B_ o)
 |some i,o=>.cell (dD o i)
def Rel(κ:Option Nat)(m:Mp)(l:Loc)(c:Ct)(ob:Obj):Prop:=
 match κ,c with
 |none,.shape o=>dX m l o ob
 |some i,.cell (some x)=>l.lo≤i→lK m l i x ob
 |_,_=>True
theorem Rel.mono{κ:Option Nat}{m m':Mp}(hm:Mp.le m m'){l:Loc}{c:Ct}{ob:Obj}(h:Rel κ m l c ob):Rel κ m' l c ob:=by
 cases κ with
 |none=>cases c with|shape o=>exact dX.mono hm h|cell v=>trivial
 |some i=>cases c with
  |shape o=>trivial
  |cell v=>cases v with|none=>trivial|some x=>exact fun hl=>lK.mono hm (h hl)
theorem Rel.restrict{κ:Option Nat}{m1 m2:Mp}(hm:Mp.le m1 m2){l:Loc}{c:Ct}{ob BP:Obj}(h:Rel κ m2 l c BP)(g:Rel κ m1 l c ob):Rel κ m1 l c BP:=by
 cases κ with
 |none=>cases c with|shape o=>exact dX.restrict hm h g|cell v=>trivial
 |some i=>cases c with
  |shape o=>trivial
  |cell v=>cases v with|none=>trivial|some x=>exact fun hl=>lK.restrict hm (h hl) (g hl)
theorem Nk(o:dh):B_ (B_ o)=B_ o:=by cases o<;>rfl
theorem Rel.dL{κ:Option Nat}{m:Mp}{l:Loc}{o:dh}{ob:Obj}(h:jN m l o ob):Rel κ m l (cont κ o) ob:=by
 cases κ with
 |none=>exact(h.split.1).KZ (Nk o).symm
 |some i=>
  show Rel (some i) m l (.cell (dD o i)) ob
  cases hc:dD o i with
  |none=>trivial
  |some x=>exact fun hl=>h.split.2 i x hc hl
theorem Rel.Si{m:Mp}{l:Loc}{o:dh}{ob:Obj}(h:∀κ,Rel κ m l (cont κ o) ob):jN m l o ob:=by
 refine jN.join ((show dX m l (B_ o) ob from h none).KZ (Nk o)) ?_
 intro i x hx hl
 have:=h (some i)
 rw[show cont (some i) o=.cell (some x)from by show Ct.cell (dD o i)=_;rw[hx]]at this
 exact this hl
section con
variable{S:Nat→St}{N:Nat}
abbrev nx(S:Nat→St)(k:Nat):Nat:=(S k).H.next
abbrev at'(S:Nat→St)(κ:Option Nat)(r k:Nat):Ct:=cont κ ((S k).H.obj r)
def vw(S:Nat→St)(N:Nat)(D:Nat→Prop)(κ:Option Nat)(r k:Nat):Prop:=r<nx S k∧∀j,j<N→r<nx S j→at' S κ r j≠at' S κ r (j +1)→(D j↔j<k)
theorem vw.Yn(mono:∀i j,i≤j→j≤N→nx S i≤nx S j){D:Nat→Prop}{κ:Option Nat}{r:Nat}:∀(d k:Nat),k +d≤N→vw S N D κ r k→vw S N D κ r (k +d)→at' S κ r k=at' S κ r (k +d):=by
 intro d k hkd h1 h2
 have:∀e,e≤d→at' S κ r k=at' S κ r (k +e):=by
  intro e
  induction e with
  |zero=>intro _;rfl
  |succ e ih=>
   intro he
   rw[ih aa]
   apply Classical.byContradiction
   intro hne
   have hr:r<nx S (k +e):=Nat.lt_of_lt_of_le h1.1 (mono _ _ aa aa)
   have a1:=h1.2 (k +e) aa hr hne
   have a2:=h2.2 (k +e) aa hr hne
   have:=a1.1 (a2.2 aa)
   omega
 exact this d (Nat.le_refl _)
theorem vw.eq(mono:∀i j,i≤j→j≤N→nx S i≤nx S j){D:Nat→Prop}{κ:Option Nat}{r k k':Nat}(hk:k≤N)(hk':k'≤N)(h1:vw S N D κ r k)(h2:vw S N D κ r k'):at' S κ r k=at' S κ r k':=by
 rcases Nat.le_total k k' with h|h
 ·have:=vw.Yn mono (k' -k) k aa h1 (by rw[show k +(k' -k)=k' from by omega];exact h2)
  rwa [show k +(k' -k)=k' from by omega]at this
 ·have:=vw.Yn mono (k -k') k' aa h2 (by rw[show k' +(k -k')=k from by omega];exact h1)
  rw[show k' +(k -k')=k from by omega]at this
  exact this.symm
theorem vw.less{D:Nat→Prop}{i:Nat}{κ:Option Nat}{r k:Nat}(h:vw S N (xE D i) κ r k)(hi:r<nx S i→at' S κ r i=at' S κ r (i +1)):vw S N D κ r k:=by
 refine⟨h.1,fun j hj hr hne=>?_⟩
 have hji:j≠i:=fun e=>hne (by subst e;exact hi hr)
 rw[←h.2 j hj hr hne]
 exact⟨.inl,fun hh=>hh.resolve_right hji⟩
end con
structure MInv(S:Nat→St)(C:Nat→Cl)(N:Nat)(m0:Mp)(w0:World)(D:Nat→Prop)(m:Mp)(w:World):Prop where
 dom:∀r l,m r=some l→(m0 r=some l∧r<nx S 0)∨∃i,i<N∧D i∧nx S i≤r∧r<nx S (i +1)
 Ps:∀r l,m r=some l→∃o,w.heap[l.c]?=some o
 cnt:∀κ r l k o,k≤N→m r=some l→vw S N D κ r k→w.heap[l.c]?=some o→Rel κ (m.upto (nx S k)) l (at' S κ r k) o
 sep:∀r r' l l' k k',m r=some l→m r'=some l'→l.c=l'.c→k≤N→k'≤N→vw S N D none r k→vw S N D none r' k'→(S k).H.obj r≠.dead→(S k').H.obj r'≠.dead→r=r'
 clash:∀r r' l l' j,m r=some l→m r'=some l'→l.c=l'.c→j<N→¬D j→(C j).k=2→(r<nx S j↔r'<nx S j)
 hid:∀j r,j<N→D j→r<nx S j→m r=none→(S (j +1)).H.obj r=(S j).H.obj r
 le:Mp.le m0 m
 fresh:∀r l,m r=some l→m0 r=none→l.c<w0.heap.size→∃r0 l0,m0 r0=some l0∧l0.c=l.c∧(S N).H.low≤r0
 os:w.os=w0.os
 tape:w.tape=w0.tape
 output:w.output=w0.output
 size:w0.heap.size≤w.heap.size
 keep:∀c,c<w0.heap.size→(∀r l,m0 r=some l→l.c=c→r<(S N).H.low)→w.heap[c]?=w0.heap[c]?
section rg
variable{P:Program}{cf:cz}{ops:Array Oper}{n nt:Nat}{S:Nat→St}{C:Nat→Cl}
theorem Rg.IB(g:Rg P cf ops n nt S C){j:Nat}(hj:j<ops.size):nx S j≤nx S (j +1):=by
 have ho:ops[j]?=some ops[j]:=Array.getElem?_eq_getElem hj
 have hs:=g.step j _ ho
 have ZR:=g.tf j _ ho
 show(S j).H.next≤(S (j +1)).H.next
 generalize S (j +1)=s1 at hs
 generalize C j=c at hs
 cases hs with
 |skip hw=>rw[dw];exact Nat.le_refl _
 |rT v hw hr=>rw[dw];exact Nat.le_refl _
 |mem v H' hw hr=>rw[dw];exact(ZR v H' hr hw).1
theorem Rg.mono(g:Rg P cf ops n nt S C):∀i j,i≤j→j≤ops.size→nx S i≤nx S j:=by
 intro i j hij hj
 obtain⟨d,rfl⟩:=Nat.exists_eq_add_of_le hij
 clear hij
 induction d with
 |zero=>exact Nat.le_refl _
 |succ d ih=>exact Nat.le_trans (ih aa) (g.IB aa)
theorem uL(a b:Nat):fC a b≤a∧fC a b≤b:=by
 unfold fC
 cases h:Nat.ble a b with
 |true=>exact⟨Nat.le_refl _,Nat.le_of_ble_eq_true h⟩
 |false=>
  have:¬a≤b:=fun h'=>by rw[Nat.ble_eq_true_of_le h']at h;cases h
  exact⟨by show b≤a;omega,Nat.le_refl _⟩
theorem Rg.adu(g:Rg P cf ops n nt S C){j:Nat}(hj:j<ops.size):(S (j +1)).H.low≤(S j).H.low:=by
 have hs:=g.step j _ (Array.getElem?_eq_getElem hj)
 generalize S (j +1)=s1 at hs
 generalize C j=c at hs
 cases hs with
 |skip hw=>rw[dw];exact Nat.le_refl _
 |rT v hw hr=>rw[dw];exact Nat.le_refl _
 |mem v H' hw hr=>rw[dw];exact(uL _ _).1
theorem Rg.low(g:Rg P cf ops n nt S C):∀i j,i≤j→j≤ops.size→(S j).H.low≤(S i).H.low:=by
 intro i j hij hj
 obtain⟨d,rfl⟩:=Nat.exists_eq_add_of_le hij
 clear hij
 induction d with
 |zero=>exact Nat.le_refl _
 |succ d ih=>exact Nat.le_trans (g.adu (j:=i +d) aa) (ih aa)
theorem Rg.same(g:Rg P cf ops n nt S C){j r:Nat}(hj:j<ops.size)(h2:(C j).k≠2)(h3:(C j).k≠3)(hr:r<nx S j):(S (j +1)).H.obj r=(S j).H.obj r:=by
 have ho:ops[j]?=some ops[j]:=Array.getElem?_eq_getElem hj
 have hs:=g.step j _ ho
 have ZR:=g.tf j _ ho
 generalize S (j +1)=s1 at hs
 generalize hc:C j=c at hs
 rw[hc]at h2 h3
 cases hs with
 |skip hw=>rw[dw]
 |rT v hw hr=>rw[dw]
 |mem v H' hw hr'=>
  rw[dw]
  show H'.obj r=_
  rcases F6 (P:=P) (o:=ops[j].op) (s:=S j) (H':=H')with⟨p,a,_,_,e⟩|e|⟨hlow,_⟩
  ·rw[e]at h3;exact absurd rfl h3
  ·rw[e]at h2;exact absurd rfl h2
  ·exact(ZR v H' hr' hw).2 r hr (Nat.lt_of_lt_of_le hr hlow)
theorem Rg.WA(g:Rg P cf ops n nt S C){j r:Nat}(hj:j<ops.size)(hr:r<nx S j)(hl:r<(S ops.size).H.low):(S (j +1)).H.obj r=(S j).H.obj r:=by
 have ho:ops[j]?=some ops[j]:=Array.getElem?_eq_getElem hj
 have hs:=g.step j _ ho
 have ZR:=g.tf j _ ho
 have hlow:=g.low (j +1) ops.size aa (Nat.le_refl _)
 generalize S (j +1)=s1 at hs hlow
 generalize C j=c at hs
 cases hs with
 |skip hw=>rw[dw]
 |rT v hw hr=>rw[dw]
 |mem v H' hw hr'=>
  rw[dw]at hlow⊢
  exact(ZR v H' hr' hw).2 r hr (Nat.lt_of_lt_of_le (Nat.lt_of_lt_of_le hl hlow) (uL _ _).2)
theorem Rg.turns(g:Rg P cf ops n nt S C){κ:Option Nat}{j r:Nat}(hj:j<ops.size)(hr:r<nx S j)(hne:at' S κ r j≠at' S κ r (j +1)):(C j).k=2∨(C j).k=3:=by
 apply Classical.byContradiction
 intro h
 exact hne (by show cont κ _=cont κ _;rw[g.same hj (fun e=>h (.inl e)) (fun e=>h (.inr e)) hr])
theorem Rg.Nl(g:Rg P cf ops n nt S C){D:Nat→Prop}(hD:Closed ops D){i:Nat}(hi:i<ops.size)(vz:¬D i)(fD:∀e,e∈ops[i].after.toList→Region.binds .any e=true→D e.on)
 (hc:(C i).k=1∨(C i).k=2){κ:Option Nat}{r:Nat}(hr:r<nx S i):vw S ops.size D κ r i:=by
 refine⟨hr,fun j hj Ho hne=>?_⟩
 have hcj:=g.turns hj Ho hne
 have hoi:ops[i]?=some ops[i]:=Array.getElem?_eq_getElem hi
 have hoj:ops[j]?=some ops[j]:=Array.getElem?_eq_getElem hj
 rcases Nat.lt_trichotomy j i with h|h|h
 ·refine⟨fun _=>h,fun _=>?_⟩
  have hd:=g.dyn j i h hi
  rcases hcj with hcj|hcj
  ·exact dR g.back hD i _ hoi fD j (F5 hd (.inr hcj) hc (.inl hcj))
  ·exact(Ni hd hcj hc).elim
 ·subst h;exact⟨fun h=>absurd h vz,fun h=>absurd h (Nat.lt_irrefl _)⟩
 ·refine⟨fun Dx=>?_,fun h'=>by omega⟩
  have hd:=g.dyn i j h hj
  have hb:aV (pJ ops j) i=true:=by
   rcases hcj with hcj|hcj
   ·exact F5 hd hc (.inr hcj) (.inr hcj)
   ·exact Nj hd hc hcj
  exact absurd (dR g.back hD j _ hoj (hD j _ hoj Dx) i hb) vz
theorem Rg.adw(g:Rg P cf ops n nt S C){D:Nat→Prop}(hD:Closed ops D){i:Nat}(hi:i<ops.size)(vz:¬D i)(fD:∀e,e∈ops[i].after.toList→Region.binds .any e=true→D e.on)
 (hc:(C i).k=2){κ:Option Nat}{r:Nat}(hr:r<nx S i):vw S ops.size (xE D i) κ r (i +1):=by
 have h0:=g.Nl hD hi vz fD (.inr hc) (κ:=κ) hr
 refine⟨Nat.lt_of_lt_of_le hr (g.IB hi),fun j hj Ho hne=>?_⟩
 have:=h0.2 j hj Ho hne
 constructor
 ·rintro(h|h)
  ·have:=this.1 h;omega
  ·omega
 ·intro h
  by_cases e:j=i
  ·exact .inr e
  ·exact .inl (this.2 aa)
end rg
section rg
variable{P:Program}{cf:cz}{ops:Array Oper}{n nt:Nat}{S:Nat→St}{C:Nat→Cl}{m0:Mp}{w0:World}
theorem MInv.still{D:Nat→Prop}{m:Mp}{w:World}(I:MInv S C ops.size m0 w0 D m w){i:Nat}(hi:i<ops.size)(hs:∀r,r<nx S i→(S (i +1)).H.obj r=(S i).H.obj r):MInv S C ops.size m0 w0 (xE D i) m w where
 dom:=fun r l h=>(I.dom r l h).imp id fun⟨j,h1,h2,h3⟩=>⟨j,h1,.inl h2,h3⟩
 Ps:=I.Ps
 cnt:=fun κ r l k o hk hm hc ho=>I.cnt κ r l k o hk hm (hc.less fun hr=>by show cont κ _=cont κ _;rw[hs r hr]) ho
 sep:=fun r r' l l' k k' h1 h2 h3 h4 h5 h6 h7 h8 h9=>I.sep r r' l l' k k' h1 h2 h3 h4 h5 (h6.less fun hr=>by show cont none _=cont none _;rw[hs r hr]) (h7.less fun hr=>by show cont none _=cont none _;rw[hs r' hr]) h8 h9
 clash:=fun r r' l l' j h1 h2 h3 h4 h5 h6=>I.clash r r' l l' j h1 h2 h3 h4 (fun h=>h5 (.inl h)) h6
 hid:=fun j r h1 h2 h3 h4=>by
  rcases h2 with h2|rfl
  ·exact I.hid j r h1 h2 h3 h4
  ·exact hs r h3
 le:=I.le
 fresh:=I.fresh
 os:=I.os
 tape:=I.tape
 output:=I.output
 size:=I.size
 keep:=I.keep
def join(m2 m:Mp):Mp:=fun r=>match m2 r with|some l=>some l|none=>m r
theorem qM{o o':dh}(e:cont none o=cont none o')(h:o≠.dead):o'≠.dead:=by
 have e:B_ o=B_ o':=by
  have:Ct.shape (B_ o)=Ct.shape (B_ o'):=e
  injection this
 exact Sb e h
theorem MInv.made(g:Rg P cf ops n nt S C){D:Nat→Prop}(hD:Closed ops D){m:Mp}{w:World}(I:MInv S C ops.size m0 w0 D m w){i:Nat}(hi:i<ops.size)(vz:¬D i)
 (fD:∀e,e∈ops[i].after.toList→Region.binds .any e=true→D e.on){A A':ae}{m2:Mp}{w':World}(hA:A.next=nx S i)(hA':A'.next=nx S (i +1))
 (rh:RH m2 A' w')(ex:Ex (m.upto (nx S i)) m2 A A' w w')(hlow:A.next≤A'.low∨(S ops.size).H.low≤A'.low)(hnew:∀r,nx S i≤r→r<nx S (i +1)→A'.obj r=(S (i +1)).H.obj r)
 (h3:(C i).k≠3)(hcase:((C i).k=2∧(∀r,A'.obj r=(S (i +1)).H.obj r)∧(∀r,A.obj r=(S i).H.obj r))∨((C i).k≠2∧A.next≤A'.low)):
 ∃m',MInv S C ops.size m0 w0 (xE D i) m' w'∧Mp.le m m'∧Mp.le m2 (m'.upto (nx S (i +1))):=by
 have hmono:=g.mono
 have hn1:nx S i≤nx S (i +1):=g.IB hi
 have hrange:∀r l,m r=some l→r<nx S i∨nx S (i +1)≤r:=by
  intro r l hr
  rcases I.dom r l hr with⟨_,h⟩|⟨j,hj,Dx,h1,h2⟩
  ·exact .inl (Nat.lt_of_lt_of_le h (hmono 0 i aa aa))
  ·have hji:j≠i:=fun e=>vz (e▸Dx)
   rcases Nat.lt_or_ge j i with h|h
   ·exact .inl (Nat.lt_of_lt_of_le h2 (hmono (j +1) i aa aa))
   ·exact .inr (Nat.le_trans (hmono (i +1) j aa aa) h1)
 have hm2:∀r l,m2 r=some l→r<nx S (i +1):=fun r l h=>by have:=rh.dom r l h;rw[hA']at this;exact this
 have hup:∀r l,m r=some l→r<nx S i→m2 r=some l:=fun r l h hr=>ex.le r l (Mp.xC h hr)
 have hnb:∀r l,m2 r=some l→m r≠some l→m r=none∧nx S i≤r∧m.upto (nx S i) r=none:=by
  intro r l h hne
  have abj:m.upto (nx S i) r=none:=by
   cases hu:m.upto (nx S i) r with
   |none=>rfl
   |some l'=>
    have:=ex.le r l' hu
    rw[h]at this;cases this
    exact absurd (Mp.fT hu).2 hne
  have hge:=ex.new r l h abj
  rw[hA]at hge
  refine⟨?_,hge,abj⟩
  cases hm:m r with
  |none=>rfl
  |some l'=>
   have h1:=hm2 r l h
   rcases hrange r l' hm with h'|h'<;>omega
 have hj2:∀r l,m2 r=some l→join m2 m r=some l:=fun r l h=>by unfold join;rw[h]
 have hj1:∀r l,m r=some l→join m2 m r=some l:=by
  intro r l h
  unfold join
  cases h2:m2 r with
  |none=>exact h
  |some l2=>
   by_cases e:m r=some l2
   ·rw[h]at e;cases e;rfl
   ·have:=(hnb r l2 h2 e).1;rw[h]at this;cases this
 have hcs:∀r l,join m2 m r=some l→m r=some l∨(m r=none∧m2 r=some l∧nx S i≤r∧r<nx S (i +1)∧m.upto (nx S i) r=none):=by
  intro r l h
  unfold join at h
  cases h2:m2 r with
  |none=>rw[h2]at h;exact .inl h
  |some l2=>
   rw[h2]at h
   have hl:l2=l:=by injection h
   subst hl
   by_cases e:m r=some l2
   ·exact .inl e
   ·have:=hnb r l2 h2 e
    exact .inr ⟨this.1,rfl,this.2.1,hm2 r l2 h2,this.2.2⟩
 have hle2:Mp.le m2 ((join m2 m).upto (nx S (i +1))):=fun r l h=>Mp.xC (hj2 r l h) (hm2 r l h)
 have ZW:Mp.le m (join m2 m):=hj1
 have abk:∀r l,m r=some l→((C i).k≠2∨nx S i≤r)→w'.heap[l.c]?=w.heap[l.c]?:=by
  intro r l h hor
  obtain⟨o,ho⟩:=I.Ps r l h
  refine ex.keep l.c (iK ho) ?_
  intro r1 l1 h1 hc1
  have hu:=Mp.fT h1
  rcases hcase with⟨hk,_,_⟩|⟨_,hlo⟩
  ·rcases hor with h'|h'
   ·exact absurd hk h'
   ·have:=(I.clash r r1 l l1 i h hu.2 hc1.symm hi vz hk).2 hu.1
    omega
  ·rw[hA]at hlo
   exact Nat.lt_of_lt_of_le hu.1 hlo
 have hsame:∀κ r,((C i).k≠2∨nx S i≤r)→r<nx S i→at' S κ r i=at' S κ r (i +1):=by
  intro κ r hor hr
  rcases hor with h|h
  ·show cont κ _=cont κ _;rw[g.same hi h h3 hr]
  ·omega
 have hborn:∀κ r l,m r=none→m2 r=some l→nx S i≤r→r<nx S (i +1)→vw S ops.size (xE D i) κ r (i +1):=by
  intro κ r l hm _ hge hlt
  refine⟨hlt,fun j hj Ho hne=>?_⟩
  have hji:i<j:=by
   rcases Nat.lt_or_ge i j with h|h
   ·exact h
   ·have:=hmono j i h aa;omega
  constructor
  ·rintro(h|h)
   ·exact absurd (by show cont κ _=cont κ _;rw[I.hid j r hj h Ho hm]) hne
   ·omega
  ·intro h;omega
 have hfr:∀r l,m2 r=some l→m.upto (nx S i) r=none→l.c<w.heap.size→(C i).k=2∧∃r0 l0,m r0=some l0∧l0.c=l.c∧r0<nx S i∧A'.low≤r0:=by
  intro r l h h0 hlt
  obtain⟨r0,l0,e1,e2,e3⟩:=ex.fresh r l h h0 hlt
  have hu:=Mp.fT e1
  refine⟨?_,r0,l0,hu.2,e2,hu.1,e3⟩
  rcases hcase with⟨hk,_,_⟩|⟨_,hlo⟩
  ·exact hk
  ·rw[hA]at hlo;omega
 have abl:(C i).k=2→∀κ r,r<nx S i→vw S ops.size (xE D i) κ r (i +1):=fun hk κ r hr=>g.adw hD hi vz fD hk hr
 have K7:∀r l,join m2 m r=some l→(m r=some l∧((C i).k≠2∨nx S i≤r))∨(m2 r=some l∧(∀κ,vw S ops.size (xE D i) κ r (i +1))∧A'.obj r=(S (i +1)).H.obj r∧
  ((m r=none∧nx S i≤r∧r<nx S (i +1)∧m.upto (nx S i) r=none)∨((C i).k=2∧m r=some l∧r<nx S i))):=by
  intro r l h
  rcases hcs r l h with h|⟨h1,h2,h3',h4,h5⟩
  ·by_cases hor:(C i).k≠2∨nx S i≤r
   ·exact .inl ⟨h,hor⟩
   ·have hk:(C i).k=2:=Classical.byContradiction fun e=>hor (.inl e)
    have hr:r<nx S i:=Nat.lt_of_not_le fun e=>hor (.inr e)
    refine .inr ⟨hup r l h hr,fun κ=>abl hk κ r hr,?_,.inr ⟨hk,h,hr⟩⟩
    rcases hcase with⟨_,h,_⟩|⟨h,_⟩
    ·exact h r
    ·exact absurd hk h
  ·exact .inr ⟨h2,fun κ=>hborn κ r l h1 h2 h3' h4,hnew r h3' h4,.inl ⟨h1,h3',h4,h5⟩⟩
 have abm:∀r r' l l',m r=some l→((C i).k≠2∨nx S i≤r)→m2 r'=some l'→
  ((m r'=none∧nx S i≤r'∧r'<nx S (i +1)∧m.upto (nx S i) r'=none)∨((C i).k=2∧m r'=some l'∧r'<nx S i))→l.c=l'.c→False:=by
  intro r r' l l' e hor e' hk hcc
  obtain⟨o,ho⟩:=I.Ps r l e
  have hlt:=iK ho
  rcases hk with⟨_,_,_,hu0⟩|⟨hk2,h1,h2⟩
  ·obtain⟨hk2,r0,l0,f1,f2,f3,_⟩:=hfr r' l' e' hu0 (by rw[←hcc];exact hlt)
   rcases hor with h1|h1
   ·exact h1 hk2
   ·have:=(I.clash r r0 l l0 i e f1 (by rw[f2,hcc]) hi vz hk2).2 f3
    omega
  ·rcases hor with h3|h3
   ·exact h3 hk2
   ·have:=(I.clash r r' l l' i e h1 hcc hi vz hk2).2 h2
    omega
 refine⟨join m2 m,⟨?_,?_,?_,?_,?_,?_,?_,?_,?_,?_,?_,?_,?_⟩,ZW,hle2⟩
 ·
  intro r l h
  rcases hcs r l h with h|⟨_,_,h3',h4,_⟩
  ·exact(I.dom r l h).imp id fun⟨j,h1,h2,h3⟩=>⟨j,h1,.inl h2,h3⟩
  ·exact .inr ⟨i,hi,.inr rfl,h3',h4⟩
 ·
  intro r l h
  rcases hcs r l h with h|⟨_,h2,_⟩
  ·obtain⟨o,ho⟩:=I.Ps r l h
   have:l.c<w'.heap.size:=Nat.lt_of_lt_of_le (iK ho) ex.size
   exact⟨w'.heap[l.c],Array.getElem?_eq_getElem this⟩
  ·obtain⟨o,ho,_⟩:=rh.ok r l h2
   exact⟨o,ho⟩
 ·
  intro κ r l k o hk hm hc ho
  rcases K7 r l hm with⟨h,hor⟩|⟨h2,hcon,rU,_⟩
  ·rw[abk r l h hor]at ho
   exact(I.cnt κ r l k o hk h (hc.less fun hr=>hsame κ r hor hr) ho).mono (Mp.lJ ZW (Nat.le_refl _))
  ·obtain⟨o2,ho2,hok⟩:=rh.ok r l h2
   rw[ho]at ho2;cases ho2
   have hrel:Rel κ m2 l (cont κ (A'.obj r)) o:=Rel.dL hok
   rw[rU]at hrel
   have heq:at' S κ r (i +1)=at' S κ r k:=vw.eq hmono aa hk (hcon κ) hc
   replace hrel:Rel κ m2 l (at' S κ r (i +1)) o:=hrel
   rw[heq]at hrel
   rcases Nat.lt_or_ge i k with hik|hik
   ·exact hrel.mono fun r1 l1 h1=>Mp.xC (hj2 r1 l1 h1) (Nat.lt_of_lt_of_le (hm2 r1 l1 h1) (hmono _ _ hik hk))
   ·
    have Yo:=hc.1
    have hri:r<nx S i:=Nat.lt_of_lt_of_le Yo (hmono k i hik aa)
    have hmr:m r=some l:=by
     rcases hcs r l hm with h|⟨_,_,h3',_⟩
     ·exact h
     ·omega
    have hnot:at' S κ r i=at' S κ r (i +1):=by
     apply Classical.byContradiction
     intro hne
     have:=(hc.2 i hi hri hne).1 (.inr rfl)
     omega
    obtain⟨o0,ho0⟩:=I.Ps r l hmr
    have hold:=I.cnt κ r l k o0 hk hmr (hc.less fun _=>hnot) ho0
    have hlr:Mp.le (m.upto (nx S k)) m2:=by
     intro r1 l1 h1
     have hu:=Mp.fT h1
     exact hup r1 l1 hu.2 (Nat.lt_of_lt_of_le hu.1 (hmono k i hik aa))
    exact(Rel.restrict hlr hrel hold).mono (Mp.lJ ZW (Nat.le_refl _))
 ·
  intro r r' l l' k k' h h' hcc hk hk' hc hc' hd hd'
  rcases K7 r l h with⟨e,hor⟩|⟨e,hcon,rU,hw⟩<;>rcases K7 r' l' h' with⟨e',abn⟩|⟨e',Sj,abo,hw'⟩
  ·exact I.sep r r' l l' k k' e e' hcc hk hk' (hc.less fun hr=>hsame none r hor hr) (hc'.less fun hr=>hsame none r' abn hr) hd hd'
  ·exact(abm r r' l l' e hor e' hw' hcc).elim
  ·exact(abm r' r l' l e' abn e hw hcc.symm).elim
  ·refine rh.sep r r' l l' e e' ?_ ?_ hcc
   ·rw[rU]
    exact qM (vw.eq hmono hk aa hc (hcon none)) hd
   ·rw[abo]
    exact qM (vw.eq hmono hk' aa hc' (Sj none)) hd'
 ·
  intro r r' l l' j h h' hcc hj Dx hkj
  have hji:j≠i:=fun e=>Dx (.inr e)
  have ZX:¬D j:=fun e=>Dx (.inl e)
  have hside:∀r1,nx S i≤r1→r1<nx S (i +1)→(r1<nx S j↔i<j):=by
   intro r1 h1 h2
   constructor
   ·intro h3
    rcases Nat.lt_or_ge i j with h4|h4
    ·exact h4
    ·have:=hmono j i h4 aa;omega
   ·intro h3;exact Nat.lt_of_lt_of_le h2 (hmono _ _ h3 aa)
  have hone:∀r r' l l',m r=none→m2 r=some l→nx S i≤r→r<nx S (i +1)→m.upto (nx S i) r=none→m r'=some l'→l.c=l'.c→(r<nx S j↔r'<nx S j):=by
   intro r r' l l' h1 h2 h3 h4 h5 h6 hcc
   obtain⟨o,ho⟩:=I.Ps r' l' h6
   obtain⟨hk2,r0,l0,f1,f2,f3,_⟩:=hfr r l h2 h5 (by rw[hcc];exact iK ho)
   have hij:i<j:=by
    rcases Nat.lt_or_ge i j with h7|h7
    ·exact h7
    ·have hlt:j<i:=by omega
     have hb:=F5 (g.dyn j i hlt hi) (.inr hkj) (.inr hk2) (.inl hkj)
     exact absurd (dR g.back hD i _ (Array.getElem?_eq_getElem hi) fD j hb) ZX
   rw[hside r h3 h4]
   have h8:r0<nx S j:=Nat.lt_of_lt_of_le f3 (hmono i j aa aa)
   have:=(I.clash r' r0 l' l0 j h6 f1 (by rw[f2,hcc]) hj ZX hkj).2 h8
   exact⟨fun _=>this,fun _=>hij⟩
  rcases hcs r l h with e|⟨a1,a2,a3,a4,a5⟩<;>rcases hcs r' l' h' with e'|⟨b1,b2,b3,b4,b5⟩
  ·exact I.clash r r' l l' j e e' hcc hj ZX hkj
  ·exact(hone r' r l' l b1 b2 b3 b4 b5 e hcc.symm).symm
  ·exact hone r r' l l' a1 a2 a3 a4 a5 e' hcc
  ·rw[hside r a3 a4,hside r' b3 b4]
 ·
  intro j r hj Dx hr hm
  have hmr:m r=none:=by
   cases h:m r with
   |none=>rfl
   |some l=>have:=hj1 r l h;rw[hm]at this;cases this
  rcases Dx with h|rfl
  ·exact I.hid j r hj h hr hmr
  ·rcases hcase with⟨hk,h1,h2⟩|⟨hk,_⟩
   ·rw[←h1,←h2]
    refine ex.hid r (by rw[hA];exact hr) ?_
    unfold Mp.upto
    rw[hmr];simp
   ·exact g.same hi hk h3 hr
 ·exact fun r l h=>hj1 r l (I.le r l h)
 ·
  intro r l h h0 hlt
  rcases hcs r l h with e|⟨a1,a2,a3,a4,a5⟩
  ·exact I.fresh r l e h0 hlt
  ·obtain⟨hk2,r0,l0,f1,f2,f3,f4⟩:=hfr r l a2 a5 (Nat.lt_of_lt_of_le hlt I.size)
   have hl2:(S ops.size).H.low≤r0:=by
    rcases hlow with h1|h1
    ·rw[hA]at h1;omega
    ·exact Nat.le_trans h1 f4
   cases h1:m0 r0 with
   |some l1=>
    have:=I.le r0 l1 h1
    rw[f1]at this;cases this
    exact⟨r0,l0,h1,f2,hl2⟩
   |none=>
    obtain⟨r1,l1,g1,g2,g3⟩:=I.fresh r0 l0 f1 h1 (by rw[f2];exact hlt)
    exact⟨r1,l1,g1,g2.trans f2,g3⟩
 ·exact ex.os.trans I.os
 ·exact ex.tape.trans I.tape
 ·exact ex.output.trans I.output
 ·exact Nat.le_trans I.size ex.size
 ·
  intro c hc hk
  rw[ex.keep c (Nat.lt_of_lt_of_le hc I.size),I.keep c hc hk]
  intro r l h1 h2
  have hu:=Mp.fT h1
  rcases hlow with h3'|h3'
  ·rw[hA]at h3';exact Nat.lt_of_lt_of_le hu.1 h3'
  ·cases h0:m0 r with
   |some l0=>
    have:=I.le r l0 h0
    rw[hu.2]at this;cases this
    exact Nat.lt_of_lt_of_le (hk r l h0 h2) h3'
   |none=>
    obtain⟨r0,l0,e1,e2,e3⟩:=I.fresh r l hu.2 h0 (by rw[h2];exact hc)
    have:=hk r0 l0 e1 (e2.trans h2)
    omega
end rg
theorem my{o:Option Unit}(h:gU o=true):o=some ():=by
 cases o with
 |none=>cases h
 |some u=>rfl
theorem EI{a b:Addr}(h:addrEq a b=true):a=b:=by
 obtain⟨r,o,s⟩:=a
 obtain⟨r',o',s'⟩:=b
 simp only[addrEq,Bool.and_eq_true]at h
 obtain⟨⟨⟨h1,h2⟩,h3⟩,h4⟩:=h
 have h1:=Nat.eq_of_beq_eq_true h1
 have h2:=Nat.eq_of_beq_eq_true h2
 cases s with
 |some _=>cases h3
 |none=>cases s' with
  |some _=>cases h4
  |none=>rw[h1,h2]
theorem K8{a b:Option Addr}(h:A_ a b=true):a=b:=by
 cases a with
 |none=>cases b with
  |none=>rfl
  |some _=>cases h
 |some x=>cases b with
  |none=>cases h
  |some y=>rw[EI (show addrEq x y=true from h)]
theorem Pt{a b:Option Nat}(h:Rf a b=true):a=b:=by
 cases a with
 |none=>cases b with
  |none=>rfl
  |some _=>cases h
 |some x=>cases b with
  |none=>cases h
  |some y=>rw[Nat.eq_of_beq_eq_true (show Nat.beq x y=true from h)]
theorem IC{x y:Value}(h:pP x y=true):x=y:=by
 unfold pP at h
 simp only[Bool.or_eq_true]at h
 rcases h with h|h|h|h|h|h|h
 ·replace h:=my h
  (replace h:=ai h;obtain⟨a,ha,h⟩:=h)
  (replace h:=ai h;obtain⟨b,hb,h⟩:=h)
  (replace h:=aG h;obtain⟨hg,h⟩:=h)
  rw[Bool.and_eq_true,BK,beq_iff_eq]at hg
  rw[gW ha,gW hb,pR hg.1,hg.2]
 ·replace h:=my h
  (replace h:=ai h;obtain⟨a,ha,h⟩:=h)
  (replace h:=ai h;obtain⟨b,hb,h⟩:=h)
  (replace h:=aG h;obtain⟨hg,h⟩:=h)
  rw[fI ha,fI hb,EI hg]
 ·replace h:=my h
  (replace h:=ai h;obtain⟨a,ha,h⟩:=h)
  (replace h:=ai h;obtain⟨b,hb,h⟩:=h)
  (replace h:=aG h;obtain⟨hg,h⟩:=h)
  rw[Bool.and_eq_true,Bool.and_eq_true]at hg
  rw[lD ha,lD hb,K8 hg.1.1,Nat.eq_of_beq_eq_true hg.1.2,Nat.eq_of_beq_eq_true hg.2]
 ·replace h:=my h
  (replace h:=ai h;obtain⟨a,ha,h⟩:=h)
  (replace h:=ai h;obtain⟨b,hb,h⟩:=h)
  (replace h:=aG h;obtain⟨hg,h⟩:=h)
  rw[BL,beq_iff_eq]at hg
  rw[gB ha,gB hb,hg]
 ·replace h:=my h
  (replace h:=ai h;obtain⟨a,ha,h⟩:=h)
  (replace h:=ai h;obtain⟨b,hb,h⟩:=h)
  (replace h:=aG h;obtain⟨hg,h⟩:=h)
  rw[oh,beq_iff_eq,ByteArray.toList_eq,ByteArray.toList_eq]at hg
  have:a=b:=by
   obtain⟨⟨la⟩⟩:=a
   obtain⟨⟨lb⟩⟩:=b
   simp at hg
   rw[hg]
  rw[fJ ha,fJ hb,this]
 ·replace h:=my h
  (replace h:=ai h;obtain⟨a,ha,h⟩:=h)
  (replace h:=ai h;obtain⟨b,hb,h⟩:=h)
  (replace h:=aG h;obtain⟨hg,h⟩:=h)
  rw[uD ha,uD hb,Pt hg]
 ·unfold Yi at h
  rw[Bool.and_eq_true,Bool.and_eq_true]at h
  obtain⟨⟨h1,h2⟩,h3⟩:=h
  cases x<;>first|(replace h1:false=true:=h1;cases h1;done)|skip
  all_goals cases y<;>first|rfl|(replace h2:false=true:=h2;cases h2;done)|(replace h3:false=true:=h3;cases h3;done)|skip
  all_goals
   rename_i p q
   cases p<;>cases q<;>first|rfl|(replace h1:false=true:=h1;cases h1;done)|(replace h2:false=true:=h2;cases h2;done)
theorem EJ{f:Value→Value→Bool}(hf:∀{x y:Value},f x y=true→x=y):∀{xs ys:List Value},qC f xs ys=true→xs=ys:=by
 intro xs
 induction xs with
 |nil=>
  intro ys h
  cases ys with
  |nil=>rfl
  |cons y ys=>cases h
 |cons x xs ih=>
  intro ys h
  cases ys with
  |nil=>cases h
  |cons y ys=>
   replace h:av (f x y) (qC f xs ys) false=true:=h
   cases h1:f x y with
   |false=>rw[h1]at h;cases h
   |true=>
    rw[h1]at h
    rw[hf h1,ih h]
theorem ID{f:Value→Value→Bool}(hf:∀{x y:Value},f x y=true→x=y){x y:Value}(h:MU f x y=true):x=y:=by
 replace h:=my h
 (replace h:=ai h;obtain⟨a,ha,h⟩:=h)
 (replace h:=ai h;obtain⟨b,hb,h⟩:=h)
 (replace h:=ai h;obtain⟨g,hg,h⟩:=h)
 (replace h:=ai h;obtain⟨k,hk,h⟩:=h)
 (replace h:=aG h;obtain⟨hh,h⟩:=h)
 rw[Bool.and_eq_true,Bool.and_eq_true]at hh
 rw[FC ha,FC hb,FD hg,FD hk,Nat.eq_of_beq_eq_true hh.1.1,EJ hf hh.1.2,EJ hf hh.2]
theorem Sk{x y:Value}(h:gK x y=true):x=y:=by
 have h00:∀{x y:Value},vP x y=true→x=y:=by
  intro x y h
  unfold vP at h
  rw[Bool.or_eq_true]at h
  rcases h with h|h
  ·exact IC h
  ·exact ID IC h
 unfold gK at h
 rw[Bool.or_eq_true]at h
 rcases h with h|h
 ·exact h00 h
 ·exact ID h00 h
theorem Sl:∀{xs ys:List Value},xx xs ys=true→xs=ys:=by
 intro xs
 induction xs with
 |nil=>
  intro ys h
  cases ys with
  |nil=>rfl
  |cons y ys=>cases h
 |cons x xs ih=>
  intro ys h
  cases ys with
  |nil=>cases h
  |cons y ys=>
   replace h:av (gK x y) (xx xs ys) false=true:=h
   cases h1:gK x y with
   |false=>rw[h1]at h;cases h
   |true=>
    rw[h1]at h
    rw[Sk h1,ih h]
theorem vY{H:ae}{r off k:Nat}{vs:List Value}(h:H.read r off k=some vs):∀j,j<k→dD (H.obj r) (off +j)=vs[j]?∧j<vs.length:=by
 intro j hj
 cases k with
 |zero=>omega
 |succ k=>
  replace h:(aj (kg (H.obj r)) fun w=>gd (Nat.ble (Nat.add off (k +1)) w.n) (some (Tr.vK top w.cells off (k +1))))=some vs:=h
  (replace h:=ai h;obtain⟨R,hR,h⟩:=h)
  (replace h:=aG h;obtain⟨hg,h⟩:=h)
  cases h
  have hg:off +(k +1)≤R.n:=Nat.le_of_ble_eq_true hg
  rw[jR hR,M0 _ _ _ _ _ hj,MZ]
  refine⟨?_,hj⟩
  simp only[dD]
  rw[if_pos aa]
theorem F7{A B:ae}{r off k:Nat}(h:sameAt A B r off k=true):∀j,off≤j→j<off +k→dD (A.obj r) j=dD (B.obj r) j:=by
 replace h:=my h
 (replace h:=ai h;obtain⟨x,hx,h⟩:=h)
 (replace h:=ai h;obtain⟨y,hy,h⟩:=h)
 (replace h:=aG h;obtain⟨hg,h⟩:=h)
 intro j h1 h2
 have a1:=(vY hx (j -off) aa).1
 have a2:=(vY hy (j -off) aa).1
 rw[show off +(j -off)=j from by omega]at a1 a2
 rw[a1,a2,Sl hg]
theorem Sm{o o':dh}(e:B_ o=B_ o')(i:Nat):(dD o i).isSome=(dD o' i).isSome:=by
 cases o<;>cases o'<;>simp only[B_]at e<;>first|rfl|cases e|skip
 case row.row R R'=>
  simp only[dh.row.injEq,Row.mk.injEq]at e
  simp only[dD,e.2.2.1]
  split<;>rfl
theorem yY{H H':ae}{r off:Nat}{vs:List Value}(h:H.write r off vs=some H'):
 H'.next=H.next∧(∀k,k≠r→H'.obj k=H.obj k)∧B_ (H'.obj r)=B_ (H.obj r)∧(∀i,¬(off≤i∧i<off +vs.length)→dD (H'.obj r) i=dD (H.obj r) i)∧
   (∀i,off≤i→i<off +vs.length→dD (H'.obj r) i=vs[i -off]?)∧(vs≠[]→H'.low≤r):=by
 cases vs with
 |nil=>
  cases h
  exact⟨rfl,fun _ _=>rfl,rfl,fun _ _=>rfl,fun i a b=>by simp at b;omega,fun h=>absurd rfl h⟩
 |cons v vs=>
  replace h:(aj (kg (H.obj r)) fun w=>
   gd (!w.dA&&Nat.ble (Nat.add off (len (v::vs))) w.n&&Nat.ble w.fz off&&all' aR (v::vs))
   (some (H.put r (.row ⟨w.ty,Tr.jG top (v::vs) off w.cells,w.n,false,w.fz⟩))))=some H':=h
  (replace h:=ai h;obtain⟨R,hR,h⟩:=h)
  (replace h:=aG h;obtain⟨hg,h⟩:=h)
  cases h
  have Dw:=jR hR
  simp only[Bool.and_eq_true,aM]at hg
  obtain⟨⟨⟨g0,g1⟩,g2⟩,g3⟩:=hg
  have g1:off +(v::vs).length≤R.n:=Nat.le_of_ble_eq_true g1
  have g0:R.dA=false:=by simpa using g0
  have rU:(H.put r (.row ⟨R.ty,Tr.jG top (v::vs) off R.cells,R.n,false,R.fz⟩)).obj r=.row ⟨R.ty,Tr.jG top (v::vs) off R.cells,R.n,false,R.fz⟩:=by rw[kE,if_pos rfl]
  refine⟨rfl,fun k hk=>by rw[kE,if_neg hk],?_,?_,?_,fun _=>(Bf _ _ _).1⟩
  ·rw[rU,Dw]
   simp only[B_,g0]
  ·intro i hi
   rw[rU,Dw]
   simp only[dD]
   rw[Tr.dW,if_neg hi]
  ·intro i h1 h2
   rw[rU]
   simp only[dD]
   rw[if_pos aa,Tr.dW,if_pos ⟨h1,h2⟩,List.getD_eq_getElem?_getD,List.getElem?_eq_getElem aa]
   rfl
section rg
variable{P:Program}{cf:cz}{ops:Array Oper}{n nt:Nat}{S:Nat→St}{C:Nat→Cl}{m0:Mp}{w0:World}
theorem K9{o:Op}{p:Operand×Operand}(h:qF o=some p):∃t,o=.store t p.1 p.2:=by
 cases o<;>first|cases h|skip
 exact⟨_,rfl⟩
theorem Pv{o:Op}{p:TypeId×Operand}(h:yM o=some p):o=.load p.1 p.2:=by
 cases o<;>first|cases h|skip
 rfl
structure ZY(P:Program)(cf:cz)(ops:Array Oper)(o:Oper)(s s1:St)(c:Cl):Prop where
 ex:∃t x y a H',o.op=.store t x y∧iw ops s o.guard=some true∧gT (ev s x)=some a∧c=⟨3,a.block,a.off,len (ax (ev s y)),hh0,hh0⟩∧
  nX P t (ev s x) (ev s y) (aU s).H=some (undef,H')∧s1=bI s o.dst undef ⟨H'.j6,H'.next,fC s.H.low H'.low⟩∧
  (aU s).H.write a.block a.off (ax (ev s y))=some H'
theorem pX(s:St)(x:Operand):ev (aU s) x=ev s x:=by cases x<;>rfl
theorem yZ{o:Oper}{s s1:St}{c:Cl}(h:Cf P cf ops o s s1 c)(hc:c.k=3):ZY P cf ops o s s1 c:=by
 cases h with
 |skip hw=>cases hc
 |rT v hw hr=>cases hc
 |mem v H' hw hr=>
  rcases F6 (P:=P) (o:=o.op) (s:=s) (H':=H')with⟨p,a,hs,ha,e⟩|e|⟨hlow,⟨_,e⟩|e|⟨p,a,l,hs,ha,hl,e⟩⟩
  ·obtain⟨t,hop⟩:=K9 hs
   rw[hop]at hr
   have h:=dU (o:=nX P t (ev (aU s) p.1) (ev (aU s) p.2) (aU s).H) hr
   rw[pX,pX]at h
   have h0:=h
   (replace h:=ai h;obtain⟨a',ha',h⟩:=h)
   (replace h:=ai h;obtain⟨s',hs',h⟩:=h)
   (replace h:=aG h;obtain⟨hg,h⟩:=h)
   (replace h:=ai h;obtain⟨H1,hH1,h⟩:=h)
   cases h
   rw[ha]at ha';cases ha'
   exact⟨t,p.1,p.2,a,_,hop,hw,ha,e,h0,rfl,hH1⟩
  all_goals(rw[e]at hc;cases hc)
theorem Rg.j4(g:Rg P cf ops n nt S C){κ:Option Nat}{j r:Nat}(hj:j<ops.size)(hc:(C j).k=3)(hne:at' S κ r j≠at' S κ r (j +1)):
 r=(C j).r∧∃i,κ=some i∧(C j).off≤i∧i<(C j).off +(C j).n:=by
 have hs:=yZ (g.step j _ (Array.getElem?_eq_getElem hj)) hc
 obtain⟨t,x,y,a,H',hop,hw,ha,e,hst,hs1,hwr⟩:=hs.ex
 obtain⟨_,h1,h2,h3,_,_⟩:=yY hwr
 have K_:∀k,(S (j +1)).H.obj k=H'.obj k:=by intro k;rw[hs1,dw];rfl
 have ZZ:∀k,(aU (S j)).H.obj k=(S j).H.obj k:=fun _=>rfl
 rw[e]
 simp only[aM]
 by_cases hr:r=a.block
 ·subst hr
  refine⟨rfl,?_⟩
  cases κ with
  |none=>exact absurd (by show Ct.shape _=Ct.shape _;rw[K_,h2,ZZ]) hne
  |some i=>
   refine⟨i,rfl,?_⟩
   apply Classical.byContradiction
   intro hni
   exact hne (by show Ct.cell _=Ct.cell _;rw[K_,h3 i hni,ZZ])
 ·exact absurd (by show cont κ _=cont κ _;rw[K_,h1 r hr,ZZ]) hne
theorem Rg.La(g:Rg P cf ops n nt S C){j r:Nat}(hj:j<ops.size)(hc:(C j).k=3)(hr:r≠(C j).r):(S (j +1)).H.obj r=(S j).H.obj r:=by
 have hs:=yZ (g.step j _ (Array.getElem?_eq_getElem hj)) hc
 obtain⟨t,x,y,a,H',hop,hw,ha,e,hst,hs1,hwr⟩:=hs.ex
 rw[e]at hr
 rw[hs1,dw]
 exact(yY hwr).2.1 r hr
theorem qN{x y:Cl}(h:mK x y=true){i:Nat}(hr:x.r=y.r)(h1:x.off≤i)(h2:i<x.off +x.n)(h3:y.off≤i)(h4:i<y.off +y.n):False:=by
 unfold mK at h
 rw[Bool.or_eq_true,Bool.or_eq_true]at h
 rcases h with(h|h)|h
 ·rw[hr]at h
  rw[show Nat.beq y.r y.r=true from Nat.beq_refl _]at h
  cases h
 ·have:=Nat.le_of_ble_eq_true h
  have e:Nat.add x.off x.n=x.off +x.n:=rfl
  omega
 ·have:=Nat.le_of_ble_eq_true h
  have e:Nat.add y.off y.n=y.off +y.n:=rfl
  omega
theorem Rg.Nn(g:Rg P cf ops n nt S C){j:Nat}{l:Cl}(hj:j<ops.size)(hc:(C j).k=2)(h:fQ (C j) l=true){i:Nat}(h1:l.off≤i)(h2:i<l.off +l.n):at' S (some i) l.r j=at' S (some i) l.r (j +1):=by
 have hs:=g.step j _ (Array.getElem?_eq_getElem hj)
 generalize hcj:C j=c at hs hc h
 generalize hsj:S (j +1)=s1 at hs
 show Ct.cell (dD ((S j).H.obj l.r) i)=Ct.cell (dD ((S (j +1)).H.obj l.r) i)
 rw[hsj]
 cases hs with
 |skip hw=>rw[dw]
 |rT v hw hr=>rw[dw]
 |mem v H' hw hr=>
  rw[dw]
  rcases F6 (P:=P) (o:=ops[j].op) (s:=S j) (H':=H')with⟨p,a,hs,ha,e⟩|e|⟨hlow,⟨_,e⟩|e|⟨p,a,l,hs,ha,hl,e⟩⟩
  ·rw[e]at hc;cases hc
  ·rw[e]at h
   have:=F7 (show sameAt (S j).H H' l.r l.off l.n=true from h) i h1 h2
   rw[this]
   rfl
  all_goals(rw[e]at hc;cases hc)
theorem Rg.adx(g:Rg P cf ops n nt S C){D:Nat→Prop}(hD:Closed ops D){i:Nat}(hi:i<ops.size)(vz:¬D i)(fD:∀e,e∈ops[i].after.toList→Region.binds .any e=true→D e.on)
 (hc:(C i).k=4){k:Nat}(h1:(C i).off≤k)(h2:k<(C i).off +(C i).n)(hr:(C i).r<nx S i):vw S ops.size D (some k) (C i).r i:=by
 refine⟨hr,fun j hj Ho hne=>?_⟩
 have hcj:=g.turns hj Ho hne
 have hoi:ops[i]?=some ops[i]:=Array.getElem?_eq_getElem hi
 have hoj:ops[j]?=some ops[j]:=Array.getElem?_eq_getElem hj
 have Yp:(C j).k=3→∀x y,mK x y=true→((x=C j∧y=C i)∨(x=C i∧y=C j))→False:=by
  intro h3 x y hno hxy
  obtain⟨e1,i',e2,e3,e4⟩:=g.j4 hj h3 hne
  cases e2
  rcases hxy with⟨rfl,rfl⟩|⟨rfl,rfl⟩
  ·exact qN hno e1.symm e3 e4 h1 h2
  ·exact qN hno e1 h1 h2 e3 e4
 rcases Nat.lt_trichotomy j i with h|h|h
 ·refine⟨fun _=>h,fun _=>?_⟩
  have hd:=g.dyn j i h hi
  rcases hcj with hcj|hcj
  ·rcases ZV hd hcj hc with hb|hb
   ·exact dR g.back hD i _ hoi fD j hb
   ·exact absurd (g.Nn hj hcj hb h1 h2) hne
  ·rcases ZT hd hcj hc with hb|hb
   ·exact dR g.back hD i _ hoi fD j hb
   ·exact(Yp hcj _ _ hb (.inl ⟨rfl,rfl⟩)).elim
 ·subst h;exact⟨fun h=>absurd h vz,fun h=>absurd h (Nat.lt_irrefl _)⟩
 ·refine⟨fun Dx=>?_,fun h'=>by omega⟩
  have hd:=g.dyn i j h hj
  have hb:aV (pJ ops j) i=true:=by
   rcases hcj with hcj|hcj
   ·rcases ZU hd hc hcj with hb|hb
    ·exact hb
    ·exact absurd (g.Nn hj hcj hb h1 h2) hne
   ·rcases ZS hd hc hcj with hb|hb
    ·exact hb
    ·exact(Yp hcj _ _ hb (.inr ⟨rfl,rfl⟩)).elim
  exact absurd (dR g.back hD j _ hoj (hD j _ hoj Dx) i hb) vz
theorem Lb{m:Mp}{H H':ae}{w:World}{t:TypeId}{x x' v:Value}{a:Addr}{ld:Option Nat}{l:Loc}{ob:Obj}(h:kz P t x H=some (v,H'))(hx:VR m x x')(ha:gT x=some a)(hl:QL P t=some ld)
 (hm:m a.block=some l)(K_:w.heap[l.c]?=some ob)(hc:∀i u,a.off≤i→i<a.off +ld.getD 1→dD (H.obj a.block) i=some u→lK m l i u ob):
 ∃v',VR m v v'∧(Instr.loadAt t x').run P w=.ok v' w:=by
 (replace h:=ai h;obtain⟨a0,ha0,h⟩:=h)
 (replace h:=ai h;obtain⟨l0,hl0,h⟩:=h)
 rw[ha]at ha0;cases ha0
 rw[hl]at hl0;cases hl0
 rw[fI ha]at hx
 obtain⟨l1,hm1,hlo,hsp,rfl⟩:=hx.jf
 rw[hm]at hm1;cases hm1
 have hcell:∀i u,a.off≤i→i<a.off +ld.getD 1→dD (H.obj a.block) i=some u→∃u',VR m u u'∧w.cell? ⟨l.c,l.base +(i -l.lo),none⟩=some u':=by
  intro i u h1 h2 h3
  obtain⟨cs,ty,fr,u',e,h4,h5⟩:=hc i u h1 h2 h3
  subst e
  exact⟨u',h5,by rw[cell_of K_];exact h4⟩
 obtain⟨d,i,hd,hi,hk⟩:=Ks hl
 rcases hk with⟨hag,rfl⟩|⟨hag,rfl⟩
 ·replace h:(aj (H.read a.block a.off i.size) fun vs=>some (Value.agg ⟨vs⟩,H))=some (v,H'):=h
  (replace h:=ai h;obtain⟨vs,hvs,h⟩:=h)
  cases h
  have hrc:=vY hvs
  have hvl:vs.length=i.size:=by
   cases hz:i.size with
   |zero=>rw[hz]at hvs;cases hvs;rfl
   |succ k=>
    rw[hz]at hvs
    have h:=hvs
    replace h:(aj (kg (H.obj a.block)) fun w=>gd (Nat.ble (Nat.add a.off (k +1)) w.n) (some (Tr.vK top w.cells a.off (k +1))))=some vs:=h
    (replace h:=ai h;obtain⟨R,hR,h⟩:=h)
    (replace h:=aG h;obtain⟨hg,h⟩:=h)
    cases h
    exact MZ _ _ _ _
  have key:∀(q:List Value)(b:Nat),vs.drop b=q→∃q',dF m q q'∧∀j u,q'[j]?=some u→w.cell? ((⟨l.c,l.base +(a.off -l.lo),none⟩:Addr).add (b +j))=some u:=by
   intro q
   induction q with
   |nil=>intro b _;exact⟨[],.nil,by simp⟩
   |cons u q ih=>
    intro b hb
    have hbu:vs[b]?=some u:=by
     have:=congrArg List.head? hb
     rwa [List.head?_drop]at this
    have hbl:b<vs.length:=(List.getElem?_eq_some_iff.1 hbu).1
    obtain⟨q',h1,h2⟩:=ih (b +1) (by rw[←List.tail_drop,hb];rfl)
    obtain⟨u',h3,h4⟩:=hcell (a.off +b) u aa (by show a.off +b<a.off +i.size;omega) (by rw[(hrc b aa).1];exact hbu)
    refine⟨u'::q',.cons _ _ _ _ h3 h1,?_⟩
    intro j z hz
    cases j with
    |zero=>
     simp at hz;subst hz
     rw[Nat.add_zero,uH l a.off _ hlo]
     exact h4
    |succ j=>
     have:=h2 j z (by simpa using hz)
     rw[show b +(j +1)=b +1 +j from by omega]
     exact this
  obtain⟨vs',h1,h2⟩:=key vs 0 rfl
  have hrun:=run_loadCells_list (P:=P) w ⟨l.c,l.base +(a.off -l.lo),none⟩ vs' (fun j u hu=>by have:=h2 j u hu;rwa [Nat.zero_add]at this)
  rw[←h1.length,hvl]at hrun
  exact⟨.agg ⟨vs'⟩,.agg _ _ h1,by simp[Instr.loadAt,Instr.sureAddr,loadVar,lG hd,hag,bM hi,hrun]⟩
 ·replace h:(aj (H.cell a.block a.off) fun v=>some (v,H))=some (v,H'):=h
  (replace h:=ai h;obtain⟨u,hu,h⟩:=h)
  cases h
  have h:=hu
  (replace h:=ai h;obtain⟨R,hR,h⟩:=h)
  (replace h:=aG h;obtain⟨hg,h⟩:=h)
  cases h
  have hg:a.off +1≤R.n:=Nat.le_of_ble_eq_true hg
  obtain⟨v',h1,h2⟩:=hcell a.off (R.cells.get top a.off) (Nat.le_refl _) (by show a.off<a.off +1;omega) (by rw[jR hR];simp only[dD];rw[if_pos aa])
  exact⟨v',h1,by simp[Instr.loadAt,Instr.sureAddr,loadVar,lG hd,hag,h2]⟩
theorem Sn{o:Op}{s:St}{v:Value}{H':ae}(hf:o8 o=true)(h:m_ o P cf s=.mem v H'):
 ∃ob,H'=s.H.new ob∧∀A:ae,A.next=s.H.next→m_ o P cf ⟨s.nl,s.nt,s.reg,s.tm,s.df,A⟩=.mem v (A.new ob):=by
 cases o<;>first|cases hf|skip
 case alloc e=>
  replace h:=dU (o:=sD P e s.H) h
  (replace h:=ai h;obtain⟨z,hz,h⟩:=h)
  cases h
  refine⟨_,rfl,fun A hA=>?_⟩
  show rm (aj (pE P e) fun z=>some (BD A.next,A.new (rowOf e z)))=_
  rw[hz,hA];rfl
 case box e x=>
  replace h:=dU (o:=Fx e (ev s x) s.H) h
  (replace h:=aG h;obtain⟨hg,h⟩:=h)
  cases h
  refine⟨_,rfl,fun A hA=>?_⟩
  have e1:ev ⟨s.nl,s.nt,s.reg,s.tm,s.df,A⟩ x=ev s x:=by cases x<;>rfl
  show rm (gd (ko (ev ⟨s.nl,s.nt,s.reg,s.tm,s.df,A⟩ x)) (some (BD A.next,A.new (rowOf e (ax (ev ⟨s.nl,s.nt,s.reg,s.tm,s.df,A⟩ x))))))=_
  rw[e1,hg,hA];rfl
 case makeMap t r=>
  replace h:=dU (o:=kD P t (Aw s r) s.H) h
  (replace h:=ai h;obtain⟨q,hq,h⟩:=h)
  (replace h:=aG h;obtain⟨hg,h⟩:=h)
  cases h
  refine⟨_,rfl,fun A hA=>?_⟩
  have e1:Aw ⟨s.nl,s.nt,s.reg,s.tm,s.df,A⟩ r=Aw s r:=by
   cases r with
   |none=>rfl
   |some x=>cases x<;>rfl
  show rm (aj (rR P t) fun _=>gd (@Option.rec Value (fun _=>Bool) true (fun v=>!(aD (jk v))) (Aw ⟨s.nl,s.nt,s.reg,s.tm,s.df,A⟩ r)) (some (Value.map (some A.next),A.new (.map []))))=_
  rw[e1,hq,hA]
  show rm (gd (@Option.rec Value (fun _=>Bool) true (fun v=>!(aD (jk v))) (Aw s r)) _)=_
  rw[hg];rfl
 case makeSlice t l c=>
  replace h:=dU (o:=g_ P t (ev s l) (ev s c) s.H) h
  (replace h:=ai h;obtain⟨q,hq,h⟩:=h)
  (replace h:=ai h;obtain⟨i,hi,h⟩:=h)
  (replace h:=ai h;obtain⟨z,hz,h⟩:=h)
  (replace h:=ai h;obtain⟨k,hk,h⟩:=h)
  (replace h:=ai h;obtain⟨k2,hk2,h⟩:=h)
  (replace h:=aG h;obtain⟨hg,h⟩:=h)
  cases h
  refine⟨_,rfl,fun A hA=>?_⟩
  have e1:ev ⟨s.nl,s.nt,s.reg,s.tm,s.df,A⟩ l=ev s l:=by cases l<;>rfl
  have e2:ev ⟨s.nl,s.nt,s.reg,s.tm,s.df,A⟩ c=ev s c:=by cases c<;>rfl
  show rm (g_ P t (ev ⟨s.nl,s.nt,s.reg,s.tm,s.df,A⟩ l) (ev ⟨s.nl,s.nt,s.reg,s.tm,s.df,A⟩ c) A)=_
  unfold g_
  rw[e1,e2,hq]
  show rm (aj (tI P q.1) _)=_
  rw[hi]
  show rm (aj (pE P q.1) _)=_
  rw[hz]
  show rm (aj (oV (ev s l)) _)=_
  rw[hk]
  show rm (aj (oV (ev s c)) _)=_
  rw[hk2]
  show rm (gd _ _)=_
  rw[hg,hA];rfl
 case buildSlice t k ps=>
  replace h:=dU (o:=jo P t k (Fy s ps) s.H) h
  (replace h:=ai h;obtain⟨q,hq,h⟩:=h)
  (replace h:=ai h;obtain⟨z,hz,h⟩:=h)
  (replace h:=aG h;obtain⟨hg,h⟩:=h)
  (replace h:=ai h;obtain⟨cs,hcs,h⟩:=h)
  cases h
  refine⟨_,rfl,fun A hA=>?_⟩
  have e1:Fy ⟨s.nl,s.nt,s.reg,s.tm,s.df,A⟩ ps=Fy s ps:=by
   obtain⟨ps⟩:=ps
   show mp (fun p=>(p.1,ev ⟨s.nl,s.nt,s.reg,s.tm,s.df,A⟩ p.2)) ps=mp (fun p=>(p.1,ev s p.2)) ps
   congr 1
   funext p
   cases p.2<;>rfl
  show rm (jo P t k (Fy ⟨s.nl,s.nt,s.reg,s.tm,s.df,A⟩ ps) A)=_
  unfold jo
  rw[e1,hq]
  show rm (aj (pE P q.1) _)=_
  rw[hz]
  show rm (gd _ _)=_
  rw[hg]
  show rm (aj (vv _ (Fy s ps) _) _)=_
  rw[hcs,hA];rfl
end rg
section rg
variable{P:Program}{cf:cz}{ops:Array Oper}{n nt:Nat}{S:Nat→St}{C:Nat→Cl}{m0:Mp}{w0:World}
theorem dX.cells{m:Mp}{l:Loc}{o:dh}{cs cs':Array Value}{ty:TypeId}{fr:Nat×Nat}(h:dX m l o (.cells cs ty fr))(hs:cs'.size=cs.size):dX m l o (.cells cs' ty fr):=by
 cases o with
 |dead=>trivial
 |row R=>
  obtain⟨h1,h2,h3,h4,h5,h6⟩:=h
  exact⟨h1,h2,by rw[hs];exact h3,h4,h5,h6⟩
 |map es=>exact h.elim
 |r_ s p=>exact h.elim
theorem Rg.ady(g:Rg P cf ops n nt S C){D:Nat→Prop}(hD:Closed ops D){i:Nat}(hi:i<ops.size)(vz:¬D i)(fD:∀e,e∈ops[i].after.toList→Region.binds .any e=true→D e.on)
 (hc:(C i).k=3):(∀j,j<ops.size→(C j).k=2→j<i∧D j)∧∀r,r<nx S i→vw S ops.size D none r i:=by
 have hoi:ops[i]?=some ops[i]:=Array.getElem?_eq_getElem hi
 have h2:∀j,j<ops.size→(C j).k=2→j<i∧D j:=by
  intro j hj hcj
  rcases Nat.lt_trichotomy j i with h|h|h
  ·exact⟨h,dR g.back hD i _ hoi fD j (Nj (g.dyn j i h hi) (.inr hcj) hc)⟩
  ·subst h;rw[hc]at hcj;cases hcj
  ·exact(Ni (g.dyn i j h hj) hc (.inr hcj)).elim
 refine⟨h2,fun r hr=>⟨hr,fun j hj Ho hne=>?_⟩⟩
 rcases g.turns hj Ho hne with hcj|hcj
 ·have:=h2 j hj hcj
  exact⟨fun _=>this.1,fun _=>this.2⟩
 ·obtain⟨_,k,hk,_⟩:=g.j4 hj hcj hne
  cases hk
theorem Lc(p:Nat→Bool):∀d k,p k=true→p (k +d)=false→∃j,k≤j∧j<k +d∧p j=true∧p (j +1)=false:=by
 intro d
 induction d with
 |zero=>intro k h1 h2;rw[Nat.add_zero,h1]at h2;cases h2
 |succ d ih=>
  intro k h1 h2
  cases hp:p (k +1)with
  |false=>exact⟨k,Nat.le_refl _,aa,h1,hp⟩
  |true=>
   obtain⟨j,a1,a2,a3⟩:=ih (k +1) hp (by rw[show k +1 +d=k +(d +1)from by omega];exact h2)
   exact⟨j,aa,aa,a3⟩
theorem MInv.stored(g:Rg P cf ops n nt S C){D:Nat→Prop}(hD:Closed ops D){m:Mp}{w:World}(I:MInv S C ops.size m0 w0 D m w){i:Nat}(hi:i<ops.size)(vz:¬D i)
 (fD:∀e,e∈ops[i].after.toList→Region.binds .any e=true→D e.on)(hc:(C i).k=3){t:TypeId}{x y:Operand}{x' y':Value}{a:Addr}{H':ae}
 (ha:gT (ev (S i) x)=some a)(hcl:C i=⟨3,a.block,a.off,len (ax (ev (S i) y)),hh0,hh0⟩)(hst:nX P t (ev (S i) x) (ev (S i) y) (aU (S i)).H=some (undef,H'))
 (hs1:(S (i +1)).H=⟨H'.j6,H'.next,fC (S i).H.low H'.low⟩)(hwr:(aU (S i)).H.write a.block a.off (ax (ev (S i) y))=some H')
 (hx:VR (m.upto (nx S i)) (ev (S i) x) x')(hy:VR (m.upto (nx S i)) (ev (S i) y) y'):
 ∃w',(Instr.storeAt t x' y').run P w=.ok () w'∧MInv S C ops.size m0 w0 (xE D i) m w':=by
 have hmono:=g.mono
 have h0:=hst
 have h:=hst
 (replace h:=ai h;obtain⟨a1,ha1,h⟩:=h)
 (replace h:=ai h;obtain⟨sz,hsz,h⟩:=h)
 (replace h:=aG h;obtain⟨hgl,h⟩:=h)
 (replace h:=ai h;obtain⟨H1,hH1,h⟩:=h)
 cases h
 rw[ha]at ha1;cases ha1
 obtain⟨inf,jM,rfl⟩:=iJ hsz
 have hlen:=Nat.eq_of_beq_eq_true hgl
 rw[aM]at hlen
 rw[fI ha]at hx
 obtain⟨l,hml,hlo,hsp,rfl⟩:=hx.jf
 have hu:=Mp.fT hml
 have hnt:ev (S i) y≠top:=by
  intro e
  rw[e]at hwr
  replace hwr:(aj (kg ((aU (S i)).H.obj a.block)) fun w=>
   gd (!w.dA&&Nat.ble (Nat.add a.off (len [top])) w.n&&Nat.ble w.fz a.off&&all' aR [top])
   (some ((aU (S i)).H.put a.block (.row ⟨w.ty,Tr.jG top [top] a.off w.cells,w.n,false,w.fz⟩))))=some H':=hwr
  have h:=hwr
  (replace h:=ai h;obtain⟨R,hR,h⟩:=h)
  (replace h:=aG h;obtain⟨hg,h⟩:=h)
  simp[all_eq,aR,top]at hg
 have hcv:=qJ hy hnt
 have Yq:∀w',(storeCells ⟨l.c,l.base +(a.off -l.lo),none⟩ (ax y')).run P w=.ok () w'→(Instr.storeAt t (.pointer (some ⟨l.c,l.base +(a.off -l.lo),none⟩)) y').run P w=.ok () w':=by
  intro w' hw'
  have hsz:y'.cells.size=inf.size:=by rw[sG];show(ax y').length=_;rw[←hcv.length,hlen]
  have hcl:y'.cells.toList=ax y':=(uE y').symm
  simp only[Instr.storeAt,Instr.sureAddr,storeVar,Sem.run_bind,Sem.run_pure,Result.andThen_ok,bM jM,hsz,ne_eq,not_true_eq_false,if_false,hcl]
  exact hw'
 have hwo:=yY hwr
 have K_:∀k,(S (i +1)).H.obj k=H'.obj k:=by intro k;rw[hs1];rfl
 by_cases hnil:ax (ev (S i) y)=[]
 ·rw[hnil]at hwr
  have hHH:(aU (S i)).H=H':=by
   have:some (aU (S i)).H=some H':=hwr
   injection this
  have hn':ax y'=[]:=by
   have:=hcv.length
   rw[hnil]at this
   exact List.eq_nil_of_length_eq_zero this.symm
  refine⟨w,Yq w (by rw[hn'];simp[storeCells]),I.still hi fun r hr=>?_⟩
  rw[K_,←hHH];rfl
 ·
  obtain⟨Nq,Ld⟩:=g.ady hD hi vz fD hc
  obtain⟨ob,WB⟩:=I.Ps _ _ hu.2
  have hsh:=I.cnt none _ _ i ob aa hu.2 (Ld _ hu.1) WB
  have hrow:∃R,(S i).H.obj a.block=.row R∧R.dA=false∧a.off +(ax (ev (S i) y)).length≤R.n∧R.fz≤a.off∧(ax (ev (S i) y)).all aR=true:=by
   cases hvs:ax (ev (S i) y)with
   |nil=>exact absurd hvs hnil
   |cons u us=>
    rw[hvs]at hwr
    replace hwr:(aj (kg ((aU (S i)).H.obj a.block)) fun w=>
     gd (!w.dA&&Nat.ble (Nat.add a.off (len (u::us))) w.n&&Nat.ble w.fz a.off&&all' aR (u::us))
     (some ((aU (S i)).H.put a.block (.row ⟨w.ty,Tr.jG top (u::us) a.off w.cells,w.n,false,w.fz⟩))))=some H':=hwr
    have h:=hwr
    (replace h:=ai h;obtain⟨R,hR,h⟩:=h)
    (replace h:=aG h;obtain⟨hg,h⟩:=h)
    simp only[Bool.and_eq_true,aM,all_eq]at hg
    exact⟨R,jR hR,by simpa using hg.1.1.1,Nat.le_of_ble_eq_true hg.1.1.2,Nat.le_of_ble_eq_true hg.1.2,hg.2⟩
  obtain⟨R,hR,hse,hbd,hfz,hoc⟩:=hrow
  have Z0:dX (m.upto (nx S i)) l (.row R) ob:=by
   have:dX (m.upto (nx S i)) l (B_ ((S i).H.obj a.block)) ob:=hsh
   rw[hR]at this
   exact this.KZ rfl
  cases ob with
  |cells cs ty fr=>
   obtain⟨⟨e1,e2⟩,e3,e4,e5,e6,e7⟩:=Z0
   have hlen':(ax y').length=(ax (ev (S i) y)).length:=hcv.length.symm
   obtain⟨w',cs',r1,r2,r3,r4,r5,r6,r7,r8,r9⟩:=om (P:=P) l.c (l.base +(a.off -l.lo)) ty fr (ax y') 0 cs w WB (sH hcv hoc) (by rw[hlen'];omega)
    (fun j b1 b2 b3=>by have:=e7 hse;omega)
   refine⟨w',Yq w' r1,?_⟩
   have Z4:(C i).r=a.block:=by rw[hcl]
   have WC:(C i).off=a.off:=by rw[hcl]
   have hCn:(C i).n=(ax (ev (S i) y)).length:=by rw[hcl];exact aM _
   have hnot:∀κ r,(r≠a.block∨∀k,κ=some k→¬(a.off≤k∧k<a.off +(ax (ev (S i) y)).length))→at' S κ r i=at' S κ r (i +1):=by
    intro κ r hor
    apply Classical.byContradiction
    intro hne
    obtain⟨f1,k,f2,f3,f4⟩:=g.j4 hi hc hne
    rw[Z4]at f1;rw[WC]at f3;rw[WC,hCn]at f4
    rcases hor with h|h
    ·exact h f1
    ·exact h k f2 ⟨f3,f4⟩
   have Z5:(S i).H.obj a.block≠.dead:=by rw[hR];simp
   have hother:∀r l1 k κ,r≠a.block→m r=some l1→l1.c=l.c→k≤ops.size→vw S ops.size D κ r k→∀o,Rel κ (m.upto (nx S k)) l1 (at' S κ r k) o:=by
    intro r l1 k κ hne hm1 hcc hk hcon o
    have zM:∀k',k'≤ops.size→vw S ops.size D none r k'→(S k').H.obj r=.dead:=by
     intro k' hk' Sj
     apply Classical.byContradiction
     intro hnd
     exact hne (I.sep r a.block l1 l k' i hm1 hu.2 hcc hk' aa Sj (Ld _ hu.1) hnd Z5)
    cases κ with
    |none=>
     show Rel none _ _ (.shape (B_ ((S k).H.obj r))) o
     rw[zM k hk hcon]
     trivial
    |some q=>
     show Rel (some q) _ _ (.cell (dD ((S k).H.obj r) q)) o
     cases hca:dD ((S k).H.obj r) q with
     |none=>trivial
     |some z=>
      exfalso
      have Sq:∀j,j<ops.size→r<nx S j→(C j).k≠2→(dD ((S j).H.obj r) q).isSome=(dD ((S (j +1)).H.obj r) q).isSome:=by
       intro j hj Ho h2
       apply Sm
       apply Classical.byContradiction
       intro hne'
       have hne2:at' S none r j≠at' S none r (j +1):=fun e=>hne' (by injection e)
       rcases g.turns hj Ho hne2 with h3|h3
       ·exact h2 h3
       ·obtain⟨_,_,h4,_⟩:=g.j4 hj h3 hne2
        cases h4
      by_cases hri:r<nx S i
      ·have hd:=zM i aa (Ld r hri)
       have hz:dD ((S i).H.obj r) q=none:=by rw[hd];rfl
       rcases Nat.lt_or_ge k i with hki|hki
       ·obtain⟨j,f1,f2,f3,f4⟩:=Lc (fun k=>(dD ((S k).H.obj r) q).isSome) (i -k) k (by simp[hca]) (by
         show(dD ((S (k +(i -k))).H.obj r) q).isSome=false
         rw[show k +(i -k)=i from by omega,hz];rfl)
        have Ho:r<nx S j:=Nat.lt_of_lt_of_le hcon.1 (hmono k j f1 aa)
        have hj2:(C j).k=2:=Classical.byContradiction fun e=>by
         have:=Sq j aa Ho e
         rw[f3,f4]at this;cases this
        have adz:at' S (some q) r j≠at' S (some q) r (j +1):=by
         intro e
         have e:dD ((S j).H.obj r) q=dD ((S (j +1)).H.obj r) q:=by injection e
         rw[e,f4]at f3;cases f3
        have:=(hcon.2 j aa Ho adz).1 (Nq j aa hj2).2
        omega
       ·have:∀d,i +d≤ops.size→(dD ((S (i +d)).H.obj r) q).isSome=false:=by
         intro d
         induction d with
         |zero=>intro _;rw[Nat.add_zero,hz];rfl
         |succ d ih=>
          intro hd'
          have h9:=Sq (i +d) aa (Nat.lt_of_lt_of_le hri (hmono i (i +d) aa aa)) (fun e=>by
           have:=(Nq (i +d) aa e).1;omega)
          rw[show i +(d +1)=i +d +1 from rfl,←h9]
          exact ih aa
        have:=this (k -i) aa
        rw[show i +(k -i)=k from by omega,hca]at this
        cases this
      ·have hcn:vw S ops.size D none r k:=by
        refine⟨hcon.1,fun j hj Ho hne'=>?_⟩
        exfalso
        rcases g.turns hj Ho hne' with h3|h3
        ·have:=(Nq j hj h3).1
         have:=hmono j i aa aa
         omega
        ·obtain⟨_,_,h4,_⟩:=g.j4 hj h3 hne'
         cases h4
       rw[zM k hk hcn]at hca
       cases hca
   refine⟨?_,?_,?_,?_,?_,?_,I.le,I.fresh,r7.trans I.os,r8.trans I.tape,r9.trans I.output,by rw[r6];exact I.size,?_⟩
   ·exact fun r l h=>(I.dom r l h).imp id fun⟨j,h1,h2,h3⟩=>⟨j,h1,.inl h2,h3⟩
   ·intro r l1 h1
    obtain⟨o,ho⟩:=I.Ps r l1 h1
    have:l1.c<w'.heap.size:=by rw[r6];exact iK ho
    exact⟨w'.heap[l1.c],Array.getElem?_eq_getElem this⟩
   ·
    intro κ r l1 k o hk hm1 hcon ho
    by_cases hr:r=a.block
    ·subst hr
     rw[hu.2]at hm1
     have hll:l=l1:=by injection hm1
     subst hll
     rw[r2]at ho
     have ho:Obj.cells cs' ty fr=o:=by injection ho
     subst ho
     by_cases hin:∃q,κ=some q∧a.off≤q∧q<a.off +(ax (ev (S i) y)).length
     ·obtain⟨q,rfl,q1,q2⟩:=hin
      have abp:vw S ops.size (xE D i) (some q) a.block (i +1):=by
       refine⟨Nat.lt_of_lt_of_le hu.1 (g.IB hi),fun j hj Ho hne=>?_⟩
       rcases g.turns hj Ho hne with h2|h3
       ·have:=Nq j hj h2
        exact⟨fun _=>by omega,fun _=>.inl this.2⟩
       ·obtain⟨f1,q',f2,f3,f4⟩:=g.j4 hj h3 hne
        cases f2
        have hoi:ops[i]?=some ops[i]:=Array.getElem?_eq_getElem hi
        have hoj:ops[j]?=some ops[j]:=Array.getElem?_eq_getElem hj
        rcases Nat.lt_trichotomy j i with h|h|h
        ·rcases Sg (g.dyn j i h hi) h3 hc with hb|hb
         ·exact⟨fun _=>by omega,fun _=>.inl (dR g.back hD i _ hoi fD j hb)⟩
         ·exact(qN hb (by rw[←f1,Z4]) f3 f4 (by rw[WC];exact q1) (by rw[WC,hCn];exact q2)).elim
        ·subst h
         exact⟨fun _=>by omega,fun _=>.inr rfl⟩
        ·rcases Sg (g.dyn i j h hj) hc h3 with hb|hb
         ·refine⟨fun hw=>?_,fun h'=>by omega⟩
          rcases hw with Dx|e
          ·exact absurd (dR g.back hD j _ hoj (hD j _ hoj Dx) i hb) vz
          ·omega
         ·exact(qN hb (by rw[←f1,Z4]) (by rw[WC];exact q1) (by rw[WC,hCn];exact q2) f3 f4).elim
      have heq:at' S (some q) a.block (i +1)=at' S (some q) a.block k:=vw.eq hmono aa hk abp hcon
      have hcell:dD ((S (i +1)).H.obj a.block) q=(ax (ev (S i) y))[q -a.off]?:=by rw[K_];exact hwo.2.2.2.2.1 q q1 q2
      have hrel:Rel (some q) (m.upto (nx S i)) l (at' S (some q) a.block k) (.cells cs' ty fr):=by
       rw[←heq]
       show Rel (some q) _ l (.cell (dD ((S (i +1)).H.obj a.block) q)) _
       rw[hcell]
       cases hz:(ax (ev (S i) y))[q -a.off]? with
       |none=>trivial
       |some z=>
        intro hlq
        obtain⟨z',f1,f2⟩:=hcv.get _ hz
        refine⟨cs',ty,fr,z',rfl,?_,f2⟩
        rw[r4,if_pos (by rw[hlen'];omega),show l.base +(q -l.lo) -(l.base +(a.off -l.lo) +0)=q -a.off from by omega]
        exact f1
      rcases Nat.lt_or_ge i k with hik|hik
      ·exact hrel.mono (Mp.lJ (fun _ _ h=>h) (hmono i k aa hk))
      ·have hni:at' S (some q) a.block i=at' S (some q) a.block (i +1):=by
        apply Classical.byContradiction
        intro hne
        have:=(hcon.2 i hi hu.1 hne).1 (.inr rfl)
        omega
       have hold:=I.cnt (some q) _ _ k _ hk hu.2 (hcon.less fun _=>hni) WB
       exact Rel.restrict (Mp.lJ (fun _ _ h=>h) (hmono k i hik aa)) hrel hold
     ·have hni:at' S κ a.block i=at' S κ a.block (i +1):=hnot κ _ (.inr fun q e h=>hin ⟨q,e,h.1,h.2⟩)
      have hold:=I.cnt κ _ _ k _ hk hu.2 (hcon.less fun _=>hni) WB
      cases κ with
      |none=>
       have hold:dX (m.upto (nx S k)) l (B_ ((S k).H.obj a.block)) (.cells cs ty fr):=hold
       exact hold.cells r3
      |some q=>
       have hold:Rel (some q) (m.upto (nx S k)) l (.cell (dD ((S k).H.obj a.block) q)) (.cells cs ty fr):=hold
       show Rel (some q) (m.upto (nx S k)) l (.cell (dD ((S k).H.obj a.block) q)) (.cells cs' ty fr)
       cases hz:dD ((S k).H.obj a.block) q with
       |none=>trivial
       |some z=>
        rw[hz]at hold
        intro hlq
        obtain⟨cs0,ty0,fr0,v,f1,f2,f3⟩:=hold hlq
        cases f1
        refine⟨cs',ty,fr,v,rfl,?_,f3⟩
        rw[r4,if_neg]
        ·exact f2
        ·rw[hlen']
         intro hh
         exact hin ⟨q,rfl,aa,aa⟩
    ·have hni:at' S κ r i=at' S κ r (i +1):=hnot κ r (.inl hr)
     have EK:=hcon.less fun _=>hni
     by_cases hcc:l1.c=l.c
     ·exact hother r l1 k κ hr hm1 hcc hk EK o
     ·rw[r5 _ hcc]at ho
      exact I.cnt κ r l1 k o hk hm1 EK ho
   ·intro r r' l1 l1' k k' h1 h2 h3 h4 h5 h6 h7 h8 h9
    exact I.sep r r' l1 l1' k k' h1 h2 h3 h4 h5 (h6.less fun _=>hnot none r (.inr fun q e=>by cases e)) (h7.less fun _=>hnot none r' (.inr fun q e=>by cases e)) h8 h9
   ·exact fun r r' l1 l1' j h1 h2 h3 h4 h5 h6=>I.clash r r' l1 l1' j h1 h2 h3 h4 (fun h=>h5 (.inl h)) h6
   ·intro j r hj Dx hr hmr
    rcases Dx with h|rfl
    ·exact I.hid j r hj h hr hmr
    ·refine g.La hi hc ?_
     rw[Z4]
     intro e
     rw[e,hu.2]at hmr
     cases hmr
   ·intro c hcs hk
    rw[r5,I.keep c hcs hk]
    intro e
    have hlow:(S ops.size).H.low≤a.block:=by
     have f1:=g.low (i +1) ops.size aa (Nat.le_refl _)
     rw[hs1]at f1
     have f2:(S ops.size).H.low≤fC (S i).H.low H'.low:=f1
     exact Nat.le_trans f2 (Nat.le_trans (uL _ _).2 (hwo.2.2.2.2.2 hnil))
    cases h0':m0 a.block with
    |some l0=>
     have:=I.le _ _ h0'
     rw[hu.2]at this;cases this
     have:=hk _ _ h0' e.symm
     omega
    |none=>
     obtain⟨r0,l0,f1,f2,f3⟩:=I.fresh _ _ hu.2 h0' (by rw[←e];exact hcs)
     have:=hk r0 l0 f1 (by rw[f2,e])
     omega
  |map o_ c=>exact Z0.elim
  |_=>exact Z0.elim
end rg
theorem nO{s:St}{d:Option Nat}{v:Value}{H:ae}(hd:B6 s.nt d=true)(t:Nat):aY (bI s d v H) t=if d=some t then v else aY s t:=by
 cases d with
 |none=>rfl
 |some d=>
  have hd:d<s.nt:=Nat.le_of_ble_eq_true hd
  show aY (h_ s d v H) t=_
  unfold h_
  cases hb:aV s.nl d with
  |true=>
   show aY ⟨s.nl,s.nt,s.reg,av (Nat.ble (Nat.succ d) s.nt) (s.tm.set top d v) s.tm,s.df,H⟩ t=_
   rw[show Nat.ble (Nat.succ d) s.nt=true from Nat.ble_eq_true_of_le hd]
   show av (aV s.nl t) ((s.tm.set top d v).get top t) (look s.reg t)=_
   rw[Tr.jQ]
   by_cases e:d=t
   ·subst e;rw[hb,if_pos rfl,if_pos rfl];rfl
   ·rw[if_neg (Ne.symm e),if_neg (by simpa using e)];rfl
  |false=>
   show av (aV s.nl t) (s.tm.get top t) (av (Nat.beq d t) v (look s.reg t))=_
   by_cases e:d=t
   ·subst e;rw[hb,if_pos rfl,show Nat.beq d d=true from Nat.beq_refl d];rfl
   ·rw[if_neg (by simpa using e),show Nat.beq d t=false from by rw[←Bool.not_eq_true];exact fun g=>e (Nat.eq_of_beq_eq_true g)];rfl
section rg
variable{P:Program}{cf:cz}{ops:Array Oper}{n nt:Nat}{S:Nat→St}{C:Nat→Cl}{m0:Mp}{w0:World}
def WG(ops:Array Oper)(D:Nat→Prop)(t k:Nat):Prop:=∀(j:Nat)(o:Oper),ops[j]?=some o→o.dst=some t→(D j↔j<k)
structure Inv(ops:Array Oper)(nt:Nat)(S:Nat→St)(C:Nat→Cl)(m0:Mp)(w0:World)(d0:List Deferred)(D:Nat→Prop)(m:Mp)(a:Act)(w:World):Prop where
 mem:MInv S C ops.size m0 w0 D m w
 size:a.tmps.size=nt
 slot:∀t k,k≤ops.size→WG ops D t k→VR (m.upto (nx S k)) (aY (S k) t) (a.tmps.getD t undef)
 de:a.defers=d0
theorem Rg.look(g:Rg P cf ops n nt S C){j:Nat}{o:Oper}(ho:ops[j]?=some o)(t:Nat)(h:o.dst≠some t):aY (S (j +1)) t=aY (S j) t:=by
 have hs:=g.step j o ho
 have hd:B6 (S j).nt o.dst=true:=by
  have:=g.ok j o ho
  unfold lI at this
  rw[Bool.and_eq_true]at this
  rw[g.nts j o ho];exact this.2
 generalize S (j +1)=s1 at hs
 generalize C j=c at hs
 cases hs with
 |skip hw=>rw[nO hd,if_neg h]
 |rT v hw hr=>rw[nO hd,if_neg h]
 |mem v H' hw hr=>rw[nO hd,if_neg h]
theorem get_put{a:Act}{d:Option Nat}{v:Value}{nt:Nat}(hs:a.tmps.size=nt)(hd:B6 nt d=true)(t:Nat):(a.put d v).tmps.getD t undef=if d=some t then v else a.tmps.getD t undef:=by
 cases d with
 |none=>rfl
 |some d=>
  have hd:d<nt:=Nat.le_of_ble_eq_true hd
  show(a.tmps.setIfInBounds d v).getD t undef=_
  by_cases e:d=t
  ·subst e
   rw[if_pos rfl]
   simp[Array.getD,hs,hd]
  ·rw[if_neg (by simpa using e)]
   simp only[Array.getD_eq_getD_getElem?]
   rw[Array.getElem?_setIfInBounds_ne e]
theorem Sr{a:Act}{d:Option Nat}{v:Value}:(a.put d v).tmps.size=a.tmps.size:=by
 cases d with
 |none=>rfl
 |some d=>show(a.tmps.setIfInBounds d v).size=_;simp
theorem Pw(g:Rg P cf ops n nt S C){D:Nat→Prop}(hD:Closed ops D){m m':Mp}{a:Act}(hsz:a.tmps.size=nt)(hsl:∀t k,k≤ops.size→WG ops D t k→VR (m.upto (nx S k)) (aY (S k) t) (a.tmps.getD t undef))
 {i:Nat}(hi:i<ops.size)(vz:¬D i)(hm:Mp.le m m'){v v':Value}(hv:VR (m'.upto (nx S (i +1))) v v')(EL:∀t,ops[i].dst=some t→aY (S (i +1)) t=v):
 ∀t k,k≤ops.size→WG ops (xE D i) t k→VR (m'.upto (nx S k)) (aY (S k) t) ((a.put ops[i].dst v').tmps.getD t undef):=by
 intro t k hk hcon
 have hoi:ops[i]?=some ops[i]:=Array.getElem?_eq_getElem hi
 have hd:B6 nt ops[i].dst=true:=by
  have:=g.ok i _ hoi
  unfold lI at this
  rw[Bool.and_eq_true]at this
  exact this.2
 rw[get_put hsz hd]
 by_cases e:ops[i].dst=some t
 ·rw[if_pos e]
  have hik:i<k:=(hcon i _ hoi e).1 (.inr rfl)
  have hsame:∀d,i +1 +d≤k→aY (S (i +1 +d)) t=v:=by
   intro d
   induction d with
   |zero=>intro _;exact EL t e
   |succ d ih=>
    intro hd'
    have hj:i +1 +d<ops.size:=by omega
    have hoj:ops[i +1 +d]?=some ops[i +1 +d]:=Array.getElem?_eq_getElem hj
    rw[show i +1 +(d +1)=i +1 +d +1 from rfl,g.look hoj t ?_,ih aa]
    intro e2
    have Dx:D (i +1 +d):=((hcon _ _ hoj e2).2 aa).resolve_right aa
    rcases g.stat i (i +1 +d) _ _ aa hoi hoj with hb|hap
    ·exact vz (dR g.back hD _ _ hoj (hD _ _ hoj Dx) i hb)
    ·exact(Oper.apart_spec hap).2.1 t e e2
  have:=hsame (k -(i +1)) aa
  rw[show i +1 +(k -(i +1))=k from by omega]at this
  rw[this]
  exact hv.mono (Mp.lJ (fun _ _ h=>h) (g.mono _ _ hik hk))
 ·rw[if_neg e]
  refine(hsl t k hk ?_).mono (Mp.lJ hm (Nat.le_refl _))
  intro j o hj hdj
  have hji:j≠i:=by
   intro e2;subst e2
   rw[hoi]at hj;cases hj
   exact e hdj
  rw[←hcon j o hj hdj]
  exact⟨.inl,fun h=>h.resolve_right hji⟩
theorem Ss(g:Rg P cf ops n nt S C){D:Nat→Prop}(hD:Closed ops D){i:Nat}(hi:i<ops.size)(vz:¬D i)
 (fD:∀e,e∈ops[i].after.toList→Region.binds .any e=true→D e.on){t:Nat}(ht:t∈ops[i].looksAt ops):WG ops D t i:=by
 intro j o hj hdj
 have hoi:ops[i]?=some ops[i]:=Array.getElem?_eq_getElem hi
 rcases Nat.lt_trichotomy j i with h|h|h
 ·refine⟨fun _=>h,fun _=>?_⟩
  rcases g.stat j i _ _ h hj hoi with hb|hap
  ·exact dR g.back hD i _ hoi fD j hb
  ·exact absurd ht ((Oper.apart_spec hap).1 t hdj)
 ·subst h;exact⟨fun h=>absurd h vz,fun h=>absurd h (Nat.lt_irrefl _)⟩
 ·refine⟨fun Dx=>?_,fun h'=>by omega⟩
  rcases g.stat i j _ _ h hoi hj with hb|hap
  ·exact absurd (dR g.back hD j _ hj (hD j _ hj Dx) i hb) vz
  ·exact absurd ht ((Oper.apart_spec hap).2.2 t hdj)
theorem Px{m:Mp}{s:St}{a:Act}{j:Nat}{y:Option Bool}(f:∀(o:Oper) t,ops[j]?=some o→o.dst=some t→VR m (aY s t) (a.tmps.getD t undef))(h:qD ops s j=some y):yielded ops a.tmps j=y:=by
 (replace h:=ai h;obtain⟨o,ho,h⟩:=h)
 (replace h:=ai h;obtain⟨t,ht,h⟩:=h)
 rw[fH,Array.getElem?_toList]at ho
 have hs:=f o t ho ht
 have hy:yielded ops a.tmps j=match a.tmps[t]? with|some (.bool b)=>some b|_=>none:=by
  unfold yielded
  rw[ho]
  show(match(o.dst).bind (a.tmps[·]?)with|some (.bool b)=>some b|_=>none)=_
  rw[ht]
  rfl
 rw[hy]
 cases hb:bK (aY s t)with
 |some b=>
  rw[hb]at h
  replace h:some (some b)=some y:=h
  cases h
  rw[gB hb]at hs
  have hs:=hs.of_bool
  rw[Array.getD_eq_getD_getElem?]at hs
  cases hq:a.tmps[t]? with
  |none=>rw[hq]at hs;cases hs
  |some x=>rw[hq]at hs;replace hs:x=.bool b:=hs;rw[hs]
 |none=>
  rw[hb]at h
  replace h:(gd (isU (aY s t)) (some (none:Option Bool)))=some y:=h
  (replace h:=aG h;obtain⟨hg,h⟩:=h)
  cases h
  rw[R7 hg]at hs
  obtain⟨l',hl,hv⟩:=VR.FE (x:=[]) hs
  cases hv
  rw[Array.getD_eq_getD_getElem?]at hl
  cases hq:a.tmps[t]? with
  |none=>rfl
  |some x=>rw[hq]at hl;replace hl:x=.tuple ⟨[]⟩:=hl;rw[hl]
theorem Cg{m:Mp}{s:St}{a:Act}{o:Oper}{b:Bool}(f:∀t,t∈o.looksAt ops→VR m (aY s t) (a.tmps.getD t undef))(h:iw ops s o.guard=some b):Region.wanted o (yielded ops a.tmps)=b:=by
 unfold Region.wanted
 cases hg:o.guard with
 |none=>rw[hg]at h;cases h;rfl
 |some p=>
  rw[hg]at h
  replace h:(aj (qD ops s p.1) fun y=>some (@Option.rec Bool (fun _=>Bool) false (fun b=>qy b p.2) y))=some b:=h
  (replace h:=ai h;obtain⟨y,hy,h⟩:=h)
  cases h
  obtain⟨j,want⟩:=p
  simp only
  rw[Px (m:=m) (s:=s) (fun o' t ho' ht=>f t (by
   unfold Oper.looksAt
   rw[hg]
   refine List.mem_append_right _ ?_
   simp only[ho',Option.bind_some,ht]
   simp)) hy]
  cases y with
  |none=>rfl
  |some c=>cases c<;>cases want<;>rfl
theorem Z6{m:Mp}{s:St}{a:Act}{o:Oper}(gl:Gl n m)(hok:all' (vX n) o.op.operands.toList=true)(f:∀t,t∈o.looksAt ops→VR m (aY s t) (a.tmps.getD t undef)):EF m s a.eval o.op.operands.toList:=by
 refine⟨fun x hx=>?_⟩
 rw[all_eq]at hok
 have hx':=List.all_eq_true.1 hok x hx
 cases x with
 |tmp t=>
  refine f t ?_
  unfold Oper.looksAt
  refine List.mem_append_left _ ?_
  rw[List.mem_filterMap]
  exact⟨_,hx,rfl⟩
 |const v=>exact .sc v hx'
 |global k=>
  obtain⟨l,h1,h2,h3,h4⟩:=gl k (Nat.le_of_ble_eq_true hx')
  have:=VR.ptr (m:=m) k 0 l h1 aa
  rw[h2,h3,h4]at this
  exact this
 |func f=>exact .func (.func f) [] [] [] [] .nil .nil
theorem Su{m:Mp}{s:St}{ρ:Operand→Value}{L:List Operand}(e:EF m s ρ L)(A:ae):EF m ⟨s.nl,s.nt,s.reg,s.tm,s.df,A⟩ ρ L:=⟨fun x hx=>by have:=e.all x hx;cases x<;>exact this⟩
theorem Inv.step(g:Rg P cf ops n nt S C)(hcf:xB P n cf)(gl0:Gl n m0)(Ay:∀r l,m0 r=some l→r<nx S 0){d0:List Deferred}{D:Nat→Prop}(hD:Closed ops D){m:Mp}{a:Act}{w:World}
 (I:Inv ops nt S C m0 w0 d0 D m a w){i:Nat}(hi:i<ops.size)(vz:¬D i)(fD:∀e,e∈ops[i].after.toList→Region.binds .any e=true→D e.on)
 {K:Act→World→Prop}{Q:Exit→Act→World→Prop}(HK:∀m' a' w',Inv ops nt S C m0 w0 d0 (xE D i) m' a' w'→K a' w'):wpOp P ops Q i K a w:=by
 have hoi:ops[i]?=some ops[i]:=Array.getElem?_eq_getElem hi
 have hst:=g.step i _ hoi
 have hok:=g.ok i _ hoi
 unfold lI at hok
 rw[Bool.and_eq_true]at hok
 have hdst:B6 (S i).nt ops[i].dst=true:=by rw[g.nts i _ hoi];exact hok.2
 have hsl:∀t,t∈ops[i].looksAt ops→VR (m.upto (nx S i)) (aY (S i) t) (a.tmps.getD t undef):=fun t ht=>I.slot t i aa (Ss g hD hi vz fD ht)
 have gli:Gl n (m.upto (nx S i)):=by
  intro k hk
  obtain⟨l,h1,h2⟩:=gl0 k hk
  exact⟨l,Mp.xC (I.mem.le _ _ h1) (Nat.lt_of_lt_of_le (Ay _ _ h1) (g.mono 0 i aa aa)),h2⟩
 have e:=Z6 gli hok.1 hsl
 have fin:∀(v v':Value)(m':Mp)(w':World),MInv S C ops.size m0 w0 (xE D i) m' w'→Mp.le m m'→VR (m'.upto (nx S (i +1))) v v'→(∀t,ops[i].dst=some t→aY (S (i +1)) t=v)→K (a.put ops[i].dst v') w':=by
  intro v v' m' w' hM hle hv hl
  exact HK m' _ w' ⟨hM,by rw[Sr];exact I.size,Pw g hD I.size I.slot hi vz hle hv hl,by rw[put_defers];exact I.de⟩
 have abq:Mp.le (m.upto (nx S i)) (m.upto (nx S (i +1))):=Mp.lJ (fun _ _ h=>h) (g.IB hi)
 unfold wpOp
 rw[hoi]
 generalize hs1:S (i +1)=s1 at hst
 generalize hci:C i=c at hst
 cases hst with
 |skip hw=>
  simp only[Cg hsl hw,Bool.false_eq_true,if_false]
  refine fin undef undef m w (I.mem.still hi fun r _=>by rw[hs1,dw]) (fun _ _ h=>h) (.tuple [] [] .nil) ?_
  intro t ht
  rw[hs1,nO hdst,if_pos ht]
 |rT v hw hr=>
  simp only[Cg hsl hw,if_true]
  left
  obtain⟨v',h1,h2⟩:=FX hr e.aU (fun _=>rfl)
  unfold Oper.wp
  rw[h2 w]
  refine fin v v' m w (I.mem.still hi fun r _=>by rw[hs1,dw]) (fun _ _ h=>h) (h1.mono abq) ?_
  intro t ht
  rw[hs1,nO hdst,if_pos ht]
 |mem v H' hw hr=>
  simp only[Cg hsl hw,if_true]
  left
  have EL:∀t,ops[i].dst=some t→aY (S (i +1)) t=v:=by
   intro t ht
   rw[hs1,nO hdst,if_pos ht]
  have rU:∀r,(S (i +1)).H.obj r=H'.obj r:=by intro r;rw[hs1,dw];rfl
  have hnx:nx S (i +1)=H'.next:=by show(S (i +1)).H.next=_;rw[hs1,dw]
  have abr:(S ops.size).H.low≤H'.low:=by
   have h1:=g.low (i +1) ops.size aa (Nat.le_refl _)
   rw[hs1,dw]at h1
   have h1:(S ops.size).H.low≤fC (S i).H.low H'.low:=h1
   exact Nat.le_trans h1 (uL _ _).2
  have Nr:((C i).k=2∨((C i).k=1∧nx S i≤H'.low))→ops[i].wp P a w K Q:=by
   intro hk
   have WH:(C i).k=1∨(C i).k=2:=by
    rcases hk with h|h
    ·exact .inr h
    ·exact .inl h.1
   have rh:RH (m.upto (nx S i)) (aU (S i)).H w:=by
    refine⟨fun r l h=>(Mp.fT h).1,?_,?_⟩
    ·intro r l h
     have hu:=Mp.fT h
     obtain⟨o,ho⟩:=I.mem.Ps r l hu.2
     exact⟨o,ho,Rel.Si fun κ=>I.mem.cnt κ r l i o aa hu.2 (g.Nl hD hi vz fD WH hu.1) ho⟩
    ·intro r r' l l' h h' hd hd' hc
     have hu:=Mp.fT h
     have hu':=Mp.fT h'
     exact I.mem.sep r r' l l' i i hu.2 hu'.2 hc aa aa (g.Nl hD hi vz fD WH hu.1) (g.Nl hD hi vz fD WH hu'.1) hd hd'
   refine Ce hcf (s:=aU (S i)) rh gli hr e.aU ?_
   intro m2 v' w' h1 h2 h3
   obtain⟨m',f1,f2,f3⟩:=I.mem.made g hD hi vz fD (A:=(aU (S i)).H) (A':=H') rfl hnx.symm h2 h3 (.inr abr) (fun r _ _=>(rU r).symm)
    (by rcases WH with h|h<;>omega) (by
     rcases hk with h|h
     ·exact .inl ⟨h,fun r=>(rU r).symm,fun r=>rfl⟩
     ·exact .inr ⟨aa,h.2⟩)
   exact fin v v' m' w' f1 f2 (h1.mono f3) EL
  rcases F6 (P:=P) (o:=ops[i].op) (s:=S i) (H':=H')with⟨p,ad,hs,ha,ec⟩|ec|⟨hlow,⟨hf,ec⟩|ec|⟨p,ad,l,hs,ha,hl,ec⟩⟩
  ·
   have hc3:(C i).k=3:=by rw[hci,ec]
   have hsk:=yZ (g.step i _ hoi) hc3
   obtain⟨t,x,y,a1,H1,hop,hw1,ha1,hcl,abt,adA,hwr⟩:=hsk.ex
   have hv:v=undef∧H'=H1:=by
    rw[hop]at hr
    have h:=dU (o:=nX P t (ev (aU (S i)) x) (ev (aU (S i)) y) (aU (S i)).H) hr
    rw[pX,pX,abt]at h
    cases h
    exact⟨rfl,rfl⟩
   obtain⟨w',r1,r2⟩:=I.mem.stored g hD hi vz fD hc3 ha1 hcl abt (by rw[adA,dw]) hwr (e.all x (by rw[hop];simp[Op.operands])) (e.all y (by rw[hop];simp[Op.operands]))
   have hrun:(execOp a.eval ops[i]).run P w=.ok .skip w':=by
    simp only[execOp,hop,Sem.run_bind,r1,Result.andThen_ok,Sem.run_pure]
   unfold Oper.wp
   rw[hrun]
   exact fin v undef m w' r2 (fun _ _ h=>h) (by rw[hv.1];exact .tuple [] [] .nil) EL
  ·exact Nr (.inl (by rw[hci,ec]))
  ·
   obtain⟨ob,e1,e2⟩:=Sn (cf:=cf) (s:=aU (S i)) hf hr
   have hA:=e2 ⟨.nil,nx S i,nx S i⟩ rfl
   have rh:RH (m.upto (nx S i)) ⟨.nil,nx S i,nx S i⟩ w:=by
    refine⟨fun r l h=>(Mp.fT h).1,?_,?_⟩
    ·intro r l h
     obtain⟨o,ho⟩:=I.mem.Ps r l (Mp.fT h).2
     refine⟨o,ho,?_⟩
     show jN _ _ ((Tr.nil:Tr dh).get .dead r) _
     rw[Tr.get_nil]
     trivial
    ·intro r r' l l' _ _ hd _ _
     exact absurd (Tr.get_nil _ _) hd
   refine Ce hcf (s:=⟨(S i).nl,(S i).nt,(S i).reg,(S i).tm,(S i).df,⟨.nil,nx S i,nx S i⟩⟩) rh gli hA (Su e _) ?_
   intro m2 v' w' h1 h2 h3
   have Py:(C i).k=5:=by rw[hci,ec];rfl
   obtain⟨m',f1,f2,f3⟩:=I.mem.made g hD hi vz fD (A:=⟨.nil,nx S i,nx S i⟩) (A':=(ae.mk .nil (nx S i) (nx S i)).new ob) rfl (by rw[hnx,e1];rfl) h2 h3 (.inl (Nat.le_refl _)) (by
    intro r a1 a2
    rw[rU,e1,ni,ni]
    have:r=nx S i:=by
     rw[hnx,e1]at a2
     have:r<nx S i +1:=a2
     omega
    rw[if_pos this]
    exact(if_pos this).symm) aa (.inr ⟨aa,Nat.le_refl _⟩)
   exact fin v v' m' w' f1 f2 (h1.mono f3) EL
  ·exact Nr (.inr ⟨by rw[hci,ec];rfl,hlow⟩)
  ·
   have hc4:(C i).k=4:=by rw[hci,ec]
   have hop:=Pv hs
   rw[hop]at hr
   have hld:=dU (o:=kz P p.1 (ev (aU (S i)) p.2) (aU (S i)).H) hr
   rw[pX]at hld
   have hx:=e.all p.2 (by rw[hop];simp[Op.operands])
   have hx0:=hx
   rw[fI ha]at hx0
   obtain⟨l1,hm1,_,_,_⟩:=hx0.jf
   have hu:=Mp.fT hm1
   obtain⟨ob,K_⟩:=I.mem.Ps _ _ hu.2
   have Z4:(C i).r=ad.block:=by rw[hci,ec]
   have WC:(C i).off=ad.off:=by rw[hci,ec]
   have hCn:(C i).n=l.getD 1:=by rw[hci,ec]
   obtain⟨v',h1,h2⟩:=Lb (P:=P) (w:=w) (ob:=ob) hld hx ha hl hm1 K_ (by
    intro k u q1 q2 q3
    have hcon:=g.adx hD hi vz fD hc4 (k:=k) (by rw[WC];exact q1) (by rw[WC,hCn];exact q2) (by rw[Z4];exact hu.1)
    rw[Z4]at hcon
    have hrel:=I.mem.cnt (some k) _ _ i ob aa hu.2 hcon K_
    have hrel:Rel (some k) (m.upto (nx S i)) l1 (.cell (dD ((S i).H.obj ad.block) k)) ob:=hrel
    replace q3:dD ((S i).H.obj ad.block) k=some u:=q3
    rw[q3]at hrel
    by_cases hlk:l1.lo≤k
    ·exact hrel hlk
    ·exfalso
     have:=hx
     rw[fI ha]at this
     obtain⟨l2,g1,g2,_⟩:=this.jf
     rw[hm1]at g1;cases g1
     omega)
   have hrun:(execOp a.eval ops[i]).run P w=.ok (.value v') w:=by
    simp only[execOp,hop,Sem.run_bind,h2,Result.andThen_ok,Sem.run_pure]
   unfold Oper.wp
   rw[hrun]
   refine fin v v' m w (I.mem.still hi fun r hr'=>g.same hi aa aa hr') (fun _ _ h=>h) (h1.mono abq) EL
end rg
section rg
variable{P:Program}{cf:cz}{ops:Array Oper}{n nt:Nat}{S:Nat→St}{C:Nat→Cl}
def left(N:Nat)(listed:Array Bool):Nat:=((List.range N).filter fun j=>!(listed.getD j false)).length
theorem filter_le(p q:Nat→Bool)(h:∀x,p x=true→q x=true):∀(l:List Nat),(l.filter p).length≤(l.filter q).length:=by
 intro l
 induction l with
 |nil=>exact Nat.le_refl _
 |cons y l ih=>
  simp only[List.filter_cons]
  cases hy:p y with
  |true=>rw[h y hy];simp only[if_true,List.length_cons];omega
  |false=>
   simp only[Bool.false_eq_true,if_false]
   split
   ·simp only[List.length_cons];omega
   ·exact ih
theorem filter_lt(p q:Nat→Bool)(h:∀x,p x=true→q x=true):∀(l:List Nat)(y:Nat),y∈l→q y=true→p y=false→(l.filter p).length<(l.filter q).length:=by
 intro l
 induction l with
 |nil=>intro y hy;cases hy
 |cons z l ih=>
  intro y hy hq hp
  simp only[List.filter_cons]
  rcases List.mem_cons.1 hy with e|hy
  ·rw[←e,hq,hp]
   have:=filter_le p q h l
   simp only[if_true,Bool.false_eq_true,if_false,List.length_cons]
   omega
  ·have:=ih y hy hq hp
   cases hz:p z with
   |true=>rw[h z hz];simp only[if_true,List.length_cons];omega
   |false=>
    simp only[Bool.false_eq_true,if_false]
    split
    ·simp only[List.length_cons];omega
    ·exact this
theorem Pz{N:Nat}{listed:Array Bool}(h:left N listed=0):∀j,j<N→listed.getD j false=true:=by
 intro j hj
 have:=List.eq_nil_of_length_eq_zero h
 have hm:=List.filter_eq_nil_iff.1 this j (List.mem_range.2 hj)
 simpa using hm
theorem Sv{N:Nat}{listed:Array Bool}{i:Nat}(hs:listed.size=N)(hi:i<N)(hl:listed.getD i false=false):left N (listed.setIfInBounds i true)<left N listed:=by
 refine filter_lt _ _ ?_ _ i (List.mem_range.2 hi) (by rw[hl];rfl) ?_
 ·intro x hx
  cases h:listed.getD x false with
  |false=>rfl
  |true=>rw[getD_set_true h]at hx;exact hx
 ·have:(listed.setIfInBounds i true).getD i false=true:=by simp[hs,hi]
  rw[this];rfl
theorem Le(N:Nat):left N (Array.replicate N false)≤N:=by
 unfold left
 have:=List.length_filter_le (fun j=>!((Array.replicate N false).getD j false)) (List.range N)
 simpa using this
theorem any_ok(g:Rg P cf ops n nt S C)(hcf:xB P n cf){m0:Mp}{w0:World}(gl0:Gl n m0)(Ay:∀r l,m0 r=some l→r<nx S 0){d0:List Deferred}{Q:Exit→Act→World→Prop}
 (HQ:∀D m a w,(∀j,j<ops.size→D j)→Inv ops nt S C m0 w0 d0 D m a w→Q .normal a w):
 ∀(fuel:Nat)(listed:Array Bool)(m:Mp)(a:Act)(w:World),listed.size=ops.size→left ops.size listed≤fuel→Closed ops (fun j=>listed.getD j false=true)→
  Inv ops nt S C m0 w0 d0 (fun j=>listed.getD j false=true) m a w→wpAny P .any ops Q fuel listed a w:=by
 have hall:∀(listed:Array Bool),listed.size=ops.size→Region.ready .any ops listed=[]→∀j,j<ops.size→listed.getD j false=true:=by
  intro listed hsz hr j
  induction j using Nat.strongRecOn with
  |_ j ih=>
   intro hj
   cases hl:listed.getD j false with
   |true=>rfl
   |false=>
    have hoj:ops[j]?=some ops[j]:=Array.getElem?_eq_getElem hj
    have hmem:j∈Region.ready .any ops listed:=by
     rw[mem_ready]
     refine⟨by simp[hsz,hj]at hl⊢;exact hl,ops[j],hoj,fun e he hb=>?_⟩
     have hlt:=sN ops.toList 0 j ops[j] g.back (by rw[Array.getElem?_toList];exact hoj) e (by simpa using he) hb
     exact ih e.on aa aa
    rw[hr]at hmem
    cases hmem
 intro fuel
 induction fuel with
 |zero=>
  intro listed m a w hsz hle hD I
  have h1:=Pz (Nat.le_zero.1 hle)
  refine⟨?_,HQ _ m a w h1 I⟩
  cases hr:Region.ready .any ops listed with
  |nil=>rfl
  |cons j l=>
   exfalso
   have hj:j∈Region.ready .any ops listed:=by rw[hr];exact List.mem_cons_self ..
   rw[mem_ready]at hj
   obtain⟨h2,o,ho,_⟩:=hj
   have hjs:j<ops.size:=(Array.getElem?_eq_some_iff.1 ho).1
   have:=h1 j hjs
   simp[hsz,hjs]at h2 this
   rw[h2]at this;cases this
 |succ fuel ih=>
  intro listed m a w hsz hle hD I
  refine⟨fun hr=>HQ _ m a w (hall listed hsz hr) I,fun i hi=>?_⟩
  rw[mem_ready]at hi
  obtain⟨h2,o,ho,h3⟩:=hi
  have his:i<ops.size:=(Array.getElem?_eq_some_iff.1 ho).1
  have hoo:ops[i]=o:=by
   have:=Array.getElem?_eq_getElem his
   rw[ho]at this;injection this with this;exact this.symm
  subst hoo
  have hun:listed.getD i false=false:=by simp[hsz,his]at h2⊢;exact h2
  have hset:∀j,((listed.setIfInBounds i true).getD j false=true)↔xE (fun j=>listed.getD j false=true) i j:=by
   intro j
   by_cases e:i=j
   ·subst e
    exact⟨fun _=>.inr rfl,fun _=>by simp[hsz,his]⟩
   ·rw[getD_set_ne false e]
    exact⟨.inl,fun h=>h.resolve_right (Ne.symm e)⟩
  refine Inv.step g hcf gl0 Ay hD I his (by rw[hun];simp) (fun e he hb=>h3 e (by simpa using he) hb) ?_
  intro m' a' w' I'
  have hfun:(fun j=>(listed.setIfInBounds i true).getD j false=true)=xE (fun j=>listed.getD j false=true) i:=by
   funext j
   exact propext (hset j)
  refine ih (listed.setIfInBounds i true) m' a' w' (by simpa using hsz) ?_ ?_ (by rw[hfun];exact I')
  ·have:=Sv (N:=ops.size) hsz his hun
   omega
  ·intro j o hj Dx e he hb
   rcases(hset j).1 Dx with h|h
   ·exact getD_set_true (hD j o hj h e he hb)
   ·subst h
    rw[ho]at hj;cases hj
    exact getD_set_true (h3 e (by simpa using he) hb)
end rg
section mem
variable{P:Program}
theorem WI(hmo:P.follows .mixedOrders=true){cf:cz}{n:Nat}(hcf:xB P n cf)(nt:Nat):FY P cf n nt:=by
 intro id ops s m a w Q hall hpl hnt rh f gl hpost
 replace hpost:Post m s.H w a.defers nt s.df Q (av (bX ops&&gz ops) (jU ops (bH P cf ops ops.toList (clear s) [])) .fail):=hpost
 cases hst:gz ops with
 |false=>rw[hpl,hst]at hpost;exact hpost.elim
 |true=>
  rw[hpl,hst]at hpost
  replace hpost:Post m s.H w a.defers nt s.df Q (jU ops (bH P cf ops ops.toList (clear s) [])):=hpost
  cases hr:bH P cf ops ops.toList (clear s) []with
  |none=>rw[hr]at hpost;exact hpost.elim
  |some q=>
   obtain⟨s1,cls⟩:=q
   rw[hr]at hpost
   replace hpost:Post m s.H w a.defers nt s.df Q (av (bO ops cls) (.norm s1) .fail):=hpost
   cases hdy:bO ops cls with
   |false=>rw[hdy]at hpost;exact hpost.elim
   |true=>
    rw[hdy]at hpost
    replace hpost:To m s.H w a.defers nt s.df s1 (Q .normal):=hpost
    rw[all_eq,List.all_eq_true]at hall
    obtain⟨S,C,e0,eN,e3,e4,_,e6⟩:=trace hcf (ops:=ops) (nt:=nt) ops.toList (clear s) s1 [] cls m a w hall hnt rh f.clear gl hr
    simp only[Array.length_toList]at eN e3 e4
    have hto:∀(j:Nat)(o:Oper),ops[j]?=some o→ops.toList[j]?=some o:=fun j o h=>by rw[Array.getElem?_toList];exact h
    have hsp:=Pq hst
    have hk5:∀j,j<ops.size→(C j).k≤5:=by
     intro j hj
     have hs:=(e6 j _ (hto j _ (Array.getElem?_eq_getElem hj))).1
     generalize S (j +1)=s2 at hs
     generalize C j=c at hs
     cases hs with
     |skip hw=>exact Nat.zero_le _
     |rT v hw hr=>exact Nat.zero_le _
     |mem v H' hw hr=>exact Se
    have g:Rg P cf ops n nt S C:=by
     refine⟨fun j o h=>(e6 j o (hto j o h)).1,fun j o h=>(e6 j o (hto j o h)).2.1,fun j o h=>(e6 j o (hto j o h)).2.2,?_,hsp.1,hsp.2,?_⟩
     ·intro j o h
      exact hall o (List.mem_of_getElem? (hto j o h))
     ·exact Sf hdy (by simpa using e3) e4 hk5
    have PD:nx S 0=s.H.next:=by show(S 0).H.next=_;rw[e0];rfl
    have IE:∀r,(S 0).H.obj r=s.H.obj r:=by intro r;rw[e0];rfl
    have Ay:∀r l,m r=some l→r<nx S 0:=fun r l h=>by rw[PD];exact rh.dom r l h
    have hup:∀k,k≤ops.size→Mp.le m (m.upto (nx S k)):=fun k hk r l h=>Mp.xC h (Nat.lt_of_lt_of_le (Ay r l h) (g.mono 0 k aa hk))
    have adB:∀j,j≤ops.size→(S j).df=s.df:=by
     intro j
     induction j with
     |zero=>intro _;rw[e0];rfl
     |succ j ih=>
      intro hj
      have hs:=g.step j _ (Array.getElem?_eq_getElem hj)
      rw[←ih aa]
      generalize S (j +1)=s2 at hs
      generalize C j=c at hs
      cases hs with
      |skip hw=>rw[uK]
      |rT v hw hr=>rw[uK]
      |mem v H' hw hr=>rw[uK]
    have abu:(S ops.size).nt=nt:=by
     cases hz:ops.size with
     |zero=>rw[e0];exact hnt
     |succ k=>
      have hj:k<ops.size:=by omega
      have hoj:=Array.getElem?_eq_getElem hj
      have hs:=g.step k _ hoj
      rw[←g.nts k _ hoj]
      generalize S (k +1)=s2 at hs
      generalize C k=c at hs
      cases hs with
      |skip hw=>rw[nA]
      |rT v hw hr=>rw[nA]
      |mem v H' hw hr=>rw[nA]
    have hfalse:∀j,((Array.replicate ops.size false).getD j false=true)↔False:=by
     intro j
     simp only[Array.getD_eq_getD_getElem?,Array.getElem?_replicate,iff_false]
     split<;>simp
    have EK:∀κ r k,k≤ops.size→vw S ops.size (fun j=>(Array.replicate ops.size false).getD j false=true) κ r k→r<nx S 0→at' S κ r 0=at' S κ r k:=by
     intro κ r k hk hcon hr
     refine vw.eq g.mono aa hk ⟨hr,fun j _ _ _=>?_⟩ hcon
     rw[hfalse]
     exact⟨fun h=>h.elim,fun h=>by omega⟩
    have hI:Inv ops nt S C m w.drew a.defers (fun j=>(Array.replicate ops.size false).getD j false=true) m a w.drew:=by
     refine⟨⟨?_,?_,?_,?_,?_,?_,fun _ _ h=>h,?_,rfl,rfl,rfl,Nat.le_refl _,fun _ _ _=>rfl⟩,by rw[f.size];exact hnt,?_,rfl⟩
     ·exact fun r l h=>.inl ⟨h,Ay r l h⟩
     ·intro r l h
      obtain⟨o,ho,_⟩:=rh.ok r l h
      exact⟨o,ho⟩
     ·intro κ r l k o hk hm hcon ho
      obtain⟨o',ho',hok⟩:=rh.ok r l hm
      have:o'=o:=by
       have h1:w.heap[l.c]?=some o:=ho
       rw[ho']at h1;injection h1
      subst this
      rw[←IE]at hok
      have hrel:Rel κ m l (at' S κ r 0) o':=Rel.dL hok
      rw[EK κ r k hk hcon (Ay r l hm)]at hrel
      exact hrel.mono (hup k hk)
     ·intro r r' l l' k k' h1 h2 h3 h4 h5 h6 h7 h8 h9
      refine rh.sep r r' l l' h1 h2 ?_ ?_ h3
      ·rw[←IE]
       exact qM (EK none r k h4 h6 (Ay r l h1)).symm h8
      ·rw[←IE]
       exact qM (EK none r' k' h5 h7 (Ay r' l' h2)).symm h9
     ·intro r r' l l' j h1 h2 _ hj _ _
      have hm:=g.mono 0 j aa aa
      exact⟨fun _=>Nat.lt_of_lt_of_le (Ay r' l' h2) hm,fun _=>Nat.lt_of_lt_of_le (Ay r l h1) hm⟩
     ·intro j r _ Dx
      exact((hfalse j).1 Dx).elim
     ·intro r l h h0;rw[h]at h0;cases h0
     ·intro t k hk hcon
      have hsame:∀d,d≤k→aY (S d) t=aY (S 0) t:=by
       intro d
       induction d with
       |zero=>intro _;rfl
       |succ d ih=>
        intro hd
        have hj:d<ops.size:=by omega
        have hoj:ops[d]?=some ops[d]:=Array.getElem?_eq_getElem hj
        rw[g.look hoj t ?_,ih aa]
        intro e
        exact(hfalse d).1 ((hcon d _ hoj e).2 aa)
      rw[hsame k (Nat.le_refl _),e0]
      exact(f.clear.slot t).mono (hup k hk)
    refine wp_region_any hmo ?_
    refine any_ok g hcf gl Ay ?_ ops.size (Array.replicate ops.size false) m a w.drew (by simp) (Le _) (fun j o _ h=>((hfalse j).1 h).elim) hI
    intro D m' a' w' hD I
    have Sw:∀κ r,r<nx S ops.size→vw S ops.size D κ r ops.size:=fun κ r hr=>⟨hr,fun j hj _ _=>⟨fun _=>hj,fun _=>hD j hj⟩⟩
    have Ns:∀r l,m' r=some l→r<nx S ops.size:=by
     intro r l h
     rcases I.mem.dom r l h with⟨_,h1⟩|⟨j,hj,_,_,h1⟩
     ·exact Nat.lt_of_lt_of_le h1 (g.mono 0 _ aa (Nat.le_refl _))
     ·exact Nat.lt_of_lt_of_le h1 (g.mono _ _ aa (Nat.le_refl _))
    have hnone:∀r,r<nx S 0→m r=none→m' r=none:=by
     intro r hr h
     cases h1:m' r with
     |none=>rfl
     |some l=>
      rcases I.mem.dom r l h1 with⟨h2,_⟩|⟨j,hj,_,h2,_⟩
      ·rw[h]at h2;cases h2
      ·have:=g.mono 0 j aa aa;omega
    refine hpost m' a' w' ⟨⟨?_,?_⟩,⟨?_,?_,?_⟩,?_,I.de,?_,?_⟩
    ·rw[←eN,abu];exact I.size
    ·intro t
     rw[←eN]
     refine(I.slot t ops.size (Nat.le_refl _) ?_).mono (Mp.Nh _ _)
     intro j o hj _
     have:j<ops.size:=(Array.getElem?_eq_some_iff.1 hj).1
     exact⟨fun _=>this,fun _=>hD j this⟩
    ·intro r l h;rw[←eN];exact Ns r l h
    ·intro r l h
     obtain⟨o,ho⟩:=I.mem.Ps r l h
     rw[←eN]
     exact⟨o,ho,(Rel.Si fun κ=>I.mem.cnt κ r l ops.size o (Nat.le_refl _) h (Sw κ r (Ns r l h)) ho).mono (Mp.Nh _ _)⟩
    ·intro r r' l l' h h' hd hd' hc
     rw[←eN]at hd hd'
     exact I.mem.sep r r' l l' _ _ h h' hc (Nat.le_refl _) (Nat.le_refl _) (Sw none r (Ns r l h)) (Sw none r' (Ns r' l' h')) hd hd'
    ·have hex:Ex m m' s.H s1.H w.drew w':=by
      rw[←eN]
      refine⟨I.mem.le,?_,?_,I.mem.os,I.mem.tape,I.mem.output,I.mem.size,I.mem.keep,?_,?_,?_,?_⟩
      ·intro r l h h0
       rcases I.mem.dom r l h with⟨h2,_⟩|⟨j,hj,_,h2,_⟩
       ·rw[h0]at h2;cases h2
       ·rw[←PD]
        exact Nat.le_trans (g.mono 0 j aa aa) h2
      ·exact I.mem.fresh
      ·rw[←PD];exact g.mono 0 _ aa (Nat.le_refl _)
      ·have:=g.low 0 ops.size aa (Nat.le_refl _)
       rw[e0]at this;exact this
      ·intro r h1 h2
       have:∀d,d≤ops.size→(S d).H.obj r=s.H.obj r:=by
        intro d
        induction d with
        |zero=>intro _;exact IE r
        |succ d ih=>
         intro hd
         rw[g.WA (j:=d) aa (Nat.lt_of_lt_of_le (by rw[PD];exact h1) (g.mono 0 d aa aa)) h2,ih aa]
       exact this ops.size (Nat.le_refl _)
      ·intro r h1 h2
       have hmn:=hnone r (by rw[PD];exact h1) h2
       have:∀d,d≤ops.size→(S d).H.obj r=s.H.obj r:=by
        intro d
        induction d with
        |zero=>intro _;exact IE r
        |succ d ih=>
         intro hd
         rw[I.mem.hid d r aa (hD d aa) (Nat.lt_of_lt_of_le (by rw[PD];exact h1) (g.mono 0 d aa aa)) hmn,ih aa]
       exact this ops.size (Nat.le_refl _)
     exact(Ex.drew m s.H w).trans hex
    ·rw[←eN];exact abu
    ·rw[←eN];exact adB _ (Nat.le_refl _)
theorem levels(hmo:P.follows .mixedOrders=true){X:Xt}{n:Nat}(hP:pW P n)(hX:QM P X)(hO:yX P X n)(k:Nat):F3 P n (bT P X k):=
 (Sa hP hX hO (fun _ hcf nt=>WI hmo hcf nt) k).2.2
end mem
section mem
variable{P:Program}
theorem pW.F8{n:Nat}(h:all' (R_ n) P.funcs.toList=true):pW P n:=by
 intro g fn hg
 rw[all_eq,List.all_eq_true]at h
 exact h fn (List.mem_of_getElem? (by rw[Array.getElem?_toList];exact hg))
end mem
def Ch(cf oZ:cz):Prop:=∀g args H r,cf g args H=some r→oZ g args H=some r
def Sy(cx Hq:Code→St→Out):Prop:=∀c s,cx c s≠.fail→Hq c s=cx c s
section mem
variable{P:Program}
theorem Yr{o:Option (Value×ae)}(h:rm o≠.fail):∃r,o=some r:=by
 cases o with
 |none=>exact absurd rfl h
 |some r=>exact⟨r,rfl⟩
theorem IG{cf oZ:cz}(h:Ch cf oZ){o:Op}{s:St}(hne:m_ o P cf s≠.fail):m_ o P oZ s=m_ o P cf s:=by
 cases o with
 |call c=>
  replace hne:kW c P cf s≠.fail:=hne
  show kW c P oZ s=kW c P cf s
  obtain⟨callee,args,ats⟩:=c
  cases callee with
  |builtin b=>rfl
  |value f=>
   obtain⟨r,hr⟩:=Yr (o:=aj (eY (.value f) P s) fun q=>cf q.1 (app q.2.1 (app (mp (ev s) args.toList) q.2.2)) s.H) hne
   show rm (aj (eY (.value f) P s) fun q=>oZ q.1 (app q.2.1 (app (mp (ev s) args.toList) q.2.2)) s.H)=rm (aj (eY (.value f) P s) fun q=>cf q.1 (app q.2.1 (app (mp (ev s) args.toList) q.2.2)) s.H)
   rw[hr]
   obtain⟨q,h1,h2⟩:=ai hr
   rw[h1]
   show rm (oZ _ _ _)=_
   rw[h _ _ _ _ h2]
  |invoke f nm=>
   obtain⟨r,hr⟩:=Yr (o:=aj (eY (.invoke f nm) P s) fun q=>cf q.1 (app q.2.1 (app (mp (ev s) args.toList) q.2.2)) s.H) hne
   show rm (aj (eY (.invoke f nm) P s) fun q=>oZ q.1 (app q.2.1 (app (mp (ev s) args.toList) q.2.2)) s.H)=rm (aj (eY (.invoke f nm) P s) fun q=>cf q.1 (app q.2.1 (app (mp (ev s) args.toList) q.2.2)) s.H)
   rw[hr]
   obtain⟨q,h1,h2⟩:=ai hr
   rw[h1]
   show rm (oZ _ _ _)=_
   rw[h _ _ _ _ h2]
 |_=>rfl
theorem PE{cf oZ:cz}(h:Ch cf oZ){o:Oper}{s s1:St}(hs:oW P cf o s=some s1):oW P oZ o s=some s1:=by
 unfold oW at hs⊢
 cases hd:iI o.op with
 |some c=>rw[hd]at hs;exact hs
 |none=>
  rw[hd]at hs
  replace hs:vQ o s (m_ o.op P cf s)=some s1:=hs
  show vQ o s (m_ o.op P oZ s)=some s1
  rw[IG h (by intro e;rw[e]at hs;cases hs)]
  exact hs
theorem zO{cf oZ:cz}(h:Ch cf oZ){ops:Array Oper}{o:Oper}{s s1:St}(hs:dK P cf ops o s=some s1):dK P oZ ops o s=some s1:=by
 obtain⟨b,hb,h2⟩:=ai hs
 unfold dK
 rw[hb]
 cases b with
 |true=>exact PE h h2
 |false=>exact h2
theorem zP{cf oZ:cz}(h:Ch cf oZ){ops:Array Oper}:∀{l:List Oper}{s s1:St},dS P cf ops l s=some s1→dS P oZ ops l s=some s1:=by
 intro l
 induction l with
 |nil=>intro s s1 hs;exact hs
 |cons o l ih=>
  intro s s1 hs
  replace hs:(aj (dK P cf ops o s) fun s=>dS P cf ops l s)=some s1:=hs
  obtain⟨s2,h1,h2⟩:=ai hs
  show(aj (dK P oZ ops o s) fun s=>dS P oZ ops l s)=some s1
  rw[zO h h1]
  exact ih h2
theorem xF{cf oZ:cz}(h:Ch cf oZ){ops:Array Oper}{o:Oper}{s:St}{r:St×Cl}(hs:cZ P cf ops o s=some r):cZ P oZ ops o s=some r:=by
 obtain⟨b,hb,h2⟩:=ai hs
 unfold cZ
 rw[hb]
 cases b with
 |true=>
  replace h2:zF P o s (m_ o.op P cf (aU s))=some r:=h2
  show zF P o s (m_ o.op P oZ (aU s))=some r
  rw[IG h (by intro e;rw[e]at h2;cases h2)]
  exact h2
 |false=>exact h2
theorem xG{cf oZ:cz}(h:Ch cf oZ){ops:Array Oper}:∀{l:List Oper}{s:St}{acc:List Cl}{r:St×List Cl},bH P cf ops l s acc=some r→bH P oZ ops l s acc=some r:=by
 intro l
 induction l with
 |nil=>intro s acc r hs;exact hs
 |cons o l ih=>
  intro s acc r hs
  replace hs:(aj (cZ P cf ops o s) fun q=>bH P cf ops l q.1 (q.2::acc))=some r:=hs
  obtain⟨s2,h1,h2⟩:=ai hs
  show(aj (cZ P oZ ops o s) fun q=>bH P oZ ops l q.1 (q.2::acc))=some r
  rw[xF h h1]
  exact ih h2
theorem II{cf oZ:cz}(h:Ch cf oZ){ops:Array Oper}{d:Bool}{s:St}(hne:region P cf ops d s≠.fail):region P oZ ops d s=region P cf ops d s:=by
 cases d with
 |false=>
  replace hne:zH (dS P cf ops ops.toList (clear s))≠.fail:=hne
  show zH (dS P oZ ops ops.toList (clear s))=zH (dS P cf ops ops.toList (clear s))
  cases hr:dS P cf ops ops.toList (clear s)with
  |none=>rw[hr]at hne;exact absurd rfl hne
  |some s1=>rw[zP h hr]
 |true=>
  replace hne:av (bX ops&&gz ops) (jU ops (bH P cf ops ops.toList (clear s) [])) .fail≠.fail:=hne
  show av (bX ops&&gz ops) (jU ops (bH P oZ ops ops.toList (clear s) [])) .fail=av (bX ops&&gz ops) (jU ops (bH P cf ops ops.toList (clear s) [])) .fail
  cases hb:(bX ops&&gz ops)with
  |false=>rfl
  |true=>
   rw[hb]at hne
   replace hne:jU ops (bH P cf ops ops.toList (clear s) [])≠.fail:=hne
   show jU ops (bH P oZ ops ops.toList (clear s) [])=jU ops (bH P cf ops ops.toList (clear s) [])
   cases hr:bH P cf ops ops.toList (clear s) []with
   |none=>rw[hr]at hne;exact absurd rfl hne
   |some r=>rw[xG h hr]
theorem xH{o o':Out}{k k':St→Out}(ho:o≠.fail→o'=o)(hk:∀s,k s≠.fail→k' s=k s)(hne:andThen o k≠.fail):andThen o' k'=andThen o k:=by
 cases o with
 |fail=>exact absurd rfl hne
 |norm s=>rw[ho (by simp)];exact hk s hne
 |exit i s=>rw[ho (by simp)];rfl
 |goto l s=>rw[ho (by simp)];rfl
 |ret s=>rw[ho (by simp)];rfl
theorem Ci{f f':St→Out}(hf:∀s,f s≠.fail→f' s=f s):∀(n n':Nat),n≤n'→∀s,mh n f s≠.fail→mh n' f' s=mh n f s:=by
 intro n
 induction n with
 |zero=>intro n' _ s h;exact absurd rfl h
 |succ n ih=>
  intro n' hn s h
  cases n' with
  |zero=>omega
  |succ n'=>
   show andThen (f' s) (mh n' f')=andThen (f s) (mh n f)
   exact xH (hf s) (fun s' h'=>ih n' aa s' h') h
theorem sO{cx Hq:Code→St→Out}(hx:Sy cx Hq)(body:Code):∀(n n':Nat),n≤n'→∀o,eZ cx n body o≠.fail→eZ Hq n' body o=eZ cx n body o:=by
 intro n
 induction n with
 |zero=>intro n' _ o h;exact absurd rfl h
 |succ n ih=>
  intro n' hn o h
  cases n' with
  |zero=>omega
  |succ n'=>
   cases o with
   |goto l s=>
    replace h:(@Option.rec Code (fun _=>Out) (.goto l s) (fun rest=>eZ cx n body (cx rest s)) (findLabel body l):Out)≠.fail:=h
    show(@Option.rec Code (fun _=>Out) (.goto l s) (fun rest=>eZ Hq n' body (Hq rest s)) (findLabel body l):Out)=(@Option.rec Code (fun _=>Out) (.goto l s) (fun rest=>eZ cx n body (cx rest s)) (findLabel body l):Out)
    cases hf:findLabel body l with
    |none=>rfl
    |some rest=>
     rw[hf]at h
     replace h:eZ cx n body (cx rest s)≠.fail:=h
     show eZ Hq n' body (Hq rest s)=eZ cx n body (cx rest s)
     have hne:cx rest s≠.fail:=by
      intro e
      rw[e]at h
      cases n with
      |zero=>exact h rfl
      |succ n=>exact h rfl
     rw[hx rest s hne]
     exact ih n' aa _ h
   |_=>rfl
theorem y_{cf oZ:cz}(h:Ch cf oZ){cx Hq:Code→St→Out}(hx:Sy cx Hq){n n':Nat}(hn:n≤n'):∀(c:Code)(s:St),exec P cf cx n c s≠.fail→exec P oZ Hq n' c s=exec P cf cx n c s:=by
 intro c
 induction c with
 |region id ops d=>intro s hne;exact II h hne
 |seq a b iha ihb=>
  intro s hne
  exact xH (o:=exec P cf cx n a s) (o':=exec P oZ Hq n' a s) (k:=exec P cf cx n b) (k':=exec P oZ Hq n' b) (iha s) ihb hne
 |cond c a b iha ihb=>
  intro s hne
  replace hne:zG (bK (ev s c)) (exec P cf cx n a s) (exec P cf cx n b s)≠.fail:=hne
  show zG (bK (ev s c)) (exec P oZ Hq n' a s) (exec P oZ Hq n' b s)=zG (bK (ev s c)) (exec P cf cx n a s) (exec P cf cx n b s)
  cases hb:bK (ev s c)with
  |none=>rfl
  |some b'=>
   rw[hb]at hne
   cases b' with
   |true=>exact iha s hne
   |false=>exact ihb s hne
 |block id a ih=>
  intro s hne
  replace hne:lz id (exec P cf cx n a s)≠.fail:=hne
  show lz id (exec P oZ Hq n' a s)=lz id (exec P cf cx n a s)
  rw[ih s (by intro e;rw[e]at hne;exact hne rfl)]
 |loop a ih=>intro s hne;exact Ci ih n n' hn s hne
 |scope a ih=>
  intro s hne
  replace hne:eZ cx n a (exec P cf cx n a s)≠.fail:=hne
  show eZ Hq n' a (exec P oZ Hq n' a s)=eZ cx n a (exec P cf cx n a s)
  have hne2:exec P cf cx n a s≠.fail:=by
   intro e
   rw[e]at hne
   cases n with
   |zero=>exact hne rfl
   |succ n=>exact hne rfl
  rw[ih s hne2]
  exact sO hx a n n' hn _ hne
 |_=>intro s _;rfl
theorem IJ{X:Xt}{L L':Lv}(h:Ch L.ca L'.ca)(hx:Sy L.cx L'.cx){n n':Nat}(hn:n≤n'):Ch (qG P X L n) (qG P X L' n'):=by
 intro g args H r hr
 cases hor:X.o g args H with
 |some q=>rw[sK hor]at hr⊢;exact hr
 |none=>
 rw[mq hor]at hr⊢
 obtain⟨fn,h1,h2⟩:=ai hr
 rw[h1]
 show OH P L' n' g (X g) fn args H=some r
 unfold OH at h2⊢
 cases hb:fn.body with
 |none=>rw[hb]at h2;exact h2
 |some c=>
  rw[hb]at h2
  obtain⟨h3,h4⟩:=aG (b:=Nat.ble (len args) fn.ntmps) h2
  obtain⟨s,h5,h6⟩:=ai h4
  show gd (Nat.ble (len args) fn.ntmps) (aj (Fz (exec P L'.ca L'.cx n' c ⟨bP P g,fn.ntmps,[],Tr.jG top args 0 .nil,[],H⟩)) fun s=>zI P fn s)=some r
  rw[h3,y_ h hx hn c _ (by intro e;rw[e]at h5;cases h5),h5]
  exact h6
theorem nE{X:Xt}:∀(n n':Nat),n≤n'→Ch (lv P X n).ca (lv P X n').ca∧Sy (lv P X n).cx (lv P X n').cx:=by
 intro n
 induction n with
 |zero=>intro n' _;exact⟨(fun g args H r h=>by cases h),(fun c s h=>absurd rfl h)⟩
 |succ n ih=>
  intro n' hn
  cases n' with
  |zero=>omega
  |succ n'=>
   obtain⟨h1,h2⟩:=ih n' aa
   exact⟨IJ h1 h2 aa,fun c s h=>y_ h1 h2 aa c s h⟩
def Ca(P:Program)(X:Xt)(g:FuncId)(args:List Value)(H:ae)(v:Value)(H':ae):Prop:=∃k,bT P X k g args H=some (v,H')
def xI(P:Program)(X:Xt)(k:Nat)(c:Code)(s:St):Out:=exec P (lv P X k).ca (lv P X k).cx k c s
def Ev(P:Program)(X:Xt)(c:Code)(s:St)(o:Out):Prop:=o≠.fail∧∃k,xI P X k c s=o
def Ro(P:Program)(X:Xt)(ops:Array Oper)(l:List Oper)(s s':St):Prop:=∃k,dS P (bT P X k) ops l s=some s'
def Z7(P:Program)(X:Xt)(ops:Array Oper)(l:List Oper)(s:St)(acc:List Cl)(r:St×List Cl):Prop:=∃k,bH P (bT P X k) ops l s acc=some r
variable{X:Xt}
theorem Ca.le{g:FuncId}{args:List Value}{H H':ae}{v:Value}{k k':Nat}(h:bT P X k g args H=some (v,H'))(hk:k≤k'):bT P X k' g args H=some (v,H'):=(nE k k' hk).1 _ _ _ _ h
theorem qO{c:Code}{s:St}{o:Out}{k k':Nat}(h:xI P X k c s=o)(ho:o≠.fail)(hk:k≤k'):xI P X k' c s=o:=by
 rw[←h]
 exact y_ (nE k k' hk).1 (nE k k' hk).2 hk c s (by show xI P X k c s≠_;rw[h];exact ho)
section rules
variable{s s1:St}{o:Out}{a b c:Code}
theorem Ev.skip:Ev P X .skip s (.norm s):=⟨by simp,0,rfl⟩
theorem Ev.label{l:Nat}:Ev P X (.label l) s (.norm s):=⟨by simp,0,rfl⟩
theorem Ev.exit{i:Nat}:Ev P X (.exit i) s (.exit i s):=⟨by simp,0,rfl⟩
theorem Ev.ret:Ev P X .ret s (.ret s):=⟨by simp,0,rfl⟩
theorem Ev.seq(h1:Ev P X a s (.norm s1))(h2:Ev P X b s1 o):Ev P X (.seq a b) s o:=by
 obtain⟨n1,k1,h1⟩:=h1
 obtain⟨n2,k2,h2⟩:=h2
 refine⟨n2,max k1 k2,?_⟩
 show andThen (xI P X (max k1 k2) a s) (xI P X (max k1 k2) b)=o
 rw[qO h1 n1 (Nat.le_max_left _ _)]
 exact qO h2 n2 (Nat.le_max_right _ _)
theorem Ev.WJ(h1:Ev P X a s (.ret s1)):Ev P X (.seq a b) s (.ret s1):=by
 obtain⟨n1,k1,h1⟩:=h1
 refine⟨n1,k1,?_⟩
 show andThen (xI P X k1 a s) (xI P X k1 b)=_
 rw[h1];rfl
theorem Ev.Sz{i:Nat}(h1:Ev P X a s (.exit i s1)):Ev P X (.seq a b) s (.exit i s1):=by
 obtain⟨n1,k1,h1⟩:=h1
 refine⟨n1,k1,?_⟩
 show andThen (xI P X k1 a s) (xI P X k1 b)=_
 rw[h1];rfl
theorem Ev.cond{x:Operand}{t:Bool}(hx:bK (ev s x)=some t)(h:Ev P X (if t then a else b) s o):Ev P X (.cond x a b) s o:=by
 obtain⟨n1,k1,h1⟩:=h
 refine⟨n1,k1,?_⟩
 show zG (bK (ev s x)) (xI P X k1 a s) (xI P X k1 b s)=o
 rw[hx]
 cases t with
 |true=>exact h1
 |false=>exact h1
theorem Ev.block{i:Nat}(h:Ev P X a s (.norm s1)):Ev P X (.block i a) s (.norm s1):=by
 obtain⟨n1,k1,h1⟩:=h
 refine⟨n1,k1,?_⟩
 show lz i (xI P X k1 a s)=_
 rw[h1];rfl
theorem Ev.WK(h1:Ev P X a s (.norm s1))(h2:Ev P X (.loop a) s1 o):Ev P X (.loop a) s o:=by
 obtain⟨n1,k1,h1⟩:=h1
 obtain⟨n2,k2,h2⟩:=h2
 refine⟨n2,max k1 k2 +1,?_⟩
 show andThen (xI P X (max k1 k2 +1) a s) (mh (max k1 k2) (xI P X (max k1 k2 +1) a))=o
 rw[qO h1 n1 (Nat.le_trans (Nat.le_max_left _ _) (Nat.le_succ _))]
 show mh (max k1 k2) (xI P X (max k1 k2 +1) a) s1=o
 replace h2:mh k2 (xI P X k2 a) s1=o:=h2
 rw[←h2]
 refine Ci ?_ k2 _ (Nat.le_max_right _ _) s1 (by rw[h2];exact n2)
 intro s2 hne
 exact qO rfl hne (Nat.le_trans (Nat.le_max_right _ _) (Nat.le_succ _))
theorem Ev.SA{i:Nat}(h:Ev P X a s (.exit i s1)):Ev P X (.loop a) s (.exit i s1):=by
 obtain⟨n1,k1,h1⟩:=h
 refine⟨n1,k1 +1,?_⟩
 show andThen (xI P X (k1 +1) a s) _=_
 rw[qO h1 n1 (Nat.le_succ _)];rfl
theorem Ev.SC(h:Ev P X a s (.ret s1)):Ev P X (.loop a) s (.ret s1):=by
 obtain⟨n1,k1,h1⟩:=h
 refine⟨n1,k1 +1,?_⟩
 show andThen (xI P X (k1 +1) a s) _=_
 rw[qO h1 n1 (Nat.le_succ _)];rfl
theorem Ev.region{id:Nat}{ops:Array Oper}(h:Ro P X ops ops.toList (clear s) s1):Ev P X (.region id ops false) s (.norm s1):=by
 obtain⟨k,h⟩:=h
 refine⟨by simp,k,?_⟩
 show zH (dS P (bT P X k) ops ops.toList (clear s))=_
 rw[h];rfl
theorem Ev.IK{id:Nat}{ops:Array Oper}{cls:List Cl}(hp:(bX ops&&gz ops)=true)(h:Z7 P X ops ops.toList (clear s) [] (s1,cls))(hd:bO ops cls=true):Ev P X (.region id ops true) s (.norm s1):=by
 obtain⟨k,h⟩:=h
 refine⟨by simp,k,?_⟩
 show av (bX ops&&gz ops) (jU ops (bH P (bT P X k) ops ops.toList (clear s) [])) .fail=_
 rw[hp]
 show jU ops (bH P (bT P X k) ops ops.toList (clear s) [])=_
 rw[h]
 show av (bO ops cls) (Out.norm s1) Out.fail=_
 rw[hd];rfl
theorem Ro.nil{ops:Array Oper}:Ro P X ops [] s s:=⟨0,rfl⟩
def So(P:Program)(X:Xt)(ops:Array Oper)(p:Oper)(s s':St):Prop:=∃k,dK P (bT P X k) ops p s=some s'
theorem Ro.cons{ops:Array Oper}{p:Oper}{l:List Oper}{s2:St}(h1:So P X ops p s s1)(h2:Ro P X ops l s1 s2):Ro P X ops (p::l) s s2:=by
 obtain⟨k1,h1⟩:=h1
 obtain⟨k2,h2⟩:=h2
 refine⟨max k1 k2,?_⟩
 show(aj (dK P (bT P X (max k1 k2)) ops p s) fun s=>dS P (bT P X (max k1 k2)) ops l s)=_
 rw[show dK P (bT P X (max k1 k2)) ops p s=some s1 from zO (nE k1 _ (Nat.le_max_left k1 k2)).1 h1]
 exact zP (nE k2 _ (Nat.le_max_right k1 k2)).1 h2
theorem So.rT{ops:Array Oper}{p:Oper}{v:Value}(hw:iw ops s p.guard=some true)(hd:iI p.op=none)(h:∀cf,m_ p.op P cf s=.rT v):So P X ops p s (bI s p.dst v s.H):=by
 refine⟨0,?_⟩
 unfold dK
 rw[hw]
 show oW P _ p s=_
 unfold oW
 rw[hd]
 show vQ p s (m_ p.op P _ s)=_
 rw[h];rfl
theorem So.mem{ops:Array Oper}{p:Oper}{v:Value}{H':ae}(hw:iw ops s p.guard=some true)(hd:iI p.op=none)(h:∀cf,m_ p.op P cf s=.mem v H'):So P X ops p s (bI s p.dst v H'):=by
 refine⟨0,?_⟩
 unfold dK
 rw[hw]
 show oW P _ p s=_
 unfold oW
 rw[hd]
 show vQ p s (m_ p.op P _ s)=_
 rw[h];rfl
theorem So.skip{ops:Array Oper}{p:Oper}(hw:iw ops s p.guard=some false):So P X ops p s (bI s p.dst undef s.H):=by
 refine⟨0,?_⟩
 unfold dK
 rw[hw];rfl
theorem So.call{ops:Array Oper}{p:Oper}{q:Call}{g:FuncId}{pre post:List Value}{v:Value}{H':ae}(hw:iw ops s p.guard=some true)(hop:p.op=.call q)(hb:isBuiltin q.callee=none)(hc:eY q.callee P s=some (g,pre,post))
 (h:Ca P X g (app pre (app (mp (ev s) q.args.toList) post)) s.H v H'):So P X ops p s (bI s p.dst v H'):=by
 obtain⟨k,h⟩:=h
 refine⟨k,?_⟩
 unfold dK
 rw[hw]
 show oW P _ p s=_
 unfold oW
 rw[show iI p.op=none from by rw[hop];rfl]
 show vQ p s (m_ p.op P (bT P X k) s)=_
 have:m_ p.op P (bT P X k) s=.mem v H':=by
  rw[hop]
  show kW q P (bT P X k) s=_
  unfold kW
  rw[hb]
  show rm (aj (eY q.callee P s) fun z=>bT P X k z.1 (app z.2.1 (app (mp (ev s) q.args.toList) z.2.2)) s.H)=_
  rw[hc]
  show rm (bT P X k g (app pre (app (mp (ev s) q.args.toList) post)) s.H)=_
  rw[h];rfl
 rw[this];rfl
theorem Ca.body{g:FuncId}{fn:Func}{c:Code}{args:List Value}{H:ae}{o:Out}{s1:St}{vs:List Value}(hor:X.o g args H=none)(hg:nth P.funcs.toList g=some fn)(hb:fn.body=some c)(hl:Nat.ble (len args) fn.ntmps=true)
 (h:Ev P X c ⟨bP P g,fn.ntmps,[],Tr.jG top args 0 .nil,[],H⟩ o)(ho:Fz o=some s1)(hdf:Nat.beq (len s1.df) 0=true)(hr:dn P s1 fn.results.toList=some vs):Ca P X g args H (je vs) s1.H:=by
 obtain⟨n1,k,h⟩:=h
 refine⟨k +1,?_⟩
 show qG P X (lv P X k) k g args H=_
 rw[mq hor,hg]
 show OH P (lv P X k) k g (X g) fn args H=_
 unfold OH
 rw[hb]
 show gd (Nat.ble (len args) fn.ntmps) (aj (Fz (xI P X k c ⟨bP P g,fn.ntmps,[],Tr.jG top args 0 .nil,[],H⟩)) fun s=>zI P fn s)=_
 rw[hl,h,ho]
 show zI P fn s1=_
 unfold zI
 rw[hdf,hr];rfl
end rules
end mem
def Lf(P:Program)(g:FuncId)(c:Nat):Prop:=∀(fn:Func)(args:List Value)(v:Value)(H H':ae),P.funcs[g]?=some fn→OE P c fn.resultTypes.toList args H=some (v,H')→
 ∀m w args',RH m H w→dF m args args'→∃m' v' w',(callFunc g ⟨args'⟩).run P w=.ok (.value v') w'∧VR m' v v'∧RH m' H' w'∧Ex m m' H H' w w'
theorem QM.of{P:Program}{X:Xt}(h:∀g,X g=0∨Lf P g (X g)):QM P X:=by
 intro g fn args v H H' hg _ hx m w args' rh ha
 rcases h g with h0|h1
 ·rw[h0]at hx;cases hx
 ·exact h1 fn args v H H' hg hx m w args' rh ha
section mem
variable{P:Program}{g:FuncId}{fn:Func}
theorem Lf.Lg{c:Nat}{e:Array Value→Sem Value}(hg:P.funcs[g]?=some fn)(hname:(fn.name== "runtime.NumGoroutine")=false)(hb:fn.body.isNone=true)(hn:Extern.findNext fn=none)(he:Extern.find fn=some e)
 (h:∀(args:List Value)(v:Value)(H H':ae),OE P c fn.resultTypes.toList args H=some (v,H')→∀m w args',RH m H w→dF m args args'→j3 P m H w (e ⟨args'⟩) v H'):Lf P g c:=by
 intro fn' args v H H' hg' hx m w args' rh ha
 rw[hg]at hg';cases hg'
 obtain⟨m',v',w',h1,h2,h3,h4⟩:=h args v H H' hx m w args' rh ha
 refine⟨m',v',w',?_,h2,h3,h4⟩
 rw[run_callFunc_extern hg hname hb hn he,h1]
 rfl
theorem Lf.same(hg:P.funcs[g]?=some fn)(hname:(fn.name== "runtime.NumGoroutine")=false)(hb:fn.body.isNone=true)(hn:Extern.findNext fn=none)(he:Extern.find fn=some Extern.AbiNoEscape.same):Lf P g 1:=by
 refine Lf.Lg hg hname hb hn he ?_
 intro args v H H' h m w args' rh ha
 replace h:(gd (Nat.beq (len args) 1) (aj (nth args 0) fun x=>some (x,H)))=some (v,H'):=h
 (replace h:=aG h;obtain⟨hl,h⟩:=h)
 (replace h:=ai h;obtain⟨x,hx,h⟩:=h)
 cases h
 rw[fH]at hx
 rw[aM]at hl
 obtain⟨v',h1,h2⟩:=Wv (P:=P) (w:=w) (Nat.eq_of_beq_eq_true hl) hx ha
 exact⟨m,v',w,h2,h1,rh,Ex.refl _ _ _⟩
theorem Lf.index(hg:P.funcs[g]?=some fn)(hname:(fn.name== "runtime.NumGoroutine")=false)(hb:fn.body.isNone=true)(hn:Extern.findNext fn=none)(he:Extern.find fn=some Extern.BytealgIndexByte.indexByte):Lf P g 3:=by
 refine Lf.Lg hg hname hb hn he ?_
 intro args v H H' h m w args' rh ha
 replace h:(aj (BJ args) fun x=>some (Kq (mR x.2 x.1.data.toList 0),H))=some (v,H'):=h
 (replace h:=ai h;obtain⟨q,hq,h⟩:=h)
 cases h
 obtain⟨h1,h2⟩:=FV (P:=P) (w:=w) hq ha
 exact⟨m,_,w,h2,h1,rh,Ex.refl _ _ _⟩
theorem Lf.count(hg:P.funcs[g]?=some fn)(hname:(fn.name== "runtime.NumGoroutine")=false)(hb:fn.body.isNone=true)(hn:Extern.findNext fn=none)(he:Extern.find fn=some Extern.BytealgCount.count):Lf P g 4:=by
 refine Lf.Lg hg hname hb hn he ?_
 intro args v H H' h m w args' rh ha
 replace h:(aj (BJ args) fun x=>some (Value.int .i64 (.ofNat (countB x.2 x.1.data.toList)),H))=some (v,H'):=h
 (replace h:=ai h;obtain⟨q,hq,h⟩:=h)
 cases h
 obtain⟨h1,h2⟩:=FW (P:=P) (w:=w) hq ha
 exact⟨m,_,w,h2,h1,rh,Ex.refl _ _ _⟩
end mem
def jW(ty:TypeId)(k:IntKind)(l:List Nat):dh:=.row ⟨ty,Tr.jG top (mp (fun n=>Value.int k (Int.ofNat n)) l) 0 .nil,len l,true,0⟩
def TabAt(w:World)(o:dh)(r:Nat):Prop:=o=.dead∨∃(ty:TypeId)(k:IntKind)(l:List Nat)(cs:Array Value)(fr:Nat×Nat),o=jW ty k l∧w.heap[r]?=some (.cells cs ty fr)∧∀(i z:Nat),l[i]?=some z→cs[i]?=some (Value.int k (z:Nat))
def abv:dh→Nat
 |.row R=>R.n
 |_=>0
def sP(w:World)(r:Nat):Nat:=match w.heap[r]? with|some (.cells cs _ _)=>cs.size|_=>0
def vZ(w:World)(H:ae):Mp:=fun r=>if r<H.next then some ⟨r,0,0,sP w r,abv (H.obj r)⟩else none
section mem
variable{P:Program}
theorem Nt(w:World)(H:ae):Gl H.next (vZ w H):=fun g hg=>⟨⟨g,0,0,sP w g,abv (H.obj g)⟩,by unfold vZ;rw[if_pos hg],rfl,rfl,rfl⟩
theorem WL{w:World}{H:ae}(h:H.next≤w.heap.size)(ht:∀r,r<H.next→TabAt w (H.obj r) r):RH (vZ w H) H w:=by
 refine⟨?_,?_,?_⟩
 ·intro r l hr
  unfold vZ at hr
  split at hr
  ·next h1=>exact h1
  ·cases hr
 ·intro r l hr
  unfold vZ at hr
  split at hr
  ·next h1=>
   cases hr
   refine⟨w.heap[r]'aa,Array.getElem?_eq_getElem (i:=r) aa,?_⟩
   rcases ht r h1 with h2|⟨ty,k,l,cs,fr,h2,h3,h4⟩
   ·rw[h2];trivial
   ·have hcn:sP w r=cs.size:=by unfold sP;rw[h3]
    have hget:w.heap[r]'aa=.cells cs ty fr:=by
     have:=Array.getElem?_eq_getElem (xs:=w.heap) (i:=r) aa
     rw[h3]at this;injection this with this;exact this.symm
    rw[hget,h2]
    show jN _ _ (jW ty k l) _
    have hlen:∀i,i<l.length→i<cs.size:=by
     intro i hi
     exact(Array.getElem?_eq_some_iff.1 (h4 i _ (List.getElem?_eq_getElem hi))).1
    have hle:l.length≤cs.size:=by
     rcases Nat.lt_or_ge cs.size l.length with h5|h5
     ·have:=hlen cs.size h5;omega
     ·exact h5
    refine⟨⟨rfl,rfl⟩,rfl,hcn.symm,Nat.zero_le _,?_,?_,?_⟩
    ·show 0 +(len l -0)≤sP w r
     rw[hcn,aM];omega
    ·intro hse;cases hse
    ·intro i _ hi
     have hi:i<len l:=hi
     rw[aM]at hi
     refine⟨.int k (l[i]:Nat),?_,?_⟩
     ·simp only[Nat.zero_add,Nat.sub_zero]
      exact h4 i _ (List.getElem?_eq_getElem hi)
     ·show VR _ ((Tr.jG top (mp (fun n=>Value.int k (Int.ofNat n)) l) 0 .nil).get top i) _
      rw[Tr.dW,xh,if_pos (by simp;omega)]
      rw[List.getD_eq_getElem?_getD]
      simp[hi]
      exact .sc _ rfl
  ·cases hr
 ·intro r r' l l' hr hr' _ _ hc
  unfold vZ at hr hr'
  split at hr
  ·split at hr'
   ·cases hr;cases hr';exact hc
   ·cases hr'
  ·cases hr
theorem Lh{X:Xt}{k:Nat}{H:ae}(hmo:P.follows .mixedOrders=true)(hP:pW P H.next)(hX:QM P X)(hO:yX P X H.next){g:FuncId}{fn:Func}(hg:P.funcs[g]?=some fn)(hb:fn.body.isSome=true)
 {args:List Value}{v:Value}{H':ae}(h:bT P X k g args H=some (v,H'))(hlow:H.next≤H'.low)(hv:eU v=true)(ha:args.all eU=true){w:World}(hw:H.next≤w.heap.size)
 (ht:∀r,r<H.next→TabAt w (H.obj r) r):
 Calls P g ⟨args⟩ w fun e w'=>e=.returned v∧Go.RowKit.Below w.heap.size w w':=by
 refine(levels hmo hP hX hO k g args v _ H' fn h hg hb (vZ w H) w args (WL hw ht) (Nt w H) (dF.eU ha)).mono ?_
 rintro e w' ⟨m',v',rfl,h1,h2,h3⟩
 rw[h1.lY hv]
 refine⟨rfl,⟨h3.os,h3.tape,h3.output,h3.size,fun c hc=>h3.keep c hc ?_⟩⟩
 intro r l hr _
 unfold vZ at hr
 split at hr
 ·next h4=>exact Nat.lt_of_lt_of_le h4 hlow
 ·cases hr
def IL(n:Nat)(b:Bool)(o:Option (Value×ae)):Bool:=@Option.rec (Value×ae) (fun _=>Bool) false (fun p=>(@Option.rec Bool (fun _=>Bool) false (fun x=>qy x b) (bK p.1))&&Nat.ble n p.2.low) o
theorem SE{n:Nat}{b:Bool}{o:Option (Value×ae)}(h:IL n b o=true):∃H',o=some (.bool b,H')∧n≤H'.low:=by
 cases o with
 |none=>cases h
 |some p=>
  replace h:((@Option.rec Bool (fun _=>Bool) false (fun x=>qy x b) (bK p.1))&&Nat.ble n p.2.low)=true:=h
  rw[Bool.and_eq_true]at h
  cases hb:bK p.1 with
  |none=>rw[hb]at h;cases h.1
  |some x=>
   rw[hb]at h
   have h1:qy x b=true:=h.1
   rw[BL,beq_iff_eq]at h1
   exact⟨p.2,by rw[←h1,←gB hb],Nat.le_of_ble_eq_true h.2⟩
end mem
end Go.Ae
