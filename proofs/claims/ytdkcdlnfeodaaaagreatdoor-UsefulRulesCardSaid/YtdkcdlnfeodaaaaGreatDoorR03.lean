/-
  Part 03 of the proof. No condition.
-/
import Derived.Test.YtdkcdlnfeodaaaaGreatDoorR02
set_option linter.unusedVariables false
set_option linter.unusedSimpArgs false
set_option maxRecDepth 100000
set_option maxHeartbeats 4000000
noncomputable section
namespace Go.Ae
variable{ops:Array Oper}{Q:Exit->Act->World->Prop}{s s' s1 s2:St}{v v' x x' y':Value}{m m' m0 m1 m2:Mp}{w w' w0 w1:World}{K next:Act->World->Prop}{ρ:Operand->Value}{N es i j k k' n n' nt r:Nat}{D:Nat->Prop}{a a1:Act}{args args' post vs:List Value}{o p:Oper}{d ld κ:Option Nat}{A H H' H0:ag}{L:List Operand}{l:Loc}{d0 df:List Deferred}{Ih ob:Obj}{b:Bool}{C:Nat->Cl}{Nk cx:Code->St->Out}{g:FuncId}{q:ByteArray×Nat}{fn:Func}{c:Code}{f:Value->Value->Bool}{xh:iO}{cs listed:Array Bool}{ats:Array TypeId}{y:Cl}{t ty:TypeId}{name:String}{cls:List Cl}{o':iW}{α:Type}
section mem
variable{P:Program}
theorem aa5(hl:args.length=1)(hv:args[0]?=some v)(ha:jf m args args'):
 ∃v',VR m v v'/\(Extern.AbiNoEscape.same ⟨args'⟩).run P w=.ok v' w:=by
 obtain⟨v',h0,hr⟩:=ha.get 0 hv;have hl':args'.length=1:=by rw[<-ha.length,hl]
 have he:args'=[v']:=by
  match args',hl',h0 with
  |[y],_,h0=>cases h0;rfl
 subst he;exact⟨v',hr,rfl⟩
theorem Xf(c:Nat)(hc:c<=255):∀(l:List UInt8)(k:Nat),(vJ c l k=none/\Lib.indexByte l c.toUInt8=-1)\/∃j,vJ c l k=some (k+j)/\Lib.indexByte l c.toUInt8=j:=by
 intro l
 induction l with
 |nil=>intro k;exact .inl ⟨rfl,rfl⟩
 |cons b l ih=>
  intro k
  have hbc:Nat.beq b.toNat c=(b==c.toUInt8):=by
   rw[bZ,jq];constructor
   .intro h;have:=aB h;rw[<-this];simp
   .intro h;rw[h];have h2:c.toUInt8.toNat=c:=by simp;omega
    rw[h2];exact bC c
  show(aU (Nat.beq b.toNat c) (some k) (vJ c l<|k+1)=none/\_)\/∃j,aU (Nat.beq b.toNat c) (some k) (vJ c l<|k+1)=some (k+j)/\_;rw[hbc];cases hh:(b==c.toUInt8)with
  |true=>exact .inr ⟨0,rfl,by simp[Lib.indexByte,hh]⟩
  |false=>
   rcases ih (k+1)with⟨h1,h2⟩|⟨j,h1,h2⟩
   .exact .inl ⟨h1,by simp[Lib.indexByte,hh,h2]⟩
   .refine .inr ⟨j+1,by show vJ c l (k+1)=_;rw[h1];congr 1;omega,?_⟩;have:((j:Int)==-1)=false:=by rw[beq_eq_false_iff_ne];omega
    simp[Lib.indexByte,hh,h2,this]
theorem NP(h:H_ args=some q)(ha:jf m args args'):args'=[.string q.1,.int .u8 q.2]/\q.2<=255:=by
 obtain⟨s,hs,h⟩:=ak h;obtain⟨b,hb,h⟩:=ak h;obtain⟨c,hc,h⟩:=ak h;obtain⟨p,hp,h⟩:=ak h;obtain⟨n,hn,h⟩:=ak h;obtain⟨hg,h⟩:=dh h;cases h;rw[kU]at hs hc;simp only[aG,dG]at hg;have hl:=aB hg.2;have hle:=ai hg.1.2;obtain⟨s',h0,hr0⟩:=ha.get 0 hs;obtain⟨c',h1,hr1⟩:=ha.get 1 hc;have hl':args'.length=2:=by rw[<-ha.length,hl]
 have he:args'=[s',c']:=by
  match args',hl',h0,h1 with
  |[y,z],_,h0,h1=>cases h0;cases h1;rfl
 rw[kX hb]at hr0;rw[mH hp,Lh hn]at hr1;have:=hr0.qY;subst this;have:=hr1.of_int;subst this
 have hk:p.1=.u8:=by
  have:=hg.1.1;cases hp1:p.1<;>rw[hp1]at this<;>first|rfl|(simp[Gp]at this)
 rw[he,hk];exact⟨rfl,hle⟩
theorem LQ(h:H_ args=some q)(ha:jf m args args'):
 VR m (Qa<|vJ q.2 q.1.data.toList 0) (Qa<|vJ q.2 q.1.data.toList 0)/\(Extern.BytealgIndexByte.indexByte ⟨args'⟩).run P w=.ok (Qa<|vJ q.2 q.1.data.toList 0) w:=by
 obtain⟨rfl,hle⟩:=NP h ha;have hr:=Lib.run_indexByteString (P:=P) q.1 (q.2:Int) w;rw[o6]at hr;rcases Xf q.2 hle q.1.data.toList 0 with⟨h1,h2⟩|⟨j,h1,h2⟩
 .rw[h1];rw[h2]at hr;exact⟨.sc _ rfl,hr⟩
 .rw[h1,aI];rw[h2]at hr;exact⟨.sc _ rfl,hr⟩
theorem UQ(c:Nat)(hc:c<=255):∀(l:List UInt8),countB c l=Lib.countByte l c.toUInt8:=by
 intro l
 induction l with
 |nil=>rfl
 |cons b l ih=>
  have hbc:Nat.beq b.toNat c=(b==c.toUInt8):=by
   rw[bZ,jq];constructor
   .intro h;have:=aB h;rw[<-this];simp
   .intro h;rw[h];have h2:c.toUInt8.toNat=c:=by simp;omega
    rw[h2];exact bC c
  show aU (Nat.beq b.toNat c) (Nat.succ<|countB c l) (countB c l)=_;rw[hbc,ih];unfold Lib.countByte;rw[qW];cases hh:(b==c.toUInt8)<;>rfl
theorem LU(h:H_ args=some q)(ha:jf m args args'):
 VR m (.int .i64<|.ofNat<|countB q.2 q.1.data.toList) (.int .i64<|.ofNat<|countB q.2 q.1.data.toList)/\(Extern.BytealgCount.count ⟨args'⟩).run P w=.ok (.int .i64<|.ofNat<|countB q.2 q.1.data.toList) w:=by
 obtain⟨rfl,hle⟩:=NP h ha;have hr:=Lib.run_countString (P:=P) q.1 (q.2:Int) w;rw[o6,<-UQ _ hle]at hr;exact⟨.sc _ rfl,hr⟩
end mem
section mem
variable{P:Program}
theorem Xg(rh:RH m H w){s d:TypeId}(h:qw P s d x H=some (v,H'))(hx:VR m x x'):rD P m H w (convert s d x') v H':=by
 obtain⟨q,hq,h⟩:=ak h
 replace hq:(ax (P.underlying s) λx=>ax (P.underlying d) λy=>
  aU (zC x) (ax (Nt P d) λq=>some (1,q)) (aU (zC y) (ax (Nt P s) λq=>some (2,q))
   (aU (DF y) (ax (DD x) λe=>some (3,e,0))<|aU (DF x) (ax (DD y) λe=>some (4,e,0)) none)))=some q:=hq
 obtain⟨ds,hds,h1⟩:=ak hq;clear hq;obtain⟨dd,hdd,hq⟩:=ak h1;clear h1;cases h1:zC ds with
 |true=>
  rw[h1]at hq;obtain⟨q1,hq1,hq2⟩:=ak hq;cases hq2;obtain⟨hu,_⟩:=yF hq1;have h:Cx P q1 x H=some (v,H'):=h;exact NK rh h hx hds hu
 |false=>
  rw[h1]at hq
  replace hq:(aU (zC dd) (ax (Nt P s) λq=>some (2,q))
   (aU (DF dd) (ax (DD ds) λe=>some (3,e,0))<|aU (DF ds) (ax (DD dd) λe=>some (4,e,0)) none))=some q:=hq
  cases h2:zC dd with
  |true=>
   rw[h2]at hq;obtain⟨q1,hq1,hq2⟩:=ak hq;cases hq2;obtain⟨hu,_⟩:=yF hq1;have h:Cz P q1 x H=some (v,H'):=h;exact NL rh h hx hu (by rw[hdd,DL h2])
  |false=>
   rw[h2]at hq;replace hq:(aU (DF dd) (ax (DD ds) λe=>some (3,e,0))<|aU (DF ds) (ax (DD dd) λe=>some (4,e,0)) none)=some q:=hq;cases h3:DF dd with
   |true=>
    rw[h3]at hq;obtain⟨e,he,hq2⟩:=ak hq;cases hq2;have h:HV P e x H=some (v,H'):=h;exact ET rh h hx (by rw[hds,GR he]) h3 hdd
   |false=>
    rw[h3]at hq;replace hq:(aU (DF ds) (ax (DD dd) λe=>some (4,e,0)) none)=some q:=hq;cases h4:DF ds with
    |false=>rw[h4]at hq;cases hq
    |true=>
     rw[h4]at hq;obtain⟨e,he,hq2⟩:=ak hq;cases hq2;have h:HY P e x H=some (v,H'):=h;exact EU rh h hx h4 hds (by rw[hdd,GR he])
end mem
section mem
variable{P:Program}
theorem sw{o:Option Value}(h:rp o=.zF v):o=some v:=by
 cases o with
 |none=>cases h
 |some x=>cases h;rfl
theorem Qw{o:Option Value}(h:rp o=.mem v H):False:=by cases o<;>cases h
theorem jK{o:Option (Value×ag)}(h:rm o=.mem v H):o=some (v,H):=by
 cases o with
 |none=>cases h
 |some x=>cases h;rfl
theorem yI{o:Option (Value×ag)}(h:rm o=.zF v):False:=by cases o<;>cases h
theorem Sv{o:Option Value}{q:Option (Value×ag)}(h:rpm o (rm q)=.zF v):o=some v:=by
 cases o with
 |none=>exact(yI (o:=q) h).elim
 |some x=>cases h;rfl
theorem Sw{o:Option Value}{q:Option (Value×ag)}(h:rpm o (rm q)=.mem v H):q=some (v,H):=by
 cases o with
 |none=>exact jK (o:=q) h
 |some x=>cases h
structure Kq(m:Mp)(s:St)(ρ:Operand->Value)(L:List Operand):Prop where
 all:∀x,x∈L->VR m (ev s x) (ρ x)
theorem Kq.Bq(e:Kq m s ρ L)(x:Operand)(h:x∈L:=by simp[Op.operands,Call.operands]):VR m (ev s x) (ρ x):=e.all x h
theorem Kq.list(e:Kq m s ρ L):∀l:List Operand,(∀x,x∈l->x∈L)->jf m (mp (ev s) l) (l.map ρ)
 |[],_=>.nil
 |x::l,h=>.cons _ _ _ _ (e.all x<|h x<|by simp)<|e.list l λy hy=>h y (by simp[hy])
theorem Kq.opt(e:Kq m s ρ L):∀o:Option Operand,(∀x,x∈o->x∈L)->OR m (Gq s o) (o.map ρ)
 |none,_=>.nn
 |some x,h=>.ss _ _<|e.all x<|h x rfl
theorem Kq.pairs(e:Kq m s ρ L)(ps:Array<|Nat×Operand)(h:∀x,x∈ps.toList->x.2∈L):PRs m (Lf s ps) (ps.map λ(i,x)=>(i,ρ x)).toList:=by
 obtain⟨l⟩:=ps
 have:∀l:List<|Nat×Operand,(∀x,x∈l->x.2∈L)->PRs m (mp (λp=>(p.1,ev s p.2)) l) (l.map λ(i,x)=>(i,ρ x)):=by
  intro l
  induction l with
  |nil=>intro _;exact .nil
  |cons x l ih=>intro h;exact .cons _ _ _ _ _ (e.all x.2<|h x<|by simp)<|ih λy hy=>h y (by simp[hy])
 simpa [Lf]using this l h
def aa6(P:Program)(m:Mp)(v:Value)(s:Sem Next):Prop:=∃v',VR m v v'/\∀w,s.run P w=.ok (.value v') w
theorem oq{s:Sem Value}(h:VR m v v')(hs:∀w,s.run P w=.ok v' w):aa6 P m v (do pure (.value (<-s))):=
 ⟨v',h,λw=>by simp[hs]⟩
theorem NQ{b:Builtin}{ats:List TypeId}(h:xP b ats args P H=.zF v)(ha:jf m args args'):
 aa6 P m v (builtin b ⟨ats⟩ ty cs ⟨args'⟩):=by
 cases b
 case len=>
  have h:=Sv (o:=one (Hw P) ats args) (q:=HZ P ats args H) h;obtain⟨h1,h2⟩:=aaW (t:=ty) h ha;exact oq h1 h2
 case max=>
  have h:=sw (o:=V4 true args) h;obtain⟨v',h1,h2⟩:=WO (P:=P) (ats:=⟨ats⟩) (t:=ty) h ha;exact oq h1 h2
 case min=>
  have h:=sw (o:=V4 false args) h;obtain⟨v',h1,h2⟩:=WO (P:=P) (ats:=⟨ats⟩) (t:=ty) h ha;exact oq h1 h2
 case append=>exact(yI (o:=Bc P ats args H) h).elim
 case copy=>exact(yI (o:=J_ P ats args H) h).elim
 case clear=>exact(yI (o:=EJ P ats args H) h).elim
 all_goals first|cases h|exact(yI (o:=DJ args H) h).elim|exact(yI (o:=ug P ats args H) h).elim
theorem LV{cf:iO}(h:vN o.op P cf s=.zF v)(e:Kq m s ρ o.op.operands.toList)(hc:∀c,ρ (.const c)=c):aa6 P m v (execOp ρ o):=by
 cases hop:o.op
 case move x=>
  rw[hop]at h e;cases h;exact⟨ρ x,e.all x<|by simp[Op.operands,Call.operands],λw=>by simp[execOp,hop]⟩
 case assign x=>
  rw[hop]at h e;cases h;exact⟨ρ x,e.all x<|by simp[Op.operands,Call.operands],λw=>by simp[execOp,hop]⟩
 case pick c a b=>
  rw[hop]at h e;have h:=sw (o:=Hu (ev s c) (ev s a)<|ev s b) h;obtain⟨v',h1,h2⟩:=aaT (P:=P) h (e.Bq c) (e.Bq a)<|e.Bq b;have:=oq h1 h2;refine⟨v',h1,λw=>?_⟩;have h2:=h2 w;simp only[execOp,hop];simp only[Sem.run_bind]at h2|-;cases hr:(asBool<|ρ c).run P w with
  |ok b' w'=>rw[hr]at h2;simp only[Result.andThen_ok,Sem.run_pure]at h2|-;cases h2;rfl
  |halt x w'=>rw[hr]at h2;cases h2
 case build t ps=>
  rw[hop]at h e;have h:=sw (o:=zV P t<|Lf s ps) h;obtain⟨v',h1,h2⟩:=WV h<|e.pairs ps (by intro x hx;simp[Op.operands];exact⟨x.1,by simpa using hx⟩);have:aa6 P m v (do pure (.value (<-Instr.build t (ps.map λ(i,x)=>(i,ρ x))))):=oq h1 h2;simp only[execOp,hop];exact this
 case nilCheck x=>
  rw[hop]at h e;have h:=sw (o:=Ld<|ev s x) h;obtain⟨h1,h2⟩:=NG (P:=P) h (e.Bq x) ρ o x hop rfl;exact⟨_,h1,h2⟩
 case binOp op t x y z=>
  rw[hop]at h e;have h:=sw (o:=jb P op t x y (ev s x)<|ev s y) h;obtain⟨h1,h2⟩:=adC h (e.Bq x) (e.Bq y) (λc hx=>by subst hx;rfl) (λc hy=>by subst hy;rfl);have:=oq h1 h2;simpa [execOp,hop]using this
 case unOp op t x=>
  rw[hop]at h e;have h:=sw (o:=gU<|Op.unary op<|ev s x) h;obtain⟨h1,h2⟩:=aaU (P:=P) h<|e.Bq x;have:=oq h1 h2;simpa [execOp,hop]using this
 case convert a b x=>
  rw[hop]at h e;have h:=Sv (o:=zR P a b<|ev s x) (q:=qw P a b (ev s x) s.H) h;obtain⟨h1,h2⟩:=aaV h<|e.Bq x;have:=oq h1 h2;simpa [execOp,hop]using this
 case makeInterface t x=>
  rw[hop]at h e;have h:=sw (o:=P_ P t<|ev s x) h;obtain⟨v',h1,h2⟩:=adD h<|e.Bq x;have:=oq h1 h2;simpa [execOp,hop]using this
 case makeFunc f fi ca=>
  rw[hop]at h e;cases h;refine⟨.func f (fi.map ρ)<|ca.map ρ,?_,λw=>by simp[execOp,hop,Instr.makeFunc]⟩;obtain⟨fi⟩:=fi;obtain⟨ca⟩:=ca;have:=VR.func f _ _ _ _ (e.list fi (by intro x hx;simp[Op.operands,Call.operands,hx]))<|e.list ca (by intro x hx;simp[Op.operands,Call.operands,hx]);simpa using this
 case slice t x lo hi mx=>
  rw[hop]at h e;have h:=sw (o:=xG P t (ev s x) (Gq s lo) (Gq s hi)<|Gq s mx) h;obtain⟨v',h1,h2⟩:=WT h (e.Bq x) (e.opt lo (by intro x hx;simp[Op.operands]at hx|-;simp[hx])) (e.opt hi (by intro x hx;simp[Op.operands]at hx|-;simp[hx]))<|e.opt mx (by intro x hx;simp[Op.operands]at hx|-;simp[hx]);have:=oq h1 h2;simpa [execOp,hop]using this
 case fieldAddr t x f=>
  rw[hop]at h e;have h:=sw (o:=oh P t (ev s x) f) h;obtain⟨v',h1,h2⟩:=LB h<|e.Bq x;have:=oq h1 h2;simpa [execOp,hop]using this
 case field t x f=>
  rw[hop]at h e;have h:=sw (o:=zU P t (ev s x) f) h;obtain⟨v',h1,h2⟩:=WH h<|e.Bq x;have:=oq h1 h2;simpa [execOp,hop]using this
 case indexAddr t x i=>
  rw[hop]at h e;have h:=sw (o:=og P t (ev s x)<|ev s i) h;obtain⟨v',h1,h2⟩:=LA h (e.Bq x)<|e.Bq i;have:=oq h1 h2;simpa [execOp,hop]using this
 case index t x i=>
  rw[hop]at h e;have h:=sw (o:=zT P t (ev s x)<|ev s i) h;obtain⟨v',h1,h2⟩:=WG h (e.Bq x)<|e.Bq i;have:=oq h1 h2;simpa [execOp,hop]using this
 case extract t i=>
  rw[hop]at h e;have h:=sw (o:=qD (ev s t) i) h;obtain⟨v',h1,h2⟩:=Qi (P:=P) h<|e.Bq t;have:=oq h1 h2;simpa [execOp,hop]using this
 case call c=>
  rw[hop]at h e;replace h:tJ c P cf s=.zF v:=h;obtain⟨callee,⟨args⟩,ats⟩:=c;cases callee with
  |value f=>exact(yI h).elim
  |invoke r n=>exact(yI h).elim
  |builtin b=>
   have h:xP b ats.toList (mp (ev s) args) P s.H=.zF v:=h
   obtain⟨cs,hcs⟩:∃cs,∀w,(execOp ρ o).run P w=(builtin b ⟨ats.toList⟩ o.type cs ⟨args.map ρ⟩).run P w:=
    ⟨args.toArray.map λ|.const _=>true|_=>false,λw=>by
     simp only[execOp,hop,resolve,invoke,Sem.run_bind,Sem.run_pure,Result.andThen_ok,qo];rfl⟩
   obtain⟨v',h1,h2⟩:=NQ (P:=P) (ty:=o.type) (cs:=cs) h<|e.list args (by intro x hx;simp[Op.operands,Call.operands,hx]);exact⟨v',h1,λw=>by rw[hcs,h2]⟩
 all_goals(rw[hop]at h;first|cases h|exact(yI h).elim|skip)
end mem
section mem
variable{P:Program}
def Gl(n:Nat)(m:Mp):Prop:=∀g,g<n->∃l,m g=some l/\l.c=g/\l.lo=0/\l.base=0
theorem Gl.mono(h:Gl n m)(hm:Mp.le m m'):Gl n m':=λg hg=>let⟨l,a,b⟩:=h g hg;⟨l,hm _ _ a,b⟩
def DT(P:Program)(n:Nat)(cf:iO):Prop:=∀g args v H H',cf g args H=some (v,H')->∀m w args',RH m H w->Gl n m->jf m args args'->
 ∀(o:Oper)(a:Act)(next:Act->World->Prop)(Q:Exit->Act->World->Prop),
  (∀m' v' w',VR m' v v'->RH m' H' w'->Ex m m' H H' w w'->next (a.put o.dst v') w')->o.upon P a next Q ((callFunc g ⟨args'⟩).run P w)
theorem kN{s:Sem Value}(h:rD P m H w s v H')(K:∀m' v' w',VR m' v v'->RH m' H' w'->Ex m m' H H' w w'->next (a.put o.dst v') w'):o.upon P a next Q ((do pure (.value (<-s)):Sem Next).run P w):=by
 obtain⟨m',cv,w',h1,h2,h3,h4⟩:=h;have:(do pure (.value (<-s)):Sem Next).run P w=.ok (.value cv) w':=by simp[h1]
 rw[this];exact K m' cv w' h2 h3 h4
theorem EW{s:Sem Unit}(h:v=undef/\∃w',s.run P w=.ok () w'/\RH m H' w'/\Ex m m H H' w w')(K:∀m' v' w',VR m' v v'->RH m' H' w'->Ex m m' H H' w w'->next (a.put o.dst v') w'):o.upon P a next Q ((do s;pure .skip:Sem Next).run P w):=by
 obtain⟨rfl,w',h1,h3,h4⟩:=h;have:(do s;pure .skip:Sem Next).run P w=.ok .skip w':=by simp[h1]
 rw[this];exact K m undef w' (.tuple [] [] .nil) h3 h4
theorem CL{s:Sem Value}(rh:RH m H w)(e:H'=H)(h:VR m v v')(hr:s.run P w=.ok v' w):rD P m H w s v H':=by
 subst e;exact⟨m,v',w,hr,h,rh,Ex.refl _ _ _⟩
theorem NR{b:Builtin}{ats:List TypeId}(rh:RH m H w)(h:xP b ats args P H=.mem v H')(ha:jf m args args')(K:∀m' v' w',VR m' v v'->RH m' H' w'->Ex m m' H H' w w'->next (a.put o.dst v') w'):o.upon P a next Q ((builtin b ⟨ats⟩ ty cs ⟨args'⟩).run P w):=by
 cases b
 case append=>exact kN (UI rh (jK (o:=Bc P ats args H) h) ha) K
 case copy=>exact kN (aa3 rh (jK (o:=J_ P ats args H) h) ha) K
 case clear=>exact kN (Xd rh (jK (o:=EJ P ats args H) h) ha) K
 case len=>
  have h:=Sw (o:=one (Hw P) ats args) (q:=HZ P ats args H) h;obtain⟨e,h1,h2⟩:=aaZ (t:=ty) rh h ha;exact kN (CL rh e h1 h2) K
 case max=>exact(Qw (o:=V4 true args) h).elim
 case min=>exact(Qw (o:=V4 false args) h).elim
 all_goals first
  |cases h
  |exact kN (UL (λ_ _ _ _ _=>rfl) (λ_ _ _ _ _ _=>rfl) rh (jK (o:=DJ args H) h) ha) K
  |exact kN (NN ⟨_,_,_,_,_,λ_ _ _ _ _=>rfl⟩ rh (jK (o:=ug P ats args H) h) ha) K
theorem Sy{cf:iO}(rh:RH m s.H w)(h:vN o.op P cf s=.mem v H')(e:Kq m s ρ o.op.operands.toList)(hcall:∀c,o.op=.call c->isBuiltin c.callee=none->o.upon P a next Q ((execOp ρ o).run P w))(K:∀m' v' w',VR m' v v'->RH m' H' w'->Ex m m' s.H H' w w'->next (a.put o.dst v') w'):o.upon P a next Q ((execOp ρ o).run P w):=by
 cases hop:o.op
 case alloc t=>
  rw[hop]at h e;simp only[execOp,hop];exact kN (WZ rh<|jK h) K
 case box t x=>
  rw[hop]at h e;simp only[execOp,hop];exact kN (adH rh (jK h)<|e.Bq x) K
 case buildSlice t n ps=>
  rw[hop]at h e;simp only[execOp,hop];exact kN (Qn rh (jK h)<|e.pairs ps (by intro x hx;simp[Op.operands];exact⟨x.1,by simpa using hx⟩)) K
 case insert t x k y=>
  rw[hop]at h e;simp only[execOp,hop];exact EW (Kk rh (jK h) (e.Bq x) (e.Bq k)<|e.Bq y) K
 case mapUpdate t x k y=>
  rw[hop]at h e;simp only[execOp,hop];exact EW (Kk rh (jK h) (e.Bq x) (e.Bq k)<|e.Bq y) K
 case load t x=>
  rw[hop]at h e;simp only[execOp,hop];obtain⟨h1,v',h2,h3⟩:=Ss rh (jK h)<|e.Bq x;exact kN (CL rh h1 h2 h3) K
 case store t x y=>
  rw[hop]at h e;simp only[execOp,hop];exact EW (WY rh (jK h) (e.Bq x)<|e.Bq y) K
 case convert c d x=>
  rw[hop]at h e;simp only[execOp,hop];exact kN (Xg rh (Sw (o:=zR P c d<|ev s x) (q:=qw P c d (ev s x) s.H) h)<|e.Bq x) K
 case makeMap t r=>
  rw[hop]at h e;simp only[execOp,hop];exact kN (Qr rh (jK h)<|e.opt r (by intro x hx;simp[Op.operands]at hx|-;simp[hx])) K
 case makeSlice t l c=>
  rw[hop]at h e;simp only[execOp,hop];exact kN (LG rh (jK h) (e.Bq l)<|e.Bq c) K
 case lookup t x k ok=>
  rw[hop]at h e;simp only[execOp,hop];obtain⟨h1,v',h2,h3⟩:=UE rh (jK h) (e.Bq x)<|e.Bq k;exact kN (CL rh h1 h2 h3) K
 case range t x=>
  rw[hop]at h e;simp only[execOp,hop];exact kN (Xe rh (jK h)<|e.Bq x) K
 case next x b=>
  rw[hop]at h e;simp only[execOp,hop];exact kN (aa4 rh (jK h)<|e.Bq x) K
 case call c=>
  rw[hop]at h e;cases hb:isBuiltin c.callee with
  |none=>exact hcall c hop hb
  |some b=>
   obtain⟨callee,⟨args⟩,ats⟩:=c;cases callee with
   |value f=>cases hb
   |invoke r n=>cases hb
   |builtin b=>
    have h:xP b ats.toList (mp (ev s) args) P s.H=.mem v H':=h
    obtain⟨cs,hcs⟩:∃cs,∀w,(execOp ρ o).run P w=(builtin b ⟨ats.toList⟩ o.type cs ⟨args.map ρ⟩).run P w:=
     ⟨args.toArray.map λ|.const _=>true|_=>false,λw=>by
      simp only[execOp,hop,resolve,invoke,Sem.run_bind,Sem.run_pure,Result.andThen_ok,qo];rfl⟩
    rw[hcs];exact NR rh h (e.list args (by intro x hx;simp[Op.operands,Call.operands,hx])) K
 all_goals(rw[hop]at h;first|cases h|exact(Qw h).elim)
end mem
section mem
variable{P:Program}
theorem NS{cf:iO}(hcf:DT P n cf)(gl:Gl n m){f:Operand}{args:List Operand}(rh:RH m s.H w)(hop:o.op=.call ⟨.value f,⟨args⟩,ats⟩)(h:tJ ⟨.value f,⟨args⟩,ats⟩ P cf s=.mem v H')(e:Kq m s ρ o.op.operands.toList)(K:∀m' v' w',VR m' v v'->RH m' H' w'->Ex m m' s.H H' w w'->next (a.put o.dst v') w'):o.upon P a next Q ((execOp ρ o).run P w):=by
 replace h:rm (ax (ax (Wm<|ev s f) λq=>ax (fFn q.1) λg=>some (g,q.2)) λq=>cf q.1 (app q.2.1<|app (mp (ev s) args) q.2.2) s.H)=.mem v H':=h;replace h:=jK h;obtain⟨q,hq,h⟩:=ak h;obtain⟨p,hp,hq⟩:=ak hq;obtain⟨g,hg,hq⟩:=ak hq;cases hq;rw[hop]at e;have hf:=e.all f (by simp[Op.operands,Call.operands]);rw[Lj hp,Ll hg]at hf;obtain⟨p0,p1,p2⟩:=p;obtain⟨x',y',hh,hx,hy⟩:=hf.WC
 have hargs:jf m (app p1<|app (mp (ev s) args) p2) (x'++(args.map ρ++y')):=by
  rw[nY,nY];exact hx.append<|(e.list args (by intro x hx;simp[Op.operands,Call.operands,hx])).append hy
 have:=hcf _ _ _ _ _ h m w _ rh gl hargs o a next Q K
 have hr:(execOp ρ o).run P w=(callFunc g ⟨x'++(args.map ρ++y')⟩).run P w:=by
  simp only[execOp,hop,resolve,hh,Deferred.ofValue,invoke,Sem.run_bind,Sem.run_pure,Result.andThen_ok,qo];congr 2;rw[<-fJ];simp
 rw[hr];exact this
end mem
section mem
variable{P:Program}
theorem Xh{d:TypeDesc}(h:uR d=1):∃e,d=.pointer e:=by
 cases d<;>simp[uR]at h;exact⟨_,rfl⟩
theorem Qx{q:FuncId×Bool}(h:methodOf P t name=some q)(n:Nat)(w:World):(method (n+1) t v name).run P w=.ok (q.1,v) w:=by
 obtain⟨i,hi,h⟩:=ak h;obtain⟨mm,hmm,h⟩:=ak h;obtain⟨q',hq,h⟩:=ak h;obtain⟨d,hd,h⟩:=ak h;obtain⟨hg,h⟩:=dh h;cases h;have hi:P.info? t=some i:=hi;have hmm:i.methods.find? (·.name==name)=some mm:=by rw[<-Array.find?_toList];exact hmm
 simp only[aG]at hg;have hp:=aB hg.1;rw[dG]at hp;have hp:mm.path.toList=[]:=dU hp;obtain⟨f,b⟩:=q;have hg2:=hg.2;cases b with
 |true=>
  replace hg2:Nat.beq (uR d) 1=true:=hg2;obtain⟨e,rfl⟩:=Xh<|aB hg2;simp[method,wI hi,hmm,hp,follow,hq,receiverAt,bY hd,Place.get]
 |false=>
  replace hg2:(!(Nat.beq (uR d) 1))=true:=hg2
  have hd1:∀e,d≠.pointer e:=by
   intro e he;subst he;simp[uR]at hg2
  cases d<;>first|exact absurd rfl (hd1 _)|simp[method,wI hi,hmm,hp,follow,hq,receiverAt,bY hd,Place.get]
theorem NT{cf:iO}(hcf:DT P n cf)(gl:Gl n m){r:Operand}{args:List Operand}(rh:RH m s.H w)(hop:o.op=.call ⟨.invoke r name,⟨args⟩,ats⟩)(h:tJ ⟨.invoke r name,⟨args⟩,ats⟩ P cf s=.mem v H')(e:Kq m s ρ o.op.operands.toList)(K:∀m' v' w',VR m' v v'->RH m' H' w'->Ex m m' s.H H' w w'->next (a.put o.dst v') w'):o.upon P a next Q ((execOp ρ o).run P w):=by
 replace h:rm (ax (ax (Cv<|ev s r) λp=>ax (methodOf P p.1 name) λq=>some (q.1,[p.2],([]:List Value))) λq=>cf q.1 (app q.2.1<|app (mp (ev s) args) q.2.2) s.H)=.mem v H':=h;replace h:=jK h;obtain⟨q,hq,h⟩:=ak h;obtain⟨p,hp,hq⟩:=ak hq;obtain⟨g,hg,hq⟩:=ak hq;cases hq;rw[hop]at e;have hf:=e.all r (by simp[Op.operands,Call.operands]);rw[Un hp]at hf;obtain⟨x',hh,hx⟩:=hf.NA
 have hargs:jf m (app [p.2]<|app (mp (ev s) args) []) ([x']++(args.map ρ++[])):=by
  rw[nY,nY];exact(jf.cons _ _ _ _ hx .nil).append<|(e.list args (by intro x hx;simp[Op.operands,Call.operands,hx])).append .nil
 have:=hcf _ _ _ _ _ h m w _ rh gl hargs o a next Q K
 have hr:(execOp ρ o).run P w=(callFunc g.1 ⟨[x']++(args.map ρ++[])⟩).run P w:=by
  have hm:=Qx (v:=x') hg (P.types.size+Made.depth-1) w
  have hd:P.types.size+Made.depth-1+1=P.types.size+Made.depth:=by
   have:1<=Made.depth:=by decide
   omega
  rw[hd]at hm;have ht:(List.map ρ args).take args.length=List.map ρ args:=fO (by simp);simp[execOp,hop,resolve,invoke,callMethod,hh,hm,ht]
 rw[hr];exact this
end mem
def CO(n:Nat)(x:Operand):Bool:=@Operand.rec (λ_=>Bool) (λ_=>true) (λv=>jW v) (λg=>Nat.ble (Nat.succ g) n) (λ_=>true) x
def Ir(nt:Nat)(d:Option Nat):Bool:=@Option.rec Nat (λ_=>Bool) true (λd=>Nat.ble (Nat.succ d) nt) d
def uy(n nt:Nat)(o:Oper):Bool:=all' (CO n) o.op.operands.toList&&Ir nt o.dst
section mem
variable{P:Program}
structure FR(m:Mp)(s:St)(a:Act):Prop where
 size:a.tmps.size=s.nt
 slot:∀t,VR m (eO s t)<|a.tmps.getD t undef
theorem FR.mono(h:FR m s a)(hm:Mp.le m m'):FR m' s a:=⟨h.size,λt=>(h.slot t).mono hm⟩
theorem FR.ev(h:FR m s a)(g:Gl n m)(hL:all' (CO n) L=true):Kq m s a.eval L:=by
 refine⟨λx hx=>?_⟩;rw[all_eq]at hL;have hx:=bU.1 hL x hx;cases x with
 |tmp t=>exact h.slot t
 |const v=>exact .sc v hx
 |global k=>
  obtain⟨l,h1,h2,h3,h4⟩:=g k<|ai hx;have:=VR.ptr (m:=m) k 0 l h1 aa;rw[h2,h3,h4]at this;exact this
 |func f=>exact .func (.func f) [] [] [] [] .nil .nil
theorem FR.put(h:FR m s a)(hd:Ir s.nt d=true)(hv:VR m v v'):FR m (fU s d v H') (a.put d v'):=by
 cases d with
 |none=>exact⟨h.size,h.slot⟩
 |some d=>
  have hd:d<s.nt:=ai hd
  have hget:∀t,(a.tmps.setIfInBounds d v').getD t undef=if t=d then v' else a.tmps.getD t undef:=by
   intro t
   by_cases e:t=d
   .subst e;rw[if_pos rfl];simp[Array.getD,h.size,hd]
   .rw[if_neg e];simp only[dM];rw[gM (nX e)]
  show FR m (mQ s d v H') {a with tmps:=a.tmps.setIfInBounds d v'};unfold mQ;cases hb:d_ s.nl d with
  |true=>
   show FR m ⟨s.nl,s.nt,s.reg,aU (Nat.ble (Nat.succ d) s.nt) (s.tm.set top d v) s.tm,s.df,H'⟩ _;rw[show Nat.ble (Nat.succ d) s.nt=true from av hd];refine⟨by simpa using h.size,λt=>?_⟩;rw[hget];have hl:=h.slot t;unfold eO at hl|-;simp only at hl|-
   by_cases e:t=d
   .subst e;rw[if_pos rfl,hb];show VR m ((s.tm.set top t v).get top t) v';rw[Tr.qQ,if_pos rfl];exact hv
   .rw[if_neg e];cases hbt:d_ s.nl t with
    |true=>
     rw[hbt]at hl;show VR m ((s.tm.set top d v).get top t) _;rw[Tr.qQ,if_neg e];exact hl
    |false=>rw[hbt]at hl;exact hl
  |false=>
   show FR m ⟨s.nl,s.nt,(d,v)::s.reg,s.tm,s.df,H'⟩ _;refine⟨by simpa using h.size,λt=>?_⟩;rw[hget];have hl:=h.slot t;unfold eO at hl|-;simp only at hl|-
   by_cases e:t=d
   .subst e;rw[if_pos rfl,hb];show VR m (aU (Nat.beq t t) v<|look s.reg t) v';rw[show Nat.beq t t=true from bC t];exact hv
   .rw[if_neg e];cases hbt:d_ s.nl t with
    |true=>rw[hbt]at hl;exact hl
    |false=>
     rw[hbt]at hl;show VR m (aU (Nat.beq d t) v<|look s.reg t) _;rw[show Nat.beq d t=false from by rw[<-aV];exactλg=>e (aB g).symm];exact hl
end mem
section mem
variable{P:Program}
theorem Xi(h:isU v=true):v=.tuple #[]:=by
 cases v with
 |tuple l=>
  obtain⟨l⟩:=l;have h:Nat.beq (len l) 0=true:=h;have h:=aB h;rw[dG]at h;rw[dU h]
 |_=>simp[isU,Wo]at h
theorem Xj{y:Option Bool}(f:FR m s a)(h:yB ops s j=some y):yielded ops a.tmps j=y:=by
 obtain⟨o,ho,h⟩:=ak h;obtain⟨t,ht,h⟩:=ak h;rw[kU,bT]at ho;have hs:=f.slot t
 have hy:yielded ops a.tmps j=match a.tmps[t]? with|some (.bool b)=>some b|_=>none:=by
  unfold yielded;rw[ho];show(match(o.dst).bind (a.tmps[·]?)with|some (.bool b)=>some b|_=>none)=_;rw[ht];rfl
 rw[hy];cases hb:gF (eO s t)with
 |some b=>
  rw[hb]at h;replace h:some (some b)=some y:=h;cases h;rw[lJ hb]at hs;have hs:=hs.of_bool;rw[dM]at hs;cases hq:a.tmps[t]? with
  |none=>rw[hq]at hs;cases hs
  |some x=>rw[hq]at hs;replace hs:x=.bool b:=hs;rw[hs]
 |none=>
  rw[hb]at h;replace h:(gd (isU<|eO s t)<|some (none:Option Bool))=some y:=h;obtain⟨hg,h⟩:=dh h;cases h;rw[Xi hg]at hs;obtain⟨l',hl,hv⟩:=VR.Lm (x:=[]) hs;cases hv;rw[dM]at hl;cases hq:a.tmps[t]? with
  |none=>rfl
  |some x=>rw[hq]at hl;replace hl:x=.tuple ⟨[]⟩:=hl;rw[hl]
theorem aa7(f:FR m s a)(h:mX ops s o.guard=some b):Region.wanted o (yielded ops a.tmps)=b:=by
 unfold Region.wanted;cases hg:o.guard with
 |none=>rw[hg]at h;cases h;rfl
 |some p=>
  rw[hg]at h;replace h:(ax (yB ops s p.1) λy=>some<|@Option.rec Bool (λ_=>Bool) false (λb=>yu b p.2) y)=some b:=h;obtain⟨y,hy,h⟩:=ak h;cases h;obtain⟨j,want⟩:=p;simp only;rw[Xj f hy];cases y with
  |none=>rfl
  |some c=>cases c<;>cases want<;>rfl
end mem
section mem
variable{P:Program}
theorem put_defers(a:Act)(d:Option Tmp)(v:Value):(a.put d v).defers=a.defers:=by cases d<;>rfl
theorem iY(s:St)(d:Option Nat)(v:Value)(H:ag):(fU s d v H).H=H:=by
 cases d with
 |none=>rfl
 |some d=>show(mQ s d v H).H=H;unfold mQ;cases d_ s.nl d<;>rfl
theorem vR(s:St)(d:Option Nat)(v:Value)(H:ag):(fU s d v H).nt=s.nt:=by
 cases d with
 |none=>rfl
 |some d=>show(mQ s d v H).nt=s.nt;unfold mQ;cases d_ s.nl d<;>rfl
theorem Br(s:St)(d:Option Nat)(v:Value)(H:ag):(fU s d v H).df=s.df:=by
 cases d with
 |none=>rfl
 |some d=>show(mQ s d v H).df=s.df;unfold mQ;cases d_ s.nl d<;>rfl
theorem aa8{cf:iO}(hcf:DT P n cf)(rh:RH m s.H w)(f:FR m s a)(gl:Gl n m)(hok:uy n s.nt o=true)(hd:nI o.op=none)(h:xg P cf o s=some s1)(K:∀m' a' w',FR m' s1 a'->RH m' s1.H w'->Ex m m' s.H s1.H w w'->a'.defers=a.defers->next a' w'):o.wp P a w next Q:=by
 unfold xg at h;rw[hd]at h;replace h:CE o s (vN o.op P cf s)=some s1:=h;unfold uy at hok;simp only[aG]at hok;have e:=f.ev gl hok.1;unfold Oper.wp;cases hr:vN o.op P cf s with
 |fail=>rw[hr]at h;cases h
 |zF v=>
  rw[hr]at h;replace h:some (fU s o.dst v s.H)=some s1:=h;cases h;obtain⟨v',h1,h2⟩:=LV hr e λ_=>rfl;rw[h2 w];have hf:FR m (fU s o.dst v s.H) (a.put o.dst v'):=f.put hok.2 h1;exact K m _ w hf (by rw[iY];exact rh) (by rw[iY];exact Ex.refl _ _ _)<|put_defers _ _ _
 |mem v H'=>
  rw[hr]at h;replace h:some (fU s o.dst v H')=some s1:=h;cases h
  have K':∀m' v' w',VR m' v v'->RH m' H' w'->Ex m m' s.H H' w w'->next (a.put o.dst v') w':=by
   intro m' v' w' h1 h2 h3;exact K m' _ w' ((f.mono h3.le).put hok.2 h1) (by rw[iY];exact h2) (by rw[iY];exact h3)<|put_defers _ _ _
  refine Sy rh hr e ?_ K';intro c hop hb;rw[hop]at hr;replace hr:tJ c P cf s=.mem v H':=hr;obtain⟨callee,⟨args⟩,ats⟩:=c;cases callee with
  |value g=>exact NS hcf gl rh hop hr e K'
  |invoke r name=>exact NT hcf gl rh hop hr e K'
  |builtin b=>cases hb
end mem
section mem
variable{P:Program}
theorem UR{cf:iO}(hcf:DT P n cf)(hall:all' (uy n nt) ops.toList=true)(hnd:all' (λo=>cO<|nI o.op) ops.toList=true):
 ∀(l:List Oper)(k:Nat)(m:Mp)(s s1:St)(a:Act)(w:World),ops.toList.drop k=l->s.nt=nt->RH m s.H w->FR m s a->Gl n m->jJ P cf ops l s=some s1->
 (∀m' a' w',FR m' s1 a'->RH m' s1.H w'->Ex m m' s.H s1.H w w'->a'.defers=a.defers->s1.nt=nt->s1.df=s.df->Q .normal a' w')->
 wpOps P ops Q (List.range' k l.length) a w:=by
 intro l
 induction l with
 |nil=>
  intro k m s s1 a w _ hnt rh f gl h K;cases h;exact K m a w f rh (Ex.refl _ _ _) rfl hnt rfl
 |cons o l ih=>
  intro k m s s1 a w hl hnt rh f gl h K
  have hk:ops[k]?=some o:=by
   rw[<-bT];have:=bW List.head? hl;rw[List.head?_drop]at this;exact this
  have hmem:o∈ops.toList:=aA (by rw[bT];exact hk)
  have hdrop:ops.toList.drop (k+1)=l:=by
   rw[<-List.tail_drop,hl];rfl
  rw[all_eq]at hall hnd;have ho:=bU.1 hall o hmem;have hd:=bU.1 hnd o hmem
  have hd:nI o.op=none:=by
   cases hc:nI o.op with
   |none=>rfl
   |some c=>rw[hc]at hd;cases hd
  replace h:(ax (ax (mX ops s o.guard) λb=>aU b (xg P cf o s)<|some<|fU s o.dst undef s.H) λs=>jJ P cf ops l s)=some s1:=h;obtain⟨s2,h1,h2⟩:=ak h;obtain⟨b,hb,h3⟩:=ak h1;have hw:=aa7 f hb;rw[bH,List.range'_succ];show wpOps P ops Q (k::List.range' (k+1) l.length) a w;rw[wpOps_cons];unfold wpOp;rw[hk];simp only[hw];cases b with
  |true=>
   replace h3:xg P cf o s=some s2:=h3;simp only[iq];left
   have afi:s2.nt=s.nt/\s2.df=s.df:=by
    unfold xg at h3;rw[hd]at h3;replace h3:CE o s (vN o.op P cf s)=some s2:=h3;cases hr:vN o.op P cf s with
    |fail=>rw[hr]at h3;cases h3
    |zF v=>rw[hr]at h3;replace h3:some (fU s o.dst v s.H)=some s2:=h3;cases h3;exact⟨vR _ _ _ _,Br _ _ _ _⟩
    |mem v H'=>rw[hr]at h3;replace h3:some (fU s o.dst v H')=some s2:=h3;cases h3;exact⟨vR _ _ _ _,Br _ _ _ _⟩
   refine aa8 hcf rh f gl (by rw[hnt];exact ho) hd h3 ?_;intro m' a' w' f' rh' ex' hdf;refine ih (k+1) m' s2 s1 a' w' hdrop (by rw[afi.1,hnt]) rh' f' (gl.mono ex'.le) h2 ?_;intro m2 a2 w2 f2 rh2 ex2 adJ hn2 hs2;exact K m2 a2 w2 f2 rh2 (ex'.trans ex2) (by rw[adJ,hdf]) hn2 (by rw[hs2,afi.2])
  |false=>
   replace h3:some (fU s o.dst undef s.H)=some s2:=h3;cases h3;simp only[bA,g_];unfold uy at ho;simp only[aG]at ho;have f':FR m (fU s o.dst undef s.H) (a.put o.dst undef):=f.put (by rw[hnt];exact ho.2)<|.tuple [] [] .nil;refine ih (k+1) m _ s1 _ w hdrop (by rw[vR,hnt]) (by rw[iY];exact rh) f' gl h2 ?_;intro m2 a2 w2 f2 rh2 ex2 adJ hn2 hs2;rw[iY]at ex2;rw[Br]at hs2;exact K m2 a2 w2 f2 rh2 ex2 (by rw[adJ,put_defers]) hn2 hs2
end mem
section rules
variable{P:Program}
theorem least{p:Nat->Prop}(h:∃n,p n):∃n,p n/\∀k,k<n->¬p k:=by
 obtain⟨n,hn⟩:=h
 induction n using Nat.strongRecOn with
 |_ n ih=>
  by_cases hx:∃k,k<n/\p k
  .obtain⟨k,h1,h2⟩:=hx;exact ih k h1 h2
  .exact⟨n,hn,λk hk hp=>hx ⟨k,hk,hp⟩⟩
theorem US(R:Nat->Act->World->Prop)(h0:∀a w,¬R 0 a w)(hs:∀n a w,R (n+1) a w->c.wp P (Exit.then (R n) Q) a w)(h:R n a w):(Code.loop c).wp P Q a w:=by
 classical
 refine wp_loop (λa w=>∃n,R n a w) (λa w=>if h:∃n,R n a w then Classical.choose (least h)else 0) ⟨n,h⟩ ?_;intro a w hI;have hf:=qy<|least hI;have hd:(if h:∃n,R n a w then Classical.choose (least h)else 0)=Classical.choose (least hI):=dif_pos hI;rw[hd];generalize Classical.choose (least hI)=k0 at hf;cases k0 with
 |zero=>exact(h0 a w hf.1).elim
 |succ k=>
  refine wp_mono (hs k a w hf.1) ?_;intro e a' w' he;cases e with
  |normal=>
   have hI':∃n,R n a' w':=⟨k,he⟩;refine⟨hI',?_⟩;have hd':(if h:∃n,R n a' w' then Classical.choose (least h)else 0)=Classical.choose (least hI'):=dif_pos hI';rw[hd'];have hf':=qy<|least hI';exact Nat.lt_succ_of_le<|Nat.le_of_not_lt λhlt=>hf'.2 k hlt he
  |_=>exact he
def Xk(J:Nat->Act->World->Prop)(Q:Exit->Act->World->Prop):Exit->Act->World->Prop
 |.goto l,a,w=>J l a w
 |e,a,w=>Q e a w
theorem Qy(R:Nat->Nat->Act->World->Prop)(hs:∀n l a w,R n l a w->(∃n' rest,n=n'+1/\findLabel c l=some rest/\rest.wp P (Xk (R n') Q) a w)\/(findLabel c l=none/\Q (.goto l) a w))(first:c.wp P (Xk (R n) Q) a w):(Code.scope c).wp P Q a w:=by
 intro b k cs
 have key:∀n l a w,R n l a w->∀m₀,(∀k',gotoIn l (.inScope c::k)=some k'->Steps P m₀ (lone (b.at a k') cs w))->∃e a' w',Q e a' w'/\Arrives P m₀ b k cs e a' w':=by
  intro n
  induction n with
  |zero=>
   intro l a w hR m₀ hm;rcases hs 0 l a w hR with⟨n',rest,h1,_⟩|⟨h1,h2⟩
   .cases h1
   .exact⟨_,a,w,h2,λk' hk=>hm k'<|by simp[gotoIn,h1,hk]⟩
  |succ n ih=>
   intro l a w hR m₀ hm;rcases hs (n+1) l a w hR with⟨n',rest,h1,h2,h3⟩|⟨h1,h2⟩
   .cases h1;obtain⟨e,a₁,w₁,hq,harr⟩:=h3 b (.inScope c::k) cs;have hg:=hm (.code rest::.inScope c::k) (by simp[gotoIn,h2]);cases e with
    |normal=>exact⟨.normal,a₁,w₁,hq,hg.trans<|Steps.trans harr<|.one step_inScope⟩
    |exit id=>exact⟨.exit id,a₁,w₁,hq,λk' hk=>hg.trans<|harr k'<|by simp[exitTo,hk]⟩
    |goto l'=>exact ih l' a₁ w₁ hq m₀ λk' hk=>hg.trans<|harr k' hk
    |ret=>exact⟨_,a₁,w₁,hq,.of_steps hg harr⟩
    |panic ch=>exact⟨_,a₁,w₁,hq,.of_steps hg harr⟩
    |outgrown=>exact⟨_,a₁,w₁,hq,.of_steps hg harr⟩
   .exact⟨_,a,w,h2,λk' hk=>hm k'<|by simp[gotoIn,h1,hk]⟩
 obtain⟨e,a₁,w₁,hq,harr⟩:=first b (.inScope c::k) cs
 cases e with
 |normal=>exact⟨.normal,a₁,w₁,hq,.head step_scope<|Steps.trans harr<|.one step_inScope⟩
 |exit id=>exact⟨.exit id,a₁,w₁,hq,λk' hk=>.head step_scope<|harr k'<|by simp[exitTo,hk]⟩
 |goto l'=>exact key n l' a₁ w₁ hq _ λk' hk=>.head step_scope<|harr k' hk
 |ret=>exact⟨_,a₁,w₁,hq,.of_steps (.one step_scope) harr⟩
 |panic ch=>exact⟨_,a₁,w₁,hq,.of_steps (.one step_scope) harr⟩
 |outgrown=>exact⟨_,a₁,w₁,hq,.of_steps (.one step_scope) harr⟩
end rules
def codeOk(n nt:Nat):Code->Bool
 |.region _ ops _=>all' (uy n nt) ops.toList&&iC ops
 |.seq a b=>codeOk n nt a&&codeOk n nt b
 |.cond c a b=>CO n c&&(codeOk n nt a&&codeOk n nt b)
 |.block _ c=>codeOk n nt c
 |.loop c=>codeOk n nt c
 |.scope c=>codeOk n nt c
 |_=>true
theorem yJ:∀{c:Code}{l:Nat}{rest:Code},codeOk n nt c=true->findLabel c l=some rest->codeOk n nt rest=true
 |.seq a b,l,rest,hc,h=>by
  simp only[codeOk,aG]at hc;simp only[findLabel]at h;cases ha:findLabel a l with
  |some r=>
   rw[ha]at h;replace h:some (Code.seq r b)=some rest:=h;cases h;simp only[codeOk,aG];exact⟨yJ hc.1 ha,hc.2⟩
  |none=>
   rw[ha]at h;exact yJ hc.2 h
 |.label l',l,rest,_,h=>by
  simp only[findLabel]at h;split at h
  .cases h;rfl
  .cases h
 |.skip,_,_,_,h=>by simp[findLabel]at h
 |.region ..,_,_,_,h=>by simp[findLabel]at h
 |.cond ..,_,_,_,h=>by simp[findLabel]at h
 |.block ..,_,_,_,h=>by simp[findLabel]at h
 |.loop _,_,_,_,h=>by simp[findLabel]at h
 |.rangeFunc ..,_,_,_,h=>by simp[findLabel]at h
 |.exit _,_,_,_,h=>by simp[findLabel]at h
 |.scope _,_,_,_,h=>by simp[findLabel]at h
 |.goto _,_,_,_,h=>by simp[findLabel]at h
 |.ret,_,_,_,h=>by simp[findLabel]at h
 |.refuse _,_,_,_,h=>by simp[findLabel]at h
structure At(m0:Mp)(H0:ag)(w0:World)(d0:List Deferred)(nt:Nat)(df:List Deferred)(s1:St)(a:Act)(w:World)(m:Mp):Prop where
 fr:FR m s1 a
 rh:RH m s1.H w
 ex:Ex m0 m H0 s1.H w0 w
 de:a.defers=d0
 nt:s1.nt=nt
 df:s1.df=df
def To(m0:Mp)(H0:ag)(w0:World)(d0:List Deferred)(nt:Nat)(df:List Deferred)(s1:St)(q:Act->World->Prop):Prop:=
 ∀m a w,At m0 H0 w0 d0 nt df s1 a w m->q a w
def Post(m0:Mp)(H0:ag)(w0:World)(d0:List Deferred)(nt:Nat)(df:List Deferred)(Q:Exit->Act->World->Prop):Out->Prop
 |.fail=>False
 |.norm s=>To m0 H0 w0 d0 nt df s<|Q .normal
 |.exit i s=>To m0 H0 w0 d0 nt df s<|Q<|.exit i
 |.goto l s=>To m0 H0 w0 d0 nt df s<|Q<|.goto l
 |.ret s=>To m0 H0 w0 d0 nt df s<|Q .ret
theorem At.trans(h1:At m0 H0 w0 d0 nt df s1 a1 w1 m1)(h2:At m1 s1.H w1 a1.defers s1.nt s1.df s2 a w m):At m0 H0 w0 d0 nt df s2 a w m:=
 ⟨h2.fr,h2.rh,h1.ex.trans h2.ex,by rw[h2.de,h1.de],by rw[h2.nt,h1.nt],by rw[h2.df,h1.df]⟩
theorem Post.from'(h1:At m0 H0 w0 d0 nt df s1 a1 w1 m1){o:Out}(h:Post m0 H0 w0 d0 nt df Q o):Post m1 s1.H w1 a1.defers nt s1.df Q o:=by
 have e:=h1.nt;cases o with
 |fail=>exact h
 |_=>exactλm a w h2=>h m a w<|h1.trans (by rw[e];exact h2)
theorem Post.from(h1:At m0 H0 w0 d0 nt df s1 a1 w1 m1){o:Out}(h:Post m0 H0 w0 d0 nt df Q o):Post m1 s1.H w1 a1.defers s1.nt s1.df Q o:=by
 cases o with
 |fail=>exact h
 |_=>exactλm a w h2=>h m a w<|h1.trans h2
def LW(P:Program)(cf:iO)(n nt:Nat):Prop:=∀(id:Nat)(ops:Array Oper)(s:St)(m:Mp)(a:Act)(w:World)(Q:Exit->Act->World->Prop),
 all' (uy n nt) ops.toList=true->iC ops=true->s.nt=nt->RH m s.H w->FR m s a->Gl n m->
 Post m s.H w a.defers nt s.df Q (region P cf ops true s)->(Code.region id ops true).wp P Q a w
def LX(P:Program)(ex:Code->St->Out)(n nt:Nat):Prop:=∀(c:Code)(s:St)(m:Mp)(a:Act)(w:World)(Q:Exit->Act->World->Prop),
 codeOk n nt c=true->s.nt=nt->RH m s.H w->FR m s a->Gl n m->
 Post m s.H w a.defers nt s.df Q (ex c s)->c.wp P Q a w
theorem FR.clear(h:FR m s a):FR m (clear s) a:=by
 refine⟨h.size,λt=>?_⟩;have ht:=h.slot t;unfold eO at ht|-;show VR m (aU (d_ s.nl t) (s.tm.get top t)<|look [] t) _;cases hb:d_ s.nl t with
 |true=>rw[hb]at ht;exact ht
 |false=>exact .top _
section mem
variable{P:Program}
theorem Sz{cf:iO}(hcf:DT P n cf)(hcx:LX P cx n nt)(hdr:LW P cf n nt)(k:Nat):LX P (exec P cf cx k) n nt:=by
 intro c
 induction c with
 |skip=>intro s m a w Q _ hnt rh f _ h;exact wp_skip<|h m a w ⟨f,rh,Ex.refl _ _ _,rfl,hnt,rfl⟩
 |label l=>intro s m a w Q _ hnt rh f _ h;exact wp_label<|h m a w ⟨f,rh,Ex.refl _ _ _,rfl,hnt,rfl⟩
 |exit id=>intro s m a w Q _ hnt rh f _ h;exact wp_exit<|h m a w ⟨f,rh,Ex.refl _ _ _,rfl,hnt,rfl⟩
 |goto l=>intro s m a w Q _ hnt rh f _ h;exact wp_goto<|h m a w ⟨f,rh,Ex.refl _ _ _,rfl,hnt,rfl⟩
 |ret=>intro s m a w Q _ hnt rh f _ h;exact wp_ret<|h m a w ⟨f,rh,Ex.refl _ _ _,rfl,hnt,rfl⟩
 |refuse=>intro s m a w Q _ _ _ _ _ h;exact h.elim
 |rangeFunc=>intro s m a w Q _ _ _ _ _ h;exact h.elim
 |region id ops draw=>
  intro s m a w Q hc hnt rh f gl h;simp only[codeOk,aG]at hc;cases draw with
  |true=>exact hdr id ops s m a w Q hc.1 hc.2 hnt rh f gl h
  |false=>
   replace h:Post m s.H w a.defers nt s.df Q (Fz<|jJ P cf ops ops.toList<|clear s):=h;cases hr:jJ P cf ops ops.toList (clear s)with
   |none=>rw[hr]at h;exact h.elim
   |some s1=>
    rw[hr]at h;replace h:To m s.H w a.defers nt s.df s1 (Q .normal):=h
    have hpl:all' (λo=>cO<|nI o.op) ops.toList=true:=by
     have:=hc.2;unfold iC at this;rw[all_eq]at this|-;rw[bU]at this|-;intro o ho;have:=this o ho;simp only[aG]at this;exact this.1
    have hw:wpOps P ops Q (List.range' 0 ops.toList.length) a w:=by
     refine UR (P:=P) hcf (n:=n) (nt:=nt) hc.1 hpl ops.toList 0 m (clear s) s1 a w (by simp) hnt rh f.clear gl hr ?_;intro m' a' w' f' rh' ex' hd' hn' hs';exact h m' a' w' ⟨f',rh',ex',hd',hn',hs'⟩
    refine wp_region ?_;rw[List.range_eq_range'];exact hw
 |seq x y ihx ihy=>
  intro s m a w Q hc hnt rh f gl h;simp only[codeOk,aG]at hc;replace h:Post m s.H w a.defers nt s.df Q (andThen (exec P cf cx k x s)<|exec P cf cx k y):=h;refine wp_seq<|ihx s m a w _ hc.1 hnt rh f gl ?_;cases hx:exec P cf cx k x s with
  |fail=>rw[hx]at h;exact h
  |norm s1=>
   rw[hx]at h;intro m1 a1 w1 h1;have:=h.from h1;rw[h1.nt]at this;exact ihy s1 m1 a1 w1 Q hc.2 h1.nt h1.rh h1.fr (gl.mono h1.ex.le) this
  |exit i s1=>rw[hx]at h;exact h
  |goto l s1=>rw[hx]at h;exact h
  |ret s1=>rw[hx]at h;exact h
 |cond c x y ihx ihy=>
  intro s m a w Q hc hnt rh f gl h;simp only[codeOk,aG]at hc;replace h:Post m s.H w a.defers nt s.df Q (Fy (gF<|ev s c) (exec P cf cx k x s)<|exec P cf cx k y s):=h;cases hb:gF (ev s c)with
  |none=>rw[hb]at h;exact h.elim
  |some b=>
   rw[hb]at h;have hL:all' (CO n) [c]=true:=by rw[all_eq];simp[hc.1]
   have he:=(f.ev gl hL).all c (by simp);rw[lJ hb]at he;have he:=he.of_bool;cases b with
   |true=>exact wp_cond_true he<|ihx s m a w Q hc.2.1 hnt rh f gl h
   |false=>exact wp_cond_false he<|ihy s m a w Q hc.2.2 hnt rh f gl h
 |block id c ih=>
  intro s m a w Q hc hnt rh f gl h;replace h:Post m s.H w a.defers nt s.df Q (uj id<|exec P cf cx k c s):=h;refine wp_block<|ih s m a w _ hc hnt rh f gl ?_;cases hx:exec P cf cx k c s with
  |fail=>rw[hx]at h;exact h
  |norm s1=>rw[hx]at h;exact h
  |exit i s1=>
   rw[hx]at h;replace h:Post m s.H w a.defers nt s.df Q (aU (Nat.beq i id) (.norm s1)<|.exit i s1):=h;intro m1 a1 w1 h1
   by_cases e:i=id
   .subst e;rw[show Nat.beq i i=true from bC i]at h;simp only[Exit.inBlock,iq];exact h m1 a1 w1 h1
   .rw[show Nat.beq i id=false from by rw[<-aV];exactλg=>e<|aB g]at h;simp only[Exit.inBlock,e,g_];exact h m1 a1 w1 h1
  |goto l s1=>rw[hx]at h;exact h
  |ret s1=>rw[hx]at h;exact h
 |loop c ih=>
  intro s m a w Q hc hnt rh f gl h;replace h:Post m s.H w a.defers nt s.df Q (uU k (exec P cf cx k c) s):=h
  have key:∀j,Post m s.H w a.defers nt s.df Q (uU j (exec P cf cx k c) s)->(Code.loop c).wp P Q a w:=by
   intro j hj
   refine US (λj a1 w1=>∃m1 s1,At m s.H w a.defers nt s.df s1 a1 w1 m1/\Post m s.H w a.defers nt s.df Q (uU j (exec P cf cx k c) s1)) ?_ ?_ (n:=j)
    ⟨m,s,⟨f,rh,Ex.refl _ _ _,rfl,hnt,rfl⟩,hj⟩
   .rintro a1 w1 ⟨m1,s1,_,h0⟩;exact h0
   .rintro j a1 w1 ⟨m1,s1,h1,h0⟩;replace h0:Post m s.H w a.defers nt s.df Q (andThen (exec P cf cx k c s1)<|uU j<|exec P cf cx k c):=h0;refine ih s1 m1 a1 w1 _ hc h1.nt h1.rh h1.fr (gl.mono h1.ex.le) ?_;cases hx:exec P cf cx k c s1 with
    |fail=>rw[hx]at h0;exact h0
    |norm s2=>
     rw[hx]at h0;intro m2 a2 w2 h2;exact⟨m2,s2,h1.trans (by rw[h1.nt];exact h2),h0⟩
    |exit i s2=>rw[hx]at h0;exact h0.from' h1
    |goto l s2=>rw[hx]at h0;exact h0.from' h1
    |ret s2=>rw[hx]at h0;exact h0.from' h1
  exact key k h
 |scope c ih=>
  intro s m a w Q hc hnt rh f gl h;replace h:Post m s.H w a.defers nt s.df Q (jZ cx k c<|exec P cf cx k c s):=h;have hc':codeOk n nt c=true:=hc
  have pass:∀j(o:Out),Post m s.H w a.defers nt s.df Q (jZ cx j c o)->
   Post m s.H w a.defers nt s.df (Xk (λl a1 w1=>∃m1 s1,At m s.H w a.defers nt s.df s1 a1 w1 m1/\Post m s.H w a.defers nt s.df Q (jZ cx j c<|.goto l s1)) Q) o:=by
   intro j o ho;cases j with
   |zero=>exact ho.elim
   |succ j=>
    cases o with
    |fail=>exact ho
    |norm s1=>exact ho
    |exit i s1=>exact ho
    |ret s1=>exact ho
    |goto l s1=>
     intro m1 a1 w1 h1;exact⟨m1,s1,h1,ho⟩
  refine Qy (n:=k) (λj l a1 w1=>∃m1 s1,At m s.H w a.defers nt s.df s1 a1 w1 m1/\Post m s.H w a.defers nt s.df Q (jZ cx j c<|.goto l s1)) ?_<|ih s m a w _ hc hnt rh f gl<|pass k _ h;rintro j l a1 w1 ⟨m1,s1,h1,h0⟩;cases j with
  |zero=>exact h0.elim
  |succ j=>
   replace h0:Post m s.H w a.defers nt s.df Q (@Option.rec Code (λ_=>Out) (.goto l s1) (λrest=>jZ cx j c<|cx rest s1)<|findLabel c l):=h0;cases hf:findLabel c l with
   |none=>
    rw[hf]at h0;exact .inr ⟨rfl,h0 m1 a1 w1 h1⟩
   |some rest=>
    rw[hf]at h0;refine .inl ⟨j,rest,rfl,rfl,?_⟩;have:=(pass j _ h0).from h1;rw[h1.nt]at this;exact hcx rest s1 m1 a1 w1 _ (yJ hc' hf) h1.nt h1.rh h1.fr (gl.mono h1.ex.le) this
end mem
def vS(n nt:Nat)(c:Code):Bool:=
 @Code.rec (λ_=>Bool) true (λ_ ops _=>all' (uy n nt) ops.toList&&iC ops) (λ_ _ a b=>a&&b) (λc _ _ a b=>CO n c&&(a&&b)) (λ_ _ a=>a) (λ_ a=>a)
  (λ_ _ _ _ _ _=>true) (λ_=>true) (λ_ a=>a) (λ_=>true) (λ_=>true) true (λ_=>true) c
theorem Qz(c:Code)(h:vS n nt c=true):codeOk n nt c=true:=by
 have:vS n nt c=codeOk n nt c:=by
  clear h
  induction c with
  |seq a b iha ihb=>show(vS n nt a&&vS n nt b)=_;rw[iha,ihb];rfl
  |cond c a b iha ihb=>show(CO n c&&(vS n nt a&&vS n nt b))=_;rw[iha,ihb];rfl
  |block id a ih=>exact ih
  |loop a ih=>exact ih
  |scope a ih=>exact ih
  |_=>rfl
 rw[<-this];exact h
def Xl(n:Nat)(fn:Func):Bool:=@Option.rec Code (λ_=>Bool) true (λc=>vS n fn.ntmps c&&!(fn.name== "runtime.NumGoroutine")) fn.body
def xU(P:Program)(n:Nat):Prop:=∀(g:FuncId)(fn:Func),P.funcs[g]?=some fn->Xl n fn=true
def V5(P:Program)(X:Xt):Prop:=∀(g:FuncId)(fn:Func)(args:List Value)(v:Value)(H H':ag),P.funcs[g]?=some fn->fn.body=none->Uk P (X g) fn.resultTypes.toList args H=some (v,H')->
 ∀m w args',RH m H w->jf m args args'->∃m' v' w',(callFunc g ⟨args'⟩).run P w=.ok (.value v') w'/\VR m' v v'/\RH m' H' w'/\Ex m m' H H' w w'
def LY(P:Program)(n:Nat)(cf:iO):Prop:=∀g args v H H' fn,cf g args H=some (v,H')->P.funcs[g]?=some fn->fn.body.isSome=true->∀m w args',RH m H w->Gl n m->jf m args args'->
 Calls P g ⟨args'⟩ w λe w'=>∃m' v',e=.returned v'/\VR m' v v'/\RH m' H' w'/\Ex m m' H H' w w'
def EX(P:Program)(X:Xt)(n:Nat):Prop:=∀(g:FuncId)(args:List Value)(v:Value)(H H':ag),X.o g args H=some (v,H')->(∃fn,P.funcs[g]?=some fn/\fn.body.isSome=true)/\∀m w args',RH m H w->Gl n m->jf m args args'->
 Calls P g ⟨args'⟩ w λe w'=>∃m' v',e=.returned v'/\VR m' v v'/\RH m' H' w'/\Ex m m' H H' w w'
theorem EX.none{P:Program}{X:Xt}(h:∀g a H,X.o g a H=none):EX P X n:=λg a v H H' e=>by rw[h]at e;cases e
theorem uW{P:Program}{X:Xt}{L:Lv}(h:X.o g args H=none):yE P X L k g args H=ax (nth P.funcs.toList g) λfn=>Um P L k g (X g) fn args H:=by
 show orO (X.o g args H) _=_;rw[h];rfl
theorem Aa{P:Program}{X:Xt}{L:Lv}{r:Value×ag}(h:X.o g args H=some r):yE P X L k g args H=some r:=by
 show orO (X.o g args H) _=_;rw[h];rfl
section mem
variable{P:Program}
theorem QA(rh:RH m s.H w)(f:FR m s a)(h:iX P s fn.results.toList=some vs):
 ∃v',VR m (oN vs) v'/\(results fn a.tmps).run P w=.ok v' w:=by
 have key:∀(l:List ResultVar)(vs:List Value),iX P s l=some vs->∃vs',jf m vs vs'/\
  Sem.run P (l.mapM λ|ResultVar.tmp t=>(pure (a.tmps.getD t undef):Sem Value)|ResultVar.cell b t=>do loadVar t (<-asAddr (a.tmps.getD b undef))) w=Result.ok vs' w:=by
  intro l
  induction l with
  |nil=>intro vs h;cases h;exact⟨[],.nil,by simp⟩
  |cons r l ih=>
   intro vs h;replace h:(ax (Be P s r) λv=>ax (iX P s l) λvs=>some<|v::vs)=some vs:=h;obtain⟨v,hv,h⟩:=ak h;obtain⟨vs1,hvs,h⟩:=ak h;cases h;obtain⟨vs',h1,h2⟩:=ih vs1 hvs;cases r with
   |tmp t=>
    replace hv:some (eO s t)=some v:=hv;cases hv;refine⟨_::vs',.cons _ _ _ _ (f.slot t) h1,?_⟩;simp only[rU,Sem.run_bind,Sem.run_pure,Result.andThen_ok,h2]
   |cell b t=>
    replace hv:(ax (r_ P t (eO s b) s.H) λp=>some p.1)=some v:=hv;obtain⟨p,hp,hv⟩:=ak hv;cases hv;have hb:=f.slot b;obtain⟨hH,v',h3,h4⟩:=Ss (P:=P) rh (show r_ P t (eO s b) s.H=some (p.1,p.2)from hp) hb;refine⟨v'::vs',.cons _ _ _ _ h3 h1,?_⟩
    have h5:∃a',a.tmps.getD b undef=.pointer (some a'):=by
     have h:=hp;obtain⟨a0,ha0,h⟩:=ak h;rw[kW ha0]at hb;obtain⟨l,_,_,_,h⟩:=hb.oO;exact⟨_,h⟩
    obtain⟨a',ha'⟩:=h5;rw[ha']at h4;simp only[Instr.loadAt,Instr.sureAddr,Sem.run_bind,Sem.run_pure,Result.andThen_ok]at h4;have has:asAddr (.pointer<|some a')=pure a':=rfl;simp only[rU,ha',has,Sem.run_bind,Sem.run_pure,Result.andThen_ok,h4,h2]
 obtain⟨vs',h1,h2⟩:=key _ _ h;have hlen:=h1.length;refine⟨if h:vs'.toArray.size=1 then vs'.toArray[0]else .tuple vs'.toArray,?_,?_⟩
 .unfold oN;cases vs with
  |nil=>cases h1;exact .tuple [] [] .nil
  |cons v vs=>
   cases h1 with
   |cons _ v' _ x' hv hx=>
    cases vs with
    |nil=>cases hx;exact hv
    |cons u vs=>
     have:(v'::x').toArray.size≠1:=by simp at hlen|-;intro h;rw[h]at hlen;simp at hlen
     rw[dif_neg this];exact .tuple _ _<|.cons _ _ _ _ hv hx
 .show Sem.run P (do
   let vs<-fn.results.mapM (λ|ResultVar.tmp t=>(pure (a.tmps.getD t undef):Sem Value)|ResultVar.cell b t=>do loadVar t (<-asAddr (a.tmps.getD b undef)))
   pure (if h:vs.size=1 then vs[0]else .tuple vs)) w=_
  simp only[Sem.run_bind,Array.mapM_eq_mapM_toList,Sem.run_map,h2,Result.andThen_ok,Sem.run_pure]
theorem adK(h:jf m args args')(nl nt:Nat)(hle:args.length<=nt)(H:ag):
 FR m ⟨nl,nt,[],Tr.pU top args 0 .nil,[],H⟩ {tmps:=(⟨args'⟩:Array Value)++Array.replicate (nt-(⟨args'⟩:Array Value).size) undef,defers:=[]}:=by
 have hl:=h.length;refine⟨by simp;omega,λt=>?_⟩;show VR m (aU (d_ nl t) ((Tr.pU top args 0 .nil).get top t)<|look [] t) _;cases d_ nl t with
 |false=>exact .top _
 |true=>
  show VR m ((Tr.pU top args 0 .nil).get top t) _;rw[Tr.jM]
  by_cases ht:t<args.length
  .rw[if_pos aa];have hg:args[t]?=some (args.getD t top):=by rw[aK,ae ht];rfl
   obtain⟨v',h1,h2⟩:=h.get t hg
   have:((⟨args'⟩:Array Value)++Array.replicate (nt-(⟨args'⟩:Array Value).size) undef).getD t undef=v':=by
    rw[dM,Array.getElem?_append_left (by simp;omega)];simp[h1]
   rw[this];exact h2
  .rw[if_neg aa,Tr.get_nil];exact .top _
theorem UT{o:Out}{R:Ending->World->Prop}(h:Lg o=some s)(K:∀a' w' m',At m H w [] nt [] s a' w' m'->a'.defers=[]/\∃v,(results fn a'.tmps).run P w'=.ok v w'/\R (.returned v) w'):
 Post m H w [] nt [] (bodyPost P fn R) o:=by
 cases o with
 |fail=>cases h
 |norm s1=>cases h;intro m' a' w' ha;exact K a' w' m' ha
 |exit=>cases h
 |goto=>cases h
 |ret s1=>cases h;intro m' a' w' ha;exact K a' w' m' ha
theorem UU{X:Xt}{L:Lv}(hP:xU P n)(hO:EX P X n)(hcf:DT P n L.ca)(hcx:∀nt,LX P L.cx n nt)(hdr:∀nt,LW P L.ca n nt)(k:Nat):
 LY P n (yE P X L k):=by
 intro g args v H H' fn h hg hb m w args' rh gl hv;cases hor:X.o g args H with
 |some r=>
  rw[Aa hor]at h;cases h;exact(hO g args v H H' hor).2 m w args' rh gl hv
 |none=>
 rw[uW hor]at h;obtain⟨fn',hfn,h⟩:=ak h;rw[kU,bT,hg]at hfn;cases hfn;have hok:=hP g fn hg;cases hbody:fn.body with
 |none=>rw[hbody]at hb;cases hb
 |some c=>
  replace h:(@Option.rec Code (λ_=>Option<|Value×ag) (Uk P (X g) fn.resultTypes.toList args H)
   (λc=>gd (Nat.ble (len args) fn.ntmps)<|ax (Lg<|exec P L.ca L.cx k c ⟨gW P g,fn.ntmps,[],Tr.pU top args 0 .nil,[],H⟩) λs=>FB P fn s) fn.body)=some (v,H'):=h
  unfold Xl at hok;rw[hbody]at h hok;replace h:(gd (Nat.ble (len args) fn.ntmps)<|ax (Lg<|exec P L.ca L.cx k c ⟨gW P g,fn.ntmps,[],Tr.pU top args 0 .nil,[],H⟩) λs=>FB P fn s)=some (v,H'):=h;replace hok:(vS n fn.ntmps c&&!(fn.name== "runtime.NumGoroutine"))=true:=hok;rw[aG]at hok;obtain⟨hle,h⟩:=dh h;have hle:=ai hle;rw[dG]at hle;obtain⟨s,hs,h⟩:=ak h;obtain⟨hdf,h⟩:=dh h;obtain⟨vs,hvs,h⟩:=ak h;cases h;refine calls_of_wp hg hbody ?_;refine Sz hcf (hcx fn.ntmps) (hdr fn.ntmps) k c ⟨gW P g,fn.ntmps,[],Tr.pU top args 0 .nil,[],H⟩ m _ w _ (Qz c hok.1) rfl rh (adK hv (gW P g) fn.ntmps hle H) gl ?_;refine UT hs ?_;intro a' w' m' ha;obtain⟨v',h1,h2⟩:=QA ha.rh ha.fr hvs;exact⟨ha.de,v',h2,m',v',rfl,h1,ha.rh,ha.ex⟩
theorem aa9{X:Xt}{L:Lv}(hP:xU P n)(hX:V5 P X)(hO:EX P X n)(hc:LY P n<|yE P X L k):DT P n (yE P X L k):=by
 intro g args v H H' h m w args' rh gl hv o a next Q K
 have h0:=h
 have ahz:∃fn,P.funcs[g]?=some fn/\(fn.body=none->X.o g args H=none):=by
  cases hor:X.o g args H with
  |some r=>
   obtain⟨⟨fn,h1,h2⟩,_⟩:=hO g args r.1 H r.2 hor;exact⟨fn,h1,λh3=>by rw[h3]at h2;cases h2⟩
  |none=>
   rw[uW hor]at h;obtain⟨fn,h1,_⟩:=ak h;rw[kU,bT]at h1;exact⟨fn,h1,λ_=>rfl⟩
 obtain⟨fn,hfn,hno⟩:=ahz;cases hbody:fn.body with
 |some c=>
  have hok:=hP g fn hfn;unfold Xl at hok;rw[hbody]at hok;replace hok:(vS n fn.ntmps c&&!(fn.name== "runtime.NumGoroutine"))=true:=hok;rw[aG]at hok;have hn:fn.name≠ "runtime.NumGoroutine" :=by simpa using hok.2
  have hr:(callFunc g ⟨args'⟩).run P w=.ok (.enter g ⟨args'⟩) w:=by
   simp[callFunc,hfn,hn,hbody]
  rw[hr,Oper.upon_enter];refine(hc g args v H H' fn h0 hfn (by rw[hbody];rfl) m w args' rh gl hv).mono ?_;rintro e w' ⟨m',v',rfl,h1,h2,h3⟩;exact K m' v' w' h1 h2 h3
 |none=>
  rw[uW (hno hbody),kU,bT,hfn]at h
  replace h:(@Option.rec Code (λ_=>Option<|Value×ag) (Uk P (X g) fn.resultTypes.toList args H)
   (λc=>gd (Nat.ble (len args) fn.ntmps)<|ax (Lg<|exec P L.ca L.cx k c ⟨gW P g,fn.ntmps,[],Tr.pU top args 0 .nil,[],H⟩) λs=>FB P fn s) fn.body)=some (v,H'):=h
  rw[hbody]at h;obtain⟨m',v',w',h1,h2,h3,h4⟩:=hX g fn args v H H' hfn hbody h m w args' rh hv;rw[h1,Oper.upon_value];exact K m' v' w' h2 h3 h4
theorem Xm{X:Xt}(hP:xU P n)(hX:V5 P X)(hO:EX P X n)(hdr:∀cf,DT P n cf->∀nt,LW P cf n nt):
 ∀k,DT P n (lv P X k).ca/\(∀nt,LX P (lv P X k).cx n nt)/\LY P n (lv P X k).ca:=by
 intro k
 induction k with
 |zero=>
  refine⟨?_,?_,?_⟩
  .intro g args v H H' h;cases h
  .intro nt c s m a w Q _ _ _ _ _ h;exact h.elim
  .intro g args v H H' fn h;cases h
 |succ k ih=>
  have hc:=UU (X:=X) hP hO ih.1 ih.2.1 (hdr _ ih.1) k;exact⟨aa9 hP hX hO hc,λnt=>Sz ih.1 (ih.2.1 nt) (hdr _ ih.1 nt) k,hc⟩
end mem
def Mp.upto(m:Mp)(b:Nat):Mp:=λr=>if r<b then m r else none
theorem Mp.SA(m:Mp)(b:Nat):Mp.le (m.upto b) m:=by
 intro r l h;unfold Mp.upto at h;split at h
 .exact h
 .cases h
theorem Mp.uz{b b':Nat}(hm:Mp.le m m')(hb:b<=b'):Mp.le (m.upto b) (m'.upto b'):=by
 intro r l h;unfold Mp.upto at h|-;split at h
 .next h1=>rw[if_pos aa];exact hm r l h
 .cases h
theorem Mp.lg{b:Nat}(h:m.upto b r=some l):r<b/\m r=some l:=by
 unfold Mp.upto at h;split at h
 .next h1=>exact⟨h1,h⟩
 .cases h
theorem Mp.DU{b:Nat}(h:m r=some l)(hr:r<b):m.upto b r=some l:=by
 unfold Mp.upto;rw[if_pos hr];exact h
theorem DV(h:eY (dV es)=true):False:=by
 have:=ai h;unfold dV at this;have e:Nat.add 18446744073709551616 es=18446744073709551616+es:=rfl;omega
mutual
theorem VR.restrict(hm:Mp.le m1 m2):∀{x v v':Value},VR m2 x v'->VR m1 x v->VR m1 x v'
 |_,_,_,.sc v h,_=>.sc v h
 |_,_,_,.top v,_=>.top v
 |_,_,_,.ptr r off l h hl,g=>by
  obtain⟨l1,h1,h2,_,_⟩:=g.oO;have:=hm _ _ h1;simp only at this h1;rw[h]at this;cases this;exact .ptr r off l h1 hl
 |_,_,_,.slice r off n cp l h hl hk hn,g=>by
  cases g with
  |sc _ hs=>simp[Ae.jW,cO]at hs
  |slice _ _ _ _ l1 h1 _ _ _=>
   have:=hm _ _ h1;rw[h]at this;cases this;exact .slice r off n cp l h1 hl hk hn
  |pM=>exact(DV hk).elim
  |uk=>exact .uk _ _
  |pW=>exact(DV hk).elim
 |_,_,_,.pM r off n es cc l h hl he ht hc hN,g=>by
  generalize GX:dV es=cu at g;cases g with
  |sc _ hs=>simp[Ae.jW,cO]at hs
  |slice _ _ _ _ l1 h1 _ hk _=>subst GX;exact(DV hk).elim
  |pM _ _ _ es1 _ l1 h1 _ _ _ _ _=>
   have:=hm _ _ h1;rw[h]at this;cases this;rw[<-GX];exact .pM r off n es cc l h1 hl he ht hc hN
  |uk=>unfold dV at GX;have e:Nat.add 18446744073709551616 es=18446744073709551616+es:=rfl;omega
  |pW _ _ es1 _ l1 h1 _ _ _=>
   have:=hm _ _ h1;rw[h]at this;cases this;rw[<-GX];exact .pM r off _ es cc l h1 hl he ht hc hN
 |_,_,_,.uk a a',_=>.uk a a'
 |_,_,_,.pW r off es a' l h hl he hN,g=>by
  generalize GX:dV es=cu at g;cases g with
  |sc _ hs=>simp[Ae.jW,cO]at hs
  |slice _ _ _ _ l1 h1 _ hk _=>subst GX;exact(DV hk).elim
  |pM _ _ _ es1 _ l1 h1 _ _ _ _ _=>
   have:=hm _ _ h1;rw[h]at this;cases this;rw[<-GX];exact .pW r off es a' l h1 hl he hN
  |uk=>unfold dV at GX;have e:Nat.add 18446744073709551616 es=18446744073709551616+es:=rfl;omega
  |pW _ _ es1 _ l1 h1 _ _ _=>
   have:=hm _ _ h1;rw[h]at this;cases this;rw[<-GX];exact .pW r off es a' l h1 hl he hN
 |_,_,_,.map r l h,g=>by
  obtain⟨l1,h1,_⟩:=g.of_map;have:=hm _ _ h1;rw[h]at this;cases this;exact .map r l h1
 |_,_,_,.func f x y x' y' hx hy,g=>by
  obtain⟨_,_,rfl,h1,h2⟩:=g.WC;exact .func f x y x' y' (jf.restrict hm hx h1)<|jf.restrict hm hy h2
 |_,_,_,.iface t v v' h,g=>by
  obtain⟨_,rfl,h1⟩:=g.NA;exact .iface t v v'<|VR.restrict hm h h1
 |_,_,_,.agg x x' h,g=>by
  obtain⟨_,rfl,h1⟩:=g.uq;exact .agg x x'<|jf.restrict hm h h1
 |_,_,_,.tuple x x' h,g=>by
  obtain⟨_,rfl,h1⟩:=g.Lm;exact .tuple x x'<|jf.restrict hm h h1
theorem jf.restrict(hm:Mp.le m1 m2):∀{x v v':List Value},jf m2 x v'->jf m1 x v->jf m1 x v'
 |_,_,_,.nil,_=>.nil
 |_,_,_,.cons v v' x x' h hx,g=>by
  cases g with
  |cons _ _ _ _ g1 g2=>exact .cons v v' x x' (VR.restrict hm h g1)<|jf.restrict hm hx g2
end
theorem BP.restrict(hm:Mp.le m1 m2){x:List (Value×Value)}{v v':List MapEntry}(h:BP m2 x v')(g:BP m1 x v):BP m1 x v':=by
 induction h generalizing v with
 |nil=>exact .nil
 |cons k x e l l' hk hv _ ih=>
  cases g with
  |cons _ _ _ _ _ gk gv gl=>exact .cons k x e l l' (VR.restrict hm hk gk) (VR.restrict hm hv gv)<|ih gl
def Iu:iW->iW
 |.row R=>.row ⟨R.ty,.nil,R.n,R.ja,R.fz⟩
 |o=>o
def jd:iW->Nat->Option Value
 |.row R,i=>if i<R.n then some (R.cells.get top i)else none
 |_,_=>none
def jN(m:Mp)(l:Loc):iW->Obj->Prop
 |.dead,_=>True
 |.row R,.cells cs ty fr=>(ty=R.ty/\l.base=0)/\R.n=l.n/\cs.size=l.tot/\l.lo<=R.n/\l.base+(R.n-l.lo)<=l.tot/\(R.ja=false->fr.2<=l.base+(R.fz-l.lo))
 |.map es,.map xz _=>BP m es xz.toList
 |.zQ s p,.stringIter s' p'=>s'=s/\p'=p/\l.base=0
 |_,_=>False
def uA(m:Mp)(l:Loc)(i:Nat)(x:Value)(ob:Obj):Prop:=∃cs ty fr v,ob=.cells cs ty fr/\cs[l.base+(i-l.lo)]?=some v/\VR m x v
theorem jN.QB{o:iW}(h:jN m l o ob)(e:Iu o=Iu o'):jN m l o' ob:=by
 cases o<;>cases o'<;>simp only[Iu]at e<;>first|(cases e;exact h)|cases e|skip
 case row.row R R'=>
  obtain⟨a1,a2,a3,a4,a5⟩:=R;obtain⟨b1,b2,b3,b4,b5⟩:=R';simp only[iW.row.injEq,Row.mk.injEq]at e;obtain⟨rfl,_,rfl,rfl,rfl⟩:=e;cases ob<;>first|exact h|exact h.elim
theorem qG.split{o:iW}(h:qG m l o ob):jN m l o ob/\∀i x,jd o i=some x->l.lo<=i->uA m l i x ob:=by
 cases o with
 |row R=>
  cases ob<;>first|exact h.elim|skip
  case cells cs ty fr=>
   obtain⟨h1,h2,h3,h4,h5,h6,h7⟩:=h;refine⟨⟨h1,h2,h3,h4,h5,h6⟩,?_⟩;intro i x hx hi;simp only[jd]at hx;split at hx
   .next hn=>
    cases hx;obtain⟨v,h8,h9⟩:=h7 i hi hn;exact⟨cs,ty,fr,v,rfl,h8,h9⟩
   .cases hx
 |dead=>exact⟨trivial,λi x hx=>by cases hx⟩
 |map es=>cases ob<;>first|exact h.elim|exact⟨h,λi x hx=>by cases hx⟩
 |zQ s p=>cases ob<;>first|exact h.elim|exact⟨h,λi x hx=>by cases hx⟩
theorem qG.join{o:iW}(h:jN m l o ob)(hc:∀i x,jd o i=some x->l.lo<=i->uA m l i x ob):qG m l o ob:=by
 cases o with
 |row R=>
  cases ob<;>first|exact h.elim|skip
  case cells cs ty fr=>
   obtain⟨h1,h2,h3,h4,h5,h6⟩:=h;refine⟨h1,h2,h3,h4,h5,h6,?_⟩;intro i hi hn;obtain⟨cs',ty',fr',v,e,h8,h9⟩:=hc i _ (by simp only[jd];rw[if_pos hn]) hi;cases e;exact⟨v,h8,h9⟩
 |dead=>trivial
 |map es=>cases ob<;>first|exact h.elim|exact h
 |zQ s p=>cases ob<;>first|exact h.elim|exact h
theorem jN.mono(hm:Mp.le m m'){o:iW}(h:jN m l o ob):jN m' l o ob:=by
 cases o<;>cases ob<;>first|exact h|exact BP.mono hm h
theorem jN.restrict(hm:Mp.le m1 m2){o:iW}(h:jN m2 l o Ih)(g:jN m1 l o ob):jN m1 l o Ih:=by
 cases o with
 |dead=>trivial
 |row R=>cases Ih<;>exact h
 |zQ s p=>cases Ih<;>exact h
 |map es=>
  cases Ih<;>first|exact h.elim|skip
  cases ob<;>first|exact g.elim|skip
  exact BP.restrict hm h g
theorem uA.mono(hm:Mp.le m m')(h:uA m l i x ob):uA m' l i x ob:=by
 obtain⟨cs,ty,fr,v,h1,h2,h3⟩:=h;exact⟨cs,ty,fr,v,h1,h2,h3.mono hm⟩
theorem uA.restrict(hm:Mp.le m1 m2)(h:uA m2 l i x Ih)(g:uA m1 l i x ob):uA m1 l i x Ih:=by
 obtain⟨cs,ty,fr,v,h1,h2,h3⟩:=h;obtain⟨_,_,_,_,_,_,g3⟩:=g;exact⟨cs,ty,fr,v,h1,h2,VR.restrict hm h3 g3⟩
theorem Xn{o:iW}(e:Iu o=Iu o')(h:o≠.dead):o'≠.dead:=by
 intro e';subst e';cases o<;>first|exact h rfl|cases e
theorem Ab(m i:Nat):d_ m i=m.testBit i:=by
 unfold d_;rw[Nat.testBit_eq_decide_div_mod_eq];have e1:Nat.shiftRight m i=m>>>i:=rfl;rw[e1,oH];have e2:Nat.mod (m/2^i) 2=(m/2^i) %2:=rfl;rw[e2,bZ,decide_eq_true_iff];exact⟨aB,λh=>by rw[h];rfl⟩
theorem UW(e i:Nat):d_ (Nat.shiftLeft 1 e) i=true<->i=e:=by
 rw[Ab];have e1:Nat.shiftLeft 1 e=1<<<e:=rfl;rw[e1,Nat.one_shiftLeft,Nat.testBit_two_pow];simp[eq_comm]
theorem Kr(a b i:Nat):d_ (Nat.lor a b) i=(d_ a i||d_ b i):=by
 rw[Ab,Ab,Ab];exact Nat.testBit_or a b i
theorem QC(i:Nat):d_ 0 i=false:=by rw[Ab];simp
theorem QD{acc:List Nat}:∀{l:List Edge}{i:Nat},d_ (wH acc n l) i=true->∃e,e∈l/\Region.binds .any e=true/\(i=e.on\/d_ ((nth acc<|n-1-e.on).getD 0) i=true):=by
 intro l
 induction l with
 |nil=>intro i h;rw[show wH acc n []=0 from rfl,QC]at h;cases h
 |cons e l ih=>
  intro i h;replace h:d_ (aU (Region.binds .any e) (Nat.lor (Nat.lor (Nat.shiftLeft 1 e.on)<|(nth acc<|Nat.sub (Nat.sub n 1) e.on).getD 0)<|wH acc n l)<|wH acc n l) i=true:=h;cases hb:Region.binds .any e with
  |false=>
   rw[hb]at h;obtain⟨e',h1,h2⟩:=ih h;exact⟨e',aT _ h1,h2⟩
  |true=>
   rw[hb]at h;replace h:d_ (Nat.lor (Nat.lor (Nat.shiftLeft 1 e.on)<|(nth acc<|Nat.sub (Nat.sub n 1) e.on).getD 0)<|wH acc n l) i=true:=h;rw[Kr,Kr,gN,gN]at h;rcases h with(h|h)|h
   .exact⟨e,aD ..,hb,.inl<|(UW _ _).1 h⟩
   .exact⟨e,aD ..,hb,.inr h⟩
   .obtain⟨e',h1,h2⟩:=ih h;exact⟨e',aT _ h1,h2⟩
def xJ(ops:Array Oper)(j:Nat):Nat:=(qc ops.toList [] 0).getD (ops.size-1-j) 0
theorem Ks:∀(l:List Oper)(acc:List Nat)(n:Nat),(qc l acc n).length=l.length+acc.length:=by
 intro l
 induction l with
 |nil=>intro acc n;simp[show qc [] acc n=acc from rfl]
 |cons o l ih=>
  intro acc n;rw[show qc (o::l) acc n=qc l (wH acc n o.after.toList::acc) (n+1)from rfl,ih];simp;omega
theorem Iv:∀(l:List Oper)(acc:List Nat)(n k:Nat),l.length<=k->(qc l acc n).getD k 0=acc.getD (k-l.length) 0:=by
 intro l
 induction l with
 |nil=>intro acc n k _;rfl
 |cons o l ih=>
  intro acc n k hk;rw[show qc (o::l) acc n=qc l (wH acc n o.after.toList::acc) (n+1)from rfl,ih _ _ _ (by simp at hk;omega)];simp only[bH]at hk|-;rw[show k-l.length=(k-(l.length+1))+1 from by omega];rfl
theorem Xo:∀(l:List Oper)(acc:List Nat)(n j:Nat)(o:Oper),acc.length=n->l[j]?=some o->
 ∃acc',acc'.length=n+j/\(qc l acc n).getD (l.length-1-j) 0=wH acc' (n+j) o.after.toList/\∀k,k<n+j->acc'.getD (n+j-1-k) 0=(qc l acc n).getD (n+l.length-1-k) 0:=by
 intro l
 induction l with
 |nil=>intro acc n j o _ h;simp at h
 |cons p l ih=>
  intro acc n j o hn h;rw[show qc (p::l) acc n=qc l (wH acc n p.after.toList::acc) (n+1)from rfl];cases j with
  |zero=>
   simp at h;subst h;refine⟨acc,by simpa using hn,?_,?_⟩
   .rw[Iv _ _ _ _ (by simp)];simp
   .intro k hk;rw[Iv _ _ _ _ (by simp;omega)];simp only[bH,bn];rw[show n+(l.length+1)-1-k-l.length=(n-1-k)+1 from by omega];rfl
  |succ j=>
   obtain⟨acc',h1,h2,h3⟩:=ih (wH acc n p.after.toList::acc) (n+1) j o (by simp[hn]) (by simpa using h)
   have hj:j<l.length:=by
    have:l[j]?=some o:=by simpa using h
    exact(aL.1 this).1
   refine⟨acc',aa,?_,?_⟩
   .simp only[bH];rw[show l.length+1-1-(j+1)=l.length-1-j from by omega,h2,show n+1+j=n+(j+1)from by omega]
   .intro k hk;have:=h3 k aa;rw[show n+1+j-1-k=n+(j+1)-1-k from by omega,show n+1+l.length-1-k=n+(l.length+1)-1-k from by omega]at this;exact this
theorem Ac:∀(l:List Oper)(n j:Nat)(o:Oper),uh l n=true->l[j]?=some o->∀e,e∈o.after.toList->Region.binds .any e=true->e.on<n+j:=by
 intro l
 induction l with
 |nil=>intro n j o _ h;simp at h
 |cons p l ih=>
  intro n j o hb h e he hbe;replace hb:aU (all' (λe=>!(Region.binds .any e)||Nat.ble (Nat.succ e.on) n) p.after.toList) (uh l<|Nat.succ n) false=true:=hb;cases ha:all' (λe=>!(Region.binds .any e)||Nat.ble (Nat.succ e.on) n) p.after.toList with
  |false=>rw[ha]at hb;cases hb
  |true=>
   rw[ha]at hb;replace hb:uh l (Nat.succ n)=true:=hb;cases j with
   |zero=>
    simp at h;subst h;rw[all_eq,bU]at ha;have:=ha e he;rw[hbe]at this;simp only[tV,pO]at this;have:=ai this;omega
   |succ j=>
    have:=ih (n+1) j o hb (by simpa using h) e he hbe;omega
theorem jI(hb:uh ops.toList 0=true)(hD:∀j o,ops[j]?=some o->D j->∀e,e∈o.after.toList->Region.binds .any e=true->D e.on):
 ∀(j:Nat)(o:Oper),ops[j]?=some o->(∀e,e∈o.after.toList->Region.binds .any e=true->D e.on)->∀i,d_ (xJ ops j) i=true->D i:=by
 intro j
 induction j using Nat.strongRecOn with
 |_ j ih=>
  intro o ho hall i hi;have hol:ops.toList[j]?=some o:=by rw[bT];exact ho
  obtain⟨acc',h1,h2,h3⟩:=Xo ops.toList [] 0 j o rfl hol;unfold xJ at hi;rw[show ops.size-1-j=ops.toList.length-1-j from by simp,h2]at hi;obtain⟨e,he,hbe,hie⟩:=QD hi;have hlt:=Ac _ 0 j o hb hol e he hbe;rcases hie with rfl|hie
  .exact hall e he hbe
  .have hDe:=hall e he hbe;have hjs:j<ops.size:=(cr.1 ho).1;have hoe:ops[e.on]?=some ops[e.on]:=aJ aa;refine ih e.on aa _ hoe (hD e.on _ hoe hDe) i ?_;have h4:=h3 e.on aa;unfold xJ;rw[show ops.size-1-e.on=0+ops.toList.length-1-e.on from by simp,<-h4];rw[kU]at hie;rw[aK];exact hie
theorem LZ{f:α->α->Bool->Bool}{x:α}{m:Nat}:∀{l:List α},iB f x m l=true->∀i y,l[i]?=some y->f x y (d_ m<|l.length-1-i)=true:=by
 intro l
 induction l with
 |nil=>intro _ i y h;simp at h
 |cons z l ih=>
  intro h i y hy;replace h:aU (f x z<|d_ m<|len l) (iB f x m l) false=true:=h;cases hf:f x z (d_ m<|len l)with
  |false=>rw[hf]at h;cases h
  |true=>
   rw[hf]at h;cases i with
   |zero=>simp at hy;subst hy;rw[dG]at hf;simpa using hf
   |succ i=>
    have:=ih h i y (by simpa using hy);simp only[bH];rw[show l.length+1-1-(i+1)=l.length-1-i from by omega];exact this
theorem Iw{f:α->α->Bool->Bool}:∀{ms:List Nat}{xs:List α},pairs f ms xs=true->∀i j x y,i<j->xs[i]?=some x->xs[j]?=some y->i<ms.length->
 f x y (d_ (ms.getD i 0)<|xs.length-1-j)=true:=by
 intro ms
 induction ms with
 |nil=>intro xs _ i j x y _ _ _ h;simp at h
 |cons m ms ih=>
  intro xs h i j x y hij hx hy hi;cases xs with
  |nil=>simp at hx
  |cons z xs=>
   replace h:aU (iB f z m xs) (pairs f ms xs) false=true:=h;cases hr:iB f z m xs with
   |false=>rw[hr]at h;cases h
   |true=>
    rw[hr]at h;cases j with
    |zero=>omega
    |succ j=>
     simp only[bH];rw[show xs.length+1-1-(j+1)=xs.length-1-j from by omega];cases i with
     |zero=>
      simp at hx;subst hx;exact LZ hr j y (by simpa using hy)
     |succ i=>exact ih h i j x y aa (by simpa using hx) (by simpa using hy) (by simpa using hi)
section mem
variable{P:Program}
theorem QE{F:Prop}(h:o.wp P a w next Q)(hn:∀a w,next a w->F)(hq:∀e a w,Q e a w->F):F:=by
 unfold Oper.wp at h;generalize(execOp a.eval o).run P w=r at h;cases r with
 |ok n w'=>
  cases n with
  |value v=>exact hn _ _ h
  |skip=>exact hn _ _ h
  |defer d=>exact hn _ _ h
  |enter f args=>
   obtain⟨e,w2,fr,hR,_⟩:=h [];cases e with
   |returned v=>exact hn _ _ hR
   |panicked ch=>exact hq _ _ _ hR
   |outgrown=>obtain⟨a1,w1,h1⟩:=hR;exact hq _ _ _ h1
  |row row args=>
   obtain⟨v,w2,hR,_⟩:=h default [];exact hn _ _ hR
  |_=>exact h.elim
 |halt x w'=>
  cases x with
  |panic v=>exact hq _ _ _ h
  |_=>exact h.elim
theorem Iy{cf:iO}(hcf:DT P n cf)(rh:RH m s.H w)(gl:Gl n m)(hr:vN o.op P cf s=.mem v H')(e:Kq m s a.eval o.op.operands.toList)(K:∀m' v' w',VR m' v v'->RH m' H' w'->Ex m m' s.H H' w w'->next (a.put o.dst v') w'):o.wp P a w next Q:=by
 unfold Oper.wp;refine Sy rh hr e ?_ K;intro c hop hb;rw[hop]at hr;replace hr:tJ c P cf s=.mem v H':=hr;obtain⟨callee,⟨args⟩,ats⟩:=c;cases callee with
 |value g=>exact NS hcf gl rh hop hr e K
 |invoke r name=>exact NT hcf gl rh hop hr e K
 |builtin b=>cases hb
theorem Kq.dX(e:Kq m s ρ L):Kq m (dX s) ρ L:=⟨λx hx=>by have:=e.all x hx;cases x<;>exact this⟩
inductive Iz(P:Program)(cf:iO)(ops:Array Oper)(o:Oper)(s:St):St->Cl->Prop where
 |skip (hw:mX ops s o.guard=some false):Iz P cf ops o s (fU s o.dst undef s.H) (cl 0)
 |zF (v:Value) (hw:mX ops s o.guard=some true) (hr:vN o.op P cf (dX s)=.zF v):Iz P cf ops o s (fU s o.dst v s.H) (cl 0)
 |mem (v:Value) (H':ag) (hw:mX ops s o.guard=some true) (hr:vN o.op P cf (dX s)=.mem v H'):
  Iz P cf ops o s (fU s o.dst v ⟨H'.rM,H'.next,kV s.H.low H'.low⟩) (oI P o.op s H')
theorem Xp{cf:iO}{c:Cl}(h:iT P cf ops o s=some (s1,c)):Iz P cf ops o s s1 c:=by
 obtain⟨b,hb,h⟩:=ak h;cases b with
 |false=>
  replace h:some (fU s o.dst undef s.H,cl 0)=some (s1,c):=h;cases h;exact .skip hb
 |true=>
  replace h:Fx P o s (vN o.op P cf<|dX s)=some (s1,c):=h;cases hr:vN o.op P cf (dX s)with
  |fail=>rw[hr]at h;cases h
  |zF v=>
   rw[hr]at h;replace h:some (fU s o.dst v s.H,cl 0)=some (s1,c):=h;cases h;exact .zF v hb hr
  |mem v H'=>
   rw[hr]at h;replace h:some (fU s o.dst v ⟨H'.rM,H'.next,kV s.H.low H'.low⟩,oI P o.op s H')=some (s1,c):=h;cases h;exact .mem v H' hb hr
def TF(P:Program)(cf:iO)(ops:Array Oper)(o:Oper)(s:St):Prop:=∀v H',vN o.op P cf (dX s)=.mem v H'->mX ops s o.guard=some true->s.H.next<=H'.next/\∀r,r<s.H.next->r<H'.low->H'.obj r=s.H.obj r
theorem RH.low(rh:RH m H w)(k:Nat):RH m ⟨H.rM,H.next,k⟩ w:=⟨rh.dom,rh.ok,rh.sep⟩
theorem trace{cf:iO}(hcf:DT P n cf):
 ∀(l:List Oper)(s s1:St)(acc cls:List Cl)(m:Mp)(a:Act)(w:World),(∀o,o∈l->uy n nt o=true)->s.nt=nt->RH m s.H w->FR m s a->Gl n m->
 fT P cf ops l s acc=some (s1,cls)->
 ∃(S:Nat->St)(C:Nat->Cl),S 0=s/\S l.length=s1/\cls.length=l.length+acc.length/\(∀j,j<l.length->cls[l.length-1-j]?=some (C j))/\(∀k,cls[l.length+k]?=acc[k]?)/\
  ∀j o,l[j]?=some o->Iz P cf ops o (S j) (S<|j+1) (C j)/\TF P cf ops o (S j)/\(S j).nt=nt:=by
 intro l
 induction l with
 |nil=>
  intro s s1 acc cls m a w _ hnt _ _ _ h;cases h;exact⟨λ_=>s,λ_=>cl 0,rfl,rfl,by simp,by simp,by simp,by simp⟩
 |cons o l ih=>
  intro s s1 acc cls m a w hall hnt rh f gl h;replace h:(ax (iT P cf ops o s) λq=>fT P cf ops l q.1<|q.2::acc)=some (s1,cls):=h;obtain⟨q,hq,h⟩:=ak h;obtain⟨s2,c⟩:=q;have hst:=Xp hq;have ho:=hall o (by simp);unfold uy at ho;simp only[aG]at ho
  have key:(∃m' a' w',RH m' s2.H w'/\FR m' s2 a'/\Gl n m')/\TF P cf ops o s/\s2.nt=nt:=by
   cases hst with
   |skip hw=>
    refine⟨⟨m,a.put o.dst undef,w,by rw[iY];exact rh,f.put (by rw[hnt];exact ho.2)<|.tuple [] [] .nil,gl⟩,?_,by rw[vR];exact hnt⟩;intro v H' _ hw';rw[hw]at hw';cases hw'
   |zF v hw hr=>
    have e:=(f.ev gl ho.1).dX;obtain⟨v',h1,h2⟩:=LV hr e λ_=>rfl;refine⟨⟨m,a.put o.dst v',w,by rw[iY];exact rh,f.put (by rw[hnt];exact ho.2) h1,gl⟩,?_,by rw[vR];exact hnt⟩;intro v1 H' hr' _;rw[hr]at hr';cases hr'
   |mem v H' hw hr=>
    have e:=(f.ev gl ho.1).dX
    have hx:o.wp P a w (λa' w'=>∃m',(RH m' (fU s o.dst v ⟨H'.rM,H'.next,kV s.H.low H'.low⟩).H w'/\FR m' (fU s o.dst v ⟨H'.rM,H'.next,kV s.H.low H'.low⟩) a'/\Gl n m')/\
     (s.H.next<=H'.next/\∀r,r<s.H.next->r<H'.low->H'.obj r=s.H.obj r)) (λ_ _ _=>False):=by
     refine Iy hcf (s:=dX s) (rh.low _) gl hr e ?_;intro m' v' w' h1 h2 h3;exact⟨m',⟨by rw[iY];exact h2.low _,(f.mono h3.le).put (by rw[hnt];exact ho.2) h1,gl.mono h3.le⟩,h3.next,h3.rM⟩
    have:=QE (F:=(∃m' a' w',RH m' (fU s o.dst v ⟨H'.rM,H'.next,kV s.H.low H'.low⟩).H w'/\FR m' (fU s o.dst v ⟨H'.rM,H'.next,kV s.H.low H'.low⟩) a'/\Gl n m')/\
     (s.H.next<=H'.next/\∀r,r<s.H.next->r<H'.low->H'.obj r=s.H.obj r)) hx
     (λa' w' ⟨m',h1,h2⟩=>⟨⟨m',a',w',h1⟩,h2⟩) (λ_ _ _ h=>h.elim)
    refine⟨this.1,?_,by rw[vR];exact hnt⟩;intro v1 H1 hr' _;rw[hr]at hr';cases hr';exact this.2
  obtain⟨⟨m',a',w',rh',f',gl'⟩,htf,ahA⟩:=key;obtain⟨S,C,e1,e2,e3,e4,e5,e6⟩:=ih s2 s1 (c::acc) cls m' a' w' (λp hp=>hall p<|by simp[hp]) ahA rh' f' gl' h;refine⟨λk=>match k with|0=>s|k+1=>S k,λk=>match k with|0=>c|k+1=>C k,rfl,e2,by simp at e3|-;omega,?_,?_,?_⟩
  .intro j hj;cases j with
   |zero=>
    have:=e5 0;simpa using this
   |succ j=>
    simp only[bH]at hj|-;rw[show l.length+1-1-(j+1)=l.length-1-j from by omega];exact e4 j aa
  .intro k;have:=e5<|k+1;simp only[bH];rw[show l.length+1+k=l.length+(k+1)from by omega,this];rfl
  .intro j p hp;cases j with
   |zero=>
    simp at hp;subst hp;exact⟨by simpa [e1]using hst,htf,hnt⟩
   |succ j=>exact e6 j p (by simpa using hp)
theorem Xq{o:Op}:(oI P o s H').k<=5:=by
 unfold oI;cases yD o with
 |none=>
  show(aU (Nat.ble s.H.next H'.low) (aU (xx o) (cl 5)<|xy P o s) ⟨2,0,0,0,s.H,H'⟩:Cl).k<=5;cases Nat.ble s.H.next H'.low with
  |false=>exact ai rfl
  |true=>
   cases xx o with
   |true=>exact ai rfl
   |false=>
    show(xy P o s).k<=5;unfold xy;cases h:(ax (EL o) λp=>ax (mF<|ev s p.2) λa=>ax (V3 P p.1) λl=>some<|Cl.mk 4 a.block a.off (l.getD 1) hh0 hh0)with
    |none=>exact ai rfl
    |some q=>
     obtain⟨p,hp,h⟩:=ak h;obtain⟨a,ha,h⟩:=ak h;obtain⟨l,hl,h⟩:=ak h;cases h;exact ai rfl
 |some p=>
  show(@Option.rec Addr (λ_=>Cl) ⟨2,0,0,0,s.H,H'⟩ (λa=>⟨3,a.block,a.off,len<|aX<|ev s p.2,hh0,hh0⟩) (mF<|ev s p.1):Cl).k<=5;cases mF (ev s p.1)<;>exact ai rfl
theorem UX(h:lI ops=true):uh ops.toList 0=true/\∀i j oi oj,i<j->ops[i]?=some oi->ops[j]?=some oj->d_ (xJ ops j) i=true\/oi.apart ops oj=true:=by
 unfold lI at h;rw[aG]at h;refine⟨h.1,λi j oi oj hij hi hj=>?_⟩;have hjs:j<ops.size:=(cr.1 hj).1
 have hget:∀k o,ops[k]?=some o->ops.toList.reverse[ops.size-1-k]?=some o:=by
  intro k o hk;have hks:k<ops.size:=(cr.1 hk).1;rw[List.getElem?_reverse (by simp;omega)];simp only[kT];rw[show ops.size-1-(ops.size-1-k)=k from by omega,bT];exact hk
 have:=Iw h.2 (ops.size-1-j) (ops.size-1-i) oj oi aa (hget j oj hj) (hget i oi hi) (by rw[Ks];simp;omega);simp only[List.length_reverse,kT]at this;rw[show ops.size-1-(ops.size-1-i)=i from by omega]at this;simpa [xJ]using this
theorem Xr(h:gQ ops cls=true)(hl:cls.length=ops.size)(hC:∀j,j<ops.size->cls[ops.size-1-j]?=some (C j))(hk:∀j,j<ops.size->(C j).k<=5):
 ∀i j,i<j->j<ops.size->dP (C j) (C i) (d_ (xJ ops j) i)=true:=by
 intro i j hij hj;unfold gQ at h;cases hn:noTwo cls with
 |false=>
  rw[hn]at h;have:=Iw (f:=dP) h (ops.size-1-j) (ops.size-1-i) (C j) (C i) aa (hC j hj) (hC i aa) (by rw[Ks];simp;omega);rw[hl,show ops.size-1-(ops.size-1-i)=i from by omega]at this;exact this
 |true=>
  have hno:∀k,k<ops.size->(C k).k≠2/\(C k).k≠3:=by
   intro k hk';unfold noTwo at hn;rw[all_eq,bU]at hn;have:=hn (C k)<|aA<|hC k hk';simp only[oZ,Bool.or_eq_false_iff]at this;exact⟨λe=>by rw[e]at this;exact absurd this.1<|by decide,λe=>by rw[e]at this;exact absurd this.2<|by decide⟩
  have h1:=hno i aa;have h2:=hno j hj;have h3:=hk i aa;have h4:=hk j hj;generalize C i=ci at h1 h3|-;generalize C j=cj at h2 h4|-;obtain⟨ki,_,_,_,_,_⟩:=ci;obtain⟨kj,_,_,_,_,_⟩:=cj;simp only at h1 h2 h3 h4;have e1:ki=0\/ki=1\/ki=4\/ki=5:=by omega
  have e2:kj=0\/kj=1\/kj=4\/kj=5:=by omega
  rcases e1 with rfl|rfl|rfl|rfl<;>rcases e2 with rfl|rfl|rfl|rfl<;>rfl
theorem L5{x:Cl}(h:dP y x b=true)(hx:x.k=1\/x.k=2)(hy:y.k=1\/y.k=2)(h2:x.k=2\/y.k=2):b=true:=by
 obtain⟨kx,_,_,_,_,_⟩:=x;obtain⟨ky,_,_,_,_,_⟩:=y;simp only at hx hy h2;rcases hx with rfl|rfl<;>rcases hy with rfl|rfl<;>first|(exfalso;omega)|exact h
theorem SC{x:Cl}(h:dP y x b=true)(hx:x.k=3)(hy:y.k=1\/y.k=2):False:=by
 obtain⟨kx,_,_,_,_,_⟩:=x;obtain⟨ky,_,_,_,_,_⟩:=y;simp only at hx hy;subst hx;rcases hy with rfl|rfl<;>(cases b<;>exact absurd (show false=true from h)<|by simp)
theorem SE{x:Cl}(h:dP y x b=true)(hx:x.k=1\/x.k=2)(hy:y.k=3):b=true:=by
 obtain⟨kx,_,_,_,_,_⟩:=x;obtain⟨ky,_,_,_,_,_⟩:=y;simp only at hx hy;subst hy;rcases hx with rfl|rfl<;>(cases b<;>first|rfl|exact h)
theorem Xu{x:Cl}(h:dP y x b=true)(hx:x.k=3)(hy:y.k=3):b=true\/vD x y=true:=by
 obtain⟨kx,_,_,_,_,_⟩:=x;obtain⟨ky,_,_,_,_,_⟩:=y;simp only at hx hy;subst hx hy;cases b with
 |true=>exact .inl rfl
 |false=>exact .inr h
theorem adL{x:Cl}(h:dP y x b=true)(hx:x.k=4)(hy:y.k=3):b=true\/vD x y=true:=by
 obtain⟨kx,_,_,_,_,_⟩:=x;obtain⟨ky,_,_,_,_,_⟩:=y;simp only at hx hy;subst hx hy;cases b with
 |true=>exact .inl rfl
 |false=>exact .inr h
theorem adM{x:Cl}(h:dP y x b=true)(hx:x.k=3)(hy:y.k=4):b=true\/vD x y=true:=by
 obtain⟨kx,_,_,_,_,_⟩:=x;obtain⟨ky,_,_,_,_,_⟩:=y;simp only at hx hy;subst hx hy;cases b with
 |true=>exact .inl rfl
 |false=>exact .inr h
theorem adN{x:Cl}(h:dP y x b=true)(hx:x.k=4)(hy:y.k=2):b=true\/ng y x=true:=by
 obtain⟨kx,_,_,_,_,_⟩:=x;obtain⟨ky,_,_,_,_,_⟩:=y;simp only at hx hy;subst hx hy;cases b with
 |true=>exact .inl rfl
 |false=>exact .inr h
theorem adO{x:Cl}(h:dP y x b=true)(hx:x.k=2)(hy:y.k=4):b=true\/ng x y=true:=by
 obtain⟨kx,_,_,_,_,_⟩:=x;obtain⟨ky,_,_,_,_,_⟩:=y;simp only at hx hy;subst hx hy;cases b with
 |true=>exact .inl rfl
 |false=>exact .inr h
end mem
section cls
variable{P:Program}
theorem L6{o:Op}:
 (∃p a,yD o=some p/\mF (ev s p.1)=some a/\oI P o s H'=⟨3,a.block,a.off,len<|aX<|ev s p.2,hh0,hh0⟩)\/
 (oI P o s H'=⟨2,0,0,0,s.H,H'⟩)\/
 (s.H.next<=H'.low/\((xx o=true/\oI P o s H'=cl 5)\/oI P o s H'=cl 1\/
   ∃p a l,EL o=some p/\mF (ev s p.2)=some a/\V3 P p.1=some l/\oI P o s H'=⟨4,a.block,a.off,l.getD 1,hh0,hh0⟩)):=by
 have e:oI P o s H'=@Option.rec (Operand×Operand) (λ_=>Cl) (aU (Nat.ble s.H.next H'.low) (aU (xx o) (cl 5)<|xy P o s) ⟨2,0,0,0,s.H,H'⟩)
  (λp=>@Option.rec Addr (λ_=>Cl) ⟨2,0,0,0,s.H,H'⟩ (λa=>⟨3,a.block,a.off,len<|aX<|ev s p.2,hh0,hh0⟩)<|mF<|ev s p.1) (yD o):=rfl
 cases hs:yD o with
 |none=>
  rw[hs]at e;cases hb:Nat.ble s.H.next H'.low with
  |false=>rw[hb]at e;exact .inr<|.inl e
  |true=>
   rw[hb]at e;refine .inr<|.inr ⟨ai hb,?_⟩;cases hf:xx o with
   |true=>rw[hf]at e;exact .inl ⟨rfl,e⟩
   |false=>
    rw[hf]at e;replace e:oI P o s H'=xy P o s:=e;unfold xy at e;cases h:(ax (EL o) λp=>ax (mF<|ev s p.2) λa=>ax (V3 P p.1) λl=>some<|Cl.mk 4 a.block a.off (l.getD 1) hh0 hh0)with
    |none=>rw[h]at e;exact .inr<|.inl e
    |some q=>
     rw[h]at e;obtain⟨p,hp,h⟩:=ak h;obtain⟨a,ha,h⟩:=ak h;obtain⟨l,hl,h⟩:=ak h;cases h;exact .inr<|.inr ⟨p,a,l,hp,ha,hl,e⟩
 |some p=>
  rw[hs]at e;replace e:oI P o s H'=@Option.rec Addr (λ_=>Cl) ⟨2,0,0,0,s.H,H'⟩ (λa=>⟨3,a.block,a.off,len<|aX<|ev s p.2,hh0,hh0⟩) (mF<|ev s p.1):=e;cases ha:mF (ev s p.1)with
  |none=>rw[ha]at e;exact .inr<|.inl e
  |some a=>rw[ha]at e;exact .inl ⟨p,a,rfl,ha,e⟩
end cls
structure Rg(P:Program)(cf:iO)(ops:Array Oper)(n nt:Nat)(S:Nat->St)(C:Nat->Cl):Prop where
 step:∀(j:Nat)(o:Oper),ops[j]?=some o->Iz P cf ops o (S j) (S<|j+1) (C j)
 tf:∀(j:Nat)(o:Oper),ops[j]?=some o->TF P cf ops o (S j)
 nts:∀(j:Nat)(o:Oper),ops[j]?=some o->(S j).nt=nt
 ok:∀(j:Nat)(o:Oper),ops[j]?=some o->uy n nt o=true
 back:uh ops.toList 0=true
 stat:∀(i j:Nat)(oi oj:Oper),i<j->ops[i]?=some oi->ops[j]?=some oj->d_ (xJ ops j) i=true\/oi.apart ops oj=true
 dyn:∀i j,i<j->j<ops.size->dP (C j) (C i) (d_ (xJ ops j) i)=true
def Closed(ops:Array Oper)(D:Nat->Prop):Prop:=∀(j:Nat)(o:Oper),ops[j]?=some o->D j->∀e,e∈o.after.toList->Region.binds .any e=true->D e.on
def DW(D:Nat->Prop)(i:Nat)(j:Nat):Prop:=D j\/j=i
inductive Ct where
 |shape(o:iW)
 |cell(v:Option Value)
def cont:Option Nat->iW->Ct
 |none,o=>.shape<|Iu o
 |some i,o=>.cell<|jd o i
def Rel(κ:Option Nat)(m:Mp)(l:Loc)(c:Ct)(ob:Obj):Prop:=
 match κ,c with
 |none,.shape o=>jN m l o ob
 |some i,.cell (some x)=>l.lo<=i->uA m l i x ob
 |_,_=>True
theorem Rel.mono(hm:Mp.le m m'){c:Ct}(h:Rel κ m l c ob):Rel κ m' l c ob:=by
 cases κ with
 |none=>cases c with|shape o=>exact jN.mono hm h|cell v=>trivial
 |some i=>cases c with
  |shape o=>trivial
  |cell v=>cases v with|none=>trivial|some x=>exactλhl=>uA.mono hm<|h hl
theorem Rel.restrict(hm:Mp.le m1 m2){c:Ct}(h:Rel κ m2 l c Ih)(g:Rel κ m1 l c ob):Rel κ m1 l c Ih:=by
 cases κ with
 |none=>cases c with|shape o=>exact jN.restrict hm h g|cell v=>trivial
 |some i=>cases c with
  |shape o=>trivial
  |cell v=>cases v with|none=>trivial|some x=>exactλhl=>uA.restrict hm (h hl)<|g hl
theorem SF(o:iW):Iu (Iu o)=Iu o:=by cases o<;>rfl
theorem Rel.mR{o:iW}(h:qG m l o ob):Rel κ m l (cont κ o) ob:=by
 cases κ with
 |none=>exact(h.split.1).QB (SF o).symm
 |some i=>
  show Rel (some i) m l (.cell<|jd o i) ob;cases hc:jd o i with
  |none=>trivial
  |some x=>exactλhl=>h.split.2 i x hc hl
theorem Rel.Xv{o:iW}(h:∀κ,Rel κ m l (cont κ o) ob):qG m l o ob:=by
 refine qG.join ((show jN m l (Iu o) ob from h none).QB<|SF o) ?_;intro i x hx hl;have:=h<|some i;rw[show cont (some i) o=.cell (some x)from by show Ct.cell (jd o i)=_;rw[hx]]at this;exact this hl
section con
variable{S:Nat->St}
abbrev nx(S:Nat->St)(k:Nat):Nat:=(S k).H.next
abbrev at'(S:Nat->St)(κ:Option Nat)(r k:Nat):Ct:=cont κ<|(S k).H.obj r
def Cg(S:Nat->St)(N:Nat)(D:Nat->Prop)(κ:Option Nat)(r k:Nat):Prop:=r<nx S k/\∀j,j<N->r<nx S j->at' S κ r j≠at' S κ r (j+1)->(D j<->j<k)
theorem Cg.acn(mono:∀i j,i<=j->j<=N->nx S i<=nx S j):∀(d k:Nat),k+d<=N->Cg S N D κ r k->Cg S N D κ r (k+d)->at' S κ r k=at' S κ r (k+d):=by
 intro d k hkd h1 h2
 have:∀e,e<=d->at' S κ r k=at' S κ r (k+e):=by
  intro e
  induction e with
  |zero=>intro _;rfl
  |succ e ih=>
   intro he;rw[ih aa];apply dB;intro hne;have hr:r<nx S (k+e):=aH h1.1<|mono _ _ aa aa;have a1:=h1.2 (k+e) aa hr hne;have a2:=h2.2 (k+e) aa hr hne;have:=a1.1<|a2.2 aa;omega
 exact this d<|aj _
theorem Cg.eq(mono:∀i j,i<=j->j<=N->nx S i<=nx S j)(hk:k<=N)(hk':k'<=N)(h1:Cg S N D κ r k)(h2:Cg S N D κ r k'):at' S κ r k=at' S κ r k':=by
 rcases Nat.le_total k k' with h|h
 .have:=Cg.acn mono (k'-k) k aa h1 (by rw[show k+(k'-k)=k' from by omega];exact h2)
  rwa [show k+(k'-k)=k' from by omega]at this
 .have:=Cg.acn mono (k-k') k' aa h2 (by rw[show k'+(k-k')=k from by omega];exact h1);rw[show k'+(k-k')=k from by omega]at this;exact this.symm
theorem Cg.less(h:Cg S N (DW D i) κ r k)(hi:r<nx S i->at' S κ r i=at' S κ r (i+1)):Cg S N D κ r k:=by
 refine⟨h.1,λj hj hr hne=>?_⟩;have hji:j≠i:=λe=>hne (by subst e;exact hi hr);rw[<-h.2 j hj hr hne];exact⟨.inl,λhh=>hh.resolve_right hji⟩
end con
structure MInv(S:Nat->St)(C:Nat->Cl)(N:Nat)(m0:Mp)(w0:World)(D:Nat->Prop)(m:Mp)(w:World):Prop where
 dom:∀r l,m r=some l->(m0 r=some l/\r<nx S 0)\/∃i,i<N/\D i/\nx S i<=r/\r<nx S (i+1)
 UY:∀r l,m r=some l->∃o,w.heap[l.c]?=some o
 cnt:∀κ r l k o,k<=N->m r=some l->Cg S N D κ r k->w.heap[l.c]?=some o->Rel κ (m.upto<|nx S k) l (at' S κ r k) o
 sep:∀r r' l l' k k',m r=some l->m r'=some l'->l.c=l'.c->k<=N->k'<=N->Cg S N D none r k->Cg S N D none r' k'->(S k).H.obj r≠.dead->(S k').H.obj r'≠.dead->r=r'
 clash:∀r r' l l' j,m r=some l->m r'=some l'->l.c=l'.c->j<N->¬D j->(C j).k=2->(r<nx S j<->r'<nx S j)
 hid:∀j r,j<N->D j->r<nx S j->m r=none->(S<|j+1).H.obj r=(S j).H.obj r
 le:Mp.le m0 m
 fresh:∀r l,m r=some l->m0 r=none->l.c<w0.heap.size->∃r0 l0,m0 r0=some l0/\l0.c=l.c/\(S N).H.low<=r0
 os:w.os=w0.os
 tape:w.tape=w0.tape
 output:w.output=w0.output
 size:w0.heap.size<=w.heap.size
 keep:∀c,c<w0.heap.size->(∀r l,m0 r=some l->l.c=c->r<(S N).H.low)->w.heap[c]?=w0.heap[c]?
section rg
variable{P:Program}{cf:iO}{S:Nat->St}
theorem Rg.NU(g:Rg P cf ops n nt S C)(hj:j<ops.size):nx S j<=nx S (j+1):=by
 have ho:ops[j]?=some ops[j]:=aJ hj;have hs:=g.step j _ ho;have htf:=g.tf j _ ho;show(S j).H.next<=(S<|j+1).H.next
 generalize S (j+1)=s1 at hs;generalize C j=c at hs;cases hs with
 |skip hw=>rw[iY];exact aj _
 |zF v hw hr=>rw[iY];exact aj _
 |mem v H' hw hr=>rw[iY];exact(htf v H' hr hw).1
theorem Rg.mono(g:Rg P cf ops n nt S C):∀i j,i<=j->j<=ops.size->nx S i<=nx S j:=by
 intro i j hij hj;obtain⟨d,rfl⟩:=o9 hij;clear hij
 induction d with
 |zero=>exact aj _
 |succ d ih=>exact aW (ih aa)<|g.NU aa
theorem Bt(a b:Nat):kV a b<=a/\kV a b<=b:=by
 unfold kV;cases h:Nat.ble a b with
 |true=>exact⟨aj _,ai h⟩
 |false=>
  have:¬a<=b:=λh'=>by rw[av h']at h;cases h
  exact⟨by show b<=a;omega,aj _⟩
theorem Rg.ahB(g:Rg P cf ops n nt S C)(hj:j<ops.size):(S<|j+1).H.low<=(S j).H.low:=by
 have hs:=g.step j _<|aJ hj;generalize S (j+1)=s1 at hs;generalize C j=c at hs;cases hs with
 |skip hw=>rw[iY];exact aj _
 |zF v hw hr=>rw[iY];exact aj _
 |mem v H' hw hr=>rw[iY];exact(Bt _ _).1
theorem Rg.low(g:Rg P cf ops n nt S C):∀i j,i<=j->j<=ops.size->(S j).H.low<=(S i).H.low:=by
 intro i j hij hj;obtain⟨d,rfl⟩:=o9 hij;clear hij
 induction d with
 |zero=>exact aj _
 |succ d ih=>exact aW (g.ahB (j:=i+d) aa)<|ih aa
theorem Rg.same(g:Rg P cf ops n nt S C)(hj:j<ops.size)(h2:(C j).k≠2)(h3:(C j).k≠3)(hr:r<nx S j):(S<|j+1).H.obj r=(S j).H.obj r:=by
 have ho:ops[j]?=some ops[j]:=aJ hj;have hs:=g.step j _ ho;have htf:=g.tf j _ ho;generalize S (j+1)=s1 at hs;generalize hc:C j=c at hs;rw[hc]at h2 h3;cases hs with
 |skip hw=>rw[iY]
 |zF v hw hr=>rw[iY]
 |mem v H' hw hr'=>
  rw[iY];show H'.obj r=_;rcases L6 (P:=P) (o:=ops[j].op) (s:=S j) (H':=H')with⟨p,a,_,_,e⟩|e|⟨hlow,_⟩
  .rw[e]at h3;exact absurd rfl h3
  .rw[e]at h2;exact absurd rfl h2
  .exact(htf v H' hr' hw).2 r hr<|aH hr hlow
theorem Rg.aba(g:Rg P cf ops n nt S C)(hj:j<ops.size)(hr:r<nx S j)(hl:r<(S ops.size).H.low):(S<|j+1).H.obj r=(S j).H.obj r:=by
 have ho:ops[j]?=some ops[j]:=aJ hj;have hs:=g.step j _ ho;have htf:=g.tf j _ ho;have hlow:=g.low (j+1) ops.size aa<|aj _;generalize S (j+1)=s1 at hs hlow;generalize C j=c at hs;cases hs with
 |skip hw=>rw[iY]
 |zF v hw hr=>rw[iY]
 |mem v H' hw hr'=>
  rw[iY]at hlow|-;exact(htf v H' hr' hw).2 r hr<|aH (aH hl hlow) (Bt _ _).2
theorem Rg.turns(g:Rg P cf ops n nt S C)(hj:j<ops.size)(hr:r<nx S j)(hne:at' S κ r j≠at' S κ r (j+1)):(C j).k=2\/(C j).k=3:=by
 apply dB;intro h;exact hne (by show cont κ _=cont κ _;rw[g.same hj (λe=>h<|.inl e) (λe=>h<|.inr e) hr])
theorem Rg.SG(g:Rg P cf ops n nt S C)(hD:Closed ops D)(hi:i<ops.size)(Ch:¬D i)(kH:∀e,e∈ops[i].after.toList->Region.binds .any e=true->D e.on)(hc:(C i).k=1\/(C i).k=2)(hr:r<nx S i):Cg S ops.size D κ r i:=by
 refine⟨hr,λj hj Nj hne=>?_⟩;have hcj:=g.turns hj Nj hne;have hoi:ops[i]?=some ops[i]:=aJ hi;have hoj:ops[j]?=some ops[j]:=aJ hj;rcases iH j i with h|h|h
 .refine⟨λ_=>h,λ_=>?_⟩;have hd:=g.dyn j i h hi;rcases hcj with hcj|hcj
  .exact jI g.back hD i _ hoi kH j<|L5 hd (.inr hcj) hc<|.inl hcj
  .exact(SC hd hcj hc).elim
 .subst h;exact⟨λh=>absurd h Ch,λh=>absurd h<|nG _⟩
 .refine⟨λJB=>?_,λh'=>by omega⟩;have hd:=g.dyn i j h hj
  have hb:d_ (xJ ops j) i=true:=by
   rcases hcj with hcj|hcj
   .exact L5 hd hc (.inr hcj)<|.inr hcj
   .exact SE hd hc hcj
  exact absurd (jI g.back hD j _ hoj (hD j _ hoj JB) i hb) Ch
theorem Rg.ahC(g:Rg P cf ops n nt S C)(hD:Closed ops D)(hi:i<ops.size)(Ch:¬D i)(kH:∀e,e∈ops[i].after.toList->Region.binds .any e=true->D e.on)(hc:(C i).k=2)(hr:r<nx S i):Cg S ops.size (DW D i) κ r (i+1):=by
 have h0:=g.SG hD hi Ch kH (.inr hc) (κ:=κ) hr;refine⟨aH hr<|g.NU hi,λj hj Nj hne=>?_⟩;have:=h0.2 j hj Nj hne;constructor
 .rintro(h|h)
  .have:=this.1 h;omega
  .omega
 .intro h
  by_cases e:j=i
  .exact .inr e
  .exact .inl<|this.2 aa
end rg
section rg
variable{P:Program}{cf:iO}{S:Nat->St}
theorem MInv.still(I:MInv S C ops.size m0 w0 D m w)(hi:i<ops.size)(hs:∀r,r<nx S i->(S<|i+1).H.obj r=(S i).H.obj r):MInv S C ops.size m0 w0 (DW D i) m w where
 dom:=λr l h=>(I.dom r l h).imp id λ⟨j,h1,h2,h3⟩=>⟨j,h1,.inl h2,h3⟩
 UY:=I.UY
 cnt:=λκ r l k o hk hm hc ho=>I.cnt κ r l k o hk hm (hc.less λhr=>by show cont κ _=cont κ _;rw[hs r hr]) ho
 sep:=λr r' l l' k k' h1 h2 h3 h4 h5 h6 h7 h8 h9=>I.sep r r' l l' k k' h1 h2 h3 h4 h5 (h6.less λhr=>by show cont none _=cont none _;rw[hs r hr]) (h7.less λhr=>by show cont none _=cont none _;rw[hs r' hr]) h8 h9
 clash:=λr r' l l' j h1 h2 h3 h4 h5 h6=>I.clash r r' l l' j h1 h2 h3 h4 (λh=>h5<|.inl h) h6
 hid:=λj r h1 h2 h3 h4=>by
  rcases h2 with h2|rfl
  .exact I.hid j r h1 h2 h3 h4
  .exact hs r h3
 le:=I.le
 fresh:=I.fresh
 os:=I.os
 tape:=I.tape
 output:=I.output
 size:=I.size
 keep:=I.keep
def join(m2 m:Mp):Mp:=λr=>match m2 r with|some l=>some l|none=>m r
theorem yK{o:iW}(e:cont none o=cont none o')(h:o≠.dead):o'≠.dead:=by
 have e:Iu o=Iu o':=by
  have:Ct.shape (Iu o)=Ct.shape (Iu o'):=e;injection this
 exact Xn e h
theorem MInv.made(g:Rg P cf ops n nt S C)(hD:Closed ops D)(I:MInv S C ops.size m0 w0 D m w)(hi:i<ops.size)(Ch:¬D i)(kH:∀e,e∈ops[i].after.toList->Region.binds .any e=true->D e.on){A':ag}(hA:A.next=nx S i)(hA':A'.next=nx S (i+1))(rh:RH m2 A' w')(ex:Ex (m.upto<|nx S i) m2 A A' w w')(hlow:A.next<=A'.low\/(S ops.size).H.low<=A'.low)(hnew:∀r,nx S i<=r->r<nx S (i+1)->A'.obj r=(S<|i+1).H.obj r)(h3:(C i).k≠3)(hcase:((C i).k=2/\(∀r,A'.obj r=(S<|i+1).H.obj r)/\(∀r,A.obj r=(S i).H.obj r))\/((C i).k≠2/\A.next<=A'.low)):
 ∃m',MInv S C ops.size m0 w0 (DW D i) m' w'/\Mp.le m m'/\Mp.le m2 (m'.upto<|nx S<|i+1):=by
 have hmono:=g.mono;have hn1:nx S i<=nx S (i+1):=g.NU hi
 have hrange:∀r l,m r=some l->r<nx S i\/nx S (i+1)<=r:=by
  intro r l hr;rcases I.dom r l hr with⟨_,h⟩|⟨j,hj,JB,h1,h2⟩
  .exact .inl<|aH h<|hmono 0 i aa aa
  .have hji:j≠i:=λe=>Ch (e▸JB);rcases aN j i with h|h
   .exact .inl<|aH h2<|hmono (j+1) i aa aa
   .exact .inr<|aW (hmono (i+1) j aa aa) h1
 have hm2:∀r l,m2 r=some l->r<nx S (i+1):=λr l h=>by have:=rh.dom r l h;rw[hA']at this;exact this
 have hup:∀r l,m r=some l->r<nx S i->m2 r=some l:=λr l h hr=>ex.le r l<|Mp.DU h hr
 have hnb:∀r l,m2 r=some l->m r≠some l->m r=none/\nx S i<=r/\m.upto (nx S i) r=none:=by
  intro r l h hne
  have afj:m.upto (nx S i) r=none:=by
   cases hu:m.upto (nx S i) r with
   |none=>rfl
   |some l'=>
    have:=ex.le r l' hu;rw[h]at this;cases this;exact absurd (Mp.lg hu).2 hne
  have hge:=ex.new r l h afj;rw[hA]at hge;refine⟨?_,hge,afj⟩;cases hm:m r with
  |none=>rfl
  |some l'=>
   have h1:=hm2 r l h;rcases hrange r l' hm with h'|h'<;>omega
 have hj2:∀r l,m2 r=some l->join m2 m r=some l:=λr l h=>by unfold join;rw[h]
 have hj1:∀r l,m r=some l->join m2 m r=some l:=by
  intro r l h;unfold join;cases h2:m2 r with
  |none=>exact h
  |some l2=>
   by_cases e:m r=some l2
   .rw[h]at e;cases e;rfl
   .have:=(hnb r l2 h2 e).1;rw[h]at this;cases this
 have hcs:∀r l,join m2 m r=some l->m r=some l\/(m r=none/\m2 r=some l/\nx S i<=r/\r<nx S (i+1)/\m.upto (nx S i) r=none):=by
  intro r l h;unfold join at h;cases h2:m2 r with
  |none=>rw[h2]at h;exact .inl h
  |some l2=>
   rw[h2]at h;have hl:l2=l:=by injection h
   subst hl
   by_cases e:m r=some l2
   .exact .inl e
   .have:=hnb r l2 h2 e;exact .inr ⟨this.1,rfl,this.2.1,hm2 r l2 h2,this.2.2⟩
 have hle2:Mp.le m2 ((join m2 m).upto<|nx S<|i+1):=λr l h=>Mp.DU (hj2 r l h)<|hm2 r l h;have adP:Mp.le m (join m2 m):=hj1
 have afk:∀r l,m r=some l->((C i).k≠2\/nx S i<=r)->w'.heap[l.c]?=w.heap[l.c]?:=by
  intro r l h hor;obtain⟨o,ho⟩:=I.UY r l h;refine ex.keep l.c (nK ho) ?_;intro r1 l1 h1 hc1;have hu:=Mp.lg h1;rcases hcase with⟨hk,_,_⟩|⟨_,hlo⟩
  .rcases hor with h'|h'
   .exact absurd hk h'
   .have:=(I.clash r r1 l l1 i h hu.2 hc1.symm hi Ch hk).2 hu.1;omega
  .rw[hA]at hlo;exact aH hu.1 hlo
 have hsame:∀κ r,((C i).k≠2\/nx S i<=r)->r<nx S i->at' S κ r i=at' S κ r (i+1):=by
  intro κ r hor hr;rcases hor with h|h
  .show cont κ _=cont κ _;rw[g.same hi h h3 hr]
  .omega
 have hborn:∀κ r l,m r=none->m2 r=some l->nx S i<=r->r<nx S (i+1)->Cg S ops.size (DW D i) κ r (i+1):=by
  intro κ r l hm _ hge hlt;refine⟨hlt,λj hj Nj hne=>?_⟩
  have hji:i<j:=by
   rcases aN i j with h|h
   .exact h
   .have:=hmono j i h aa;omega
  constructor
  .rintro(h|h)
   .exact absurd (by show cont κ _=cont κ _;rw[I.hid j r hj h Nj hm]) hne
   .omega
  .intro h;omega
 have hfr:∀r l,m2 r=some l->m.upto (nx S i) r=none->l.c<w.heap.size->(C i).k=2/\∃r0 l0,m r0=some l0/\l0.c=l.c/\r0<nx S i/\A'.low<=r0:=by
  intro r l h h0 hlt;obtain⟨r0,l0,e1,e2,e3⟩:=ex.fresh r l h h0 hlt;have hu:=Mp.lg e1;refine⟨?_,r0,l0,hu.2,e2,hu.1,e3⟩;rcases hcase with⟨hk,_,_⟩|⟨_,hlo⟩
  .exact hk
  .rw[hA]at hlo;omega
 have afl:(C i).k=2->∀κ r,r<nx S i->Cg S ops.size (DW D i) κ r (i+1):=λhk κ r hr=>g.ahC hD hi Ch kH hk hr
 have QF:∀r l,join m2 m r=some l->(m r=some l/\((C i).k≠2\/nx S i<=r))\/(m2 r=some l/\(∀κ,Cg S ops.size (DW D i) κ r<|i+1)/\A'.obj r=(S<|i+1).H.obj r/\
  ((m r=none/\nx S i<=r/\r<nx S (i+1)/\m.upto (nx S i) r=none)\/((C i).k=2/\m r=some l/\r<nx S i))):=by
  intro r l h;rcases hcs r l h with h|⟨h1,h2,h3',h4,h5⟩
  .by_cases hor:(C i).k≠2\/nx S i<=r
   .exact .inl ⟨h,hor⟩
   .have hk:(C i).k=2:=dB λe=>hor (.inl e);have hr:r<nx S i:=Nat.lt_of_not_le λe=>hor<|.inr e;refine .inr ⟨hup r l h hr,λκ=>afl hk κ r hr,?_,.inr ⟨hk,h,hr⟩⟩;rcases hcase with⟨_,h,_⟩|⟨h,_⟩
    .exact h r
    .exact absurd hk h
  .exact .inr ⟨h2,λκ=>hborn κ r l h1 h2 h3' h4,hnew r h3' h4,.inl ⟨h1,h3',h4,h5⟩⟩
 have afm:∀r r' l l',m r=some l->((C i).k≠2\/nx S i<=r)->m2 r'=some l'->
  ((m r'=none/\nx S i<=r'/\r'<nx S (i+1)/\m.upto (nx S i) r'=none)\/((C i).k=2/\m r'=some l'/\r'<nx S i))->l.c=l'.c->False:=by
  intro r r' l l' e hor e' hk hcc;obtain⟨o,ho⟩:=I.UY r l e;have hlt:=nK ho;rcases hk with⟨_,_,_,hu0⟩|⟨hk2,h1,h2⟩
  .obtain⟨hk2,r0,l0,f1,f2,f3,_⟩:=hfr r' l' e' hu0 (by rw[<-hcc];exact hlt);rcases hor with h1|h1
   .exact h1 hk2
   .have:=(I.clash r r0 l l0 i e f1 (by rw[f2,hcc]) hi Ch hk2).2 f3;omega
  .rcases hor with h3|h3
   .exact h3 hk2
   .have:=(I.clash r r' l l' i e h1 hcc hi Ch hk2).2 h2;omega
 refine⟨join m2 m,⟨?_,?_,?_,?_,?_,?_,?_,?_,?_,?_,?_,?_,?_⟩,adP,hle2⟩
 .
  intro r l h;rcases hcs r l h with h|⟨_,_,h3',h4,_⟩
  .exact(I.dom r l h).imp id λ⟨j,h1,h2,h3⟩=>⟨j,h1,.inl h2,h3⟩
  .exact .inr ⟨i,hi,.inr rfl,h3',h4⟩
 .
  intro r l h;rcases hcs r l h with h|⟨_,h2,_⟩
  .obtain⟨o,ho⟩:=I.UY r l h;have:l.c<w'.heap.size:=aH (nK ho) ex.size;exact⟨w'.heap[l.c],aJ this⟩
  .obtain⟨o,ho,_⟩:=rh.ok r l h2;exact⟨o,ho⟩
 .
  intro κ r l k o hk hm hc ho;rcases QF r l hm with⟨h,hor⟩|⟨h2,hcon,zG,_⟩
  .rw[afk r l h hor]at ho;exact(I.cnt κ r l k o hk h (hc.less λhr=>hsame κ r hor hr) ho).mono<|Mp.uz adP<|aj _
  .obtain⟨o2,ho2,hok⟩:=rh.ok r l h2;rw[ho]at ho2;cases ho2;have hrel:Rel κ m2 l (cont κ<|A'.obj r) o:=Rel.mR hok;rw[zG]at hrel;have heq:at' S κ r (i+1)=at' S κ r k:=Cg.eq hmono aa hk (hcon κ) hc;replace hrel:Rel κ m2 l (at' S κ r<|i+1) o:=hrel;rw[heq]at hrel;rcases aN i k with hik|hik
   .exact hrel.mono λr1 l1 h1=>Mp.DU (hj2 r1 l1 h1)<|aH (hm2 r1 l1 h1)<|hmono _ _ hik hk
   .
    have hrk:=hc.1;have hri:r<nx S i:=aH hrk<|hmono k i hik aa
    have hmr:m r=some l:=by
     rcases hcs r l hm with h|⟨_,_,h3',_⟩
     .exact h
     .omega
    have hnot:at' S κ r i=at' S κ r (i+1):=by
     apply dB;intro hne;have:=(hc.2 i hi hri hne).1<|.inr rfl;omega
    obtain⟨o0,ho0⟩:=I.UY r l hmr;have hold:=I.cnt κ r l k o0 hk hmr (hc.less λ_=>hnot) ho0
    have hlr:Mp.le (m.upto<|nx S k) m2:=by
     intro r1 l1 h1;have hu:=Mp.lg h1;exact hup r1 l1 hu.2<|aH hu.1<|hmono k i hik aa
    exact(Rel.restrict hlr hrel hold).mono<|Mp.uz adP<|aj _
 .
  intro r r' l l' k k' h h' hcc hk hk' hc hc' hd hd';rcases QF r l h with⟨e,hor⟩|⟨e,hcon,zG,hw⟩<;>rcases QF r' l' h' with⟨e',afn⟩|⟨e',Xw,afo,hw'⟩
  .exact I.sep r r' l l' k k' e e' hcc hk hk' (hc.less λhr=>hsame none r hor hr) (hc'.less λhr=>hsame none r' afn hr) hd hd'
  .exact(afm r r' l l' e hor e' hw' hcc).elim
  .exact(afm r' r l' l e' afn e hw hcc.symm).elim
  .refine rh.sep r r' l l' e e' ?_ ?_ hcc
   .rw[zG];exact yK (Cg.eq hmono hk aa hc<|hcon none) hd
   .rw[afo];exact yK (Cg.eq hmono hk' aa hc'<|Xw none) hd'
 .
  intro r r' l l' j h h' hcc hj JB hkj;have hji:j≠i:=λe=>JB<|.inr e;have adQ:¬D j:=λe=>JB<|.inl e
  have hside:∀r1,nx S i<=r1->r1<nx S (i+1)->(r1<nx S j<->i<j):=by
   intro r1 h1 h2;constructor
   .intro h3;rcases aN i j with h4|h4
    .exact h4
    .have:=hmono j i h4 aa;omega
   .intro h3;exact aH h2<|hmono _ _ h3 aa
  have hone:∀r r' l l',m r=none->m2 r=some l->nx S i<=r->r<nx S (i+1)->m.upto (nx S i) r=none->m r'=some l'->l.c=l'.c->(r<nx S j<->r'<nx S j):=by
   intro r r' l l' h1 h2 h3 h4 h5 h6 hcc;obtain⟨o,ho⟩:=I.UY r' l' h6;obtain⟨hk2,r0,l0,f1,f2,f3,_⟩:=hfr r l h2 h5 (by rw[hcc];exact nK ho)
   have hij:i<j:=by
    rcases aN i j with h7|h7
    .exact h7
    .have hlt:j<i:=by omega
     have hb:=L5 (g.dyn j i hlt hi) (.inr hkj) (.inr hk2)<|.inl hkj;exact absurd (jI g.back hD i _ (aJ hi) kH j hb) adQ
   rw[hside r h3 h4];have h8:r0<nx S j:=aH f3<|hmono i j aa aa;have:=(I.clash r' r0 l' l0 j h6 f1 (by rw[f2,hcc]) hj adQ hkj).2 h8;exact⟨λ_=>this,λ_=>hij⟩
  rcases hcs r l h with e|⟨a1,a2,a3,a4,a5⟩<;>rcases hcs r' l' h' with e'|⟨b1,b2,b3,b4,b5⟩
  .exact I.clash r r' l l' j e e' hcc hj adQ hkj
  .exact(hone r' r l' l b1 b2 b3 b4 b5 e hcc.symm).symm
  .exact hone r r' l l' a1 a2 a3 a4 a5 e' hcc
  .rw[hside r a3 a4,hside r' b3 b4]
 .
  intro j r hj JB hr hm
  have hmr:m r=none:=by
   cases h:m r with
   |none=>rfl
   |some l=>have:=hj1 r l h;rw[hm]at this;cases this
  rcases JB with h|rfl
  .exact I.hid j r hj h hr hmr
  .rcases hcase with⟨hk,h1,h2⟩|⟨hk,_⟩
   .rw[<-h1,<-h2];refine ex.hid r (by rw[hA];exact hr) ?_;unfold Mp.upto;rw[hmr];simp
   .exact g.same hi hk h3 hr
 .exactλr l h=>hj1 r l<|I.le r l h
 .
  intro r l h h0 hlt;rcases hcs r l h with e|⟨a1,a2,a3,a4,a5⟩
  .exact I.fresh r l e h0 hlt
  .obtain⟨hk2,r0,l0,f1,f2,f3,f4⟩:=hfr r l a2 a5 (aH hlt I.size)
   have hl2:(S ops.size).H.low<=r0:=by
    rcases hlow with h1|h1
    .rw[hA]at h1;omega
    .exact aW h1 f4
   cases h1:m0 r0 with
   |some l1=>
    have:=I.le r0 l1 h1;rw[f1]at this;cases this;exact⟨r0,l0,h1,f2,hl2⟩
   |none=>
    obtain⟨r1,l1,g1,g2,g3⟩:=I.fresh r0 l0 f1 h1 (by rw[f2];exact hlt);exact⟨r1,l1,g1,g2.trans f2,g3⟩
 .exact ex.os.trans I.os
 .exact ex.tape.trans I.tape
 .exact ex.output.trans I.output
 .exact aW I.size ex.size
 .
  intro c hc hk;rw[ex.keep c (aH hc I.size),I.keep c hc hk];intro r l h1 h2;have hu:=Mp.lg h1;rcases hlow with h3'|h3'
  .rw[hA]at h3';exact aH hu.1 h3'
  .cases h0:m0 r with
   |some l0=>
    have:=I.le r l0 h0;rw[hu.2]at this;cases this;exact aH (hk r l h0 h2) h3'
   |none=>
    obtain⟨r0,l0,e1,e2,e3⟩:=I.fresh r l hu.2 h0 (by rw[h2];exact hc);have:=hk r0 l0 e1<|e2.trans h2;omega
end rg
theorem uX{o:Option Unit}(h:mG o=true):o=some ():=by
 cases o with
 |none=>cases h
 |some u=>rfl
theorem Kt{a b:Addr}(h:addrEq a b=true):a=b:=by
 obtain⟨r,o,s⟩:=a;obtain⟨r',o',s'⟩:=b;simp only[addrEq,aG]at h;obtain⟨⟨⟨h1,h2⟩,h3⟩,h4⟩:=h;have h1:=aB h1;have h2:=aB h2;cases s with
 |some _=>cases h3
 |none=>cases s' with
  |some _=>cases h4
  |none=>rw[h1,h2]
theorem QG{a b:Option Addr}(h:GQ a b=true):a=b:=by
 cases a with
 |none=>cases b with
  |none=>rfl
  |some _=>cases h
 |some x=>cases b with
  |none=>cases h
  |some y=>rw[Kt (show addrEq x y=true from h)]
theorem UZ{a b:Option Nat}(h:Ww a b=true):a=b:=by
 cases a with
 |none=>cases b with
  |none=>rfl
  |some _=>cases h
 |some x=>cases b with
  |none=>cases h
  |some y=>rw[aB (show Nat.beq x y=true from h)]
theorem NV{y:Value}(h:xO x y=true):x=y:=by
 unfold xO at h;simp only[gN]at h;rcases h with h|h|h|h|h|h|h
 .replace h:=uX h;obtain⟨a,ha,h⟩:=ak h;obtain⟨b,hb,h⟩:=ak h;obtain⟨hg,h⟩:=dh h;rw[aG,Ia,jq]at hg;rw[mH ha,mH hb,xQ hg.1,hg.2]
 .replace h:=uX h;obtain⟨a,ha,h⟩:=ak h;obtain⟨b,hb,h⟩:=ak h;obtain⟨hg,h⟩:=dh h;rw[kW ha,kW hb,Kt hg]
 .replace h:=uX h;obtain⟨a,ha,h⟩:=ak h;obtain⟨b,hb,h⟩:=ak h;obtain⟨hg,h⟩:=dh h;rw[aG,aG]at hg;rw[um ha,um hb,QG hg.1.1,aB hg.1.2,aB hg.2]
 .replace h:=uX h;obtain⟨a,ha,h⟩:=ak h;obtain⟨b,hb,h⟩:=ak h;obtain⟨hg,h⟩:=dh h;rw[Ib,jq]at hg;rw[lJ ha,lJ hb,hg]
 .replace h:=uX h;obtain⟨a,ha,h⟩:=ak h;obtain⟨b,hb,h⟩:=ak h;obtain⟨hg,h⟩:=dh h;rw[wL,jq,ByteArray.toList_eq,ByteArray.toList_eq]at hg
  have:a=b:=by
   obtain⟨⟨la⟩⟩:=a;obtain⟨⟨lb⟩⟩:=b;simp at hg;rw[hg]
  rw[kX ha,kX hb,this]
 .replace h:=uX h;obtain⟨a,ha,h⟩:=ak h;obtain⟨b,hb,h⟩:=ak h;obtain⟨hg,h⟩:=dh h;rw[Bg ha,Bg hb,UZ hg]
 .unfold acj at h;rw[aG,aG]at h;obtain⟨⟨h1,h2⟩,h3⟩:=h;cases x<;>first|(replace h1:false=true:=h1;cases h1;done)|skip
  all_goals cases y<;>first|rfl|(replace h2:false=true:=h2;cases h2;done)|(replace h3:false=true:=h3;cases h3;done)|skip
  all_goals
   rename_i p q;cases p<;>cases q<;>first|rfl|(replace h1:false=true:=h1;cases h1;done)|(replace h2:false=true:=h2;cases h2;done)
theorem Ku(hf:∀{x y:Value},f x y=true->x=y):∀{xs ys:List Value},yA f xs ys=true->xs=ys:=by
 intro xs
 induction xs with
 |nil=>
  intro ys h;cases ys with
  |nil=>rfl
  |cons y ys=>cases h
 |cons x xs ih=>
  intro ys h;cases ys with
  |nil=>cases h
  |cons y ys=>
   replace h:aU (f x y) (yA f xs ys) false=true:=h;cases h1:f x y with
   |false=>rw[h1]at h;cases h
   |true=>
    rw[h1]at h;rw[hf h1,ih h]
theorem NW(hf:∀{x y:Value},f x y=true->x=y){y:Value}(h:Sj f x y=true):x=y:=by
 replace h:=uX h;obtain⟨a,ha,h⟩:=ak h;obtain⟨b,hb,h⟩:=ak h;obtain⟨g,hg,h⟩:=ak h;obtain⟨k,hk,h⟩:=ak h;obtain⟨hh,h⟩:=dh h;rw[aG,aG]at hh;rw[Lj ha,Lj hb,Ll hg,Ll hk,aB hh.1.1,Ku hf hh.1.2,Ku hf hh.2]
theorem Xx{y:Value}(h:lX x y=true):x=y:=by
 have h00:∀{x y:Value},CB x y=true->x=y:=by
  intro x y h;unfold CB at h;rw[gN]at h;rcases h with h|h
  .exact NV h
  .exact NW NV h
 unfold lX at h;rw[gN]at h;rcases h with h|h
 .exact h00 h
 .exact NW h00 h
theorem Xy:∀{xs ys:List Value},DK xs ys=true->xs=ys:=by
 intro xs
 induction xs with
 |nil=>
  intro ys h;cases ys with
  |nil=>rfl
  |cons y ys=>cases h
 |cons x xs ih=>
  intro ys h;cases ys with
  |nil=>cases h
  |cons y ys=>
   replace h:aU (lX x y) (DK xs ys) false=true:=h;cases h1:lX x y with
   |false=>rw[h1]at h;cases h
   |true=>
    rw[h1]at h;rw[Xx h1,ih h]
theorem CP{off:Nat}(h:H.read r off k=some vs):∀j,j<k->jd (H.obj r) (off+j)=vs[j]?/\j<vs.length:=by
 intro j hj;cases k with
 |zero=>omega
 |succ k=>
  replace h:(ax (rX<|H.obj r) λw=>gd (Nat.ble (Nat.add off<|k+1) w.n)<|some<|Tr.Cu top w.cells off<|k+1)=some vs:=h;obtain⟨R,hR,h⟩:=ak h;obtain⟨hg,h⟩:=dh h;cases h;have hg:off+(k+1)<=R.n:=ai hg;rw[qR hR,Sr _ _ _ _ _ hj,Sq];refine⟨?_,hj⟩;simp only[jd];rw[if_pos aa]
theorem L8{B:ag}{off:Nat}(h:sameAt A B r off k=true):∀j,off<=j->j<off+k->jd (A.obj r) j=jd (B.obj r) j:=by
 replace h:=uX h;obtain⟨x,hx,h⟩:=ak h;obtain⟨y,hy,h⟩:=ak h;obtain⟨hg,h⟩:=dh h;intro j h1 h2;have a1:=(CP hx (j-off) aa).1;have a2:=(CP hy (j-off) aa).1;rw[show off+(j-off)=j from by omega]at a1 a2;rw[a1,a2,Xy hg]
theorem Xz{o:iW}(e:Iu o=Iu o')(i:Nat):(jd o i).isSome=(jd o' i).isSome:=by
 cases o<;>cases o'<;>simp only[Iu]at e<;>first|rfl|cases e|skip
 case row.row R R'=>
  simp only[iW.row.injEq,Row.mk.injEq]at e;simp only[jd,e.2.2.1];split<;>rfl
theorem EY{off:Nat}(h:H.write r off vs=some H'):
 H'.next=H.next/\(∀k,k≠r->H'.obj k=H.obj k)/\Iu (H'.obj r)=Iu (H.obj r)/\(∀i,¬(off<=i/\i<off+vs.length)->jd (H'.obj r) i=jd (H.obj r) i)/\
   (∀i,off<=i->i<off+vs.length->jd (H'.obj r) i=vs[i-off]?)/\(vs≠[]->H'.low<=r):=by
 cases vs with
 |nil=>
  cases h;exact⟨rfl,λ_ _=>rfl,rfl,λ_ _=>rfl,λi a b=>by simp at b;omega,λh=>absurd rfl h⟩
 |cons v vs=>
  replace h:(ax (rX<|H.obj r) λw=>
   gd (!w.ja&&Nat.ble (Nat.add off<|len<|v::vs) w.n&&Nat.ble w.fz off&&all' dK (v::vs))
   (some<|H.put r<|.row ⟨w.ty,Tr.pU top (v::vs) off w.cells,w.n,false,w.fz⟩))=some H':=h
  obtain⟨R,hR,h⟩:=ak h;obtain⟨hg,h⟩:=dh h;cases h;have JA:=qR hR;simp only[aG,dG]at hg;obtain⟨⟨⟨g0,g1⟩,g2⟩,g3⟩:=hg;have g1:off+(v::vs).length<=R.n:=ai g1;have g0:R.ja=false:=by simpa using g0
  have zG:(H.put r<|.row ⟨R.ty,Tr.pU top (v::vs) off R.cells,R.n,false,R.fz⟩).obj r=.row ⟨R.ty,Tr.pU top (v::vs) off R.cells,R.n,false,R.fz⟩:=by rw[su,if_pos rfl]
  refine⟨rfl,λk hk=>by rw[su,if_neg hk],?_,?_,?_,λ_=>(GY _ _ _).1⟩
  .rw[zG,JA];simp only[Iu,g0]
  .intro i hi;rw[zG,JA];simp only[jd];rw[Tr.jM,if_neg hi]
  .intro i h1 h2;rw[zG];simp only[jd];rw[if_pos aa,Tr.jM,if_pos ⟨h1,h2⟩,aK,ae aa];rfl
section rg
variable{P:Program}{cf:iO}{S:Nat->St}
theorem QH{o:Op}{p:Operand×Operand}(h:yD o=some p):∃t,o=.store t p.1 p.2:=by
 cases o<;>first|cases h|skip
 exact⟨_,rfl⟩
theorem U0{o:Op}{p:TypeId×Operand}(h:EL o=some p):o=.load p.1 p.2:=by
 cases o<;>first|cases h|skip
 rfl
structure adR(P:Program)(cf:iO)(ops:Array Oper)(o:Oper)(s s1:St)(c:Cl):Prop where
 ex:∃t x y a H',o.op=.store t x y/\mX ops s o.guard=some true/\mF (ev s x)=some a/\c=⟨3,a.block,a.off,len<|aX<|ev s y,hh0,hh0⟩/\
  wG P t (ev s x) (ev s y) (dX s).H=some (undef,H')/\s1=fU s o.dst undef ⟨H'.rM,H'.next,kV s.H.low H'.low⟩/\
  (dX s).H.write a.block a.off (aX<|ev s y)=some H'
theorem xV(s:St)(x:Operand):ev (dX s) x=ev s x:=by cases x<;>rfl
theorem EZ{c:Cl}(h:Iz P cf ops o s s1 c)(hc:c.k=3):adR P cf ops o s s1 c:=by
 cases h with
 |skip hw=>cases hc
 |zF v hw hr=>cases hc
 |mem v H' hw hr=>
  rcases L6 (P:=P) (o:=o.op) (s:=s) (H':=H')with⟨p,a,hs,ha,e⟩|e|⟨hlow,⟨_,e⟩|e|⟨p,a,l,hs,ha,hl,e⟩⟩
  .obtain⟨t,hop⟩:=QH hs;rw[hop]at hr;have h:=jK (o:=wG P t (ev (dX s) p.1) (ev (dX s) p.2) (dX s).H) hr;rw[xV,xV]at h;have h0:=h;obtain⟨a',ha',h⟩:=ak h;obtain⟨s',hs',h⟩:=ak h;obtain⟨hg,h⟩:=dh h;obtain⟨H1,hH1,h⟩:=ak h;cases h;rw[ha]at ha';cases ha';exact⟨t,p.1,p.2,a,_,hop,hw,ha,e,h0,rfl,hH1⟩
  all_goals(rw[e]at hc;cases hc)
theorem Rg.rF(g:Rg P cf ops n nt S C)(hj:j<ops.size)(hc:(C j).k=3)(hne:at' S κ r j≠at' S κ r (j+1)):
 r=(C j).r/\∃i,κ=some i/\(C j).off<=i/\i<(C j).off+(C j).n:=by
 have hs:=EZ (g.step j _<|aJ hj) hc;obtain⟨t,x,y,a,H',hop,hw,ha,e,hst,hs1,hwr⟩:=hs.ex;obtain⟨_,h1,h2,h3,_,_⟩:=EY hwr;have QI:∀k,(S<|j+1).H.obj k=H'.obj k:=by intro k;rw[hs1,iY];rfl
 have adS:∀k,(dX<|S j).H.obj k=(S j).H.obj k:=λ_=>rfl;rw[e];simp only[dG]
 by_cases hr:r=a.block
 .subst hr;refine⟨rfl,?_⟩;cases κ with
  |none=>exact absurd (by show Ct.shape _=Ct.shape _;rw[QI,h2,adS]) hne
  |some i=>
   refine⟨i,rfl,?_⟩;apply dB;intro hni;exact hne (by show Ct.cell _=Ct.cell _;rw[QI,h3 i hni,adS])
 .exact absurd (by show cont κ _=cont κ _;rw[QI,h1 r hr,adS]) hne
theorem Rg.QJ(g:Rg P cf ops n nt S C)(hj:j<ops.size)(hc:(C j).k=3)(hr:r≠(C j).r):(S<|j+1).H.obj r=(S j).H.obj r:=by
 have hs:=EZ (g.step j _<|aJ hj) hc;obtain⟨t,x,y,a,H',hop,hw,ha,e,hst,hs1,hwr⟩:=hs.ex;rw[e]at hr;rw[hs1,iY];exact(EY hwr).2.1 r hr
theorem yL{x:Cl}(h:vD x y=true)(hr:x.r=y.r)(h1:x.off<=i)(h2:i<x.off+x.n)(h3:y.off<=i)(h4:i<y.off+y.n):False:=by
 unfold vD at h;rw[gN,gN]at h;rcases h with(h|h)|h
 .rw[hr]at h;rw[show Nat.beq y.r y.r=true from bC _]at h;cases h
 .have:=ai h;have e:Nat.add x.off x.n=x.off+x.n:=rfl;omega
 .have:=ai h;have e:Nat.add y.off y.n=y.off+y.n:=rfl;omega
theorem Rg.SI(g:Rg P cf ops n nt S C){l:Cl}(hj:j<ops.size)(hc:(C j).k=2)(h:ng (C j) l=true)(h1:l.off<=i)(h2:i<l.off+l.n):at' S (some i) l.r j=at' S (some i) l.r (j+1):=by
 have hs:=g.step j _<|aJ hj;generalize hcj:C j=c at hs hc h;generalize hsj:S (j+1)=s1 at hs;show Ct.cell (jd ((S j).H.obj l.r) i)=Ct.cell (jd ((S<|j+1).H.obj l.r) i);rw[hsj];cases hs with
 |skip hw=>rw[iY]
 |zF v hw hr=>rw[iY]
 |mem v H' hw hr=>
  rw[iY];rcases L6 (P:=P) (o:=ops[j].op) (s:=S j) (H':=H')with⟨p,a,hs,ha,e⟩|e|⟨hlow,⟨_,e⟩|e|⟨p,a,l,hs,ha,hl,e⟩⟩
  .rw[e]at hc;cases hc
  .rw[e]at h;have:=L8 (show sameAt (S j).H H' l.r l.off l.n=true from h) i h1 h2;rw[this];rfl
  all_goals(rw[e]at hc;cases hc)
theorem Rg.ahD(g:Rg P cf ops n nt S C)(hD:Closed ops D)(hi:i<ops.size)(Ch:¬D i)(kH:∀e,e∈ops[i].after.toList->Region.binds .any e=true->D e.on)(hc:(C i).k=4)(h1:(C i).off<=k)(h2:k<(C i).off+(C i).n)(hr:(C i).r<nx S i):Cg S ops.size D (some k) (C i).r i:=by
 refine⟨hr,λj hj Nj hne=>?_⟩;have hcj:=g.turns hj Nj hne;have hoi:ops[i]?=some ops[i]:=aJ hi;have hoj:ops[j]?=some ops[j]:=aJ hj
 have aco:(C j).k=3->∀x y,vD x y=true->((x=C j/\y=C i)\/(x=C i/\y=C j))->False:=by
  intro h3 x y hno hxy;obtain⟨e1,i',e2,e3,e4⟩:=g.rF hj h3 hne;cases e2;rcases hxy with⟨rfl,rfl⟩|⟨rfl,rfl⟩
  .exact yL hno e1.symm e3 e4 h1 h2
  .exact yL hno e1 h1 h2 e3 e4
 rcases iH j i with h|h|h
 .refine⟨λ_=>h,λ_=>?_⟩;have hd:=g.dyn j i h hi;rcases hcj with hcj|hcj
  .rcases adO hd hcj hc with hb|hb
   .exact jI g.back hD i _ hoi kH j hb
   .exact absurd (g.SI hj hcj hb h1 h2) hne
  .rcases adM hd hcj hc with hb|hb
   .exact jI g.back hD i _ hoi kH j hb
   .exact(aco hcj _ _ hb<|.inl ⟨rfl,rfl⟩).elim
 .subst h;exact⟨λh=>absurd h Ch,λh=>absurd h<|nG _⟩
 .refine⟨λJB=>?_,λh'=>by omega⟩;have hd:=g.dyn i j h hj
  have hb:d_ (xJ ops j) i=true:=by
   rcases hcj with hcj|hcj
   .rcases adN hd hc hcj with hb|hb
    .exact hb
    .exact absurd (g.SI hj hcj hb h1 h2) hne
   .rcases adL hd hc hcj with hb|hb
    .exact hb
    .exact(aco hcj _ _ hb<|.inr ⟨rfl,rfl⟩).elim
  exact absurd (jI g.back hD j _ hoj (hD j _ hoj JB) i hb) Ch
theorem QK{a:Addr}(h:r_ P t x H=some (v,H'))(hx:VR m x x')(ha:mF x=some a)(hl:V3 P t=some ld)(hm:m a.block=some l)(QI:w.heap[l.c]?=some ob)(hc:∀i u,a.off<=i->i<a.off+ld.getD 1->jd (H.obj a.block) i=some u->uA m l i u ob):
 ∃v',VR m v v'/\(Instr.loadAt t x').run P w=.ok v' w:=by
 obtain⟨a0,ha0,h⟩:=ak h;obtain⟨l0,hl0,h⟩:=ak h;rw[ha]at ha0;cases ha0;rw[hl]at hl0;cases hl0;rw[kW ha]at hx;obtain⟨l1,hm1,hlo,hsp,rfl⟩:=hx.oO;rw[hm]at hm1;cases hm1
 have hcell:∀i u,a.off<=i->i<a.off+ld.getD 1->jd (H.obj a.block) i=some u->∃u',VR m u u'/\w.cell? ⟨l.c,l.base+(i-l.lo),none⟩=some u':=by
  intro i u h1 h2 h3;obtain⟨cs,ty,fr,u',e,h4,h5⟩:=hc i u h1 h2 h3;subst e;exact⟨u',h5,by rw[cell_of QI];exact h4⟩
 obtain⟨d,i,hd,hi,hk⟩:=Qc hl;rcases hk with⟨hag,rfl⟩|⟨hag,rfl⟩
 .replace h:(ax (H.read a.block a.off i.size) λvs=>some (Value.agg ⟨vs⟩,H))=some (v,H'):=h;obtain⟨vs,hvs,h⟩:=ak h;cases h;have hrc:=CP hvs
  have hvl:vs.length=i.size:=by
   cases hz:i.size with
   |zero=>rw[hz]at hvs;cases hvs;rfl
   |succ k=>
    rw[hz]at hvs;have h:=hvs;replace h:(ax (rX<|H.obj a.block) λw=>gd (Nat.ble (Nat.add a.off<|k+1) w.n)<|some<|Tr.Cu top w.cells a.off<|k+1)=some vs:=h;obtain⟨R,hR,h⟩:=ak h;obtain⟨hg,h⟩:=dh h;cases h;exact Sq _ _ _ _
  have key:∀(q:List Value)(b:Nat),vs.drop b=q->∃q',jf m q q'/\∀j u,q'[j]?=some u->w.cell? ((⟨l.c,l.base+(a.off-l.lo),none⟩:Addr).add<|b+j)=some u:=by
   intro q
   induction q with
   |nil=>intro b _;exact⟨[],.nil,by simp⟩
   |cons u q ih=>
    intro b hb
    have hbu:vs[b]?=some u:=by
     have:=bW List.head? hb
     rwa [List.head?_drop]at this
    have hbl:b<vs.length:=(aL.1 hbu).1;obtain⟨q',h1,h2⟩:=ih (b+1) (by rw[<-List.tail_drop,hb];rfl);obtain⟨u',h3,h4⟩:=hcell (a.off+b) u aa (by show a.off+b<a.off+i.size;omega) (by rw[(hrc b aa).1];exact hbu);refine⟨u'::q',.cons _ _ _ _ h3 h1,?_⟩;intro j z hz;cases j with
    |zero=>
     simp at hz;subst hz;rw[bn,Bo l a.off _ hlo];exact h4
    |succ j=>
     have:=h2 j z (by simpa using hz);rw[show b+(j+1)=b+1+j from by omega];exact this
  obtain⟨vs',h1,h2⟩:=key vs 0 rfl;have hrun:=run_loadCells_list (P:=P) w ⟨l.c,l.base+(a.off-l.lo),none⟩ vs' (λj u hu=>by have:=h2 j u hu;rwa [aI]at this);rw[<-h1.length,hvl]at hrun;exact⟨.agg ⟨vs'⟩,.agg _ _ h1,by simp[Instr.loadAt,Instr.sureAddr,loadVar,uu hd,hag,gG hi,hrun]⟩
 .replace h:(ax (H.cell a.block a.off) λv=>some (v,H))=some (v,H'):=h;obtain⟨u,hu,h⟩:=ak h;cases h;have h:=hu;obtain⟨R,hR,h⟩:=ak h;obtain⟨hg,h⟩:=dh h;cases h;have hg:a.off+1<=R.n:=ai hg;obtain⟨v',h1,h2⟩:=hcell a.off (R.cells.get top a.off) (aj _) (by show a.off<a.off+1;omega) (by rw[qR hR];simp only[jd];rw[if_pos aa]);exact⟨v',h1,by simp[Instr.loadAt,Instr.sureAddr,loadVar,uu hd,hag,h2]⟩
theorem XA{o:Op}(hf:xx o=true)(h:vN o P cf s=.mem v H'):
 ∃ob,H'=s.H.new ob/\∀A:ag,A.next=s.H.next->vN o P cf ⟨s.nl,s.nt,s.reg,s.tm,s.df,A⟩=.mem v (A.new ob):=by
 cases o<;>first|cases hf|skip
 case alloc e=>
  replace h:=jK (o:=zW P e s.H) h;obtain⟨z,hz,h⟩:=ak h;cases h;refine⟨_,rfl,λA hA=>?_⟩;show rm (ax (xF P e) λz=>some (Hy A.next,A.new<|rowOf e z))=_;rw[hz,hA];rfl
 case box e x=>
  replace h:=jK (o:=Le e (ev s x) s.H) h;obtain⟨hg,h⟩:=dh h;cases h;refine⟨_,rfl,λA hA=>?_⟩;have e1:ev ⟨s.nl,s.nt,s.reg,s.tm,s.df,A⟩ x=ev s x:=by cases x<;>rfl
  show rm (gd (rY<|ev ⟨s.nl,s.nt,s.reg,s.tm,s.df,A⟩ x)<|some (Hy A.next,A.new<|rowOf e<|aX<|ev ⟨s.nl,s.nt,s.reg,s.tm,s.df,A⟩ x))=_;rw[e1,hg,hA];rfl
 case makeMap t r=>
  replace h:=jK (o:=si P t (Gq s r) s.H) h;obtain⟨q,hq,h⟩:=ak h;obtain⟨hg,h⟩:=dh h;cases h;refine⟨_,rfl,λA hA=>?_⟩
  have e1:Gq ⟨s.nl,s.nt,s.reg,s.tm,s.df,A⟩ r=Gq s r:=by
   cases r with
   |none=>rfl
   |some x=>cases x<;>rfl
  show rm (ax (zD P t) λ_=>gd (@Option.rec Value (λ_=>Bool) true (λv=>!(cO<|pF v))<|Gq ⟨s.nl,s.nt,s.reg,s.tm,s.df,A⟩ r)<|some (Value.map<|some A.next,A.new<|.map []))=_;rw[e1,hq,hA];show rm (gd (@Option.rec Value (λ_=>Bool) true (λv=>!(cO<|pF v))<|Gq s r) _)=_;rw[hg];rfl
 case makeSlice t l c=>
  replace h:=jK (o:=mP P t (ev s l) (ev s c) s.H) h;obtain⟨q,hq,h⟩:=ak h;obtain⟨i,hi,h⟩:=ak h;obtain⟨z,hz,h⟩:=ak h;obtain⟨k,hk,h⟩:=ak h;obtain⟨k2,hk2,h⟩:=ak h;obtain⟨hg,h⟩:=dh h;cases h;refine⟨_,rfl,λA hA=>?_⟩;have e1:ev ⟨s.nl,s.nt,s.reg,s.tm,s.df,A⟩ l=ev s l:=by cases l<;>rfl
  have e2:ev ⟨s.nl,s.nt,s.reg,s.tm,s.df,A⟩ c=ev s c:=by cases c<;>rfl
  show rm (mP P t (ev ⟨s.nl,s.nt,s.reg,s.tm,s.df,A⟩ l) (ev ⟨s.nl,s.nt,s.reg,s.tm,s.df,A⟩ c) A)=_;unfold mP;rw[e1,e2,hq];show rm (ax (tI P q.1) _)=_;rw[hi];show rm (ax (xF P q.1) _)=_;rw[hz];show rm (ax (w_<|ev s l) _)=_;rw[hk];show rm (ax (w_<|ev s c) _)=_;rw[hk2];show rm (gd _ _)=_;rw[hg,hA];rfl
 case buildSlice t k ps=>
  replace h:=jK (o:=pJ P t k (Lf s ps) s.H) h;obtain⟨q,hq,h⟩:=ak h;obtain⟨z,hz,h⟩:=ak h;obtain⟨hg,h⟩:=dh h;obtain⟨cs,hcs,h⟩:=ak h;cases h;refine⟨_,rfl,λA hA=>?_⟩
  have e1:Lf ⟨s.nl,s.nt,s.reg,s.tm,s.df,A⟩ ps=Lf s ps:=by
   obtain⟨ps⟩:=ps;show mp (λp=>(p.1,ev ⟨s.nl,s.nt,s.reg,s.tm,s.df,A⟩ p.2)) ps=mp (λp=>(p.1,ev s p.2)) ps;congr 1;funext p;cases p.2<;>rfl
  show rm (pJ P t k (Lf ⟨s.nl,s.nt,s.reg,s.tm,s.df,A⟩ ps) A)=_;unfold pJ;rw[e1,hq];show rm (ax (xF P q.1) _)=_;rw[hz];show rm (gd _ _)=_;rw[hg];show rm (ax (Cf _ (Lf s ps) _) _)=_;rw[hcs,hA];rfl
end rg
section rg
variable{P:Program}{cf:iO}{S:Nat->St}
theorem jN.cells{o:iW}{cs cs':Array Value}{fr:Nat×Nat}(h:jN m l o<|.cells cs ty fr)(hs:cs'.size=cs.size):jN m l o (.cells cs' ty fr):=by
 cases o with
 |dead=>trivial
 |row R=>
  obtain⟨h1,h2,h3,h4,h5,h6⟩:=h;exact⟨h1,h2,by rw[hs];exact h3,h4,h5,h6⟩
 |map es=>exact h.elim
 |zQ s p=>exact h.elim
theorem Rg.ahE(g:Rg P cf ops n nt S C)(hD:Closed ops D)(hi:i<ops.size)(Ch:¬D i)(kH:∀e,e∈ops[i].after.toList->Region.binds .any e=true->D e.on)(hc:(C i).k=3):(∀j,j<ops.size->(C j).k=2->j<i/\D j)/\∀r,r<nx S i->Cg S ops.size D none r i:=by
 have hoi:ops[i]?=some ops[i]:=aJ hi
 have h2:∀j,j<ops.size->(C j).k=2->j<i/\D j:=by
  intro j hj hcj;rcases iH j i with h|h|h
  .exact⟨h,jI g.back hD i _ hoi kH j<|SE (g.dyn j i h hi) (.inr hcj) hc⟩
  .subst h;rw[hc]at hcj;cases hcj
  .exact(SC (g.dyn i j h hj) hc<|.inr hcj).elim
 refine⟨h2,λr hr=>⟨hr,λj hj Nj hne=>?_⟩⟩;rcases g.turns hj Nj hne with hcj|hcj
 .have:=h2 j hj hcj;exact⟨λ_=>this.1,λ_=>this.2⟩
 .obtain⟨_,k,hk,_⟩:=g.rF hj hcj hne;cases hk
theorem QL(p:Nat->Bool):∀d k,p k=true->p (k+d)=false->∃j,k<=j/\j<k+d/\p j=true/\p (j+1)=false:=by
 intro d
 induction d with
 |zero=>intro k h1 h2;rw[bn,h1]at h2;cases h2
 |succ d ih=>
  intro k h1 h2;cases hp:p (k+1)with
  |false=>exact⟨k,aj _,aa,h1,hp⟩
  |true=>
   obtain⟨j,a1,a2,a3⟩:=ih (k+1) hp (by rw[show k+1+d=k+(d+1)from by omega];exact h2);exact⟨j,aa,aa,a3⟩
theorem MInv.stored(g:Rg P cf ops n nt S C)(hD:Closed ops D)(I:MInv S C ops.size m0 w0 D m w)(hi:i<ops.size)(Ch:¬D i)(kH:∀e,e∈ops[i].after.toList->Region.binds .any e=true->D e.on)(hc:(C i).k=3){x y:Operand}{a:Addr}(ha:mF (ev (S i) x)=some a)(hcl:C i=⟨3,a.block,a.off,len<|aX<|ev (S i) y,hh0,hh0⟩)(hst:wG P t (ev (S i) x) (ev (S i) y) (dX<|S i).H=some (undef,H'))(hs1:(S<|i+1).H=⟨H'.rM,H'.next,kV (S i).H.low H'.low⟩)(hwr:(dX<|S i).H.write a.block a.off (aX<|ev (S i) y)=some H')(hx:VR (m.upto<|nx S i) (ev (S i) x) x')(hy:VR (m.upto<|nx S i) (ev (S i) y) y'):
 ∃w',(Instr.storeAt t x' y').run P w=.ok () w'/\MInv S C ops.size m0 w0 (DW D i) m w':=by
 have hmono:=g.mono;have h0:=hst;have h:=hst;obtain⟨a1,ha1,h⟩:=ak h;obtain⟨sz,hsz,h⟩:=ak h;obtain⟨hgl,h⟩:=dh h;obtain⟨H1,hH1,h⟩:=ak h;cases h;rw[ha]at ha1;cases ha1;obtain⟨inf,qF,rfl⟩:=nJ hsz;have hlen:=aB hgl;rw[dG]at hlen;rw[kW ha]at hx;obtain⟨l,hml,hlo,hsp,rfl⟩:=hx.oO;have hu:=Mp.lg hml
 have hnt:ev (S i) y≠top:=by
  intro e;rw[e]at hwr
  replace hwr:(ax (rX<|(dX<|S i).H.obj a.block) λw=>
   gd (!w.ja&&Nat.ble (Nat.add a.off<|len [top]) w.n&&Nat.ble w.fz a.off&&all' dK [top])
   (some<|(dX<|S i).H.put a.block<|.row ⟨w.ty,Tr.pU top [top] a.off w.cells,w.n,false,w.fz⟩))=some H':=hwr
  have h:=hwr;obtain⟨R,hR,h⟩:=ak h;obtain⟨hg,h⟩:=dh h;simp[all_eq,dK,top]at hg
 have hcv:=yH hy hnt
 have acp:∀w',(storeCells ⟨l.c,l.base+(a.off-l.lo),none⟩<|aX y').run P w=.ok () w'->(Instr.storeAt t (.pointer<|some ⟨l.c,l.base+(a.off-l.lo),none⟩) y').run P w=.ok () w':=by
  intro w' hw';have hsz:y'.cells.size=inf.size:=by rw[zY];show(aX y').length=_;rw[<-hcv.length,hlen]
  have hcl:y'.cells.toList=aX y':=(Bh y').symm;simp only[Instr.storeAt,Instr.sureAddr,storeVar,Sem.run_bind,Sem.run_pure,Result.andThen_ok,gG qF,hsz,ne_eq,pE,g_,hcl];exact hw'
 have hwo:=EY hwr;have QI:∀k,(S<|i+1).H.obj k=H'.obj k:=by intro k;rw[hs1];rfl
 by_cases hnil:aX (ev (S i) y)=[]
 .rw[hnil]at hwr
  have hHH:(dX<|S i).H=H':=by
   have:some (dX<|S i).H=some H':=hwr;injection this
  have hn':aX y'=[]:=by
   have:=hcv.length;rw[hnil]at this;exact dU this.symm
  refine⟨w,acp w (by rw[hn'];simp[storeCells]),I.still hi λr hr=>?_⟩;rw[QI,<-hHH];rfl
 .
  obtain⟨SK,QM⟩:=g.ahE hD hi Ch kH hc;obtain⟨ob,abb⟩:=I.UY _ _ hu.2;have hsh:=I.cnt none _ _ i ob aa hu.2 (QM _ hu.1) abb
  have hrow:∃R,(S i).H.obj a.block=.row R/\R.ja=false/\a.off+(aX<|ev (S i) y).length<=R.n/\R.fz<=a.off/\(aX<|ev (S i) y).all dK=true:=by
   cases hvs:aX (ev (S i) y)with
   |nil=>exact absurd hvs hnil
   |cons u us=>
    rw[hvs]at hwr
    replace hwr:(ax (rX<|(dX<|S i).H.obj a.block) λw=>
     gd (!w.ja&&Nat.ble (Nat.add a.off<|len<|u::us) w.n&&Nat.ble w.fz a.off&&all' dK (u::us))
     (some<|(dX<|S i).H.put a.block<|.row ⟨w.ty,Tr.pU top (u::us) a.off w.cells,w.n,false,w.fz⟩))=some H':=hwr
    have h:=hwr;obtain⟨R,hR,h⟩:=ak h;obtain⟨hg,h⟩:=dh h;simp only[aG,dG,all_eq]at hg;exact⟨R,qR hR,by simpa using hg.1.1.1,ai hg.1.1.2,ai hg.1.2,hg.2⟩
  obtain⟨R,hR,hse,hbd,hfz,hoc⟩:=hrow
  have adT:jN (m.upto<|nx S i) l (.row R) ob:=by
   have:jN (m.upto<|nx S i) l (Iu<|(S i).H.obj a.block) ob:=hsh;rw[hR]at this;exact this.QB rfl
  cases ob with
  |cells cs ty fr=>
   obtain⟨⟨e1,e2⟩,e3,e4,e5,e6,e7⟩:=adT;have hlen':(aX y').length=(aX<|ev (S i) y).length:=hcv.length.symm
   obtain⟨w',cs',r1,r2,r3,r4,r5,r6,r7,r8,r9⟩:=wM (P:=P) l.c (l.base+(a.off-l.lo)) ty fr (aX y') 0 cs w abb (zZ hcv hoc) (by rw[hlen'];omega)
    (λj b1 b2 b3=>by have:=e7 hse;omega)
   refine⟨w',acp w' r1,?_⟩;have hCr:(C i).r=a.block:=by rw[hcl]
   have hCo:(C i).off=a.off:=by rw[hcl]
   have hCn:(C i).n=(aX<|ev (S i) y).length:=by rw[hcl];exact dG _
   have hnot:∀κ r,(r≠a.block\/∀k,κ=some k->¬(a.off<=k/\k<a.off+(aX<|ev (S i) y).length))->at' S κ r i=at' S κ r (i+1):=by
    intro κ r hor;apply dB;intro hne;obtain⟨f1,k,f2,f3,f4⟩:=g.rF hi hc hne;rw[hCr]at f1;rw[hCo]at f3;rw[hCo,hCn]at f4;rcases hor with h|h
    .exact h f1
    .exact h k f2 ⟨f3,f4⟩
   have adU:(S i).H.obj a.block≠.dead:=by rw[hR];simp
   have hother:∀r l1 k κ,r≠a.block->m r=some l1->l1.c=l.c->k<=ops.size->Cg S ops.size D κ r k->∀o,Rel κ (m.upto<|nx S k) l1 (at' S κ r k) o:=by
    intro r l1 k κ hne hm1 hcc hk hcon o
    have FF:∀k',k'<=ops.size->Cg S ops.size D none r k'->(S k').H.obj r=.dead:=by
     intro k' hk' Xw;apply dB;intro hnd;exact hne<|I.sep r a.block l1 l k' i hm1 hu.2 hcc hk' aa Xw (QM _ hu.1) hnd adU
    cases κ with
    |none=>
     show Rel none _ _ (.shape<|Iu<|(S k).H.obj r) o;rw[FF k hk hcon];trivial
    |some q=>
     show Rel (some q) _ _ (.cell<|jd ((S k).H.obj r) q) o;cases hca:jd ((S k).H.obj r) q with
     |none=>trivial
     |some z=>
      exfalso
      have XB:∀j,j<ops.size->r<nx S j->(C j).k≠2->(jd ((S j).H.obj r) q).isSome=(jd ((S<|j+1).H.obj r) q).isSome:=by
       intro j hj Nj h2;apply Xz;apply dB;intro hne';have hne2:at' S none r j≠at' S none r (j+1):=λe=>hne' (by injection e);rcases g.turns hj Nj hne2 with h3|h3
       .exact h2 h3
       .obtain⟨_,_,h4,_⟩:=g.rF hj h3 hne2;cases h4
      by_cases hri:r<nx S i
      .have hd:=FF i aa (QM r hri);have hz:jd ((S i).H.obj r) q=none:=by rw[hd];rfl
       rcases aN k i with hki|hki
       .obtain⟨j,f1,f2,f3,f4⟩:=QL (λk=>(jd ((S k).H.obj r) q).isSome) (i-k) k (by simp[hca]) (by
         show(jd ((S<|k+(i-k)).H.obj r) q).isSome=false;rw[show k+(i-k)=i from by omega,hz];rfl)
        have Nj:r<nx S j:=aH hcon.1<|hmono k j f1 aa
        have hj2:(C j).k=2:=dB λe=>by
         have:=XB j aa Nj e;rw[f3,f4]at this;cases this
        have ahF:at' S (some q) r j≠at' S (some q) r (j+1):=by
         intro e;have e:jd ((S j).H.obj r) q=jd ((S<|j+1).H.obj r) q:=by injection e
         rw[e,f4]at f3;cases f3
        have:=(hcon.2 j aa Nj ahF).1 (SK j aa hj2).2;omega
       .have:∀d,i+d<=ops.size->(jd ((S<|i+d).H.obj r) q).isSome=false:=by
         intro d
         induction d with
         |zero=>intro _;rw[bn,hz];rfl
         |succ d ih=>
          intro hd'
          have h9:=XB (i+d) aa (aH hri<|hmono i (i+d) aa aa) (λe=>by
           have:=(SK (i+d) aa e).1;omega)
          rw[show i+(d+1)=i+d+1 from rfl,<-h9];exact ih aa
        have:=this (k-i) aa;rw[show i+(k-i)=k from by omega,hca]at this;cases this
      .have hcn:Cg S ops.size D none r k:=by
        refine⟨hcon.1,λj hj Nj hne'=>?_⟩;exfalso;rcases g.turns hj Nj hne' with h3|h3
        .have:=(SK j hj h3).1;have:=hmono j i aa aa;omega
        .obtain⟨_,_,h4,_⟩:=g.rF hj h3 hne';cases h4
       rw[FF k hk hcn]at hca;cases hca
   refine⟨?_,?_,?_,?_,?_,?_,I.le,I.fresh,r7.trans I.os,r8.trans I.tape,r9.trans I.output,by rw[r6];exact I.size,?_⟩
   .exactλr l h=>(I.dom r l h).imp id λ⟨j,h1,h2,h3⟩=>⟨j,h1,.inl h2,h3⟩
   .intro r l1 h1;obtain⟨o,ho⟩:=I.UY r l1 h1;have:l1.c<w'.heap.size:=by rw[r6];exact nK ho
    exact⟨w'.heap[l1.c],aJ this⟩
   .
    intro κ r l1 k o hk hm1 hcon ho
    by_cases hr:r=a.block
    .subst hr;rw[hu.2]at hm1;have hll:l=l1:=by injection hm1
     subst hll;rw[r2]at ho;have ho:Obj.cells cs' ty fr=o:=by injection ho
     subst ho
     by_cases hin:∃q,κ=some q/\a.off<=q/\q<a.off+(aX<|ev (S i) y).length
     .obtain⟨q,rfl,q1,q2⟩:=hin
      have afp:Cg S ops.size (DW D i) (some q) a.block (i+1):=by
       refine⟨aH hu.1<|g.NU hi,λj hj Nj hne=>?_⟩;rcases g.turns hj Nj hne with h2|h3
       .have:=SK j hj h2;exact⟨λ_=>by omega,λ_=>.inl this.2⟩
       .obtain⟨f1,q',f2,f3,f4⟩:=g.rF hj h3 hne;cases f2;have hoi:ops[i]?=some ops[i]:=aJ hi;have hoj:ops[j]?=some ops[j]:=aJ hj;rcases iH j i with h|h|h
        .rcases Xu (g.dyn j i h hi) h3 hc with hb|hb
         .exact⟨λ_=>by omega,λ_=>.inl<|jI g.back hD i _ hoi kH j hb⟩
         .exact(yL hb (by rw[<-f1,hCr]) f3 f4 (by rw[hCo];exact q1) (by rw[hCo,hCn];exact q2)).elim
        .subst h;exact⟨λ_=>by omega,λ_=>.inr rfl⟩
        .rcases Xu (g.dyn i j h hj) hc h3 with hb|hb
         .refine⟨λhw=>?_,λh'=>by omega⟩;rcases hw with JB|e
          .exact absurd (jI g.back hD j _ hoj (hD j _ hoj JB) i hb) Ch
          .omega
         .exact(yL hb (by rw[<-f1,hCr]) (by rw[hCo];exact q1) (by rw[hCo,hCn];exact q2) f3 f4).elim
      have heq:at' S (some q) a.block (i+1)=at' S (some q) a.block k:=Cg.eq hmono aa hk afp hcon;have hcell:jd ((S<|i+1).H.obj a.block) q=(aX<|ev (S i) y)[q-a.off]?:=by rw[QI];exact hwo.2.2.2.2.1 q q1 q2
      have hrel:Rel (some q) (m.upto<|nx S i) l (at' S (some q) a.block k) (.cells cs' ty fr):=by
       rw[<-heq];show Rel (some q) _ l (.cell<|jd ((S<|i+1).H.obj a.block) q) _;rw[hcell];cases hz:(aX<|ev (S i) y)[q-a.off]? with
       |none=>trivial
       |some z=>
        intro hlq;obtain⟨z',f1,f2⟩:=hcv.get _ hz;refine⟨cs',ty,fr,z',rfl,?_,f2⟩;rw[r4,if_pos (by rw[hlen'];omega),show l.base+(q-l.lo)-(l.base+(a.off-l.lo)+0)=q-a.off from by omega];exact f1
      rcases aN i k with hik|hik
      .exact hrel.mono<|Mp.uz (λ_ _ h=>h)<|hmono i k aa hk
      .have hni:at' S (some q) a.block i=at' S (some q) a.block (i+1):=by
        apply dB;intro hne;have:=(hcon.2 i hi hu.1 hne).1<|.inr rfl;omega
       have hold:=I.cnt (some q) _ _ k _ hk hu.2 (hcon.less λ_=>hni) abb;exact Rel.restrict (Mp.uz (λ_ _ h=>h)<|hmono k i hik aa) hrel hold
     .have hni:at' S κ a.block i=at' S κ a.block (i+1):=hnot κ _ (.inr λq e h=>hin ⟨q,e,h.1,h.2⟩);have hold:=I.cnt κ _ _ k _ hk hu.2 (hcon.less λ_=>hni) abb;cases κ with
      |none=>
       have hold:jN (m.upto<|nx S k) l (Iu<|(S k).H.obj a.block) (.cells cs ty fr):=hold;exact hold.cells r3
      |some q=>
       have hold:Rel (some q) (m.upto<|nx S k) l (.cell<|jd ((S k).H.obj a.block) q) (.cells cs ty fr):=hold;show Rel (some q) (m.upto<|nx S k) l (.cell<|jd ((S k).H.obj a.block) q)<|.cells cs' ty fr;cases hz:jd ((S k).H.obj a.block) q with
       |none=>trivial
       |some z=>
        rw[hz]at hold;intro hlq;obtain⟨cs0,ty0,fr0,v,f1,f2,f3⟩:=hold hlq;cases f1;refine⟨cs',ty,fr,v,rfl,?_,f3⟩;rw[r4,if_neg]
        .exact f2
        .rw[hlen'];intro hh;exact hin ⟨q,rfl,aa,aa⟩
    .have hni:at' S κ r i=at' S κ r (i+1):=hnot κ r (.inl hr);have Kv:=hcon.less λ_=>hni
     by_cases hcc:l1.c=l.c
     .exact hother r l1 k κ hr hm1 hcc hk Kv o
     .rw[r5 _ hcc]at ho;exact I.cnt κ r l1 k o hk hm1 Kv ho
   .intro r r' l1 l1' k k' h1 h2 h3 h4 h5 h6 h7 h8 h9;exact I.sep r r' l1 l1' k k' h1 h2 h3 h4 h5 (h6.less λ_=>hnot none r<|.inr λq e=>by cases e) (h7.less λ_=>hnot none r'<|.inr λq e=>by cases e) h8 h9
   .exactλr r' l1 l1' j h1 h2 h3 h4 h5 h6=>I.clash r r' l1 l1' j h1 h2 h3 h4 (λh=>h5<|.inl h) h6
   .intro j r hj JB hr hmr;rcases JB with h|rfl
    .exact I.hid j r hj h hr hmr
    .refine g.QJ hi hc ?_;rw[hCr];intro e;rw[e,hu.2]at hmr;cases hmr
   .intro c hcs hk;rw[r5,I.keep c hcs hk];intro e
    have hlow:(S ops.size).H.low<=a.block:=by
     have f1:=g.low (i+1) ops.size aa<|aj _;rw[hs1]at f1;have f2:(S ops.size).H.low<=kV (S i).H.low H'.low:=f1;exact aW f2<|aW (Bt _ _).2<|hwo.2.2.2.2.2 hnil
    cases h0':m0 a.block with
    |some l0=>
     have:=I.le _ _ h0';rw[hu.2]at this;cases this;have:=hk _ _ h0' e.symm;omega
    |none=>
     obtain⟨r0,l0,f1,f2,f3⟩:=I.fresh _ _ hu.2 h0' (by rw[<-e];exact hcs);have:=hk r0 l0 f1 (by rw[f2,e]);omega
  |map xz c=>exact adT.elim
  |_=>exact adT.elim
end rg
theorem wm(hd:Ir s.nt d=true)(t:Nat):eO (fU s d v H) t=if d=some t then v else eO s t:=by
 cases d with
 |none=>rfl
 |some d=>
  have hd:d<s.nt:=ai hd;show eO (mQ s d v H) t=_;unfold mQ;cases hb:d_ s.nl d with
  |true=>
   show eO ⟨s.nl,s.nt,s.reg,aU (Nat.ble (Nat.succ d) s.nt) (s.tm.set top d v) s.tm,s.df,H⟩ t=_;rw[show Nat.ble (Nat.succ d) s.nt=true from av hd];show aU (d_ s.nl t) ((s.tm.set top d v).get top t) (look s.reg t)=_;rw[Tr.qQ]
   by_cases e:d=t
   .subst e;rw[hb,if_pos rfl,if_pos rfl];rfl
   .rw[if_neg (nX e),if_neg<|by simpa using e];rfl
  |false=>
   show aU (d_ s.nl t) (s.tm.get top t) (aU (Nat.beq d t) v<|look s.reg t)=_
   by_cases e:d=t
   .subst e;rw[hb,if_pos rfl,show Nat.beq d d=true from bC d];rfl
   .rw[if_neg (by simpa using e),show Nat.beq d t=false from by rw[<-aV];exactλg=>e<|aB g];rfl
section rg
variable{P:Program}{cf:iO}{S:Nat->St}
def abd(ops:Array Oper)(D:Nat->Prop)(t k:Nat):Prop:=∀(j:Nat)(o:Oper),ops[j]?=some o->o.dst=some t->(D j<->j<k)
structure Inv(ops:Array Oper)(nt:Nat)(S:Nat->St)(C:Nat->Cl)(m0:Mp)(w0:World)(d0:List Deferred)(D:Nat->Prop)(m:Mp)(a:Act)(w:World):Prop where
 mem:MInv S C ops.size m0 w0 D m w
 size:a.tmps.size=nt
 slot:∀t k,k<=ops.size->abd ops D t k->VR (m.upto<|nx S k) (eO (S k) t) (a.tmps.getD t undef)
 de:a.defers=d0
theorem Rg.look(g:Rg P cf ops n nt S C)(ho:ops[j]?=some o)(t:Nat)(h:o.dst≠some t):eO (S<|j+1) t=eO (S j) t:=by
 have hs:=g.step j o ho
 have hd:Ir (S j).nt o.dst=true:=by
  have:=g.ok j o ho;unfold uy at this;rw[aG]at this;rw[g.nts j o ho];exact this.2
 generalize S (j+1)=s1 at hs;generalize C j=c at hs;cases hs with
 |skip hw=>rw[wm hd,if_neg h]
 |zF v hw hr=>rw[wm hd,if_neg h]
 |mem v H' hw hr=>rw[wm hd,if_neg h]
theorem get_put(hs:a.tmps.size=nt)(hd:Ir nt d=true)(t:Nat):(a.put d v).tmps.getD t undef=if d=some t then v else a.tmps.getD t undef:=by
 cases d with
 |none=>rfl
 |some d=>
  have hd:d<nt:=ai hd;show(a.tmps.setIfInBounds d v).getD t undef=_
  by_cases e:d=t
  .subst e;rw[if_pos rfl];simp[Array.getD,hs,hd]
  .rw[if_neg (by simpa using e)];simp only[dM];rw[gM e]
theorem XC:(a.put d v).tmps.size=a.tmps.size:=by
 cases d with
 |none=>rfl
 |some d=>show(a.tmps.setIfInBounds d v).size=_;simp
theorem U1(g:Rg P cf ops n nt S C)(hD:Closed ops D)(hsz:a.tmps.size=nt)(hsl:∀t k,k<=ops.size->abd ops D t k->VR (m.upto<|nx S k) (eO (S k) t) (a.tmps.getD t undef))(hi:i<ops.size)(Ch:¬D i)(hm:Mp.le m m')(hv:VR (m'.upto<|nx S<|i+1) v v')(Kw:∀t,ops[i].dst=some t->eO (S<|i+1) t=v):
 ∀t k,k<=ops.size->abd ops (DW D i) t k->VR (m'.upto<|nx S k) (eO (S k) t) ((a.put ops[i].dst v').tmps.getD t undef):=by
 intro t k hk hcon;have hoi:ops[i]?=some ops[i]:=aJ hi
 have hd:Ir nt ops[i].dst=true:=by
  have:=g.ok i _ hoi;unfold uy at this;rw[aG]at this;exact this.2
 rw[get_put hsz hd]
 by_cases e:ops[i].dst=some t
 .rw[if_pos e];have hik:i<k:=(hcon i _ hoi e).1<|.inr rfl
  have hsame:∀d,i+1+d<=k->eO (S<|i+1+d) t=v:=by
   intro d
   induction d with
   |zero=>intro _;exact Kw t e
   |succ d ih=>
    intro hd';have hj:i+1+d<ops.size:=by omega
    have hoj:ops[i+1+d]?=some ops[i+1+d]:=aJ hj;rw[show i+1+(d+1)=i+1+d+1 from rfl,g.look hoj t ?_,ih aa];intro e2;have JB:D (i+1+d):=((hcon _ _ hoj e2).2 aa).resolve_right aa;rcases g.stat i (i+1+d) _ _ aa hoi hoj with hb|hap
    .exact Ch<|jI g.back hD _ _ hoj (hD _ _ hoj JB) i hb
    .exact(Oper.apart_spec hap).2.1 t e e2
  have:=hsame (k-(i+1)) aa;rw[show i+1+(k-(i+1))=k from by omega]at this;rw[this];exact hv.mono<|Mp.uz (λ_ _ h=>h)<|g.mono _ _ hik hk
 .rw[if_neg e];refine(hsl t k hk ?_).mono<|Mp.uz hm<|aj _;intro j o hj hdj
  have hji:j≠i:=by
   intro e2;subst e2;rw[hoi]at hj;cases hj;exact e hdj
  rw[<-hcon j o hj hdj];exact⟨.inl,λh=>h.resolve_right hji⟩
theorem XD(g:Rg P cf ops n nt S C)(hD:Closed ops D)(hi:i<ops.size)(Ch:¬D i)(kH:∀e,e∈ops[i].after.toList->Region.binds .any e=true->D e.on){t:Nat}(ht:t∈ops[i].looksAt ops):abd ops D t i:=by
 intro j o hj hdj;have hoi:ops[i]?=some ops[i]:=aJ hi;rcases iH j i with h|h|h
 .refine⟨λ_=>h,λ_=>?_⟩;rcases g.stat j i _ _ h hj hoi with hb|hap
  .exact jI g.back hD i _ hoi kH j hb
  .exact absurd ht<|(Oper.apart_spec hap).1 t hdj
 .subst h;exact⟨λh=>absurd h Ch,λh=>absurd h<|nG _⟩
 .refine⟨λJB=>?_,λh'=>by omega⟩;rcases g.stat i j _ _ h hoi hj with hb|hap
  .exact absurd (jI g.back hD j _ hj (hD j _ hj JB) i hb) Ch
  .exact absurd ht<|(Oper.apart_spec hap).2.2 t hdj
theorem U2{y:Option Bool}(f:∀(o:Oper) t,ops[j]?=some o->o.dst=some t->VR m (eO s t) (a.tmps.getD t undef))(h:yB ops s j=some y):yielded ops a.tmps j=y:=by
 obtain⟨o,ho,h⟩:=ak h;obtain⟨t,ht,h⟩:=ak h;rw[kU,bT]at ho;have hs:=f o t ho ht
 have hy:yielded ops a.tmps j=match a.tmps[t]? with|some (.bool b)=>some b|_=>none:=by
  unfold yielded;rw[ho];show(match(o.dst).bind (a.tmps[·]?)with|some (.bool b)=>some b|_=>none)=_;rw[ht];rfl
 rw[hy];cases hb:gF (eO s t)with
 |some b=>
  rw[hb]at h;replace h:some (some b)=some y:=h;cases h;rw[lJ hb]at hs;have hs:=hs.of_bool;rw[dM]at hs;cases hq:a.tmps[t]? with
  |none=>rw[hq]at hs;cases hs
  |some x=>rw[hq]at hs;replace hs:x=.bool b:=hs;rw[hs]
 |none=>
  rw[hb]at h;replace h:(gd (isU<|eO s t)<|some (none:Option Bool))=some y:=h;obtain⟨hg,h⟩:=dh h;cases h;rw[Xi hg]at hs;obtain⟨l',hl,hv⟩:=VR.Lm (x:=[]) hs;cases hv;rw[dM]at hl;cases hq:a.tmps[t]? with
  |none=>rfl
  |some x=>rw[hq]at hl;replace hl:x=.tuple ⟨[]⟩:=hl;rw[hl]
theorem IA(f:∀t,t∈o.looksAt ops->VR m (eO s t) (a.tmps.getD t undef))(h:mX ops s o.guard=some b):Region.wanted o (yielded ops a.tmps)=b:=by
 unfold Region.wanted;cases hg:o.guard with
 |none=>rw[hg]at h;cases h;rfl
 |some p=>
  rw[hg]at h;replace h:(ax (yB ops s p.1) λy=>some<|@Option.rec Bool (λ_=>Bool) false (λb=>yu b p.2) y)=some b:=h;obtain⟨y,hy,h⟩:=ak h;cases h;obtain⟨j,want⟩:=p;simp only
  rw[U2 (m:=m) (s:=s) (λo' t ho' ht=>f t (by
   unfold Oper.looksAt;rw[hg];refine bD _ ?_;simp only[ho',Option.bind_some,ht];simp)) hy]
  cases y with
  |none=>rfl
  |some c=>cases c<;>cases want<;>rfl
theorem adV(gl:Gl n m)(hok:all' (CO n) o.op.operands.toList=true)(f:∀t,t∈o.looksAt ops->VR m (eO s t) (a.tmps.getD t undef)):Kq m s a.eval o.op.operands.toList:=by
 refine⟨λx hx=>?_⟩;rw[all_eq]at hok;have hx':=bU.1 hok x hx;cases x with
 |tmp t=>
  refine f t ?_;unfold Oper.looksAt;refine bI _ ?_;rw[List.mem_filterMap];exact⟨_,hx,rfl⟩
 |const v=>exact .sc v hx'
 |global k=>
  obtain⟨l,h1,h2,h3,h4⟩:=gl k<|ai hx';have:=VR.ptr (m:=m) k 0 l h1 aa;rw[h2,h3,h4]at this;exact this
 |func f=>exact .func (.func f) [] [] [] [] .nil .nil
theorem XE(e:Kq m s ρ L)(A:ag):Kq m ⟨s.nl,s.nt,s.reg,s.tm,s.df,A⟩ ρ L:=⟨λx hx=>by have:=e.all x hx;cases x<;>exact this⟩
theorem Inv.step(g:Rg P cf ops n nt S C)(hcf:DT P n cf)(gl0:Gl n m0)(Gs:∀r l,m0 r=some l->r<nx S 0)(hD:Closed ops D)(I:Inv ops nt S C m0 w0 d0 D m a w)(hi:i<ops.size)(Ch:¬D i)(kH:∀e,e∈ops[i].after.toList->Region.binds .any e=true->D e.on)(HK:∀m' a' w',Inv ops nt S C m0 w0 d0 (DW D i) m' a' w'->K a' w'):wpOp P ops Q i K a w:=by
 have hoi:ops[i]?=some ops[i]:=aJ hi;have hst:=g.step i _ hoi;have hok:=g.ok i _ hoi;unfold uy at hok;rw[aG]at hok;have hdst:Ir (S i).nt ops[i].dst=true:=by rw[g.nts i _ hoi];exact hok.2
 have hsl:∀t,t∈ops[i].looksAt ops->VR (m.upto<|nx S i) (eO (S i) t) (a.tmps.getD t undef):=λt ht=>I.slot t i aa<|XD g hD hi Ch kH ht
 have gli:Gl n (m.upto<|nx S i):=by
  intro k hk;obtain⟨l,h1,h2⟩:=gl0 k hk;exact⟨l,Mp.DU (I.mem.le _ _ h1)<|aH (Gs _ _ h1)<|g.mono 0 i aa aa,h2⟩
 have e:=adV gli hok.1 hsl
 have fin:∀(v v':Value)(m':Mp)(w':World),MInv S C ops.size m0 w0 (DW D i) m' w'->Mp.le m m'->VR (m'.upto<|nx S<|i+1) v v'->(∀t,ops[i].dst=some t->eO (S<|i+1) t=v)->K (a.put ops[i].dst v') w':=by
  intro v v' m' w' hM hle hv hl;exact HK m' _ w' ⟨hM,by rw[XC];exact I.size,U1 g hD I.size I.slot hi Ch hle hv hl,by rw[put_defers];exact I.de⟩
 have afq:Mp.le (m.upto<|nx S i) (m.upto<|nx S<|i+1):=Mp.uz (λ_ _ h=>h)<|g.NU hi;unfold wpOp;rw[hoi];generalize hs1:S (i+1)=s1 at hst;generalize hci:C i=c at hst;cases hst with
 |skip hw=>
  simp only[IA hsl hw,bA,g_];refine fin undef undef m w (I.mem.still hi λr _=>by rw[hs1,iY]) (λ_ _ h=>h) (.tuple [] [] .nil) ?_;intro t ht;rw[hs1,wm hdst,if_pos ht]
 |zF v hw hr=>
  simp only[IA hsl hw,iq];left;obtain⟨v',h1,h2⟩:=LV hr e.dX λ_=>rfl;unfold Oper.wp;rw[h2 w];refine fin v v' m w (I.mem.still hi λr _=>by rw[hs1,iY]) (λ_ _ h=>h) (h1.mono afq) ?_;intro t ht;rw[hs1,wm hdst,if_pos ht]
 |mem v H' hw hr=>
  simp only[IA hsl hw,iq];left
  have Kw:∀t,ops[i].dst=some t->eO (S<|i+1) t=v:=by
   intro t ht;rw[hs1,wm hdst,if_pos ht]
  have zG:∀r,(S<|i+1).H.obj r=H'.obj r:=by intro r;rw[hs1,iY];rfl
  have hnx:nx S (i+1)=H'.next:=by show(S<|i+1).H.next=_;rw[hs1,iY]
  have afr:(S ops.size).H.low<=H'.low:=by
   have h1:=g.low (i+1) ops.size aa<|aj _;rw[hs1,iY]at h1;have h1:(S ops.size).H.low<=kV (S i).H.low H'.low:=h1;exact aW h1 (Bt _ _).2
  have SL:((C i).k=2\/((C i).k=1/\nx S i<=H'.low))->ops[i].wp P a w K Q:=by
   intro hk
   have abe:(C i).k=1\/(C i).k=2:=by
    rcases hk with h|h
    .exact .inr h
    .exact .inl h.1
   have rh:RH (m.upto<|nx S i) (dX<|S i).H w:=by
    refine⟨λr l h=>(Mp.lg h).1,?_,?_⟩
    .intro r l h;have hu:=Mp.lg h;obtain⟨o,ho⟩:=I.mem.UY r l hu.2;exact⟨o,ho,Rel.Xv λκ=>I.mem.cnt κ r l i o aa hu.2 (g.SG hD hi Ch kH abe hu.1) ho⟩
    .intro r r' l l' h h' hd hd' hc;have hu:=Mp.lg h;have hu':=Mp.lg h';exact I.mem.sep r r' l l' i i hu.2 hu'.2 hc aa aa (g.SG hD hi Ch kH abe hu.1) (g.SG hD hi Ch kH abe hu'.1) hd hd'
   refine Iy hcf (s:=dX<|S i) rh gli hr e.dX ?_;intro m2 v' w' h1 h2 h3
   obtain⟨m',f1,f2,f3⟩:=I.mem.made g hD hi Ch kH (A:=(dX<|S i).H) (A':=H') rfl hnx.symm h2 h3 (.inr afr) (λr _ _=>(zG r).symm)
    (by rcases abe with h|h<;>omega) (by
     rcases hk with h|h
     .exact .inl ⟨h,λr=>(zG r).symm,λr=>rfl⟩
     .exact .inr ⟨aa,h.2⟩)
   exact fin v v' m' w' f1 f2 (h1.mono f3) Kw
  rcases L6 (P:=P) (o:=ops[i].op) (s:=S i) (H':=H')with⟨p,ad,hs,ha,ec⟩|ec|⟨hlow,⟨hf,ec⟩|ec|⟨p,ad,l,hs,ha,hl,ec⟩⟩
  .
   have hc3:(C i).k=3:=by rw[hci,ec]
   have hsk:=EZ (g.step i _ hoi) hc3;obtain⟨t,x,y,a1,H1,hop,hw1,ha1,hcl,afs,ahG,hwr⟩:=hsk.ex
   have hv:v=undef/\H'=H1:=by
    rw[hop]at hr;have h:=jK (o:=wG P t (ev (dX<|S i) x) (ev (dX<|S i) y) (dX<|S i).H) hr;rw[xV,xV,afs]at h;cases h;exact⟨rfl,rfl⟩
   obtain⟨w',r1,r2⟩:=I.mem.stored g hD hi Ch kH hc3 ha1 hcl afs (by rw[ahG,iY]) hwr (e.all x (by rw[hop];simp[Op.operands]))<|e.all y (by rw[hop];simp[Op.operands])
   have hrun:(execOp a.eval ops[i]).run P w=.ok .skip w':=by
    simp only[execOp,hop,Sem.run_bind,r1,Result.andThen_ok,Sem.run_pure]
   unfold Oper.wp;rw[hrun];exact fin v undef m w' r2 (λ_ _ h=>h) (by rw[hv.1];exact .tuple [] [] .nil) Kw
  .exact SL<|.inl (by rw[hci,ec])
  .
   obtain⟨ob,e1,e2⟩:=XA (cf:=cf) (s:=dX<|S i) hf hr;have hA:=e2 ⟨.nil,nx S i,nx S i⟩ rfl
   have rh:RH (m.upto<|nx S i) ⟨.nil,nx S i,nx S i⟩ w:=by
    refine⟨λr l h=>(Mp.lg h).1,?_,?_⟩
    .intro r l h;obtain⟨o,ho⟩:=I.mem.UY r l (Mp.lg h).2;refine⟨o,ho,?_⟩;show qG _ _ ((Tr.nil:Tr iW).get .dead r) _;rw[Tr.get_nil];trivial
    .intro r r' l l' _ _ hd _ _;exact absurd (Tr.get_nil _ _) hd
   refine Iy hcf (s:=⟨(S i).nl,(S i).nt,(S i).reg,(S i).tm,(S i).df,⟨.nil,nx S i,nx S i⟩⟩) rh gli hA (XE e _) ?_;intro m2 v' w' h1 h2 h3;have V6:(C i).k=5:=by rw[hci,ec];rfl
   obtain⟨m',f1,f2,f3⟩:=I.mem.made g hD hi Ch kH (A:=⟨.nil,nx S i,nx S i⟩) (A':=(ag.mk .nil (nx S i)<|nx S i).new ob) rfl (by rw[hnx,e1];rfl) h2 h3 (.inl<|aj _) (by
    intro r a1 a2;rw[zG,e1,vP,vP]
    have:r=nx S i:=by
     rw[hnx,e1]at a2;have:r<nx S i+1:=a2;omega
    rw[if_pos this];exact(if_pos this).symm) aa (.inr ⟨aa,aj _⟩)
   exact fin v v' m' w' f1 f2 (h1.mono f3) Kw
  .exact SL<|.inr ⟨by rw[hci,ec];rfl,hlow⟩
  .
   have hc4:(C i).k=4:=by rw[hci,ec]
   have hop:=U0 hs;rw[hop]at hr;have hld:=jK (o:=r_ P p.1 (ev (dX<|S i) p.2) (dX<|S i).H) hr;rw[xV]at hld;have hx:=e.all p.2 (by rw[hop];simp[Op.operands]);have hx0:=hx;rw[kW ha]at hx0;obtain⟨l1,hm1,_,_,_⟩:=hx0.oO;have hu:=Mp.lg hm1;obtain⟨ob,QI⟩:=I.mem.UY _ _ hu.2;have hCr:(C i).r=ad.block:=by rw[hci,ec]
   have hCo:(C i).off=ad.off:=by rw[hci,ec]
   have hCn:(C i).n=l.getD 1:=by rw[hci,ec]
   obtain⟨v',h1,h2⟩:=QK (P:=P) (w:=w) (ob:=ob) hld hx ha hl hm1 QI (by
    intro k u q1 q2 q3;have hcon:=g.ahD hD hi Ch kH hc4 (k:=k) (by rw[hCo];exact q1) (by rw[hCo,hCn];exact q2) (by rw[hCr];exact hu.1);rw[hCr]at hcon;have hrel:=I.mem.cnt (some k) _ _ i ob aa hu.2 hcon QI;have hrel:Rel (some k) (m.upto<|nx S i) l1 (.cell<|jd ((S i).H.obj ad.block) k) ob:=hrel;replace q3:jd ((S i).H.obj ad.block) k=some u:=q3;rw[q3]at hrel
    by_cases hlk:l1.lo<=k
    .exact hrel hlk
    .exfalso;have:=hx;rw[kW ha]at this;obtain⟨l2,g1,g2,_⟩:=this.oO;rw[hm1]at g1;cases g1;omega)
   have hrun:(execOp a.eval ops[i]).run P w=.ok (.value v') w:=by
    simp only[execOp,hop,Sem.run_bind,h2,Result.andThen_ok,Sem.run_pure]
   unfold Oper.wp;rw[hrun];refine fin v v' m w (I.mem.still hi λr hr'=>g.same hi aa aa hr') (λ_ _ h=>h) (h1.mono afq) Kw
end rg
section rg
variable{P:Program}{cf:iO}{S:Nat->St}
def left(N:Nat)(listed:Array Bool):Nat:=((List.range N).filter λj=>!(listed.getD j false)).length
theorem filter_le(p q:Nat->Bool)(h:∀x,p x=true->q x=true):∀(l:List Nat),(l.filter p).length<=(l.filter q).length:=by
 intro l
 induction l with
 |nil=>exact aj _
 |cons y l ih=>
  simp only[List.filter_cons];cases hy:p y with
  |true=>rw[h y hy];simp only[iq,bH];omega
  |false=>
   simp only[bA,g_];split
   .simp only[bH];omega
   .exact ih
theorem filter_lt(p q:Nat->Bool)(h:∀x,p x=true->q x=true):∀(l:List Nat)(y:Nat),y∈l->q y=true->p y=false->(l.filter p).length<(l.filter q).length:=by
 intro l
 induction l with
 |nil=>intro y hy;cases hy
 |cons z l ih=>
  intro y hy hq hp;simp only[List.filter_cons];rcases bP.1 hy with e|hy
  .rw[<-e,hq,hp];have:=filter_le p q h l;simp only[iq,bA,g_,bH];omega
  .have:=ih y hy hq hp;cases hz:p z with
   |true=>rw[h z hz];simp only[iq,bH];omega
   |false=>
    simp only[bA,g_];split
    .simp only[bH];omega
    .exact this
theorem U3(h:left N listed=0):∀j,j<N->listed.getD j false=true:=by
 intro j hj;have:=dU h;have hm:=List.filter_eq_nil_iff.1 this j<|rV.2 hj;simpa using hm
theorem XF(hs:listed.size=N)(hi:i<N)(hl:listed.getD i false=false):left N (listed.setIfInBounds i true)<left N listed:=by
 refine filter_lt _ _ ?_ _ i (rV.2 hi) (by rw[hl];rfl) ?_
 .intro x hx;cases h:listed.getD x false with
  |false=>rfl
  |true=>rw[getD_set_true h]at hx;exact hx
 .have:(listed.setIfInBounds i true).getD i false=true:=by simp[hs,hi]
  rw[this];rfl
theorem QN(N:Nat):left N (Array.replicate N false)<=N:=by
 unfold left;have:=List.length_filter_le (λj=>!((Array.replicate N false).getD j false))<|List.range N;simpa using this
theorem any_ok(g:Rg P cf ops n nt S C)(hcf:DT P n cf)(gl0:Gl n m0)(Gs:∀r l,m0 r=some l->r<nx S 0)(HQ:∀D m a w,(∀j,j<ops.size->D j)->Inv ops nt S C m0 w0 d0 D m a w->Q .normal a w):
 ∀(fuel:Nat)(listed:Array Bool)(m:Mp)(a:Act)(w:World),listed.size=ops.size->left ops.size listed<=fuel->Closed ops (λj=>listed.getD j false=true)->
  Inv ops nt S C m0 w0 d0 (λj=>listed.getD j false=true) m a w->wpAny P .any ops Q fuel listed a w:=by
 have hall:∀(listed:Array Bool),listed.size=ops.size->Region.ready .any ops listed=[]->∀j,j<ops.size->listed.getD j false=true:=by
  intro listed hsz hr j
  induction j using Nat.strongRecOn with
  |_ j ih=>
   intro hj;cases hl:listed.getD j false with
   |true=>rfl
   |false=>
    have hoj:ops[j]?=some ops[j]:=aJ hj
    have hmem:j∈Region.ready .any ops listed:=by
     rw[mem_ready];refine⟨by simp[hsz,hj]at hl|-;exact hl,ops[j],hoj,λe he hb=>?_⟩;have hlt:=Ac ops.toList 0 j ops[j] g.back (by rw[bT];exact hoj) e (by simpa using he) hb;exact ih e.on aa aa
    rw[hr]at hmem;cases hmem
 intro fuel
 induction fuel with
 |zero=>
  intro listed m a w hsz hle hD I;have h1:=U3<|Nat.le_zero.1 hle;refine⟨?_,HQ _ m a w h1 I⟩;cases hr:Region.ready .any ops listed with
  |nil=>rfl
  |cons j l=>
   exfalso;have hj:j∈Region.ready .any ops listed:=by rw[hr];exact aD ..
   rw[mem_ready]at hj;obtain⟨h2,o,ho,_⟩:=hj;have hjs:j<ops.size:=(cr.1 ho).1;have:=h1 j hjs;simp[hsz,hjs]at h2 this;rw[h2]at this;cases this
 |succ fuel ih=>
  intro listed m a w hsz hle hD I;refine⟨λhr=>HQ _ m a w (hall listed hsz hr) I,λi hi=>?_⟩;rw[mem_ready]at hi;obtain⟨h2,o,ho,h3⟩:=hi;have his:i<ops.size:=(cr.1 ho).1
  have hoo:ops[i]=o:=by
   have:=aJ his;rw[ho]at this;injection this with this;exact this.symm
  subst hoo;have hun:listed.getD i false=false:=by simp[hsz,his]at h2|-;exact h2
  have hset:∀j,((listed.setIfInBounds i true).getD j false=true)<->DW (λj=>listed.getD j false=true) i j:=by
   intro j
   by_cases e:i=j
   .subst e;exact⟨λ_=>.inr rfl,λ_=>by simp[hsz,his]⟩
   .rw[getD_set_ne false e];exact⟨.inl,λh=>h.resolve_right<|nX e⟩
  refine Inv.step g hcf gl0 Gs hD I his (by rw[hun];simp) (λe he hb=>h3 e (by simpa using he) hb) ?_;intro m' a' w' I'
  have hfun:(λj=>(listed.setIfInBounds i true).getD j false=true)=DW (λj=>listed.getD j false=true) i:=by
   funext j;exact propext<|hset j
  refine ih (listed.setIfInBounds i true) m' a' w' (by simpa using hsz) ?_ ?_ (by rw[hfun];exact I')
  .have:=XF (N:=ops.size) hsz his hun;omega
  .intro j o hj JB e he hb;rcases(hset j).1 JB with h|h
   .exact getD_set_true<|hD j o hj h e he hb
   .subst h;rw[ho]at hj;cases hj;exact getD_set_true<|h3 e (by simpa using he) hb
end rg
section mem
variable{P:Program}
theorem abf(hmo:P.follows .mixedOrders=true){cf:iO}(hcf:DT P n cf)(nt:Nat):LW P cf n nt:=by
 intro id ops s m a w Q hall hpl hnt rh f gl hpost;replace hpost:Post m s.H w a.defers nt s.df Q (aU (iC ops&&lI ops) (qX ops<|fT P cf ops ops.toList (clear s) []) .fail):=hpost;cases hst:lI ops with
 |false=>rw[hpl,hst]at hpost;exact hpost.elim
 |true=>
  rw[hpl,hst]at hpost;replace hpost:Post m s.H w a.defers nt s.df Q (qX ops<|fT P cf ops ops.toList (clear s) []):=hpost;cases hr:fT P cf ops ops.toList (clear s) []with
  |none=>rw[hr]at hpost;exact hpost.elim
  |some q=>
   obtain⟨s1,cls⟩:=q;rw[hr]at hpost;replace hpost:Post m s.H w a.defers nt s.df Q (aU (gQ ops cls) (.norm s1) .fail):=hpost;cases hdy:gQ ops cls with
   |false=>rw[hdy]at hpost;exact hpost.elim
   |true=>
    rw[hdy]at hpost;replace hpost:To m s.H w a.defers nt s.df s1 (Q .normal):=hpost;rw[all_eq,bU]at hall;obtain⟨S,C,e0,eN,e3,e4,_,e6⟩:=trace hcf (ops:=ops) (nt:=nt) ops.toList (clear s) s1 [] cls m a w hall hnt rh f.clear gl hr;simp only[kT]at eN e3 e4;have hto:∀(j:Nat)(o:Oper),ops[j]?=some o->ops.toList[j]?=some o:=λj o h=>by rw[bT];exact h
    have hsp:=UX hst
    have hk5:∀j,j<ops.size->(C j).k<=5:=by
     intro j hj;have hs:=(e6 j _<|hto j _<|aJ hj).1;generalize S (j+1)=s2 at hs;generalize C j=c at hs;cases hs with
     |skip hw=>exact aM _
     |zF v hw hr=>exact aM _
     |mem v H' hw hr=>exact Xq
    have g:Rg P cf ops n nt S C:=by
     refine⟨λj o h=>(e6 j o<|hto j o h).1,λj o h=>(e6 j o<|hto j o h).2.1,λj o h=>(e6 j o<|hto j o h).2.2,?_,hsp.1,hsp.2,?_⟩
     .intro j o h;exact hall o<|aA<|hto j o h
     .exact Xr hdy (by simpa using e3) e4 hk5
    have U4:nx S 0=s.H.next:=by show(S 0).H.next=_;rw[e0];rfl
    have NY:∀r,(S 0).H.obj r=s.H.obj r:=by intro r;rw[e0];rfl
    have Gs:∀r l,m r=some l->r<nx S 0:=λr l h=>by rw[U4];exact rh.dom r l h
    have hup:∀k,k<=ops.size->Mp.le m (m.upto<|nx S k):=λk hk r l h=>Mp.DU h<|aH (Gs r l h)<|g.mono 0 k aa hk
    have ahH:∀j,j<=ops.size->(S j).df=s.df:=by
     intro j
     induction j with
     |zero=>intro _;rw[e0];rfl
     |succ j ih=>
      intro hj;have hs:=g.step j _<|aJ hj;rw[<-ih aa];generalize S (j+1)=s2 at hs;generalize C j=c at hs;cases hs with
      |skip hw=>rw[Br]
      |zF v hw hr=>rw[Br]
      |mem v H' hw hr=>rw[Br]
    have aft:(S ops.size).nt=nt:=by
     cases hz:ops.size with
     |zero=>rw[e0];exact hnt
     |succ k=>
      have hj:k<ops.size:=by omega
      have hoj:=aJ hj;have hs:=g.step k _ hoj;rw[<-g.nts k _ hoj];generalize S (k+1)=s2 at hs;generalize C k=c at hs;cases hs with
      |skip hw=>rw[vR]
      |zF v hw hr=>rw[vR]
      |mem v H' hw hr=>rw[vR]
    have hfalse:∀j,((Array.replicate ops.size false).getD j false=true)<->False:=by
     intro j;simp only[dM,Array.getElem?_replicate,iff_false];split<;>simp
    have Kv:∀κ r k,k<=ops.size->Cg S ops.size (λj=>(Array.replicate ops.size false).getD j false=true) κ r k->r<nx S 0->at' S κ r 0=at' S κ r k:=by
     intro κ r k hk hcon hr;refine Cg.eq g.mono aa hk ⟨hr,λj _ _ _=>?_⟩ hcon;rw[hfalse];exact⟨λh=>h.elim,λh=>by omega⟩
    have hI:Inv ops nt S C m w.drew a.defers (λj=>(Array.replicate ops.size false).getD j false=true) m a w.drew:=by
     refine⟨⟨?_,?_,?_,?_,?_,?_,λ_ _ h=>h,?_,rfl,rfl,rfl,aj _,λ_ _ _=>rfl⟩,by rw[f.size];exact hnt,?_,rfl⟩
     .exactλr l h=>.inl ⟨h,Gs r l h⟩
     .intro r l h;obtain⟨o,ho,_⟩:=rh.ok r l h;exact⟨o,ho⟩
     .intro κ r l k o hk hm hcon ho;obtain⟨o',ho',hok⟩:=rh.ok r l hm
      have:o'=o:=by
       have h1:w.heap[l.c]?=some o:=ho;rw[ho']at h1;injection h1
      subst this;rw[<-NY]at hok;have hrel:Rel κ m l (at' S κ r 0) o':=Rel.mR hok;rw[Kv κ r k hk hcon (Gs r l hm)]at hrel;exact hrel.mono<|hup k hk
     .intro r r' l l' k k' h1 h2 h3 h4 h5 h6 h7 h8 h9;refine rh.sep r r' l l' h1 h2 ?_ ?_ h3
      .rw[<-NY];exact yK (Kv none r k h4 h6<|Gs r l h1).symm h8
      .rw[<-NY];exact yK (Kv none r' k' h5 h7<|Gs r' l' h2).symm h9
     .intro r r' l l' j h1 h2 _ hj _ _;have hm:=g.mono 0 j aa aa;exact⟨λ_=>aH (Gs r' l' h2) hm,λ_=>aH (Gs r l h1) hm⟩
     .intro j r _ JB;exact((hfalse j).1 JB).elim
     .intro r l h h0;rw[h]at h0;cases h0
     .intro t k hk hcon
      have hsame:∀d,d<=k->eO (S d) t=eO (S 0) t:=by
       intro d
       induction d with
       |zero=>intro _;rfl
       |succ d ih=>
        intro hd;have hj:d<ops.size:=by omega
        have hoj:ops[d]?=some ops[d]:=aJ hj;rw[g.look hoj t ?_,ih aa];intro e;exact(hfalse d).1<|(hcon d _ hoj e).2 aa
      rw[hsame k (aj _),e0];exact(f.clear.slot t).mono<|hup k hk
    refine wp_region_any hmo ?_;refine any_ok g hcf gl Gs ?_ ops.size (Array.replicate ops.size false) m a w.drew (by simp) (QN _) (λj o _ h=>((hfalse j).1 h).elim) hI;intro D m' a' w' hD I;have XG:∀κ r,r<nx S ops.size->Cg S ops.size D κ r ops.size:=λκ r hr=>⟨hr,λj hj _ _=>⟨λ_=>hj,λ_=>hD j hj⟩⟩
    have SN:∀r l,m' r=some l->r<nx S ops.size:=by
     intro r l h;rcases I.mem.dom r l h with⟨_,h1⟩|⟨j,hj,_,_,h1⟩
     .exact aH h1<|g.mono 0 _ aa<|aj _
     .exact aH h1<|g.mono _ _ aa<|aj _
    have hnone:∀r,r<nx S 0->m r=none->m' r=none:=by
     intro r hr h;cases h1:m' r with
     |none=>rfl
     |some l=>
      rcases I.mem.dom r l h1 with⟨h2,_⟩|⟨j,hj,_,h2,_⟩
      .rw[h]at h2;cases h2
      .have:=g.mono 0 j aa aa;omega
    refine hpost m' a' w' ⟨⟨?_,?_⟩,⟨?_,?_,?_⟩,?_,I.de,?_,?_⟩
    .rw[<-eN,aft];exact I.size
    .intro t;rw[<-eN];refine(I.slot t ops.size (aj _) ?_).mono<|Mp.SA _ _;intro j o hj _;have:j<ops.size:=(cr.1 hj).1;exact⟨λ_=>this,λ_=>hD j this⟩
    .intro r l h;rw[<-eN];exact SN r l h
    .intro r l h;obtain⟨o,ho⟩:=I.mem.UY r l h;rw[<-eN];exact⟨o,ho,(Rel.Xv λκ=>I.mem.cnt κ r l ops.size o (aj _) h (XG κ r<|SN r l h) ho).mono<|Mp.SA _ _⟩
    .intro r r' l l' h h' hd hd' hc;rw[<-eN]at hd hd';exact I.mem.sep r r' l l' _ _ h h' hc (aj _) (aj _) (XG none r<|SN r l h) (XG none r'<|SN r' l' h') hd hd'
    .have hex:Ex m m' s.H s1.H w.drew w':=by
      rw[<-eN];refine⟨I.mem.le,?_,?_,I.mem.os,I.mem.tape,I.mem.output,I.mem.size,I.mem.keep,?_,?_,?_,?_⟩
      .intro r l h h0;rcases I.mem.dom r l h with⟨h2,_⟩|⟨j,hj,_,h2,_⟩
       .rw[h0]at h2;cases h2
       .rw[<-U4];exact aW (g.mono 0 j aa aa) h2
      .exact I.mem.fresh
      .rw[<-U4];exact g.mono 0 _ aa<|aj _
      .have:=g.low 0 ops.size aa (aj _);rw[e0]at this;exact this
      .intro r h1 h2
       have:∀d,d<=ops.size->(S d).H.obj r=s.H.obj r:=by
        intro d
        induction d with
        |zero=>intro _;exact NY r
        |succ d ih=>
         intro hd;rw[g.aba (j:=d) aa (aH (by rw[U4];exact h1)<|g.mono 0 d aa aa) h2,ih aa]
       exact this ops.size<|aj _
      .intro r h1 h2;have hmn:=hnone r (by rw[U4];exact h1) h2
       have:∀d,d<=ops.size->(S d).H.obj r=s.H.obj r:=by
        intro d
        induction d with
        |zero=>intro _;exact NY r
        |succ d ih=>
         intro hd;rw[I.mem.hid d r aa (hD d aa) (aH (by rw[U4];exact h1)<|g.mono 0 d aa aa) hmn,ih aa]
       exact this ops.size<|aj _
     exact(Ex.drew m s.H w).trans hex
    .rw[<-eN];exact aft
    .rw[<-eN];exact ahH _<|aj _
theorem levels(hmo:P.follows .mixedOrders=true){X:Xt}(hP:xU P n)(hX:V5 P X)(hO:EX P X n)(k:Nat):LY P n (h_ P X k):=
 (Xm hP hX hO (λ_ hcf nt=>abf hmo hcf nt) k).2.2
end mem
section mem
variable{P:Program}
theorem xU.L9(h:all' (Xl n) P.funcs.toList=true):xU P n:=by
 intro g fn hg;rw[all_eq,bU]at h;exact h fn<|aA (by rw[bT];exact hg)
end mem
def IB(cf xh:iO):Prop:=∀g args H r,cf g args H=some r->xh g args H=some r
def XH(cx Nk:Code->St->Out):Prop:=∀c s,cx c s≠.fail->Nk c s=cx c s
section mem
variable{P:Program}
theorem acr{o:Option (Value×ag)}(h:rm o≠.fail):∃r,o=some r:=by
 cases o with
 |none=>exact absurd rfl h
 |some r=>exact⟨r,rfl⟩
theorem NZ{cf:iO}(h:IB cf xh){o:Op}(hne:vN o P cf s≠.fail):vN o P xh s=vN o P cf s:=by
 cases o with
 |call c=>
  replace hne:tJ c P cf s≠.fail:=hne;show tJ c P xh s=tJ c P cf s;obtain⟨callee,args,ats⟩:=c;cases callee with
  |builtin b=>rfl
  |value f=>
   obtain⟨r,hr⟩:=acr (o:=ax (jY (.value f) P s) λq=>cf q.1 (app q.2.1<|app (mp (ev s) args.toList) q.2.2) s.H) hne;show rm (ax (jY (.value f) P s) λq=>xh q.1 (app q.2.1<|app (mp (ev s) args.toList) q.2.2) s.H)=rm (ax (jY (.value f) P s) λq=>cf q.1 (app q.2.1<|app (mp (ev s) args.toList) q.2.2) s.H);rw[hr];obtain⟨q,h1,h2⟩:=ak hr;rw[h1];show rm (xh _ _ _)=_;rw[h _ _ _ _ h2]
  |invoke f nm=>
   obtain⟨r,hr⟩:=acr (o:=ax (jY (.invoke f nm) P s) λq=>cf q.1 (app q.2.1<|app (mp (ev s) args.toList) q.2.2) s.H) hne;show rm (ax (jY (.invoke f nm) P s) λq=>xh q.1 (app q.2.1<|app (mp (ev s) args.toList) q.2.2) s.H)=rm (ax (jY (.invoke f nm) P s) λq=>cf q.1 (app q.2.1<|app (mp (ev s) args.toList) q.2.2) s.H);rw[hr];obtain⟨q,h1,h2⟩:=ak hr;rw[h1];show rm (xh _ _ _)=_;rw[h _ _ _ _ h2]
 |_=>rfl
theorem U5{cf:iO}(h:IB cf xh)(hs:xg P cf o s=some s1):xg P xh o s=some s1:=by
 unfold xg at hs|-;cases hd:nI o.op with
 |some c=>rw[hd]at hs;exact hs
 |none=>
  rw[hd]at hs;replace hs:CE o s (vN o.op P cf s)=some s1:=hs;show CE o s (vN o.op P xh s)=some s1;rw[NZ h (by intro e;rw[e]at hs;cases hs)];exact hs
theorem FI{cf:iO}(h:IB cf xh)(hs:jy P cf ops o s=some s1):jy P xh ops o s=some s1:=by
 obtain⟨b,hb,h2⟩:=ak hs;unfold jy;rw[hb];cases b with
 |true=>exact U5 h h2
 |false=>exact h2
theorem FJ{cf:iO}(h:IB cf xh):∀{l:List Oper}{s s1:St},jJ P cf ops l s=some s1->jJ P xh ops l s=some s1:=by
 intro l
 induction l with
 |nil=>intro s s1 hs;exact hs
 |cons o l ih=>
  intro s s1 hs;replace hs:(ax (jy P cf ops o s) λs=>jJ P cf ops l s)=some s1:=hs;obtain⟨s2,h1,h2⟩:=ak hs;show(ax (jy P xh ops o s) λs=>jJ P xh ops l s)=some s1;rw[FI h h1];exact ih h2
theorem DX{cf:iO}(h:IB cf xh){r:St×Cl}(hs:iT P cf ops o s=some r):iT P xh ops o s=some r:=by
 obtain⟨b,hb,h2⟩:=ak hs;unfold iT;rw[hb];cases b with
 |true=>
  replace h2:Fx P o s (vN o.op P cf<|dX s)=some r:=h2;show Fx P o s (vN o.op P xh<|dX s)=some r;rw[NZ h (by intro e;rw[e]at h2;cases h2)];exact h2
 |false=>exact h2
theorem DY{cf:iO}(h:IB cf xh):∀{l:List Oper}{s:St}{acc:List Cl}{r:St×List Cl},fT P cf ops l s acc=some r->fT P xh ops l s acc=some r:=by
 intro l
 induction l with
 |nil=>intro s acc r hs;exact hs
 |cons o l ih=>
  intro s acc r hs;replace hs:(ax (iT P cf ops o s) λq=>fT P cf ops l q.1<|q.2::acc)=some r:=hs;obtain⟨s2,h1,h2⟩:=ak hs;show(ax (iT P xh ops o s) λq=>fT P xh ops l q.1<|q.2::acc)=some r;rw[DX h h1];exact ih h2
theorem N5{cf:iO}(h:IB cf xh){d:Bool}(hne:region P cf ops d s≠.fail):region P xh ops d s=region P cf ops d s:=by
 cases d with
 |false=>
  replace hne:Fz (jJ P cf ops ops.toList<|clear s)≠.fail:=hne;show Fz (jJ P xh ops ops.toList<|clear s)=Fz (jJ P cf ops ops.toList<|clear s);cases hr:jJ P cf ops ops.toList (clear s)with
  |none=>rw[hr]at hne;exact absurd rfl hne
  |some s1=>rw[FJ h hr]
 |true=>
  replace hne:aU (iC ops&&lI ops) (qX ops<|fT P cf ops ops.toList (clear s) []) .fail≠.fail:=hne;show aU (iC ops&&lI ops) (qX ops<|fT P xh ops ops.toList (clear s) []) .fail=aU (iC ops&&lI ops) (qX ops<|fT P cf ops ops.toList (clear s) []) .fail;cases hb:(iC ops&&lI ops)with
  |false=>rfl
  |true=>
   rw[hb]at hne;replace hne:qX ops (fT P cf ops ops.toList (clear s) [])≠.fail:=hne;show qX ops (fT P xh ops ops.toList (clear s) [])=qX ops (fT P cf ops ops.toList (clear s) []);cases hr:fT P cf ops ops.toList (clear s) []with
   |none=>rw[hr]at hne;exact absurd rfl hne
   |some r=>rw[DY h hr]
theorem DZ{o o':Out}{k k':St->Out}(ho:o≠.fail->o'=o)(hk:∀s,k s≠.fail->k' s=k s)(hne:andThen o k≠.fail):andThen o' k'=andThen o k:=by
 cases o with
 |fail=>exact absurd rfl hne
 |norm s=>rw[ho (by simp)];exact hk s hne
 |exit i s=>rw[ho (by simp)];rfl
 |goto l s=>rw[ho (by simp)];rfl
 |ret s=>rw[ho (by simp)];rfl
theorem IC{f f':St->Out}(hf:∀s,f s≠.fail->f' s=f s):∀(n n':Nat),n<=n'->∀s,uU n f s≠.fail->uU n' f' s=uU n f s:=by
 intro n
 induction n with
 |zero=>intro n' _ s h;exact absurd rfl h
 |succ n ih=>
  intro n' hn s h;cases n' with
  |zero=>omega
  |succ n'=>
   show andThen (f' s) (uU n' f')=andThen (f s) (uU n f);exact DZ (hf s) (λs' h'=>ih n' aa s' h') h
theorem Ad(hx:XH cx Nk)(body:Code):∀(n n':Nat),n<=n'->∀o,jZ cx n body o≠.fail->jZ Nk n' body o=jZ cx n body o:=by
 intro n
 induction n with
 |zero=>intro n' _ o h;exact absurd rfl h
 |succ n ih=>
  intro n' hn o h;cases n' with
  |zero=>omega
  |succ n'=>
   cases o with
   |goto l s=>
    replace h:(@Option.rec Code (λ_=>Out) (.goto l s) (λrest=>jZ cx n body<|cx rest s) (findLabel body l):Out)≠.fail:=h;show(@Option.rec Code (λ_=>Out) (.goto l s) (λrest=>jZ Nk n' body<|Nk rest s) (findLabel body l):Out)=(@Option.rec Code (λ_=>Out) (.goto l s) (λrest=>jZ cx n body<|cx rest s) (findLabel body l):Out);cases hf:findLabel body l with
    |none=>rfl
    |some rest=>
     rw[hf]at h;replace h:jZ cx n body (cx rest s)≠.fail:=h;show jZ Nk n' body (Nk rest s)=jZ cx n body (cx rest s)
     have hne:cx rest s≠.fail:=by
      intro e;rw[e]at h;cases n with
      |zero=>exact h rfl
      |succ n=>exact h rfl
     rw[hx rest s hne];exact ih n' aa _ h
   |_=>rfl
theorem E6{cf:iO}(h:IB cf xh)(hx:XH cx Nk)(hn:n<=n'):∀(c:Code)(s:St),exec P cf cx n c s≠.fail->exec P xh Nk n' c s=exec P cf cx n c s:=by
 intro c
 induction c with
 |region id ops d=>intro s hne;exact N5 h hne
 |seq a b iha ihb=>
  intro s hne;exact DZ (o:=exec P cf cx n a s) (o':=exec P xh Nk n' a s) (k:=exec P cf cx n b) (k':=exec P xh Nk n' b) (iha s) ihb hne
 |cond c a b iha ihb=>
  intro s hne;replace hne:Fy (gF<|ev s c) (exec P cf cx n a s) (exec P cf cx n b s)≠.fail:=hne;show Fy (gF<|ev s c) (exec P xh Nk n' a s) (exec P xh Nk n' b s)=Fy (gF<|ev s c) (exec P cf cx n a s) (exec P cf cx n b s);cases hb:gF (ev s c)with
  |none=>rfl
  |some b'=>
   rw[hb]at hne;cases b' with
   |true=>exact iha s hne
   |false=>exact ihb s hne
 |block id a ih=>
  intro s hne;replace hne:uj id (exec P cf cx n a s)≠.fail:=hne;show uj id (exec P xh Nk n' a s)=uj id (exec P cf cx n a s);rw[ih s (by intro e;rw[e]at hne;exact hne rfl)]
 |loop a ih=>intro s hne;exact IC ih n n' hn s hne
 |scope a ih=>
  intro s hne;replace hne:jZ cx n a (exec P cf cx n a s)≠.fail:=hne;show jZ Nk n' a (exec P xh Nk n' a s)=jZ cx n a (exec P cf cx n a s)
  have hne2:exec P cf cx n a s≠.fail:=by
   intro e;rw[e]at hne;cases n with
   |zero=>exact hne rfl
   |succ n=>exact hne rfl
  rw[ih s hne2];exact Ad hx a n n' hn _ hne
 |_=>intro s _;rfl
theorem N6{X:Xt}{L L':Lv}(h:IB L.ca L'.ca)(hx:XH L.cx L'.cx)(hn:n<=n'):IB (yE P X L n) (yE P X L' n'):=by
 intro g args H r hr;cases hor:X.o g args H with
 |some q=>rw[Aa hor]at hr|-;exact hr
 |none=>
 rw[uW hor]at hr|-;obtain⟨fn,h1,h2⟩:=ak hr;rw[h1];show Um P L' n' g (X g) fn args H=some r;unfold Um at h2|-;cases hb:fn.body with
 |none=>rw[hb]at h2;exact h2
 |some c=>
  rw[hb]at h2;obtain⟨h3,h4⟩:=dh (b:=Nat.ble (len args) fn.ntmps) h2;obtain⟨s,h5,h6⟩:=ak h4;show gd (Nat.ble (len args) fn.ntmps) (ax (Lg<|exec P L'.ca L'.cx n' c ⟨gW P g,fn.ntmps,[],Tr.pU top args 0 .nil,[],H⟩) λs=>FB P fn s)=some r;rw[h3,E6 h hx hn c _ (by intro e;rw[e]at h5;cases h5),h5];exact h6
theorem vT{X:Xt}:∀(n n':Nat),n<=n'->IB (lv P X n).ca (lv P X n').ca/\XH (lv P X n).cx (lv P X n').cx:=by
 intro n
 induction n with
 |zero=>intro n' _;exact⟨(λg args H r h=>by cases h),(λc s h=>absurd rfl h)⟩
 |succ n ih=>
  intro n' hn;cases n' with
  |zero=>omega
  |succ n'=>
   obtain⟨h1,h2⟩:=ih n' aa;exact⟨N6 h1 h2 aa,λc s h=>E6 h1 h2 aa c s h⟩
def Ca(P:Program)(X:Xt)(g:FuncId)(args:List Value)(H:ag)(v:Value)(H':ag):Prop:=∃k,h_ P X k g args H=some (v,H')
def D3(P:Program)(X:Xt)(k:Nat)(c:Code)(s:St):Out:=exec P (lv P X k).ca (lv P X k).cx k c s
def Ev(P:Program)(X:Xt)(c:Code)(s:St)(o:Out):Prop:=o≠.fail/\∃k,D3 P X k c s=o
def Ro(P:Program)(X:Xt)(ops:Array Oper)(l:List Oper)(s s':St):Prop:=∃k,jJ P (h_ P X k) ops l s=some s'
def RoD(P:Program)(X:Xt)(ops:Array Oper)(l:List Oper)(s:St)(acc:List Cl)(r:St×List Cl):Prop:=∃k,fT P (h_ P X k) ops l s acc=some r
variable{X:Xt}
theorem Ca.le(h:h_ P X k g args H=some (v,H'))(hk:k<=k'):h_ P X k' g args H=some (v,H'):=(vT k k' hk).1 _ _ _ _ h
theorem yM{o:Out}(h:D3 P X k c s=o)(ho:o≠.fail)(hk:k<=k'):D3 P X k' c s=o:=by
 rw[<-h];exact E6 (vT k k' hk).1 (vT k k' hk).2 hk c s (by show D3 P X k c s≠_;rw[h];exact ho)
section rules
variable{o:Out}{a b:Code}
theorem Ev.skip:Ev P X .skip s (.norm s):=⟨by simp,0,rfl⟩
theorem Ev.label{l:Nat}:Ev P X (.label l) s (.norm s):=⟨by simp,0,rfl⟩
theorem Ev.exit:Ev P X (.exit i) s (.exit i s):=⟨by simp,0,rfl⟩
theorem Ev.ret:Ev P X .ret s (.ret s):=⟨by simp,0,rfl⟩
theorem Ev.seq(h1:Ev P X a s<|.norm s1)(h2:Ev P X b s1 o):Ev P X (.seq a b) s o:=by
 obtain⟨n1,k1,h1⟩:=h1;obtain⟨n2,k2,h2⟩:=h2;refine⟨n2,max k1 k2,?_⟩;show andThen (D3 P X (max k1 k2) a s) (D3 P X (max k1 k2) b)=o;rw[yM h1 n1 (jS _ _)];exact yM h2 n2<|gZ _ _
theorem Ev.abg(h1:Ev P X a s<|.ret s1):Ev P X (.seq a b) s (.ret s1):=by
 obtain⟨n1,k1,h1⟩:=h1;refine⟨n1,k1,?_⟩;show andThen (D3 P X k1 a s) (D3 P X k1 b)=_;rw[h1];rfl
theorem Ev.XI(h1:Ev P X a s<|.exit i s1):Ev P X (.seq a b) s (.exit i s1):=by
 obtain⟨n1,k1,h1⟩:=h1;refine⟨n1,k1,?_⟩;show andThen (D3 P X k1 a s) (D3 P X k1 b)=_;rw[h1];rfl
theorem Ev.cond{x:Operand}{t:Bool}(hx:gF (ev s x)=some t)(h:Ev P X (if t then a else b) s o):Ev P X (.cond x a b) s o:=by
 obtain⟨n1,k1,h1⟩:=h;refine⟨n1,k1,?_⟩;show Fy (gF<|ev s x) (D3 P X k1 a s) (D3 P X k1 b s)=o;rw[hx];cases t with
 |true=>exact h1
 |false=>exact h1
theorem Ev.block(h:Ev P X a s<|.norm s1):Ev P X (.block i a) s (.norm s1):=by
 obtain⟨n1,k1,h1⟩:=h;refine⟨n1,k1,?_⟩;show uj i (D3 P X k1 a s)=_;rw[h1];rfl
theorem Ev.abh(h1:Ev P X a s<|.norm s1)(h2:Ev P X (.loop a) s1 o):Ev P X (.loop a) s o:=by
 obtain⟨n1,k1,h1⟩:=h1;obtain⟨n2,k2,h2⟩:=h2;refine⟨n2,max k1 k2+1,?_⟩;show andThen (D3 P X (max k1 k2+1) a s) (uU (max k1 k2)<|D3 P X (max k1 k2+1) a)=o;rw[yM h1 n1 (aW (jS _ _)<|jv _)];show uU (max k1 k2) (D3 P X (max k1 k2+1) a) s1=o;replace h2:uU k2 (D3 P X k2 a) s1=o:=h2;rw[<-h2];refine IC ?_ k2 _ (gZ _ _) s1 (by rw[h2];exact n2);intro s2 hne;exact yM rfl hne<|aW (gZ _ _)<|jv _
theorem Ev.XJ(h:Ev P X a s<|.exit i s1):Ev P X (.loop a) s (.exit i s1):=by
 obtain⟨n1,k1,h1⟩:=h;refine⟨n1,k1+1,?_⟩;show andThen (D3 P X (k1+1) a s) _=_;rw[yM h1 n1 (jv _)];rfl
theorem Ev.XK(h:Ev P X a s<|.ret s1):Ev P X (.loop a) s (.ret s1):=by
 obtain⟨n1,k1,h1⟩:=h;refine⟨n1,k1+1,?_⟩;show andThen (D3 P X (k1+1) a s) _=_;rw[yM h1 n1 (jv _)];rfl
theorem Ev.region{id:Nat}(h:Ro P X ops ops.toList (clear s) s1):Ev P X (.region id ops false) s (.norm s1):=by
 obtain⟨k,h⟩:=h;refine⟨by simp,k,?_⟩;show Fz (jJ P (h_ P X k) ops ops.toList<|clear s)=_;rw[h];rfl
theorem Ev.N7{id:Nat}(hp:(iC ops&&lI ops)=true)(h:RoD P X ops ops.toList (clear s) [] (s1,cls))(hd:gQ ops cls=true):Ev P X (.region id ops true) s (.norm s1):=by
 obtain⟨k,h⟩:=h;refine⟨by simp,k,?_⟩;show aU (iC ops&&lI ops) (qX ops<|fT P (h_ P X k) ops ops.toList (clear s) []) .fail=_;rw[hp];show qX ops (fT P (h_ P X k) ops ops.toList (clear s) [])=_;rw[h];show aU (gQ ops cls) (Out.norm s1) Out.fail=_;rw[hd];rfl
theorem Ro.nil:Ro P X ops [] s s:=⟨0,rfl⟩
def So(P:Program)(X:Xt)(ops:Array Oper)(p:Oper)(s s':St):Prop:=∃k,jy P (h_ P X k) ops p s=some s'
theorem Ro.cons{l:List Oper}(h1:So P X ops p s s1)(h2:Ro P X ops l s1 s2):Ro P X ops (p::l) s s2:=by
 obtain⟨k1,h1⟩:=h1;obtain⟨k2,h2⟩:=h2;refine⟨max k1 k2,?_⟩;show(ax (jy P (h_ P X<|max k1 k2) ops p s) λs=>jJ P (h_ P X<|max k1 k2) ops l s)=_;rw[show jy P (h_ P X<|max k1 k2) ops p s=some s1 from FI (vT k1 _<|jS k1 k2).1 h1];exact FJ (vT k2 _<|gZ k1 k2).1 h2
theorem So.zF(hw:mX ops s p.guard=some true)(hd:nI p.op=none)(h:∀cf,vN p.op P cf s=.zF v):So P X ops p s (fU s p.dst v s.H):=by
 refine⟨0,?_⟩;unfold jy;rw[hw];show xg P _ p s=_;unfold xg;rw[hd];show CE p s (vN p.op P _ s)=_;rw[h];rfl
theorem So.mem(hw:mX ops s p.guard=some true)(hd:nI p.op=none)(h:∀cf,vN p.op P cf s=.mem v H'):So P X ops p s (fU s p.dst v H'):=by
 refine⟨0,?_⟩;unfold jy;rw[hw];show xg P _ p s=_;unfold xg;rw[hd];show CE p s (vN p.op P _ s)=_;rw[h];rfl
theorem So.skip(hw:mX ops s p.guard=some false):So P X ops p s (fU s p.dst undef s.H):=by
 refine⟨0,?_⟩;unfold jy;rw[hw];rfl
theorem So.call{q:Call}{pre:List Value}(hw:mX ops s p.guard=some true)(hop:p.op=.call q)(hb:isBuiltin q.callee=none)(hc:jY q.callee P s=some (g,pre,post))(h:Ca P X g (app pre<|app (mp (ev s) q.args.toList) post) s.H v H'):So P X ops p s (fU s p.dst v H'):=by
 obtain⟨k,h⟩:=h;refine⟨k,?_⟩;unfold jy;rw[hw];show xg P _ p s=_;unfold xg;rw[show nI p.op=none from by rw[hop];rfl];show CE p s (vN p.op P (h_ P X k) s)=_
 have:vN p.op P (h_ P X k) s=.mem v H':=by
  rw[hop];show tJ q P (h_ P X k) s=_;unfold tJ;rw[hb];show rm (ax (jY q.callee P s) λz=>h_ P X k z.1 (app z.2.1<|app (mp (ev s) q.args.toList) z.2.2) s.H)=_;rw[hc];show rm (h_ P X k g (app pre<|app (mp (ev s) q.args.toList) post) s.H)=_;rw[h];rfl
 rw[this];rfl
theorem Ca.body(hor:X.o g args H=none)(hg:nth P.funcs.toList g=some fn)(hb:fn.body=some c)(hl:Nat.ble (len args) fn.ntmps=true)(h:Ev P X c ⟨gW P g,fn.ntmps,[],Tr.pU top args 0 .nil,[],H⟩ o)(ho:Lg o=some s1)(hdf:Nat.beq (len s1.df) 0=true)(hr:iX P s1 fn.results.toList=some vs):Ca P X g args H (oN vs) s1.H:=by
 obtain⟨n1,k,h⟩:=h;refine⟨k+1,?_⟩;show yE P X (lv P X k) k g args H=_;rw[uW hor,hg];show Um P (lv P X k) k g (X g) fn args H=_;unfold Um;rw[hb];show gd (Nat.ble (len args) fn.ntmps) (ax (Lg<|D3 P X k c ⟨gW P g,fn.ntmps,[],Tr.pU top args 0 .nil,[],H⟩) λs=>FB P fn s)=_;rw[hl,h,ho];show FB P fn s1=_;unfold FB;rw[hdf,hr];rfl
end rules
end mem
def QO(P:Program)(g:FuncId)(c:Nat):Prop:=∀(fn:Func)(args:List Value)(v:Value)(H H':ag),P.funcs[g]?=some fn->Uk P c fn.resultTypes.toList args H=some (v,H')->
 ∀m w args',RH m H w->jf m args args'->∃m' v' w',(callFunc g ⟨args'⟩).run P w=.ok (.value v') w'/\VR m' v v'/\RH m' H' w'/\Ex m m' H H' w w'
theorem V5.of{P:Program}{X:Xt}(h:∀g,X g=0\/QO P g (X g)):V5 P X:=by
 intro g fn args v H H' hg _ hx m w args' rh ha;rcases h g with h0|h1
 .rw[h0]at hx;cases hx
 .exact h1 fn args v H H' hg hx m w args' rh ha
section mem
variable{P:Program}
theorem QO.QS{c:Nat}{e:Array Value->Sem Value}(hg:P.funcs[g]?=some fn)(hname:(fn.name== "runtime.NumGoroutine")=false)(hb:fn.body.isNone=true)(hn:Extern.findNext fn=none)(he:Extern.find fn=some e)(h:∀(args:List Value)(v:Value)(H H':ag),Uk P c fn.resultTypes.toList args H=some (v,H')->∀m w args',RH m H w->jf m args args'->rD P m H w (e ⟨args'⟩) v H'):QO P g c:=by
 intro fn' args v H H' hg' hx m w args' rh ha;rw[hg]at hg';cases hg';obtain⟨m',v',w',h1,h2,h3,h4⟩:=h args v H H' hx m w args' rh ha;refine⟨m',v',w',?_,h2,h3,h4⟩;rw[run_callFunc_extern hg hname hb hn he,h1];rfl
theorem QO.same(hg:P.funcs[g]?=some fn)(hname:(fn.name== "runtime.NumGoroutine")=false)(hb:fn.body.isNone=true)(hn:Extern.findNext fn=none)(he:Extern.find fn=some Extern.AbiNoEscape.same):QO P g 1:=by
 refine QO.QS hg hname hb hn he ?_;intro args v H H' h m w args' rh ha;replace h:(gd (Nat.beq (len args) 1)<|ax (nth args 0) λx=>some (x,H))=some (v,H'):=h;obtain⟨hl,h⟩:=dh h;obtain⟨x,hx,h⟩:=ak h;cases h;rw[kU]at hx;rw[dG]at hl;obtain⟨v',h1,h2⟩:=aa5 (P:=P) (w:=w) (aB hl) hx ha;exact⟨m,v',w,h2,h1,rh,Ex.refl _ _ _⟩
theorem QO.index(hg:P.funcs[g]?=some fn)(hname:(fn.name== "runtime.NumGoroutine")=false)(hb:fn.body.isNone=true)(hn:Extern.findNext fn=none)(he:Extern.find fn=some Extern.BytealgIndexByte.indexByte):QO P g 3:=by
 refine QO.QS hg hname hb hn he ?_;intro args v H H' h m w args' rh ha;replace h:(ax (H_ args) λx=>some (Qa<|vJ x.2 x.1.data.toList 0,H))=some (v,H'):=h;obtain⟨q,hq,h⟩:=ak h;cases h;obtain⟨h1,h2⟩:=LQ (P:=P) (w:=w) hq ha;exact⟨m,_,w,h2,h1,rh,Ex.refl _ _ _⟩
theorem QO.count(hg:P.funcs[g]?=some fn)(hname:(fn.name== "runtime.NumGoroutine")=false)(hb:fn.body.isNone=true)(hn:Extern.findNext fn=none)(he:Extern.find fn=some Extern.BytealgCount.count):QO P g 4:=by
 refine QO.QS hg hname hb hn he ?_;intro args v H H' h m w args' rh ha;replace h:(ax (H_ args) λx=>some (Value.int .i64<|.ofNat<|countB x.2 x.1.data.toList,H))=some (v,H'):=h;obtain⟨q,hq,h⟩:=ak h;cases h;obtain⟨h1,h2⟩:=LU (P:=P) (w:=w) hq ha;exact⟨m,_,w,h2,h1,rh,Ex.refl _ _ _⟩
end mem
def qZ(ty:TypeId)(k:IntKind)(l:List Nat):iW:=.row ⟨ty,Tr.pU top (mp (λn=>Value.int k<|Int.ofNat n) l) 0 .nil,len l,true,0⟩
def TabAt(w:World)(o:iW)(r:Nat):Prop:=o=.dead\/∃(ty:TypeId)(k:IntKind)(l:List Nat)(cs:Array Value)(fr:Nat×Nat),o=qZ ty k l/\w.heap[r]?=some (.cells cs ty fr)/\∀(i z:Nat),l[i]?=some z->cs[i]?=some (Value.int k (z:Nat))
def afu:iW->Nat
 |.row R=>R.n
 |_=>0
def Af(w:World)(r:Nat):Nat:=match w.heap[r]? with|some (.cells cs _ _)=>cs.size|_=>0
def CQ(w:World)(H:ag):Mp:=λr=>if r<H.next then some ⟨r,0,0,Af w r,afu<|H.obj r⟩else none
section mem
variable{P:Program}
theorem SQ(w:World)(H:ag):Gl H.next (CQ w H):=λg hg=>⟨⟨g,0,0,Af w g,afu<|H.obj g⟩,by unfold CQ;rw[if_pos hg],rfl,rfl,rfl⟩
theorem abj(h:H.next<=w.heap.size)(ht:∀r,r<H.next->TabAt w (H.obj r) r):RH (CQ w H) H w:=by
 refine⟨?_,?_,?_⟩
 .intro r l hr;unfold CQ at hr;split at hr
  .next h1=>exact h1
  .cases hr
 .intro r l hr;unfold CQ at hr;split at hr
  .next h1=>
   cases hr;refine⟨w.heap[r]'aa,aJ (i:=r) aa,?_⟩;rcases ht r h1 with h2|⟨ty,k,l,cs,fr,h2,h3,h4⟩
   .rw[h2];trivial
   .have hcn:Af w r=cs.size:=by unfold Af;rw[h3]
    have hget:w.heap[r]'aa=.cells cs ty fr:=by
     have:=aJ (xs:=w.heap) (i:=r) aa;rw[h3]at this;injection this with this;exact this.symm
    rw[hget,h2];show qG _ _ (qZ ty k l) _
    have hlen:∀i,i<l.length->i<cs.size:=by
     intro i hi;exact(cr.1<|h4 i _<|ae hi).1
    have hle:l.length<=cs.size:=by
     rcases aN cs.size l.length with h5|h5
     .have:=hlen cs.size h5;omega
     .exact h5
    refine⟨⟨rfl,rfl⟩,rfl,hcn.symm,aM _,?_,?_,?_⟩
    .show 0+(len l-0)<=Af w r;rw[hcn,dG];omega
    .intro hse;cases hse
    .intro i _ hi;have hi:i<len l:=hi;rw[dG]at hi;refine⟨.int k (l[i]:Nat),?_,?_⟩
     .simp only[aI,iK];exact h4 i _<|ae hi
     .show VR _ ((Tr.pU top (mp (λn=>Value.int k<|Int.ofNat n) l) 0 .nil).get top i) _;rw[Tr.jM,DC,if_pos (by simp;omega)];rw[aK];simp[hi];exact .sc _ rfl
  .cases hr
 .intro r r' l l' hr hr' _ _ hc;unfold CQ at hr hr';split at hr
  .split at hr'
   .cases hr;cases hr';exact hc
   .cases hr'
  .cases hr
theorem QT{X:Xt}(hmo:P.follows .mixedOrders=true)(hP:xU P H.next)(hX:V5 P X)(hO:EX P X H.next)(hg:P.funcs[g]?=some fn)(hb:fn.body.isSome=true)(h:h_ P X k g args H=some (v,H'))(hlow:H.next<=H'.low)(hv:jW v=true)(ha:args.all jW=true)(hw:H.next<=w.heap.size)(ht:∀r,r<H.next->TabAt w (H.obj r) r):
 Calls P g ⟨args⟩ w λe w'=>e=.returned v/\Go.RowKit.Below w.heap.size w w':=by
 refine(levels hmo hP hX hO k g args v _ H' fn h hg hb (CQ w H) w args (abj hw ht) (SQ w H)<|jf.jW ha).mono ?_;rintro e w' ⟨m',v',rfl,h1,h2,h3⟩;rw[h1.uL hv];refine⟨rfl,⟨h3.os,h3.tape,h3.output,h3.size,λc hc=>h3.keep c hc ?_⟩⟩;intro r l hr _;unfold CQ at hr;split at hr
 .next h4=>exact aH h4 hlow
 .cases hr
def N8(n:Nat)(b:Bool)(o:Option<|Value×ag):Bool:=@Option.rec (Value×ag) (λ_=>Bool) false (λp=>(@Option.rec Bool (λ_=>Bool) false (λx=>yu x b)<|gF p.1)&&Nat.ble n p.2.low) o
theorem XL{o:Option (Value×ag)}(h:N8 n b o=true):∃H',o=some (.bool b,H')/\n<=H'.low:=by
 cases o with
 |none=>cases h
 |some p=>
  replace h:((@Option.rec Bool (λ_=>Bool) false (λx=>yu x b)<|gF p.1)&&Nat.ble n p.2.low)=true:=h;rw[aG]at h;cases hb:gF p.1 with
  |none=>rw[hb]at h;cases h.1
  |some x=>
   rw[hb]at h;have h1:yu x b=true:=h.1;rw[Ib,jq]at h1;exact⟨p.2,by rw[<-h1,<-lJ hb],ai h.2⟩
end mem
theorem J{a b:Prop}(x:a)(y:b):a/\b:=⟨x,y⟩
structure kP(s s':St):Prop where
 nl:s.nl=s'.nl
 nt:s.nt=s'.nt
 df:s.df=s'.df
 H:s.H=s'.H
 lk:∀t,eO s t=eO s' t
inductive yw:Out->Out->Prop where
 |fail:yw .fail .fail
 |norm {s s':St} (h:kP s s'):yw (.norm s) (.norm s')
 |exit (i:Nat) {s s':St} (h:kP s s'):yw (.exit i s) (.exit i s')
 |goto (l:Nat) {s s':St} (h:kP s s'):yw (.goto l s) (.goto l s')
 |ret {s s':St} (h:kP s s'):yw (.ret s) (.ret s')
theorem kP.look(h:kP s s'):eO s=eO s':=funext h.lk
theorem kP.ev(h:kP s s'):ev s=ev s':=by
 funext x;cases x with
 |tmp t=>exact congrFun h.look t
 |_=>rfl
theorem yw.refl(o:Out):yw o o:=by
 cases o with
 |fail=>exact .fail
 |norm s=>exact .norm ⟨rfl,rfl,rfl,rfl,λ_=>rfl⟩
 |exit i s=>exact .exit i ⟨rfl,rfl,rfl,rfl,λ_=>rfl⟩
 |goto l s=>exact .goto l ⟨rfl,rfl,rfl,rfl,λ_=>rfl⟩
 |ret s=>exact .ret ⟨rfl,rfl,rfl,rfl,λ_=>rfl⟩
theorem kP.Gq(h:kP s s'):Gq s=Gq s':=by
 funext x;cases x with
 |none=>rfl
 |some x=>exact bW some<|congrFun h.ev x
theorem kP.Lf(h:kP s s'):Lf s=Lf s':=by
 funext ps;unfold Go.Ae.Lf;rw[h.ev]
theorem Bv(d:Nat)(v:Value)(l:List<|Nat×Value)(t:Nat):Go.Ae.look ((d,v)::l) t=if d=t then v else Go.Ae.look l t:=by
 show aU (Nat.beq d t) v (Go.Ae.look l t)=_
 by_cases e:d=t
 .subst e;rw[show Nat.beq d d=true from bC d];simp[lG]
 .rw[show Nat.beq d t=false from by rw[<-aV];exactλg=>e<|aB g,if_neg e];rfl
def wr(s:St)(d:Nat):Bool:=aU (d_ s.nl d) (Nat.ble (Nat.succ d) s.nt) true
theorem wo(s:St)(d:Nat)(v:Value)(H:ag)(t:Nat):eO (mQ s d v H) t=if d=t/\wr s d=true then v else eO s t:=by
 by_cases hb:d_ s.nl d=true
 .have e:mQ s d v H=⟨s.nl,s.nt,s.reg,aU (Nat.ble (Nat.succ d) s.nt) (s.tm.set top d v) s.tm,s.df,H⟩:=by unfold mQ;rw[hb];rfl
  have ew:wr s d=Nat.ble (Nat.succ d) s.nt:=by unfold wr;rw[hb];rfl
  rw[e,ew];show aU (d_ s.nl t) ((aU (Nat.ble (Nat.succ d) s.nt) (s.tm.set top d v) s.tm).get top t) (Go.Ae.look s.reg t)=if d=t/\Nat.ble (Nat.succ d) s.nt=true then v else aU (d_ s.nl t) (s.tm.get top t) (Go.Ae.look s.reg t)
  by_cases hn:Nat.ble (Nat.succ d) s.nt=true
  .rw[hn];show aU (d_ s.nl t) ((s.tm.set top d v).get top t) (Go.Ae.look s.reg t)=_;rw[Tr.qQ]
   by_cases e:d=t
   .subst e;rw[if_pos rfl,if_pos ⟨rfl,rfl⟩,hb];rfl
   .rw[if_neg (λh=>e h.symm),if_neg λh=>e h.1]
  .rw[aV]at hn;rw[hn,if_neg λh=>by cases h.2];rfl
 .rw[aV]at hb;have e:mQ s d v H=⟨s.nl,s.nt,(d,v)::s.reg,s.tm,s.df,H⟩:=by unfold mQ;rw[hb];rfl
  have ew:wr s d=true:=by unfold wr;rw[hb];rfl
  rw[e,ew];show aU (d_ s.nl t) (s.tm.get top t) (Go.Ae.look ((d,v)::s.reg) t)=if d=t/\true=true then v else aU (d_ s.nl t) (s.tm.get top t) (Go.Ae.look s.reg t)
  rw[Bv]
  by_cases e:d=t
  .subst e;rw[if_pos rfl,if_pos ⟨rfl,rfl⟩,hb];rfl
  .rw[if_neg e,if_neg λh=>e h.1]
theorem G4(s:St)(d:Nat)(v:Value)(H:ag):(mQ s d v H).nl=s.nl/\(mQ s d v H).nt=s.nt/\(mQ s d v H).df=s.df/\(mQ s d v H).H=H:=by
 unfold mQ;cases d_ s.nl d<;>exact⟨rfl,rfl,rfl,rfl⟩
theorem kP.mQ(h:kP s s')(d:Nat)(v:Value)(H:ag):kP (mQ s d v H) (mQ s' d v H):=by
 obtain⟨a1,a2,a3,a4⟩:=G4 s d v H;obtain⟨b1,b2,b3,b4⟩:=G4 s' d v H;refine⟨a1.trans<|h.nl.trans b1.symm,a2.trans<|h.nt.trans b2.symm,a3.trans<|h.df.trans b3.symm,a4.trans b4.symm,λt=>?_⟩;rw[wo,wo,h.lk];have:wr s d=wr s' d:=by unfold wr;rw[h.nl,h.nt]
 rw[this]
theorem kP.same(s:St)(t:Nat):kP s (Go.Ae.mQ s t (eO s t) s.H):=by
 obtain⟨b1,b2,b3,b4⟩:=G4 s t (eO s t) s.H;refine⟨b1.symm,b2.symm,b3.symm,b4.symm,λu=>?_⟩;rw[wo];split
 .next h=>rw[h.1]
 .rfl
theorem kP.fU(h:kP s s')(d:Option Nat)(v:Value)(H:ag):kP (fU s d v H) (fU s' d v H):=by
 cases d with
 |none=>exact⟨h.nl,h.nt,h.df,rfl,h.lk⟩
 |some d=>exact h.mQ d v H
theorem CR(s:St)(t:Nat):eO (clear s) t=aU (d_ s.nl t) (eO s t) top:=by
 unfold eO;show aU (d_ s.nl t) (s.tm.get top t) (Go.Ae.look [] t)=_;cases d_ s.nl t<;>rfl
theorem kP.clear(h:kP s s'):kP (clear s) (clear s'):=⟨h.nl,h.nt,h.df,h.H,λt=>by rw[CR,CR,h.nl,h.lk]⟩
theorem kP.dX(h:kP s s'):kP (dX s) (dX s'):=⟨h.nl,h.nt,h.df,by show ag.mk _ _ _=ag.mk _ _ _;rw[h.H],h.lk⟩
theorem kP.heap(h:kP s s')(d:List Deferred)(H:ag):kP ⟨s.nl,s.nt,s.reg,s.tm,d,H⟩ ⟨s'.nl,s'.nt,s'.reg,s'.tm,d,H⟩:=⟨h.nl,h.nt,rfl,rfl,h.lk⟩
theorem kP.refl(s:St):kP s s:=⟨rfl,rfl,rfl,rfl,λ_=>rfl⟩
theorem kP.symm{s s':St}(h:kP s s'):kP s' s:=⟨h.nl.symm,h.nt.symm,h.df.symm,h.H.symm,λt=>(h.lk t).symm⟩
theorem kP.trans(h:kP s s')(h2:kP s' s2):kP s s2:=⟨h.nl.trans h2.nl,h.nt.trans h2.nt,h.df.trans h2.df,h.H.trans h2.H,λt=>(h.lk t).trans<|h2.lk t⟩
section mem
variable{P:Program}{cf:iO}
theorem kP.jY(h:kP s s')(c:Callee):jY c P s=jY c P s':=by
 cases c with
 |value f=>show(ax (Wm<|Go.Ae.ev s f) _)=_;rw[h.ev];rfl
 |invoke r n=>show(ax (Cv<|Go.Ae.ev s r) _)=_;rw[h.ev];rfl
 |builtin b=>rfl
theorem kP.vN(h:kP s s')(o:Op):vN o P cf s=vN o P cf s':=by
 have e:=h.ev;have e1:=h.Gq;have e2:=h.Lf;have e3:=h.H;cases o with
 |call c=>
  show tJ c P cf s=tJ c P cf s';unfold tJ;rw[h.jY,e,e3]
 |move x=>show R3.zF (Go.Ae.ev s x)=_;rw[e];rfl
 |assign x=>show R3.zF (Go.Ae.ev s x)=_;rw[e];rfl
 |pick c a b=>show rp (Hu (Go.Ae.ev s c) (Go.Ae.ev s a)<|Go.Ae.ev s b)=_;rw[e];rfl
 |alloc t=>show rm (zW P t s.H)=_;rw[e3];rfl
 |box t x=>show rm (Le t (Go.Ae.ev s x) s.H)=_;rw[e,e3];rfl
 |build t ps=>show rp (zV P t<|Go.Ae.Lf s ps)=_;rw[e2];rfl
 |buildSlice t n ps=>show rm (pJ P t n (Go.Ae.Lf s ps) s.H)=_;rw[e2,e3];rfl
 |insert t m k v=>show rm (oU P t (Go.Ae.ev s m) (Go.Ae.ev s k) (Go.Ae.ev s v) s.H)=_;rw[e,e3];rfl
 |load t x=>show rm (r_ P t (Go.Ae.ev s x) s.H)=_;rw[e,e3];rfl
 |store t x v=>show rm (wG P t (Go.Ae.ev s x) (Go.Ae.ev s v) s.H)=_;rw[e,e3];rfl
 |nilCheck x=>show rp (Ld<|Go.Ae.ev s x)=_;rw[e];rfl
 |binOp op t x y u=>show rp (jb P op t x y (Go.Ae.ev s x)<|Go.Ae.ev s y)=_;rw[e];rfl
 |unOp op t x=>show rp (gU<|Op.unary op<|Go.Ae.ev s x)=_;rw[e];rfl
 |convert a b x=>show rpm (zR P a b<|Go.Ae.ev s x) (rm<|qw P a b (Go.Ae.ev s x) s.H)=_;rw[e,e3];rfl
 |makeInterface t x=>show rp (P_ P t<|Go.Ae.ev s x)=_;rw[e];rfl
 |makeFunc f fi ca=>show rp (some<|.func f ⟨mp (Go.Ae.ev s) fi.toList⟩ ⟨mp (Go.Ae.ev s) ca.toList⟩)=_;rw[e];rfl
 |makeMap t r=>show rm (si P t (Go.Ae.Gq s r) s.H)=_;rw[e1,e3];rfl
 |makeSlice t l c=>show rm (mP P t (Go.Ae.ev s l) (Go.Ae.ev s c) s.H)=_;rw[e,e3];rfl
 |slice t x lo hi mx=>show rp (xG P t (Go.Ae.ev s x) (Go.Ae.Gq s lo) (Go.Ae.Gq s hi)<|Go.Ae.Gq s mx)=_;rw[e,e1];rfl
 |fieldAddr t x f=>show rp (oh P t (Go.Ae.ev s x) f)=_;rw[e];rfl
 |field t x f=>show rp (zU P t (Go.Ae.ev s x) f)=_;rw[e];rfl
 |indexAddr t x i=>show rp (og P t (Go.Ae.ev s x)<|Go.Ae.ev s i)=_;rw[e];rfl
 |index t x i=>show rp (zT P t (Go.Ae.ev s x)<|Go.Ae.ev s i)=_;rw[e];rfl
 |lookup t x k ok=>show rm (uK P t (Go.Ae.ev s x) (Go.Ae.ev s k) ok s.H)=_;rw[e,e3];rfl
 |mapUpdate t m k v=>show rm (oU P t (Go.Ae.ev s m) (Go.Ae.ev s k) (Go.Ae.ev s v) s.H)=_;rw[e,e3];rfl
 |range t x=>show rm (EK P t (Go.Ae.ev s x) s.H)=_;rw[e,e3];rfl
 |next x b=>show rm (Ka (Go.Ae.ev s x) b s.H)=_;rw[e,e3];rfl
 |extract t i=>show rp (qD (Go.Ae.ev s t) i)=_;rw[e];rfl
 |_=>rfl
theorem kP.yC(h:kP s s')(c:Call):yC c P s=yC c P s':=by
 unfold Go.Ae.yC;rw[h.ev]
inductive V7:Option St->Option St->Prop where
 |none:V7 none none
 |some {s s':St} (h:kP s s'):V7 (some s) (some s')
theorem kP.mX(h:kP s s')(ops:Array Oper)(g:Option<|Nat×Bool):mX ops s g=mX ops s' g:=by
 cases g with
 |none=>rfl
 |some g=>
  show Kb ops s g=Kb ops s' g;unfold Kb yB;rw[h.look]
theorem kP.CE(h:kP s s')(o:Oper)(r:R3):V7 (CE o s r) (CE o s' r):=by
 cases r with
 |fail=>exact .none
 |zF v=>show V7 (Option.some<|Go.Ae.fU s o.dst v s.H)<|Option.some<|Go.Ae.fU s' o.dst v s'.H;rw[h.H];exact .some<|h.fU ..
 |mem v H=>exact .some<|h.fU ..
theorem kP.xg(h:kP s s')(o:Oper):V7 (xg P cf o s) (xg P cf o s'):=by
 unfold Go.Ae.xg;cases nI o.op with
 |none=>
  show V7 (Go.Ae.CE o s<|Go.Ae.vN o.op P cf s)<|Go.Ae.CE o s'<|Go.Ae.vN o.op P cf s';rw[h.vN];exact h.CE ..
 |some c=>
  show V7 (ax (Go.Ae.yC c P s) _)<|ax (Go.Ae.yC c P s') _;rw[h.yC];cases Go.Ae.yC c P s' with
  |none=>exact .none
  |some d=>
   show V7 (Option.some<|Go.Ae.fU ⟨s.nl,s.nt,s.reg,s.tm,d::s.df,s.H⟩ o.dst undef s.H)<|Option.some<|Go.Ae.fU ⟨s'.nl,s'.nt,s'.reg,s'.tm,d::s'.df,s'.H⟩ o.dst undef s'.H;rw[h.df,h.H];exact .some<|(h.heap _ _).fU ..
theorem kP.jy(h:kP s s')(ops:Array Oper)(o:Oper):V7 (jy P cf ops o s) (jy P cf ops o s'):=by
 unfold Go.Ae.jy;rw[h.mX];cases Go.Ae.mX ops s' o.guard with
 |none=>exact .none
 |some b=>cases b with
  |true=>exact h.xg o
  |false=>show V7 (Option.some<|Go.Ae.fU s o.dst undef s.H)<|Option.some<|Go.Ae.fU s' o.dst undef s'.H;rw[h.H];exact .some<|h.fU ..
theorem kP.jJ(ops:Array Oper):∀(l:List Oper){s s':St},kP s s'->V7 (jJ P cf ops l s) (jJ P cf ops l s'):=by
 intro l
 induction l with
 |nil=>intro s s' h;exact .some h
 |cons o l ih=>
  intro s s' h;show V7 (ax (Go.Ae.jy P cf ops o s)<|Go.Ae.jJ P cf ops l)<|ax (Go.Ae.jy P cf ops o s')<|Go.Ae.jJ P cf ops l;have:=h.jy (P:=P) (cf:=cf) ops o;generalize Go.Ae.jy P cf ops o s=a at this;generalize Go.Ae.jy P cf ops o s'=b at this;cases this with
  |none=>exact .none
  |some h1=>exact ih h1
inductive DEq{α:Type}:Option (St×α)->Option (St×α)->Prop where
 |none:DEq none none
 |some {s s':St} (x:α) (h:kP s s'):DEq (some (s,x)) (some (s',x))
theorem kP.oI(h:kP s s')(o:Op)(H:ag):oI P o s H=oI P o s' H:=by
 unfold Go.Ae.oI xy;rw[h.ev,h.H]
theorem kP.iT(h:kP s s')(ops:Array Oper)(o:Oper):DEq (iT P cf ops o s) (iT P cf ops o s'):=by
 unfold Go.Ae.iT;rw[h.mX];cases Go.Ae.mX ops s' o.guard with
 |none=>exact .none
 |some b=>cases b with
  |true=>
   show DEq (Fx P o s<|Go.Ae.vN o.op P cf<|Go.Ae.dX s)<|Fx P o s'<|Go.Ae.vN o.op P cf<|Go.Ae.dX s';rw[h.dX.vN];cases Go.Ae.vN o.op P cf (Go.Ae.dX s')with
   |fail=>exact .none
   |zF v=>show DEq (Option.some (Go.Ae.fU s o.dst v s.H,cl 0))<|Option.some (Go.Ae.fU s' o.dst v s'.H,cl 0);rw[h.H];exact .some _<|h.fU ..
   |mem v H=>
    show DEq (Option.some (Go.Ae.fU s o.dst v ⟨H.rM,H.next,kV s.H.low H.low⟩,Go.Ae.oI P o.op s H))<|Option.some (Go.Ae.fU s' o.dst v ⟨H.rM,H.next,kV s'.H.low H.low⟩,Go.Ae.oI P o.op s' H);rw[h.oI,h.H];exact .some _<|h.fU ..
  |false=>show DEq (Option.some (Go.Ae.fU s o.dst undef s.H,cl 0))<|Option.some (Go.Ae.fU s' o.dst undef s'.H,cl 0);rw[h.H];exact .some _<|h.fU ..
theorem kP.fT(ops:Array Oper):∀(l:List Oper){s s':St}(acc:List Cl),kP s s'->DEq (fT P cf ops l s acc) (fT P cf ops l s' acc):=by
 intro l
 induction l with
 |nil=>intro s s' acc h;exact .some _ h
 |cons o l ih=>
  intro s s' acc h;show DEq (ax (Go.Ae.iT P cf ops o s) λq=>Go.Ae.fT P cf ops l q.1<|q.2::acc)<|ax (Go.Ae.iT P cf ops o s') λq=>Go.Ae.fT P cf ops l q.1<|q.2::acc;have:=h.iT (P:=P) (cf:=cf) ops o;generalize Go.Ae.iT P cf ops o s=a at this;generalize Go.Ae.iT P cf ops o s'=b at this;cases this with
  |none=>exact .none
  |some x h1=>exact ih _ h1
theorem kP.region(h:kP s s')(ops:Array Oper)(d:Bool):yw (region P cf ops d s) (region P cf ops d s'):=by
 cases d with
 |false=>
  show yw (Fz<|Go.Ae.jJ P cf ops ops.toList<|Go.Ae.clear s)<|Fz<|Go.Ae.jJ P cf ops ops.toList<|Go.Ae.clear s';have:=kP.jJ (P:=P) (cf:=cf) ops ops.toList h.clear;generalize Go.Ae.jJ P cf ops ops.toList (Go.Ae.clear s)=a at this;generalize Go.Ae.jJ P cf ops ops.toList (Go.Ae.clear s')=b at this;cases this with
  |none=>exact .fail
  |some h1=>exact .norm h1
 |true=>
  show yw (aU (iC ops&&lI ops) (qX ops<|Go.Ae.fT P cf ops ops.toList (Go.Ae.clear s) []) .fail)<|aU (iC ops&&lI ops) (qX ops<|Go.Ae.fT P cf ops ops.toList (Go.Ae.clear s') []) .fail;cases(iC ops&&lI ops)with
  |false=>exact .fail
  |true=>
   show yw (qX ops<|Go.Ae.fT P cf ops ops.toList (Go.Ae.clear s) [])<|qX ops<|Go.Ae.fT P cf ops ops.toList (Go.Ae.clear s') [];have:=kP.fT (P:=P) (cf:=cf) ops ops.toList [] h.clear;generalize Go.Ae.fT P cf ops ops.toList (Go.Ae.clear s) []=a at this;generalize Go.Ae.fT P cf ops ops.toList (Go.Ae.clear s') []=b at this;cases this with
   |none=>exact .fail
   |some x h1=>
    show yw (aU (gQ ops x) (.norm _) .fail)<|aU (gQ ops x) (.norm _) .fail;cases gQ ops x with
    |true=>exact .norm h1
    |false=>exact .fail
theorem yw.trans{a b c:Out}(h:yw a b)(h2:yw b c):yw a c:=by
 cases h with
 |fail=>exact h2
 |norm h=>cases h2 with|norm h2=>exact .norm<|h.trans h2
 |exit i h=>cases h2 with|exit _ h2=>exact .exit i<|h.trans h2
 |goto l h=>cases h2 with|goto _ h2=>exact .goto l<|h.trans h2
 |ret h=>cases h2 with|ret h2=>exact .ret<|h.trans h2
theorem XM{f:St->Out}(hf:∀s s',kP s s'->yw (f s) (f s')):∀n s s',kP s s'->yw (uU n f s) (uU n f s'):=by
 intro n
 induction n with
 |zero=>intro s s' _;exact .fail
 |succ n ih=>
  intro s s' h;show yw (andThen (f s)<|uU n f)<|andThen (f s')<|uU n f;have:=hf s s' h;generalize f s=a at this;generalize f s'=b at this;cases this with
  |fail=>exact .fail
  |norm h1=>exact ih _ _ h1
  |exit i h1=>exact .exit i h1
  |goto l h1=>exact .goto l h1
  |ret h1=>exact .ret h1
theorem U6(hx:∀c s s',kP s s'->yw (cx c s) (cx c s'))(body:Code):∀n o o',yw o o'->yw (jZ cx n body o) (jZ cx n body o'):=by
 intro n
 induction n with
 |zero=>intro o o' _;exact .fail
 |succ n ih=>
  intro o o' h;cases h with
  |fail=>exact .fail
  |norm h1=>exact .norm h1
  |exit i h1=>exact .exit i h1
  |ret h1=>exact .ret h1
  |goto l h1=>
   rename_i s s';show yw (@Option.rec Code (λ_=>Out) (.goto l s) (λrest=>jZ cx n body<|cx rest s)<|findLabel body l)<|@Option.rec Code (λ_=>Out) (.goto l s') (λrest=>jZ cx n body<|cx rest s')<|findLabel body l;cases findLabel body l with
   |none=>exact .goto l h1
   |some rest=>exact ih _ _<|hx rest _ _ h1
theorem SS(hx:∀c s s',kP s s'->yw (cx c s) (cx c s'))(n:Nat)(c:Code):∀s s',kP s s'->yw (exec P cf cx n c s) (exec P cf cx n c s'):=by
 induction c with
 |skip=>intro s s' h;exact .norm h
 |region id ops d=>intro s s' h;exact h.region ops d
 |seq a b iha ihb=>
  intro s s' h;show yw (andThen (exec P cf cx n a s)<|exec P cf cx n b)<|andThen (exec P cf cx n a s')<|exec P cf cx n b;have:=iha s s' h;generalize exec P cf cx n a s=x at this;generalize exec P cf cx n a s'=y at this;cases this with
  |fail=>exact .fail
  |norm h1=>exact ihb _ _ h1
  |exit i h1=>exact .exit i h1
  |goto l h1=>exact .goto l h1
  |ret h1=>exact .ret h1
 |cond x a b iha ihb=>
  intro s s' h;show yw (Fy (gF<|ev s x) (exec P cf cx n a s)<|exec P cf cx n b s)<|Fy (gF<|ev s' x) (exec P cf cx n a s')<|exec P cf cx n b s';rw[h.ev];cases gF (ev s' x)with
  |none=>exact .fail
  |some t=>cases t with
   |true=>exact iha _ _ h
   |false=>exact ihb _ _ h
 |block id a ih=>
  intro s s' h;show yw (uj id<|exec P cf cx n a s)<|uj id<|exec P cf cx n a s';have:=ih s s' h;generalize exec P cf cx n a s=x at this;generalize exec P cf cx n a s'=y at this;cases this with
  |fail=>exact .fail
  |norm h1=>exact .norm h1
  |exit i h1=>
   show yw (aU (Nat.beq i id) _ _)<|aU (Nat.beq i id) _ _;cases Nat.beq i id with
   |true=>exact .norm h1
   |false=>exact .exit i h1
  |goto l h1=>exact .goto l h1
  |ret h1=>exact .ret h1
 |loop a ih=>intro s s' h;exact XM ih n s s' h
 |scope a ih=>intro s s' h;exact U6 hx a n _ _<|ih s s' h
 |label l=>intro s s' h;exact .norm h
 |exit i=>intro s s' h;exact .exit i h
 |goto l=>intro s s' h;exact .goto l h
 |ret=>intro s s' h;exact .ret h
 |_=>intro s s' h;exact .fail
variable{X:Xt}
theorem afv(n:Nat):∀c s s',kP s s'->yw ((lv P X n).cx c s) ((lv P X n).cx c s'):=by
 induction n with
 |zero=>intro c s s' _;exact .fail
 |succ n ih=>intro c s s' h;exact SS ih n c s s' h
theorem Ev.alike{o:Out}(he:kP s s')(h:Ev P X c s o):∃o',yw o o'/\Ev P X c s' o':=by
 obtain⟨hne,k,hk⟩:=h;have:=SS (P:=P) (cf:=(lv P X k).ca) (afv (P:=P) (X:=X) k) k c s s' he;refine⟨D3 P X k c s',by rw[<-hk];exact this,?_,k,rfl⟩;intro hf;replace this:yw (D3 P X k c s) (D3 P X k c s'):=this;rw[hf,hk]at this;cases this;exact hne rfl
theorem kP.iX(h:kP s s')(l:List ResultVar):iX P s l=iX P s' l:=by
 induction l with
 |nil=>rfl
 |cons r l ih=>
  show(ax (Be P s r) λv=>ax (Go.Ae.iX P s l) λvs=>some<|v::vs)=(ax (Be P s' r) λv=>ax (Go.Ae.iX P s' l) λvs=>some<|v::vs);rw[ih]
  have:Be P s r=Be P s' r:=by
   cases r with
   |tmp t=>show some (eO s t)=some (eO s' t);rw[h.look]
   |cell a t=>show(ax (r_ P t (eO s a) s.H) _)=(ax (r_ P t (eO s' a) s'.H) _);rw[h.look,h.H]
  rw[this]
end mem
end Go.Ae
