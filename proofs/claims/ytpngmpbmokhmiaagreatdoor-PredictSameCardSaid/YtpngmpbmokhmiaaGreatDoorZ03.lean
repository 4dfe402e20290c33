/-
  Part 03 of the proof. No condition.
-/
import Derived.Test.YtpngmpbmokhmiaaGreatDoorZ02
set_option linter.unusedVariables false
set_option linter.unusedSimpArgs false
set_option maxRecDepth 100000
set_option maxHeartbeats 4000000
set_option linter.defProp false
open Option renaming some->Z,none->W,rec->aN,some->jD
open Bool renaming true->f,false->aA
open Go renaming Value->D,TypeId->aG,Program->aS,World->bW,Operand->bO,IntKind->fu,TypeDesc->eZ
open Go.Value renaming int->bV,agg->Ru,map->Wi
open Nat renaming beq->ay,succ->bU,ble->aB,add->aV,sub->dA
open Go.Region renaming binds->fM
open Go.Sem renaming run_bind->cB,run_pure->dF
open Go.Result renaming andThen_ok->bN
open Go.Instr renaming sureAddr->jv
open Go.ByteArray renaming toList_eq->h_
open Go.Op renaming operands->fU
open Go.Call renaming operands->jl
open Classical renaming choose->jr
open Array renaming replicate->kI
open List renaming range->fZ
noncomputable section
namespace Go.Ae
variable{ops:Array Oper}{h1:Exit->Act->bW->Prop}{s s' s1 s2:St}{m m' m0 m1 m2:Mp}{ae:Nat->Prop}{aa es i j k k' n n' nt r:Nat}{K next:Act->bW->Prop}{a a1:Act}{v v' x':D}{o p:Oper}{d ld κ:Option Nat}{w w' w0 w1:bW}{args args' vs:List D}{A H C H0:F}{l:Loc}{ρ:bO->D}{d0 df:List Deferred}{ob JH:Obj}{b:Bool}{H':Nat->Cl}{L:List bO}{cx OV:Code->St->Out}{g:FuncId}{q:ByteArray×Nat}{fn:Func}{x hc:Cl}{c:Code}{zl:kM}{E listed:Array Bool}{av:D->D->Bool}{ats:Array aG}{name:String}{cls:List Cl}{t ty:aG}{o':lu}{α:Type}
section mem
variable{P:aS}
def adr(hl:args.length=1)(hv:args[0]?=Z v)(ha:kT m args args'):
 ∃v',VR m v v'/\(Extern.AbiNoEscape.same ⟨args'⟩).run P w=.ok v' w:=by
 obtain⟨v',h0,R⟩:=ha.get 0 hv;have hl':args'.length=1:=by rw[<-ha.length,hl]
 have he:args'=[v']:=by
  match args',hl',h0 with
  |[hc],_,h0=>cases h0;rfl
 subst he;exact⟨v',R,O⟩
def Zq(c:Nat)(y:c<=255):∀(l:List UInt8)(k:Nat),(xX c l k=W/\Lib.indexByte l c.toUInt8=-1)\/∃j,xX c l k=Z (k+j)/\Lib.indexByte l c.toUInt8=j:=by
 intro l
 induction l with
 |nil=>intro k;exact .inl ⟨O,O⟩
 |cons b l ih=>
  intro k
  have hbc:ay b.toNat c=(b==c.toUInt8):=by
   rw[f_,kX];constructor
   .intro h;have:=aT h;rw[<-this];simp
   .intro h;rw[h];have I:c.toUInt8.toNat=c:=by simp;omega
    rw[I];exact dw c
  show(bR (ay b.toNat c) (Z k) (xX c l<|k+1)=W/\_)\/∃j,bR (ay b.toNat c) (Z k) (xX c l<|k+1)=Z (k+j)/\_;rw[hbc];cases hh:(b==c.toUInt8)with
  |true=>exact .inr ⟨0,O,by simp[Lib.indexByte,hh]⟩
  |false=>
   rcases ih (k+1)with⟨Q,I⟩|⟨j,Q,I⟩
   .exact .inl ⟨Q,by simp[Lib.indexByte,hh,I]⟩
   .refine .inr ⟨j+1,by show xX c l (k+1)=_;rw[Q];congr 1;omega,?_⟩;have:((j:Int)==-1)=aA:=by rw[beq_eq_false_iff_ne];omega
    simp[Lib.indexByte,hh,I,this]
theorem Pq(h:JA args=Z q)(ha:kT m args args'):args'=[.string q.1,.int .u8 q.2]/\q.2<=255:=by
 obtain⟨s,hs,h⟩:=aI h;obtain⟨b,hb,h⟩:=aI h;obtain⟨c,y,h⟩:=aI h;obtain⟨p,hp,h⟩:=aI h;obtain⟨n,hn,h⟩:=aI h;obtain⟨hg,h⟩:=fH h;cases h;rw[om]at hs y;simp only[aZ,fQ]at hg;have hl:=aT hg.2;have hle:=aD hg.1.2;obtain⟨s',h0,hr0⟩:=ha.get 0 hs;obtain⟨c',Q,hr1⟩:=ha.get 1 y;have hl':args'.length=2:=by rw[<-ha.length,hl]
 have he:args'=[s',c']:=by
  match args',hl',h0,Q with
  |[hc,z],_,h0,Q=>cases h0;cases Q;rfl
 rw[o9 hb]at hr0;rw[pY hp,Nq hn]at hr1;have:=hr0.vL;subst this;have:=hr1.of_int;subst this
 have hk:p.1=.u8:=by
  have:=hg.1.1;cases hp1:p.1<;>rw[hp1]at this<;>first|rfl|(simp[IA]at this)
 rw[he,hk];exact⟨O,hle⟩
def NH(h:JA args=Z q)(ha:kT m args args'):
 VR m (RG<|xX q.2 q.1.data.toList 0) (RG<|xX q.2 q.1.data.toList 0)/\(Extern.BytealgIndexByte.indexByte ⟨args'⟩).run P w=.ok (RG<|xX q.2 q.1.data.toList 0) w:=by
 obtain⟨rfl,hle⟩:=Pq h ha;have R:=Lib.run_indexByteString (P:=P) q.1 (q.2:Int) w;rw[lJ]at R;rcases Zq q.2 hle q.1.data.toList 0 with⟨Q,I⟩|⟨j,Q,I⟩
 .rw[Q];rw[I]at R;exact⟨.sc _ O,R⟩
 .rw[Q,aW];rw[I]at R;exact⟨.sc _ O,R⟩
def W9(c:Nat)(y:c<=255):∀(l:List UInt8),countB c l=Lib.countByte l c.toUInt8:=by
 intro l
 induction l with
 |nil=>rfl
 |cons b l ih=>
  have hbc:ay b.toNat c=(b==c.toUInt8):=by
   rw[f_,kX];constructor
   .intro h;have:=aT h;rw[<-this];simp
   .intro h;rw[h];have I:c.toUInt8.toNat=c:=by simp;omega
    rw[I];exact dw c
  show bR (ay b.toNat c) (bU<|countB c l) (countB c l)=_;rw[hbc,ih];unfold Lib.countByte;rw[uS];cases hh:(b==c.toUInt8)<;>rfl
def NI(h:JA args=Z q)(ha:kT m args args'):
 VR m (.int .i64<|.ofNat<|countB q.2 q.1.data.toList) (.int .i64<|.ofNat<|countB q.2 q.1.data.toList)/\(Extern.BytealgCount.count ⟨args'⟩).run P w=.ok (.int .i64<|.ofNat<|countB q.2 q.1.data.toList) w:=by
 obtain⟨rfl,hle⟩:=Pq h ha;have R:=Lib.run_countString (P:=P) q.1 (q.2:Int) w;rw[lJ,<-W9 _ hle]at R;exact⟨.sc _ O,R⟩
end mem
section mem
variable{P:aS}
def Zr(rh:RH m H w){s d:aG}{x:D}(h:uh P s d x H=Z (v,C))(J:VR m x x'):wz P m H w (convert s d x') v C:=by
 obtain⟨q,hq,h⟩:=aI h
 replace hq:(aK (P.underlying s) λx=>aK (P.underlying d) λhc=>
  bR (BO x) (aK (O3 P d) λq=>Z (1,q)) (bR (BO hc) (aK (O3 P s) λq=>Z (2,q))
   (bR (ET hc) (aK (ES x) λe=>Z (3,e,0))<|bR (ET x) (aK (ES hc) λe=>Z (4,e,0)) W)))=Z q:=hq
 obtain⟨ds,hds,Q⟩:=aI hq;clear hq;obtain⟨dd,hdd,hq⟩:=aI Q;clear Q;cases Q:BO ds with
 |true=>
  rw[Q]at hq;obtain⟨q1,hq1,hq2⟩:=aI hq;cases hq2;obtain⟨hu,_⟩:=AP hq1;have h:DZ P q1 x H=Z (v,C):=h;exact Pk rh h J hds hu
 |false=>
  rw[Q]at hq
  replace hq:(bR (BO dd) (aK (O3 P s) λq=>Z (2,q))
   (bR (ET dd) (aK (ES ds) λe=>Z (3,e,0))<|bR (ET ds) (aK (ES dd) λe=>Z (4,e,0)) W))=Z q:=hq
  cases I:BO dd with
  |true=>
   rw[I]at hq;obtain⟨q1,hq1,hq2⟩:=aI hq;cases hq2;obtain⟨hu,_⟩:=AP hq1;have h:D3 P q1 x H=Z (v,C):=h;exact Pm rh h J hu (by rw[hdd,EX I])
  |false=>
   rw[I]at hq;replace hq:(bR (ET dd) (aK (ES ds) λe=>Z (3,e,0))<|bR (ET ds) (aK (ES dd) λe=>Z (4,e,0)) W)=Z q:=hq;cases h3:ET dd with
   |true=>
    rw[h3]at hq;obtain⟨e,he,hq2⟩:=aI hq;cases hq2;have h:Jw P e x H=Z (v,C):=h;exact Gc rh h J (by rw[hds,I5 he]) h3 hdd
   |false=>
    rw[h3]at hq;replace hq:(bR (ET ds) (aK (ES dd) λe=>Z (4,e,0)) W)=Z q:=hq;cases h4:ET ds with
    |false=>rw[h4]at hq;cases hq
    |true=>
     rw[h4]at hq;obtain⟨e,he,hq2⟩:=aI hq;cases hq2;have h:Jy P e x H=Z (v,C):=h;exact Gd rh h J h4 hds (by rw[hdd,I5 he])
end mem
section mem
variable{P:aS}
def wS{o:Option D}(h:rp o=.BP v):o=Z v:=by
 cases o with
 |none=>cases h
 |some x=>cases h;rfl
def Sd{o:Option D}(h:rp o=.mem v H):False:=by cases o<;>cases h
def nO{o:Option (D×F)}(h:rm o=.mem v H):o=Z (v,H):=by
 cases o with
 |none=>cases h
 |some x=>cases h;rfl
def AU{o:Option (D×F)}(h:rm o=.BP v):False:=by cases o<;>cases h
def UI{o:Option D}{q:Option (D×F)}(h:rpm o (rm q)=.BP v):o=Z v:=by
 cases o with
 |none=>exact(AU (o:=q) h).elim
 |some x=>cases h;rfl
def UJ{o:Option D}{q:Option (D×F)}(h:rpm o (rm q)=.mem v H):q=Z (v,H):=by
 cases o with
 |none=>exact nO (o:=q) h
 |some x=>cases h
structure Mq(m:Mp)(s:St)(ρ:bO->D)(L:List bO):Prop where
 all:∀x,x∈L->VR m (ev s x) (ρ x)
def Mq.FU(e:Mq m s ρ L)(x:bO)(h:x∈L:=by simp[fU,jl]):VR m (ev s x) (ρ x):=e.all x h
def Mq.list(e:Mq m s ρ L):∀l:List bO,(∀x,x∈l->x∈L)->kT m (mp (ev s) l) (l.map ρ)
 |[],_=>.nil
 |x::l,h=>.cons _ _ _ _ (e.all x<|h x<|by simp)<|e.list l λhc hy=>h hc (by simp[hy])
def Mq.opt(e:Mq m s ρ L):∀o:Option bO,(∀x,x∈o->x∈L)->OR m (IB s o) (o.map ρ)
 |none,_=>.nn
 |some x,h=>.ss _ _<|e.all x<|h x O
def Mq.pairs(e:Mq m s ρ L)(ps:Array<|Nat×bO)(h:∀x,x∈ps.toList->x.2∈L):PRs m (Nl s ps) (ps.map λ(i,x)=>(i,ρ x)).toList:=by
 obtain⟨l⟩:=ps
 have:∀l:List<|Nat×bO,(∀x,x∈l->x.2∈L)->PRs m (mp (λp=>(p.1,ev s p.2)) l) (l.map λ(i,x)=>(i,ρ x)):=by
  intro l
  induction l with
  |nil=>intro _;exact .nil
  |cons x l ih=>intro h;exact .cons _ _ _ _ _ (e.all x.2<|h x<|by simp)<|ih λhc hy=>h hc (by simp[hy])
 simpa [Nl]using this l h
def ads(P:aS)(m:Mp)(v:D)(s:Sem Next):Prop:=∃v',VR m v v'/\∀w,s.run P w=.ok (.value v') w
def si{s:Sem D}(h:VR m v v')(hs:∀w,s.run P w=.ok v' w):ads P m v (do pure (.value (<-s))):=
 ⟨v',h,λw=>by simp[hs]⟩
theorem Ps{b:Builtin}{ats:List aG}(h:zW b ats args P H=.BP v)(ha:kT m args args'):
 ads P m v (builtin b ⟨ats⟩ ty E ⟨args'⟩):=by
 cases b
 case len=>
  have h:=UI (o:=one (Ju P) ats args) (q:=Jz P ats args H) h;obtain⟨Q,I⟩:=adj (t:=ty) h ha;exact si Q I
 case max=>
  have h:=wS (o:=O6 f args) h;obtain⟨v',Q,I⟩:=Za (P:=P) (ats:=⟨ats⟩) (t:=ty) h ha;exact si Q I
 case min=>
  have h:=wS (o:=O6 aA args) h;obtain⟨v',Q,I⟩:=Za (P:=P) (ats:=⟨ats⟩) (t:=ty) h ha;exact si Q I
 case append=>exact(AU (o:=C8 P ats args H) h).elim
 case copy=>exact(AU (o:=L9 P ats args H) h).elim
 case clear=>exact(AU (o:=F8 P ats args H) h).elim
 all_goals first|cases h|exact(AU (o:=EU args H) h).elim|exact(AU (o:=wL P ats args H) h).elim
theorem NJ{cf:kM}(h:yh o.op P cf s=.BP v)(e:Mq m s ρ o.op.operands.toList)(y:∀c,ρ (.const c)=c):ads P m v (execOp ρ o):=by
 cases hop:o.op
 case move x=>
  rw[hop]at h e;cases h;exact⟨ρ x,e.all x<|by simp[fU,jl],λw=>by simp[execOp,hop]⟩
 case assign x=>
  rw[hop]at h e;cases h;exact⟨ρ x,e.all x<|by simp[fU,jl],λw=>by simp[execOp,hop]⟩
 case pick c a b=>
  rw[hop]at h e;have h:=wS (o:=Jt (ev s c) (ev s a)<|ev s b) h;obtain⟨v',Q,I⟩:=adg (P:=P) h (e.FU c) (e.FU a)<|e.FU b;have:=si Q I;refine⟨v',Q,λw=>?_⟩;have I:=I w;simp only[execOp,hop];simp only[cB]at I|-;cases R:(asBool<|ρ c).run P w with
  |ok b' w'=>rw[R]at I;simp only[bN,dF]at I|-;cases I;rfl
  |halt x w'=>rw[R]at I;cases I
 case build t ps=>
  rw[hop]at h e;have h:=wS (o:=AB P t<|Nl s ps) h;obtain⟨v',Q,I⟩:=Zf h<|e.pairs ps (by intro x J;simp[fU];exact⟨x.1,by simpa using J⟩);have:ads P m v (do pure (.value (<-Instr.build t (ps.map λ(i,x)=>(i,ρ x))))):=si Q I;simp only[execOp,hop];exact this
 case nilCheck x=>
  rw[hop]at h e;have h:=wS (o:=Nk<|ev s x) h;obtain⟨Q,I⟩:=Pd (P:=P) h (e.FU x) ρ o x hop O;exact⟨_,Q,I⟩
 case binOp op t x hc z=>
  rw[hop]at h e;have h:=wS (o:=lN P op t x hc (ev s x)<|ev s hc) h;obtain⟨Q,I⟩:=agh h (e.FU x) (e.FU hc) (λc J=>by subst J;rfl) (λc hy=>by subst hy;rfl);have:=si Q I;simpa [execOp,hop]using this
 case unOp op t x=>
  rw[hop]at h e;have h:=wS (o:=jQ<|Op.unary op<|ev s x) h;obtain⟨Q,I⟩:=adh (P:=P) h<|e.FU x;have:=si Q I;simpa [execOp,hop]using this
 case convert a b x=>
  rw[hop]at h e;have h:=UI (o:=Cb P a b<|ev s x) (q:=uh P a b (ev s x) s.H) h;obtain⟨Q,I⟩:=adi h<|e.FU x;have:=si Q I;simpa [execOp,hop]using this
 case makeFunc av fi ca=>
  rw[hop]at h e;cases h;refine⟨.func av (fi.map ρ)<|ca.map ρ,?_,λw=>by simp[execOp,hop,Instr.makeFunc]⟩;obtain⟨fi⟩:=fi;obtain⟨ca⟩:=ca;have:=VR.func av _ _ _ _ (e.list fi (by intro x J;simp[fU,jl,J]))<|e.list ca (by intro x J;simp[fU,jl,J]);simpa using this
 case slice t x lo hi mx=>
  rw[hop]at h e;have h:=wS (o:=zM P t (ev s x) (IB s lo) (IB s hi)<|IB s mx) h;obtain⟨v',Q,I⟩:=Zd h (e.FU x) (e.opt lo (by intro x J;simp[fU]at J|-;simp[J])) (e.opt hi (by intro x J;simp[fU]at J|-;simp[J]))<|e.opt mx (by intro x J;simp[fU]at J|-;simp[J]);have:=si Q I;simpa [execOp,hop]using this
 case fieldAddr t x av=>
  rw[hop]at h e;have h:=wS (o:=q9 P t (ev s x) av) h;obtain⟨v',Q,I⟩:=NA h<|e.FU x;have:=si Q I;simpa [execOp,hop]using this
 case field t x av=>
  rw[hop]at h e;have h:=wS (o:=Ce P t (ev s x) av) h;obtain⟨v',Q,I⟩:=Y5 h<|e.FU x;have:=si Q I;simpa [execOp,hop]using this
 case indexAddr t x i=>
  rw[hop]at h e;have h:=wS (o:=q8 P t (ev s x)<|ev s i) h;obtain⟨v',Q,I⟩:=Nz h (e.FU x)<|e.FU i;have:=si Q I;simpa [execOp,hop]using this
 case index t x i=>
  rw[hop]at h e;have h:=wS (o:=Cc P t (ev s x)<|ev s i) h;obtain⟨v',Q,I⟩:=Y4 h (e.FU x)<|e.FU i;have:=si Q I;simpa [execOp,hop]using this
 case extract t i=>
  rw[hop]at h e;have h:=wS (o:=uA (ev s t) i) h;obtain⟨v',Q,I⟩:=RS (P:=P) h<|e.FU t;have:=si Q I;simpa [execOp,hop]using this
 case call c=>
  rw[hop]at h e;replace h:wu c P cf s=.BP v:=h;obtain⟨callee,⟨args⟩,ats⟩:=c;cases callee with
  |value av=>exact(AU h).elim
  |invoke r n=>exact(AU h).elim
  |builtin b=>
   have h:zW b ats.toList (mp (ev s) args) P s.H=.BP v:=h
   obtain⟨E,hcs⟩:∃E,∀w,(execOp ρ o).run P w=(builtin b ⟨ats.toList⟩ o.type E ⟨args.map ρ⟩).run P w:=
    ⟨args.toArray.map λ|.const _=>f|_=>aA,λw=>by
     simp only[execOp,hop,resolve,invoke,cB,dF,bN,tZ];rfl⟩
   obtain⟨v',Q,I⟩:=Ps (P:=P) (ty:=o.type) (E:=E) h<|e.list args (by intro x J;simp[fU,jl,J]);exact⟨v',Q,λw=>by rw[hcs,I]⟩
 all_goals(rw[hop]at h;first|cases h|exact(AU h).elim|skip)
end mem
section mem
variable{P:aS}
def Gl(n:Nat)(m:Mp):Prop:=∀g,g<n->∃l,m g=Z l/\l.c=g/\l.lo=0/\l.base=0
def Gl.mono(h:Gl n m)(hm:Mp.le m m'):Gl n m':=λg hg=>let⟨l,a,b⟩:=h g hg;⟨l,hm _ _ a,b⟩
def E6(P:aS)(n:Nat)(cf:kM):Prop:=∀g args v H C,cf g args H=Z (v,C)->∀m w args',RH m H w->Gl n m->kT m args args'->
 ∀(o:Oper)(a:Act)(next:Act->bW->Prop)(h1:Exit->Act->bW->Prop),
  (∀m' v' w',VR m' v v'->RH m' C w'->Ex m m' H C w w'->next (a.put o.dst v') w')->o.upon P a next h1 ((callFunc g ⟨args'⟩).run P w)
def pZ{s:Sem D}(h:wz P m H w s v C)(K:∀m' v' w',VR m' v v'->RH m' C w'->Ex m m' H C w w'->next (a.put o.dst v') w'):o.upon P a next h1 ((do pure (.value (<-s)):Sem Next).run P w):=by
 obtain⟨m',cv,w',Q,I,h3,h4⟩:=h;have:(do pure (.value (<-s)):Sem Next).run P w=.ok (.value cv) w':=by simp[Q]
 rw[this];exact K m' cv w' I h3 h4
def Mr{s:Sem Unit}(h:v=undef/\∃w',s.run P w=.ok () w'/\RH m C w'/\Ex m m H C w w')(K:∀m' v' w',VR m' v v'->RH m' C w'->Ex m m' H C w w'->next (a.put o.dst v') w'):o.upon P a next h1 ((do s;pure .skip:Sem Next).run P w):=by
 obtain⟨rfl,w',Q,h3,h4⟩:=h;have:(do s;pure .skip:Sem Next).run P w=.ok .skip w':=by simp[Q]
 rw[this];exact K m undef w' (.tuple [] [] .nil) h3 h4
def D_{s:Sem D}(rh:RH m H w)(e:C=H)(h:VR m v v')(R:s.run P w=.ok v' w):wz P m H w s v C:=by
 subst e;exact⟨m,v',w,R,h,rh,Ex.refl _ _ _⟩
theorem Pt{b:Builtin}{ats:List aG}(rh:RH m H w)(h:zW b ats args P H=.mem v C)(ha:kT m args args')(K:∀m' v' w',VR m' v v'->RH m' C w'->Ex m m' H C w w'->next (a.put o.dst v') w'):o.upon P a next h1 ((builtin b ⟨ats⟩ ty E ⟨args'⟩).run P w):=by
 cases b
 case append=>exact pZ (WT rh (nO (o:=C8 P ats args H) h) ha) K
 case copy=>exact pZ (adq rh (nO (o:=L9 P ats args H) h) ha) K
 case clear=>exact pZ (Zp rh (nO (o:=F8 P ats args H) h) ha) K
 case len=>
  have h:=UJ (o:=one (Ju P) ats args) (q:=Jz P ats args H) h;obtain⟨e,Q,I⟩:=adm (t:=ty) rh h ha;exact pZ (D_ rh e Q I) K
 case max=>exact(Sd (o:=O6 f args) h).elim
 case min=>exact(Sd (o:=O6 aA args) h).elim
 all_goals first
  |cases h
  |exact pZ (WW (λ_ _ _ _ _=>rfl) (λ_ _ _ _ _ _=>rfl) rh (nO (o:=EU args H) h) ha) K
  |exact pZ (Pp ⟨_,_,_,_,_,λ_ _ _ _ _=>rfl⟩ rh (nO (o:=wL P ats args H) h) ha) K
theorem UK{cf:kM}(rh:RH m s.H w)(h:yh o.op P cf s=.mem v C)(e:Mq m s ρ o.op.operands.toList)(hcall:∀c,o.op=.call c->isBuiltin c.callee=W->o.upon P a next h1 ((execOp ρ o).run P w))(K:∀m' v' w',VR m' v v'->RH m' C w'->Ex m m' s.H C w w'->next (a.put o.dst v') w'):o.upon P a next h1 ((execOp ρ o).run P w):=by
 cases hop:o.op
 case alloc t=>
  rw[hop]at h e;simp only[execOp,hop];exact pZ (Zj rh<|nO h) K
 case box t x=>
  rw[hop]at h e;simp only[execOp,hop];exact pZ (agl rh (nO h)<|e.FU x) K
 case buildSlice t n ps=>
  rw[hop]at h e;simp only[execOp,hop];exact pZ (R5 rh (nO h)<|e.pairs ps (by intro x J;simp[fU];exact⟨x.1,by simpa using J⟩)) K
 case mapUpdate t x k hc=>
  rw[hop]at h e;simp only[execOp,hop];exact Mr (WN rh (nO h) (e.FU x) (e.FU k)<|e.FU hc) K
 case load t x=>
  rw[hop]at h e;simp only[execOp,hop];obtain⟨Q,v',I,h3⟩:=UD rh (nO h)<|e.FU x;exact pZ (D_ rh Q I h3) K
 case store t x hc=>
  rw[hop]at h e;simp only[execOp,hop];exact Mr (Zi rh (nO h) (e.FU x)<|e.FU hc) K
 case convert c d x=>
  rw[hop]at h e;simp only[execOp,hop];exact pZ (Zr rh (UJ (o:=Cb P c d<|ev s x) (q:=uh P c d (ev s x) s.H) h)<|e.FU x) K
 case makeMap t r=>
  rw[hop]at h e;simp only[execOp,hop];exact pZ (R9 rh (nO h)<|e.opt r (by intro x J;simp[fU]at J|-;simp[J])) K
 case makeSlice t l c=>
  rw[hop]at h e;simp only[execOp,hop];exact pZ (ND rh (nO h) (e.FU l)<|e.FU c) K
 case lookup t x k ok=>
  rw[hop]at h e;simp only[execOp,hop];obtain⟨Q,v',I,h3⟩:=WK rh (nO h) (e.FU x)<|e.FU k;exact pZ (D_ rh Q I h3) K
 case call c=>
  rw[hop]at h e;cases hb:isBuiltin c.callee with
  |none=>exact hcall c hop hb
  |some b=>
   obtain⟨callee,⟨args⟩,ats⟩:=c;cases callee with
   |value av=>cases hb
   |invoke r n=>cases hb
   |builtin b=>
    have h:zW b ats.toList (mp (ev s) args) P s.H=.mem v C:=h
    obtain⟨E,hcs⟩:∃E,∀w,(execOp ρ o).run P w=(builtin b ⟨ats.toList⟩ o.type E ⟨args.map ρ⟩).run P w:=
     ⟨args.toArray.map λ|.const _=>f|_=>aA,λw=>by
      simp only[execOp,hop,resolve,invoke,cB,dF,bN,tZ];rfl⟩
    rw[hcs];exact Pt rh h (e.list args (by intro x J;simp[fU,jl,J])) K
 all_goals(rw[hop]at h;first|cases h|exact(Sd h).elim)
end mem
section mem
variable{P:aS}
def Pv{cf:kM}(hcf:E6 P n cf)(gl:Gl n m){av:bO}{args:List bO}(rh:RH m s.H w)(hop:o.op=.call ⟨.value av,⟨args⟩,ats⟩)(h:wu ⟨.value av,⟨args⟩,ats⟩ P cf s=.mem v C)(e:Mq m s ρ o.op.operands.toList)(K:∀m' v' w',VR m' v v'->RH m' C w'->Ex m m' s.H C w w'->next (a.put o.dst v') w'):o.upon P a next h1 ((execOp ρ o).run P w):=by
 replace h:rm (aK (aK (YO<|ev s av) λq=>aK (fFn q.1) λg=>Z (g,q.2)) λq=>cf q.1 (app q.2.1<|app (mp (ev s) args) q.2.2) s.H)=.mem v C:=h;replace h:=nO h;obtain⟨q,hq,h⟩:=aI h;obtain⟨p,hp,hq⟩:=aI hq;obtain⟨g,hg,hq⟩:=aI hq;cases hq;rw[hop]at e;have hf:=e.all av (by simp[fU,jl]);rw[Nr hp,Ns hg]at hf;obtain⟨p0,p1,p2⟩:=p;obtain⟨x',y',hh,J,hy⟩:=hf.Y3
 have hargs:kT m (app p1<|app (mp (ev s) args) p2) (x'++(args.map ρ++y')):=by
  rw[qd,qd];exact J.append<|(e.list args (by intro x J;simp[fU,jl,J])).append hy
 have:=hcf _ _ _ _ _ h m w _ rh gl hargs o a next h1 K
 have R:(execOp ρ o).run P w=(callFunc g ⟨x'++(args.map ρ++y')⟩).run P w:=by
  simp only[execOp,hop,resolve,hh,Deferred.ofValue,invoke,cB,dF,bN,tZ];congr 2;rw[<-iW];simp
 rw[R];exact this
end mem
section mem
variable{P:aS}
def Zs{d:eZ}(h:xy d=1):∃e,d=.pointer e:=by
 cases d<;>simp[xy]at h;exact⟨_,O⟩
theorem Se{q:FuncId×Bool}(h:methodOf P t name=Z q)(n:Nat)(w:bW):(method (n+1) t v name).run P w=.ok (q.1,v) w:=by
 obtain⟨i,hi,h⟩:=aI h;obtain⟨mm,hmm,h⟩:=aI h;obtain⟨q',hq,h⟩:=aI h;obtain⟨d,hd,h⟩:=aI h;obtain⟨hg,h⟩:=fH h;cases h;have hi:P.info? t=Z i:=hi;have hmm:i.methods.find? (·.name==name)=Z mm:=by rw[<-Array.find?_toList];exact hmm
 simp only[aZ]at hg;have hp:=aT hg.1;rw[fQ]at hp;have hp:mm.path.toList=[]:=gK hp;obtain⟨av,b⟩:=q;have hg2:=hg.2;cases b with
 |true=>
  replace hg2:ay (xy d) 1=f:=hg2;obtain⟨e,rfl⟩:=Zs<|aT hg2;simp[method,yK hi,hmm,hp,follow,hq,receiverAt,eY hd,Place.get]
 |false=>
  replace hg2:(!(ay (xy d) 1))=f:=hg2
  have hd1:∀e,d≠.pointer e:=by
   intro e he;subst he;simp[xy]at hg2
  cases d<;>first|exact absurd O (hd1 _)|simp[method,yK hi,hmm,hp,follow,hq,receiverAt,eY hd,Place.get]
def Pw{cf:kM}(hcf:E6 P n cf)(gl:Gl n m){r:bO}{args:List bO}(rh:RH m s.H w)(hop:o.op=.call ⟨.invoke r name,⟨args⟩,ats⟩)(h:wu ⟨.invoke r name,⟨args⟩,ats⟩ P cf s=.mem v C)(e:Mq m s ρ o.op.operands.toList)(K:∀m' v' w',VR m' v v'->RH m' C w'->Ex m m' s.H C w w'->next (a.put o.dst v') w'):o.upon P a next h1 ((execOp ρ o).run P w):=by
 replace h:rm (aK (aK (DY<|ev s r) λp=>aK (methodOf P p.1 name) λq=>Z (q.1,[p.2],([]:List D))) λq=>cf q.1 (app q.2.1<|app (mp (ev s) args) q.2.2) s.H)=.mem v C:=h;replace h:=nO h;obtain⟨q,hq,h⟩:=aI h;obtain⟨p,hp,hq⟩:=aI hq;obtain⟨g,hg,hq⟩:=aI hq;cases hq;rw[hop]at e;have hf:=e.all r (by simp[fU,jl]);rw[Wq hp]at hf;obtain⟨x',hh,J⟩:=hf.O8
 have hargs:kT m (app [p.2]<|app (mp (ev s) args) []) ([x']++(args.map ρ++[])):=by
  rw[qd,qd];exact(kT.cons _ _ _ _ J .nil).append<|(e.list args (by intro x J;simp[fU,jl,J])).append .nil
 have:=hcf _ _ _ _ _ h m w _ rh gl hargs o a next h1 K
 have R:(execOp ρ o).run P w=(callFunc g.1 ⟨[x']++(args.map ρ++[])⟩).run P w:=by
  have hm:=Se (v:=x') hg (P.types.size+Made.depth-1) w
  have hd:P.types.size+Made.depth-1+1=P.types.size+Made.depth:=by
   have:1<=Made.depth:=by decide
   omega
  rw[hd]at hm;have ht:(List.map ρ args).take args.length=List.map ρ args:=cK (by simp);simp[execOp,hop,resolve,invoke,callMethod,hh,hm,ht]
 rw[R];exact this
end mem
def Ea(n:Nat)(x:bO):Bool:=@Operand.rec (λ_=>Bool) (λ_=>f) (λv=>mU v) (λg=>aB (bU g) n) (λ_=>f) x
def JQ(nt:Nat)(d:Option Nat):Bool:=@aN Nat (λ_=>Bool) f (λd=>aB (bU d) nt) d
def wT(n nt:Nat)(o:Oper):Bool:=all' (Ea n) o.op.operands.toList&&JQ nt o.dst
section mem
variable{P:aS}
structure FR(m:Mp)(s:St)(a:Act):Prop where
 size:a.tmps.size=s.nt
 slot:∀t,VR m (ig s t)<|a.tmps.getD t undef
def FR.mono(h:FR m s a)(hm:Mp.le m m'):FR m' s a:=⟨h.size,λt=>(h.slot t).mono hm⟩
def FR.ev(h:FR m s a)(g:Gl n m)(hL:all' (Ea n) L=f):Mq m s a.eval L:=by
 refine⟨λx J=>?_⟩;rw[all_eq]at hL;have J:=eD.1 hL x J;cases x with
 |tmp t=>exact h.slot t
 |const v=>exact .sc v J
 |global k=>
  obtain⟨l,Q,I,h3,h4⟩:=g k<|aD J;have:=VR.ptr (m:=m) k 0 l Q N;rw[I,h3,h4]at this;exact this
 |func av=>exact .func (.func av) [] [] [] [] .nil .nil
def FR.put(h:FR m s a)(hd:JQ s.nt d=f)(hv:VR m v v'):FR m (jg s d v C) (a.put d v'):=by
 cases d with
 |none=>exact⟨h.size,h.slot⟩
 |some d=>
  have hd:d<s.nt:=aD hd
  have hget:∀t,(a.tmps.setIfInBounds d v').getD t undef=if t=d then v' else a.tmps.getD t undef:=by
   intro t
   by_cases e:t=d
   .subst e;rw[if_pos O];simp[Array.getD,h.size,hd]
   .rw[if_neg e];simp only[gG];rw[jM (oJ e)]
  show FR m (qi s d v C) {a with tmps:=a.tmps.setIfInBounds d v'};unfold qi;cases hb:gQ s.nl d with
  |true=>
   show FR m ⟨s.nl,s.nt,s.reg,bR (aB (bU d) s.nt) (s.tm.set top d v) s.tm,s.df,C⟩ _;rw[show aB (bU d) s.nt=f from aH hd];refine⟨by simpa using h.size,λt=>?_⟩;rw[hget];have hl:=h.slot t;unfold ig at hl|-;simp only at hl|-
   by_cases e:t=d
   .subst e;rw[if_pos O,hb];show VR m ((s.tm.set top t v).get top t) v';rw[Tr.uM,if_pos O];exact hv
   .rw[if_neg e];cases hbt:gQ s.nl t with
    |true=>
     rw[hbt]at hl;show VR m ((s.tm.set top d v).get top t) _;rw[Tr.uM,if_neg e];exact hl
    |false=>rw[hbt]at hl;exact hl
  |false=>
   show FR m ⟨s.nl,s.nt,(d,v)::s.reg,s.tm,s.df,C⟩ _;refine⟨by simpa using h.size,λt=>?_⟩;rw[hget];have hl:=h.slot t;unfold ig at hl|-;simp only at hl|-
   by_cases e:t=d
   .subst e;rw[if_pos O,hb];show VR m (bR (ay t t) v<|look s.reg t) v';rw[show ay t t=f from dw t];exact hv
   .rw[if_neg e];cases hbt:gQ s.nl t with
    |true=>rw[hbt]at hl;exact hl
    |false=>
     rw[hbt]at hl;show VR m (bR (ay d t) v<|look s.reg t) _;rw[show ay d t=aA from by rw[<-bY];exactλg=>e (aT g).symm];exact hl
end mem
section mem
variable{P:aS}
def Zt(h:isU v=f):v=.tuple #[]:=by
 cases v with
 |tuple l=>
  obtain⟨l⟩:=l;have h:ay (len l) 0=f:=h;have h:=aT h;rw[fQ]at h;rw[gK h]
 |_=>simp[isU,YP]at h
def Zu{hc:Option Bool}(av:FR m s a)(h:AJ ops s j=Z hc):yielded ops a.tmps j=hc:=by
 obtain⟨o,ho,h⟩:=aI h;obtain⟨t,ht,h⟩:=aI h;rw[om,eB]at ho;have hs:=av.slot t
 have hy:yielded ops a.tmps j=match a.tmps[t]? with|some (.bool b)=>Z b|_=>W:=by
  unfold yielded;rw[ho];show(match(o.dst).bind (a.tmps[·]?)with|some (.bool b)=>Z b|_=>W)=_;rw[ht];rfl
 rw[hy];cases hb:jH (ig s t)with
 |some b=>
  rw[hb]at h;replace h:Z (Z b)=Z hc:=h;cases h;rw[oO hb]at hs;have hs:=hs.of_bool;rw[gG]at hs;cases hq:a.tmps[t]? with
  |none=>rw[hq]at hs;cases hs
  |some x=>rw[hq]at hs;replace hs:x=.bool b:=hs;rw[hs]
 |none=>
  rw[hb]at h;replace h:(gd (isU<|ig s t)<|Z (W:Option Bool))=Z hc:=h;obtain⟨hg,h⟩:=fH h;cases h;rw[Zt hg]at hs;obtain⟨l',hl,hv⟩:=VR.Nt (x:=[]) hs;cases hv;rw[gG]at hl;cases hq:a.tmps[t]? with
  |none=>rfl
  |some x=>rw[hq]at hl;replace hl:x=.tuple ⟨[]⟩:=hl;rw[hl]
def adt(av:FR m s a)(h:qy ops s o.guard=Z b):Region.wanted o (yielded ops a.tmps)=b:=by
 unfold Region.wanted;cases hg:o.guard with
 |none=>rw[hg]at h;cases h;rfl
 |some p=>
  rw[hg]at h;replace h:(aK (AJ ops s p.1) λhc=>Z<|@aN Bool (λ_=>Bool) aA (λb=>Au b p.2) hc)=Z b:=h;obtain⟨hc,hy,h⟩:=aI h;cases h;obtain⟨j,want⟩:=p;simp only;rw[Zu av hy];cases hc with
  |none=>rfl
  |some c=>cases c<;>cases want<;>rfl
end mem
section mem
variable{P:aS}
def put_defers(a:Act)(d:Option Tmp)(v:D):(a.put d v).defers=a.defers:=by cases d<;>rfl
def k_(s:St)(d:Option Nat)(v:D)(H:F):(jg s d v H).H=H:=by
 cases d with
 |none=>rfl
 |some d=>show(qi s d v H).H=H;unfold qi;cases gQ s.nl d<;>rfl
def yo(s:St)(d:Option Nat)(v:D)(H:F):(jg s d v H).nt=s.nt:=by
 cases d with
 |none=>rfl
 |some d=>show(qi s d v H).nt=s.nt;unfold qi;cases gQ s.nl d<;>rfl
def Dh(s:St)(d:Option Nat)(v:D)(H:F):(jg s d v H).df=s.df:=by
 cases d with
 |none=>rfl
 |some d=>show(qi s d v H).df=s.df;unfold qi;cases gQ s.nl d<;>rfl
def adu{cf:kM}(hcf:E6 P n cf)(rh:RH m s.H w)(av:FR m s a)(gl:Gl n m)(hok:wT n s.nt o=f)(hd:qM o.op=W)(h:zi P cf o s=Z s1)(K:∀m' a' w',FR m' s1 a'->RH m' s1.H w'->Ex m m' s.H s1.H w w'->a'.defers=a.defers->next a' w'):o.wp P a w next h1:=by
 unfold zi at h;rw[hd]at h;replace h:D5 o s (yh o.op P cf s)=Z s1:=h;unfold wT at hok;simp only[aZ]at hok;have e:=av.ev gl hok.1;unfold Oper.wp;cases R:yh o.op P cf s with
 |fail=>rw[R]at h;cases h
 |BP v=>
  rw[R]at h;replace h:Z (jg s o.dst v s.H)=Z s1:=h;cases h;obtain⟨v',Q,I⟩:=NJ R e λ_=>rfl;rw[I w];have hf:FR m (jg s o.dst v s.H) (a.put o.dst v'):=av.put hok.2 Q;exact K m _ w hf (by rw[k_];exact rh) (by rw[k_];exact Ex.refl _ _ _)<|put_defers _ _ _
 |mem v C=>
  rw[R]at h;replace h:Z (jg s o.dst v C)=Z s1:=h;cases h
  have K':∀m' v' w',VR m' v v'->RH m' C w'->Ex m m' s.H C w w'->next (a.put o.dst v') w':=by
   intro m' v' w' Q I h3;exact K m' _ w' ((av.mono h3.le).put hok.2 Q) (by rw[k_];exact I) (by rw[k_];exact h3)<|put_defers _ _ _
  refine UK rh R e ?_ K';intro c hop hb;rw[hop]at R;replace R:wu c P cf s=.mem v C:=R;obtain⟨callee,⟨args⟩,ats⟩:=c;cases callee with
  |value g=>exact Pv hcf gl rh hop R e K'
  |invoke r name=>exact Pw hcf gl rh hop R e K'
  |builtin b=>cases hb
end mem
section mem
variable{P:aS}
def W_{cf:kM}(hcf:E6 P n cf)(hall:all' (wT n nt) ops.toList=f)(hnd:all' (λo=>eX<|qM o.op) ops.toList=f):
 ∀(l:List Oper)(k:Nat)(m:Mp)(s s1:St)(a:Act)(w:bW),ops.toList.drop k=l->s.nt=nt->RH m s.H w->FR m s a->Gl n m->mF P cf ops l s=Z s1->
 (∀m' a' w',FR m' s1 a'->RH m' s1.H w'->Ex m m' s.H s1.H w w'->a'.defers=a.defers->s1.nt=nt->s1.df=s.df->h1 .normal a' w')->
 wpOps P ops h1 (List.range' k l.length) a w:=by
 intro l
 induction l with
 |nil=>
  intro k m s s1 a w _ hnt rh av gl h K;cases h;exact K m a w av rh (Ex.refl _ _ _) O hnt O
 |cons o l ih=>
  intro k m s s1 a w hl hnt rh av gl h K
  have hk:ops[k]?=Z o:=by
   rw[<-eB];have:=dV List.head? hl;rw[List.head?_drop]at this;exact this
  have hmem:o∈ops.toList:=aR (by rw[eB];exact hk)
  have hdrop:ops.toList.drop (k+1)=l:=by
   rw[<-List.tail_drop,hl];rfl
  rw[all_eq]at hall hnd;have ho:=eD.1 hall o hmem;have hd:=eD.1 hnd o hmem
  have hd:qM o.op=W:=by
   cases y:qM o.op with
   |none=>rfl
   |some c=>rw[y]at hd;cases hd
  replace h:(aK (aK (qy ops s o.guard) λb=>bR b (zi P cf o s)<|Z<|jg s o.dst undef s.H) λs=>mF P cf ops l s)=Z s1:=h;obtain⟨s2,Q,I⟩:=aI h;obtain⟨b,hb,h3⟩:=aI Q;have hw:=adt av hb;rw[cr,List.range'_succ];show wpOps P ops h1 (k::List.range' (k+1) l.length) a w;rw[wpOps_cons];unfold wpOp;rw[hk];simp only[hw];cases b with
  |true=>
   replace h3:zi P cf o s=Z s2:=h3;simp only[kE];left
   have aic:s2.nt=s.nt/\s2.df=s.df:=by
    unfold zi at h3;rw[hd]at h3;replace h3:D5 o s (yh o.op P cf s)=Z s2:=h3;cases R:yh o.op P cf s with
    |fail=>rw[R]at h3;cases h3
    |BP v=>rw[R]at h3;replace h3:Z (jg s o.dst v s.H)=Z s2:=h3;cases h3;exact⟨yo _ _ _ _,Dh _ _ _ _⟩
    |mem v C=>rw[R]at h3;replace h3:Z (jg s o.dst v C)=Z s2:=h3;cases h3;exact⟨yo _ _ _ _,Dh _ _ _ _⟩
   refine adu hcf rh av gl (by rw[hnt];exact ho) hd h3 ?_;intro m' a' w' f' rh' ex' hdf;refine ih (k+1) m' s2 s1 a' w' hdrop (by rw[aic.1,hnt]) rh' f' (gl.mono ex'.le) I ?_;intro m2 a2 w2 f2 rh2 ex2 agn hn2 hs2;exact K m2 a2 w2 f2 rh2 (ex'.trans ex2) (by rw[agn,hdf]) hn2 (by rw[hs2,aic.2])
  |false=>
   replace h3:Z (jg s o.dst undef s.H)=Z s2:=h3;cases h3;simp only[dh,kD];unfold wT at ho;simp only[aZ]at ho;have f':FR m (jg s o.dst undef s.H) (a.put o.dst undef):=av.put (by rw[hnt];exact ho.2)<|.tuple [] [] .nil;refine ih (k+1) m _ s1 _ w hdrop (by rw[yo,hnt]) (by rw[k_];exact rh) f' gl I ?_;intro m2 a2 w2 f2 rh2 ex2 agn hn2 hs2;rw[k_]at ex2;rw[Dh]at hs2;exact K m2 a2 w2 f2 rh2 ex2 (by rw[agn,put_defers]) hn2 hs2
end mem
section rules
variable{P:aS}
def least{p:Nat->Prop}(h:∃n,p n):∃n,p n/\∀k,k<n->¬p k:=by
 obtain⟨n,hn⟩:=h
 induction n using Nat.strongRecOn with
 |_ n ih=>
  by_cases J:∃k,k<n/\p k
  .obtain⟨k,Q,I⟩:=J;exact ih k Q I
  .exact⟨n,hn,λk hk hp=>J ⟨k,hk,hp⟩⟩
theorem Xa(hr:Nat->Act->bW->Prop)(h0:∀a w,¬hr 0 a w)(hs:∀n a w,hr (n+1) a w->c.wp P (Exit.then (hr n) h1) a w)(h:hr n a w):(Code.loop c).wp P h1 a w:=by
 classical
 refine wp_loop (λa w=>∃n,hr n a w) (λa w=>if h:∃n,hr n a w then jr (least h)else 0) ⟨n,h⟩ ?_;intro a w hI;have hf:=mW<|least hI;have hd:(if h:∃n,hr n a w then jr (least h)else 0)=jr (least hI):=dif_pos hI;rw[hd];generalize jr (least hI)=k0 at hf;cases k0 with
 |zero=>exact(h0 a w hf.1).elim
 |succ k=>
  refine wp_mono (hs k a w hf.1) ?_;intro e a' w' he;cases e with
  |normal=>
   have hI':∃n,hr n a' w':=⟨k,he⟩;refine⟨hI',?_⟩;have hd':(if h:∃n,hr n a' w' then jr (least h)else 0)=jr (least hI'):=dif_pos hI';rw[hd'];have hf':=mW<|least hI';exact Nat.lt_succ_of_le<|qD λhlt=>hf'.2 k hlt he
  |_=>exact he
def Zv(hx:Nat->Act->bW->Prop)(h1:Exit->Act->bW->Prop):Exit->Act->bW->Prop
 |.goto l,a,w=>hx l a w
 |e,a,w=>h1 e a w
theorem Sf(hr:Nat->Nat->Act->bW->Prop)(hs:∀n l a w,hr n l a w->(∃n' rest,n=n'+1/\findLabel c l=Z rest/\rest.wp P (Zv (hr n') h1) a w)\/(findLabel c l=W/\h1 (.goto l) a w))(first:c.wp P (Zv (hr n) h1) a w):(Code.scope c).wp P h1 a w:=by
 intro b k E
 have key:∀n l a w,hr n l a w->∀m₀,(∀k',gotoIn l (.inScope c::k)=Z k'->Steps P m₀ (lone (b.at a k') E w))->∃e a' w',h1 e a' w'/\Arrives P m₀ b k E e a' w':=by
  intro n
  induction n with
  |zero=>
   intro l a w hR m₀ hm;rcases hs 0 l a w hR with⟨n',rest,Q,_⟩|⟨Q,I⟩
   .cases Q
   .exact⟨_,a,w,I,λk' hk=>hm k'<|by simp[gotoIn,Q,hk]⟩
  |succ n ih=>
   intro l a w hR m₀ hm;rcases hs (n+1) l a w hR with⟨n',rest,Q,I,h3⟩|⟨Q,I⟩
   .cases Q;obtain⟨e,a₁,w₁,hq,harr⟩:=h3 b (.inScope c::k) E;have hg:=hm (.code rest::.inScope c::k) (by simp[gotoIn,I]);cases e with
    |normal=>exact⟨.normal,a₁,w₁,hq,hg.trans<|Steps.trans harr<|.one step_inScope⟩
    |exit id=>exact⟨.exit id,a₁,w₁,hq,λk' hk=>hg.trans<|harr k'<|by simp[exitTo,hk]⟩
    |goto l'=>exact ih l' a₁ w₁ hq m₀ λk' hk=>hg.trans<|harr k' hk
    |ret=>exact⟨_,a₁,w₁,hq,.of_steps hg harr⟩
    |panic ch=>exact⟨_,a₁,w₁,hq,.of_steps hg harr⟩
    |outgrown=>exact⟨_,a₁,w₁,hq,.of_steps hg harr⟩
   .exact⟨_,a,w,I,λk' hk=>hm k'<|by simp[gotoIn,Q,hk]⟩
 obtain⟨e,a₁,w₁,hq,harr⟩:=first b (.inScope c::k) E
 cases e with
 |normal=>exact⟨.normal,a₁,w₁,hq,.head step_scope<|Steps.trans harr<|.one step_inScope⟩
 |exit id=>exact⟨.exit id,a₁,w₁,hq,λk' hk=>.head step_scope<|harr k'<|by simp[exitTo,hk]⟩
 |goto l'=>exact key n l' a₁ w₁ hq _ λk' hk=>.head step_scope<|harr k' hk
 |ret=>exact⟨_,a₁,w₁,hq,.of_steps (.one step_scope) harr⟩
 |panic ch=>exact⟨_,a₁,w₁,hq,.of_steps (.one step_scope) harr⟩
 |outgrown=>exact⟨_,a₁,w₁,hq,.of_steps (.one step_scope) harr⟩
end rules
def codeOk(n nt:Nat):Code->Bool
 |.region _ ops _=>all' (wT n nt) ops.toList&&j4 ops
 |.seq a b=>codeOk n nt a&&codeOk n nt b
 |.cond c a b=>Ea n c&&(codeOk n nt a&&codeOk n nt b)
 |.block _ c=>codeOk n nt c
 |.loop c=>codeOk n nt c
 |.scope c=>codeOk n nt c
 |_=>f
def AX:∀{c:Code}{l:Nat}{rest:Code},codeOk n nt c=f->findLabel c l=Z rest->codeOk n nt rest=f
 |.seq a b,l,rest,y,h=>by
  simp only[codeOk,aZ]at y;simp only[findLabel]at h;cases ha:findLabel a l with
  |some r=>
   rw[ha]at h;replace h:Z (Code.seq r b)=Z rest:=h;cases h;simp only[codeOk,aZ];exact⟨AX y.1 ha,y.2⟩
  |none=>
   rw[ha]at h;exact AX y.2 h
 |.label l',l,rest,_,h=>by
  simp only[findLabel]at h;split at h
  .cases h;rfl
  .cases h
 |.skip,_,_,_,h=>by simp[findLabel]at h
 |.region ..,_,_,_,h=>by simp[findLabel]at h
 |.cond ..,_,_,_,h=>by simp[findLabel]at h
 |.block ..,_,_,_,h=>by simp[findLabel]at h
 |.loop _,_,_,_,h=>by simp[findLabel]at h
 |.rangeFunc ..,_,_,_,h=>by simp[findLabel]at h
 |.exit _,_,_,_,h=>by simp[findLabel]at h
 |.scope _,_,_,_,h=>by simp[findLabel]at h
 |.goto _,_,_,_,h=>by simp[findLabel]at h
 |.ret,_,_,_,h=>by simp[findLabel]at h
 |.refuse _,_,_,_,h=>by simp[findLabel]at h
structure At(m0:Mp)(H0:F)(w0:bW)(d0:List Deferred)(nt:Nat)(df:List Deferred)(s1:St)(a:Act)(w:bW)(m:Mp):Prop where
 fr:FR m s1 a
 rh:RH m s1.H w
 ex:Ex m0 m H0 s1.H w0 w
 de:a.defers=d0
 nt:s1.nt=nt
 df:s1.df=df
def To(m0:Mp)(H0:F)(w0:bW)(d0:List Deferred)(nt:Nat)(df:List Deferred)(s1:St)(q:Act->bW->Prop):Prop:=
 ∀m a w,At m0 H0 w0 d0 nt df s1 a w m->q a w
def Post(m0:Mp)(H0:F)(w0:bW)(d0:List Deferred)(nt:Nat)(df:List Deferred)(h1:Exit->Act->bW->Prop):Out->Prop
 |.fail=>False
 |.norm s=>To m0 H0 w0 d0 nt df s<|h1 .normal
 |.exit i s=>To m0 H0 w0 d0 nt df s<|h1<|.exit i
 |.goto l s=>To m0 H0 w0 d0 nt df s<|h1<|.goto l
 |.ret s=>To m0 H0 w0 d0 nt df s<|h1 .ret
def At.trans(Q:At m0 H0 w0 d0 nt df s1 a1 w1 m1)(I:At m1 s1.H w1 a1.defers s1.nt s1.df s2 a w m):At m0 H0 w0 d0 nt df s2 a w m:=
 ⟨I.fr,I.rh,Q.ex.trans I.ex,by rw[I.de,Q.de],by rw[I.nt,Q.nt],by rw[I.df,Q.df]⟩
def Post.from'(Q:At m0 H0 w0 d0 nt df s1 a1 w1 m1){o:Out}(h:Post m0 H0 w0 d0 nt df h1 o):Post m1 s1.H w1 a1.defers nt s1.df h1 o:=by
 have e:=Q.nt;cases o with
 |fail=>exact h
 |_=>exactλm a w I=>h m a w<|Q.trans (by rw[e];exact I)
def Post.from(Q:At m0 H0 w0 d0 nt df s1 a1 w1 m1){o:Out}(h:Post m0 H0 w0 d0 nt df h1 o):Post m1 s1.H w1 a1.defers s1.nt s1.df h1 o:=by
 cases o with
 |fail=>exact h
 |_=>exactλm a w I=>h m a w<|Q.trans I
def NK(P:aS)(cf:kM)(n nt:Nat):Prop:=∀(id:Nat)(ops:Array Oper)(s:St)(m:Mp)(a:Act)(w:bW)(h1:Exit->Act->bW->Prop),
 all' (wT n nt) ops.toList=f->j4 ops=f->s.nt=nt->RH m s.H w->FR m s a->Gl n m->
 Post m s.H w a.defers nt s.df h1 (region P cf ops f s)->(Code.region id ops f).wp P h1 a w
def NL(P:aS)(ex:Code->St->Out)(n nt:Nat):Prop:=∀(c:Code)(s:St)(m:Mp)(a:Act)(w:bW)(h1:Exit->Act->bW->Prop),
 codeOk n nt c=f->s.nt=nt->RH m s.H w->FR m s a->Gl n m->
 Post m s.H w a.defers nt s.df h1 (ex c s)->c.wp P h1 a w
def FR.clear(h:FR m s a):FR m (clear s) a:=by
 refine⟨h.size,λt=>?_⟩;have ht:=h.slot t;unfold ig at ht|-;show VR m (bR (gQ s.nl t) (s.tm.get top t)<|look [] t) _;cases hb:gQ s.nl t with
 |true=>rw[hb]at ht;exact ht
 |false=>exact .top _
section mem
variable{P:aS}
def UL{cf:kM}(hcf:E6 P n cf)(hcx:NL P cx n nt)(hdr:NK P cf n nt)(k:Nat):NL P (exec P cf cx k) n nt:=by
 intro c
 induction c with
 |skip=>intro s m a w h1 _ hnt rh av _ h;exact wp_skip<|h m a w ⟨av,rh,Ex.refl _ _ _,O,hnt,O⟩
 |label l=>intro s m a w h1 _ hnt rh av _ h;exact wp_label<|h m a w ⟨av,rh,Ex.refl _ _ _,O,hnt,O⟩
 |exit id=>intro s m a w h1 _ hnt rh av _ h;exact wp_exit<|h m a w ⟨av,rh,Ex.refl _ _ _,O,hnt,O⟩
 |goto l=>intro s m a w h1 _ hnt rh av _ h;exact wp_goto<|h m a w ⟨av,rh,Ex.refl _ _ _,O,hnt,O⟩
 |ret=>intro s m a w h1 _ hnt rh av _ h;exact wp_ret<|h m a w ⟨av,rh,Ex.refl _ _ _,O,hnt,O⟩
 |refuse=>intro s m a w h1 _ _ _ _ _ h;exact h.elim
 |rangeFunc=>intro s m a w h1 _ _ _ _ _ h;exact h.elim
 |region id ops draw=>
  intro s m a w h1 y hnt rh av gl h;simp only[codeOk,aZ]at y;cases draw with
  |true=>exact hdr id ops s m a w h1 y.1 y.2 hnt rh av gl h
  |false=>
   replace h:Post m s.H w a.defers nt s.df h1 (G4<|mF P cf ops ops.toList<|clear s):=h;cases R:mF P cf ops ops.toList (clear s)with
   |none=>rw[R]at h;exact h.elim
   |some s1=>
    rw[R]at h;replace h:To m s.H w a.defers nt s.df s1 (h1 .normal):=h
    have hpl:all' (λo=>eX<|qM o.op) ops.toList=f:=by
     have:=y.2;unfold j4 at this;rw[all_eq]at this|-;rw[eD]at this|-;intro o ho;have:=this o ho;simp only[aZ]at this;exact this.1
    have hw:wpOps P ops h1 (List.range' 0 ops.toList.length) a w:=by
     refine W_ (P:=P) hcf (n:=n) (nt:=nt) y.1 hpl ops.toList 0 m (clear s) s1 a w (by simp) hnt rh av.clear gl R ?_;intro m' a' w' f' rh' ex' hd' hn' hs';exact h m' a' w' ⟨f',rh',ex',hd',hn',hs'⟩
    refine wp_region ?_;rw[List.range_eq_range'];exact hw
 |seq x hc ihx ihy=>
  intro s m a w h1 y hnt rh av gl h;simp only[codeOk,aZ]at y;replace h:Post m s.H w a.defers nt s.df h1 (andThen (exec P cf cx k x s)<|exec P cf cx k hc):=h;refine wp_seq<|ihx s m a w _ y.1 hnt rh av gl ?_;cases J:exec P cf cx k x s with
  |fail=>rw[J]at h;exact h
  |norm s1=>
   rw[J]at h;intro m1 a1 w1 Q;have:=h.from Q;rw[Q.nt]at this;exact ihy s1 m1 a1 w1 h1 y.2 Q.nt Q.rh Q.fr (gl.mono Q.ex.le) this
  |exit i s1=>rw[J]at h;exact h
  |goto l s1=>rw[J]at h;exact h
  |ret s1=>rw[J]at h;exact h
 |cond c x hc ihx ihy=>
  intro s m a w h1 y hnt rh av gl h;simp only[codeOk,aZ]at y;replace h:Post m s.H w a.defers nt s.df h1 (GZ (jH<|ev s c) (exec P cf cx k x s)<|exec P cf cx k hc s):=h;cases hb:jH (ev s c)with
  |none=>rw[hb]at h;exact h.elim
  |some b=>
   rw[hb]at h;have hL:all' (Ea n) [c]=f:=by rw[all_eq];simp[y.1]
   have he:=(av.ev gl hL).all c (by simp);rw[oO hb]at he;have he:=he.of_bool;cases b with
   |true=>exact wp_cond_true he<|ihx s m a w h1 y.2.1 hnt rh av gl h
   |false=>exact wp_cond_false he<|ihy s m a w h1 y.2.2 hnt rh av gl h
 |block id c ih=>
  intro s m a w h1 y hnt rh av gl h;replace h:Post m s.H w a.defers nt s.df h1 (wN id<|exec P cf cx k c s):=h;refine wp_block<|ih s m a w _ y hnt rh av gl ?_;cases J:exec P cf cx k c s with
  |fail=>rw[J]at h;exact h
  |norm s1=>rw[J]at h;exact h
  |exit i s1=>
   rw[J]at h;replace h:Post m s.H w a.defers nt s.df h1 (bR (ay i id) (.norm s1)<|.exit i s1):=h;intro m1 a1 w1 Q
   by_cases e:i=id
   .subst e;rw[show ay i i=f from dw i]at h;simp only[Exit.inBlock,kE];exact h m1 a1 w1 Q
   .rw[show ay i id=aA from by rw[<-bY];exactλg=>e<|aT g]at h;simp only[Exit.inBlock,e,kD];exact h m1 a1 w1 Q
  |goto l s1=>rw[J]at h;exact h
  |ret s1=>rw[J]at h;exact h
 |loop c ih=>
  intro s m a w h1 y hnt rh av gl h;replace h:Post m s.H w a.defers nt s.df h1 (xB k (exec P cf cx k c) s):=h
  have key:∀j,Post m s.H w a.defers nt s.df h1 (xB j (exec P cf cx k c) s)->(Code.loop c).wp P h1 a w:=by
   intro j hj
   refine Xa (λj a1 w1=>∃m1 s1,At m s.H w a.defers nt s.df s1 a1 w1 m1/\Post m s.H w a.defers nt s.df h1 (xB j (exec P cf cx k c) s1)) ?_ ?_ (n:=j)
    ⟨m,s,⟨av,rh,Ex.refl _ _ _,rfl,hnt,rfl⟩,hj⟩
   .rintro a1 w1 ⟨m1,s1,_,h0⟩;exact h0
   .rintro j a1 w1 ⟨m1,s1,Q,h0⟩;replace h0:Post m s.H w a.defers nt s.df h1 (andThen (exec P cf cx k c s1)<|xB j<|exec P cf cx k c):=h0;refine ih s1 m1 a1 w1 _ y Q.nt Q.rh Q.fr (gl.mono Q.ex.le) ?_;cases J:exec P cf cx k c s1 with
    |fail=>rw[J]at h0;exact h0
    |norm s2=>
     rw[J]at h0;intro m2 a2 w2 I;exact⟨m2,s2,Q.trans (by rw[Q.nt];exact I),h0⟩
    |exit i s2=>rw[J]at h0;exact h0.from' Q
    |goto l s2=>rw[J]at h0;exact h0.from' Q
    |ret s2=>rw[J]at h0;exact h0.from' Q
  exact key k h
 |scope c ih=>
  intro s m a w h1 y hnt rh av gl h;replace h:Post m s.H w a.defers nt s.df h1 (nE cx k c<|exec P cf cx k c s):=h;have hc':codeOk n nt c=f:=y
  have pass:∀j(o:Out),Post m s.H w a.defers nt s.df h1 (nE cx j c o)->
   Post m s.H w a.defers nt s.df (Zv (λl a1 w1=>∃m1 s1,At m s.H w a.defers nt s.df s1 a1 w1 m1/\Post m s.H w a.defers nt s.df h1 (nE cx j c<|.goto l s1)) h1) o:=by
   intro j o ho;cases j with
   |zero=>exact ho.elim
   |succ j=>
    cases o with
    |fail=>exact ho
    |norm s1=>exact ho
    |exit i s1=>exact ho
    |ret s1=>exact ho
    |goto l s1=>
     intro m1 a1 w1 Q;exact⟨m1,s1,Q,ho⟩
  refine Sf (n:=k) (λj l a1 w1=>∃m1 s1,At m s.H w a.defers nt s.df s1 a1 w1 m1/\Post m s.H w a.defers nt s.df h1 (nE cx j c<|.goto l s1)) ?_<|ih s m a w _ y hnt rh av gl<|pass k _ h;rintro j l a1 w1 ⟨m1,s1,Q,h0⟩;cases j with
  |zero=>exact h0.elim
  |succ j=>
   replace h0:Post m s.H w a.defers nt s.df h1 (@aN Code (λ_=>Out) (.goto l s1) (λrest=>nE cx j c<|cx rest s1)<|findLabel c l):=h0;cases hf:findLabel c l with
   |none=>
    rw[hf]at h0;exact .inr ⟨O,h0 m1 a1 w1 Q⟩
   |some rest=>
    rw[hf]at h0;refine .inl ⟨j,rest,O,O,?_⟩;have:=(pass j _ h0).from Q;rw[Q.nt]at this;exact hcx rest s1 m1 a1 w1 _ (AX hc' hf) Q.nt Q.rh Q.fr (gl.mono Q.ex.le) this
end mem
def yt(n nt:Nat)(c:Code):Bool:=
 @Code.rec (λ_=>Bool) f (λ_ ops _=>all' (wT n nt) ops.toList&&j4 ops) (λ_ _ a b=>a&&b) (λc _ _ a b=>Ea n c&&(a&&b)) (λ_ _ a=>a) (λ_ a=>a)
  (λ_ _ _ _ _ _=>f) (λ_=>f) (λ_ a=>a) (λ_=>f) (λ_=>f) f (λ_=>f) c
def Sg(c:Code)(h:yt n nt c=f):codeOk n nt c=f:=by
 have:yt n nt c=codeOk n nt c:=by
  clear h
  induction c with
  |seq a b iha ihb=>show(yt n nt a&&yt n nt b)=_;rw[iha,ihb];rfl
  |cond c a b iha ihb=>show(Ea n c&&(yt n nt a&&yt n nt b))=_;rw[iha,ihb];rfl
  |block id a ih=>exact ih
  |loop a ih=>exact ih
  |scope a ih=>exact ih
  |_=>rfl
 rw[<-this];exact h
def Zw(n:Nat)(fn:Func):Bool:=@aN Code (λ_=>Bool) f (λc=>yt n fn.ntmps c&&!(fn.name== "runtime.NumGoroutine")) fn.body
def BH(P:aS)(n:Nat):Prop:=∀(g:FuncId)(fn:Func),P.funcs[g]?=Z fn->Zw n fn=f
def Yy(P:aS)(X:Xt):Prop:=∀(g:FuncId)(fn:Func)(args:List D)(v:D)(H C:F),P.funcs[g]?=Z fn->fn.body=W->Wm P (X g) fn.resultTypes.toList args H=Z (v,C)->
 ∀m w args',RH m H w->kT m args args'->∃m' v' w',(callFunc g ⟨args'⟩).run P w=.ok (.value v') w'/\VR m' v v'/\RH m' C w'/\Ex m m' H C w w'
def NM(P:aS)(n:Nat)(cf:kM):Prop:=∀g args v H C fn,cf g args H=Z (v,C)->P.funcs[g]?=Z fn->fn.body.isSome=f->∀m w args',RH m H w->Gl n m->kT m args args'->
 Calls P g ⟨args'⟩ w λe w'=>∃m' v',e=.returned v'/\VR m' v v'/\RH m' C w'/\Ex m m' H C w w'
def IC(P:aS)(X:Xt)(n:Nat):Prop:=∀(g:FuncId)(args:List D)(v:D)(H C:F),X.o g args H=Z (v,C)->(∃fn,P.funcs[g]?=Z fn/\fn.body.isSome=f)/\∀m w args',RH m H w->Gl n m->kT m args args'->
 Calls P g ⟨args'⟩ w λe w'=>∃m' v',e=.returned v'/\VR m' v v'/\RH m' C w'/\Ex m m' H C w w'
def IC.none{P:aS}{X:Xt}(h:∀g a H,X.o g a H=W):IC P X n:=λg a v H C e=>by rw[h]at e;cases e
def xD{P:aS}{X:Xt}{L:Lv}(h:X.o g args H=W):AO P X L k g args H=aK (nth P.funcs.toList g) λfn=>Wp P L k g (X g) fn args H:=by
 show orO (X.o g args H) _=_;rw[h];rfl
def Ck{P:aS}{X:Xt}{L:Lv}{r:D×F}(h:X.o g args H=Z r):AO P X L k g args H=Z r:=by
 show orO (X.o g args H) _=_;rw[h];rfl
section mem
variable{P:aS}
def Si(rh:RH m s.H w)(av:FR m s a)(h:kZ P s fn.results.toList=Z vs):
 ∃v',VR m (rV vs) v'/\(results fn a.tmps).run P w=.ok v' w:=by
 have key:∀(l:List ResultVar)(vs:List D),kZ P s l=Z vs->∃vs',kT m vs vs'/\
  Sem.run P (l.mapM λ|ResultVar.tmp t=>(pure (a.tmps.getD t undef):Sem D)|ResultVar.cell b t=>do loadVar t (<-asAddr (a.tmps.getD b undef))) w=Result.ok vs' w:=by
  intro l
  induction l with
  |nil=>intro vs h;cases h;exact⟨[],.nil,by simp⟩
  |cons r l ih=>
   intro vs h;replace h:(aK (C9 P s r) λv=>aK (kZ P s l) λvs=>Z<|v::vs)=Z vs:=h;obtain⟨v,hv,h⟩:=aI h;obtain⟨vs1,hvs,h⟩:=aI h;cases h;obtain⟨vs',Q,I⟩:=ih vs1 hvs;cases r with
   |tmp t=>
    replace hv:Z (ig s t)=Z v:=hv;cases hv;refine⟨_::vs',.cons _ _ _ _ (av.slot t) Q,?_⟩;simp only[vH,cB,dF,bN,I]
   |cell b t=>
    replace hv:(aK (vJ P t (ig s b) s.H) λp=>Z p.1)=Z v:=hv;obtain⟨p,hp,hv⟩:=aI hv;cases hv;have hb:=av.slot b;obtain⟨hH,v',h3,h4⟩:=UD (P:=P) rh (show vJ P t (ig s b) s.H=Z (p.1,p.2)from hp) hb;refine⟨v'::vs',.cons _ _ _ _ h3 Q,?_⟩
    have h5:∃a',a.tmps.getD b undef=.pointer (Z a'):=by
     have h:=hp;obtain⟨a0,ha0,h⟩:=aI h;rw[o8 ha0]at hb;obtain⟨l,_,_,_,h⟩:=hb.sS;exact⟨_,h⟩
    obtain⟨a',ha'⟩:=h5;rw[ha']at h4;simp only[Instr.loadAt,jv,cB,dF,bN]at h4;have has:asAddr (.pointer<|Z a')=pure a':=rfl;simp only[vH,ha',has,cB,dF,bN,h4,I]
 obtain⟨vs',Q,I⟩:=key _ _ h;have hlen:=Q.length;refine⟨if h:vs'.toArray.size=1 then vs'.toArray[0]else .tuple vs'.toArray,?_,?_⟩
 .unfold rV;cases vs with
  |nil=>cases Q;exact .tuple [] [] .nil
  |cons v vs=>
   cases Q with
   |cons _ v' _ x' hv J=>
    cases vs with
    |nil=>cases J;exact hv
    |cons rg vs=>
     have:(v'::x').toArray.size≠1:=by simp at hlen|-;intro h;rw[h]at hlen;simp at hlen
     rw[dif_neg this];exact .tuple _ _<|.cons _ _ _ _ hv J
 .show Sem.run P (do
   let vs<-fn.results.mapM (λ|ResultVar.tmp t=>(pure (a.tmps.getD t undef):Sem D)|ResultVar.cell b t=>do loadVar t (<-asAddr (a.tmps.getD b undef)))
   pure (if h:vs.size=1 then vs[0]else .tuple vs)) w=_
  simp only[cB,Array.mapM_eq_mapM_toList,Sem.run_map,I,bN,dF]
theorem agp(h:kT m args args')(nl nt:Nat)(hle:args.length<=nt)(H:F):
 FR m ⟨nl,nt,[],Tr.sD top args 0 .nil,[],H⟩ {tmps:=(⟨args'⟩:Array D)++kI (nt-(⟨args'⟩:Array D).size) undef,defers:=[]}:=by
 have hl:=h.length;refine⟨by simp;omega,λt=>?_⟩;show VR m (bR (gQ nl t) ((Tr.sD top args 0 .nil).get top t)<|look [] t) _;cases gQ nl t with
 |false=>exact .top _
 |true=>
  show VR m ((Tr.sD top args 0 .nil).get top t) _;rw[Tr.lV]
  by_cases ht:t<args.length
  .rw[if_pos N];have hg:args[t]?=Z (args.getD t top):=by rw[bC,au ht];rfl
   obtain⟨v',Q,I⟩:=h.get t hg
   have:((⟨args'⟩:Array D)++kI (nt-(⟨args'⟩:Array D).size) undef).getD t undef=v':=by
    rw[gG,qR (by simp;omega)];simp[Q]
   rw[this];exact I
  .rw[if_neg N,Tr.get_nil];exact .top _
def Xb{o:Out}{hr:Ending->bW->Prop}(h:Nn o=Z s)(K:∀a' w' m',At m H w [] nt [] s a' w' m'->a'.defers=[]/\∃v,(results fn a'.tmps).run P w'=.ok v w'/\hr (.returned v) w'):
 Post m H w [] nt [] (bodyPost P fn hr) o:=by
 cases o with
 |fail=>cases h
 |norm s1=>cases h;intro m' a' w' ha;exact K a' w' m' ha
 |exit=>cases h
 |goto=>cases h
 |ret s1=>cases h;intro m' a' w' ha;exact K a' w' m' ha
def Xc{X:Xt}{L:Lv}(hP:BH P n)(hO:IC P X n)(hcf:E6 P n L.ca)(hcx:∀nt,NL P L.cx n nt)(hdr:∀nt,NK P L.ca n nt)(k:Nat):
 NM P n (AO P X L k):=by
 intro g args v H C fn h hg hb m w args' rh gl hv;cases hor:X.o g args H with
 |some r=>
  rw[Ck hor]at h;cases h;exact(hO g args v H C hor).2 m w args' rh gl hv
 |none=>
 rw[xD hor]at h;obtain⟨fn',hfn,h⟩:=aI h;rw[om,eB,hg]at hfn;cases hfn;have hok:=hP g fn hg;cases hbody:fn.body with
 |none=>rw[hbody]at hb;cases hb
 |some c=>
  replace h:(@aN Code (λ_=>Option<|D×F) (Wm P (X g) fn.resultTypes.toList args H)
   (λc=>gd (aB (len args) fn.ntmps)<|aK (Nn<|exec P L.ca L.cx k c ⟨jm P g,fn.ntmps,[],Tr.sD top args 0 .nil,[],H⟩) λs=>G5 P fn s) fn.body)=Z (v,C):=h
  unfold Zw at hok;rw[hbody]at h hok;replace h:(gd (aB (len args) fn.ntmps)<|aK (Nn<|exec P L.ca L.cx k c ⟨jm P g,fn.ntmps,[],Tr.sD top args 0 .nil,[],H⟩) λs=>G5 P fn s)=Z (v,C):=h;replace hok:(yt n fn.ntmps c&&!(fn.name== "runtime.NumGoroutine"))=f:=hok;rw[aZ]at hok;obtain⟨hle,h⟩:=fH h;have hle:=aD hle;rw[fQ]at hle;obtain⟨s,hs,h⟩:=aI h;obtain⟨hdf,h⟩:=fH h;obtain⟨vs,hvs,h⟩:=aI h;cases h;refine calls_of_wp hg hbody ?_;refine UL hcf (hcx fn.ntmps) (hdr fn.ntmps) k c ⟨jm P g,fn.ntmps,[],Tr.sD top args 0 .nil,[],H⟩ m _ w _ (Sg c hok.1) O rh (agp hv (jm P g) fn.ntmps hle H) gl ?_;refine Xb hs ?_;intro a' w' m' ha;obtain⟨v',Q,I⟩:=Si ha.rh ha.fr hvs;exact⟨ha.de,v',I,m',v',O,Q,ha.rh,ha.ex⟩
def adv{X:Xt}{L:Lv}(hP:BH P n)(hX:Yy P X)(hO:IC P X n)(y:NM P n<|AO P X L k):E6 P n (AO P X L k):=by
 intro g args v H C h m w args' rh gl hv o a next h1 K
 have h0:=h
 have akP:∃fn,P.funcs[g]?=Z fn/\(fn.body=W->X.o g args H=W):=by
  cases hor:X.o g args H with
  |some r=>
   obtain⟨⟨fn,Q,I⟩,_⟩:=hO g args r.1 H r.2 hor;exact⟨fn,Q,λh3=>by rw[h3]at I;cases I⟩
  |none=>
   rw[xD hor]at h;obtain⟨fn,Q,_⟩:=aI h;rw[om,eB]at Q;exact⟨fn,Q,λ_=>rfl⟩
 obtain⟨fn,hfn,hno⟩:=akP;cases hbody:fn.body with
 |some c=>
  have hok:=hP g fn hfn;unfold Zw at hok;rw[hbody]at hok;replace hok:(yt n fn.ntmps c&&!(fn.name== "runtime.NumGoroutine"))=f:=hok;rw[aZ]at hok;have hn:fn.name≠ "runtime.NumGoroutine" :=by simpa using hok.2
  have R:(callFunc g ⟨args'⟩).run P w=.ok (.enter g ⟨args'⟩) w:=by
   simp[callFunc,hfn,hn,hbody]
  rw[R,Oper.upon_enter];refine(y g args v H C fn h0 hfn (by rw[hbody];rfl) m w args' rh gl hv).mono ?_;rintro e w' ⟨m',v',rfl,Q,I,h3⟩;exact K m' v' w' Q I h3
 |none=>
  rw[xD (hno hbody),om,eB,hfn]at h
  replace h:(@aN Code (λ_=>Option<|D×F) (Wm P (X g) fn.resultTypes.toList args H)
   (λc=>gd (aB (len args) fn.ntmps)<|aK (Nn<|exec P L.ca L.cx k c ⟨jm P g,fn.ntmps,[],Tr.sD top args 0 .nil,[],H⟩) λs=>G5 P fn s) fn.body)=Z (v,C):=h
  rw[hbody]at h;obtain⟨m',v',w',Q,I,h3,h4⟩:=hX g fn args v H C hfn hbody h m w args' rh hv;rw[Q,Oper.upon_value];exact K m' v' w' I h3 h4
def Zx{X:Xt}(hP:BH P n)(hX:Yy P X)(hO:IC P X n)(hdr:∀cf,E6 P n cf->∀nt,NK P cf n nt):
 ∀k,E6 P n (lv P X k).ca/\(∀nt,NL P (lv P X k).cx n nt)/\NM P n (lv P X k).ca:=by
 intro k
 induction k with
 |zero=>
  refine⟨?_,?_,?_⟩
  .intro g args v H C h;cases h
  .intro nt c s m a w h1 _ _ _ _ _ h;exact h.elim
  .intro g args v H C fn h;cases h
 |succ k ih=>
  have y:=Xc (X:=X) hP hO ih.1 ih.2.1 (hdr _ ih.1) k;exact⟨adv hP hX hO y,λnt=>UL ih.1 (ih.2.1 nt) (hdr _ ih.1 nt) k,y⟩
end mem
def Mp.upto(m:Mp)(b:Nat):Mp:=λr=>if r<b then m r else W
def Mp.UM(m:Mp)(b:Nat):Mp.le (m.upto b) m:=by
 intro r l h;unfold Mp.upto at h;split at h
 .exact h
 .cases h
def Mp.wU{b b':Nat}(hm:Mp.le m m')(hb:b<=b'):Mp.le (m.upto b) (m'.upto b'):=by
 intro r l h;unfold Mp.upto at h|-;split at h
 .next Q=>rw[if_pos N];exact hm r l h
 .cases h
def Mp.oH{b:Nat}(h:m.upto b r=Z l):r<b/\m r=Z l:=by
 unfold Mp.upto at h;split at h
 .next Q=>exact⟨Q,h⟩
 .cases h
def Mp.E7{b:Nat}(h:m r=Z l)(R:r<b):m.upto b r=Z l:=by
 unfold Mp.upto;rw[if_pos R];exact h
def E8(h:gD (fI es)=f):False:=by
 have:=aD h;unfold fI at this;have e:aV 18446744073709551616 es=18446744073709551616+es:=rfl;omega
mutual
theorem VR.restrict(hm:Mp.le m1 m2):∀{x v v':D},VR m2 x v'->VR m1 x v->VR m1 x v'
 |_,_,_,.sc v h,_=>.sc v h
 |_,_,_,.top v,_=>.top v
 |_,_,_,.ptr r off l h hl,g=>by
  obtain⟨l1,Q,I,_,_⟩:=g.sS;have:=hm _ _ Q;simp only at this Q;rw[h]at this;cases this;exact .ptr r off l Q hl
 |_,_,_,.slice r off n cp l h hl hk hn,g=>by
  cases g with
  |sc _ hs=>simp[Ae.mU,eX]at hs
  |slice _ _ _ _ l1 Q _ _ _=>
   have:=hm _ _ Q;rw[h]at this;cases this;exact .slice r off n cp l Q hl hk hn
  |rW=>exact(E8 hk).elim
  |vK=>exact .vK _ _
  |tH=>exact(E8 hk).elim
 |_,_,_,.rW r off n es cc l h hl he ht y hN,g=>by
  generalize I8:fI es=cu at g;cases g with
  |sc _ hs=>simp[Ae.mU,eX]at hs
  |slice _ _ _ _ l1 Q _ hk _=>subst I8;exact(E8 hk).elim
  |rW _ _ _ es1 _ l1 Q _ _ _ _ _=>
   have:=hm _ _ Q;rw[h]at this;cases this;rw[<-I8];exact .rW r off n es cc l Q hl he ht y hN
  |vK=>unfold fI at I8;have e:aV 18446744073709551616 es=18446744073709551616+es:=rfl;omega
  |tH _ _ es1 _ l1 Q _ _ _=>
   have:=hm _ _ Q;rw[h]at this;cases this;rw[<-I8];exact .rW r off _ es cc l Q hl he ht y hN
 |_,_,_,.vK a a',_=>.vK a a'
 |_,_,_,.tH r off es a' l h hl he hN,g=>by
  generalize I8:fI es=cu at g;cases g with
  |sc _ hs=>simp[Ae.mU,eX]at hs
  |slice _ _ _ _ l1 Q _ hk _=>subst I8;exact(E8 hk).elim
  |rW _ _ _ es1 _ l1 Q _ _ _ _ _=>
   have:=hm _ _ Q;rw[h]at this;cases this;rw[<-I8];exact .tH r off es a' l Q hl he hN
  |vK=>unfold fI at I8;have e:aV 18446744073709551616 es=18446744073709551616+es:=rfl;omega
  |tH _ _ es1 _ l1 Q _ _ _=>
   have:=hm _ _ Q;rw[h]at this;cases this;rw[<-I8];exact .tH r off es a' l Q hl he hN
 |_,_,_,.map r l h,g=>by
  obtain⟨l1,Q,_⟩:=g.of_map;have:=hm _ _ Q;rw[h]at this;cases this;exact .map r l Q
 |_,_,_,.func av x hc x' y' J hy,g=>by
  obtain⟨_,_,rfl,Q,I⟩:=g.Y3;exact .func av x hc x' y' (kT.restrict hm J Q)<|kT.restrict hm hy I
 |_,_,_,.iface t v v' h,g=>by
  obtain⟨_,rfl,Q⟩:=g.O8;exact .iface t v v'<|VR.restrict hm h Q
 |_,_,_,.agg x x' h,g=>by
  obtain⟨_,rfl,Q⟩:=g.wP;exact .agg x x'<|kT.restrict hm h Q
 |_,_,_,.tuple x x' h,g=>by
  obtain⟨_,rfl,Q⟩:=g.Nt;exact .tuple x x'<|kT.restrict hm h Q
theorem kT.restrict(hm:Mp.le m1 m2):∀{x v v':List D},kT m2 x v'->kT m1 x v->kT m1 x v'
 |_,_,_,.nil,_=>.nil
 |_,_,_,.cons v v' x x' h J,g=>by
  cases g with
  |cons _ _ _ _ g1 g2=>exact .cons v v' x x' (VR.restrict hm h g1)<|kT.restrict hm J g2
end
def Dp.restrict(hm:Mp.le m1 m2){x:List (D×D)}{v v':List MapEntry}(h:Dp m2 x v')(g:Dp m1 x v):Dp m1 x v':=by
 induction h generalizing v with
 |nil=>exact .nil
 |cons k x e l l' hk hv _ ih=>
  cases g with
  |cons _ _ _ _ _ gk gv gl=>exact .cons k x e l l' (VR.restrict hm hk gk) (VR.restrict hm hv gv)<|ih gl
def JR:lu->lu
 |.row hr=>.row ⟨hr.ty,.nil,hr.n,hr.kR,hr.fz⟩
 |o=>o
def lD:lu->Nat->Option D
 |.row hr,i=>if i<hr.n then Z (hr.cells.get top i)else W
 |_,_=>W
def mI(m:Mp)(l:Loc):lu->Obj->Prop
 |.dead,_=>True
 |.row hr,.cells E ty fr=>(ty=hr.ty/\l.base=0)/\hr.n=l.n/\E.size=l.tot/\l.lo<=hr.n/\l.base+(hr.n-l.lo)<=l.tot/\(hr.kR=aA->fr.2<=l.base+(hr.fz-l.lo))
 |.map es,.map zz _=>Dp m es zz.toList
 |.L5 s p,.stringIter s' p'=>s'=s/\p'=p/\l.base=0
 |_,_=>False
def wV(m:Mp)(l:Loc)(i:Nat)(x:D)(ob:Obj):Prop:=∃E ty fr v,ob=.cells E ty fr/\E[l.base+(i-l.lo)]?=Z v/\VR m x v
theorem mI.Sj{o:lu}(h:mI m l o ob)(e:JR o=JR o'):mI m l o' ob:=by
 cases o<;>cases o'<;>simp only[JR]at e<;>first|(cases e;exact h)|cases e|skip
 case row.row hr R'=>
  obtain⟨a1,a2,a3,a4,a5⟩:=hr;obtain⟨b1,b2,b3,b4,b5⟩:=R';simp only[lu.row.injEq,Row.mk.injEq]at e;obtain⟨rfl,_,rfl,rfl,rfl⟩:=e;cases ob<;>first|exact h|exact h.elim
theorem uE.split{o:lu}(h:uE m l o ob):mI m l o ob/\∀i x,lD o i=Z x->l.lo<=i->wV m l i x ob:=by
 cases o with
 |row hr=>
  cases ob<;>first|exact h.elim|skip
  case cells E ty fr=>
   obtain⟨Q,I,h3,h4,h5,h6,h7⟩:=h;refine⟨⟨Q,I,h3,h4,h5,h6⟩,?_⟩;intro i x J hi;simp only[lD]at J;split at J
   .next hn=>
    cases J;obtain⟨v,h8,h9⟩:=h7 i hi hn;exact⟨E,ty,fr,v,O,h8,h9⟩
   .cases J
 |dead=>exact⟨trivial,λi x J=>by cases J⟩
 |map es=>cases ob<;>first|exact h.elim|exact⟨h,λi x J=>by cases J⟩
 |L5 s p=>cases ob<;>first|exact h.elim|exact⟨h,λi x J=>by cases J⟩
theorem uE.join{o:lu}(h:mI m l o ob)(y:∀i x,lD o i=Z x->l.lo<=i->wV m l i x ob):uE m l o ob:=by
 cases o with
 |row hr=>
  cases ob<;>first|exact h.elim|skip
  case cells E ty fr=>
   obtain⟨Q,I,h3,h4,h5,h6⟩:=h;refine⟨Q,I,h3,h4,h5,h6,?_⟩;intro i hi hn;obtain⟨cs',ty',fr',v,e,h8,h9⟩:=y i _ (by simp only[lD];rw[if_pos hn]) hi;cases e;exact⟨v,h8,h9⟩
 |dead=>trivial
 |map es=>cases ob<;>first|exact h.elim|exact h
 |L5 s p=>cases ob<;>first|exact h.elim|exact h
theorem mI.mono(hm:Mp.le m m'){o:lu}(h:mI m l o ob):mI m' l o ob:=by
 cases o<;>cases ob<;>first|exact h|exact Dp.mono hm h
theorem mI.restrict(hm:Mp.le m1 m2){o:lu}(h:mI m2 l o JH)(g:mI m1 l o ob):mI m1 l o JH:=by
 cases o with
 |dead=>trivial
 |row hr=>cases JH<;>exact h
 |L5 s p=>cases JH<;>exact h
 |map es=>
  cases JH<;>first|exact h.elim|skip
  cases ob<;>first|exact g.elim|skip
  exact Dp.restrict hm h g
def wV.mono(hm:Mp.le m m'){x:D}(h:wV m l i x ob):wV m' l i x ob:=by
 obtain⟨E,ty,fr,v,Q,I,h3⟩:=h;exact⟨E,ty,fr,v,Q,I,h3.mono hm⟩
def wV.restrict(hm:Mp.le m1 m2){x:D}(h:wV m2 l i x JH)(g:wV m1 l i x ob):wV m1 l i x JH:=by
 obtain⟨E,ty,fr,v,Q,I,h3⟩:=h;obtain⟨_,_,_,_,_,_,g3⟩:=g;exact⟨E,ty,fr,v,Q,I,VR.restrict hm h3 g3⟩
theorem Zy{o:lu}(e:JR o=JR o')(h:o≠.dead):o'≠.dead:=by
 intro e';subst e';cases o<;>first|exact h O|cases e
def Cm(m i:Nat):gQ m i=m.testBit i:=by
 unfold gQ;rw[oD];have e1:Nat.shiftRight m i=m>>>i:=rfl;rw[e1,rJ];have e2:Nat.mod (m/2^i) 2=(m/2^i) %2:=rfl;rw[e2,f_,decide_eq_true_iff];exact⟨aT,λh=>by rw[h];rfl⟩
def Xd(e i:Nat):gQ (Nat.shiftLeft 1 e) i=f<->i=e:=by
 rw[Cm];have e1:Nat.shiftLeft 1 e=1<<<e:=rfl;rw[e1,Nat.one_shiftLeft,Nat.testBit_two_pow];simp[eq_comm]
def Mt(a b i:Nat):gQ (Nat.lor a b) i=(gQ a i||gQ b i):=by
 rw[Cm,Cm,Cm];exact Nat.testBit_or a b i
def Sl(i:Nat):gQ 0 i=aA:=by rw[Cm];simp
def Sn{acc:List Nat}:∀{l:List Edge}{i:Nat},gQ (yJ acc n l) i=f->∃e,e∈l/\fM .any e=f/\(i=e.on\/gQ ((nth acc<|n-1-e.on).getD 0) i=f):=by
 intro l
 induction l with
 |nil=>intro i h;rw[show yJ acc n []=0 from O,Sl]at h;cases h
 |cons e l ih=>
  intro i h;replace h:gQ (bR (fM .any e) (Nat.lor (Nat.lor (Nat.shiftLeft 1 e.on)<|(nth acc<|dA (dA n 1) e.on).getD 0)<|yJ acc n l)<|yJ acc n l) i=f:=h;cases hb:fM .any e with
  |false=>
   rw[hb]at h;obtain⟨e',Q,I⟩:=ih h;exact⟨e',bH _ Q,I⟩
  |true=>
   rw[hb]at h;replace h:gQ (Nat.lor (Nat.lor (Nat.shiftLeft 1 e.on)<|(nth acc<|dA (dA n 1) e.on).getD 0)<|yJ acc n l) i=f:=h;rw[Mt,Mt,jN,jN]at h;rcases h with(h|h)|h
   .exact⟨e,aL ..,hb,.inl<|(Xd _ _).1 h⟩
   .exact⟨e,aL ..,hb,.inr h⟩
   .obtain⟨e',Q,I⟩:=ih h;exact⟨e',bH _ Q,I⟩
def zO(ops:Array Oper)(j:Nat):Nat:=(sQ ops.toList [] 0).getD (ops.size-1-j) 0
def Mv:∀(l:List Oper)(acc:List Nat)(n:Nat),(sQ l acc n).length=l.length+acc.length:=by
 intro l
 induction l with
 |nil=>intro acc n;simp[show sQ [] acc n=acc from O]
 |cons o l ih=>
  intro acc n;rw[show sQ (o::l) acc n=sQ l (yJ acc n o.after.toList::acc) (n+1)from O,ih];simp;omega
def JS:∀(l:List Oper)(acc:List Nat)(n k:Nat),l.length<=k->(sQ l acc n).getD k 0=acc.getD (k-l.length) 0:=by
 intro l
 induction l with
 |nil=>intro acc n k _;rfl
 |cons o l ih=>
  intro acc n k hk;rw[show sQ (o::l) acc n=sQ l (yJ acc n o.after.toList::acc) (n+1)from O,ih _ _ _ (by simp at hk;omega)];simp only[cr]at hk|-;rw[show k-l.length=(k-(l.length+1))+1 from by omega];rfl
def Zz:∀(l:List Oper)(acc:List Nat)(n j:Nat)(o:Oper),acc.length=n->l[j]?=Z o->
 ∃acc',acc'.length=n+j/\(sQ l acc n).getD (l.length-1-j) 0=yJ acc' (n+j) o.after.toList/\∀k,k<n+j->acc'.getD (n+j-1-k) 0=(sQ l acc n).getD (n+l.length-1-k) 0:=by
 intro l
 induction l with
 |nil=>intro acc n j o _ h;simp at h
 |cons p l ih=>
  intro acc n j o hn h;rw[show sQ (p::l) acc n=sQ l (yJ acc n p.after.toList::acc) (n+1)from O];cases j with
  |zero=>
   simp at h;subst h;refine⟨acc,by simpa using hn,?_,?_⟩
   .rw[JS _ _ _ _ (by simp)];simp
   .intro k hk;rw[JS _ _ _ _ (by simp;omega)];simp only[cr,dD];rw[show n+(l.length+1)-1-k-l.length=(n-1-k)+1 from by omega];rfl
  |succ j=>
   obtain⟨acc',Q,I,h3⟩:=ih (yJ acc n p.after.toList::acc) (n+1) j o (by simp[hn]) (by simpa using h)
   have hj:j<l.length:=by
    have:l[j]?=Z o:=by simpa using h
    exact(bA.1 this).1
   refine⟨acc',N,?_,?_⟩
   .simp only[cr];rw[show l.length+1-1-(j+1)=l.length-1-j from by omega,I,show n+1+j=n+(j+1)from by omega]
   .intro k hk;have:=h3 k N;rw[show n+1+j-1-k=n+(j+1)-1-k from by omega,show n+1+l.length-1-k=n+(l.length+1)-1-k from by omega]at this;exact this
def Cn:∀(l:List Oper)(n j:Nat)(o:Oper),wM l n=f->l[j]?=Z o->∀e,e∈o.after.toList->fM .any e=f->e.on<n+j:=by
 intro l
 induction l with
 |nil=>intro n j o _ h;simp at h
 |cons p l ih=>
  intro n j o hb h e he hbe;replace hb:bR (all' (λe=>!(fM .any e)||aB (bU e.on) n) p.after.toList) (wM l<|bU n) aA=f:=hb;cases ha:all' (λe=>!(fM .any e)||aB (bU e.on) n) p.after.toList with
  |false=>rw[ha]at hb;cases hb
  |true=>
   rw[ha]at hb;replace hb:wM l (bU n)=f:=hb;cases j with
   |zero=>
    simp at h;subst h;rw[all_eq,eD]at ha;have:=ha e he;rw[hbe]at this;simp only[wG,qF]at this;have:=aD this;omega
   |succ j=>
    have:=ih (n+1) j o hb (by simpa using h) e he hbe;omega
def mD(hb:wM ops.toList 0=f)(hD:∀j o,ops[j]?=Z o->ae j->∀e,e∈o.after.toList->fM .any e=f->ae e.on):
 ∀(j:Nat)(o:Oper),ops[j]?=Z o->(∀e,e∈o.after.toList->fM .any e=f->ae e.on)->∀i,gQ (zO ops j) i=f->ae i:=by
 intro j
 induction j using Nat.strongRecOn with
 |_ j ih=>
  intro o ho hall i hi;have hol:ops.toList[j]?=Z o:=by rw[eB];exact ho
  obtain⟨acc',Q,I,h3⟩:=Zz ops.toList [] 0 j o O hol;unfold zO at hi;rw[show ops.size-1-j=ops.toList.length-1-j from by simp,I]at hi;obtain⟨e,he,hbe,hie⟩:=Sn hi;have hlt:=Cn _ 0 j o hb hol e he hbe;rcases hie with rfl|hie
  .exact hall e he hbe
  .have hDe:=hall e he hbe;have hjs:j<ops.size:=(dR.1 ho).1;have hoe:ops[e.on]?=Z ops[e.on]:=bq N;refine ih e.on N _ hoe (hD e.on _ hoe hDe) i ?_;have h4:=h3 e.on N;unfold zO;rw[show ops.size-1-e.on=0+ops.toList.length-1-e.on from by simp,<-h4];rw[om]at hie;rw[bC];exact hie
def NN{av:α->α->Bool->Bool}{x:α}{m:Nat}:∀{l:List α},je av x m l=f->∀i hc,l[i]?=Z hc->av x hc (gQ m<|l.length-1-i)=f:=by
 intro l
 induction l with
 |nil=>intro _ i hc h;simp at h
 |cons z l ih=>
  intro h i hc hy;replace h:bR (av x z<|gQ m<|len l) (je av x m l) aA=f:=h;cases hf:av x z (gQ m<|len l)with
  |false=>rw[hf]at h;cases h
  |true=>
   rw[hf]at h;cases i with
   |zero=>simp at hy;subst hy;rw[fQ]at hf;simpa using hf
   |succ i=>
    have:=ih h i hc (by simpa using hy);simp only[cr];rw[show l.length+1-1-(i+1)=l.length-1-i from by omega];exact this
def JU{av:α->α->Bool->Bool}:∀{ms:List Nat}{xs:List α},pairs av ms xs=f->∀i j x hc,i<j->xs[i]?=Z x->xs[j]?=Z hc->i<ms.length->
 av x hc (gQ (ms.getD i 0)<|xs.length-1-j)=f:=by
 intro ms
 induction ms with
 |nil=>intro xs _ i j x hc _ _ _ h;simp at h
 |cons m ms ih=>
  intro xs h i j x hc hij J hy hi;cases xs with
  |nil=>simp at J
  |cons z xs=>
   replace h:bR (je av z m xs) (pairs av ms xs) aA=f:=h;cases R:je av z m xs with
   |false=>rw[R]at h;cases h
   |true=>
    rw[R]at h;cases j with
    |zero=>omega
    |succ j=>
     simp only[cr];rw[show xs.length+1-1-(j+1)=xs.length-1-j from by omega];cases i with
     |zero=>
      simp at J;subst J;exact NN R j hc (by simpa using hy)
     |succ i=>exact ih h i j x hc N (by simpa using J) (by simpa using hy) (by simpa using hi)
section mem
variable{P:aS}
def Sq{ax:Prop}(h:o.wp P a w next h1)(hn:∀a w,next a w->ax)(hq:∀e a w,h1 e a w->ax):ax:=by
 unfold Oper.wp at h;generalize(execOp a.eval o).run P w=r at h;cases r with
 |ok n w'=>
  cases n with
  |value v=>exact hn _ _ h
  |skip=>exact hn _ _ h
  |defer d=>exact hn _ _ h
  |enter av args=>
   obtain⟨e,w2,fr,hR,_⟩:=h [];cases e with
   |returned v=>exact hn _ _ hR
   |panicked ch=>exact hq _ _ _ hR
   |outgrown=>obtain⟨a1,w1,Q⟩:=hR;exact hq _ _ _ Q
  |row row args=>
   obtain⟨v,w2,hR,_⟩:=h default [];exact hn _ _ hR
  |_=>exact h.elim
 |halt x w'=>
  cases x with
  |panic v=>exact hq _ _ _ h
  |_=>exact h.elim
def JV{cf:kM}(hcf:E6 P n cf)(rh:RH m s.H w)(gl:Gl n m)(R:yh o.op P cf s=.mem v C)(e:Mq m s a.eval o.op.operands.toList)(K:∀m' v' w',VR m' v v'->RH m' C w'->Ex m m' s.H C w w'->next (a.put o.dst v') w'):o.wp P a w next h1:=by
 unfold Oper.wp;refine UK rh R e ?_ K;intro c hop hb;rw[hop]at R;replace R:wu c P cf s=.mem v C:=R;obtain⟨callee,⟨args⟩,ats⟩:=c;cases callee with
 |value g=>exact Pv hcf gl rh hop R e K
 |invoke r name=>exact Pw hcf gl rh hop R e K
 |builtin b=>cases hb
def Mq.gW(e:Mq m s ρ L):Mq m (gW s) ρ L:=⟨λx J=>by have:=e.all x J;cases x<;>exact this⟩
inductive JW(P:aS)(cf:kM)(ops:Array Oper)(o:Oper)(s:St):St->Cl->Prop where
 |skip (hw:qy ops s o.guard=Z aA):JW P cf ops o s (jg s o.dst undef s.H) (cl 0)
 |BP (v:D) (hw:qy ops s o.guard=Z f) (R:yh o.op P cf (gW s)=.BP v):JW P cf ops o s (jg s o.dst v s.H) (cl 0)
 |mem (v:D) (C:F) (hw:qy ops s o.guard=Z f) (R:yh o.op P cf (gW s)=.mem v C):
  JW P cf ops o s (jg s o.dst v ⟨C.vF,C.next,nN s.H.low C.low⟩) (rM P o.op s C)
def ZA{cf:kM}{c:Cl}(h:kS P cf ops o s=Z (s1,c)):JW P cf ops o s s1 c:=by
 obtain⟨b,hb,h⟩:=aI h;cases b with
 |false=>
  replace h:Z (jg s o.dst undef s.H,cl 0)=Z (s1,c):=h;cases h;exact .skip hb
 |true=>
  replace h:GY P o s (yh o.op P cf<|gW s)=Z (s1,c):=h;cases R:yh o.op P cf (gW s)with
  |fail=>rw[R]at h;cases h
  |BP v=>
   rw[R]at h;replace h:Z (jg s o.dst v s.H,cl 0)=Z (s1,c):=h;cases h;exact .BP v hb R
  |mem v C=>
   rw[R]at h;replace h:Z (jg s o.dst v ⟨C.vF,C.next,nN s.H.low C.low⟩,rM P o.op s C)=Z (s1,c):=h;cases h;exact .mem v C hb R
def TF(P:aS)(cf:kM)(ops:Array Oper)(o:Oper)(s:St):Prop:=∀v C,yh o.op P cf (gW s)=.mem v C->qy ops s o.guard=Z f->s.H.next<=C.next/\∀r,r<s.H.next->r<C.low->C.obj r=s.H.obj r
def RH.low(rh:RH m H w)(k:Nat):RH m ⟨H.vF,H.next,k⟩ w:=⟨rh.dom,rh.ok,rh.sep⟩
def trace{cf:kM}(hcf:E6 P n cf):
 ∀(l:List Oper)(s s1:St)(acc cls:List Cl)(m:Mp)(a:Act)(w:bW),(∀o,o∈l->wT n nt o=f)->s.nt=nt->RH m s.H w->FR m s a->Gl n m->
 jd P cf ops l s acc=Z (s1,cls)->
 ∃(S:Nat->St)(H':Nat->Cl),S 0=s/\S l.length=s1/\cls.length=l.length+acc.length/\(∀j,j<l.length->cls[l.length-1-j]?=Z (H' j))/\(∀k,cls[l.length+k]?=acc[k]?)/\
  ∀j o,l[j]?=Z o->JW P cf ops o (S j) (S<|j+1) (H' j)/\TF P cf ops o (S j)/\(S j).nt=nt:=by
 intro l
 induction l with
 |nil=>
  intro s s1 acc cls m a w _ hnt _ _ _ h;cases h;exact⟨λ_=>s,λ_=>cl 0,rfl,rfl,by simp,by simp,by simp,by simp⟩
 |cons o l ih=>
  intro s s1 acc cls m a w hall hnt rh av gl h;replace h:(aK (kS P cf ops o s) λq=>jd P cf ops l q.1<|q.2::acc)=Z (s1,cls):=h;obtain⟨q,hq,h⟩:=aI h;obtain⟨s2,c⟩:=q;have hst:=ZA hq;have ho:=hall o (by simp);unfold wT at ho;simp only[aZ]at ho
  have key:(∃m' a' w',RH m' s2.H w'/\FR m' s2 a'/\Gl n m')/\TF P cf ops o s/\s2.nt=nt:=by
   cases hst with
   |skip hw=>
    refine⟨⟨m,a.put o.dst undef,w,by rw[k_];exact rh,av.put (by rw[hnt];exact ho.2)<|.tuple [] [] .nil,gl⟩,?_,by rw[yo];exact hnt⟩;intro v C _ hw';rw[hw]at hw';cases hw'
   |BP v hw R=>
    have e:=(av.ev gl ho.1).gW;obtain⟨v',Q,I⟩:=NJ R e λ_=>rfl;refine⟨⟨m,a.put o.dst v',w,by rw[k_];exact rh,av.put (by rw[hnt];exact ho.2) Q,gl⟩,?_,by rw[yo];exact hnt⟩;intro v1 C hr' _;rw[R]at hr';cases hr'
   |mem v C hw R=>
    have e:=(av.ev gl ho.1).gW
    have J:o.wp P a w (λa' w'=>∃m',(RH m' (jg s o.dst v ⟨C.vF,C.next,nN s.H.low C.low⟩).H w'/\FR m' (jg s o.dst v ⟨C.vF,C.next,nN s.H.low C.low⟩) a'/\Gl n m')/\
     (s.H.next<=C.next/\∀r,r<s.H.next->r<C.low->C.obj r=s.H.obj r)) (λ_ _ _=>False):=by
     refine JV hcf (s:=gW s) (rh.low _) gl R e ?_;intro m' v' w' Q I h3;exact⟨m',⟨by rw[k_];exact I.low _,(av.mono h3.le).put (by rw[hnt];exact ho.2) Q,gl.mono h3.le⟩,h3.next,h3.vF⟩
    have:=Sq (ax:=(∃m' a' w',RH m' (jg s o.dst v ⟨C.vF,C.next,nN s.H.low C.low⟩).H w'/\FR m' (jg s o.dst v ⟨C.vF,C.next,nN s.H.low C.low⟩) a'/\Gl n m')/\
     (s.H.next<=C.next/\∀r,r<s.H.next->r<C.low->C.obj r=s.H.obj r)) J
     (λa' w' ⟨m',Q,I⟩=>⟨⟨m',a',w',Q⟩,I⟩) (λ_ _ _ h=>h.elim)
    refine⟨this.1,?_,by rw[yo];exact hnt⟩;intro v1 H1 hr' _;rw[R]at hr';cases hr';exact this.2
  obtain⟨⟨m',a',w',rh',f',gl'⟩,htf,akQ⟩:=key;obtain⟨S,H',e1,e2,e3,e4,e5,e6⟩:=ih s2 s1 (c::acc) cls m' a' w' (λp hp=>hall p<|by simp[hp]) akQ rh' f' gl' h;refine⟨λk=>match k with|0=>s|k+1=>S k,λk=>match k with|0=>c|k+1=>H' k,rfl,e2,by simp at e3|-;omega,?_,?_,?_⟩
  .intro j hj;cases j with
   |zero=>
    have:=e5 0;simpa using this
   |succ j=>
    simp only[cr]at hj|-;rw[show l.length+1-1-(j+1)=l.length-1-j from by omega];exact e4 j N
  .intro k;have:=e5<|k+1;simp only[cr];rw[show l.length+1+k=l.length+(k+1)from by omega,this];rfl
  .intro j p hp;cases j with
   |zero=>
    simp at hp;subst hp;exact⟨by simpa [e1]using hst,htf,hnt⟩
   |succ j=>exact e6 j p (by simpa using hp)
theorem ZB{o:Op}:(rM P o s C).k<=5:=by
 unfold rM;cases AM o with
 |none=>
  show(bR (aB s.H.next C.low) (bR (zx o) (cl 5)<|zy P o s) ⟨2,0,0,0,s.H,C⟩:Cl).k<=5;cases aB s.H.next C.low with
  |false=>exact aD O
  |true=>
   cases zx o with
   |true=>exact aD O
   |false=>
    show(zy P o s).k<=5;unfold zy;cases h:(aK (F9 o) λp=>aK (qg<|ev s p.2) λa=>aK (Yw P p.1) λl=>Z<|Cl.mk 4 a.block a.off (l.getD 1) hh0 hh0)with
    |none=>exact aD O
    |some q=>
     obtain⟨p,hp,h⟩:=aI h;obtain⟨a,ha,h⟩:=aI h;obtain⟨l,hl,h⟩:=aI h;cases h;exact aD O
 |some p=>
  show(@aN Addr (λ_=>Cl) ⟨2,0,0,0,s.H,C⟩ (λa=>⟨3,a.block,a.off,len<|bI<|ev s p.2,hh0,hh0⟩) (qg<|ev s p.1):Cl).k<=5;cases qg (ev s p.1)<;>exact aD O
def Xe(h:oN ops=f):wM ops.toList 0=f/\∀i j oi oj,i<j->ops[i]?=Z oi->ops[j]?=Z oj->gQ (zO ops j) i=f\/oi.apart ops oj=f:=by
 unfold oN at h;rw[aZ]at h;refine⟨h.1,λi j oi oj hij hi hj=>?_⟩;have hjs:j<ops.size:=(dR.1 hj).1
 have hget:∀k o,ops[k]?=Z o->ops.toList.reverse[ops.size-1-k]?=Z o:=by
  intro k o hk;have hks:k<ops.size:=(dR.1 hk).1;rw[List.getElem?_reverse (by simp;omega)];simp only[og];rw[show ops.size-1-(ops.size-1-k)=k from by omega,eB];exact hk
 have:=JU h.2 (ops.size-1-j) (ops.size-1-i) oj oi N (hget j oj hj) (hget i oi hi) (by rw[Mv];simp;omega);simp only[List.length_reverse,og]at this;rw[show ops.size-1-(ops.size-1-i)=i from by omega]at this;simpa [zO]using this
def ZC(h:jI ops cls=f)(hl:cls.length=ops.size)(hC:∀j,j<ops.size->cls[ops.size-1-j]?=Z (H' j))(hk:∀j,j<ops.size->(H' j).k<=5):
 ∀i j,i<j->j<ops.size->fF (H' j) (H' i) (gQ (zO ops j) i)=f:=by
 intro i j hij hj;unfold jI at h;cases hn:noTwo cls with
 |false=>
  rw[hn]at h;have:=JU (av:=fF) h (ops.size-1-j) (ops.size-1-i) (H' j) (H' i) N (hC j hj) (hC i N) (by rw[Mv];simp;omega);rw[hl,show ops.size-1-(ops.size-1-i)=i from by omega]at this;exact this
 |true=>
  have hno:∀k,k<ops.size->(H' k).k≠2/\(H' k).k≠3:=by
   intro k hk';unfold noTwo at hn;rw[all_eq,eD]at hn;have:=hn (H' k)<|aR<|hC k hk';simp only[sF,Bool.or_eq_false_iff]at this;exact⟨λe=>by rw[e]at this;exact absurd this.1<|by decide,λe=>by rw[e]at this;exact absurd this.2<|by decide⟩
  have Q:=hno i N;have I:=hno j hj;have h3:=hk i N;have h4:=hk j hj;generalize H' i=ci at Q h3|-;generalize H' j=cj at I h4|-;obtain⟨ki,_,_,_,_,_⟩:=ci;obtain⟨kj,_,_,_,_,_⟩:=cj;simp only at Q I h3 h4;have e1:ki=0\/ki=1\/ki=4\/ki=5:=by omega
  have e2:kj=0\/kj=1\/kj=4\/kj=5:=by omega
  rcases e1 with rfl|rfl|rfl|rfl<;>rcases e2 with rfl|rfl|rfl|rfl<;>rfl
def NP(h:fF hc x b=f)(J:x.k=1\/x.k=2)(hy:hc.k=1\/hc.k=2)(I:x.k=2\/hc.k=2):b=f:=by
 obtain⟨kx,_,_,_,_,_⟩:=x;obtain⟨ky,_,_,_,_,_⟩:=hc;simp only at J hy I;rcases J with rfl|rfl<;>rcases hy with rfl|rfl<;>first|(exfalso;omega)|exact h
def UN(h:fF hc x b=f)(J:x.k=3)(hy:hc.k=1\/hc.k=2):False:=by
 obtain⟨kx,_,_,_,_,_⟩:=x;obtain⟨ky,_,_,_,_,_⟩:=hc;simp only at J hy;subst J;rcases hy with rfl|rfl<;>(cases b<;>exact absurd (show aA=f from h)<|by simp)
def UO(h:fF hc x b=f)(J:x.k=1\/x.k=2)(hy:hc.k=3):b=f:=by
 obtain⟨kx,_,_,_,_,_⟩:=x;obtain⟨ky,_,_,_,_,_⟩:=hc;simp only at J hy;subst hy;rcases J with rfl|rfl<;>(cases b<;>first|rfl|exact h)
def ZD(h:fF hc x b=f)(J:x.k=3)(hy:hc.k=3):b=f\/xR x hc=f:=by
 obtain⟨kx,_,_,_,_,_⟩:=x;obtain⟨ky,_,_,_,_,_⟩:=hc;simp only at J hy;subst J hy;cases b with
 |true=>exact .inl O
 |false=>exact .inr h
def agq(h:fF hc x b=f)(J:x.k=4)(hy:hc.k=3):b=f\/xR x hc=f:=by
 obtain⟨kx,_,_,_,_,_⟩:=x;obtain⟨ky,_,_,_,_,_⟩:=hc;simp only at J hy;subst J hy;cases b with
 |true=>exact .inl O
 |false=>exact .inr h
def agr(h:fF hc x b=f)(J:x.k=3)(hy:hc.k=4):b=f\/xR x hc=f:=by
 obtain⟨kx,_,_,_,_,_⟩:=x;obtain⟨ky,_,_,_,_,_⟩:=hc;simp only at J hy;subst J hy;cases b with
 |true=>exact .inl O
 |false=>exact .inr h
def ags(h:fF hc x b=f)(J:x.k=4)(hy:hc.k=2):b=f\/mY hc x=f:=by
 obtain⟨kx,_,_,_,_,_⟩:=x;obtain⟨ky,_,_,_,_,_⟩:=hc;simp only at J hy;subst J hy;cases b with
 |true=>exact .inl O
 |false=>exact .inr h
def agt(h:fF hc x b=f)(J:x.k=2)(hy:hc.k=4):b=f\/mY x hc=f:=by
 obtain⟨kx,_,_,_,_,_⟩:=x;obtain⟨ky,_,_,_,_,_⟩:=hc;simp only at J hy;subst J hy;cases b with
 |true=>exact .inl O
 |false=>exact .inr h
end mem
section cls
variable{P:aS}
def NR{o:Op}:
 (∃p a,AM o=Z p/\qg (ev s p.1)=Z a/\rM P o s C=⟨3,a.block,a.off,len<|bI<|ev s p.2,hh0,hh0⟩)\/
 (rM P o s C=⟨2,0,0,0,s.H,C⟩)\/
 (s.H.next<=C.low/\((zx o=f/\rM P o s C=cl 5)\/rM P o s C=cl 1\/
   ∃p a l,F9 o=Z p/\qg (ev s p.2)=Z a/\Yw P p.1=Z l/\rM P o s C=⟨4,a.block,a.off,l.getD 1,hh0,hh0⟩)):=by
 have e:rM P o s C=@aN (bO×bO) (λ_=>Cl) (bR (aB s.H.next C.low) (bR (zx o) (cl 5)<|zy P o s) ⟨2,0,0,0,s.H,C⟩)
  (λp=>@aN Addr (λ_=>Cl) ⟨2,0,0,0,s.H,C⟩ (λa=>⟨3,a.block,a.off,len<|bI<|ev s p.2,hh0,hh0⟩)<|qg<|ev s p.1) (AM o):=rfl
 cases hs:AM o with
 |none=>
  rw[hs]at e;cases hb:aB s.H.next C.low with
  |false=>rw[hb]at e;exact .inr<|.inl e
  |true=>
   rw[hb]at e;refine .inr<|.inr ⟨aD hb,?_⟩;cases hf:zx o with
   |true=>rw[hf]at e;exact .inl ⟨O,e⟩
   |false=>
    rw[hf]at e;replace e:rM P o s C=zy P o s:=e;unfold zy at e;cases h:(aK (F9 o) λp=>aK (qg<|ev s p.2) λa=>aK (Yw P p.1) λl=>Z<|Cl.mk 4 a.block a.off (l.getD 1) hh0 hh0)with
    |none=>rw[h]at e;exact .inr<|.inl e
    |some q=>
     rw[h]at e;obtain⟨p,hp,h⟩:=aI h;obtain⟨a,ha,h⟩:=aI h;obtain⟨l,hl,h⟩:=aI h;cases h;exact .inr<|.inr ⟨p,a,l,hp,ha,hl,e⟩
 |some p=>
  rw[hs]at e;replace e:rM P o s C=@aN Addr (λ_=>Cl) ⟨2,0,0,0,s.H,C⟩ (λa=>⟨3,a.block,a.off,len<|bI<|ev s p.2,hh0,hh0⟩) (qg<|ev s p.1):=e;cases ha:qg (ev s p.1)with
  |none=>rw[ha]at e;exact .inr<|.inl e
  |some a=>rw[ha]at e;exact .inl ⟨p,a,O,ha,e⟩
end cls
structure Rg(P:aS)(cf:kM)(ops:Array Oper)(n nt:Nat)(S:Nat->St)(H':Nat->Cl):Prop where
 step:∀(j:Nat)(o:Oper),ops[j]?=Z o->JW P cf ops o (S j) (S<|j+1) (H' j)
 tf:∀(j:Nat)(o:Oper),ops[j]?=Z o->TF P cf ops o (S j)
 nts:∀(j:Nat)(o:Oper),ops[j]?=Z o->(S j).nt=nt
 ok:∀(j:Nat)(o:Oper),ops[j]?=Z o->wT n nt o=f
 back:wM ops.toList 0=f
 stat:∀(i j:Nat)(oi oj:Oper),i<j->ops[i]?=Z oi->ops[j]?=Z oj->gQ (zO ops j) i=f\/oi.apart ops oj=f
 dyn:∀i j,i<j->j<ops.size->fF (H' j) (H' i) (gQ (zO ops j) i)=f
def Closed(ops:Array Oper)(ae:Nat->Prop):Prop:=∀(j:Nat)(o:Oper),ops[j]?=Z o->ae j->∀e,e∈o.after.toList->fM .any e=f->ae e.on
def E9(ae:Nat->Prop)(i:Nat)(j:Nat):Prop:=ae j\/j=i
inductive Ct where
 |shape(o:lu)
 |cell(v:Option D)
def cont:Option Nat->lu->Ct
 |none,o=>.shape<|JR o
 |some i,o=>.cell<|lD o i
def Rel(κ:Option Nat)(m:Mp)(l:Loc)(c:Ct)(ob:Obj):Prop:=
 match κ,c with
 |none,.shape o=>mI m l o ob
 |some i,.cell (Z x)=>l.lo<=i->wV m l i x ob
 |_,_=>True
def Rel.mono(hm:Mp.le m m'){c:Ct}(h:Rel κ m l c ob):Rel κ m' l c ob:=by
 cases κ with
 |none=>cases c with|shape o=>exact mI.mono hm h|cell v=>trivial
 |some i=>cases c with
  |shape o=>trivial
  |cell v=>cases v with|none=>trivial|some x=>exactλhl=>wV.mono hm<|h hl
def Rel.restrict(hm:Mp.le m1 m2){c:Ct}(h:Rel κ m2 l c JH)(g:Rel κ m1 l c ob):Rel κ m1 l c JH:=by
 cases κ with
 |none=>cases c with|shape o=>exact mI.restrict hm h g|cell v=>trivial
 |some i=>cases c with
  |shape o=>trivial
  |cell v=>cases v with|none=>trivial|some x=>exactλhl=>wV.restrict hm (h hl)<|g hl
def UQ(o:lu):JR (JR o)=JR o:=by cases o<;>rfl
def Rel.jf{o:lu}(h:uE m l o ob):Rel κ m l (cont κ o) ob:=by
 cases κ with
 |none=>exact(h.split.1).Sj (UQ o).symm
 |some i=>
  show Rel (Z i) m l (.cell<|lD o i) ob;cases y:lD o i with
  |none=>trivial
  |some x=>exactλhl=>h.split.2 i x y hl
def Rel.ZE{o:lu}(h:∀κ,Rel κ m l (cont κ o) ob):uE m l o ob:=by
 refine uE.join ((show mI m l (JR o) ob from h W).Sj<|UQ o) ?_;intro i x J hl;have:=h<|Z i;rw[show cont (Z i) o=.cell (Z x)from by show Ct.cell (lD o i)=_;rw[J]]at this;exact this hl
section con
variable{S:Nat->St}
abbrev nx(S:Nat->St)(k:Nat):Nat:=(S k).H.next
abbrev at'(S:Nat->St)(κ:Option Nat)(r k:Nat):Ct:=cont κ<|(S k).H.obj r
def DI(S:Nat->St)(aa:Nat)(ae:Nat->Prop)(κ:Option Nat)(r k:Nat):Prop:=r<nx S k/\∀j,j<aa->r<nx S j->at' S κ r j≠at' S κ r (j+1)->(ae j<->j<k)
def DI.aeW(mono:∀i j,i<=j->j<=aa->nx S i<=nx S j):∀(d k:Nat),k+d<=aa->DI S aa ae κ r k->DI S aa ae κ r (k+d)->at' S κ r k=at' S κ r (k+d):=by
 intro d k hkd Q I
 have:∀e,e<=d->at' S κ r k=at' S κ r (k+e):=by
  intro e
  induction e with
  |zero=>intro _;rfl
  |succ e ih=>
   intro he;rw[ih N];apply fJ;intro hne;have R:r<nx S (k+e):=aP Q.1<|mono _ _ N N;have a1:=Q.2 (k+e) N R hne;have a2:=I.2 (k+e) N R hne;have:=a1.1<|a2.2 N;omega
 exact this d<|az _
def DI.eq(mono:∀i j,i<=j->j<=aa->nx S i<=nx S j)(hk:k<=aa)(hk':k'<=aa)(Q:DI S aa ae κ r k)(I:DI S aa ae κ r k'):at' S κ r k=at' S κ r k':=by
 rcases Nat.le_total k k' with h|h
 .have:=DI.aeW mono (k'-k) k N Q (by rw[show k+(k'-k)=k' from by omega];exact I)
  rwa [show k+(k'-k)=k' from by omega]at this
 .have:=DI.aeW mono (k-k') k' N I (by rw[show k'+(k-k')=k from by omega];exact Q);rw[show k'+(k-k')=k from by omega]at this;exact this.symm
def DI.less(h:DI S aa (E9 ae i) κ r k)(hi:r<nx S i->at' S κ r i=at' S κ r (i+1)):DI S aa ae κ r k:=by
 refine⟨h.1,λj hj R hne=>?_⟩;have hji:j≠i:=λe=>hne (by subst e;exact hi R);rw[<-h.2 j hj R hne];exact⟨.inl,λhh=>hh.resolve_right hji⟩
end con
structure MInv(S:Nat->St)(H':Nat->Cl)(aa:Nat)(m0:Mp)(w0:bW)(ae:Nat->Prop)(m:Mp)(w:bW):Prop where
 dom:∀r l,m r=Z l->(m0 r=Z l/\r<nx S 0)\/∃i,i<aa/\ae i/\nx S i<=r/\r<nx S (i+1)
 Xf:∀r l,m r=Z l->∃o,w.heap[l.c]?=Z o
 cnt:∀κ r l k o,k<=aa->m r=Z l->DI S aa ae κ r k->w.heap[l.c]?=Z o->Rel κ (m.upto<|nx S k) l (at' S κ r k) o
 sep:∀r r' l l' k k',m r=Z l->m r'=Z l'->l.c=l'.c->k<=aa->k'<=aa->DI S aa ae W r k->DI S aa ae W r' k'->(S k).H.obj r≠.dead->(S k').H.obj r'≠.dead->r=r'
 clash:∀r r' l l' j,m r=Z l->m r'=Z l'->l.c=l'.c->j<aa->¬ae j->(H' j).k=2->(r<nx S j<->r'<nx S j)
 hid:∀j r,j<aa->ae j->r<nx S j->m r=W->(S<|j+1).H.obj r=(S j).H.obj r
 le:Mp.le m0 m
 fresh:∀r l,m r=Z l->m0 r=W->l.c<w0.heap.size->∃r0 l0,m0 r0=Z l0/\l0.c=l.c/\(S aa).H.low<=r0
 os:w.os=w0.os
 tape:w.tape=w0.tape
 output:w.output=w0.output
 size:w0.heap.size<=w.heap.size
 keep:∀c,c<w0.heap.size->(∀r l,m0 r=Z l->l.c=c->r<(S aa).H.low)->w.heap[c]?=w0.heap[c]?
section u
variable{P:aS}{cf:kM}{S:Nat->St}
def Rg.Px(g:Rg P cf ops n nt S H')(hj:j<ops.size):nx S j<=nx S (j+1):=by
 have ho:ops[j]?=Z ops[j]:=bq hj;have hs:=g.step j _ ho;have htf:=g.tf j _ ho;show(S j).H.next<=(S<|j+1).H.next
 generalize S (j+1)=s1 at hs;generalize H' j=c at hs;cases hs with
 |skip hw=>rw[k_];exact az _
 |BP v hw R=>rw[k_];exact az _
 |mem v C hw R=>rw[k_];exact(htf v C R hw).1
def Rg.mono(g:Rg P cf ops n nt S H'):∀i j,i<=j->j<=ops.size->nx S i<=nx S j:=by
 intro i j hij hj;obtain⟨d,rfl⟩:=sH hij;clear hij
 induction d with
 |zero=>exact az _
 |succ d ih=>exact aX (ih N)<|g.Px N
def Di(a b:Nat):nN a b<=a/\nN a b<=b:=by
 unfold nN;cases h:aB a b with
 |true=>exact⟨az _,aD h⟩
 |false=>
  have:¬a<=b:=λh'=>by rw[aH h']at h;cases h
  exact⟨by show b<=a;omega,az _⟩
def Rg.akR(g:Rg P cf ops n nt S H')(hj:j<ops.size):(S<|j+1).H.low<=(S j).H.low:=by
 have hs:=g.step j _<|bq hj;generalize S (j+1)=s1 at hs;generalize H' j=c at hs;cases hs with
 |skip hw=>rw[k_];exact az _
 |BP v hw R=>rw[k_];exact az _
 |mem v C hw R=>rw[k_];exact(Di _ _).1
def Rg.low(g:Rg P cf ops n nt S H'):∀i j,i<=j->j<=ops.size->(S j).H.low<=(S i).H.low:=by
 intro i j hij hj;obtain⟨d,rfl⟩:=sH hij;clear hij
 induction d with
 |zero=>exact az _
 |succ d ih=>exact aX (g.akR (j:=i+d) N)<|ih N
def Rg.same(g:Rg P cf ops n nt S H')(hj:j<ops.size)(I:(H' j).k≠2)(h3:(H' j).k≠3)(R:r<nx S j):(S<|j+1).H.obj r=(S j).H.obj r:=by
 have ho:ops[j]?=Z ops[j]:=bq hj;have hs:=g.step j _ ho;have htf:=g.tf j _ ho;generalize S (j+1)=s1 at hs;generalize y:H' j=c at hs;rw[y]at I h3;cases hs with
 |skip hw=>rw[k_]
 |BP v hw R=>rw[k_]
 |mem v C hw hr'=>
  rw[k_];show C.obj r=_;rcases NR (P:=P) (o:=ops[j].op) (s:=S j) (C:=C)with⟨p,a,_,_,e⟩|e|⟨hlow,_⟩
  .rw[e]at h3;exact absurd O h3
  .rw[e]at I;exact absurd O I
  .exact(htf v C hr' hw).2 r R<|aP R hlow
def Rg.adw(g:Rg P cf ops n nt S H')(hj:j<ops.size)(R:r<nx S j)(hl:r<(S ops.size).H.low):(S<|j+1).H.obj r=(S j).H.obj r:=by
 have ho:ops[j]?=Z ops[j]:=bq hj;have hs:=g.step j _ ho;have htf:=g.tf j _ ho;have hlow:=g.low (j+1) ops.size N<|az _;generalize S (j+1)=s1 at hs hlow;generalize H' j=c at hs;cases hs with
 |skip hw=>rw[k_]
 |BP v hw R=>rw[k_]
 |mem v C hw hr'=>
  rw[k_]at hlow|-;exact(htf v C hr' hw).2 r R<|aP (aP hl hlow) (Di _ _).2
def Rg.turns(g:Rg P cf ops n nt S H')(hj:j<ops.size)(R:r<nx S j)(hne:at' S κ r j≠at' S κ r (j+1)):(H' j).k=2\/(H' j).k=3:=by
 apply fJ;intro h;exact hne (by show cont κ _=cont κ _;rw[g.same hj (λe=>h<|.inl e) (λe=>h<|.inr e) R])
def Rg.UR(g:Rg P cf ops n nt S H')(hD:Closed ops ae)(hi:i<ops.size)(DJ:¬ae i)(nP:∀e,e∈ops[i].after.toList->fM .any e=f->ae e.on)(y:(H' i).k=1\/(H' i).k=2)(R:r<nx S i):DI S ops.size ae κ r i:=by
 refine⟨R,λj hj OU hne=>?_⟩;have hcj:=g.turns hj OU hne;have hoi:ops[i]?=Z ops[i]:=bq hi;have hoj:ops[j]?=Z ops[j]:=bq hj;rcases kC j i with h|h|h
 .refine⟨λ_=>h,λ_=>?_⟩;have hd:=g.dyn j i h hi;rcases hcj with hcj|hcj
  .exact mD g.back hD i _ hoi nP j<|NP hd (.inr hcj) y<|.inl hcj
  .exact(UN hd hcj y).elim
 .subst h;exact⟨λh=>absurd h DJ,λh=>absurd h<|qI _⟩
 .refine⟨λK5=>?_,λh'=>by omega⟩;have hd:=g.dyn i j h hj
  have hb:gQ (zO ops j) i=f:=by
   rcases hcj with hcj|hcj
   .exact NP hd y (.inr hcj)<|.inr hcj
   .exact UO hd y hcj
  exact absurd (mD g.back hD j _ hoj (hD j _ hoj K5) i hb) DJ
def Rg.akS(g:Rg P cf ops n nt S H')(hD:Closed ops ae)(hi:i<ops.size)(DJ:¬ae i)(nP:∀e,e∈ops[i].after.toList->fM .any e=f->ae e.on)(y:(H' i).k=2)(R:r<nx S i):DI S ops.size (E9 ae i) κ r (i+1):=by
 have h0:=g.UR hD hi DJ nP (.inr y) (κ:=κ) R;refine⟨aP R<|g.Px hi,λj hj OU hne=>?_⟩;have:=h0.2 j hj OU hne;constructor
 .rintro(h|h)
  .have:=this.1 h;omega
  .omega
 .intro h
  by_cases e:j=i
  .exact .inr e
  .exact .inl<|this.2 N
end u
section u
variable{P:aS}{cf:kM}{S:Nat->St}
def MInv.still(h2:MInv S H' ops.size m0 w0 ae m w)(hi:i<ops.size)(hs:∀r,r<nx S i->(S<|i+1).H.obj r=(S i).H.obj r):MInv S H' ops.size m0 w0 (E9 ae i) m w where
 dom:=λr l h=>(h2.dom r l h).imp id λ⟨j,Q,I,h3⟩=>⟨j,Q,.inl I,h3⟩
 Xf:=h2.Xf
 cnt:=λκ r l k o hk hm y ho=>h2.cnt κ r l k o hk hm (y.less λR=>by show cont κ _=cont κ _;rw[hs r R]) ho
 sep:=λr r' l l' k k' Q I h3 h4 h5 h6 h7 h8 h9=>h2.sep r r' l l' k k' Q I h3 h4 h5 (h6.less λR=>by show cont W _=cont W _;rw[hs r R]) (h7.less λR=>by show cont W _=cont W _;rw[hs r' R]) h8 h9
 clash:=λr r' l l' j Q I h3 h4 h5 h6=>h2.clash r r' l l' j Q I h3 h4 (λh=>h5<|.inl h) h6
 hid:=λj r Q I h3 h4=>by
  rcases I with I|rfl
  .exact h2.hid j r Q I h3 h4
  .exact hs r h3
 le:=h2.le
 fresh:=h2.fresh
 os:=h2.os
 tape:=h2.tape
 output:=h2.output
 size:=h2.size
 keep:=h2.keep
def join(m2 m:Mp):Mp:=λr=>match m2 r with|some l=>Z l|none=>m r
def AY{o:lu}(e:cont W o=cont W o')(h:o≠.dead):o'≠.dead:=by
 have e:JR o=JR o':=by
  have:Ct.shape (JR o)=Ct.shape (JR o'):=e;injection this
 exact Zy e h
def MInv.made(g:Rg P cf ops n nt S H')(hD:Closed ops ae)(h2:MInv S H' ops.size m0 w0 ae m w)(hi:i<ops.size)(DJ:¬ae i)(nP:∀e,e∈ops[i].after.toList->fM .any e=f->ae e.on){A':F}(hA:A.next=nx S i)(hA':A'.next=nx S (i+1))(rh:RH m2 A' w')(ex:Ex (m.upto<|nx S i) m2 A A' w w')(hlow:A.next<=A'.low\/(S ops.size).H.low<=A'.low)(hnew:∀r,nx S i<=r->r<nx S (i+1)->A'.obj r=(S<|i+1).H.obj r)(h3:(H' i).k≠3)(hcase:((H' i).k=2/\(∀r,A'.obj r=(S<|i+1).H.obj r)/\(∀r,A.obj r=(S i).H.obj r))\/((H' i).k≠2/\A.next<=A'.low)):
 ∃m',MInv S H' ops.size m0 w0 (E9 ae i) m' w'/\Mp.le m m'/\Mp.le m2 (m'.upto<|nx S<|i+1):=by
 have hmono:=g.mono;have hn1:nx S i<=nx S (i+1):=g.Px hi
 have hrange:∀r l,m r=Z l->r<nx S i\/nx S (i+1)<=r:=by
  intro r l R;rcases h2.dom r l R with⟨_,h⟩|⟨j,hj,K5,Q,I⟩
  .exact .inl<|aP h<|hmono 0 i N N
  .have hji:j≠i:=λe=>DJ (e▸K5);rcases bZ j i with h|h
   .exact .inl<|aP I<|hmono (j+1) i N N
   .exact .inr<|aX (hmono (i+1) j N N) Q
 have hm2:∀r l,m2 r=Z l->r<nx S (i+1):=λr l h=>by have:=rh.dom r l h;rw[hA']at this;exact this
 have hup:∀r l,m r=Z l->r<nx S i->m2 r=Z l:=λr l h R=>ex.le r l<|Mp.E7 h R
 have hnb:∀r l,m2 r=Z l->m r≠Z l->m r=W/\nx S i<=r/\m.upto (nx S i) r=W:=by
  intro r l h hne
  have aid:m.upto (nx S i) r=W:=by
   cases hu:m.upto (nx S i) r with
   |none=>rfl
   |some l'=>
    have:=ex.le r l' hu;rw[h]at this;cases this;exact absurd (Mp.oH hu).2 hne
  have hge:=ex.new r l h aid;rw[hA]at hge;refine⟨?_,hge,aid⟩;cases hm:m r with
  |none=>rfl
  |some l'=>
   have Q:=hm2 r l h;rcases hrange r l' hm with h'|h'<;>omega
 have hj2:∀r l,m2 r=Z l->join m2 m r=Z l:=λr l h=>by unfold join;rw[h]
 have hj1:∀r l,m r=Z l->join m2 m r=Z l:=by
  intro r l h;unfold join;cases I:m2 r with
  |none=>exact h
  |some l2=>
   by_cases e:m r=Z l2
   .rw[h]at e;cases e;rfl
   .have:=(hnb r l2 I e).1;rw[h]at this;cases this
 have hcs:∀r l,join m2 m r=Z l->m r=Z l\/(m r=W/\m2 r=Z l/\nx S i<=r/\r<nx S (i+1)/\m.upto (nx S i) r=W):=by
  intro r l h;unfold join at h;cases I:m2 r with
  |none=>rw[I]at h;exact .inl h
  |some l2=>
   rw[I]at h;have hl:l2=l:=by injection h
   subst hl
   by_cases e:m r=Z l2
   .exact .inl e
   .have:=hnb r l2 I e;exact .inr ⟨this.1,O,this.2.1,hm2 r l2 I,this.2.2⟩
 have hle2:Mp.le m2 ((join m2 m).upto<|nx S<|i+1):=λr l h=>Mp.E7 (hj2 r l h)<|hm2 r l h;have agu:Mp.le m (join m2 m):=hj1
 have aie:∀r l,m r=Z l->((H' i).k≠2\/nx S i<=r)->w'.heap[l.c]?=w.heap[l.c]?:=by
  intro r l h hor;obtain⟨o,ho⟩:=h2.Xf r l h;refine ex.keep l.c (oG ho) ?_;intro r1 l1 Q hc1;have hu:=Mp.oH Q;rcases hcase with⟨hk,_,_⟩|⟨_,hlo⟩
  .rcases hor with h'|h'
   .exact absurd hk h'
   .have:=(h2.clash r r1 l l1 i h hu.2 hc1.symm hi DJ hk).2 hu.1;omega
  .rw[hA]at hlo;exact aP hu.1 hlo
 have hsame:∀κ r,((H' i).k≠2\/nx S i<=r)->r<nx S i->at' S κ r i=at' S κ r (i+1):=by
  intro κ r hor R;rcases hor with h|h
  .show cont κ _=cont κ _;rw[g.same hi h h3 R]
  .omega
 have hborn:∀κ r l,m r=W->m2 r=Z l->nx S i<=r->r<nx S (i+1)->DI S ops.size (E9 ae i) κ r (i+1):=by
  intro κ r l hm _ hge hlt;refine⟨hlt,λj hj OU hne=>?_⟩
  have hji:i<j:=by
   rcases bZ i j with h|h
   .exact h
   .have:=hmono j i h N;omega
  constructor
  .rintro(h|h)
   .exact absurd (by show cont κ _=cont κ _;rw[h2.hid j r hj h OU hm]) hne
   .omega
  .intro h;omega
 have hfr:∀r l,m2 r=Z l->m.upto (nx S i) r=W->l.c<w.heap.size->(H' i).k=2/\∃r0 l0,m r0=Z l0/\l0.c=l.c/\r0<nx S i/\A'.low<=r0:=by
  intro r l h h0 hlt;obtain⟨r0,l0,e1,e2,e3⟩:=ex.fresh r l h h0 hlt;have hu:=Mp.oH e1;refine⟨?_,r0,l0,hu.2,e2,hu.1,e3⟩;rcases hcase with⟨hk,_,_⟩|⟨_,hlo⟩
  .exact hk
  .rw[hA]at hlo;omega
 have aif:(H' i).k=2->∀κ r,r<nx S i->DI S ops.size (E9 ae i) κ r (i+1):=λhk κ r R=>g.akS hD hi DJ nP hk R
 have Sr:∀r l,join m2 m r=Z l->(m r=Z l/\((H' i).k≠2\/nx S i<=r))\/(m2 r=Z l/\(∀κ,DI S ops.size (E9 ae i) κ r<|i+1)/\A'.obj r=(S<|i+1).H.obj r/\
  ((m r=W/\nx S i<=r/\r<nx S (i+1)/\m.upto (nx S i) r=W)\/((H' i).k=2/\m r=Z l/\r<nx S i))):=by
  intro r l h;rcases hcs r l h with h|⟨Q,I,h3',h4,h5⟩
  .by_cases hor:(H' i).k≠2\/nx S i<=r
   .exact .inl ⟨h,hor⟩
   .have hk:(H' i).k=2:=fJ λe=>hor (.inl e);have R:r<nx S i:=Nat.lt_of_not_le λe=>hor<|.inr e;refine .inr ⟨hup r l h R,λκ=>aif hk κ r R,?_,.inr ⟨hk,h,R⟩⟩;rcases hcase with⟨_,h,_⟩|⟨h,_⟩
    .exact h r
    .exact absurd hk h
  .exact .inr ⟨I,λκ=>hborn κ r l Q I h3' h4,hnew r h3' h4,.inl ⟨Q,h3',h4,h5⟩⟩
 have aih:∀r r' l l',m r=Z l->((H' i).k≠2\/nx S i<=r)->m2 r'=Z l'->
  ((m r'=W/\nx S i<=r'/\r'<nx S (i+1)/\m.upto (nx S i) r'=W)\/((H' i).k=2/\m r'=Z l'/\r'<nx S i))->l.c=l'.c->False:=by
  intro r r' l l' e hor e' hk hcc;obtain⟨o,ho⟩:=h2.Xf r l e;have hlt:=oG ho;rcases hk with⟨_,_,_,hu0⟩|⟨hk2,Q,I⟩
  .obtain⟨hk2,r0,l0,f1,f2,f3,_⟩:=hfr r' l' e' hu0 (by rw[<-hcc];exact hlt);rcases hor with Q|Q
   .exact Q hk2
   .have:=(h2.clash r r0 l l0 i e f1 (by rw[f2,hcc]) hi DJ hk2).2 f3;omega
  .rcases hor with h3|h3
   .exact h3 hk2
   .have:=(h2.clash r r' l l' i e Q hcc hi DJ hk2).2 I;omega
 refine⟨join m2 m,⟨?_,?_,?_,?_,?_,?_,?_,?_,?_,?_,?_,?_,?_⟩,agu,hle2⟩
 .
  intro r l h;rcases hcs r l h with h|⟨_,_,h3',h4,_⟩
  .exact(h2.dom r l h).imp id λ⟨j,Q,I,h3⟩=>⟨j,Q,.inl I,h3⟩
  .exact .inr ⟨i,hi,.inr O,h3',h4⟩
 .
  intro r l h;rcases hcs r l h with h|⟨_,I,_⟩
  .obtain⟨o,ho⟩:=h2.Xf r l h;have:l.c<w'.heap.size:=aP (oG ho) ex.size;exact⟨w'.heap[l.c],bq this⟩
  .obtain⟨o,ho,_⟩:=rh.ok r l I;exact⟨o,ho⟩
 .
  intro κ r l k o hk hm y ho;rcases Sr r l hm with⟨h,hor⟩|⟨I,hcon,BQ,_⟩
  .rw[aie r l h hor]at ho;exact(h2.cnt κ r l k o hk h (y.less λR=>hsame κ r hor R) ho).mono<|Mp.wU agu<|az _
  .obtain⟨o2,ho2,hok⟩:=rh.ok r l I;rw[ho]at ho2;cases ho2;have hrel:Rel κ m2 l (cont κ<|A'.obj r) o:=Rel.jf hok;rw[BQ]at hrel;have heq:at' S κ r (i+1)=at' S κ r k:=DI.eq hmono N hk (hcon κ) y;replace hrel:Rel κ m2 l (at' S κ r<|i+1) o:=hrel;rw[heq]at hrel;rcases bZ i k with hik|hik
   .exact hrel.mono λr1 l1 Q=>Mp.E7 (hj2 r1 l1 Q)<|aP (hm2 r1 l1 Q)<|hmono _ _ hik hk
   .
    have hrk:=y.1;have hri:r<nx S i:=aP hrk<|hmono k i hik N
    have hmr:m r=Z l:=by
     rcases hcs r l hm with h|⟨_,_,h3',_⟩
     .exact h
     .omega
    have hnot:at' S κ r i=at' S κ r (i+1):=by
     apply fJ;intro hne;have:=(y.2 i hi hri hne).1<|.inr O;omega
    obtain⟨o0,ho0⟩:=h2.Xf r l hmr;have hold:=h2.cnt κ r l k o0 hk hmr (y.less λ_=>hnot) ho0
    have hlr:Mp.le (m.upto<|nx S k) m2:=by
     intro r1 l1 Q;have hu:=Mp.oH Q;exact hup r1 l1 hu.2<|aP hu.1<|hmono k i hik N
    exact(Rel.restrict hlr hrel hold).mono<|Mp.wU agu<|az _
 .
  intro r r' l l' k k' h h' hcc hk hk' y hc' hd hd';rcases Sr r l h with⟨e,hor⟩|⟨e,hcon,BQ,hw⟩<;>rcases Sr r' l' h' with⟨e',aii⟩|⟨e',ZF,aij,hw'⟩
  .exact h2.sep r r' l l' k k' e e' hcc hk hk' (y.less λR=>hsame W r hor R) (hc'.less λR=>hsame W r' aii R) hd hd'
  .exact(aih r r' l l' e hor e' hw' hcc).elim
  .exact(aih r' r l' l e' aii e hw hcc.symm).elim
  .refine rh.sep r r' l l' e e' ?_ ?_ hcc
   .rw[BQ];exact AY (DI.eq hmono hk N y<|hcon W) hd
   .rw[aij];exact AY (DI.eq hmono hk' N hc'<|ZF W) hd'
 .
  intro r r' l l' j h h' hcc hj K5 hkj;have hji:j≠i:=λe=>K5<|.inr e;have agv:¬ae j:=λe=>K5<|.inl e
  have hside:∀r1,nx S i<=r1->r1<nx S (i+1)->(r1<nx S j<->i<j):=by
   intro r1 Q I;constructor
   .intro h3;rcases bZ i j with h4|h4
    .exact h4
    .have:=hmono j i h4 N;omega
   .intro h3;exact aP I<|hmono _ _ h3 N
  have hone:∀r r' l l',m r=W->m2 r=Z l->nx S i<=r->r<nx S (i+1)->m.upto (nx S i) r=W->m r'=Z l'->l.c=l'.c->(r<nx S j<->r'<nx S j):=by
   intro r r' l l' Q I h3 h4 h5 h6 hcc;obtain⟨o,ho⟩:=h2.Xf r' l' h6;obtain⟨hk2,r0,l0,f1,f2,f3,_⟩:=hfr r l I h5 (by rw[hcc];exact oG ho)
   have hij:i<j:=by
    rcases bZ i j with h7|h7
    .exact h7
    .have hlt:j<i:=by omega
     have hb:=NP (g.dyn j i hlt hi) (.inr hkj) (.inr hk2)<|.inl hkj;exact absurd (mD g.back hD i _ (bq hi) nP j hb) agv
   rw[hside r h3 h4];have h8:r0<nx S j:=aP f3<|hmono i j N N;have:=(h2.clash r' r0 l' l0 j h6 f1 (by rw[f2,hcc]) hj agv hkj).2 h8;exact⟨λ_=>this,λ_=>hij⟩
  rcases hcs r l h with e|⟨a1,a2,a3,a4,a5⟩<;>rcases hcs r' l' h' with e'|⟨b1,b2,b3,b4,b5⟩
  .exact h2.clash r r' l l' j e e' hcc hj agv hkj
  .exact(hone r' r l' l b1 b2 b3 b4 b5 e hcc.symm).symm
  .exact hone r r' l l' a1 a2 a3 a4 a5 e' hcc
  .rw[hside r a3 a4,hside r' b3 b4]
 .
  intro j r hj K5 R hm
  have hmr:m r=W:=by
   cases h:m r with
   |none=>rfl
   |some l=>have:=hj1 r l h;rw[hm]at this;cases this
  rcases K5 with h|rfl
  .exact h2.hid j r hj h R hmr
  .rcases hcase with⟨hk,Q,I⟩|⟨hk,_⟩
   .rw[<-Q,<-I];refine ex.hid r (by rw[hA];exact R) ?_;unfold Mp.upto;rw[hmr];simp
   .exact g.same hi hk h3 R
 .exactλr l h=>hj1 r l<|h2.le r l h
 .
  intro r l h h0 hlt;rcases hcs r l h with e|⟨a1,a2,a3,a4,a5⟩
  .exact h2.fresh r l e h0 hlt
  .obtain⟨hk2,r0,l0,f1,f2,f3,f4⟩:=hfr r l a2 a5 (aP hlt h2.size)
   have hl2:(S ops.size).H.low<=r0:=by
    rcases hlow with Q|Q
    .rw[hA]at Q;omega
    .exact aX Q f4
   cases Q:m0 r0 with
   |some l1=>
    have:=h2.le r0 l1 Q;rw[f1]at this;cases this;exact⟨r0,l0,Q,f2,hl2⟩
   |none=>
    obtain⟨r1,l1,g1,g2,g3⟩:=h2.fresh r0 l0 f1 Q (by rw[f2];exact hlt);exact⟨r1,l1,g1,g2.trans f2,g3⟩
 .exact ex.os.trans h2.os
 .exact ex.tape.trans h2.tape
 .exact ex.output.trans h2.output
 .exact aX h2.size ex.size
 .
  intro c y hk;rw[ex.keep c (aP y h2.size),h2.keep c y hk];intro r l Q I;have hu:=Mp.oH Q;rcases hlow with h3'|h3'
  .rw[hA]at h3';exact aP hu.1 h3'
  .cases h0:m0 r with
   |some l0=>
    have:=h2.le r l0 h0;rw[hu.2]at this;cases this;exact aP (hk r l h0 I) h3'
   |none=>
    obtain⟨r0,l0,e1,e2,e3⟩:=h2.fresh r l hu.2 h0 (by rw[I];exact y);have:=hk r0 l0 e1<|e2.trans I;omega
end u
def xE{o:Option Unit}(h:pX o=f):o=Z ():=by
 cases o with
 |none=>cases h
 |some rg=>rfl
def Mw{a b:Addr}(h:addrEq a b=f):a=b:=by
 obtain⟨r,o,s⟩:=a;obtain⟨r',o',s'⟩:=b;simp only[addrEq,aZ]at h;obtain⟨⟨⟨Q,I⟩,h3⟩,h4⟩:=h;have Q:=aT Q;have I:=aT I;cases s with
 |some _=>cases h3
 |none=>cases s' with
  |some _=>cases h4
  |none=>rw[Q,I]
def Ss{a b:Option Addr}(h:I4 a b=f):a=b:=by
 cases a with
 |none=>cases b with
  |none=>rfl
  |some _=>cases h
 |some x=>cases b with
  |none=>cases h
  |some hc=>rw[Mw (show addrEq x hc=f from h)]
def Xg{a b:Option Nat}(h:YW a b=f):a=b:=by
 cases a with
 |none=>cases b with
  |none=>rfl
  |some _=>cases h
 |some x=>cases b with
  |none=>cases h
  |some hc=>rw[aT (show ay x hc=f from h)]
theorem Py{x hc:D}(h:zV x hc=f):x=hc:=by
 unfold zV at h;simp only[jN]at h;rcases h with h|h|h|h|h|h|h
 .replace h:=xE h;obtain⟨a,ha,h⟩:=aI h;obtain⟨b,hb,h⟩:=aI h;obtain⟨hg,h⟩:=fH h;rw[aZ,JC,kX]at hg;rw[pY ha,pY hb,zX hg.1,hg.2]
 .replace h:=xE h;obtain⟨a,ha,h⟩:=aI h;obtain⟨b,hb,h⟩:=aI h;obtain⟨hg,h⟩:=fH h;rw[o8 ha,o8 hb,Mw hg]
 .replace h:=xE h;obtain⟨a,ha,h⟩:=aI h;obtain⟨b,hb,h⟩:=aI h;obtain⟨hg,h⟩:=fH h;rw[aZ,aZ]at hg;rw[wO ha,wO hb,Ss hg.1.1,aT hg.1.2,aT hg.2]
 .replace h:=xE h;obtain⟨a,ha,h⟩:=aI h;obtain⟨b,hb,h⟩:=aI h;obtain⟨hg,h⟩:=fH h;rw[JD,kX]at hg;rw[oO ha,oO hb,hg]
 .replace h:=xE h;obtain⟨a,ha,h⟩:=aI h;obtain⟨b,hb,h⟩:=aI h;obtain⟨hg,h⟩:=fH h;rw[yN,kX,h_,h_]at hg
  have:a=b:=by
   obtain⟨⟨la⟩⟩:=a;obtain⟨⟨lb⟩⟩:=b;simp at hg;rw[hg]
  rw[o9 ha,o9 hb,this]
 .replace h:=xE h;obtain⟨a,ha,h⟩:=aI h;obtain⟨b,hb,h⟩:=aI h;obtain⟨hg,h⟩:=fH h;rw[Da ha,Da hb,Xg hg]
 .unfold aeU at h;rw[aZ,aZ]at h;obtain⟨⟨Q,I⟩,h3⟩:=h;cases x<;>first|(replace Q:aA=f:=Q;cases Q;done)|skip
  all_goals cases hc<;>first|rfl|(replace I:aA=f:=I;cases I;done)|(replace h3:aA=f:=h3;cases h3;done)|skip
  all_goals
   rename_i p q;cases p<;>cases q<;>first|rfl|(replace Q:aA=f:=Q;cases Q;done)|(replace I:aA=f:=I;cases I;done)
def Mx(hf:∀{x hc:D},av x hc=f->x=hc):∀{xs ys:List D},AF av xs ys=f->xs=ys:=by
 intro xs
 induction xs with
 |nil=>
  intro ys h;cases ys with
  |nil=>rfl
  |cons hc ys=>cases h
 |cons x xs ih=>
  intro ys h;cases ys with
  |nil=>cases h
  |cons hc ys=>
   replace h:bR (av x hc) (AF av xs ys) aA=f:=h;cases Q:av x hc with
   |false=>rw[Q]at h;cases h
   |true=>
    rw[Q]at h;rw[hf Q,ih h]
def Pz(hf:∀{x hc:D},av x hc=f->x=hc){x hc:D}(h:Uw av x hc=f):x=hc:=by
 replace h:=xE h;obtain⟨a,ha,h⟩:=aI h;obtain⟨b,hb,h⟩:=aI h;obtain⟨g,hg,h⟩:=aI h;obtain⟨k,hk,h⟩:=aI h;obtain⟨hh,h⟩:=fH h;rw[aZ,aZ]at hh;rw[Nr ha,Nr hb,Ns hg,Ns hk,aT hh.1.1,Mx hf hh.1.2,Mx hf hh.2]
def ZG{x hc:D}(h:nI x hc=f):x=hc:=by
 have h00:∀{x hc:D},D4 x hc=f->x=hc:=by
  intro x hc h;unfold D4 at h;rw[jN]at h;rcases h with h|h
  .exact Py h
  .exact Pz Py h
 unfold nI at h;rw[jN]at h;rcases h with h|h
 .exact h00 h
 .exact Pz h00 h
def ZH:∀{xs ys:List D},EW xs ys=f->xs=ys:=by
 intro xs
 induction xs with
 |nil=>
  intro ys h;cases ys with
  |nil=>rfl
  |cons hc ys=>cases h
 |cons x xs ih=>
  intro ys h;cases ys with
  |nil=>cases h
  |cons hc ys=>
   replace h:bR (nI x hc) (EW xs ys) aA=f:=h;cases Q:nI x hc with
   |false=>rw[Q]at h;cases h
   |true=>
    rw[Q]at h;rw[ZG Q,ih h]
def Eb{off:Nat}(h:H.read r off k=Z vs):∀j,j<k->lD (H.obj r) (off+j)=vs[j]?/\j<vs.length:=by
 intro j hj;cases k with
 |zero=>omega
 |succ k=>
  replace h:(aK (vE<|H.obj r) λw=>gd (aB (aV off<|k+1) w.n)<|Z<|Tr.DX top w.cells off<|k+1)=Z vs:=h;obtain⟨hr,hR,h⟩:=aI h;obtain⟨hg,h⟩:=fH h;cases h;have hg:off+(k+1)<=hr.n:=aD hg;rw[tu hR,UC _ _ _ _ _ hj,UB];refine⟨?_,hj⟩;simp only[lD];rw[if_pos N]
def NS{vn:F}{off:Nat}(h:sameAt A vn r off k=f):∀j,off<=j->j<off+k->lD (A.obj r) j=lD (vn.obj r) j:=by
 replace h:=xE h;obtain⟨x,J,h⟩:=aI h;obtain⟨hc,hy,h⟩:=aI h;obtain⟨hg,h⟩:=fH h;intro j Q I;have a1:=(Eb J (j-off) N).1;have a2:=(Eb hy (j-off) N).1;rw[show off+(j-off)=j from by omega]at a1 a2;rw[a1,a2,ZH hg]
theorem ZI{o:lu}(e:JR o=JR o')(i:Nat):(lD o i).isSome=(lD o' i).isSome:=by
 cases o<;>cases o'<;>simp only[JR]at e<;>first|rfl|cases e|skip
 case row.row hr R'=>
  simp only[lu.row.injEq,Row.mk.injEq]at e;simp only[lD,e.2.2.1];split<;>rfl
theorem Gf{off:Nat}(h:H.write r off vs=Z C):
 C.next=H.next/\(∀k,k≠r->C.obj k=H.obj k)/\JR (C.obj r)=JR (H.obj r)/\(∀i,¬(off<=i/\i<off+vs.length)->lD (C.obj r) i=lD (H.obj r) i)/\
  (∀i,off<=i->i<off+vs.length->lD (C.obj r) i=vs[i-off]?)/\(vs≠[]->C.low<=r):=by
 cases vs with
 |nil=>
  cases h;exact⟨O,λ_ _=>rfl,rfl,λ_ _=>rfl,λi a b=>by simp at b;omega,λh=>absurd O h⟩
 |cons v vs=>
  replace h:(aK (vE<|H.obj r) λw=>
   gd (!w.kR&&aB (aV off<|len<|v::vs) w.n&&aB w.fz off&&all' fB (v::vs))
   (Z<|H.put r<|.row ⟨w.ty,Tr.sD top (v::vs) off w.cells,w.n,aA,w.fz⟩))=Z C:=h
  obtain⟨hr,hR,h⟩:=aI h;obtain⟨hg,h⟩:=fH h;cases h;have G6:=tu hR;simp only[aZ,fQ]at hg;obtain⟨⟨⟨g0,g1⟩,g2⟩,g3⟩:=hg;have g1:off+(v::vs).length<=hr.n:=aD g1;have g0:hr.kR=aA:=by simpa using g0
  have BQ:(H.put r<|.row ⟨hr.ty,Tr.sD top (v::vs) off hr.cells,hr.n,aA,hr.fz⟩).obj r=.row ⟨hr.ty,Tr.sD top (v::vs) off hr.cells,hr.n,aA,hr.fz⟩:=by rw[vN,if_pos O]
  refine⟨O,λk hk=>by rw[vN,if_neg hk],?_,?_,?_,λ_=>(I9 _ _ _).1⟩
  .rw[BQ,G6];simp only[JR,g0]
  .intro i hi;rw[BQ,G6];simp only[lD];rw[Tr.lV,if_neg hi]
  .intro i Q I;rw[BQ];simp only[lD];rw[if_pos N,Tr.lV,if_pos ⟨Q,I⟩,bC,au N];rfl
section u
variable{P:aS}{cf:kM}{S:Nat->St}
theorem Su{o:Op}{p:bO×bO}(h:AM o=Z p):∃t,o=.store t p.1 p.2:=by
 cases o<;>first|cases h|skip
 exact⟨_,O⟩
theorem Xh{o:Op}{p:aG×bO}(h:F9 o=Z p):o=.load p.1 p.2:=by
 cases o<;>first|cases h|skip
 rfl
structure agw(P:aS)(cf:kM)(ops:Array Oper)(o:Oper)(s s1:St)(c:Cl):Prop where
 ex:∃t x hc a C,o.op=.store t x hc/\qy ops s o.guard=Z f/\qg (ev s x)=Z a/\c=⟨3,a.block,a.off,len<|bI<|ev s hc,hh0,hh0⟩/\
  yI P t (ev s x) (ev s hc) (gW s).H=Z (undef,C)/\s1=jg s o.dst undef ⟨C.vF,C.next,nN s.H.low C.low⟩/\
  (gW s).H.write a.block a.off (bI<|ev s hc)=Z C
def z_(s:St)(x:bO):ev (gW s) x=ev s x:=by cases x<;>rfl
def Gg{c:Cl}(h:JW P cf ops o s s1 c)(y:c.k=3):agw P cf ops o s s1 c:=by
 cases h with
 |skip hw=>cases y
 |BP v hw R=>cases y
 |mem v C hw R=>
  rcases NR (P:=P) (o:=o.op) (s:=s) (C:=C)with⟨p,a,hs,ha,e⟩|e|⟨hlow,⟨_,e⟩|e|⟨p,a,l,hs,ha,hl,e⟩⟩
  .obtain⟨t,hop⟩:=Su hs;rw[hop]at R;have h:=nO (o:=yI P t (ev (gW s) p.1) (ev (gW s) p.2) (gW s).H) R;rw[z_,z_]at h;have h0:=h;obtain⟨a',ha',h⟩:=aI h;obtain⟨s',hs',h⟩:=aI h;obtain⟨hg,h⟩:=fH h;obtain⟨H1,hH1,h⟩:=aI h;cases h;rw[ha]at ha';cases ha';exact⟨t,p.1,p.2,a,_,hop,hw,ha,e,h0,O,hH1⟩
  all_goals(rw[e]at y;cases y)
def Rg.vv(g:Rg P cf ops n nt S H')(hj:j<ops.size)(y:(H' j).k=3)(hne:at' S κ r j≠at' S κ r (j+1)):
 r=(H' j).r/\∃i,κ=Z i/\(H' j).off<=i/\i<(H' j).off+(H' j).n:=by
 have hs:=Gg (g.step j _<|bq hj) y;obtain⟨t,x,hc,a,C,hop,hw,ha,e,hst,hs1,hwr⟩:=hs.ex;obtain⟨_,Q,I,h3,_,_⟩:=Gf hwr;have PD:∀k,(S<|j+1).H.obj k=C.obj k:=by intro k;rw[hs1,k_];rfl
 have agx:∀k,(gW<|S j).H.obj k=(S j).H.obj k:=λ_=>rfl;rw[e];simp only[fQ]
 by_cases R:r=a.block
 .subst R;refine⟨O,?_⟩;cases κ with
  |none=>exact absurd (by show Ct.shape _=Ct.shape _;rw[PD,I,agx]) hne
  |some i=>
   refine⟨i,O,?_⟩;apply fJ;intro hni;exact hne (by show Ct.cell _=Ct.cell _;rw[PD,h3 i hni,agx])
 .exact absurd (by show cont κ _=cont κ _;rw[PD,Q r R,agx]) hne
def Rg.Sv(g:Rg P cf ops n nt S H')(hj:j<ops.size)(y:(H' j).k=3)(R:r≠(H' j).r):(S<|j+1).H.obj r=(S j).H.obj r:=by
 have hs:=Gg (g.step j _<|bq hj) y;obtain⟨t,x,hc,a,C,hop,hw,ha,e,hst,hs1,hwr⟩:=hs.ex;rw[e]at R;rw[hs1,k_];exact(Gf hwr).2.1 r R
def AZ(h:xR x hc=f)(R:x.r=hc.r)(Q:x.off<=i)(I:i<x.off+x.n)(h3:hc.off<=i)(h4:i<hc.off+hc.n):False:=by
 unfold xR at h;rw[jN,jN]at h;rcases h with(h|h)|h
 .rw[R]at h;rw[show ay hc.r hc.r=f from dw _]at h;cases h
 .have:=aD h;have e:aV x.off x.n=x.off+x.n:=rfl;omega
 .have:=aD h;have e:aV hc.off hc.n=hc.off+hc.n:=rfl;omega
def Rg.US(g:Rg P cf ops n nt S H'){l:Cl}(hj:j<ops.size)(y:(H' j).k=2)(h:mY (H' j) l=f)(Q:l.off<=i)(I:i<l.off+l.n):at' S (Z i) l.r j=at' S (Z i) l.r (j+1):=by
 have hs:=g.step j _<|bq hj;generalize hcj:H' j=c at hs y h;generalize hsj:S (j+1)=s1 at hs;show Ct.cell (lD ((S j).H.obj l.r) i)=Ct.cell (lD ((S<|j+1).H.obj l.r) i);rw[hsj];cases hs with
 |skip hw=>rw[k_]
 |BP v hw R=>rw[k_]
 |mem v C hw R=>
  rw[k_];rcases NR (P:=P) (o:=ops[j].op) (s:=S j) (C:=C)with⟨p,a,hs,ha,e⟩|e|⟨hlow,⟨_,e⟩|e|⟨p,a,l,hs,ha,hl,e⟩⟩
  .rw[e]at y;cases y
  .rw[e]at h;have:=NS (show sameAt (S j).H C l.r l.off l.n=f from h) i Q I;rw[this];rfl
  all_goals(rw[e]at y;cases y)
def Rg.akT(g:Rg P cf ops n nt S H')(hD:Closed ops ae)(hi:i<ops.size)(DJ:¬ae i)(nP:∀e,e∈ops[i].after.toList->fM .any e=f->ae e.on)(y:(H' i).k=4)(Q:(H' i).off<=k)(I:k<(H' i).off+(H' i).n)(R:(H' i).r<nx S i):DI S ops.size ae (Z k) (H' i).r i:=by
 refine⟨R,λj hj OU hne=>?_⟩;have hcj:=g.turns hj OU hne;have hoi:ops[i]?=Z ops[i]:=bq hi;have hoj:ops[j]?=Z ops[j]:=bq hj
 have aeX:(H' j).k=3->∀x hc,xR x hc=f->((x=H' j/\hc=H' i)\/(x=H' i/\hc=H' j))->False:=by
  intro h3 x hc hno hxy;obtain⟨e1,i',e2,e3,e4⟩:=g.vv hj h3 hne;cases e2;rcases hxy with⟨rfl,rfl⟩|⟨rfl,rfl⟩
  .exact AZ hno e1.symm e3 e4 Q I
  .exact AZ hno e1 Q I e3 e4
 rcases kC j i with h|h|h
 .refine⟨λ_=>h,λ_=>?_⟩;have hd:=g.dyn j i h hi;rcases hcj with hcj|hcj
  .rcases agt hd hcj y with hb|hb
   .exact mD g.back hD i _ hoi nP j hb
   .exact absurd (g.US hj hcj hb Q I) hne
  .rcases agr hd hcj y with hb|hb
   .exact mD g.back hD i _ hoi nP j hb
   .exact(aeX hcj _ _ hb<|.inl ⟨O,O⟩).elim
 .subst h;exact⟨λh=>absurd h DJ,λh=>absurd h<|qI _⟩
 .refine⟨λK5=>?_,λh'=>by omega⟩;have hd:=g.dyn i j h hj
  have hb:gQ (zO ops j) i=f:=by
   rcases hcj with hcj|hcj
   .rcases ags hd y hcj with hb|hb
    .exact hb
    .exact absurd (g.US hj hcj hb Q I) hne
   .rcases agq hd y hcj with hb|hb
    .exact hb
    .exact(aeX hcj _ _ hb<|.inr ⟨O,O⟩).elim
  exact absurd (mD g.back hD j _ hoj (hD j _ hoj K5) i hb) DJ
def Sw{x:D}{a:Addr}(h:vJ P t x H=Z (v,C))(J:VR m x x')(ha:qg x=Z a)(hl:Yw P t=Z ld)(hm:m a.block=Z l)(PD:w.heap[l.c]?=Z ob)(y:∀i rg,a.off<=i->i<a.off+ld.getD 1->lD (H.obj a.block) i=Z rg->wV m l i rg ob):
 ∃v',VR m v v'/\(Instr.loadAt t x').run P w=.ok v' w:=by
 obtain⟨a0,ha0,h⟩:=aI h;obtain⟨l0,hl0,h⟩:=aI h;rw[ha]at ha0;cases ha0;rw[hl]at hl0;cases hl0;rw[o8 ha]at J;obtain⟨l1,hm1,hlo,hsp,rfl⟩:=J.sS;rw[hm]at hm1;cases hm1
 have hcell:∀i rg,a.off<=i->i<a.off+ld.getD 1->lD (H.obj a.block) i=Z rg->∃u',VR m rg u'/\w.cell? ⟨l.c,l.base+(i-l.lo),W⟩=Z u':=by
  intro i rg Q I h3;obtain⟨E,ty,fr,u',e,h4,h5⟩:=y i rg Q I h3;subst e;exact⟨u',h5,by rw[cell_of PD];exact h4⟩
 obtain⟨d,i,hd,hi,hk⟩:=RL hl;rcases hk with⟨hag,rfl⟩|⟨hag,rfl⟩
 .replace h:(aK (H.read a.block a.off i.size) λvs=>Z (Ru ⟨vs⟩,H))=Z (v,C):=h;obtain⟨vs,hvs,h⟩:=aI h;cases h;have hrc:=Eb hvs
  have hvl:vs.length=i.size:=by
   cases hz:i.size with
   |zero=>rw[hz]at hvs;cases hvs;rfl
   |succ k=>
    rw[hz]at hvs;have h:=hvs;replace h:(aK (vE<|H.obj a.block) λw=>gd (aB (aV a.off<|k+1) w.n)<|Z<|Tr.DX top w.cells a.off<|k+1)=Z vs:=h;obtain⟨hr,hR,h⟩:=aI h;obtain⟨hg,h⟩:=fH h;cases h;exact UB _ _ _ _
  have key:∀(q:List D)(b:Nat),vs.drop b=q->∃q',kT m q q'/\∀j rg,q'[j]?=Z rg->w.cell? ((⟨l.c,l.base+(a.off-l.lo),W⟩:Addr).add<|b+j)=Z rg:=by
   intro q
   induction q with
   |nil=>intro b _;exact⟨[],.nil,by simp⟩
   |cons rg q ih=>
    intro b hb
    have hbu:vs[b]?=Z rg:=by
     have:=dV List.head? hb
     rwa [List.head?_drop]at this
    have hbl:b<vs.length:=(bA.1 hbu).1;obtain⟨q',Q,I⟩:=ih (b+1) (by rw[<-List.tail_drop,hb];rfl);obtain⟨u',h3,h4⟩:=hcell (a.off+b) rg N (by show a.off+b<a.off+i.size;omega) (by rw[(hrc b N).1];exact hbu);refine⟨u'::q',.cons _ _ _ _ h3 Q,?_⟩;intro j z hz;cases j with
    |zero=>
     simp at hz;subst hz;rw[dD,Df l a.off _ hlo];exact h4
    |succ j=>
     have:=I j z (by simpa using hz);rw[show b+(j+1)=b+1+j from by omega];exact this
  obtain⟨vs',Q,I⟩:=key vs 0 O;have hrun:=run_loadCells_list (P:=P) w ⟨l.c,l.base+(a.off-l.lo),W⟩ vs' (λj rg hu=>by have:=I j rg hu;rwa [aW]at this);rw[<-Q.length,hvl]at hrun;exact⟨.agg ⟨vs'⟩,.agg _ _ Q,by simp[Instr.loadAt,jv,loadVar,wQ hd,hag,jJ hi,hrun]⟩
 .replace h:(aK (H.cell a.block a.off) λv=>Z (v,H))=Z (v,C):=h;obtain⟨rg,hu,h⟩:=aI h;cases h;have h:=hu;obtain⟨hr,hR,h⟩:=aI h;obtain⟨hg,h⟩:=fH h;cases h;have hg:a.off+1<=hr.n:=aD hg;obtain⟨v',Q,I⟩:=hcell a.off (hr.cells.get top a.off) (az _) (by show a.off<a.off+1;omega) (by rw[tu hR];simp only[lD];rw[if_pos N]);exact⟨v',Q,by simp[Instr.loadAt,jv,loadVar,wQ hd,hag,I]⟩
theorem ZJ{o:Op}(hf:zx o=f)(h:yh o P cf s=.mem v C):
 ∃ob,C=s.H.new ob/\∀A:F,A.next=s.H.next->yh o P cf ⟨s.nl,s.nt,s.reg,s.tm,s.df,A⟩=.mem v (A.new ob):=by
 cases o<;>first|cases hf|skip
 case alloc e=>
  replace h:=nO (o:=Cf P e s.H) h;obtain⟨z,hz,h⟩:=aI h;cases h;refine⟨_,O,λA hA=>?_⟩;show rm (aK (zL P e) λz=>Z (L8 A.next,A.new<|rowOf e z))=_;rw[hz,hA];rfl
 case box e x=>
  replace h:=nO (o:=Jv e (ev s x) s.H) h;obtain⟨hg,h⟩:=fH h;cases h;refine⟨_,O,λA hA=>?_⟩;have e1:ev ⟨s.nl,s.nt,s.reg,s.tm,s.df,A⟩ x=ev s x:=by cases x<;>rfl
  show rm (gd (pK<|ev ⟨s.nl,s.nt,s.reg,s.tm,s.df,A⟩ x)<|Z (L8 A.next,A.new<|rowOf e<|bI<|ev ⟨s.nl,s.nt,s.reg,s.tm,s.df,A⟩ x))=_;rw[e1,hg,hA];rfl
 case makeMap t r=>
  replace h:=nO (o:=uB P t (IB s r) s.H) h;obtain⟨q,hq,h⟩:=aI h;obtain⟨hg,h⟩:=fH h;cases h;refine⟨_,O,λA hA=>?_⟩
  have e1:IB ⟨s.nl,s.nt,s.reg,s.tm,s.df,A⟩ r=IB s r:=by
   cases r with
   |none=>rfl
   |some x=>cases x<;>rfl
  show rm (aK (uz P t) λ_=>gd (@aN D (λ_=>Bool) f (λv=>!(eX<|sK v))<|IB ⟨s.nl,s.nt,s.reg,s.tm,s.df,A⟩ r)<|Z (Wi<|Z A.next,A.new<|.map []))=_;rw[e1,hq,hA];show rm (gd (@aN D (λ_=>Bool) f (λv=>!(eX<|sK v))<|IB s r) _)=_;rw[hg];rfl
 case makeSlice t l c=>
  replace h:=nO (o:=qh P t (ev s l) (ev s c) s.H) h;obtain⟨q,hq,h⟩:=aI h;obtain⟨i,hi,h⟩:=aI h;obtain⟨z,hz,h⟩:=aI h;obtain⟨k,hk,h⟩:=aI h;obtain⟨k2,hk2,h⟩:=aI h;obtain⟨hg,h⟩:=fH h;cases h;refine⟨_,O,λA hA=>?_⟩;have e1:ev ⟨s.nl,s.nt,s.reg,s.tm,s.df,A⟩ l=ev s l:=by cases l<;>rfl
  have e2:ev ⟨s.nl,s.nt,s.reg,s.tm,s.df,A⟩ c=ev s c:=by cases c<;>rfl
  show rm (qh P t (ev ⟨s.nl,s.nt,s.reg,s.tm,s.df,A⟩ l) (ev ⟨s.nl,s.nt,s.reg,s.tm,s.df,A⟩ c) A)=_;unfold qh;rw[e1,e2,hq];show rm (aK (tI P q.1) _)=_;rw[hi];show rm (aK (zL P q.1) _)=_;rw[hz];show rm (aK (zh<|ev s l) _)=_;rw[hk];show rm (aK (zh<|ev s c) _)=_;rw[hk2];show rm (gd _ _)=_;rw[hg,hA];rfl
 case buildSlice t k ps=>
  replace h:=nO (o:=sO P t k (Nl s ps) s.H) h;obtain⟨q,hq,h⟩:=aI h;obtain⟨z,hz,h⟩:=aI h;obtain⟨hg,h⟩:=fH h;obtain⟨E,hcs,h⟩:=aI h;cases h;refine⟨_,O,λA hA=>?_⟩
  have e1:Nl ⟨s.nl,s.nt,s.reg,s.tm,s.df,A⟩ ps=Nl s ps:=by
   obtain⟨ps⟩:=ps;show mp (λp=>(p.1,ev ⟨s.nl,s.nt,s.reg,s.tm,s.df,A⟩ p.2)) ps=mp (λp=>(p.1,ev s p.2)) ps;congr 1;funext p;cases p.2<;>rfl
  show rm (sO P t k (Nl ⟨s.nl,s.nt,s.reg,s.tm,s.df,A⟩ ps) A)=_;unfold sO;rw[e1,hq];show rm (aK (zL P q.1) _)=_;rw[hz];show rm (gd _ _)=_;rw[hg];show rm (aK (DF _ (Nl s ps) _) _)=_;rw[hcs,hA];rfl
end u
section u
variable{P:aS}{cf:kM}{S:Nat->St}
def mI.cells{o:lu}{E cs':Array D}{fr:Nat×Nat}(h:mI m l o<|.cells E ty fr)(hs:cs'.size=E.size):mI m l o (.cells cs' ty fr):=by
 cases o with
 |dead=>trivial
 |row hr=>
  obtain⟨Q,I,h3,h4,h5,h6⟩:=h;exact⟨Q,I,by rw[hs];exact h3,h4,h5,h6⟩
 |map es=>exact h.elim
 |L5 s p=>exact h.elim
theorem Rg.akU(g:Rg P cf ops n nt S H')(hD:Closed ops ae)(hi:i<ops.size)(DJ:¬ae i)(nP:∀e,e∈ops[i].after.toList->fM .any e=f->ae e.on)(y:(H' i).k=3):(∀j,j<ops.size->(H' j).k=2->j<i/\ae j)/\∀r,r<nx S i->DI S ops.size ae W r i:=by
 have hoi:ops[i]?=Z ops[i]:=bq hi
 have I:∀j,j<ops.size->(H' j).k=2->j<i/\ae j:=by
  intro j hj hcj;rcases kC j i with h|h|h
  .exact⟨h,mD g.back hD i _ hoi nP j<|UO (g.dyn j i h hi) (.inr hcj) y⟩
  .subst h;rw[y]at hcj;cases hcj
  .exact(UN (g.dyn i j h hj) y<|.inr hcj).elim
 refine⟨I,λr R=>⟨R,λj hj OU hne=>?_⟩⟩;rcases g.turns hj OU hne with hcj|hcj
 .have:=I j hj hcj;exact⟨λ_=>this.1,λ_=>this.2⟩
 .obtain⟨_,k,hk,_⟩:=g.vv hj hcj hne;cases hk
def Sy(p:Nat->Bool):∀d k,p k=f->p (k+d)=aA->∃j,k<=j/\j<k+d/\p j=f/\p (j+1)=aA:=by
 intro d
 induction d with
 |zero=>intro k Q I;rw[dD,Q]at I;cases I
 |succ d ih=>
  intro k Q I;cases hp:p (k+1)with
  |false=>exact⟨k,az _,N,Q,hp⟩
  |true=>
   obtain⟨j,a1,a2,a3⟩:=ih (k+1) hp (by rw[show k+1+d=k+(d+1)from by omega];exact I);exact⟨j,N,N,a3⟩
theorem MInv.stored(g:Rg P cf ops n nt S H')(hD:Closed ops ae)(h2:MInv S H' ops.size m0 w0 ae m w)(hi:i<ops.size)(DJ:¬ae i)(nP:∀e,e∈ops[i].after.toList->fM .any e=f->ae e.on)(y:(H' i).k=3){x hc:bO}{y':D}{a:Addr}(ha:qg (ev (S i) x)=Z a)(hcl:H' i=⟨3,a.block,a.off,len<|bI<|ev (S i) hc,hh0,hh0⟩)(hst:yI P t (ev (S i) x) (ev (S i) hc) (gW<|S i).H=Z (undef,C))(hs1:(S<|i+1).H=⟨C.vF,C.next,nN (S i).H.low C.low⟩)(hwr:(gW<|S i).H.write a.block a.off (bI<|ev (S i) hc)=Z C)(J:VR (m.upto<|nx S i) (ev (S i) x) x')(hy:VR (m.upto<|nx S i) (ev (S i) hc) y'):
 ∃w',(Instr.storeAt t x' y').run P w=.ok () w'/\MInv S H' ops.size m0 w0 (E9 ae i) m w':=by
 have hmono:=g.mono;have h0:=hst;have h:=hst;obtain⟨a1,ha1,h⟩:=aI h;obtain⟨sz,hsz,h⟩:=aI h;obtain⟨hgl,h⟩:=fH h;obtain⟨H1,hH1,h⟩:=aI h;cases h;rw[ha]at ha1;cases ha1;obtain⟨inf,uD,rfl⟩:=qN hsz;have hlen:=aT hgl;rw[fQ]at hlen;rw[o8 ha]at J;obtain⟨l,hml,hlo,hsp,rfl⟩:=J.sS;have hu:=Mp.oH hml
 have hnt:ev (S i) hc≠top:=by
  intro e;rw[e]at hwr
  replace hwr:(aK (vE<|(gW<|S i).H.obj a.block) λw=>
   gd (!w.kR&&aB (aV a.off<|len [top]) w.n&&aB w.fz a.off&&all' fB [top])
   (Z<|(gW<|S i).H.put a.block<|.row ⟨w.ty,Tr.sD top [top] a.off w.cells,w.n,aA,w.fz⟩))=Z C:=hwr
  have h:=hwr;obtain⟨hr,hR,h⟩:=aI h;obtain⟨hg,h⟩:=fH h;simp[all_eq,fB,top]at hg
 have hcv:=AR hy hnt
 have aeY:∀w',(storeCells ⟨l.c,l.base+(a.off-l.lo),W⟩<|bI y').run P w=.ok () w'->(Instr.storeAt t (.pointer<|Z ⟨l.c,l.base+(a.off-l.lo),W⟩) y').run P w=.ok () w':=by
  intro w' hw';have hsz:y'.cells.size=inf.size:=by rw[Cg];show(bI y').length=_;rw[<-hcv.length,hlen]
  have hcl:y'.cells.toList=bI y':=(Db y').symm;simp only[Instr.storeAt,jv,storeVar,cB,dF,bN,jJ uD,hsz,ne_eq,sJ,kD,hcl];exact hw'
 have hwo:=Gf hwr;have PD:∀k,(S<|i+1).H.obj k=C.obj k:=by intro k;rw[hs1];rfl
 by_cases hnil:bI (ev (S i) hc)=[]
 .rw[hnil]at hwr
  have hHH:(gW<|S i).H=C:=by
   have:Z (gW<|S i).H=Z C:=hwr;injection this
  have hn':bI y'=[]:=by
   have:=hcv.length;rw[hnil]at this;exact gK this.symm
  refine⟨w,aeY w (by rw[hn'];simp[storeCells]),h2.still hi λr R=>?_⟩;rw[PD,<-hHH];rfl
 .
  obtain⟨UT,Sz⟩:=g.akU hD hi DJ nP y;obtain⟨ob,adx⟩:=h2.Xf _ _ hu.2;have hsh:=h2.cnt W _ _ i ob N hu.2 (Sz _ hu.1) adx
  have hrow:∃hr,(S i).H.obj a.block=.row hr/\hr.kR=aA/\a.off+(bI<|ev (S i) hc).length<=hr.n/\hr.fz<=a.off/\(bI<|ev (S i) hc).all fB=f:=by
   cases hvs:bI (ev (S i) hc)with
   |nil=>exact absurd hvs hnil
   |cons rg us=>
    rw[hvs]at hwr
    replace hwr:(aK (vE<|(gW<|S i).H.obj a.block) λw=>
     gd (!w.kR&&aB (aV a.off<|len<|rg::us) w.n&&aB w.fz a.off&&all' fB (rg::us))
     (Z<|(gW<|S i).H.put a.block<|.row ⟨w.ty,Tr.sD top (rg::us) a.off w.cells,w.n,aA,w.fz⟩))=Z C:=hwr
    have h:=hwr;obtain⟨hr,hR,h⟩:=aI h;obtain⟨hg,h⟩:=fH h;simp only[aZ,fQ,all_eq]at hg;exact⟨hr,tu hR,by simpa using hg.1.1.1,aD hg.1.1.2,aD hg.1.2,hg.2⟩
  obtain⟨hr,hR,hse,hbd,hfz,hoc⟩:=hrow
  have agy:mI (m.upto<|nx S i) l (.row hr) ob:=by
   have:mI (m.upto<|nx S i) l (JR<|(S i).H.obj a.block) ob:=hsh;rw[hR]at this;exact this.Sj O
  cases ob with
  |cells E ty fr=>
   obtain⟨⟨e1,e2⟩,e3,e4,e5,e6,e7⟩:=agy;have hlen':(bI y').length=(bI<|ev (S i) hc).length:=hcv.length.symm
   obtain⟨w',cs',r1,r2,r3,r4,r5,r6,r7,r8,r9⟩:=yO (P:=P) l.c (l.base+(a.off-l.lo)) ty fr (bI y') 0 E w adx (Ch hcv hoc) (by rw[hlen'];omega)
    (λj b1 b2 b3=>by have:=e7 hse;omega)
   refine⟨w',aeY w' r1,?_⟩;have hCr:(H' i).r=a.block:=by rw[hcl]
   have hCo:(H' i).off=a.off:=by rw[hcl]
   have hCn:(H' i).n=(bI<|ev (S i) hc).length:=by rw[hcl];exact fQ _
   have hnot:∀κ r,(r≠a.block\/∀k,κ=Z k->¬(a.off<=k/\k<a.off+(bI<|ev (S i) hc).length))->at' S κ r i=at' S κ r (i+1):=by
    intro κ r hor;apply fJ;intro hne;obtain⟨f1,k,f2,f3,f4⟩:=g.vv hi y hne;rw[hCr]at f1;rw[hCo]at f3;rw[hCo,hCn]at f4;rcases hor with h|h
    .exact h f1
    .exact h k f2 ⟨f3,f4⟩
   have agz:(S i).H.obj a.block≠.dead:=by rw[hR];simp
   have hother:∀r l1 k κ,r≠a.block->m r=Z l1->l1.c=l.c->k<=ops.size->DI S ops.size ae κ r k->∀o,Rel κ (m.upto<|nx S k) l1 (at' S κ r k) o:=by
    intro r l1 k κ hne hm1 hcc hk hcon o
    have Mj:∀k',k'<=ops.size->DI S ops.size ae W r k'->(S k').H.obj r=.dead:=by
     intro k' hk' ZF;apply fJ;intro hnd;exact hne<|h2.sep r a.block l1 l k' i hm1 hu.2 hcc hk' N ZF (Sz _ hu.1) hnd agz
    cases κ with
    |none=>
     show Rel W _ _ (.shape<|JR<|(S k).H.obj r) o;rw[Mj k hk hcon];trivial
    |some q=>
     show Rel (Z q) _ _ (.cell<|lD ((S k).H.obj r) q) o;cases hca:lD ((S k).H.obj r) q with
     |none=>trivial
     |some z=>
      exfalso
      have ZK:∀j,j<ops.size->r<nx S j->(H' j).k≠2->(lD ((S j).H.obj r) q).isSome=(lD ((S<|j+1).H.obj r) q).isSome:=by
       intro j hj OU I;apply ZI;apply fJ;intro hne';have hne2:at' S W r j≠at' S W r (j+1):=λe=>hne' (by injection e);rcases g.turns hj OU hne2 with h3|h3
       .exact I h3
       .obtain⟨_,_,h4,_⟩:=g.vv hj h3 hne2;cases h4
      by_cases hri:r<nx S i
      .have hd:=Mj i N (Sz r hri);have hz:lD ((S i).H.obj r) q=W:=by rw[hd];rfl
       rcases bZ k i with hki|hki
       .obtain⟨j,f1,f2,f3,f4⟩:=Sy (λk=>(lD ((S k).H.obj r) q).isSome) (i-k) k (by simp[hca]) (by
         show(lD ((S<|k+(i-k)).H.obj r) q).isSome=aA;rw[show k+(i-k)=i from by omega,hz];rfl)
        have OU:r<nx S j:=aP hcon.1<|hmono k j f1 N
        have hj2:(H' j).k=2:=fJ λe=>by
         have:=ZK j N OU e;rw[f3,f4]at this;cases this
        have akV:at' S (Z q) r j≠at' S (Z q) r (j+1):=by
         intro e;have e:lD ((S j).H.obj r) q=lD ((S<|j+1).H.obj r) q:=by injection e
         rw[e,f4]at f3;cases f3
        have:=(hcon.2 j N OU akV).1 (UT j N hj2).2;omega
       .have:∀d,i+d<=ops.size->(lD ((S<|i+d).H.obj r) q).isSome=aA:=by
         intro d
         induction d with
         |zero=>intro _;rw[dD,hz];rfl
         |succ d ih=>
          intro hd'
          have h9:=ZK (i+d) N (aP hri<|hmono i (i+d) N N) (λe=>by
           have:=(UT (i+d) N e).1;omega)
          rw[show i+(d+1)=i+d+1 from O,<-h9];exact ih N
        have:=this (k-i) N;rw[show i+(k-i)=k from by omega,hca]at this;cases this
      .have hcn:DI S ops.size ae W r k:=by
        refine⟨hcon.1,λj hj OU hne'=>?_⟩;exfalso;rcases g.turns hj OU hne' with h3|h3
        .have:=(UT j hj h3).1;have:=hmono j i N N;omega
        .obtain⟨_,_,h4,_⟩:=g.vv hj h3 hne';cases h4
       rw[Mj k hk hcn]at hca;cases hca
   refine⟨?_,?_,?_,?_,?_,?_,h2.le,h2.fresh,r7.trans h2.os,r8.trans h2.tape,r9.trans h2.output,by rw[r6];exact h2.size,?_⟩
   .exactλr l h=>(h2.dom r l h).imp id λ⟨j,Q,I,h3⟩=>⟨j,Q,.inl I,h3⟩
   .intro r l1 Q;obtain⟨o,ho⟩:=h2.Xf r l1 Q;have:l1.c<w'.heap.size:=by rw[r6];exact oG ho
    exact⟨w'.heap[l1.c],bq this⟩
   .
    intro κ r l1 k o hk hm1 hcon ho
    by_cases R:r=a.block
    .subst R;rw[hu.2]at hm1;have hll:l=l1:=by injection hm1
     subst hll;rw[r2]at ho;have ho:Obj.cells cs' ty fr=o:=by injection ho
     subst ho
     by_cases hin:∃q,κ=Z q/\a.off<=q/\q<a.off+(bI<|ev (S i) hc).length
     .obtain⟨q,rfl,q1,q2⟩:=hin
      have aik:DI S ops.size (E9 ae i) (Z q) a.block (i+1):=by
       refine⟨aP hu.1<|g.Px hi,λj hj OU hne=>?_⟩;rcases g.turns hj OU hne with I|h3
       .have:=UT j hj I;exact⟨λ_=>by omega,λ_=>.inl this.2⟩
       .obtain⟨f1,q',f2,f3,f4⟩:=g.vv hj h3 hne;cases f2;have hoi:ops[i]?=Z ops[i]:=bq hi;have hoj:ops[j]?=Z ops[j]:=bq hj;rcases kC j i with h|h|h
        .rcases ZD (g.dyn j i h hi) h3 y with hb|hb
         .exact⟨λ_=>by omega,λ_=>.inl<|mD g.back hD i _ hoi nP j hb⟩
         .exact(AZ hb (by rw[<-f1,hCr]) f3 f4 (by rw[hCo];exact q1) (by rw[hCo,hCn];exact q2)).elim
        .subst h;exact⟨λ_=>by omega,λ_=>.inr O⟩
        .rcases ZD (g.dyn i j h hj) y h3 with hb|hb
         .refine⟨λhw=>?_,λh'=>by omega⟩;rcases hw with K5|e
          .exact absurd (mD g.back hD j _ hoj (hD j _ hoj K5) i hb) DJ
          .omega
         .exact(AZ hb (by rw[<-f1,hCr]) (by rw[hCo];exact q1) (by rw[hCo,hCn];exact q2) f3 f4).elim
      have heq:at' S (Z q) a.block (i+1)=at' S (Z q) a.block k:=DI.eq hmono N hk aik hcon;have hcell:lD ((S<|i+1).H.obj a.block) q=(bI<|ev (S i) hc)[q-a.off]?:=by rw[PD];exact hwo.2.2.2.2.1 q q1 q2
      have hrel:Rel (Z q) (m.upto<|nx S i) l (at' S (Z q) a.block k) (.cells cs' ty fr):=by
       rw[<-heq];show Rel (Z q) _ l (.cell<|lD ((S<|i+1).H.obj a.block) q) _;rw[hcell];cases hz:(bI<|ev (S i) hc)[q-a.off]? with
       |none=>trivial
       |some z=>
        intro hlq;obtain⟨z',f1,f2⟩:=hcv.get _ hz;refine⟨cs',ty,fr,z',O,?_,f2⟩;rw[r4,if_pos (by rw[hlen'];omega),show l.base+(q-l.lo)-(l.base+(a.off-l.lo)+0)=q-a.off from by omega];exact f1
      rcases bZ i k with hik|hik
      .exact hrel.mono<|Mp.wU (λ_ _ h=>h)<|hmono i k N hk
      .have hni:at' S (Z q) a.block i=at' S (Z q) a.block (i+1):=by
        apply fJ;intro hne;have:=(hcon.2 i hi hu.1 hne).1<|.inr O;omega
       have hold:=h2.cnt (Z q) _ _ k _ hk hu.2 (hcon.less λ_=>hni) adx;exact Rel.restrict (Mp.wU (λ_ _ h=>h)<|hmono k i hik N) hrel hold
     .have hni:at' S κ a.block i=at' S κ a.block (i+1):=hnot κ _ (.inr λq e h=>hin ⟨q,e,h.1,h.2⟩);have hold:=h2.cnt κ _ _ k _ hk hu.2 (hcon.less λ_=>hni) adx;cases κ with
      |none=>
       have hold:mI (m.upto<|nx S k) l (JR<|(S k).H.obj a.block) (.cells E ty fr):=hold;exact hold.cells r3
      |some q=>
       have hold:Rel (Z q) (m.upto<|nx S k) l (.cell<|lD ((S k).H.obj a.block) q) (.cells E ty fr):=hold;show Rel (Z q) (m.upto<|nx S k) l (.cell<|lD ((S k).H.obj a.block) q)<|.cells cs' ty fr;cases hz:lD ((S k).H.obj a.block) q with
       |none=>trivial
       |some z=>
        rw[hz]at hold;intro hlq;obtain⟨cs0,ty0,fr0,v,f1,f2,f3⟩:=hold hlq;cases f1;refine⟨cs',ty,fr,v,O,?_,f3⟩;rw[r4,if_neg]
        .exact f2
        .rw[hlen'];intro hh;exact hin ⟨q,O,N,N⟩
    .have hni:at' S κ r i=at' S κ r (i+1):=hnot κ r (.inl R);have My:=hcon.less λ_=>hni
     by_cases hcc:l1.c=l.c
     .exact hother r l1 k κ R hm1 hcc hk My o
     .rw[r5 _ hcc]at ho;exact h2.cnt κ r l1 k o hk hm1 My ho
   .intro r r' l1 l1' k k' Q I h3 h4 h5 h6 h7 h8 h9;exact h2.sep r r' l1 l1' k k' Q I h3 h4 h5 (h6.less λ_=>hnot W r<|.inr λq e=>by cases e) (h7.less λ_=>hnot W r'<|.inr λq e=>by cases e) h8 h9
   .exactλr r' l1 l1' j Q I h3 h4 h5 h6=>h2.clash r r' l1 l1' j Q I h3 h4 (λh=>h5<|.inl h) h6
   .intro j r hj K5 R hmr;rcases K5 with h|rfl
    .exact h2.hid j r hj h R hmr
    .refine g.Sv hi y ?_;rw[hCr];intro e;rw[e,hu.2]at hmr;cases hmr
   .intro c hcs hk;rw[r5,h2.keep c hcs hk];intro e
    have hlow:(S ops.size).H.low<=a.block:=by
     have f1:=g.low (i+1) ops.size N<|az _;rw[hs1]at f1;have f2:(S ops.size).H.low<=nN (S i).H.low C.low:=f1;exact aX f2<|aX (Di _ _).2<|hwo.2.2.2.2.2 hnil
    cases h0':m0 a.block with
    |some l0=>
     have:=h2.le _ _ h0';rw[hu.2]at this;cases this;have:=hk _ _ h0' e.symm;omega
    |none=>
     obtain⟨r0,l0,f1,f2,f3⟩:=h2.fresh _ _ hu.2 h0' (by rw[<-e];exact hcs);have:=hk r0 l0 f1 (by rw[f2,e]);omega
  |map zz c=>exact agy.elim
  |_=>exact agy.elim
end u
def yC(hd:JQ s.nt d=f)(t:Nat):ig (jg s d v H) t=if d=Z t then v else ig s t:=by
 cases d with
 |none=>rfl
 |some d=>
  have hd:d<s.nt:=aD hd;show ig (qi s d v H) t=_;unfold qi;cases hb:gQ s.nl d with
  |true=>
   show ig ⟨s.nl,s.nt,s.reg,bR (aB (bU d) s.nt) (s.tm.set top d v) s.tm,s.df,H⟩ t=_;rw[show aB (bU d) s.nt=f from aH hd];show bR (gQ s.nl t) ((s.tm.set top d v).get top t) (look s.reg t)=_;rw[Tr.uM]
   by_cases e:d=t
   .subst e;rw[hb,if_pos O,if_pos O];rfl
   .rw[if_neg (oJ e),if_neg<|by simpa using e];rfl
  |false=>
   show bR (gQ s.nl t) (s.tm.get top t) (bR (ay d t) v<|look s.reg t)=_
   by_cases e:d=t
   .subst e;rw[hb,if_pos O,show ay d d=f from dw d];rfl
   .rw[if_neg (by simpa using e),show ay d t=aA from by rw[<-bY];exactλg=>e<|aT g];rfl
section u
variable{P:aS}{cf:kM}{S:Nat->St}
def ady(ops:Array Oper)(ae:Nat->Prop)(t k:Nat):Prop:=∀(j:Nat)(o:Oper),ops[j]?=Z o->o.dst=Z t->(ae j<->j<k)
structure Inv(ops:Array Oper)(nt:Nat)(S:Nat->St)(H':Nat->Cl)(m0:Mp)(w0:bW)(d0:List Deferred)(ae:Nat->Prop)(m:Mp)(a:Act)(w:bW):Prop where
 mem:MInv S H' ops.size m0 w0 ae m w
 size:a.tmps.size=nt
 slot:∀t k,k<=ops.size->ady ops ae t k->VR (m.upto<|nx S k) (ig (S k) t) (a.tmps.getD t undef)
 de:a.defers=d0
def Rg.look(g:Rg P cf ops n nt S H')(ho:ops[j]?=Z o)(t:Nat)(h:o.dst≠Z t):ig (S<|j+1) t=ig (S j) t:=by
 have hs:=g.step j o ho
 have hd:JQ (S j).nt o.dst=f:=by
  have:=g.ok j o ho;unfold wT at this;rw[aZ]at this;rw[g.nts j o ho];exact this.2
 generalize S (j+1)=s1 at hs;generalize H' j=c at hs;cases hs with
 |skip hw=>rw[yC hd,if_neg h]
 |BP v hw R=>rw[yC hd,if_neg h]
 |mem v C hw R=>rw[yC hd,if_neg h]
def get_put(hs:a.tmps.size=nt)(hd:JQ nt d=f)(t:Nat):(a.put d v).tmps.getD t undef=if d=Z t then v else a.tmps.getD t undef:=by
 cases d with
 |none=>rfl
 |some d=>
  have hd:d<nt:=aD hd;show(a.tmps.setIfInBounds d v).getD t undef=_
  by_cases e:d=t
  .subst e;rw[if_pos O];simp[Array.getD,hs,hd]
  .rw[if_neg (by simpa using e)];simp only[gG];rw[jM e]
def ZL:(a.put d v).tmps.size=a.tmps.size:=by
 cases d with
 |none=>rfl
 |some d=>show(a.tmps.setIfInBounds d v).size=_;simp
def Xi(g:Rg P cf ops n nt S H')(hD:Closed ops ae)(hsz:a.tmps.size=nt)(hsl:∀t k,k<=ops.size->ady ops ae t k->VR (m.upto<|nx S k) (ig (S k) t) (a.tmps.getD t undef))(hi:i<ops.size)(DJ:¬ae i)(hm:Mp.le m m')(hv:VR (m'.upto<|nx S<|i+1) v v')(MB:∀t,ops[i].dst=Z t->ig (S<|i+1) t=v):
 ∀t k,k<=ops.size->ady ops (E9 ae i) t k->VR (m'.upto<|nx S k) (ig (S k) t) ((a.put ops[i].dst v').tmps.getD t undef):=by
 intro t k hk hcon;have hoi:ops[i]?=Z ops[i]:=bq hi
 have hd:JQ nt ops[i].dst=f:=by
  have:=g.ok i _ hoi;unfold wT at this;rw[aZ]at this;exact this.2
 rw[get_put hsz hd]
 by_cases e:ops[i].dst=Z t
 .rw[if_pos e];have hik:i<k:=(hcon i _ hoi e).1<|.inr O
  have hsame:∀d,i+1+d<=k->ig (S<|i+1+d) t=v:=by
   intro d
   induction d with
   |zero=>intro _;exact MB t e
   |succ d ih=>
    intro hd';have hj:i+1+d<ops.size:=by omega
    have hoj:ops[i+1+d]?=Z ops[i+1+d]:=bq hj;rw[show i+1+(d+1)=i+1+d+1 from O,g.look hoj t ?_,ih N];intro e2;have K5:ae (i+1+d):=((hcon _ _ hoj e2).2 N).resolve_right N;rcases g.stat i (i+1+d) _ _ N hoi hoj with hb|hap
    .exact DJ<|mD g.back hD _ _ hoj (hD _ _ hoj K5) i hb
    .exact(Oper.apart_spec hap).2.1 t e e2
  have:=hsame (k-(i+1)) N;rw[show i+1+(k-(i+1))=k from by omega]at this;rw[this];exact hv.mono<|Mp.wU (λ_ _ h=>h)<|g.mono _ _ hik hk
 .rw[if_neg e];refine(hsl t k hk ?_).mono<|Mp.wU hm<|az _;intro j o hj hdj
  have hji:j≠i:=by
   intro e2;subst e2;rw[hoi]at hj;cases hj;exact e hdj
  rw[<-hcon j o hj hdj];exact⟨.inl,λh=>h.resolve_right hji⟩
def ZM(g:Rg P cf ops n nt S H')(hD:Closed ops ae)(hi:i<ops.size)(DJ:¬ae i)(nP:∀e,e∈ops[i].after.toList->fM .any e=f->ae e.on){t:Nat}(ht:t∈ops[i].looksAt ops):ady ops ae t i:=by
 intro j o hj hdj;have hoi:ops[i]?=Z ops[i]:=bq hi;rcases kC j i with h|h|h
 .refine⟨λ_=>h,λ_=>?_⟩;rcases g.stat j i _ _ h hj hoi with hb|hap
  .exact mD g.back hD i _ hoi nP j hb
  .exact absurd ht<|(Oper.apart_spec hap).1 t hdj
 .subst h;exact⟨λh=>absurd h DJ,λh=>absurd h<|qI _⟩
 .refine⟨λK5=>?_,λh'=>by omega⟩;rcases g.stat i j _ _ h hoi hj with hb|hap
  .exact absurd (mD g.back hD j _ hj (hD j _ hj K5) i hb) DJ
  .exact absurd ht<|(Oper.apart_spec hap).2.2 t hdj
def Xj{hc:Option Bool}(av:∀(o:Oper) t,ops[j]?=Z o->o.dst=Z t->VR m (ig s t) (a.tmps.getD t undef))(h:AJ ops s j=Z hc):yielded ops a.tmps j=hc:=by
 obtain⟨o,ho,h⟩:=aI h;obtain⟨t,ht,h⟩:=aI h;rw[om,eB]at ho;have hs:=av o t ho ht
 have hy:yielded ops a.tmps j=match a.tmps[t]? with|some (.bool b)=>Z b|_=>W:=by
  unfold yielded;rw[ho];show(match(o.dst).bind (a.tmps[·]?)with|some (.bool b)=>Z b|_=>W)=_;rw[ht];rfl
 rw[hy];cases hb:jH (ig s t)with
 |some b=>
  rw[hb]at h;replace h:Z (Z b)=Z hc:=h;cases h;rw[oO hb]at hs;have hs:=hs.of_bool;rw[gG]at hs;cases hq:a.tmps[t]? with
  |none=>rw[hq]at hs;cases hs
  |some x=>rw[hq]at hs;replace hs:x=.bool b:=hs;rw[hs]
 |none=>
  rw[hb]at h;replace h:(gd (isU<|ig s t)<|Z (W:Option Bool))=Z hc:=h;obtain⟨hg,h⟩:=fH h;cases h;rw[Zt hg]at hs;obtain⟨l',hl,hv⟩:=VR.Nt (x:=[]) hs;cases hv;rw[gG]at hl;cases hq:a.tmps[t]? with
  |none=>rfl
  |some x=>rw[hq]at hl;replace hl:x=.tuple ⟨[]⟩:=hl;rw[hl]
def JX(av:∀t,t∈o.looksAt ops->VR m (ig s t) (a.tmps.getD t undef))(h:qy ops s o.guard=Z b):Region.wanted o (yielded ops a.tmps)=b:=by
 unfold Region.wanted;cases hg:o.guard with
 |none=>rw[hg]at h;cases h;rfl
 |some p=>
  rw[hg]at h;replace h:(aK (AJ ops s p.1) λhc=>Z<|@aN Bool (λ_=>Bool) aA (λb=>Au b p.2) hc)=Z b:=h;obtain⟨hc,hy,h⟩:=aI h;cases h;obtain⟨j,want⟩:=p;simp only
  rw[Xj (m:=m) (s:=s) (λo' t ho' ht=>av t (by
   unfold Oper.looksAt;rw[hg];refine cO _ ?_;simp only[ho',Option.bind_some,ht];simp)) hy]
  cases hc with
  |none=>rfl
  |some c=>cases c<;>cases want<;>rfl
def agA(gl:Gl n m)(hok:all' (Ea n) o.op.operands.toList=f)(av:∀t,t∈o.looksAt ops->VR m (ig s t) (a.tmps.getD t undef)):Mq m s a.eval o.op.operands.toList:=by
 refine⟨λx J=>?_⟩;rw[all_eq]at hok;have hx':=eD.1 hok x J;cases x with
 |tmp t=>
  refine av t ?_;unfold Oper.looksAt;refine cZ _ ?_;rw[List.mem_filterMap];exact⟨_,J,O⟩
 |const v=>exact .sc v hx'
 |global k=>
  obtain⟨l,Q,I,h3,h4⟩:=gl k<|aD hx';have:=VR.ptr (m:=m) k 0 l Q N;rw[I,h3,h4]at this;exact this
 |func av=>exact .func (.func av) [] [] [] [] .nil .nil
def ZN(e:Mq m s ρ L)(A:F):Mq m ⟨s.nl,s.nt,s.reg,s.tm,s.df,A⟩ ρ L:=⟨λx J=>by have:=e.all x J;cases x<;>exact this⟩
theorem Inv.step(g:Rg P cf ops n nt S H')(hcf:E6 P n cf)(gl0:Gl n m0)(ID:∀r l,m0 r=Z l->r<nx S 0)(hD:Closed ops ae)(h2:Inv ops nt S H' m0 w0 d0 ae m a w)(hi:i<ops.size)(DJ:¬ae i)(nP:∀e,e∈ops[i].after.toList->fM .any e=f->ae e.on)(HK:∀m' a' w',Inv ops nt S H' m0 w0 d0 (E9 ae i) m' a' w'->K a' w'):wpOp P ops h1 i K a w:=by
 have hoi:ops[i]?=Z ops[i]:=bq hi;have hst:=g.step i _ hoi;have hok:=g.ok i _ hoi;unfold wT at hok;rw[aZ]at hok;have hdst:JQ (S i).nt ops[i].dst=f:=by rw[g.nts i _ hoi];exact hok.2
 have hsl:∀t,t∈ops[i].looksAt ops->VR (m.upto<|nx S i) (ig (S i) t) (a.tmps.getD t undef):=λt ht=>h2.slot t i N<|ZM g hD hi DJ nP ht
 have gli:Gl n (m.upto<|nx S i):=by
  intro k hk;obtain⟨l,Q,I⟩:=gl0 k hk;exact⟨l,Mp.E7 (h2.mem.le _ _ Q)<|aP (ID _ _ Q)<|g.mono 0 i N N,I⟩
 have e:=agA gli hok.1 hsl
 have fin:∀(v v':D)(m':Mp)(w':bW),MInv S H' ops.size m0 w0 (E9 ae i) m' w'->Mp.le m m'->VR (m'.upto<|nx S<|i+1) v v'->(∀t,ops[i].dst=Z t->ig (S<|i+1) t=v)->K (a.put ops[i].dst v') w':=by
  intro v v' m' w' hM hle hv hl;exact HK m' _ w' ⟨hM,by rw[ZL];exact h2.size,Xi g hD h2.size h2.slot hi DJ hle hv hl,by rw[put_defers];exact h2.de⟩
 have ail:Mp.le (m.upto<|nx S i) (m.upto<|nx S<|i+1):=Mp.wU (λ_ _ h=>h)<|g.Px hi;unfold wpOp;rw[hoi];generalize hs1:S (i+1)=s1 at hst;generalize hci:H' i=c at hst;cases hst with
 |skip hw=>
  simp only[JX hsl hw,dh,kD];refine fin undef undef m w (h2.mem.still hi λr _=>by rw[hs1,k_]) (λ_ _ h=>h) (.tuple [] [] .nil) ?_;intro t ht;rw[hs1,yC hdst,if_pos ht]
 |BP v hw R=>
  simp only[JX hsl hw,kE];left;obtain⟨v',Q,I⟩:=NJ R e.gW λ_=>rfl;unfold Oper.wp;rw[I w];refine fin v v' m w (h2.mem.still hi λr _=>by rw[hs1,k_]) (λ_ _ h=>h) (Q.mono ail) ?_;intro t ht;rw[hs1,yC hdst,if_pos ht]
 |mem v C hw R=>
  simp only[JX hsl hw,kE];left
  have MB:∀t,ops[i].dst=Z t->ig (S<|i+1) t=v:=by
   intro t ht;rw[hs1,yC hdst,if_pos ht]
  have BQ:∀r,(S<|i+1).H.obj r=C.obj r:=by intro r;rw[hs1,k_];rfl
  have hnx:nx S (i+1)=C.next:=by show(S<|i+1).H.next=_;rw[hs1,k_]
  have aim:(S ops.size).H.low<=C.low:=by
   have Q:=g.low (i+1) ops.size N<|az _;rw[hs1,k_]at Q;have Q:(S ops.size).H.low<=nN (S i).H.low C.low:=Q;exact aX Q (Di _ _).2
  have UU:((H' i).k=2\/((H' i).k=1/\nx S i<=C.low))->ops[i].wp P a w K h1:=by
   intro hk
   have SA:(H' i).k=1\/(H' i).k=2:=by
    rcases hk with h|h
    .exact .inr h
    .exact .inl h.1
   have rh:RH (m.upto<|nx S i) (gW<|S i).H w:=by
    refine⟨λr l h=>(Mp.oH h).1,?_,?_⟩
    .intro r l h;have hu:=Mp.oH h;obtain⟨o,ho⟩:=h2.mem.Xf r l hu.2;exact⟨o,ho,Rel.ZE λκ=>h2.mem.cnt κ r l i o N hu.2 (g.UR hD hi DJ nP SA hu.1) ho⟩
    .intro r r' l l' h h' hd hd' y;have hu:=Mp.oH h;have hu':=Mp.oH h';exact h2.mem.sep r r' l l' i i hu.2 hu'.2 y N N (g.UR hD hi DJ nP SA hu.1) (g.UR hD hi DJ nP SA hu'.1) hd hd'
   refine JV hcf (s:=gW<|S i) rh gli R e.gW ?_;intro m2 v' w' Q I h3
   obtain⟨m',f1,f2,f3⟩:=h2.mem.made g hD hi DJ nP (A:=(gW<|S i).H) (A':=C) O hnx.symm I h3 (.inr aim) (λr _ _=>(BQ r).symm)
    (by rcases SA with h|h<;>omega) (by
     rcases hk with h|h
     .exact .inl ⟨h,λr=>(BQ r).symm,λr=>rfl⟩
     .exact .inr ⟨N,h.2⟩)
   exact fin v v' m' w' f1 f2 (Q.mono f3) MB
  rcases NR (P:=P) (o:=ops[i].op) (s:=S i) (C:=C)with⟨p,ad,hs,ha,ec⟩|ec|⟨hlow,⟨hf,ec⟩|ec|⟨p,ad,l,hs,ha,hl,ec⟩⟩
  .
   have hc3:(H' i).k=3:=by rw[hci,ec]
   have hsk:=Gg (g.step i _ hoi) hc3;obtain⟨t,x,hc,a1,H1,hop,hw1,ha1,hcl,ain,akW,hwr⟩:=hsk.ex
   have hv:v=undef/\C=H1:=by
    rw[hop]at R;have h:=nO (o:=yI P t (ev (gW<|S i) x) (ev (gW<|S i) hc) (gW<|S i).H) R;rw[z_,z_,ain]at h;cases h;exact⟨O,O⟩
   obtain⟨w',r1,r2⟩:=h2.mem.stored g hD hi DJ nP hc3 ha1 hcl ain (by rw[akW,k_]) hwr (e.all x (by rw[hop];simp[fU]))<|e.all hc (by rw[hop];simp[fU])
   have hrun:(execOp a.eval ops[i]).run P w=.ok .skip w':=by
    simp only[execOp,hop,cB,r1,bN,dF]
   unfold Oper.wp;rw[hrun];exact fin v undef m w' r2 (λ_ _ h=>h) (by rw[hv.1];exact .tuple [] [] .nil) MB
  .exact UU<|.inl (by rw[hci,ec])
  .
   obtain⟨ob,e1,e2⟩:=ZJ (cf:=cf) (s:=gW<|S i) hf R;have hA:=e2 ⟨.nil,nx S i,nx S i⟩ O
   have rh:RH (m.upto<|nx S i) ⟨.nil,nx S i,nx S i⟩ w:=by
    refine⟨λr l h=>(Mp.oH h).1,?_,?_⟩
    .intro r l h;obtain⟨o,ho⟩:=h2.mem.Xf r l (Mp.oH h).2;refine⟨o,ho,?_⟩;show uE _ _ ((Tr.nil:Tr lu).get .dead r) _;rw[Tr.get_nil];trivial
    .intro r r' l l' _ _ hd _ _;exact absurd (Tr.get_nil _ _) hd
   refine JV hcf (s:=⟨(S i).nl,(S i).nt,(S i).reg,(S i).tm,(S i).df,⟨.nil,nx S i,nx S i⟩⟩) rh gli hA (ZN e _) ?_;intro m2 v' w' Q I h3;have Yz:(H' i).k=5:=by rw[hci,ec];rfl
   obtain⟨m',f1,f2,f3⟩:=h2.mem.made g hD hi DJ nP (A:=⟨.nil,nx S i,nx S i⟩) (A':=(F.mk .nil (nx S i)<|nx S i).new ob) O (by rw[hnx,e1];rfl) I h3 (.inl<|az _) (by
    intro r a1 a2;rw[BQ,e1,yl,yl]
    have:r=nx S i:=by
     rw[hnx,e1]at a2;have:r<nx S i+1:=a2;omega
    rw[if_pos this];exact(if_pos this).symm) N (.inr ⟨N,az _⟩)
   exact fin v v' m' w' f1 f2 (Q.mono f3) MB
  .exact UU<|.inr ⟨by rw[hci,ec];rfl,hlow⟩
  .
   have hc4:(H' i).k=4:=by rw[hci,ec]
   have hop:=Xh hs;rw[hop]at R;have hld:=nO (o:=vJ P p.1 (ev (gW<|S i) p.2) (gW<|S i).H) R;rw[z_]at hld;have J:=e.all p.2 (by rw[hop];simp[fU]);have hx0:=J;rw[o8 ha]at hx0;obtain⟨l1,hm1,_,_,_⟩:=hx0.sS;have hu:=Mp.oH hm1;obtain⟨ob,PD⟩:=h2.mem.Xf _ _ hu.2;have hCr:(H' i).r=ad.block:=by rw[hci,ec]
   have hCo:(H' i).off=ad.off:=by rw[hci,ec]
   have hCn:(H' i).n=l.getD 1:=by rw[hci,ec]
   obtain⟨v',Q,I⟩:=Sw (P:=P) (w:=w) (ob:=ob) hld J ha hl hm1 PD (by
    intro k rg q1 q2 q3;have hcon:=g.akT hD hi DJ nP hc4 (k:=k) (by rw[hCo];exact q1) (by rw[hCo,hCn];exact q2) (by rw[hCr];exact hu.1);rw[hCr]at hcon;have hrel:=h2.mem.cnt (Z k) _ _ i ob N hu.2 hcon PD;have hrel:Rel (Z k) (m.upto<|nx S i) l1 (.cell<|lD ((S i).H.obj ad.block) k) ob:=hrel;replace q3:lD ((S i).H.obj ad.block) k=Z rg:=q3;rw[q3]at hrel
    by_cases hlk:l1.lo<=k
    .exact hrel hlk
    .exfalso;have:=J;rw[o8 ha]at this;obtain⟨l2,g1,g2,_⟩:=this.sS;rw[hm1]at g1;cases g1;omega)
   have hrun:(execOp a.eval ops[i]).run P w=.ok (.value v') w:=by
    simp only[execOp,hop,cB,I,bN,dF]
   unfold Oper.wp;rw[hrun];refine fin v v' m w (h2.mem.still hi λr hr'=>g.same hi N N hr') (λ_ _ h=>h) (Q.mono ail) MB
end u
section u
variable{P:aS}{cf:kM}{S:Nat->St}
def left(aa:Nat)(listed:Array Bool):Nat:=((fZ aa).filter λj=>!(listed.getD j aA)).length
def filter_le(p q:Nat->Bool)(h:∀x,p x=f->q x=f):∀(l:List Nat),(l.filter p).length<=(l.filter q).length:=by
 intro l
 induction l with
 |nil=>exact az _
 |cons hc l ih=>
  simp only[nQ];cases hy:p hc with
  |true=>rw[h hc hy];simp only[kE,cr];omega
  |false=>
   simp only[dh,kD];split
   .simp only[cr];omega
   .exact ih
def filter_lt(p q:Nat->Bool)(h:∀x,p x=f->q x=f):∀(l:List Nat)(hc:Nat),hc∈l->q hc=f->p hc=aA->(l.filter p).length<(l.filter q).length:=by
 intro l
 induction l with
 |nil=>intro hc hy;cases hy
 |cons z l ih=>
  intro hc hy hq hp;simp only[nQ];rcases bM.1 hy with e|hy
  .rw[<-e,hq,hp];have:=filter_le p q h l;simp only[kE,dh,kD,cr];omega
  .have:=ih hc hy hq hp;cases hz:p z with
   |true=>rw[h z hz];simp only[kE,cr];omega
   |false=>
    simp only[dh,kD];split
    .simp only[cr];omega
    .exact this
def Xk(h:left aa listed=0):∀j,j<aa->listed.getD j aA=f:=by
 intro j hj;have:=gK h;have hm:=List.filter_eq_nil_iff.1 this j<|lZ.2 hj;simpa using hm
def ZO(hs:listed.size=aa)(hi:i<aa)(hl:listed.getD i aA=aA):left aa (listed.setIfInBounds i f)<left aa listed:=by
 refine filter_lt _ _ ?_ _ i (lZ.2 hi) (by rw[hl];rfl) ?_
 .intro x J;cases h:listed.getD x aA with
  |false=>rfl
  |true=>rw[getD_set_true h]at J;exact J
 .have:(listed.setIfInBounds i f).getD i aA=f:=by simp[hs,hi]
  rw[this];rfl
def SC(aa:Nat):left aa (kI aa aA)<=aa:=by
 unfold left;have:=mX (λj=>!((kI aa aA).getD j aA))<|fZ aa;simpa using this
def any_ok(g:Rg P cf ops n nt S H')(hcf:E6 P n cf)(gl0:Gl n m0)(ID:∀r l,m0 r=Z l->r<nx S 0)(HQ:∀ae m a w,(∀j,j<ops.size->ae j)->Inv ops nt S H' m0 w0 d0 ae m a w->h1 .normal a w):
 ∀(fuel:Nat)(listed:Array Bool)(m:Mp)(a:Act)(w:bW),listed.size=ops.size->left ops.size listed<=fuel->Closed ops (λj=>listed.getD j aA=f)->
  Inv ops nt S H' m0 w0 d0 (λj=>listed.getD j aA=f) m a w->wpAny P .any ops h1 fuel listed a w:=by
 have hall:∀(listed:Array Bool),listed.size=ops.size->Region.ready .any ops listed=[]->∀j,j<ops.size->listed.getD j aA=f:=by
  intro listed hsz R j
  induction j using Nat.strongRecOn with
  |_ j ih=>
   intro hj;cases hl:listed.getD j aA with
   |true=>rfl
   |false=>
    have hoj:ops[j]?=Z ops[j]:=bq hj
    have hmem:j∈Region.ready .any ops listed:=by
     rw[mem_ready];refine⟨by simp[hsz,hj]at hl|-;exact hl,ops[j],hoj,λe he hb=>?_⟩;have hlt:=Cn ops.toList 0 j ops[j] g.back (by rw[eB];exact hoj) e (by simpa using he) hb;exact ih e.on N N
    rw[R]at hmem;cases hmem
 intro fuel
 induction fuel with
 |zero=>
  intro listed m a w hsz hle hD h2;have Q:=Xk<|Nat.le_zero.1 hle;refine⟨?_,HQ _ m a w Q h2⟩;cases R:Region.ready .any ops listed with
  |nil=>rfl
  |cons j l=>
   exfalso;have hj:j∈Region.ready .any ops listed:=by rw[R];exact aL ..
   rw[mem_ready]at hj;obtain⟨I,o,ho,_⟩:=hj;have hjs:j<ops.size:=(dR.1 ho).1;have:=Q j hjs;simp[hsz,hjs]at I this;rw[I]at this;cases this
 |succ fuel ih=>
  intro listed m a w hsz hle hD h2;refine⟨λR=>HQ _ m a w (hall listed hsz R) h2,λi hi=>?_⟩;rw[mem_ready]at hi;obtain⟨I,o,ho,h3⟩:=hi;have his:i<ops.size:=(dR.1 ho).1
  have hoo:ops[i]=o:=by
   have:=bq his;rw[ho]at this;injection this with this;exact this.symm
  subst hoo;have hun:listed.getD i aA=aA:=by simp[hsz,his]at I|-;exact I
  have hset:∀j,((listed.setIfInBounds i f).getD j aA=f)<->E9 (λj=>listed.getD j aA=f) i j:=by
   intro j
   by_cases e:i=j
   .subst e;exact⟨λ_=>.inr O,λ_=>by simp[hsz,his]⟩
   .rw[getD_set_ne aA e];exact⟨.inl,λh=>h.resolve_right<|oJ e⟩
  refine Inv.step g hcf gl0 ID hD h2 his (by rw[hun];simp) (λe he hb=>h3 e (by simpa using he) hb) ?_;intro m' a' w' I'
  have hfun:(λj=>(listed.setIfInBounds i f).getD j aA=f)=E9 (λj=>listed.getD j aA=f) i:=by
   funext j;exact propext<|hset j
  refine ih (listed.setIfInBounds i f) m' a' w' (by simpa using hsz) ?_ ?_ (by rw[hfun];exact I')
  .have:=ZO (aa:=ops.size) hsz his hun;omega
  .intro j o hj K5 e he hb;rcases(hset j).1 K5 with h|h
   .exact getD_set_true<|hD j o hj h e he hb
   .subst h;rw[ho]at hj;cases hj;exact getD_set_true<|h3 e (by simpa using he) hb
end u
section mem
variable{P:aS}
def adz(hmo:P.follows .mixedOrders=f){cf:kM}(hcf:E6 P n cf)(nt:Nat):NK P cf n nt:=by
 intro id ops s m a w h1 hall hpl hnt rh av gl hpost;replace hpost:Post m s.H w a.defers nt s.df h1 (bR (j4 ops&&oN ops) (uW ops<|jd P cf ops ops.toList (clear s) []) .fail):=hpost;cases hst:oN ops with
 |false=>rw[hpl,hst]at hpost;exact hpost.elim
 |true=>
  rw[hpl,hst]at hpost;replace hpost:Post m s.H w a.defers nt s.df h1 (uW ops<|jd P cf ops ops.toList (clear s) []):=hpost;cases R:jd P cf ops ops.toList (clear s) []with
  |none=>rw[R]at hpost;exact hpost.elim
  |some q=>
   obtain⟨s1,cls⟩:=q;rw[R]at hpost;replace hpost:Post m s.H w a.defers nt s.df h1 (bR (jI ops cls) (.norm s1) .fail):=hpost;cases hdy:jI ops cls with
   |false=>rw[hdy]at hpost;exact hpost.elim
   |true=>
    rw[hdy]at hpost;replace hpost:To m s.H w a.defers nt s.df s1 (h1 .normal):=hpost;rw[all_eq,eD]at hall;obtain⟨S,H',e0,eN,e3,e4,_,e6⟩:=trace hcf (ops:=ops) (nt:=nt) ops.toList (clear s) s1 [] cls m a w hall hnt rh av.clear gl R;simp only[og]at eN e3 e4;have hto:∀(j:Nat)(o:Oper),ops[j]?=Z o->ops.toList[j]?=Z o:=λj o h=>by rw[eB];exact h
    have hsp:=Xe hst
    have hk5:∀j,j<ops.size->(H' j).k<=5:=by
     intro j hj;have hs:=(e6 j _<|hto j _<|bq hj).1;generalize S (j+1)=s2 at hs;generalize H' j=c at hs;cases hs with
     |skip hw=>exact bg _
     |BP v hw R=>exact bg _
     |mem v C hw R=>exact ZB
    have g:Rg P cf ops n nt S H':=by
     refine⟨λj o h=>(e6 j o<|hto j o h).1,λj o h=>(e6 j o<|hto j o h).2.1,λj o h=>(e6 j o<|hto j o h).2.2,?_,hsp.1,hsp.2,?_⟩
     .intro j o h;exact hall o<|aR<|hto j o h
     .exact ZC hdy (by simpa using e3) e4 hk5
    have Xl:nx S 0=s.H.next:=by show(S 0).H.next=_;rw[e0];rfl
    have PE:∀r,(S 0).H.obj r=s.H.obj r:=by intro r;rw[e0];rfl
    have ID:∀r l,m r=Z l->r<nx S 0:=λr l h=>by rw[Xl];exact rh.dom r l h
    have hup:∀k,k<=ops.size->Mp.le m (m.upto<|nx S k):=λk hk r l h=>Mp.E7 h<|aP (ID r l h)<|g.mono 0 k N hk
    have akX:∀j,j<=ops.size->(S j).df=s.df:=by
     intro j
     induction j with
     |zero=>intro _;rw[e0];rfl
     |succ j ih=>
      intro hj;have hs:=g.step j _<|bq hj;rw[<-ih N];generalize S (j+1)=s2 at hs;generalize H' j=c at hs;cases hs with
      |skip hw=>rw[Dh]
      |BP v hw R=>rw[Dh]
      |mem v C hw R=>rw[Dh]
    have aio:(S ops.size).nt=nt:=by
     cases hz:ops.size with
     |zero=>rw[e0];exact hnt
     |succ k=>
      have hj:k<ops.size:=by omega
      have hoj:=bq hj;have hs:=g.step k _ hoj;rw[<-g.nts k _ hoj];generalize S (k+1)=s2 at hs;generalize H' k=c at hs;cases hs with
      |skip hw=>rw[yo]
      |BP v hw R=>rw[yo]
      |mem v C hw R=>rw[yo]
    have hfalse:∀j,((kI ops.size aA).getD j aA=f)<->False:=by
     intro j;simp only[gG,Array.getElem?_replicate,iff_false];split<;>simp
    have My:∀κ r k,k<=ops.size->DI S ops.size (λj=>(kI ops.size aA).getD j aA=f) κ r k->r<nx S 0->at' S κ r 0=at' S κ r k:=by
     intro κ r k hk hcon R;refine DI.eq g.mono N hk ⟨R,λj _ _ _=>?_⟩ hcon;rw[hfalse];exact⟨λh=>h.elim,λh=>by omega⟩
    have hI:Inv ops nt S H' m w.drew a.defers (λj=>(kI ops.size aA).getD j aA=f) m a w.drew:=by
     refine⟨⟨?_,?_,?_,?_,?_,?_,λ_ _ h=>h,?_,rfl,rfl,rfl,az _,λ_ _ _=>rfl⟩,by rw[av.size];exact hnt,?_,O⟩
     .exactλr l h=>.inl ⟨h,ID r l h⟩
     .intro r l h;obtain⟨o,ho,_⟩:=rh.ok r l h;exact⟨o,ho⟩
     .intro κ r l k o hk hm hcon ho;obtain⟨o',ho',hok⟩:=rh.ok r l hm
      have:o'=o:=by
       have Q:w.heap[l.c]?=Z o:=ho;rw[ho']at Q;injection Q
      subst this;rw[<-PE]at hok;have hrel:Rel κ m l (at' S κ r 0) o':=Rel.jf hok;rw[My κ r k hk hcon (ID r l hm)]at hrel;exact hrel.mono<|hup k hk
     .intro r r' l l' k k' Q I h3 h4 h5 h6 h7 h8 h9;refine rh.sep r r' l l' Q I ?_ ?_ h3
      .rw[<-PE];exact AY (My W r k h4 h6<|ID r l Q).symm h8
      .rw[<-PE];exact AY (My W r' k' h5 h7<|ID r' l' I).symm h9
     .intro r r' l l' j Q I _ hj _ _;have hm:=g.mono 0 j N N;exact⟨λ_=>aP (ID r' l' I) hm,λ_=>aP (ID r l Q) hm⟩
     .intro j r _ K5;exact((hfalse j).1 K5).elim
     .intro r l h h0;rw[h]at h0;cases h0
     .intro t k hk hcon
      have hsame:∀d,d<=k->ig (S d) t=ig (S 0) t:=by
       intro d
       induction d with
       |zero=>intro _;rfl
       |succ d ih=>
        intro hd;have hj:d<ops.size:=by omega
        have hoj:ops[d]?=Z ops[d]:=bq hj;rw[g.look hoj t ?_,ih N];intro e;exact(hfalse d).1<|(hcon d _ hoj e).2 N
      rw[hsame k (az _),e0];exact(av.clear.slot t).mono<|hup k hk
    refine wp_region_any hmo ?_;refine any_ok g hcf gl ID ?_ ops.size (kI ops.size aA) m a w.drew (by simp) (SC _) (λj o _ h=>((hfalse j).1 h).elim) hI;intro ae m' a' w' hD h2;have ZP:∀κ r,r<nx S ops.size->DI S ops.size ae κ r ops.size:=λκ r R=>⟨R,λj hj _ _=>⟨λ_=>hj,λ_=>hD j hj⟩⟩
    have UW:∀r l,m' r=Z l->r<nx S ops.size:=by
     intro r l h;rcases h2.mem.dom r l h with⟨_,Q⟩|⟨j,hj,_,_,Q⟩
     .exact aP Q<|g.mono 0 _ N<|az _
     .exact aP Q<|g.mono _ _ N<|az _
    have hnone:∀r,r<nx S 0->m r=W->m' r=W:=by
     intro r R h;cases Q:m' r with
     |none=>rfl
     |some l=>
      rcases h2.mem.dom r l Q with⟨I,_⟩|⟨j,hj,_,I,_⟩
      .rw[h]at I;cases I
      .have:=g.mono 0 j N N;omega
    refine hpost m' a' w' ⟨⟨?_,?_⟩,⟨?_,?_,?_⟩,?_,h2.de,?_,?_⟩
    .rw[<-eN,aio];exact h2.size
    .intro t;rw[<-eN];refine(h2.slot t ops.size (az _) ?_).mono<|Mp.UM _ _;intro j o hj _;have:j<ops.size:=(dR.1 hj).1;exact⟨λ_=>this,λ_=>hD j this⟩
    .intro r l h;rw[<-eN];exact UW r l h
    .intro r l h;obtain⟨o,ho⟩:=h2.mem.Xf r l h;rw[<-eN];exact⟨o,ho,(Rel.ZE λκ=>h2.mem.cnt κ r l ops.size o (az _) h (ZP κ r<|UW r l h) ho).mono<|Mp.UM _ _⟩
    .intro r r' l l' h h' hd hd' y;rw[<-eN]at hd hd';exact h2.mem.sep r r' l l' _ _ h h' y (az _) (az _) (ZP W r<|UW r l h) (ZP W r'<|UW r' l' h') hd hd'
    .have hex:Ex m m' s.H s1.H w.drew w':=by
      rw[<-eN];refine⟨h2.mem.le,?_,?_,h2.mem.os,h2.mem.tape,h2.mem.output,h2.mem.size,h2.mem.keep,?_,?_,?_,?_⟩
      .intro r l h h0;rcases h2.mem.dom r l h with⟨I,_⟩|⟨j,hj,_,I,_⟩
       .rw[h0]at I;cases I
       .rw[<-Xl];exact aX (g.mono 0 j N N) I
      .exact h2.mem.fresh
      .rw[<-Xl];exact g.mono 0 _ N<|az _
      .have:=g.low 0 ops.size N (az _);rw[e0]at this;exact this
      .intro r Q I
       have:∀d,d<=ops.size->(S d).H.obj r=s.H.obj r:=by
        intro d
        induction d with
        |zero=>intro _;exact PE r
        |succ d ih=>
         intro hd;rw[g.adw (j:=d) N (aP (by rw[Xl];exact Q)<|g.mono 0 d N N) I,ih N]
       exact this ops.size<|az _
      .intro r Q I;have hmn:=hnone r (by rw[Xl];exact Q) I
       have:∀d,d<=ops.size->(S d).H.obj r=s.H.obj r:=by
        intro d
        induction d with
        |zero=>intro _;exact PE r
        |succ d ih=>
         intro hd;rw[h2.mem.hid d r N (hD d N) (aP (by rw[Xl];exact Q)<|g.mono 0 d N N) hmn,ih N]
       exact this ops.size<|az _
     exact(Ex.drew m s.H w).trans hex
    .rw[<-eN];exact aio
    .rw[<-eN];exact akX _<|az _
def levels(hmo:P.follows .mixedOrders=f){X:Xt}(hP:BH P n)(hX:Yy P X)(hO:IC P X n)(k:Nat):NM P n (j5 P X k):=
 (Zx hP hX hO (λ_ hcf nt=>adz hmo hcf nt) k).2.2
end mem
section mem
variable{P:aS}
def BH.SE(h:all' (Zw n) P.funcs.toList=f):BH P n:=by
 intro g fn hg;rw[all_eq,eD]at h;exact h fn<|aR (by rw[eB];exact hg)
end mem
def JY(cf zl:kM):Prop:=∀g args H r,cf g args H=Z r->zl g args H=Z r
def ZQ(cx OV:Code->St->Out):Prop:=∀c s,cx c s≠.fail->OV c s=cx c s
section mem
variable{P:aS}
def aeZ{o:Option (D×F)}(h:rm o≠.fail):∃r,o=Z r:=by
 cases o with
 |none=>exact absurd O h
 |some r=>exact⟨r,O⟩
def PG{cf:kM}(h:JY cf zl){o:Op}(hne:yh o P cf s≠.fail):yh o P zl s=yh o P cf s:=by
 cases o with
 |call c=>
  replace hne:wu c P cf s≠.fail:=hne;show wu c P zl s=wu c P cf s;obtain⟨callee,args,ats⟩:=c;cases callee with
  |builtin b=>rfl
  |value av=>
   obtain⟨r,R⟩:=aeZ (o:=aK (nC (.value av) P s) λq=>cf q.1 (app q.2.1<|app (mp (ev s) args.toList) q.2.2) s.H) hne;show rm (aK (nC (.value av) P s) λq=>zl q.1 (app q.2.1<|app (mp (ev s) args.toList) q.2.2) s.H)=rm (aK (nC (.value av) P s) λq=>cf q.1 (app q.2.1<|app (mp (ev s) args.toList) q.2.2) s.H);rw[R];obtain⟨q,Q,I⟩:=aI R;rw[Q];show rm (zl _ _ _)=_;rw[h _ _ _ _ I]
  |invoke av nm=>
   obtain⟨r,R⟩:=aeZ (o:=aK (nC (.invoke av nm) P s) λq=>cf q.1 (app q.2.1<|app (mp (ev s) args.toList) q.2.2) s.H) hne;show rm (aK (nC (.invoke av nm) P s) λq=>zl q.1 (app q.2.1<|app (mp (ev s) args.toList) q.2.2) s.H)=rm (aK (nC (.invoke av nm) P s) λq=>cf q.1 (app q.2.1<|app (mp (ev s) args.toList) q.2.2) s.H);rw[R];obtain⟨q,Q,I⟩:=aI R;rw[Q];show rm (zl _ _ _)=_;rw[h _ _ _ _ I]
 |_=>rfl
def Xm{cf:kM}(h:JY cf zl)(hs:zi P cf o s=Z s1):zi P zl o s=Z s1:=by
 unfold zi at hs|-;cases hd:qM o.op with
 |some c=>rw[hd]at hs;exact hs
 |none=>
  rw[hd]at hs;replace hs:D5 o s (yh o.op P cf s)=Z s1:=hs;show D5 o s (yh o.op P zl s)=Z s1;rw[PG h (by intro e;rw[e]at hs;cases hs)];exact hs
def He{cf:kM}(h:JY cf zl)(hs:l7 P cf ops o s=Z s1):l7 P zl ops o s=Z s1:=by
 obtain⟨b,hb,I⟩:=aI hs;unfold l7;rw[hb];cases b with
 |true=>exact Xm h I
 |false=>exact I
def Hf{cf:kM}(h:JY cf zl):∀{l:List Oper}{s s1:St},mF P cf ops l s=Z s1->mF P zl ops l s=Z s1:=by
 intro l
 induction l with
 |nil=>intro s s1 hs;exact hs
 |cons o l ih=>
  intro s s1 hs;replace hs:(aK (l7 P cf ops o s) λs=>mF P cf ops l s)=Z s1:=hs;obtain⟨s2,Q,I⟩:=aI hs;show(aK (l7 P zl ops o s) λs=>mF P zl ops l s)=Z s1;rw[He h Q];exact ih I
def E_{cf:kM}(h:JY cf zl){r:St×Cl}(hs:kS P cf ops o s=Z r):kS P zl ops o s=Z r:=by
 obtain⟨b,hb,I⟩:=aI hs;unfold kS;rw[hb];cases b with
 |true=>
  replace I:GY P o s (yh o.op P cf<|gW s)=Z r:=I;show GY P o s (yh o.op P zl<|gW s)=Z r;rw[PG h (by intro e;rw[e]at I;cases I)];exact I
 |false=>exact I
def Fb{cf:kM}(h:JY cf zl):∀{l:List Oper}{s:St}{acc:List Cl}{r:St×List Cl},jd P cf ops l s acc=Z r->jd P zl ops l s acc=Z r:=by
 intro l
 induction l with
 |nil=>intro s acc r hs;exact hs
 |cons o l ih=>
  intro s acc r hs;replace hs:(aK (kS P cf ops o s) λq=>jd P cf ops l q.1<|q.2::acc)=Z r:=hs;obtain⟨s2,Q,I⟩:=aI hs;show(aK (kS P zl ops o s) λq=>jd P zl ops l q.1<|q.2::acc)=Z r;rw[E_ h Q];exact ih I
def PI{cf:kM}(h:JY cf zl){d:Bool}(hne:region P cf ops d s≠.fail):region P zl ops d s=region P cf ops d s:=by
 cases d with
 |false=>
  replace hne:G4 (mF P cf ops ops.toList<|clear s)≠.fail:=hne;show G4 (mF P zl ops ops.toList<|clear s)=G4 (mF P cf ops ops.toList<|clear s);cases R:mF P cf ops ops.toList (clear s)with
  |none=>rw[R]at hne;exact absurd O hne
  |some s1=>rw[Hf h R]
 |true=>
  replace hne:bR (j4 ops&&oN ops) (uW ops<|jd P cf ops ops.toList (clear s) []) .fail≠.fail:=hne;show bR (j4 ops&&oN ops) (uW ops<|jd P zl ops ops.toList (clear s) []) .fail=bR (j4 ops&&oN ops) (uW ops<|jd P cf ops ops.toList (clear s) []) .fail;cases hb:(j4 ops&&oN ops)with
  |false=>rfl
  |true=>
   rw[hb]at hne;replace hne:uW ops (jd P cf ops ops.toList (clear s) [])≠.fail:=hne;show uW ops (jd P zl ops ops.toList (clear s) [])=uW ops (jd P cf ops ops.toList (clear s) []);cases R:jd P cf ops ops.toList (clear s) []with
   |none=>rw[R]at hne;exact absurd O hne
   |some r=>rw[Fb h R]
def Fe{o o':Out}{k k':St->Out}(ho:o≠.fail->o'=o)(hk:∀s,k s≠.fail->k' s=k s)(hne:andThen o k≠.fail):andThen o' k'=andThen o k:=by
 cases o with
 |fail=>exact absurd O hne
 |norm s=>rw[ho (by simp)];exact hk s hne
 |exit i s=>rw[ho (by simp)];rfl
 |goto l s=>rw[ho (by simp)];rfl
 |ret s=>rw[ho (by simp)];rfl
def JZ{av f':St->Out}(hf:∀s,av s≠.fail->f' s=av s):∀(n n':Nat),n<=n'->∀s,xB n av s≠.fail->xB n' f' s=xB n av s:=by
 intro n
 induction n with
 |zero=>intro n' _ s h;exact absurd O h
 |succ n ih=>
  intro n' hn s h;cases n' with
  |zero=>omega
  |succ n'=>
   show andThen (f' s) (xB n' f')=andThen (av s) (xB n av);exact Fe (hf s) (λs' h'=>ih n' N s' h') h
def Co(J:ZQ cx OV)(body:Code):∀(n n':Nat),n<=n'->∀o,nE cx n body o≠.fail->nE OV n' body o=nE cx n body o:=by
 intro n
 induction n with
 |zero=>intro n' _ o h;exact absurd O h
 |succ n ih=>
  intro n' hn o h;cases n' with
  |zero=>omega
  |succ n'=>
   cases o with
   |goto l s=>
    replace h:(@aN Code (λ_=>Out) (.goto l s) (λrest=>nE cx n body<|cx rest s) (findLabel body l):Out)≠.fail:=h;show(@aN Code (λ_=>Out) (.goto l s) (λrest=>nE OV n' body<|OV rest s) (findLabel body l):Out)=(@aN Code (λ_=>Out) (.goto l s) (λrest=>nE cx n body<|cx rest s) (findLabel body l):Out);cases hf:findLabel body l with
    |none=>rfl
    |some rest=>
     rw[hf]at h;replace h:nE cx n body (cx rest s)≠.fail:=h;show nE OV n' body (OV rest s)=nE cx n body (cx rest s)
     have hne:cx rest s≠.fail:=by
      intro e;rw[e]at h;cases n with
      |zero=>exact h O
      |succ n=>exact h O
     rw[J rest s hne];exact ih n' N _ h
   |_=>rfl
theorem Gh{cf:kM}(h:JY cf zl)(J:ZQ cx OV)(hn:n<=n'):∀(c:Code)(s:St),exec P cf cx n c s≠.fail->exec P zl OV n' c s=exec P cf cx n c s:=by
 intro c
 induction c with
 |region id ops d=>intro s hne;exact PI h hne
 |seq a b iha ihb=>
  intro s hne;exact Fe (o:=exec P cf cx n a s) (o':=exec P zl OV n' a s) (k:=exec P cf cx n b) (k':=exec P zl OV n' b) (iha s) ihb hne
 |cond c a b iha ihb=>
  intro s hne;replace hne:GZ (jH<|ev s c) (exec P cf cx n a s) (exec P cf cx n b s)≠.fail:=hne;show GZ (jH<|ev s c) (exec P zl OV n' a s) (exec P zl OV n' b s)=GZ (jH<|ev s c) (exec P cf cx n a s) (exec P cf cx n b s);cases hb:jH (ev s c)with
  |none=>rfl
  |some b'=>
   rw[hb]at hne;cases b' with
   |true=>exact iha s hne
   |false=>exact ihb s hne
 |block id a ih=>
  intro s hne;replace hne:wN id (exec P cf cx n a s)≠.fail:=hne;show wN id (exec P zl OV n' a s)=wN id (exec P cf cx n a s);rw[ih s (by intro e;rw[e]at hne;exact hne O)]
 |loop a ih=>intro s hne;exact JZ ih n n' hn s hne
 |scope a ih=>
  intro s hne;replace hne:nE cx n a (exec P cf cx n a s)≠.fail:=hne;show nE OV n' a (exec P zl OV n' a s)=nE cx n a (exec P cf cx n a s)
  have hne2:exec P cf cx n a s≠.fail:=by
   intro e;rw[e]at hne;cases n with
   |zero=>exact hne O
   |succ n=>exact hne O
  rw[ih s hne2];exact Co J a n n' hn _ hne
 |_=>intro s _;rfl
def PK{X:Xt}{L L':Lv}(h:JY L.ca L'.ca)(J:ZQ L.cx L'.cx)(hn:n<=n'):JY (AO P X L n) (AO P X L' n'):=by
 intro g args H r R;cases hor:X.o g args H with
 |some q=>rw[Ck hor]at R|-;exact R
 |none=>
 rw[xD hor]at R|-;obtain⟨fn,Q,I⟩:=aI R;rw[Q];show Wp P L' n' g (X g) fn args H=Z r;unfold Wp at I|-;cases hb:fn.body with
 |none=>rw[hb]at I;exact I
 |some c=>
  rw[hb]at I;obtain⟨h3,h4⟩:=fH (b:=aB (len args) fn.ntmps) I;obtain⟨s,h5,h6⟩:=aI h4;show gd (aB (len args) fn.ntmps) (aK (Nn<|exec P L'.ca L'.cx n' c ⟨jm P g,fn.ntmps,[],Tr.sD top args 0 .nil,[],H⟩) λs=>G5 P fn s)=Z r;rw[h3,Gh h J hn c _ (by intro e;rw[e]at h5;cases h5),h5];exact h6
def yu{X:Xt}:∀(n n':Nat),n<=n'->JY (lv P X n).ca (lv P X n').ca/\ZQ (lv P X n).cx (lv P X n').cx:=by
 intro n
 induction n with
 |zero=>intro n' _;exact⟨(λg args H r h=>by cases h),(λc s h=>absurd O h)⟩
 |succ n ih=>
  intro n' hn;cases n' with
  |zero=>omega
  |succ n'=>
   obtain⟨Q,I⟩:=ih n' N;exact⟨PK Q I N,λc s h=>Gh Q I N c s h⟩
def Ca(P:aS)(X:Xt)(g:FuncId)(args:List D)(H:F)(v:D)(C:F):Prop:=∃k,j5 P X k g args H=Z (v,C)
def Ff(P:aS)(X:Xt)(k:Nat)(c:Code)(s:St):Out:=exec P (lv P X k).ca (lv P X k).cx k c s
def Ev(P:aS)(X:Xt)(c:Code)(s:St)(o:Out):Prop:=o≠.fail/\∃k,Ff P X k c s=o
def Ro(P:aS)(X:Xt)(ops:Array Oper)(l:List Oper)(s s':St):Prop:=∃k,mF P (j5 P X k) ops l s=Z s'
def RoD(P:aS)(X:Xt)(ops:Array Oper)(l:List Oper)(s:St)(acc:List Cl)(r:St×List Cl):Prop:=∃k,jd P (j5 P X k) ops l s acc=Z r
variable{X:Xt}
def Ca.le(h:j5 P X k g args H=Z (v,C))(hk:k<=k'):j5 P X k' g args H=Z (v,C):=(yu k k' hk).1 _ _ _ _ h
def A_{o:Out}(h:Ff P X k c s=o)(ho:o≠.fail)(hk:k<=k'):Ff P X k' c s=o:=by
 rw[<-h];exact Gh (yu k k' hk).1 (yu k k' hk).2 hk c s (by show Ff P X k c s≠_;rw[h];exact ho)
section rules
variable{o:Out}{a b:Code}
def Ev.skip:Ev P X .skip s (.norm s):=⟨by simp,0,rfl⟩
def Ev.label{l:Nat}:Ev P X (.label l) s (.norm s):=⟨by simp,0,rfl⟩
def Ev.exit:Ev P X (.exit i) s (.exit i s):=⟨by simp,0,rfl⟩
def Ev.ret:Ev P X .ret s (.ret s):=⟨by simp,0,rfl⟩
def Ev.seq(Q:Ev P X a s<|.norm s1)(I:Ev P X b s1 o):Ev P X (.seq a b) s o:=by
 obtain⟨n1,k1,Q⟩:=Q;obtain⟨n2,k2,I⟩:=I;refine⟨n2,max k1 k2,?_⟩;show andThen (Ff P X (max k1 k2) a s) (Ff P X (max k1 k2) b)=o;rw[A_ Q n1 (mR _ _)];exact A_ I n2<|jW _ _
def Ev.adA(Q:Ev P X a s<|.ret s1):Ev P X (.seq a b) s (.ret s1):=by
 obtain⟨n1,k1,Q⟩:=Q;refine⟨n1,k1,?_⟩;show andThen (Ff P X k1 a s) (Ff P X k1 b)=_;rw[Q];rfl
def Ev.ZR(Q:Ev P X a s<|.exit i s1):Ev P X (.seq a b) s (.exit i s1):=by
 obtain⟨n1,k1,Q⟩:=Q;refine⟨n1,k1,?_⟩;show andThen (Ff P X k1 a s) (Ff P X k1 b)=_;rw[Q];rfl
def Ev.cond{x:bO}{t:Bool}(J:jH (ev s x)=Z t)(h:Ev P X (if t then a else b) s o):Ev P X (.cond x a b) s o:=by
 obtain⟨n1,k1,Q⟩:=h;refine⟨n1,k1,?_⟩;show GZ (jH<|ev s x) (Ff P X k1 a s) (Ff P X k1 b s)=o;rw[J];cases t with
 |true=>exact Q
 |false=>exact Q
def Ev.block(h:Ev P X a s<|.norm s1):Ev P X (.block i a) s (.norm s1):=by
 obtain⟨n1,k1,Q⟩:=h;refine⟨n1,k1,?_⟩;show wN i (Ff P X k1 a s)=_;rw[Q];rfl
def Ev.adB(Q:Ev P X a s<|.norm s1)(I:Ev P X (.loop a) s1 o):Ev P X (.loop a) s o:=by
 obtain⟨n1,k1,Q⟩:=Q;obtain⟨n2,k2,I⟩:=I;refine⟨n2,max k1 k2+1,?_⟩;show andThen (Ff P X (max k1 k2+1) a s) (xB (max k1 k2)<|Ff P X (max k1 k2+1) a)=o;rw[A_ Q n1 (aX (mR _ _)<|iG _)];show xB (max k1 k2) (Ff P X (max k1 k2+1) a) s1=o;replace I:xB k2 (Ff P X k2 a) s1=o:=I;rw[<-I];refine JZ ?_ k2 _ (jW _ _) s1 (by rw[I];exact n2);intro s2 hne;exact A_ O hne<|aX (jW _ _)<|iG _
def Ev.ZS(h:Ev P X a s<|.exit i s1):Ev P X (.loop a) s (.exit i s1):=by
 obtain⟨n1,k1,Q⟩:=h;refine⟨n1,k1+1,?_⟩;show andThen (Ff P X (k1+1) a s) _=_;rw[A_ Q n1 (iG _)];rfl
def Ev.ZT(h:Ev P X a s<|.ret s1):Ev P X (.loop a) s (.ret s1):=by
 obtain⟨n1,k1,Q⟩:=h;refine⟨n1,k1+1,?_⟩;show andThen (Ff P X (k1+1) a s) _=_;rw[A_ Q n1 (iG _)];rfl
def Ev.region{id:Nat}(h:Ro P X ops ops.toList (clear s) s1):Ev P X (.region id ops aA) s (.norm s1):=by
 obtain⟨k,h⟩:=h;refine⟨by simp,k,?_⟩;show G4 (mF P (j5 P X k) ops ops.toList<|clear s)=_;rw[h];rfl
def Ev.PL{id:Nat}(hp:(j4 ops&&oN ops)=f)(h:RoD P X ops ops.toList (clear s) [] (s1,cls))(hd:jI ops cls=f):Ev P X (.region id ops f) s (.norm s1):=by
 obtain⟨k,h⟩:=h;refine⟨by simp,k,?_⟩;show bR (j4 ops&&oN ops) (uW ops<|jd P (j5 P X k) ops ops.toList (clear s) []) .fail=_;rw[hp];show uW ops (jd P (j5 P X k) ops ops.toList (clear s) [])=_;rw[h];show bR (jI ops cls) (Out.norm s1) Out.fail=_;rw[hd];rfl
def Ro.nil:Ro P X ops [] s s:=⟨0,O⟩
def So(P:aS)(X:Xt)(ops:Array Oper)(p:Oper)(s s':St):Prop:=∃k,l7 P (j5 P X k) ops p s=Z s'
def Ro.cons{l:List Oper}(Q:So P X ops p s s1)(I:Ro P X ops l s1 s2):Ro P X ops (p::l) s s2:=by
 obtain⟨k1,Q⟩:=Q;obtain⟨k2,I⟩:=I;refine⟨max k1 k2,?_⟩;show(aK (l7 P (j5 P X<|max k1 k2) ops p s) λs=>mF P (j5 P X<|max k1 k2) ops l s)=_;rw[show l7 P (j5 P X<|max k1 k2) ops p s=Z s1 from He (yu k1 _<|mR k1 k2).1 Q];exact Hf (yu k2 _<|jW k1 k2).1 I
def So.BP(hw:qy ops s p.guard=Z f)(hd:qM p.op=W)(h:∀cf,yh p.op P cf s=.BP v):So P X ops p s (jg s p.dst v s.H):=by
 refine⟨0,?_⟩;unfold l7;rw[hw];show zi P _ p s=_;unfold zi;rw[hd];show D5 p s (yh p.op P _ s)=_;rw[h];rfl
def So.mem(hw:qy ops s p.guard=Z f)(hd:qM p.op=W)(h:∀cf,yh p.op P cf s=.mem v C):So P X ops p s (jg s p.dst v C):=by
 refine⟨0,?_⟩;unfold l7;rw[hw];show zi P _ p s=_;unfold zi;rw[hd];show D5 p s (yh p.op P _ s)=_;rw[h];rfl
def So.skip(hw:qy ops s p.guard=Z aA):So P X ops p s (jg s p.dst undef s.H):=by
 refine⟨0,?_⟩;unfold l7;rw[hw];rfl
def So.call{q:Call}{pre post:List D}(hw:qy ops s p.guard=Z f)(hop:p.op=.call q)(hb:isBuiltin q.callee=W)(y:nC q.callee P s=Z (g,pre,post))(h:Ca P X g (app pre<|app (mp (ev s) q.args.toList) post) s.H v C):So P X ops p s (jg s p.dst v C):=by
 obtain⟨k,h⟩:=h;refine⟨k,?_⟩;unfold l7;rw[hw];show zi P _ p s=_;unfold zi;rw[show qM p.op=W from by rw[hop];rfl];show D5 p s (yh p.op P (j5 P X k) s)=_
 have:yh p.op P (j5 P X k) s=.mem v C:=by
  rw[hop];show wu q P (j5 P X k) s=_;unfold wu;rw[hb];show rm (aK (nC q.callee P s) λz=>j5 P X k z.1 (app z.2.1<|app (mp (ev s) q.args.toList) z.2.2) s.H)=_;rw[y];show rm (j5 P X k g (app pre<|app (mp (ev s) q.args.toList) post) s.H)=_;rw[h];rfl
 rw[this];rfl
def Ca.body(hor:X.o g args H=W)(hg:nth P.funcs.toList g=Z fn)(hb:fn.body=Z c)(hl:aB (len args) fn.ntmps=f)(h:Ev P X c ⟨jm P g,fn.ntmps,[],Tr.sD top args 0 .nil,[],H⟩ o)(ho:Nn o=Z s1)(hdf:ay (len s1.df) 0=f)(R:kZ P s1 fn.results.toList=Z vs):Ca P X g args H (rV vs) s1.H:=by
 obtain⟨n1,k,h⟩:=h;refine⟨k+1,?_⟩;show AO P X (lv P X k) k g args H=_;rw[xD hor,hg];show Wp P (lv P X k) k g (X g) fn args H=_;unfold Wp;rw[hb];show gd (aB (len args) fn.ntmps) (aK (Nn<|Ff P X k c ⟨jm P g,fn.ntmps,[],Tr.sD top args 0 .nil,[],H⟩) λs=>G5 P fn s)=_;rw[hl,h,ho];show G5 P fn s1=_;unfold G5;rw[hdf,R];rfl
end rules
end mem
def SF(P:aS)(g:FuncId)(c:Nat):Prop:=∀(fn:Func)(args:List D)(v:D)(H C:F),P.funcs[g]?=Z fn->Wm P c fn.resultTypes.toList args H=Z (v,C)->
 ∀m w args',RH m H w->kT m args args'->∃m' v' w',(callFunc g ⟨args'⟩).run P w=.ok (.value v') w'/\VR m' v v'/\RH m' C w'/\Ex m m' H C w w'
def Yy.of{P:aS}{X:Xt}(h:∀g,X g=0\/SF P g (X g)):Yy P X:=by
 intro g fn args v H C hg _ J m w args' rh ha;rcases h g with h0|Q
 .rw[h0]at J;cases J
 .exact Q fn args v H C hg J m w args' rh ha
section mem
variable{P:aS}
def SF.SG{c:Nat}{e:Array D->Sem D}(hg:P.funcs[g]?=Z fn)(hname:(fn.name== "runtime.NumGoroutine")=aA)(hb:fn.body.isNone=f)(hn:Extern.findNext fn=W)(he:Extern.find fn=Z e)(h:∀(args:List D)(v:D)(H C:F),Wm P c fn.resultTypes.toList args H=Z (v,C)->∀m w args',RH m H w->kT m args args'->wz P m H w (e ⟨args'⟩) v C):SF P g c:=by
 intro fn' args v H C hg' J m w args' rh ha;rw[hg]at hg';cases hg';obtain⟨m',v',w',Q,I,h3,h4⟩:=h args v H C J m w args' rh ha;refine⟨m',v',w',?_,I,h3,h4⟩;rw[run_callFunc_extern hg hname hb hn he,Q];rfl
def SF.same(hg:P.funcs[g]?=Z fn)(hname:(fn.name== "runtime.NumGoroutine")=aA)(hb:fn.body.isNone=f)(hn:Extern.findNext fn=W)(he:Extern.find fn=Z Extern.AbiNoEscape.same):SF P g 1:=by
 refine SF.SG hg hname hb hn he ?_;intro args v H C h m w args' rh ha;replace h:(gd (ay (len args) 1)<|aK (nth args 0) λx=>Z (x,H))=Z (v,C):=h;obtain⟨hl,h⟩:=fH h;obtain⟨x,J,h⟩:=aI h;cases h;rw[om]at J;rw[fQ]at hl;obtain⟨v',Q,I⟩:=adr (P:=P) (w:=w) (aT hl) J ha;exact⟨m,v',w,I,Q,rh,Ex.refl _ _ _⟩
def SF.index(hg:P.funcs[g]?=Z fn)(hname:(fn.name== "runtime.NumGoroutine")=aA)(hb:fn.body.isNone=f)(hn:Extern.findNext fn=W)(he:Extern.find fn=Z Extern.BytealgIndexByte.indexByte):SF P g 3:=by
 refine SF.SG hg hname hb hn he ?_;intro args v H C h m w args' rh ha;replace h:(aK (JA args) λx=>Z (RG<|xX x.2 x.1.data.toList 0,H))=Z (v,C):=h;obtain⟨q,hq,h⟩:=aI h;cases h;obtain⟨Q,I⟩:=NH (P:=P) (w:=w) hq ha;exact⟨m,_,w,I,Q,rh,Ex.refl _ _ _⟩
def SF.count(hg:P.funcs[g]?=Z fn)(hname:(fn.name== "runtime.NumGoroutine")=aA)(hb:fn.body.isNone=f)(hn:Extern.findNext fn=W)(he:Extern.find fn=Z Extern.BytealgCount.count):SF P g 4:=by
 refine SF.SG hg hname hb hn he ?_;intro args v H C h m w args' rh ha;replace h:(aK (JA args) λx=>Z (bV .i64<|.ofNat<|countB x.2 x.1.data.toList,H))=Z (v,C):=h;obtain⟨q,hq,h⟩:=aI h;cases h;obtain⟨Q,I⟩:=NI (P:=P) (w:=w) hq ha;exact⟨m,_,w,I,Q,rh,Ex.refl _ _ _⟩
end mem
def uX(ty:aG)(k:fu)(l:List Nat):lu:=.row ⟨ty,Tr.sD top (mp (λn=>bV k<|Int.ofNat n) l) 0 .nil,len l,f,0⟩
def TabAt(w:bW)(o:lu)(r:Nat):Prop:=o=.dead\/∃(ty:aG)(k:fu)(l:List Nat)(E:Array D)(fr:Nat×Nat),o=uX ty k l/\w.heap[r]?=Z (.cells E ty fr)/\∀(i z:Nat),l[i]?=Z z->E[i]?=Z (bV k (z:Nat))
def agB:lu->Nat
 |.row hr=>hr.n
 |_=>0
def Ba(w:bW)(r:Nat):Nat:=match w.heap[r]? with|some (.cells E _ _)=>E.size|_=>0
def Bb(w:bW)(H:F):Mp:=λr=>if r<H.next then Z ⟨r,0,0,Ba w r,agB<|H.obj r⟩else W
section mem
variable{P:aS}
def UX(w:bW)(H:F):Gl H.next (Bb w H):=λg hg=>⟨⟨g,0,0,Ba w g,agB<|H.obj g⟩,by unfold Bb;rw[if_pos hg],rfl,rfl,rfl⟩
def adC(h:H.next<=w.heap.size)(ht:∀r,r<H.next->TabAt w (H.obj r) r):RH (Bb w H) H w:=by
 refine⟨?_,?_,?_⟩
 .intro r l R;unfold Bb at R;split at R
  .next Q=>exact Q
  .cases R
 .intro r l R;unfold Bb at R;split at R
  .next Q=>
   cases R;refine⟨w.heap[r]'N,bq (i:=r) N,?_⟩;rcases ht r Q with I|⟨ty,k,l,E,fr,I,h3,h4⟩
   .rw[I];trivial
   .have hcn:Ba w r=E.size:=by unfold Ba;rw[h3]
    have hget:w.heap[r]'N=.cells E ty fr:=by
     have:=bq (xs:=w.heap) (i:=r) N;rw[h3]at this;injection this with this;exact this.symm
    rw[hget,I];show uE _ _ (uX ty k l) _
    have hlen:∀i,i<l.length->i<E.size:=by
     intro i hi;exact(dR.1<|h4 i _<|au hi).1
    have hle:l.length<=E.size:=by
     rcases bZ E.size l.length with h5|h5
     .have:=hlen E.size h5;omega
     .exact h5
    refine⟨⟨O,O⟩,O,hcn.symm,bg _,?_,?_,?_⟩
    .show 0+(len l-0)<=Ba w r;rw[hcn,fQ];omega
    .intro hse;cases hse
    .intro i _ hi;have hi:i<len l:=hi;rw[fQ]at hi;refine⟨.int k (l[i]:Nat),?_,?_⟩
     .simp only[aW,jT];exact h4 i _<|au hi
     .show VR _ ((Tr.sD top (mp (λn=>bV k<|Int.ofNat n) l) 0 .nil).get top i) _;rw[Tr.lV,ER,if_pos (by simp;omega)];rw[bC];simp[hi];exact .sc _ O
  .cases R
 .intro r r' l l' R hr' _ _ y;unfold Bb at R hr';split at R
  .split at hr'
   .cases R;cases hr';exact y
   .cases hr'
  .cases R
def SI{X:Xt}(hmo:P.follows .mixedOrders=f)(hP:BH P H.next)(hX:Yy P X)(hO:IC P X H.next)(hg:P.funcs[g]?=Z fn)(hb:fn.body.isSome=f)(h:j5 P X k g args H=Z (v,C))(hlow:H.next<=C.low)(hv:mU v=f)(ha:args.all mU=f)(hw:H.next<=w.heap.size)(ht:∀r,r<H.next->TabAt w (H.obj r) r):
 Calls P g ⟨args⟩ w λe w'=>e=.returned v/\Go.RowKit.Below w.heap.size w w':=by
 refine(levels hmo hP hX hO k g args v _ C fn h hg hb (Bb w H) w args (adC hw ht) (UX w H)<|kT.mU ha).mono ?_;rintro e w' ⟨m',v',rfl,Q,I,h3⟩;rw[Q.vM hv];refine⟨O,⟨h3.os,h3.tape,h3.output,h3.size,λc y=>h3.keep c y ?_⟩⟩;intro r l R _;unfold Bb at R;split at R
 .next h4=>exact aP h4 hlow
 .cases R
def UY(n:Nat)(b:Bool)(o:Option<|D×F):Bool:=@aN (D×F) (λ_=>Bool) aA (λp=>(@aN Bool (λ_=>Bool) aA (λx=>Au x b)<|jH p.1)&&aB n p.2.low) o
def ZU{o:Option (D×F)}(h:UY n b o=f):∃C,o=Z (.bool b,C)/\n<=C.low:=by
 cases o with
 |none=>cases h
 |some p=>
  replace h:((@aN Bool (λ_=>Bool) aA (λx=>Au x b)<|jH p.1)&&aB n p.2.low)=f:=h;rw[aZ]at h;cases hb:jH p.1 with
  |none=>rw[hb]at h;cases h.1
  |some x=>
   rw[hb]at h;have Q:Au x b=f:=h.1;rw[JD,kX]at Q;exact⟨p.2,by rw[<-Q,<-oO hb],aD h.2⟩
end mem
def hx{a b:Prop}(x:a)(hc:b):a/\b:=⟨x,hc⟩
structure nV(s s':St):Prop where
 nl:s.nl=s'.nl
 nt:s.nt=s'.nt
 df:s.df=s'.df
 H:s.H=s'.H
 lk:∀t,ig s t=ig s' t
inductive Av:Out->Out->Prop where
 |fail:Av .fail .fail
 |norm {s s':St} (h:nV s s'):Av (.norm s) (.norm s')
 |exit (i:Nat) {s s':St} (h:nV s s'):Av (.exit i s) (.exit i s')
 |goto (l:Nat) {s s':St} (h:nV s s'):Av (.goto l s) (.goto l s')
 |ret {s s':St} (h:nV s s'):Av (.ret s) (.ret s')
def nV.look(h:nV s s'):ig s=ig s':=funext h.lk
def nV.ev(h:nV s s'):ev s=ev s':=by
 funext x;cases x with
 |tmp t=>exact congrFun h.look t
 |_=>rfl
def Av.refl(o:Out):Av o o:=by
 cases o with
 |fail=>exact .fail
 |norm s=>exact .norm ⟨O,O,O,O,λ_=>rfl⟩
 |exit i s=>exact .exit i ⟨O,O,O,O,λ_=>rfl⟩
 |goto l s=>exact .goto l ⟨O,O,O,O,λ_=>rfl⟩
 |ret s=>exact .ret ⟨O,O,O,O,λ_=>rfl⟩
def nV.IB(h:nV s s'):IB s=IB s':=by
 funext x;cases x with
 |none=>rfl
 |some x=>exact dV Z<|congrFun h.ev x
def nV.Nl(h:nV s s'):Nl s=Nl s':=by
 funext ps;unfold Go.Ae.Nl;rw[h.ev]
def Dj(d:Nat)(v:D)(l:List<|Nat×D)(t:Nat):Go.Ae.look ((d,v)::l) t=if d=t then v else Go.Ae.look l t:=by
 show bR (ay d t) v (Go.Ae.look l t)=_
 by_cases e:d=t
 .subst e;rw[show ay d d=f from dw d];simp[nT]
 .rw[show ay d t=aA from by rw[<-bY];exactλg=>e<|aT g,if_neg e];rfl
def wr(s:St)(d:Nat):Bool:=bR (gQ s.nl d) (aB (bU d) s.nt) f
def yD(s:St)(d:Nat)(v:D)(H:F)(t:Nat):ig (qi s d v H) t=if d=t/\wr s d=f then v else ig s t:=by
 by_cases hb:gQ s.nl d=f
 .have e:qi s d v H=⟨s.nl,s.nt,s.reg,bR (aB (bU d) s.nt) (s.tm.set top d v) s.tm,s.df,H⟩:=by unfold qi;rw[hb];rfl
  have ew:wr s d=aB (bU d) s.nt:=by unfold wr;rw[hb];rfl
  rw[e,ew];show bR (gQ s.nl t) ((bR (aB (bU d) s.nt) (s.tm.set top d v) s.tm).get top t) (Go.Ae.look s.reg t)=if d=t/\aB (bU d) s.nt=f then v else bR (gQ s.nl t) (s.tm.get top t) (Go.Ae.look s.reg t)
  by_cases hn:aB (bU d) s.nt=f
  .rw[hn];show bR (gQ s.nl t) ((s.tm.set top d v).get top t) (Go.Ae.look s.reg t)=_;rw[Tr.uM]
   by_cases e:d=t
   .subst e;rw[if_pos O,if_pos ⟨rfl,rfl⟩,hb];rfl
   .rw[if_neg (λh=>e h.symm),if_neg λh=>e h.1]
  .rw[bY]at hn;rw[hn,if_neg λh=>by cases h.2];rfl
 .rw[bY]at hb;have e:qi s d v H=⟨s.nl,s.nt,(d,v)::s.reg,s.tm,s.df,H⟩:=by unfold qi;rw[hb];rfl
  have ew:wr s d=f:=by unfold wr;rw[hb];rfl
  rw[e,ew];show bR (gQ s.nl t) (s.tm.get top t) (Go.Ae.look ((d,v)::s.reg) t)=if d=t/\f=f then v else bR (gQ s.nl t) (s.tm.get top t) (Go.Ae.look s.reg t)
  rw[Dj]
  by_cases e:d=t
  .subst e;rw[if_pos O,if_pos ⟨rfl,rfl⟩,hb];rfl
  .rw[if_neg e,if_neg λh=>e h.1]
def I_(s:St)(d:Nat)(v:D)(H:F):(qi s d v H).nl=s.nl/\(qi s d v H).nt=s.nt/\(qi s d v H).df=s.df/\(qi s d v H).H=H:=by
 unfold qi;cases gQ s.nl d<;>exact⟨O,O,O,O⟩
def nV.qi(h:nV s s')(d:Nat)(v:D)(H:F):nV (qi s d v H) (qi s' d v H):=by
 obtain⟨a1,a2,a3,a4⟩:=I_ s d v H;obtain⟨b1,b2,b3,b4⟩:=I_ s' d v H;refine⟨a1.trans<|h.nl.trans b1.symm,a2.trans<|h.nt.trans b2.symm,a3.trans<|h.df.trans b3.symm,a4.trans b4.symm,λt=>?_⟩;rw[yD,yD,h.lk];have:wr s d=wr s' d:=by unfold wr;rw[h.nl,h.nt]
 rw[this]
def nV.same(s:St)(t:Nat):nV s (Go.Ae.qi s t (ig s t) s.H):=by
 obtain⟨b1,b2,b3,b4⟩:=I_ s t (ig s t) s.H;refine⟨b1.symm,b2.symm,b3.symm,b4.symm,λrg=>?_⟩;rw[yD];split
 .next h=>rw[h.1]
 .rfl
def nV.jg(h:nV s s')(d:Option Nat)(v:D)(H:F):nV (jg s d v H) (jg s' d v H):=by
 cases d with
 |none=>exact⟨h.nl,h.nt,h.df,O,h.lk⟩
 |some d=>exact h.qi d v H
def Ec(s:St)(t:Nat):ig (clear s) t=bR (gQ s.nl t) (ig s t) top:=by
 unfold ig;show bR (gQ s.nl t) (s.tm.get top t) (Go.Ae.look [] t)=_;cases gQ s.nl t<;>rfl
def nV.clear(h:nV s s'):nV (clear s) (clear s'):=⟨h.nl,h.nt,h.df,h.H,λt=>by rw[Ec,Ec,h.nl,h.lk]⟩
def nV.gW(h:nV s s'):nV (gW s) (gW s'):=⟨h.nl,h.nt,h.df,by show F.mk _ _ _=F.mk _ _ _;rw[h.H],h.lk⟩
def nV.heap(h:nV s s')(d:List Deferred)(H:F):nV ⟨s.nl,s.nt,s.reg,s.tm,d,H⟩ ⟨s'.nl,s'.nt,s'.reg,s'.tm,d,H⟩:=⟨h.nl,h.nt,O,O,h.lk⟩
def nV.refl(s:St):nV s s:=⟨O,O,O,O,λ_=>rfl⟩
def nV.symm{s s':St}(h:nV s s'):nV s' s:=⟨h.nl.symm,h.nt.symm,h.df.symm,h.H.symm,λt=>(h.lk t).symm⟩
def nV.trans(h:nV s s')(I:nV s' s2):nV s s2:=⟨h.nl.trans I.nl,h.nt.trans I.nt,h.df.trans I.df,h.H.trans I.H,λt=>(h.lk t).trans<|I.lk t⟩
section mem
variable{P:aS}{cf:kM}
def nV.nC(h:nV s s')(c:Callee):nC c P s=nC c P s':=by
 cases c with
 |value av=>show(aK (YO<|Go.Ae.ev s av) _)=_;rw[h.ev];rfl
 |invoke r n=>show(aK (DY<|Go.Ae.ev s r) _)=_;rw[h.ev];rfl
 |builtin b=>rfl
def nV.yh(h:nV s s')(o:Op):yh o P cf s=yh o P cf s':=by
 have e:=h.ev;have e1:=h.IB;have e2:=h.Nl;have e3:=h.H;cases o with
 |call c=>
  show wu c P cf s=wu c P cf s';unfold wu;rw[h.nC,e,e3]
 |move x=>show R3.BP (Go.Ae.ev s x)=_;rw[e];rfl
 |assign x=>show R3.BP (Go.Ae.ev s x)=_;rw[e];rfl
 |pick c a b=>show rp (Jt (Go.Ae.ev s c) (Go.Ae.ev s a)<|Go.Ae.ev s b)=_;rw[e];rfl
 |alloc t=>show rm (Cf P t s.H)=_;rw[e3];rfl
 |box t x=>show rm (Jv t (Go.Ae.ev s x) s.H)=_;rw[e,e3];rfl
 |build t ps=>show rp (AB P t<|Go.Ae.Nl s ps)=_;rw[e2];rfl
 |buildSlice t n ps=>show rm (sO P t n (Go.Ae.Nl s ps) s.H)=_;rw[e2,e3];rfl
 |load t x=>show rm (vJ P t (Go.Ae.ev s x) s.H)=_;rw[e,e3];rfl
 |store t x v=>show rm (yI P t (Go.Ae.ev s x) (Go.Ae.ev s v) s.H)=_;rw[e,e3];rfl
 |nilCheck x=>show rp (Nk<|Go.Ae.ev s x)=_;rw[e];rfl
 |binOp op t x hc rg=>show rp (lN P op t x hc (Go.Ae.ev s x)<|Go.Ae.ev s hc)=_;rw[e];rfl
 |unOp op t x=>show rp (jQ<|Op.unary op<|Go.Ae.ev s x)=_;rw[e];rfl
 |convert a b x=>show rpm (Cb P a b<|Go.Ae.ev s x) (rm<|uh P a b (Go.Ae.ev s x) s.H)=_;rw[e,e3];rfl
 |makeFunc av fi ca=>show rp (Z<|.func av ⟨mp (Go.Ae.ev s) fi.toList⟩ ⟨mp (Go.Ae.ev s) ca.toList⟩)=_;rw[e];rfl
 |makeMap t r=>show rm (uB P t (Go.Ae.IB s r) s.H)=_;rw[e1,e3];rfl
 |makeSlice t l c=>show rm (qh P t (Go.Ae.ev s l) (Go.Ae.ev s c) s.H)=_;rw[e,e3];rfl
 |slice t x lo hi mx=>show rp (zM P t (Go.Ae.ev s x) (Go.Ae.IB s lo) (Go.Ae.IB s hi)<|Go.Ae.IB s mx)=_;rw[e,e1];rfl
 |fieldAddr t x av=>show rp (q9 P t (Go.Ae.ev s x) av)=_;rw[e];rfl
 |field t x av=>show rp (Ce P t (Go.Ae.ev s x) av)=_;rw[e];rfl
 |indexAddr t x i=>show rp (q8 P t (Go.Ae.ev s x)<|Go.Ae.ev s i)=_;rw[e];rfl
 |index t x i=>show rp (Cc P t (Go.Ae.ev s x)<|Go.Ae.ev s i)=_;rw[e];rfl
 |lookup t x k ok=>show rm (r_ P t (Go.Ae.ev s x) (Go.Ae.ev s k) ok s.H)=_;rw[e,e3];rfl
 |mapUpdate t m k v=>show rm (uN P t (Go.Ae.ev s m) (Go.Ae.ev s k) (Go.Ae.ev s v) s.H)=_;rw[e,e3];rfl
 |extract t i=>show rp (uA (Go.Ae.ev s t) i)=_;rw[e];rfl
 |_=>rfl
def nV.AL(h:nV s s')(c:Call):AL c P s=AL c P s':=by
 unfold Go.Ae.AL;rw[h.ev]
inductive YA:Option St->Option St->Prop where
 |none:YA W W
 |some {s s':St} (h:nV s s'):YA (Z s) (Z s')
def nV.qy(h:nV s s')(ops:Array Oper)(g:Option<|Nat×Bool):qy ops s g=qy ops s' g:=by
 cases g with
 |none=>rfl
 |some g=>
  show L_ ops s g=L_ ops s' g;unfold L_ AJ;rw[h.look]
def nV.D5(h:nV s s')(o:Oper)(r:R3):YA (D5 o s r) (D5 o s' r):=by
 cases r with
 |fail=>exact .none
 |BP v=>show YA (jD<|Go.Ae.jg s o.dst v s.H)<|jD<|Go.Ae.jg s' o.dst v s'.H;rw[h.H];exact .some<|h.jg ..
 |mem v H=>exact .some<|h.jg ..
def nV.zi(h:nV s s')(o:Oper):YA (zi P cf o s) (zi P cf o s'):=by
 unfold Go.Ae.zi;cases qM o.op with
 |none=>
  show YA (Go.Ae.D5 o s<|Go.Ae.yh o.op P cf s)<|Go.Ae.D5 o s'<|Go.Ae.yh o.op P cf s';rw[h.yh];exact h.D5 ..
 |some c=>
  show YA (aK (Go.Ae.AL c P s) _)<|aK (Go.Ae.AL c P s') _;rw[h.AL];cases Go.Ae.AL c P s' with
  |none=>exact .none
  |some d=>
   show YA (jD<|Go.Ae.jg ⟨s.nl,s.nt,s.reg,s.tm,d::s.df,s.H⟩ o.dst undef s.H)<|jD<|Go.Ae.jg ⟨s'.nl,s'.nt,s'.reg,s'.tm,d::s'.df,s'.H⟩ o.dst undef s'.H;rw[h.df,h.H];exact .some<|(h.heap _ _).jg ..
def nV.l7(h:nV s s')(ops:Array Oper)(o:Oper):YA (l7 P cf ops o s) (l7 P cf ops o s'):=by
 unfold Go.Ae.l7;rw[h.qy];cases Go.Ae.qy ops s' o.guard with
 |none=>exact .none
 |some b=>cases b with
  |true=>exact h.zi o
  |false=>show YA (jD<|Go.Ae.jg s o.dst undef s.H)<|jD<|Go.Ae.jg s' o.dst undef s'.H;rw[h.H];exact .some<|h.jg ..
def nV.mF(ops:Array Oper):∀(l:List Oper){s s':St},nV s s'->YA (mF P cf ops l s) (mF P cf ops l s'):=by
 intro l
 induction l with
 |nil=>intro s s' h;exact .some h
 |cons o l ih=>
  intro s s' h;show YA (aK (Go.Ae.l7 P cf ops o s)<|Go.Ae.mF P cf ops l)<|aK (Go.Ae.l7 P cf ops o s')<|Go.Ae.mF P cf ops l;have:=h.l7 (P:=P) (cf:=cf) ops o;generalize Go.Ae.l7 P cf ops o s=a at this;generalize Go.Ae.l7 P cf ops o s'=b at this;cases this with
  |none=>exact .none
  |some Q=>exact ih Q
inductive DEq{α:Type}:Option (St×α)->Option (St×α)->Prop where
 |none:DEq W W
 |some {s s':St} (x:α) (h:nV s s'):DEq (Z (s,x)) (Z (s',x))
def nV.rM(h:nV s s')(o:Op)(H:F):rM P o s H=rM P o s' H:=by
 unfold Go.Ae.rM zy;rw[h.ev,h.H]
def nV.kS(h:nV s s')(ops:Array Oper)(o:Oper):DEq (kS P cf ops o s) (kS P cf ops o s'):=by
 unfold Go.Ae.kS;rw[h.qy];cases Go.Ae.qy ops s' o.guard with
 |none=>exact .none
 |some b=>cases b with
  |true=>
   show DEq (GY P o s<|Go.Ae.yh o.op P cf<|Go.Ae.gW s)<|GY P o s'<|Go.Ae.yh o.op P cf<|Go.Ae.gW s';rw[h.gW.yh];cases Go.Ae.yh o.op P cf (Go.Ae.gW s')with
   |fail=>exact .none
   |BP v=>show DEq (jD (Go.Ae.jg s o.dst v s.H,cl 0))<|jD (Go.Ae.jg s' o.dst v s'.H,cl 0);rw[h.H];exact .some _<|h.jg ..
   |mem v H=>
    show DEq (jD (Go.Ae.jg s o.dst v ⟨H.vF,H.next,nN s.H.low H.low⟩,Go.Ae.rM P o.op s H))<|jD (Go.Ae.jg s' o.dst v ⟨H.vF,H.next,nN s'.H.low H.low⟩,Go.Ae.rM P o.op s' H);rw[h.rM,h.H];exact .some _<|h.jg ..
  |false=>show DEq (jD (Go.Ae.jg s o.dst undef s.H,cl 0))<|jD (Go.Ae.jg s' o.dst undef s'.H,cl 0);rw[h.H];exact .some _<|h.jg ..
def nV.jd(ops:Array Oper):∀(l:List Oper){s s':St}(acc:List Cl),nV s s'->DEq (jd P cf ops l s acc) (jd P cf ops l s' acc):=by
 intro l
 induction l with
 |nil=>intro s s' acc h;exact .some _ h
 |cons o l ih=>
  intro s s' acc h;show DEq (aK (Go.Ae.kS P cf ops o s) λq=>Go.Ae.jd P cf ops l q.1<|q.2::acc)<|aK (Go.Ae.kS P cf ops o s') λq=>Go.Ae.jd P cf ops l q.1<|q.2::acc;have:=h.kS (P:=P) (cf:=cf) ops o;generalize Go.Ae.kS P cf ops o s=a at this;generalize Go.Ae.kS P cf ops o s'=b at this;cases this with
  |none=>exact .none
  |some x Q=>exact ih _ Q
def nV.region(h:nV s s')(ops:Array Oper)(d:Bool):Av (region P cf ops d s) (region P cf ops d s'):=by
 cases d with
 |false=>
  show Av (G4<|Go.Ae.mF P cf ops ops.toList<|Go.Ae.clear s)<|G4<|Go.Ae.mF P cf ops ops.toList<|Go.Ae.clear s';have:=nV.mF (P:=P) (cf:=cf) ops ops.toList h.clear;generalize Go.Ae.mF P cf ops ops.toList (Go.Ae.clear s)=a at this;generalize Go.Ae.mF P cf ops ops.toList (Go.Ae.clear s')=b at this;cases this with
  |none=>exact .fail
  |some Q=>exact .norm Q
 |true=>
  show Av (bR (j4 ops&&oN ops) (uW ops<|Go.Ae.jd P cf ops ops.toList (Go.Ae.clear s) []) .fail)<|bR (j4 ops&&oN ops) (uW ops<|Go.Ae.jd P cf ops ops.toList (Go.Ae.clear s') []) .fail;cases(j4 ops&&oN ops)with
  |false=>exact .fail
  |true=>
   show Av (uW ops<|Go.Ae.jd P cf ops ops.toList (Go.Ae.clear s) [])<|uW ops<|Go.Ae.jd P cf ops ops.toList (Go.Ae.clear s') [];have:=nV.jd (P:=P) (cf:=cf) ops ops.toList [] h.clear;generalize Go.Ae.jd P cf ops ops.toList (Go.Ae.clear s) []=a at this;generalize Go.Ae.jd P cf ops ops.toList (Go.Ae.clear s') []=b at this;cases this with
   |none=>exact .fail
   |some x Q=>
    show Av (bR (jI ops x) (.norm _) .fail)<|bR (jI ops x) (.norm _) .fail;cases jI ops x with
    |true=>exact .norm Q
    |false=>exact .fail
def Av.trans{a b c:Out}(h:Av a b)(I:Av b c):Av a c:=by
 cases h with
 |fail=>exact I
 |norm h=>cases I with|norm I=>exact .norm<|h.trans I
 |exit i h=>cases I with|exit _ I=>exact .exit i<|h.trans I
 |goto l h=>cases I with|goto _ I=>exact .goto l<|h.trans I
 |ret h=>cases I with|ret I=>exact .ret<|h.trans I
def ZV{av:St->Out}(hf:∀s s',nV s s'->Av (av s) (av s')):∀n s s',nV s s'->Av (xB n av s) (xB n av s'):=by
 intro n
 induction n with
 |zero=>intro s s' _;exact .fail
 |succ n ih=>
  intro s s' h;show Av (andThen (av s)<|xB n av)<|andThen (av s')<|xB n av;have:=hf s s' h;generalize av s=a at this;generalize av s'=b at this;cases this with
  |fail=>exact .fail
  |norm Q=>exact ih _ _ Q
  |exit i Q=>exact .exit i Q
  |goto l Q=>exact .goto l Q
  |ret Q=>exact .ret Q
def Xn(J:∀c s s',nV s s'->Av (cx c s) (cx c s'))(body:Code):∀n o o',Av o o'->Av (nE cx n body o) (nE cx n body o'):=by
 intro n
 induction n with
 |zero=>intro o o' _;exact .fail
 |succ n ih=>
  intro o o' h;cases h with
  |fail=>exact .fail
  |norm Q=>exact .norm Q
  |exit i Q=>exact .exit i Q
  |ret Q=>exact .ret Q
  |goto l Q=>
   rename_i s s';show Av (@aN Code (λ_=>Out) (.goto l s) (λrest=>nE cx n body<|cx rest s)<|findLabel body l)<|@aN Code (λ_=>Out) (.goto l s') (λrest=>nE cx n body<|cx rest s')<|findLabel body l;cases findLabel body l with
   |none=>exact .goto l Q
   |some rest=>exact ih _ _<|J rest _ _ Q
theorem UZ(J:∀c s s',nV s s'->Av (cx c s) (cx c s'))(n:Nat)(c:Code):∀s s',nV s s'->Av (exec P cf cx n c s) (exec P cf cx n c s'):=by
 induction c with
 |skip=>intro s s' h;exact .norm h
 |region id ops d=>intro s s' h;exact h.region ops d
 |seq a b iha ihb=>
  intro s s' h;show Av (andThen (exec P cf cx n a s)<|exec P cf cx n b)<|andThen (exec P cf cx n a s')<|exec P cf cx n b;have:=iha s s' h;generalize exec P cf cx n a s=x at this;generalize exec P cf cx n a s'=hc at this;cases this with
  |fail=>exact .fail
  |norm Q=>exact ihb _ _ Q
  |exit i Q=>exact .exit i Q
  |goto l Q=>exact .goto l Q
  |ret Q=>exact .ret Q
 |cond x a b iha ihb=>
  intro s s' h;show Av (GZ (jH<|ev s x) (exec P cf cx n a s)<|exec P cf cx n b s)<|GZ (jH<|ev s' x) (exec P cf cx n a s')<|exec P cf cx n b s';rw[h.ev];cases jH (ev s' x)with
  |none=>exact .fail
  |some t=>cases t with
   |true=>exact iha _ _ h
   |false=>exact ihb _ _ h
 |block id a ih=>
  intro s s' h;show Av (wN id<|exec P cf cx n a s)<|wN id<|exec P cf cx n a s';have:=ih s s' h;generalize exec P cf cx n a s=x at this;generalize exec P cf cx n a s'=hc at this;cases this with
  |fail=>exact .fail
  |norm Q=>exact .norm Q
  |exit i Q=>
   show Av (bR (ay i id) _ _)<|bR (ay i id) _ _;cases ay i id with
   |true=>exact .norm Q
   |false=>exact .exit i Q
  |goto l Q=>exact .goto l Q
  |ret Q=>exact .ret Q
 |loop a ih=>intro s s' h;exact ZV ih n s s' h
 |scope a ih=>intro s s' h;exact Xn J a n _ _<|ih s s' h
 |label l=>intro s s' h;exact .norm h
 |exit i=>intro s s' h;exact .exit i h
 |goto l=>intro s s' h;exact .goto l h
 |ret=>intro s s' h;exact .ret h
 |_=>intro s s' h;exact .fail
variable{X:Xt}
def aip(n:Nat):∀c s s',nV s s'->Av ((lv P X n).cx c s) ((lv P X n).cx c s'):=by
 induction n with
 |zero=>intro c s s' _;exact .fail
 |succ n ih=>intro c s s' h;exact UZ ih n c s s' h
def Ev.alike{o:Out}(he:nV s s')(h:Ev P X c s o):∃o',Av o o'/\Ev P X c s' o':=by
 obtain⟨hne,k,hk⟩:=h;have:=UZ (P:=P) (cf:=(lv P X k).ca) (aip (P:=P) (X:=X) k) k c s s' he;refine⟨Ff P X k c s',by rw[<-hk];exact this,?_,k,O⟩;intro hf;replace this:Av (Ff P X k c s) (Ff P X k c s'):=this;rw[hf,hk]at this;cases this;exact hne O
def nV.kZ(h:nV s s')(l:List ResultVar):kZ P s l=kZ P s' l:=by
 induction l with
 |nil=>rfl
 |cons r l ih=>
  show(aK (C9 P s r) λv=>aK (Go.Ae.kZ P s l) λvs=>Z<|v::vs)=(aK (C9 P s' r) λv=>aK (Go.Ae.kZ P s' l) λvs=>Z<|v::vs);rw[ih]
  have:C9 P s r=C9 P s' r:=by
   cases r with
   |tmp t=>show Z (ig s t)=Z (ig s' t);rw[h.look]
   |cell a t=>show(aK (vJ P t (ig s a) s.H) _)=(aK (vJ P t (ig s' a) s'.H) _);rw[h.look,h.H]
  rw[this]
end mem
end Go.Ae
