/-
  Part 03 of the proof. No condition.
-/
import Derived.Test.YtpngmpbmokhmiaaGreatDoorZ02
set_option linter.unusedVariables false
set_option linter.unusedSimpArgs false
set_option maxRecDepth 100000
set_option maxHeartbeats 4000000
set_option linter.defProp false
open Option renaming some->D,none->Q,rec->aM,some->jO
open Bool renaming true->f,false->aC
open Go renaming Value->Z,TypeId->aH,Program->aU,World->bY,Operand->bT,IntKind->fB,TypeDesc->fu
open Go.Value renaming int->bX,agg->Sg,map->WZ
open Nat renaming beq->aA,succ->bW,ble->aD,add->aZ,sub->dJ
open Go.Region renaming binds->fQ
open Go.Sem renaming run_bind->dw,run_pure->dI
open Go.Result renaming andThen_ok->bR
open Go.Instr renaming sureAddr->jD
open Go.ByteArray renaming toList_eq->iq
open Go.Op renaming operands->fV
open Go.Call renaming operands->jq
open Classical renaming choose->jB
open Array renaming replicate->kQ
open List renaming range->f_
noncomputable section
namespace Go.Ae
variable{ops:Array Oper}{au:Exit->Act->bY->Prop}{s s' s1 s2:St}{m m' m0 m1 m2:Mp}{ag:Nat->Prop}{aa es i j k k' n n' nt r:Nat}{K next:Act->bY->Prop}{a a1:Act}{v v' x':Z}{o p:Oper}{w w' w0 w1:bY}{A H T H0:R}{d ld κ:aB Nat}{l:Loc}{args args' vs:C Z}{ρ:bT->Z}{ob Ka:Obj}{b:Bool}{ak:Nat->Cl}{d0 df:C Deferred}{cx PK:Code->St->Out}{g:FuncId}{L:C bT}{fn:Func}{x hr:Cl}{c:Code}{zM:kT}{M listed:Array Bool}{q:aV×Nat}{ay:Z->Z->Bool}{ats:Array aH}{name:String}{t ty:aH}{o':lI}{cls:C Cl}{α:Type}
section mem
variable{P:aU}
def ad4(hl:args.length=1)(hv:args[0]?=D v)(ha:k_ m args args'):
 ∃v',VR m v v'/\(Extern.AbiNoEscape.same ⟨args'⟩).run P w=.ok v' w:=by
 obtain⟨v',h0,y⟩:=ha.get 0 hv;have hl':args'.length=1:=by rw[<-ha.length,hl]
 have he:args'=[v']:=by
  match args',hl',h0 with
  |[hr],_,h0=>cases h0;rfl
 subst he;exact⟨v',y,O⟩
def ZZ(c:Nat)(hc:c<=255):∀(l:C UInt8)(k:Nat),(yF c l k=Q/\Lib.indexByte l c.toUInt8=-1)\/∃j,yF c l k=D (k+j)/\Lib.indexByte l c.toUInt8=j:=by
 intro l
 induction l with
 |nil=>intro k;exact .inl ⟨O,O⟩
 |cons b l ih=>
  intro k
  have hbc:aA b.toNat c=(b==c.toUInt8):=by
   rw[gm,lz];constructor
   .intro h;have:=aW h;rw[<-this];simp
   .intro h;rw[h];have J:c.toUInt8.toNat=c:=by simp;omega
    rw[J];exact dD c
  show(bV (aA b.toNat c) (D k) (yF c l<|k+1)=Q/\_)\/∃j,bV (aA b.toNat c) (D k) (yF c l<|k+1)=D (k+j)/\_;rw[hbc];cases hh:(b==c.toUInt8)with
  |true=>exact .inr ⟨0,O,by simp[Lib.indexByte,hh]⟩
  |false=>
   rcases ih (k+1)with⟨W,J⟩|⟨j,W,J⟩
   .exact .inl ⟨W,by simp[Lib.indexByte,hh,J]⟩
   .refine .inr ⟨j+1,by show yF c l (k+1)=_;rw[W];congr 1;omega,?_⟩;have:((j:Int)==-1)=aC:=by rw[beq_eq_false_iff_ne];omega
    simp[Lib.indexByte,hh,J,this]
theorem Qd(h:J5 args=D q)(ha:k_ m args args'):args'=[.string q.1,.int .u8 q.2]/\q.2<=255:=by
 obtain⟨s,hs,h⟩:=aJ h;obtain⟨b,hb,h⟩:=aJ h;obtain⟨c,hc,h⟩:=aJ h;obtain⟨p,hp,h⟩:=aJ h;obtain⟨n,hn,h⟩:=aJ h;obtain⟨hg,h⟩:=fI h;cases h;rw[oL]at hs hc;simp only[bg,fU]at hg;have hl:=aW hg.2;have hle:=aF hg.1.2;obtain⟨s',h0,hr0⟩:=ha.get 0 hs;obtain⟨c',W,hr1⟩:=ha.get 1 hc;have hl':args'.length=2:=by rw[<-ha.length,hl]
 have he:args'=[s',c']:=by
  match args',hl',h0,W with
  |[hr,z],_,h0,W=>cases h0;cases W;rfl
 rw[pO hb]at hr0;rw[qp hp,Od hn]at hr1;have:=hr0.wB;subst this;have:=hr1.of_int;subst this
 have hk:p.1=.u8:=by
  have:=hg.1.1;cases hp1:p.1<;>rw[hp1]at this<;>first|rfl|(simp[I8]at this)
 rw[he,hk];exact⟨O,hle⟩
def Ox(h:J5 args=D q)(ha:k_ m args args'):
 VR m (SA<|yF q.2 q.1.data.toList 0) (SA<|yF q.2 q.1.data.toList 0)/\(Extern.BytealgIndexByte.indexByte ⟨args'⟩).run P w=.ok (SA<|yF q.2 q.1.data.toList 0) w:=by
 obtain⟨rfl,hle⟩:=Qd h ha;have y:=Lib.run_indexByteString (P:=P) q.1 (q.2:Int) w;rw[lU]at y;rcases ZZ q.2 hle q.1.data.toList 0 with⟨W,J⟩|⟨j,W,J⟩
 .rw[W];rw[J]at y;exact⟨.sc _ O,y⟩
 .rw[W,aY];rw[J]at y;exact⟨.sc _ O,y⟩
def XH(c:Nat)(hc:c<=255):∀(l:C UInt8),countB c l=Lib.countByte l c.toUInt8:=by
 intro l
 induction l with
 |nil=>rfl
 |cons b l ih=>
  have hbc:aA b.toNat c=(b==c.toUInt8):=by
   rw[gm,lz];constructor
   .intro h;have:=aW h;rw[<-this];simp
   .intro h;rw[h];have J:c.toUInt8.toNat=c:=by simp;omega
    rw[J];exact dD c
  show bV (aA b.toNat c) (bW<|countB c l) (countB c l)=_;rw[hbc,ih];unfold Lib.countByte;rw[vK];cases hh:(b==c.toUInt8)<;>rfl
def Oy(h:J5 args=D q)(ha:k_ m args args'):
 VR m (.int .i64<|.ofNat<|countB q.2 q.1.data.toList) (.int .i64<|.ofNat<|countB q.2 q.1.data.toList)/\(Extern.BytealgCount.count ⟨args'⟩).run P w=.ok (.int .i64<|.ofNat<|countB q.2 q.1.data.toList) w:=by
 obtain⟨rfl,hle⟩:=Qd h ha;have y:=Lib.run_countString (P:=P) q.1 (q.2:Int) w;rw[lU,<-XH _ hle]at y;exact⟨.sc _ O,y⟩
end mem
section mem
variable{P:aU}
def Z0(rh:RH m H w){s d:aH}{x:Z}(h:uL P s d x H=D (v,T))(E:VR m x x'):wV P m H w (convert s d x') v T:=by
 obtain⟨q,hq,h⟩:=aJ h
 replace hq:(aL (P.underlying s) λx=>aL (P.underlying d) λhr=>
  bV (Ck x) (aL (PS P d) λq=>D (1,q)) (bV (Ck hr) (aL (PS P s) λq=>D (2,q))
   (bV (Fv hr) (aL (Fu x) λe=>D (3,e,0))<|bV (Fv x) (aL (Fu hr) λe=>D (4,e,0)) Q)))=D q:=hq
 obtain⟨ds,hds,W⟩:=aJ hq;clear hq;obtain⟨dd,hdd,hq⟩:=aJ W;clear W;cases W:Ck ds with
 |true=>
  rw[W]at hq;obtain⟨q1,hq1,hq2⟩:=aJ hq;cases hq2;obtain⟨hu,_⟩:=Bt hq1;have h:Es P q1 x H=D (v,T):=h;exact P_ rh h E hds hu
 |false=>
  rw[W]at hq
  replace hq:(bV (Ck dd) (aL (PS P s) λq=>D (2,q))
   (bV (Fv dd) (aL (Fu ds) λe=>D (3,e,0))<|bV (Fv ds) (aL (Fu dd) λe=>D (4,e,0)) Q))=D q:=hq
  cases J:Ck dd with
  |true=>
   rw[J]at hq;obtain⟨q1,hq1,hq2⟩:=aJ hq;cases hq2;obtain⟨hu,_⟩:=Bt hq1;have h:Et P q1 x H=D (v,T):=h;exact Qa rh h E hu (by rw[hdd,Fy J])
  |false=>
   rw[J]at hq;replace hq:(bV (Fv dd) (aL (Fu ds) λe=>D (3,e,0))<|bV (Fv ds) (aL (Fu dd) λe=>D (4,e,0)) Q)=D q:=hq;cases h3:Fv dd with
   |true=>
    rw[h3]at hq;obtain⟨e,he,hq2⟩:=aJ hq;cases hq2;have h:J2 P e x H=D (v,T):=h;exact GH rh h E (by rw[hds,Jt he]) h3 hdd
   |false=>
    rw[h3]at hq;replace hq:(bV (Fv ds) (aL (Fu dd) λe=>D (4,e,0)) Q)=D q:=hq;cases h4:Fv ds with
    |false=>rw[h4]at hq;cases hq
    |true=>
     rw[h4]at hq;obtain⟨e,he,hq2⟩:=aJ hq;cases hq2;have h:J3 P e x H=D (v,T):=h;exact GI rh h E h4 hds (by rw[hdd,Jt he])
end mem
section mem
variable{P:aU}
def xz{o:aB Z}(h:rp o=.Cm v):o=D v:=by
 cases o with
 |none=>cases h
 |some x=>cases h;rfl
def Tf{o:aB Z}(h:rp o=.mem v H):False:=by cases o<;>cases h
def nZ{o:aB (Z×R)}(h:rm o=.mem v H):o=D (v,H):=by
 cases o with
 |none=>cases h
 |some x=>cases h;rfl
def Bz{o:aB (Z×R)}(h:rm o=.Cm v):False:=by cases o<;>cases h
def Vj{o:aB Z}{q:aB (Z×R)}(h:rpm o (rm q)=.Cm v):o=D v:=by
 cases o with
 |none=>exact(Bz (o:=q) h).elim
 |some x=>cases h;rfl
def Vk{o:aB Z}{q:aB (Z×R)}(h:rpm o (rm q)=.mem v H):q=D (v,H):=by
 cases o with
 |none=>exact nZ (o:=q) h
 |some x=>cases h
structure Nb(m:Mp)(s:St)(ρ:bT->Z)(L:C bT):Prop where
 all:∀x,x∈L->VR m (ev s x) (ρ x)
def Nb.Gj(e:Nb m s ρ L)(x:bT)(h:x∈L:=by simp[fV,jq]):VR m (ev s x) (ρ x):=e.all x h
def Nb.list(e:Nb m s ρ L):∀l:C bT,(∀x,x∈l->x∈L)->k_ m (mp (ev s) l) (l.map ρ)
 |[],_=>.nil
 |x::l,h=>.cons _ _ _ _ (e.all x<|h x<|by simp)<|e.list l λhr hy=>h hr (by simp[hy])
def Nb.opt(e:Nb m s ρ L):∀o:aB bT,(∀x,x∈o->x∈L)->OR m (I9 s o) (o.map ρ)
 |none,_=>.nn
 |some x,h=>.ss _ _<|e.all x<|h x O
def Nb.pairs(e:Nb m s ρ L)(ps:Array<|Nat×bT)(h:∀x,x∈ps.toList->x.2∈L):PRs m (Ob s ps) (ps.map λ(i,x)=>(i,ρ x)).toList:=by
 obtain⟨l⟩:=ps
 have:∀l:C<|Nat×bT,(∀x,x∈l->x.2∈L)->PRs m (mp (λp=>(p.1,ev s p.2)) l) (l.map λ(i,x)=>(i,ρ x)):=by
  intro l
  induction l with
  |nil=>intro _;exact .nil
  |cons x l ih=>intro h;exact .cons _ _ _ _ _ (e.all x.2<|h x<|by simp)<|ih λhr hy=>h hr (by simp[hy])
 simpa [Ob]using this l h
def ad5(P:aU)(m:Mp)(v:Z)(s:Sem Next):Prop:=∃v',VR m v v'/\∀w,s.run P w=.ok (.value v') w
def sW{s:Sem Z}(h:VR m v v')(hs:∀w,s.run P w=.ok v' w):ad5 P m v (do pure (.value (<-s))):=
 ⟨v',h,λw=>by simp[hs]⟩
theorem Qf{b:Builtin}{ats:C aH}(h:Au b ats args P H=.Cm v)(ha:k_ m args args'):
 ad5 P m v (builtin b ⟨ats⟩ ty M ⟨args'⟩):=by
 cases b
 case len=>
  have h:=Vj (o:=one (JY P) ats args) (q:=J4 P ats args H) h;obtain⟨W,J⟩:=adV (t:=ty) h ha;exact sW W J
 case max=>
  have h:=xz (o:=Sz f args) h;obtain⟨v',W,J⟩:=ZJ (P:=P) (ats:=⟨ats⟩) (t:=ty) h ha;exact sW W J
 case min=>
  have h:=xz (o:=Sz aC args) h;obtain⟨v',W,J⟩:=ZJ (P:=P) (ats:=⟨ats⟩) (t:=ty) h ha;exact sW W J
 case append=>exact(Bz (o:=Dx P ats args H) h).elim
 case copy=>exact(Bz (o:=MP P ats args H) h).elim
 case clear=>exact(Bz (o:=Gy P ats args H) h).elim
 all_goals first|cases h|exact(Bz (o:=Fw args H) h).elim|exact(Bz (o:=xh P ats args H) h).elim
theorem Oz{cf:kT}(h:yL o.op P cf s=.Cm v)(e:Nb m s ρ o.op.operands.toList)(hc:∀c,ρ (.const c)=c):ad5 P m v (execOp ρ o):=by
 cases hop:o.op
 case move x=>
  rw[hop]at h e;cases h;exact⟨ρ x,e.all x<|by simp[fV,jq],λw=>by simp[execOp,hop]⟩
 case assign x=>
  rw[hop]at h e;cases h;exact⟨ρ x,e.all x<|by simp[fV,jq],λw=>by simp[execOp,hop]⟩
 case pick c a b=>
  rw[hop]at h e;have h:=xz (o:=JX (ev s c) (ev s a)<|ev s b) h;obtain⟨v',W,J⟩:=adS (P:=P) h (e.Gj c) (e.Gj a)<|e.Gj b;have:=sW W J;refine⟨v',W,λw=>?_⟩;have J:=J w;simp only[execOp,hop];simp only[dw]at J|-;cases y:(asBool<|ρ c).run P w with
  |ok b' w'=>rw[y]at J;simp only[bR,dI]at J|-;cases J;rfl
  |halt x w'=>rw[y]at J;cases J
 case build t ps=>
  rw[hop]at h e;have h:=xz (o:=Bj P t<|Ob s ps) h;obtain⟨v',W,J⟩:=ZO h<|e.pairs ps (by intro x E;simp[fV];exact⟨x.1,by simpa using E⟩);have:ad5 P m v (do pure (.value (<-Instr.build t (ps.map λ(i,x)=>(i,ρ x))))):=sW W J;simp only[execOp,hop];exact this
 case nilCheck x=>
  rw[hop]at h e;have h:=xz (o:=Oa<|ev s x) h;obtain⟨W,J⟩:=P6 (P:=P) h (e.Gj x) ρ o x hop O;exact⟨_,W,J⟩
 case binOp op t x hr z=>
  rw[hop]at h e;have h:=xz (o:=lY P op t x hr (ev s x)<|ev s hr) h;obtain⟨W,J⟩:=agX h (e.Gj x) (e.Gj hr) (λc E=>by subst E;rfl) (λc hy=>by subst hy;rfl);have:=sW W J;simpa [execOp,hop]using this
 case unOp op t x=>
  rw[hop]at h e;have h:=xz (o:=j3<|Op.unary op<|ev s x) h;obtain⟨W,J⟩:=adT (P:=P) h<|e.Gj x;have:=sW W J;simpa [execOp,hop]using this
 case convert a b x=>
  rw[hop]at h e;have h:=Vj (o:=CE P a b<|ev s x) (q:=uL P a b (ev s x) s.H) h;obtain⟨W,J⟩:=adU h<|e.Gj x;have:=sW W J;simpa [execOp,hop]using this
 case makeFunc ay fi ca=>
  rw[hop]at h e;cases h;refine⟨.func ay (fi.map ρ)<|ca.map ρ,?_,λw=>by simp[execOp,hop,Instr.makeFunc]⟩;obtain⟨fi⟩:=fi;obtain⟨ca⟩:=ca;have:=VR.func ay _ _ _ _ (e.list fi (by intro x E;simp[fV,jq,E]))<|e.list ca (by intro x E;simp[fV,jq,E]);simpa using this
 case slice t x lo hi mx=>
  rw[hop]at h e;have h:=xz (o:=Ag P t (ev s x) (I9 s lo) (I9 s hi)<|I9 s mx) h;obtain⟨v',W,J⟩:=ZM h (e.Gj x) (e.opt lo (by intro x E;simp[fV]at E|-;simp[E])) (e.opt hi (by intro x E;simp[fV]at E|-;simp[E]))<|e.opt mx (by intro x E;simp[fV]at E|-;simp[E]);have:=sW W J;simpa [execOp,hop]using this
 case fieldAddr t x ay=>
  rw[hop]at h e;have h:=xz (o:=rR P t (ev s x) ay) h;obtain⟨v',W,J⟩:=On h<|e.Gj x;have:=sW W J;simpa [execOp,hop]using this
 case field t x ay=>
  rw[hop]at h e;have h:=xz (o:=CG P t (ev s x) ay) h;obtain⟨v',W,J⟩:=ZD h<|e.Gj x;have:=sW W J;simpa [execOp,hop]using this
 case indexAddr t x i=>
  rw[hop]at h e;have h:=xz (o:=rQ P t (ev s x)<|ev s i) h;obtain⟨v',W,J⟩:=Om h (e.Gj x)<|e.Gj i;have:=sW W J;simpa [execOp,hop]using this
 case index t x i=>
  rw[hop]at h e;have h:=xz (o:=CF P t (ev s x)<|ev s i) h;obtain⟨v',W,J⟩:=ZC h (e.Gj x)<|e.Gj i;have:=sW W J;simpa [execOp,hop]using this
 case extract t i=>
  rw[hop]at h e;have h:=xz (o:=uU (ev s t) i) h;obtain⟨v',W,J⟩:=SL (P:=P) h<|e.Gj t;have:=sW W J;simpa [execOp,hop]using this
 case call c=>
  rw[hop]at h e;replace h:wU c P cf s=.Cm v:=h;obtain⟨callee,⟨args⟩,ats⟩:=c;cases callee with
  |value ay=>exact(Bz h).elim
  |invoke r n=>exact(Bz h).elim
  |builtin b=>
   have h:Au b ats.toList (mp (ev s) args) P s.H=.Cm v:=h
   obtain⟨M,hcs⟩:∃M,∀w,(execOp ρ o).run P w=(builtin b ⟨ats.toList⟩ o.type M ⟨args.map ρ⟩).run P w:=
    ⟨args.toArray.map λ|.const _=>f|_=>aC,λw=>by
     simp only[execOp,hop,resolve,invoke,dw,dI,bR,uG];rfl⟩
   obtain⟨v',W,J⟩:=Qf (P:=P) (ty:=o.type) (M:=M) h<|e.list args (by intro x E;simp[fV,jq,E]);exact⟨v',W,λw=>by rw[hcs,J]⟩
 all_goals(rw[hop]at h;first|cases h|exact(Bz h).elim|skip)
end mem
section mem
variable{P:aU}
def Gl(n:Nat)(m:Mp):Prop:=∀g,g<n->∃l,m g=D l/\l.c=g/\l.lo=0/\l.base=0
def Gl.mono(h:Gl n m)(hm:Mp.le m m'):Gl n m':=λg hg=>let⟨l,a,b⟩:=h g hg;⟨l,hm _ _ a,b⟩
def FC(P:aU)(n:Nat)(cf:kT):Prop:=∀g args v H T,cf g args H=D (v,T)->∀m w args',RH m H w->Gl n m->k_ m args args'->
 ∀(o:Oper)(a:Act)(next:Act->bY->Prop)(au:Exit->Act->bY->Prop),
  (∀m' v' w',VR m' v v'->RH m' T w'->Ex m m' H T w w'->next (a.put o.dst v') w')->o.upon P a next au ((callFunc g ⟨args'⟩).run P w)
def qw{s:Sem Z}(h:wV P m H w s v T)(K:∀m' v' w',VR m' v v'->RH m' T w'->Ex m m' H T w w'->next (a.put o.dst v') w'):o.upon P a next au ((do pure (.value (<-s)):Sem Next).run P w):=by
 obtain⟨m',cv,w',W,J,h3,h4⟩:=h;have:(do pure (.value (<-s)):Sem Next).run P w=.ok (.value cv) w':=by simp[W]
 rw[this];exact K m' cv w' J h3 h4
def Nc{s:Sem Unit}(h:v=undef/\∃w',s.run P w=.ok () w'/\RH m T w'/\Ex m m H T w w')(K:∀m' v' w',VR m' v v'->RH m' T w'->Ex m m' H T w w'->next (a.put o.dst v') w'):o.upon P a next au ((do s;pure .skip:Sem Next).run P w):=by
 obtain⟨rfl,w',W,h3,h4⟩:=h;have:(do s;pure .skip:Sem Next).run P w=.ok .skip w':=by simp[W]
 rw[this];exact K m undef w' (.tuple [] [] .nil) h3 h4
def EC{s:Sem Z}(rh:RH m H w)(e:T=H)(h:VR m v v')(y:s.run P w=.ok v' w):wV P m H w s v T:=by
 subst e;exact⟨m,v',w,y,h,rh,Ex.refl _ _ _⟩
theorem Qg{b:Builtin}{ats:C aH}(rh:RH m H w)(h:Au b ats args P H=.mem v T)(ha:k_ m args args')(K:∀m' v' w',VR m' v v'->RH m' T w'->Ex m m' H T w w'->next (a.put o.dst v') w'):o.upon P a next au ((builtin b ⟨ats⟩ ty M ⟨args'⟩).run P w):=by
 cases b
 case append=>exact qw (XA rh (nZ (o:=Dx P ats args H) h) ha) K
 case copy=>exact qw (ad3 rh (nZ (o:=MP P ats args H) h) ha) K
 case clear=>exact qw (ZY rh (nZ (o:=Gy P ats args H) h) ha) K
 case len=>
  have h:=Vk (o:=one (JY P) ats args) (q:=J4 P ats args H) h;obtain⟨e,W,J⟩:=adY (t:=ty) rh h ha;exact qw (EC rh e W J) K
 case max=>exact(Tf (o:=Sz f args) h).elim
 case min=>exact(Tf (o:=Sz aC args) h).elim
 all_goals first
  |cases h
  |exact qw (XD (λ_ _ _ _ _=>rfl) (λ_ _ _ _ _ _=>rfl) rh (nZ (o:=Fw args H) h) ha) K
  |exact qw (Qc ⟨_,_,_,_,_,λ_ _ _ _ _=>rfl⟩ rh (nZ (o:=xh P ats args H) h) ha) K
theorem Vl{cf:kT}(rh:RH m s.H w)(h:yL o.op P cf s=.mem v T)(e:Nb m s ρ o.op.operands.toList)(hcall:∀c,o.op=.call c->isBuiltin c.callee=Q->o.upon P a next au ((execOp ρ o).run P w))(K:∀m' v' w',VR m' v v'->RH m' T w'->Ex m m' s.H T w w'->next (a.put o.dst v') w'):o.upon P a next au ((execOp ρ o).run P w):=by
 cases hop:o.op
 case alloc t=>
  rw[hop]at h e;simp only[execOp,hop];exact qw (ZS rh<|nZ h) K
 case box t x=>
  rw[hop]at h e;simp only[execOp,hop];exact qw (ag3 rh (nZ h)<|e.Gj x) K
 case buildSlice t n ps=>
  rw[hop]at h e;simp only[execOp,hop];exact qw (SY rh (nZ h)<|e.pairs ps (by intro x E;simp[fV];exact⟨x.1,by simpa using E⟩)) K
 case mapUpdate t x k hr=>
  rw[hop]at h e;simp only[execOp,hop];exact Nc (Xx rh (nZ h) (e.Gj x) (e.Gj k)<|e.Gj hr) K
 case load t x=>
  rw[hop]at h e;simp only[execOp,hop];obtain⟨W,v',J,h3⟩:=Ve rh (nZ h)<|e.Gj x;exact qw (EC rh W J h3) K
 case store t x hr=>
  rw[hop]at h e;simp only[execOp,hop];exact Nc (ZR rh (nZ h) (e.Gj x)<|e.Gj hr) K
 case convert c d x=>
  rw[hop]at h e;simp only[execOp,hop];exact qw (Z0 rh (Vk (o:=CE P c d<|ev s x) (q:=uL P c d (ev s x) s.H) h)<|e.Gj x) K
 case makeMap t r=>
  rw[hop]at h e;simp only[execOp,hop];exact qw (S_ rh (nZ h)<|e.opt r (by intro x E;simp[fV]at E|-;simp[E])) K
 case makeSlice t l c=>
  rw[hop]at h e;simp only[execOp,hop];exact qw (Ou rh (nZ h) (e.Gj l)<|e.Gj c) K
 case lookup t x k ok=>
  rw[hop]at h e;simp only[execOp,hop];obtain⟨W,v',J,h3⟩:=Xv rh (nZ h) (e.Gj x)<|e.Gj k;exact qw (EC rh W J h3) K
 case call c=>
  rw[hop]at h e;cases hb:isBuiltin c.callee with
  |none=>exact hcall c hop hb
  |some b=>
   obtain⟨callee,⟨args⟩,ats⟩:=c;cases callee with
   |value ay=>cases hb
   |invoke r n=>cases hb
   |builtin b=>
    have h:Au b ats.toList (mp (ev s) args) P s.H=.mem v T:=h
    obtain⟨M,hcs⟩:∃M,∀w,(execOp ρ o).run P w=(builtin b ⟨ats.toList⟩ o.type M ⟨args.map ρ⟩).run P w:=
     ⟨args.toArray.map λ|.const _=>f|_=>aC,λw=>by
      simp only[execOp,hop,resolve,invoke,dw,dI,bR,uG];rfl⟩
    rw[hcs];exact Qg rh h (e.list args (by intro x E;simp[fV,jq,E])) K
 all_goals(rw[hop]at h;first|cases h|exact(Tf h).elim)
end mem
section mem
variable{P:aU}
def Qh{cf:kT}(hcf:FC P n cf)(gl:Gl n m){ay:bT}{args:C bT}(rh:RH m s.H w)(hop:o.op=.call ⟨.value ay,⟨args⟩,ats⟩)(h:wU ⟨.value ay,⟨args⟩,ats⟩ P cf s=.mem v T)(e:Nb m s ρ o.op.operands.toList)(K:∀m' v' w',VR m' v v'->RH m' T w'->Ex m m' s.H T w w'->next (a.put o.dst v') w'):o.upon P a next au ((execOp ρ o).run P w):=by
 replace h:rm (aL (aL (Zp<|ev s ay) λq=>aL (fFn q.1) λg=>D (g,q.2)) λq=>cf q.1 (app q.2.1<|app (mp (ev s) args) q.2.2) s.H)=.mem v T:=h;replace h:=nZ h;obtain⟨q,hq,h⟩:=aJ h;obtain⟨p,hp,hq⟩:=aJ hq;obtain⟨g,hg,hq⟩:=aJ hq;cases hq;rw[hop]at e;have hf:=e.all ay (by simp[fV,jq]);rw[Oe hp,Og hg]at hf;obtain⟨p0,p1,p2⟩:=p;obtain⟨x',y',hh,E,hy⟩:=hf.ZB
 have hargs:k_ m (app p1<|app (mp (ev s) args) p2) (x'++(args.map ρ++y')):=by
  rw[qB,qB];exact E.append<|(e.list args (by intro x E;simp[fV,jq,E])).append hy
 have:=hcf _ _ _ _ _ h m w _ rh gl hargs o a next au K
 have y:(execOp ρ o).run P w=(callFunc g ⟨x'++(args.map ρ++y')⟩).run P w:=by
  simp only[execOp,hop,resolve,hh,Deferred.ofValue,invoke,dw,dI,bR,uG];congr 2;rw[<-iZ];simp
 rw[y];exact this
end mem
section mem
variable{P:aU}
def Z4{d:fu}(h:xV d=1):∃e,d=.pointer e:=by
 cases d<;>simp[xV]at h;exact⟨_,O⟩
theorem Tg{q:FuncId×Bool}(h:methodOf P t name=D q)(n:Nat)(w:bY):(method (n+1) t v name).run P w=.ok (q.1,v) w:=by
 obtain⟨i,hi,h⟩:=aJ h;obtain⟨mm,hmm,h⟩:=aJ h;obtain⟨q',hq,h⟩:=aJ h;obtain⟨d,hd,h⟩:=aJ h;obtain⟨hg,h⟩:=fI h;cases h;have hi:P.info? t=D i:=hi;have hmm:i.methods.find? (·.name==name)=D mm:=by rw[<-Array.find?_toList];exact hmm
 simp only[bg]at hg;have hp:=aW hg.1;rw[fU]at hp;have hp:mm.path.toList=[]:=gW hp;obtain⟨ay,b⟩:=q;have hg2:=hg.2;cases b with
 |true=>
  replace hg2:aA (xV d) 1=f:=hg2;obtain⟨e,rfl⟩:=Z4<|aW hg2;simp[method,zm hi,hmm,hp,follow,hq,receiverAt,fq hd,Place.get]
 |false=>
  replace hg2:(!(aA (xV d) 1))=f:=hg2
  have hd1:∀e,d≠.pointer e:=by
   intro e he;subst he;simp[xV]at hg2
  cases d<;>first|exact absurd O (hd1 _)|simp[method,zm hi,hmm,hp,follow,hq,receiverAt,fq hd,Place.get]
def Qi{cf:kT}(hcf:FC P n cf)(gl:Gl n m){r:bT}{args:C bT}(rh:RH m s.H w)(hop:o.op=.call ⟨.invoke r name,⟨args⟩,ats⟩)(h:wU ⟨.invoke r name,⟨args⟩,ats⟩ P cf s=.mem v T)(e:Nb m s ρ o.op.operands.toList)(K:∀m' v' w',VR m' v v'->RH m' T w'->Ex m m' s.H T w w'->next (a.put o.dst v') w'):o.upon P a next au ((execOp ρ o).run P w):=by
 replace h:rm (aL (aL (Er<|ev s r) λp=>aL (methodOf P p.1 name) λq=>D (q.1,[p.2],([]:C Z))) λq=>cf q.1 (app q.2.1<|app (mp (ev s) args) q.2.2) s.H)=.mem v T:=h;replace h:=nZ h;obtain⟨q,hq,h⟩:=aJ h;obtain⟨p,hp,hq⟩:=aJ hq;obtain⟨g,hg,hq⟩:=aJ hq;cases hq;rw[hop]at e;have hf:=e.all r (by simp[fV,jq]);rw[Xd hp]at hf;obtain⟨x',hh,E⟩:=hf.PX
 have hargs:k_ m (app [p.2]<|app (mp (ev s) args) []) ([x']++(args.map ρ++[])):=by
  rw[qB,qB];exact(k_.cons _ _ _ _ E .nil).append<|(e.list args (by intro x E;simp[fV,jq,E])).append .nil
 have:=hcf _ _ _ _ _ h m w _ rh gl hargs o a next au K
 have y:(execOp ρ o).run P w=(callFunc g.1 ⟨[x']++(args.map ρ++[])⟩).run P w:=by
  have hm:=Tg (v:=x') hg (P.types.size+Made.depth-1) w
  have hd:P.types.size+Made.depth-1+1=P.types.size+Made.depth:=by
   have:1<=Made.depth:=by decide
   omega
  rw[hd]at hm;have ht:(List.map ρ args).take args.length=List.map ρ args:=cO (by simp);simp[execOp,hop,resolve,invoke,callMethod,hh,hm,ht]
 rw[y];exact this
end mem
def EF(n:Nat)(x:bT):Bool:=@Operand.rec (λ_=>Bool) (λ_=>f) (λv=>nE v) (λg=>aD (bW g) n) (λ_=>f) x
def Kn(nt:Nat)(d:aB Nat):Bool:=@aM Nat (λ_=>Bool) f (λd=>aD (bW d) nt) d
def xA(n nt:Nat)(o:Oper):Bool:=all' (EF n) o.op.operands.toList&&Kn nt o.dst
section mem
variable{P:aU}
structure FR(m:Mp)(s:St)(a:Act):Prop where
 size:a.tmps.size=s.nt
 slot:∀t,VR m (iA s t)<|a.tmps.getD t undef
def FR.mono(h:FR m s a)(hm:Mp.le m m'):FR m' s a:=⟨h.size,λt=>(h.slot t).mono hm⟩
def FR.ev(h:FR m s a)(g:Gl n m)(hL:all' (EF n) L=f):Nb m s a.eval L:=by
 refine⟨λx E=>?_⟩;rw[all_eq]at hL;have E:=eG.1 hL x E;cases x with
 |tmp t=>exact h.slot t
 |const v=>exact .sc v E
 |global k=>
  obtain⟨l,W,J,h3,h4⟩:=g k<|aF E;have:=VR.ptr (m:=m) k 0 l W N;rw[J,h3,h4]at this;exact this
 |func ay=>exact .func (.func ay) [] [] [] [] .nil .nil
def FR.put(h:FR m s a)(hd:Kn s.nt d=f)(hv:VR m v v'):FR m (jk s d v T) (a.put d v'):=by
 cases d with
 |none=>exact⟨h.size,h.slot⟩
 |some d=>
  have hd:d<s.nt:=aF hd
  have hget:∀t,(a.tmps.setIfInBounds d v').getD t undef=if t=d then v' else a.tmps.getD t undef:=by
   intro t
   by_cases e:t=d
   .subst e;rw[if_pos O];simp[Array.getD,h.size,hd]
   .rw[if_neg e];simp only[gJ];rw[jX (oW e)]
  show FR m (qE s d v T) {a with tmps:=a.tmps.setIfInBounds d v'};unfold qE;cases hb:gZ s.nl d with
  |true=>
   show FR m ⟨s.nl,s.nt,s.reg,bV (aD (bW d) s.nt) (s.tm.set top d v) s.tm,s.df,T⟩ _;rw[show aD (bW d) s.nt=f from aI hd];refine⟨by simpa using h.size,λt=>?_⟩;rw[hget];have hl:=h.slot t;unfold iA at hl|-;simp only at hl|-
   by_cases e:t=d
   .subst e;rw[if_pos O,hb];show VR m ((s.tm.set top t v).get top t) v';rw[Tr.vE,if_pos O];exact hv
   .rw[if_neg e];cases hbt:gZ s.nl t with
    |true=>
     rw[hbt]at hl;show VR m ((s.tm.set top d v).get top t) _;rw[Tr.vE,if_neg e];exact hl
    |false=>rw[hbt]at hl;exact hl
  |false=>
   show FR m ⟨s.nl,s.nt,(d,v)::s.reg,s.tm,s.df,T⟩ _;refine⟨by simpa using h.size,λt=>?_⟩;rw[hget];have hl:=h.slot t;unfold iA at hl|-;simp only at hl|-
   by_cases e:t=d
   .subst e;rw[if_pos O,hb];show VR m (bV (aA t t) v<|look s.reg t) v';rw[show aA t t=f from dD t];exact hv
   .rw[if_neg e];cases hbt:gZ s.nl t with
    |true=>rw[hbt]at hl;exact hl
    |false=>
     rw[hbt]at hl;show VR m (bV (aA d t) v<|look s.reg t) _;rw[show aA d t=aC from by rw[<-b_];exactλg=>e (aW g).symm];exact hl
end mem
section mem
variable{P:aU}
def Z5(h:isU v=f):v=.tuple #[]:=by
 cases v with
 |tuple l=>
  obtain⟨l⟩:=l;have h:aA (len l) 0=f:=h;have h:=aW h;rw[fU]at h;rw[gW h]
 |_=>simp[isU,Zq]at h
def Z6{hr:aB Bool}(ay:FR m s a)(h:Bo ops s j=D hr):yielded ops a.tmps j=hr:=by
 obtain⟨o,ho,h⟩:=aJ h;obtain⟨t,ht,h⟩:=aJ h;rw[oL,eF]at ho;have hs:=ay.slot t
 have hy:yielded ops a.tmps j=match a.tmps[t]? with|some (.bool b)=>D b|_=>Q:=by
  unfold yielded;rw[ho];show(match(o.dst).bind (a.tmps[·]?)with|some (.bool b)=>D b|_=>Q)=_;rw[ht];rfl
 rw[hy];cases hb:jQ (iA s t)with
 |some b=>
  rw[hb]at h;replace h:D (D b)=D hr:=h;cases h;rw[o_ hb]at hs;have hs:=hs.of_bool;rw[gJ]at hs;cases hq:a.tmps[t]? with
  |none=>rw[hq]at hs;cases hs
  |some x=>rw[hq]at hs;replace hs:x=.bool b:=hs;rw[hs]
 |none=>
  rw[hb]at h;replace h:(gd (isU<|iA s t)<|D (Q:aB Bool))=D hr:=h;obtain⟨hg,h⟩:=fI h;cases h;rw[Z5 hg]at hs;obtain⟨l',hl,hv⟩:=VR.Oh (x:=[]) hs;cases hv;rw[gJ]at hl;cases hq:a.tmps[t]? with
  |none=>rfl
  |some x=>rw[hq]at hl;replace hl:x=.tuple ⟨[]⟩:=hl;rw[hl]
def ad6(ay:FR m s a)(h:qK ops s o.guard=D b):Region.wanted o (yielded ops a.tmps)=b:=by
 unfold Region.wanted;cases hg:o.guard with
 |none=>rw[hg]at h;cases h;rfl
 |some p=>
  rw[hg]at h;replace h:(aL (Bo ops s p.1) λhr=>D<|@aM Bool (λ_=>Bool) aC (λb=>Ba b p.2) hr)=D b:=h;obtain⟨hr,hy,h⟩:=aJ h;cases h;obtain⟨j,want⟩:=p;simp only;rw[Z6 ay hy];cases hr with
  |none=>rfl
  |some c=>cases c<;>cases want<;>rfl
end mem
section mem
variable{P:aU}
def put_defers(a:Act)(d:aB Tmp)(v:Z):(a.put d v).defers=a.defers:=by cases d<;>rfl
def lF(s:St)(d:aB Nat)(v:Z)(H:R):(jk s d v H).H=H:=by
 cases d with
 |none=>rfl
 |some d=>show(qE s d v H).H=H;unfold qE;cases gZ s.nl d<;>rfl
def yP(s:St)(d:aB Nat)(v:Z)(H:R):(jk s d v H).nt=s.nt:=by
 cases d with
 |none=>rfl
 |some d=>show(qE s d v H).nt=s.nt;unfold qE;cases gZ s.nl d<;>rfl
def DL(s:St)(d:aB Nat)(v:Z)(H:R):(jk s d v H).df=s.df:=by
 cases d with
 |none=>rfl
 |some d=>show(qE s d v H).df=s.df;unfold qE;cases gZ s.nl d<;>rfl
def ad7{cf:kT}(hcf:FC P n cf)(rh:RH m s.H w)(ay:FR m s a)(gl:Gl n m)(hok:xA n s.nt o=f)(hd:qZ o.op=Q)(h:zL P cf o s=D s1)(K:∀m' a' w',FR m' s1 a'->RH m' s1.H w'->Ex m m' s.H s1.H w w'->a'.defers=a.defers->next a' w'):o.wp P a w next au:=by
 unfold zL at h;rw[hd]at h;replace h:Ew o s (yL o.op P cf s)=D s1:=h;unfold xA at hok;simp only[bg]at hok;have e:=ay.ev gl hok.1;unfold Oper.wp;cases y:yL o.op P cf s with
 |fail=>rw[y]at h;cases h
 |Cm v=>
  rw[y]at h;replace h:D (jk s o.dst v s.H)=D s1:=h;cases h;obtain⟨v',W,J⟩:=Oz y e λ_=>rfl;rw[J w];have hf:FR m (jk s o.dst v s.H) (a.put o.dst v'):=ay.put hok.2 W;exact K m _ w hf (by rw[lF];exact rh) (by rw[lF];exact Ex.refl _ _ _)<|put_defers _ _ _
 |mem v T=>
  rw[y]at h;replace h:D (jk s o.dst v T)=D s1:=h;cases h
  have K':∀m' v' w',VR m' v v'->RH m' T w'->Ex m m' s.H T w w'->next (a.put o.dst v') w':=by
   intro m' v' w' W J h3;exact K m' _ w' ((ay.mono h3.le).put hok.2 W) (by rw[lF];exact J) (by rw[lF];exact h3)<|put_defers _ _ _
  refine Vl rh y e ?_ K';intro c hop hb;rw[hop]at y;replace y:wU c P cf s=.mem v T:=y;obtain⟨callee,⟨args⟩,ats⟩:=c;cases callee with
  |value g=>exact Qh hcf gl rh hop y e K'
  |invoke r name=>exact Qi hcf gl rh hop y e K'
  |builtin b=>cases hb
end mem
section mem
variable{P:aU}
def XI{cf:kT}(hcf:FC P n cf)(hall:all' (xA n nt) ops.toList=f)(hnd:all' (λo=>eZ<|qZ o.op) ops.toList=f):
 ∀(l:C Oper)(k:Nat)(m:Mp)(s s1:St)(a:Act)(w:bY),ops.toList.drop k=l->s.nt=nt->RH m s.H w->FR m s a->Gl n m->mQ P cf ops l s=D s1->
 (∀m' a' w',FR m' s1 a'->RH m' s1.H w'->Ex m m' s.H s1.H w w'->a'.defers=a.defers->s1.nt=nt->s1.df=s.df->au .normal a' w')->
 wpOps P ops au (List.range' k l.length) a w:=by
 intro l
 induction l with
 |nil=>
  intro k m s s1 a w _ hnt rh ay gl h K;cases h;exact K m a w ay rh (Ex.refl _ _ _) O hnt O
 |cons o l ih=>
  intro k m s s1 a w hl hnt rh ay gl h K
  have hk:ops[k]?=D o:=by
   rw[<-eF];have:=dW List.head? hl;rw[List.head?_drop]at this;exact this
  have hmem:o∈ops.toList:=aS (by rw[eF];exact hk)
  have hdrop:ops.toList.drop (k+1)=l:=by
   rw[<-List.tail_drop,hl];rfl
  rw[all_eq]at hall hnd;have ho:=eG.1 hall o hmem;have hd:=eG.1 hnd o hmem
  have hd:qZ o.op=Q:=by
   cases hc:qZ o.op with
   |none=>rfl
   |some c=>rw[hc]at hd;cases hd
  replace h:(aL (aL (qK ops s o.guard) λb=>bV b (zL P cf o s)<|D<|jk s o.dst undef s.H) λs=>mQ P cf ops l s)=D s1:=h;obtain⟨s2,W,J⟩:=aJ h;obtain⟨b,hb,h3⟩:=aJ W;have hw:=ad6 ay hb;rw[cK,List.range'_succ];show wpOps P ops au (k::List.range' (k+1) l.length) a w;rw[wpOps_cons];unfold wpOp;rw[hk];simp only[hw];cases b with
  |true=>
   replace h3:zL P cf o s=D s2:=h3;simp only[kK];left
   have aiR:s2.nt=s.nt/\s2.df=s.df:=by
    unfold zL at h3;rw[hd]at h3;replace h3:Ew o s (yL o.op P cf s)=D s2:=h3;cases y:yL o.op P cf s with
    |fail=>rw[y]at h3;cases h3
    |Cm v=>rw[y]at h3;replace h3:D (jk s o.dst v s.H)=D s2:=h3;cases h3;exact⟨yP _ _ _ _,DL _ _ _ _⟩
    |mem v T=>rw[y]at h3;replace h3:D (jk s o.dst v T)=D s2:=h3;cases h3;exact⟨yP _ _ _ _,DL _ _ _ _⟩
   refine ad7 hcf rh ay gl (by rw[hnt];exact ho) hd h3 ?_;intro m' a' w' f' rh' ex' hdf;refine ih (k+1) m' s2 s1 a' w' hdrop (by rw[aiR.1,hnt]) rh' f' (gl.mono ex'.le) J ?_;intro m2 a2 w2 f2 rh2 ex2 ag5 hn2 hs2;exact K m2 a2 w2 f2 rh2 (ex'.trans ex2) (by rw[ag5,hdf]) hn2 (by rw[hs2,aiR.2])
  |false=>
   replace h3:D (jk s o.dst undef s.H)=D s2:=h3;cases h3;simp only[cB,kJ];unfold xA at ho;simp only[bg]at ho;have f':FR m (jk s o.dst undef s.H) (a.put o.dst undef):=ay.put (by rw[hnt];exact ho.2)<|.tuple [] [] .nil;refine ih (k+1) m _ s1 _ w hdrop (by rw[yP,hnt]) (by rw[lF];exact rh) f' gl J ?_;intro m2 a2 w2 f2 rh2 ex2 ag5 hn2 hs2;rw[lF]at ex2;rw[DL]at hs2;exact K m2 a2 w2 f2 rh2 ex2 (by rw[ag5,put_defers]) hn2 hs2
end mem
section rules
variable{P:aU}
def least{p:Nat->Prop}(h:∃n,p n):∃n,p n/\∀k,k<n->¬p k:=by
 obtain⟨n,hn⟩:=h
 induction n using Nat.strongRecOn with
 |_ n ih=>
  by_cases E:∃k,k<n/\p k
  .obtain⟨k,W,J⟩:=E;exact ih k W J
  .exact⟨n,hn,λk hk hp=>E ⟨k,hk,hp⟩⟩
theorem XJ(az:Nat->Act->bY->Prop)(h0:∀a w,¬az 0 a w)(hs:∀n a w,az (n+1) a w->c.wp P (Exit.then (az n) au) a w)(h:az n a w):(Code.loop c).wp P au a w:=by
 classical
 refine wp_loop (λa w=>∃n,az n a w) (λa w=>if h:∃n,az n a w then jB (least h)else 0) ⟨n,h⟩ ?_;intro a w hI;have hf:=nJ<|least hI;have hd:(if h:∃n,az n a w then jB (least h)else 0)=jB (least hI):=dif_pos hI;rw[hd];generalize jB (least hI)=k0 at hf;cases k0 with
 |zero=>exact(h0 a w hf.1).elim
 |succ k=>
  refine wp_mono (hs k a w hf.1) ?_;intro e a' w' he;cases e with
  |normal=>
   have hI':∃n,az n a' w':=⟨k,he⟩;refine⟨hI',?_⟩;have hd':(if h:∃n,az n a' w' then jB (least h)else 0)=jB (least hI'):=dif_pos hI';rw[hd'];have hf':=nJ<|least hI';exact Nat.lt_succ_of_le<|qP λhlt=>hf'.2 k hlt he
  |_=>exact he
def Z7(h2:Nat->Act->bY->Prop)(au:Exit->Act->bY->Prop):Exit->Act->bY->Prop
 |.goto l,a,w=>h2 l a w
 |e,a,w=>au e a w
theorem Ti(az:Nat->Nat->Act->bY->Prop)(hs:∀n l a w,az n l a w->(∃n' rest,n=n'+1/\findLabel c l=D rest/\rest.wp P (Z7 (az n') au) a w)\/(findLabel c l=Q/\au (.goto l) a w))(first:c.wp P (Z7 (az n) au) a w):(Code.scope c).wp P au a w:=by
 intro b k M
 have key:∀n l a w,az n l a w->∀m₀,(∀k',gotoIn l (.inScope c::k)=D k'->Steps P m₀ (lone (b.at a k') M w))->∃e a' w',au e a' w'/\Arrives P m₀ b k M e a' w':=by
  intro n
  induction n with
  |zero=>
   intro l a w hR m₀ hm;rcases hs 0 l a w hR with⟨n',rest,W,_⟩|⟨W,J⟩
   .cases W
   .exact⟨_,a,w,J,λk' hk=>hm k'<|by simp[gotoIn,W,hk]⟩
  |succ n ih=>
   intro l a w hR m₀ hm;rcases hs (n+1) l a w hR with⟨n',rest,W,J,h3⟩|⟨W,J⟩
   .cases W;obtain⟨e,a₁,w₁,hq,harr⟩:=h3 b (.inScope c::k) M;have hg:=hm (.code rest::.inScope c::k) (by simp[gotoIn,J]);cases e with
    |normal=>exact⟨.normal,a₁,w₁,hq,hg.trans<|Steps.trans harr<|.one step_inScope⟩
    |exit id=>exact⟨.exit id,a₁,w₁,hq,λk' hk=>hg.trans<|harr k'<|by simp[exitTo,hk]⟩
    |goto l'=>exact ih l' a₁ w₁ hq m₀ λk' hk=>hg.trans<|harr k' hk
    |ret=>exact⟨_,a₁,w₁,hq,.of_steps hg harr⟩
    |panic ch=>exact⟨_,a₁,w₁,hq,.of_steps hg harr⟩
    |outgrown=>exact⟨_,a₁,w₁,hq,.of_steps hg harr⟩
   .exact⟨_,a,w,J,λk' hk=>hm k'<|by simp[gotoIn,W,hk]⟩
 obtain⟨e,a₁,w₁,hq,harr⟩:=first b (.inScope c::k) M
 cases e with
 |normal=>exact⟨.normal,a₁,w₁,hq,.head step_scope<|Steps.trans harr<|.one step_inScope⟩
 |exit id=>exact⟨.exit id,a₁,w₁,hq,λk' hk=>.head step_scope<|harr k'<|by simp[exitTo,hk]⟩
 |goto l'=>exact key n l' a₁ w₁ hq _ λk' hk=>.head step_scope<|harr k' hk
 |ret=>exact⟨_,a₁,w₁,hq,.of_steps (.one step_scope) harr⟩
 |panic ch=>exact⟨_,a₁,w₁,hq,.of_steps (.one step_scope) harr⟩
 |outgrown=>exact⟨_,a₁,w₁,hq,.of_steps (.one step_scope) harr⟩
end rules
def codeOk(n nt:Nat):Code->Bool
 |.region _ ops _=>all' (xA n nt) ops.toList&&kD ops
 |.seq a b=>codeOk n nt a&&codeOk n nt b
 |.cond c a b=>EF n c&&(codeOk n nt a&&codeOk n nt b)
 |.block _ c=>codeOk n nt c
 |.loop c=>codeOk n nt c
 |.scope c=>codeOk n nt c
 |_=>f
def BA:∀{c:Code}{l:Nat}{rest:Code},codeOk n nt c=f->findLabel c l=D rest->codeOk n nt rest=f
 |.seq a b,l,rest,hc,h=>by
  simp only[codeOk,bg]at hc;simp only[findLabel]at h;cases ha:findLabel a l with
  |some r=>
   rw[ha]at h;replace h:D (Code.seq r b)=D rest:=h;cases h;simp only[codeOk,bg];exact⟨BA hc.1 ha,hc.2⟩
  |none=>
   rw[ha]at h;exact BA hc.2 h
 |.label l',l,rest,_,h=>by
  simp only[findLabel]at h;split at h
  .cases h;rfl
  .cases h
 |.skip,_,_,_,h=>by simp[findLabel]at h
 |.region ..,_,_,_,h=>by simp[findLabel]at h
 |.cond ..,_,_,_,h=>by simp[findLabel]at h
 |.block ..,_,_,_,h=>by simp[findLabel]at h
 |.loop _,_,_,_,h=>by simp[findLabel]at h
 |.rangeFunc ..,_,_,_,h=>by simp[findLabel]at h
 |.exit _,_,_,_,h=>by simp[findLabel]at h
 |.scope _,_,_,_,h=>by simp[findLabel]at h
 |.goto _,_,_,_,h=>by simp[findLabel]at h
 |.ret,_,_,_,h=>by simp[findLabel]at h
 |.refuse _,_,_,_,h=>by simp[findLabel]at h
structure At(m0:Mp)(H0:R)(w0:bY)(d0:C Deferred)(nt:Nat)(df:C Deferred)(s1:St)(a:Act)(w:bY)(m:Mp):Prop where
 fr:FR m s1 a
 rh:RH m s1.H w
 ex:Ex m0 m H0 s1.H w0 w
 de:a.defers=d0
 nt:s1.nt=nt
 df:s1.df=df
def To(m0:Mp)(H0:R)(w0:bY)(d0:C Deferred)(nt:Nat)(df:C Deferred)(s1:St)(q:Act->bY->Prop):Prop:=
 ∀m a w,At m0 H0 w0 d0 nt df s1 a w m->q a w
def Post(m0:Mp)(H0:R)(w0:bY)(d0:C Deferred)(nt:Nat)(df:C Deferred)(au:Exit->Act->bY->Prop):Out->Prop
 |.fail=>False
 |.norm s=>To m0 H0 w0 d0 nt df s<|au .normal
 |.exit i s=>To m0 H0 w0 d0 nt df s<|au<|.exit i
 |.goto l s=>To m0 H0 w0 d0 nt df s<|au<|.goto l
 |.ret s=>To m0 H0 w0 d0 nt df s<|au .ret
def At.trans(W:At m0 H0 w0 d0 nt df s1 a1 w1 m1)(J:At m1 s1.H w1 a1.defers s1.nt s1.df s2 a w m):At m0 H0 w0 d0 nt df s2 a w m:=
 ⟨J.fr,J.rh,W.ex.trans J.ex,by rw[J.de,W.de],by rw[J.nt,W.nt],by rw[J.df,W.df]⟩
def Post.from'(W:At m0 H0 w0 d0 nt df s1 a1 w1 m1){o:Out}(h:Post m0 H0 w0 d0 nt df au o):Post m1 s1.H w1 a1.defers nt s1.df au o:=by
 have e:=W.nt;cases o with
 |fail=>exact h
 |_=>exactλm a w J=>h m a w<|W.trans (by rw[e];exact J)
def Post.from(W:At m0 H0 w0 d0 nt df s1 a1 w1 m1){o:Out}(h:Post m0 H0 w0 d0 nt df au o):Post m1 s1.H w1 a1.defers s1.nt s1.df au o:=by
 cases o with
 |fail=>exact h
 |_=>exactλm a w J=>h m a w<|W.trans J
def OA(P:aU)(cf:kT)(n nt:Nat):Prop:=∀(id:Nat)(ops:Array Oper)(s:St)(m:Mp)(a:Act)(w:bY)(au:Exit->Act->bY->Prop),
 all' (xA n nt) ops.toList=f->kD ops=f->s.nt=nt->RH m s.H w->FR m s a->Gl n m->
 Post m s.H w a.defers nt s.df au (region P cf ops f s)->(Code.region id ops f).wp P au a w
def OB(P:aU)(ex:Code->St->Out)(n nt:Nat):Prop:=∀(c:Code)(s:St)(m:Mp)(a:Act)(w:bY)(au:Exit->Act->bY->Prop),
 codeOk n nt c=f->s.nt=nt->RH m s.H w->FR m s a->Gl n m->
 Post m s.H w a.defers nt s.df au (ex c s)->c.wp P au a w
def FR.clear(h:FR m s a):FR m (clear s) a:=by
 refine⟨h.size,λt=>?_⟩;have ht:=h.slot t;unfold iA at ht|-;show VR m (bV (gZ s.nl t) (s.tm.get top t)<|look [] t) _;cases hb:gZ s.nl t with
 |true=>rw[hb]at ht;exact ht
 |false=>exact .top _
section mem
variable{P:aU}
def Vm{cf:kT}(hcf:FC P n cf)(hcx:OB P cx n nt)(hdr:OA P cf n nt)(k:Nat):OB P (exec P cf cx k) n nt:=by
 intro c
 induction c with
 |skip=>intro s m a w au _ hnt rh ay _ h;exact wp_skip<|h m a w ⟨ay,rh,Ex.refl _ _ _,O,hnt,O⟩
 |label l=>intro s m a w au _ hnt rh ay _ h;exact wp_label<|h m a w ⟨ay,rh,Ex.refl _ _ _,O,hnt,O⟩
 |exit id=>intro s m a w au _ hnt rh ay _ h;exact wp_exit<|h m a w ⟨ay,rh,Ex.refl _ _ _,O,hnt,O⟩
 |goto l=>intro s m a w au _ hnt rh ay _ h;exact wp_goto<|h m a w ⟨ay,rh,Ex.refl _ _ _,O,hnt,O⟩
 |ret=>intro s m a w au _ hnt rh ay _ h;exact wp_ret<|h m a w ⟨ay,rh,Ex.refl _ _ _,O,hnt,O⟩
 |refuse=>intro s m a w au _ _ _ _ _ h;exact h.elim
 |rangeFunc=>intro s m a w au _ _ _ _ _ h;exact h.elim
 |region id ops draw=>
  intro s m a w au hc hnt rh ay gl h;simp only[codeOk,bg]at hc;cases draw with
  |true=>exact hdr id ops s m a w au hc.1 hc.2 hnt rh ay gl h
  |false=>
   replace h:Post m s.H w a.defers nt s.df au (Ib<|mQ P cf ops ops.toList<|clear s):=h;cases y:mQ P cf ops ops.toList (clear s)with
   |none=>rw[y]at h;exact h.elim
   |some s1=>
    rw[y]at h;replace h:To m s.H w a.defers nt s.df s1 (au .normal):=h
    have hpl:all' (λo=>eZ<|qZ o.op) ops.toList=f:=by
     have:=hc.2;unfold kD at this;rw[all_eq]at this|-;rw[eG]at this|-;intro o ho;have:=this o ho;simp only[bg]at this;exact this.1
    have hw:wpOps P ops au (List.range' 0 ops.toList.length) a w:=by
     refine XI (P:=P) hcf (n:=n) (nt:=nt) hc.1 hpl ops.toList 0 m (clear s) s1 a w (by simp) hnt rh ay.clear gl y ?_;intro m' a' w' f' rh' ex' hd' hn' hs';exact h m' a' w' ⟨f',rh',ex',hd',hn',hs'⟩
    refine wp_region ?_;rw[alList_range_eq_range_Q];exact hw
 |seq x hr ihx ihy=>
  intro s m a w au hc hnt rh ay gl h;simp only[codeOk,bg]at hc;replace h:Post m s.H w a.defers nt s.df au (andThen (exec P cf cx k x s)<|exec P cf cx k hr):=h;refine wp_seq<|ihx s m a w _ hc.1 hnt rh ay gl ?_;cases E:exec P cf cx k x s with
  |fail=>rw[E]at h;exact h
  |norm s1=>
   rw[E]at h;intro m1 a1 w1 W;have:=h.from W;rw[W.nt]at this;exact ihy s1 m1 a1 w1 au hc.2 W.nt W.rh W.fr (gl.mono W.ex.le) this
  |exit i s1=>rw[E]at h;exact h
  |goto l s1=>rw[E]at h;exact h
  |ret s1=>rw[E]at h;exact h
 |cond c x hr ihx ihy=>
  intro s m a w au hc hnt rh ay gl h;simp only[codeOk,bg]at hc;replace h:Post m s.H w a.defers nt s.df au (Ia (jQ<|ev s c) (exec P cf cx k x s)<|exec P cf cx k hr s):=h;cases hb:jQ (ev s c)with
  |none=>rw[hb]at h;exact h.elim
  |some b=>
   rw[hb]at h;have hL:all' (EF n) [c]=f:=by rw[all_eq];simp[hc.1]
   have he:=(ay.ev gl hL).all c (by simp);rw[o_ hb]at he;have he:=he.of_bool;cases b with
   |true=>exact wp_cond_true he<|ihx s m a w au hc.2.1 hnt rh ay gl h
   |false=>exact wp_cond_false he<|ihy s m a w au hc.2.2 hnt rh ay gl h
 |block id c ih=>
  intro s m a w au hc hnt rh ay gl h;replace h:Post m s.H w a.defers nt s.df au (xq id<|exec P cf cx k c s):=h;refine wp_block<|ih s m a w _ hc hnt rh ay gl ?_;cases E:exec P cf cx k c s with
  |fail=>rw[E]at h;exact h
  |norm s1=>rw[E]at h;exact h
  |exit i s1=>
   rw[E]at h;replace h:Post m s.H w a.defers nt s.df au (bV (aA i id) (.norm s1)<|.exit i s1):=h;intro m1 a1 w1 W
   by_cases e:i=id
   .subst e;rw[show aA i i=f from dD i]at h;simp only[Exit.inBlock,kK];exact h m1 a1 w1 W
   .rw[show aA i id=aC from by rw[<-b_];exactλg=>e<|aW g]at h;simp only[Exit.inBlock,e,kJ];exact h m1 a1 w1 W
  |goto l s1=>rw[E]at h;exact h
  |ret s1=>rw[E]at h;exact h
 |loop c ih=>
  intro s m a w au hc hnt rh ay gl h;replace h:Post m s.H w a.defers nt s.df au (xY k (exec P cf cx k c) s):=h
  have key:∀j,Post m s.H w a.defers nt s.df au (xY j (exec P cf cx k c) s)->(Code.loop c).wp P au a w:=by
   intro j hj
   refine XJ (λj a1 w1=>∃m1 s1,At m s.H w a.defers nt s.df s1 a1 w1 m1/\Post m s.H w a.defers nt s.df au (xY j (exec P cf cx k c) s1)) ?_ ?_ (n:=j)
    ⟨m,s,⟨ay,rh,Ex.refl _ _ _,rfl,hnt,rfl⟩,hj⟩
   .rintro a1 w1 ⟨m1,s1,_,h0⟩;exact h0
   .rintro j a1 w1 ⟨m1,s1,W,h0⟩;replace h0:Post m s.H w a.defers nt s.df au (andThen (exec P cf cx k c s1)<|xY j<|exec P cf cx k c):=h0;refine ih s1 m1 a1 w1 _ hc W.nt W.rh W.fr (gl.mono W.ex.le) ?_;cases E:exec P cf cx k c s1 with
    |fail=>rw[E]at h0;exact h0
    |norm s2=>
     rw[E]at h0;intro m2 a2 w2 J;exact⟨m2,s2,W.trans (by rw[W.nt];exact J),h0⟩
    |exit i s2=>rw[E]at h0;exact h0.from' W
    |goto l s2=>rw[E]at h0;exact h0.from' W
    |ret s2=>rw[E]at h0;exact h0.from' W
  exact key k h
 |scope c ih=>
  intro s m a w au hc hnt rh ay gl h;replace h:Post m s.H w a.defers nt s.df au (nR cx k c<|exec P cf cx k c s):=h;have hc':codeOk n nt c=f:=hc
  have pass:∀j(o:Out),Post m s.H w a.defers nt s.df au (nR cx j c o)->
   Post m s.H w a.defers nt s.df (Z7 (λl a1 w1=>∃m1 s1,At m s.H w a.defers nt s.df s1 a1 w1 m1/\Post m s.H w a.defers nt s.df au (nR cx j c<|.goto l s1)) au) o:=by
   intro j o ho;cases j with
   |zero=>exact ho.elim
   |succ j=>
    cases o with
    |fail=>exact ho
    |norm s1=>exact ho
    |exit i s1=>exact ho
    |ret s1=>exact ho
    |goto l s1=>
     intro m1 a1 w1 W;exact⟨m1,s1,W,ho⟩
  refine Ti (n:=k) (λj l a1 w1=>∃m1 s1,At m s.H w a.defers nt s.df s1 a1 w1 m1/\Post m s.H w a.defers nt s.df au (nR cx j c<|.goto l s1)) ?_<|ih s m a w _ hc hnt rh ay gl<|pass k _ h;rintro j l a1 w1 ⟨m1,s1,W,h0⟩;cases j with
  |zero=>exact h0.elim
  |succ j=>
   replace h0:Post m s.H w a.defers nt s.df au (@aM Code (λ_=>Out) (.goto l s1) (λrest=>nR cx j c<|cx rest s1)<|findLabel c l):=h0;cases hf:findLabel c l with
   |none=>
    rw[hf]at h0;exact .inr ⟨O,h0 m1 a1 w1 W⟩
   |some rest=>
    rw[hf]at h0;refine .inl ⟨j,rest,O,O,?_⟩;have:=(pass j _ h0).from W;rw[W.nt]at this;exact hcx rest s1 m1 a1 w1 _ (BA hc' hf) W.nt W.rh W.fr (gl.mono W.ex.le) this
end mem
def yQ(n nt:Nat)(c:Code):Bool:=
 @Code.rec (λ_=>Bool) f (λ_ ops _=>all' (xA n nt) ops.toList&&kD ops) (λ_ _ a b=>a&&b) (λc _ _ a b=>EF n c&&(a&&b)) (λ_ _ a=>a) (λ_ a=>a)
  (λ_ _ _ _ _ _=>f) (λ_=>f) (λ_ a=>a) (λ_=>f) (λ_=>f) f (λ_=>f) c
def Tj(c:Code)(h:yQ n nt c=f):codeOk n nt c=f:=by
 have:yQ n nt c=codeOk n nt c:=by
  clear h
  induction c with
  |seq a b iha ihb=>show(yQ n nt a&&yQ n nt b)=_;rw[iha,ihb];rfl
  |cond c a b iha ihb=>show(EF n c&&(yQ n nt a&&yQ n nt b))=_;rw[iha,ihb];rfl
  |block id a ih=>exact ih
  |loop a ih=>exact ih
  |scope a ih=>exact ih
  |_=>rfl
 rw[<-this];exact h
def Z8(n:Nat)(fn:Func):Bool:=@aM Code (λ_=>Bool) f (λc=>yQ n fn.ntmps c&&!(fn.name== "runtime.NumGoroutine")) fn.body
def Ce(P:aU)(n:Nat):Prop:=∀(g:FuncId)(fn:Func),P.funcs[g]?=D fn->Z8 n fn=f
def Zc(P:aU)(X:Xt):Prop:=∀(g:FuncId)(fn:Func)(args:C Z)(v:Z)(H T:R),P.funcs[g]?=D fn->fn.body=Q->Xa P (X g) fn.resultTypes.toList args H=D (v,T)->
 ∀m w args',RH m H w->k_ m args args'->∃m' v' w',(callFunc g ⟨args'⟩).run P w=.ok (.value v') w'/\VR m' v v'/\RH m' T w'/\Ex m m' H T w w'
def OC(P:aU)(n:Nat)(cf:kT):Prop:=∀g args v H T fn,cf g args H=D (v,T)->P.funcs[g]?=D fn->fn.body.isSome=f->∀m w args',RH m H w->Gl n m->k_ m args args'->
 Calls P g ⟨args'⟩ w λe w'=>∃m' v',e=.returned v'/\VR m' v v'/\RH m' T w'/\Ex m m' H T w w'
def I_(P:aU)(X:Xt)(n:Nat):Prop:=∀(g:FuncId)(args:C Z)(v:Z)(H T:R),X.o g args H=D (v,T)->(∃fn,P.funcs[g]?=D fn/\fn.body.isSome=f)/\∀m w args',RH m H w->Gl n m->k_ m args args'->
 Calls P g ⟨args'⟩ w λe w'=>∃m' v',e=.returned v'/\VR m' v v'/\RH m' T w'/\Ex m m' H T w w'
def I_.none{P:aU}{X:Xt}(h:∀g a H,X.o g a H=Q):I_ P X n:=λg a v H T e=>by rw[h]at e;cases e
def x_{P:aU}{X:Xt}{L:Lv}(h:X.o g args H=Q):Br P X L k g args H=aL (nth P.funcs.toList g) λfn=>Xc P L k g (X g) fn args H:=by
 show orO (X.o g args H) _=_;rw[h];rfl
def CQ{P:aU}{X:Xt}{L:Lv}{r:Z×R}(h:X.o g args H=D r):Br P X L k g args H=D r:=by
 show orO (X.o g args H) _=_;rw[h];rfl
section mem
variable{P:aU}
def Tm(rh:RH m s.H w)(ay:FR m s a)(h:lD P s fn.results.toList=D vs):
 ∃v',VR m (sN vs) v'/\(results fn a.tmps).run P w=.ok v' w:=by
 have key:∀(l:C ResultVar)(vs:C Z),lD P s l=D vs->∃vs',k_ m vs vs'/\
  Sem.run P (l.mapM λ|ResultVar.tmp t=>(pure (a.tmps.getD t undef):Sem Z)|ResultVar.cell b t=>do loadVar t (<-asAddr (a.tmps.getD b undef))) w=Result.ok vs' w:=by
  intro l
  induction l with
  |nil=>intro vs h;cases h;exact⟨[],.nil,by simp⟩
  |cons r l ih=>
   intro vs h;replace h:(aL (Dy P s r) λv=>aL (lD P s l) λvs=>D<|v::vs)=D vs:=h;obtain⟨v,hv,h⟩:=aJ h;obtain⟨vs1,hvs,h⟩:=aJ h;cases h;obtain⟨vs',W,J⟩:=ih vs1 hvs;cases r with
   |tmp t=>
    replace hv:D (iA s t)=D v:=hv;cases hv;refine⟨_::vs',.cons _ _ _ _ (ay.slot t) W,?_⟩;simp only[wm,dw,dI,bR,J]
   |cell b t=>
    replace hv:(aL (wu P t (iA s b) s.H) λp=>D p.1)=D v:=hv;obtain⟨p,hp,hv⟩:=aJ hv;cases hv;have hb:=ay.slot b;obtain⟨hH,v',h3,h4⟩:=Ve (P:=P) rh (show wu P t (iA s b) s.H=D (p.1,p.2)from hp) hb;refine⟨v'::vs',.cons _ _ _ _ h3 W,?_⟩
    have h5:∃a',a.tmps.getD b undef=.pointer (D a'):=by
     have h:=hp;obtain⟨a0,ha0,h⟩:=aJ h;rw[pN ha0]at hb;obtain⟨l,_,_,_,h⟩:=hb.tV;exact⟨_,h⟩
    obtain⟨a',ha'⟩:=h5;rw[ha']at h4;simp only[Instr.loadAt,jD,dw,dI,bR]at h4;have has:asAddr (.pointer<|D a')=pure a':=rfl;simp only[wm,ha',has,dw,dI,bR,h4,J]
 obtain⟨vs',W,J⟩:=key _ _ h;have hlen:=W.length;refine⟨if h:vs'.toArray.size=1 then vs'.toArray[0]else .tuple vs'.toArray,?_,?_⟩
 .unfold sN;cases vs with
  |nil=>cases W;exact .tuple [] [] .nil
  |cons v vs=>
   cases W with
   |cons _ v' _ x' hv E=>
    cases vs with
    |nil=>cases E;exact hv
    |cons rg vs=>
     have:(v'::x').toArray.size≠1:=by simp at hlen|-;intro h;rw[h]at hlen;simp at hlen
     rw[dif_neg this];exact .tuple _ _<|.cons _ _ _ _ hv E
 .show Sem.run P (do
   let vs<-fn.results.mapM (λ|ResultVar.tmp t=>(pure (a.tmps.getD t undef):Sem Z)|ResultVar.cell b t=>do loadVar t (<-asAddr (a.tmps.getD b undef)))
   pure (if h:vs.size=1 then vs[0]else .tuple vs)) w=_
  simp only[dw,Array.mapM_eq_mapM_toList,Sem.run_map,J,bR,dI]
theorem ag6(h:k_ m args args')(nl nt:Nat)(hle:args.length<=nt)(H:R):
 FR m ⟨nl,nt,[],Tr.tu top args 0 .nil,[],H⟩ {tmps:=(⟨args'⟩:Array Z)++kQ (nt-(⟨args'⟩:Array Z).size) undef,defers:=[]}:=by
 have hl:=h.length;refine⟨by simp;omega,λt=>?_⟩;show VR m (bV (gZ nl t) ((Tr.tu top args 0 .nil).get top t)<|look [] t) _;cases gZ nl t with
 |false=>exact .top _
 |true=>
  show VR m ((Tr.tu top args 0 .nil).get top t) _;rw[Tr.l_]
  by_cases ht:t<args.length
  .rw[if_pos N];have hg:args[t]?=D (args.getD t top):=by rw[bD,av ht];rfl
   obtain⟨v',W,J⟩:=h.get t hg
   have:((⟨args'⟩:Array Z)++kQ (nt-(⟨args'⟩:Array Z).size) undef).getD t undef=v':=by
    rw[gJ,rC (by simp;omega)];simp[W]
   rw[this];exact J
  .rw[if_neg N,Tr.get_nil];exact .top _
def XK{o:Out}{az:Ending->bY->Prop}(h:Oc o=D s)(K:∀a' w' m',At m H w [] nt [] s a' w' m'->a'.defers=[]/\∃v,(results fn a'.tmps).run P w'=.ok v w'/\az (.returned v) w'):
 Post m H w [] nt [] (bodyPost P fn az) o:=by
 cases o with
 |fail=>cases h
 |norm s1=>cases h;intro m' a' w' ha;exact K a' w' m' ha
 |exit=>cases h
 |goto=>cases h
 |ret s1=>cases h;intro m' a' w' ha;exact K a' w' m' ha
def XL{X:Xt}{L:Lv}(hP:Ce P n)(hO:I_ P X n)(hcf:FC P n L.ca)(hcx:∀nt,OB P L.cx n nt)(hdr:∀nt,OA P L.ca n nt)(k:Nat):
 OC P n (Br P X L k):=by
 intro g args v H T fn h hg hb m w args' rh gl hv;cases hor:X.o g args H with
 |some r=>
  rw[CQ hor]at h;cases h;exact(hO g args v H T hor).2 m w args' rh gl hv
 |none=>
 rw[x_ hor]at h;obtain⟨fn',hfn,h⟩:=aJ h;rw[oL,eF,hg]at hfn;cases hfn;have hok:=hP g fn hg;cases hbody:fn.body with
 |none=>rw[hbody]at hb;cases hb
 |some c=>
  replace h:(@aM Code (λ_=>aB<|Z×R) (Xa P (X g) fn.resultTypes.toList args H)
   (λc=>gd (aD (len args) fn.ntmps)<|aL (Oc<|exec P L.ca L.cx k c ⟨jv P g,fn.ntmps,[],Tr.tu top args 0 .nil,[],H⟩) λs=>Ic P fn s) fn.body)=D (v,T):=h
  unfold Z8 at hok;rw[hbody]at h hok;replace h:(gd (aD (len args) fn.ntmps)<|aL (Oc<|exec P L.ca L.cx k c ⟨jv P g,fn.ntmps,[],Tr.tu top args 0 .nil,[],H⟩) λs=>Ic P fn s)=D (v,T):=h;replace hok:(yQ n fn.ntmps c&&!(fn.name== "runtime.NumGoroutine"))=f:=hok;rw[bg]at hok;obtain⟨hle,h⟩:=fI h;have hle:=aF hle;rw[fU]at hle;obtain⟨s,hs,h⟩:=aJ h;obtain⟨hdf,h⟩:=fI h;obtain⟨vs,hvs,h⟩:=aJ h;cases h;refine calls_of_wp hg hbody ?_;refine Vm hcf (hcx fn.ntmps) (hdr fn.ntmps) k c ⟨jv P g,fn.ntmps,[],Tr.tu top args 0 .nil,[],H⟩ m _ w _ (Tj c hok.1) O rh (ag6 hv (jv P g) fn.ntmps hle H) gl ?_;refine XK hs ?_;intro a' w' m' ha;obtain⟨v',W,J⟩:=Tm ha.rh ha.fr hvs;exact⟨ha.de,v',J,m',v',O,W,ha.rh,ha.ex⟩
def ad8{X:Xt}{L:Lv}(hP:Ce P n)(hX:Zc P X)(hO:I_ P X n)(hc:OC P n<|Br P X L k):FC P n (Br P X L k):=by
 intro g args v H T h m w args' rh gl hv o a next au K
 have h0:=h
 have alz:∃fn,P.funcs[g]?=D fn/\(fn.body=Q->X.o g args H=Q):=by
  cases hor:X.o g args H with
  |some r=>
   obtain⟨⟨fn,W,J⟩,_⟩:=hO g args r.1 H r.2 hor;exact⟨fn,W,λh3=>by rw[h3]at J;cases J⟩
  |none=>
   rw[x_ hor]at h;obtain⟨fn,W,_⟩:=aJ h;rw[oL,eF]at W;exact⟨fn,W,λ_=>rfl⟩
 obtain⟨fn,hfn,hno⟩:=alz;cases hbody:fn.body with
 |some c=>
  have hok:=hP g fn hfn;unfold Z8 at hok;rw[hbody]at hok;replace hok:(yQ n fn.ntmps c&&!(fn.name== "runtime.NumGoroutine"))=f:=hok;rw[bg]at hok;have hn:fn.name≠ "runtime.NumGoroutine" :=by simpa using hok.2
  have y:(callFunc g ⟨args'⟩).run P w=.ok (.enter g ⟨args'⟩) w:=by
   simp[callFunc,hfn,hn,hbody]
  rw[y,Oper.upon_enter];refine(hc g args v H T fn h0 hfn (by rw[hbody];rfl) m w args' rh gl hv).mono ?_;rintro e w' ⟨m',v',rfl,W,J,h3⟩;exact K m' v' w' W J h3
 |none=>
  rw[x_ (hno hbody),oL,eF,hfn]at h
  replace h:(@aM Code (λ_=>aB<|Z×R) (Xa P (X g) fn.resultTypes.toList args H)
   (λc=>gd (aD (len args) fn.ntmps)<|aL (Oc<|exec P L.ca L.cx k c ⟨jv P g,fn.ntmps,[],Tr.tu top args 0 .nil,[],H⟩) λs=>Ic P fn s) fn.body)=D (v,T):=h
  rw[hbody]at h;obtain⟨m',v',w',W,J,h3,h4⟩:=hX g fn args v H T hfn hbody h m w args' rh hv;rw[W,Oper.upon_value];exact K m' v' w' J h3 h4
def Z9{X:Xt}(hP:Ce P n)(hX:Zc P X)(hO:I_ P X n)(hdr:∀cf,FC P n cf->∀nt,OA P cf n nt):
 ∀k,FC P n (lv P X k).ca/\(∀nt,OB P (lv P X k).cx n nt)/\OC P n (lv P X k).ca:=by
 intro k
 induction k with
 |zero=>
  refine⟨?_,?_,?_⟩
  .intro g args v H T h;cases h
  .intro nt c s m a w au _ _ _ _ _ h;exact h.elim
  .intro g args v H T fn h;cases h
 |succ k ih=>
  have hc:=XL (X:=X) hP hO ih.1 ih.2.1 (hdr _ ih.1) k;exact⟨ad8 hP hX hO hc,λnt=>Vm ih.1 (ih.2.1 nt) (hdr _ ih.1 nt) k,hc⟩
end mem
def Mp.upto(m:Mp)(b:Nat):Mp:=λr=>if r<b then m r else Q
def Mp.Vn(m:Mp)(b:Nat):Mp.le (m.upto b) m:=by
 intro r l h;unfold Mp.upto at h;split at h
 .exact h
 .cases h
def Mp.xB{b b':Nat}(hm:Mp.le m m')(hb:b<=b'):Mp.le (m.upto b) (m'.upto b'):=by
 intro r l h;unfold Mp.upto at h|-;split at h
 .next W=>rw[if_pos N];exact hm r l h
 .cases h
def Mp.oU{b:Nat}(h:m.upto b r=D l):r<b/\m r=D l:=by
 unfold Mp.upto at h;split at h
 .next W=>exact⟨W,h⟩
 .cases h
def Mp.FD{b:Nat}(h:m r=D l)(y:r<b):m.upto b r=D l:=by
 unfold Mp.upto;rw[if_pos y];exact h
def FE(h:gH (fJ es)=f):False:=by
 have:=aF h;unfold fJ at this;have e:aZ 18446744073709551616 es=18446744073709551616+es:=rfl;omega
mutual
theorem VR.restrict(hm:Mp.le m1 m2):∀{x v v':Z},VR m2 x v'->VR m1 x v->VR m1 x v'
 |_,_,_,.sc v h,_=>.sc v h
 |_,_,_,.top v,_=>.top v
 |_,_,_,.ptr r off l h hl,g=>by
  obtain⟨l1,W,J,_,_⟩:=g.tV;have:=hm _ _ W;simp only at this W;rw[h]at this;cases this;exact .ptr r off l W hl
 |_,_,_,.slice r off n cp l h hl hk hn,g=>by
  cases g with
  |sc _ hs=>simp[Ae.nE,eZ]at hs
  |slice _ _ _ _ l1 W _ _ _=>
   have:=hm _ _ W;rw[h]at this;cases this;exact .slice r off n cp l W hl hk hn
  |sO=>exact(FE hk).elim
  |wz=>exact .wz _ _
  |um=>exact(FE hk).elim
 |_,_,_,.sO r off n es cc l h hl he ht hc hN,g=>by
  generalize Jy:fJ es=cu at g;cases g with
  |sc _ hs=>simp[Ae.nE,eZ]at hs
  |slice _ _ _ _ l1 W _ hk _=>subst Jy;exact(FE hk).elim
  |sO _ _ _ es1 _ l1 W _ _ _ _ _=>
   have:=hm _ _ W;rw[h]at this;cases this;rw[<-Jy];exact .sO r off n es cc l W hl he ht hc hN
  |wz=>unfold fJ at Jy;have e:aZ 18446744073709551616 es=18446744073709551616+es:=rfl;omega
  |um _ _ es1 _ l1 W _ _ _=>
   have:=hm _ _ W;rw[h]at this;cases this;rw[<-Jy];exact .sO r off _ es cc l W hl he ht hc hN
 |_,_,_,.wz a a',_=>.wz a a'
 |_,_,_,.um r off es a' l h hl he hN,g=>by
  generalize Jy:fJ es=cu at g;cases g with
  |sc _ hs=>simp[Ae.nE,eZ]at hs
  |slice _ _ _ _ l1 W _ hk _=>subst Jy;exact(FE hk).elim
  |sO _ _ _ es1 _ l1 W _ _ _ _ _=>
   have:=hm _ _ W;rw[h]at this;cases this;rw[<-Jy];exact .um r off es a' l W hl he hN
  |wz=>unfold fJ at Jy;have e:aZ 18446744073709551616 es=18446744073709551616+es:=rfl;omega
  |um _ _ es1 _ l1 W _ _ _=>
   have:=hm _ _ W;rw[h]at this;cases this;rw[<-Jy];exact .um r off es a' l W hl he hN
 |_,_,_,.map r l h,g=>by
  obtain⟨l1,W,_⟩:=g.of_map;have:=hm _ _ W;rw[h]at this;cases this;exact .map r l W
 |_,_,_,.func ay x hr x' y' E hy,g=>by
  obtain⟨_,_,rfl,W,J⟩:=g.ZB;exact .func ay x hr x' y' (k_.restrict hm E W)<|k_.restrict hm hy J
 |_,_,_,.iface t v v' h,g=>by
  obtain⟨_,rfl,W⟩:=g.PX;exact .iface t v v'<|VR.restrict hm h W
 |_,_,_,.agg x x' h,g=>by
  obtain⟨_,rfl,W⟩:=g.xw;exact .agg x x'<|k_.restrict hm h W
 |_,_,_,.tuple x x' h,g=>by
  obtain⟨_,rfl,W⟩:=g.Oh;exact .tuple x x'<|k_.restrict hm h W
theorem k_.restrict(hm:Mp.le m1 m2):∀{x v v':C Z},k_ m2 x v'->k_ m1 x v->k_ m1 x v'
 |_,_,_,.nil,_=>.nil
 |_,_,_,.cons v v' x x' h E,g=>by
  cases g with
  |cons _ _ _ _ g1 g2=>exact .cons v v' x x' (VR.restrict hm h g1)<|k_.restrict hm E g2
end
def DX.restrict(hm:Mp.le m1 m2){x:C (Z×Z)}{v v':C MapEntry}(h:DX m2 x v')(g:DX m1 x v):DX m1 x v':=by
 induction h generalizing v with
 |nil=>exact .nil
 |cons k x e l l' hk hv _ ih=>
  cases g with
  |cons _ _ _ _ _ gk gv gl=>exact .cons k x e l l' (VR.restrict hm hk gk) (VR.restrict hm hv gv)<|ih gl
def Ko:lI->lI
 |.row az=>.row ⟨az.ty,.nil,az.n,az.kY,az.fz⟩
 |o=>o
def lM:lI->Nat->aB Z
 |.row az,i=>if i<az.n then D (az.cells.get top i)else Q
 |_,_=>Q
def mV(m:Mp)(l:Loc):lI->Obj->Prop
 |.dead,_=>True
 |.row az,.cells M ty fr=>(ty=az.ty/\l.base=0)/\az.n=l.n/\M.size=l.tot/\l.lo<=az.n/\l.base+(az.n-l.lo)<=l.tot/\(az.kY=aC->fr.2<=l.base+(az.fz-l.lo))
 |.map es,.map zV _=>DX m es zV.toList
 |.MM s p,.stringIter s' p'=>s'=s/\p'=p/\l.base=0
 |_,_=>False
def xC(m:Mp)(l:Loc)(i:Nat)(x:Z)(ob:Obj):Prop:=∃M ty fr v,ob=.cells M ty fr/\M[l.base+(i-l.lo)]?=D v/\VR m x v
theorem mV.Tn{o:lI}(h:mV m l o ob)(e:Ko o=Ko o'):mV m l o' ob:=by
 cases o<;>cases o'<;>simp only[Ko]at e<;>first|(cases e;exact h)|cases e|skip
 case row.row az R'=>
  obtain⟨a1,a2,a3,a4,a5⟩:=az;obtain⟨b1,b2,b3,b4,b5⟩:=R';simp only[lI.row.injEq,Row.mk.injEq]at e;obtain⟨rfl,_,rfl,rfl,rfl⟩:=e;cases ob<;>first|exact h|exact h.elim
theorem uY.split{o:lI}(h:uY m l o ob):mV m l o ob/\∀i x,lM o i=D x->l.lo<=i->xC m l i x ob:=by
 cases o with
 |row az=>
  cases ob<;>first|exact h.elim|skip
  case cells M ty fr=>
   obtain⟨W,J,h3,h4,h5,h6,h7⟩:=h;refine⟨⟨W,J,h3,h4,h5,h6⟩,?_⟩;intro i x E hi;simp only[lM]at E;split at E
   .next hn=>
    cases E;obtain⟨v,h8,h9⟩:=h7 i hi hn;exact⟨M,ty,fr,v,O,h8,h9⟩
   .cases E
 |dead=>exact⟨trivial,λi x E=>by cases E⟩
 |map es=>cases ob<;>first|exact h.elim|exact⟨h,λi x E=>by cases E⟩
 |MM s p=>cases ob<;>first|exact h.elim|exact⟨h,λi x E=>by cases E⟩
theorem uY.join{o:lI}(h:mV m l o ob)(hc:∀i x,lM o i=D x->l.lo<=i->xC m l i x ob):uY m l o ob:=by
 cases o with
 |row az=>
  cases ob<;>first|exact h.elim|skip
  case cells M ty fr=>
   obtain⟨W,J,h3,h4,h5,h6⟩:=h;refine⟨W,J,h3,h4,h5,h6,?_⟩;intro i hi hn;obtain⟨cs',ty',fr',v,e,h8,h9⟩:=hc i _ (by simp only[lM];rw[if_pos hn]) hi;cases e;exact⟨v,h8,h9⟩
 |dead=>trivial
 |map es=>cases ob<;>first|exact h.elim|exact h
 |MM s p=>cases ob<;>first|exact h.elim|exact h
theorem mV.mono(hm:Mp.le m m'){o:lI}(h:mV m l o ob):mV m' l o ob:=by
 cases o<;>cases ob<;>first|exact h|exact DX.mono hm h
theorem mV.restrict(hm:Mp.le m1 m2){o:lI}(h:mV m2 l o Ka)(g:mV m1 l o ob):mV m1 l o Ka:=by
 cases o with
 |dead=>trivial
 |row az=>cases Ka<;>exact h
 |MM s p=>cases Ka<;>exact h
 |map es=>
  cases Ka<;>first|exact h.elim|skip
  cases ob<;>first|exact g.elim|skip
  exact DX.restrict hm h g
def xC.mono(hm:Mp.le m m'){x:Z}(h:xC m l i x ob):xC m' l i x ob:=by
 obtain⟨M,ty,fr,v,W,J,h3⟩:=h;exact⟨M,ty,fr,v,W,J,h3.mono hm⟩
def xC.restrict(hm:Mp.le m1 m2){x:Z}(h:xC m2 l i x Ka)(g:xC m1 l i x ob):xC m1 l i x Ka:=by
 obtain⟨M,ty,fr,v,W,J,h3⟩:=h;obtain⟨_,_,_,_,_,_,g3⟩:=g;exact⟨M,ty,fr,v,W,J,VR.restrict hm h3 g3⟩
theorem Z'{o:lI}(e:Ko o=Ko o')(h:o≠.dead):o'≠.dead:=by
 intro e';subst e';cases o<;>first|exact h O|cases e
def CR(m i:Nat):gZ m i=m.testBit i:=by
 unfold gZ;rw[oP];have e1:Nat.shiftRight m i=m>>>i:=rfl;rw[e1,si];have e2:Nat.mod (m/2^i) 2=(m/2^i) %2:=rfl;rw[e2,gm,decide_eq_true_iff];exact⟨aW,λh=>by rw[h];rfl⟩
def XM(e i:Nat):gZ (Nat.shiftLeft 1 e) i=f<->i=e:=by
 rw[CR];have e1:Nat.shiftLeft 1 e=1<<<e:=rfl;rw[e1,Nat.one_shiftLeft,Nat.testBit_two_pow];simp[eq_comm]
def Nf(a b i:Nat):gZ (Nat.lor a b) i=(gZ a i||gZ b i):=by
 rw[CR,CR,CR];exact Nat.testBit_or a b i
def Tp(i:Nat):gZ 0 i=aC:=by rw[CR];simp
def Tq{acc:C Nat}:∀{l:C Edge}{i:Nat},gZ (zl acc n l) i=f->∃e,e∈l/\fQ .any e=f/\(i=e.on\/gZ ((nth acc<|n-1-e.on).getD 0) i=f):=by
 intro l
 induction l with
 |nil=>intro i h;rw[show zl acc n []=0 from O,Tp]at h;cases h
 |cons e l ih=>
  intro i h;replace h:gZ (bV (fQ .any e) (Nat.lor (Nat.lor (Nat.shiftLeft 1 e.on)<|(nth acc<|dJ (dJ n 1) e.on).getD 0)<|zl acc n l)<|zl acc n l) i=f:=h;cases hb:fQ .any e with
  |false=>
   rw[hb]at h;obtain⟨e',W,J⟩:=ih h;exact⟨e',bH _ W,J⟩
  |true=>
   rw[hb]at h;replace h:gZ (Nat.lor (Nat.lor (Nat.shiftLeft 1 e.on)<|(nth acc<|dJ (dJ n 1) e.on).getD 0)<|zl acc n l) i=f:=h;rw[Nf,Nf,jY,jY]at h;rcases h with(h|h)|h
   .exact⟨e,aN ..,hb,.inl<|(XM _ _).1 h⟩
   .exact⟨e,aN ..,hb,.inr h⟩
   .obtain⟨e',W,J⟩:=ih h;exact⟨e',bH _ W,J⟩
def Ai(ops:Array Oper)(j:Nat):Nat:=(tT ops.toList [] 0).getD (ops.size-1-j) 0
def Ng:∀(l:C Oper)(acc:C Nat)(n:Nat),(tT l acc n).length=l.length+acc.length:=by
 intro l
 induction l with
 |nil=>intro acc n;simp[show tT [] acc n=acc from O]
 |cons o l ih=>
  intro acc n;rw[show tT (o::l) acc n=tT l (zl acc n o.after.toList::acc) (n+1)from O,ih];simp;omega
def Kq:∀(l:C Oper)(acc:C Nat)(n k:Nat),l.length<=k->(tT l acc n).getD k 0=acc.getD (k-l.length) 0:=by
 intro l
 induction l with
 |nil=>intro acc n k _;rfl
 |cons o l ih=>
  intro acc n k hk;rw[show tT (o::l) acc n=tT l (zl acc n o.after.toList::acc) (n+1)from O,ih _ _ _ (by simp at hk;omega)];simp only[cK]at hk|-;rw[show k-l.length=(k-(l.length+1))+1 from by omega];rfl
def Z_:∀(l:C Oper)(acc:C Nat)(n j:Nat)(o:Oper),acc.length=n->l[j]?=D o->
 ∃acc',acc'.length=n+j/\(tT l acc n).getD (l.length-1-j) 0=zl acc' (n+j) o.after.toList/\∀k,k<n+j->acc'.getD (n+j-1-k) 0=(tT l acc n).getD (n+l.length-1-k) 0:=by
 intro l
 induction l with
 |nil=>intro acc n j o _ h;simp at h
 |cons p l ih=>
  intro acc n j o hn h;rw[show tT (p::l) acc n=tT l (zl acc n p.after.toList::acc) (n+1)from O];cases j with
  |zero=>
   simp at h;subst h;refine⟨acc,by simpa using hn,?_,?_⟩
   .rw[Kq _ _ _ _ (by simp)];simp
   .intro k hk;rw[Kq _ _ _ _ (by simp;omega)];simp only[cK,dH];rw[show n+(l.length+1)-1-k-l.length=(n-1-k)+1 from by omega];rfl
  |succ j=>
   obtain⟨acc',W,J,h3⟩:=ih (zl acc n p.after.toList::acc) (n+1) j o (by simp[hn]) (by simpa using h)
   have hj:j<l.length:=by
    have:l[j]?=D o:=by simpa using h
    exact(bE.1 this).1
   refine⟨acc',N,?_,?_⟩
   .simp only[cK];rw[show l.length+1-1-(j+1)=l.length-1-j from by omega,J,show n+1+j=n+(j+1)from by omega]
   .intro k hk;have:=h3 k N;rw[show n+1+j-1-k=n+(j+1)-1-k from by omega,show n+1+l.length-1-k=n+(l.length+1)-1-k from by omega]at this;exact this
def CS:∀(l:C Oper)(n j:Nat)(o:Oper),xm l n=f->l[j]?=D o->∀e,e∈o.after.toList->fQ .any e=f->e.on<n+j:=by
 intro l
 induction l with
 |nil=>intro n j o _ h;simp at h
 |cons p l ih=>
  intro n j o hb h e he hbe;replace hb:bV (all' (λe=>!(fQ .any e)||aD (bW e.on) n) p.after.toList) (xm l<|bW n) aC=f:=hb;cases ha:all' (λe=>!(fQ .any e)||aD (bW e.on) n) p.after.toList with
  |false=>rw[ha]at hb;cases hb
  |true=>
   rw[ha]at hb;replace hb:xm l (bW n)=f:=hb;cases j with
   |zero=>
    simp at h;subst h;rw[all_eq,eG]at ha;have:=ha e he;rw[hbe]at this;simp only[wZ,qR]at this;have:=aF this;omega
   |succ j=>
    have:=ih (n+1) j o hb (by simpa using h) e he hbe;omega
def mM(hb:xm ops.toList 0=f)(hD:∀j o,ops[j]?=D o->ag j->∀e,e∈o.after.toList->fQ .any e=f->ag e.on):
 ∀(j:Nat)(o:Oper),ops[j]?=D o->(∀e,e∈o.after.toList->fQ .any e=f->ag e.on)->∀i,gZ (Ai ops j) i=f->ag i:=by
 intro j
 induction j using Nat.strongRecOn with
 |_ j ih=>
  intro o ho hall i hi;have hol:ops.toList[j]?=D o:=by rw[eF];exact ho
  obtain⟨acc',W,J,h3⟩:=Z_ ops.toList [] 0 j o O hol;unfold Ai at hi;rw[show ops.size-1-j=ops.toList.length-1-j from by simp,J]at hi;obtain⟨e,he,hbe,hie⟩:=Tq hi;have hlt:=CS _ 0 j o hb hol e he hbe;rcases hie with rfl|hie
  .exact hall e he hbe
  .have hDe:=hall e he hbe;have hjs:j<ops.size:=(dU.1 ho).1;have hoe:ops[e.on]?=D ops[e.on]:=bC N;refine ih e.on N _ hoe (hD e.on _ hoe hDe) i ?_;have h4:=h3 e.on N;unfold Ai;rw[show ops.size-1-e.on=0+ops.toList.length-1-e.on from by simp,<-h4];rw[oL]at hie;rw[bD];exact hie
def OD{ay:α->α->Bool->Bool}{x:α}{m:Nat}:∀{l:C α},ji ay x m l=f->∀i hr,l[i]?=D hr->ay x hr (gZ m<|l.length-1-i)=f:=by
 intro l
 induction l with
 |nil=>intro _ i hr h;simp at h
 |cons z l ih=>
  intro h i hr hy;replace h:bV (ay x z<|gZ m<|len l) (ji ay x m l) aC=f:=h;cases hf:ay x z (gZ m<|len l)with
  |false=>rw[hf]at h;cases h
  |true=>
   rw[hf]at h;cases i with
   |zero=>simp at hy;subst hy;rw[fU]at hf;simpa using hf
   |succ i=>
    have:=ih h i hr (by simpa using hy);simp only[cK];rw[show l.length+1-1-(i+1)=l.length-1-i from by omega];exact this
def Kr{ay:α->α->Bool->Bool}:∀{ms:C Nat}{xs:C α},pairs ay ms xs=f->∀i j x hr,i<j->xs[i]?=D x->xs[j]?=D hr->i<ms.length->
 ay x hr (gZ (ms.getD i 0)<|xs.length-1-j)=f:=by
 intro ms
 induction ms with
 |nil=>intro xs _ i j x hr _ _ _ h;simp at h
 |cons m ms ih=>
  intro xs h i j x hr hij E hy hi;cases xs with
  |nil=>simp at E
  |cons z xs=>
   replace h:bV (ji ay z m xs) (pairs ay ms xs) aC=f:=h;cases y:ji ay z m xs with
   |false=>rw[y]at h;cases h
   |true=>
    rw[y]at h;cases j with
    |zero=>omega
    |succ j=>
     simp only[cK];rw[show xs.length+1-1-(j+1)=xs.length-1-j from by omega];cases i with
     |zero=>
      simp at E;subst E;exact OD y j hr (by simpa using hy)
     |succ i=>exact ih h i j x hr N (by simpa using E) (by simpa using hy) (by simpa using hi)
section mem
variable{P:aU}
def Tt{SH:Prop}(h:o.wp P a w next au)(hn:∀a w,next a w->SH)(hq:∀e a w,au e a w->SH):SH:=by
 unfold Oper.wp at h;generalize(execOp a.eval o).run P w=r at h;cases r with
 |ok n w'=>
  cases n with
  |value v=>exact hn _ _ h
  |skip=>exact hn _ _ h
  |defer d=>exact hn _ _ h
  |enter ay args=>
   obtain⟨e,w2,fr,hR,_⟩:=h [];cases e with
   |returned v=>exact hn _ _ hR
   |panicked ch=>exact hq _ _ _ hR
   |outgrown=>obtain⟨a1,w1,W⟩:=hR;exact hq _ _ _ W
  |row row args=>
   obtain⟨v,w2,hR,_⟩:=h default [];exact hn _ _ hR
  |_=>exact h.elim
 |halt x w'=>
  cases x with
  |panic v=>exact hq _ _ _ h
  |_=>exact h.elim
def Ks{cf:kT}(hcf:FC P n cf)(rh:RH m s.H w)(gl:Gl n m)(y:yL o.op P cf s=.mem v T)(e:Nb m s a.eval o.op.operands.toList)(K:∀m' v' w',VR m' v v'->RH m' T w'->Ex m m' s.H T w w'->next (a.put o.dst v') w'):o.wp P a w next au:=by
 unfold Oper.wp;refine Vl rh y e ?_ K;intro c hop hb;rw[hop]at y;replace y:wU c P cf s=.mem v T:=y;obtain⟨callee,⟨args⟩,ats⟩:=c;cases callee with
 |value g=>exact Qh hcf gl rh hop y e K
 |invoke r name=>exact Qi hcf gl rh hop y e K
 |builtin b=>cases hb
def Nb.g_(e:Nb m s ρ L):Nb m (g_ s) ρ L:=⟨λx E=>by have:=e.all x E;cases x<;>exact this⟩
inductive Kt(P:aU)(cf:kT)(ops:Array Oper)(o:Oper)(s:St):St->Cl->Prop where
 |skip (hw:qK ops s o.guard=D aC):Kt P cf ops o s (jk s o.dst undef s.H) (cl 0)
 |Cm (v:Z) (hw:qK ops s o.guard=D f) (y:yL o.op P cf (g_ s)=.Cm v):Kt P cf ops o s (jk s o.dst v s.H) (cl 0)
 |mem (v:Z) (T:R) (hw:qK ops s o.guard=D f) (y:yL o.op P cf (g_ s)=.mem v T):
  Kt P cf ops o s (jk s o.dst v ⟨T.v_,T.next,nY s.H.low T.low⟩) (su P o.op s T)
def aaa{cf:kT}{c:Cl}(h:kZ P cf ops o s=D (s1,c)):Kt P cf ops o s s1 c:=by
 obtain⟨b,hb,h⟩:=aJ h;cases b with
 |false=>
  replace h:D (jk s o.dst undef s.H,cl 0)=D (s1,c):=h;cases h;exact .skip hb
 |true=>
  replace h:H_ P o s (yL o.op P cf<|g_ s)=D (s1,c):=h;cases y:yL o.op P cf (g_ s)with
  |fail=>rw[y]at h;cases h
  |Cm v=>
   rw[y]at h;replace h:D (jk s o.dst v s.H,cl 0)=D (s1,c):=h;cases h;exact .Cm v hb y
  |mem v T=>
   rw[y]at h;replace h:D (jk s o.dst v ⟨T.v_,T.next,nY s.H.low T.low⟩,su P o.op s T)=D (s1,c):=h;cases h;exact .mem v T hb y
def TF(P:aU)(cf:kT)(ops:Array Oper)(o:Oper)(s:St):Prop:=∀v T,yL o.op P cf (g_ s)=.mem v T->qK ops s o.guard=D f->s.H.next<=T.next/\∀r,r<s.H.next->r<T.low->T.obj r=s.H.obj r
def RH.low(rh:RH m H w)(k:Nat):RH m ⟨H.v_,H.next,k⟩ w:=⟨rh.dom,rh.ok,rh.sep⟩
def trace{cf:kT}(hcf:FC P n cf):
 ∀(l:C Oper)(s s1:St)(acc cls:C Cl)(m:Mp)(a:Act)(w:bY),(∀o,o∈l->xA n nt o=f)->s.nt=nt->RH m s.H w->FR m s a->Gl n m->
 jh P cf ops l s acc=D (s1,cls)->
 ∃(S:Nat->St)(ak:Nat->Cl),S 0=s/\S l.length=s1/\cls.length=l.length+acc.length/\(∀j,j<l.length->cls[l.length-1-j]?=D (ak j))/\(∀k,cls[l.length+k]?=acc[k]?)/\
  ∀j o,l[j]?=D o->Kt P cf ops o (S j) (S<|j+1) (ak j)/\TF P cf ops o (S j)/\(S j).nt=nt:=by
 intro l
 induction l with
 |nil=>
  intro s s1 acc cls m a w _ hnt _ _ _ h;cases h;exact⟨λ_=>s,λ_=>cl 0,rfl,rfl,by simp,by simp,by simp,by simp⟩
 |cons o l ih=>
  intro s s1 acc cls m a w hall hnt rh ay gl h;replace h:(aL (kZ P cf ops o s) λq=>jh P cf ops l q.1<|q.2::acc)=D (s1,cls):=h;obtain⟨q,hq,h⟩:=aJ h;obtain⟨s2,c⟩:=q;have hst:=aaa hq;have ho:=hall o (by simp);unfold xA at ho;simp only[bg]at ho
  have key:(∃m' a' w',RH m' s2.H w'/\FR m' s2 a'/\Gl n m')/\TF P cf ops o s/\s2.nt=nt:=by
   cases hst with
   |skip hw=>
    refine⟨⟨m,a.put o.dst undef,w,by rw[lF];exact rh,ay.put (by rw[hnt];exact ho.2)<|.tuple [] [] .nil,gl⟩,?_,by rw[yP];exact hnt⟩;intro v T _ hw';rw[hw]at hw';cases hw'
   |Cm v hw y=>
    have e:=(ay.ev gl ho.1).g_;obtain⟨v',W,J⟩:=Oz y e λ_=>rfl;refine⟨⟨m,a.put o.dst v',w,by rw[lF];exact rh,ay.put (by rw[hnt];exact ho.2) W,gl⟩,?_,by rw[yP];exact hnt⟩;intro v1 T hr' _;rw[y]at hr';cases hr'
   |mem v T hw y=>
    have e:=(ay.ev gl ho.1).g_
    have E:o.wp P a w (λa' w'=>∃m',(RH m' (jk s o.dst v ⟨T.v_,T.next,nY s.H.low T.low⟩).H w'/\FR m' (jk s o.dst v ⟨T.v_,T.next,nY s.H.low T.low⟩) a'/\Gl n m')/\
     (s.H.next<=T.next/\∀r,r<s.H.next->r<T.low->T.obj r=s.H.obj r)) (λ_ _ _=>False):=by
     refine Ks hcf (s:=g_ s) (rh.low _) gl y e ?_;intro m' v' w' W J h3;exact⟨m',⟨by rw[lF];exact J.low _,(ay.mono h3.le).put (by rw[hnt];exact ho.2) W,gl.mono h3.le⟩,h3.next,h3.v_⟩
    have:=Tt (SH:=(∃m' a' w',RH m' (jk s o.dst v ⟨T.v_,T.next,nY s.H.low T.low⟩).H w'/\FR m' (jk s o.dst v ⟨T.v_,T.next,nY s.H.low T.low⟩) a'/\Gl n m')/\
     (s.H.next<=T.next/\∀r,r<s.H.next->r<T.low->T.obj r=s.H.obj r)) E
     (λa' w' ⟨m',W,J⟩=>⟨⟨m',a',w',W⟩,J⟩) (λ_ _ _ h=>h.elim)
    refine⟨this.1,?_,by rw[yP];exact hnt⟩;intro v1 H1 hr' _;rw[y]at hr';cases hr';exact this.2
  obtain⟨⟨m',a',w',rh',f',gl'⟩,htf,alA⟩:=key;obtain⟨S,ak,e1,e2,e3,e4,e5,e6⟩:=ih s2 s1 (c::acc) cls m' a' w' (λp hp=>hall p<|by simp[hp]) alA rh' f' gl' h;refine⟨λk=>match k with|0=>s|k+1=>S k,λk=>match k with|0=>c|k+1=>ak k,rfl,e2,by simp at e3|-;omega,?_,?_,?_⟩
  .intro j hj;cases j with
   |zero=>
    have:=e5 0;simpa using this
   |succ j=>
    simp only[cK]at hj|-;rw[show l.length+1-1-(j+1)=l.length-1-j from by omega];exact e4 j N
  .intro k;have:=e5<|k+1;simp only[cK];rw[show l.length+1+k=l.length+(k+1)from by omega,this];rfl
  .intro j p hp;cases j with
   |zero=>
    simp at hp;subst hp;exact⟨by simpa [e1]using hst,htf,hnt⟩
   |succ j=>exact e6 j p (by simpa using hp)
theorem aab{o:Op}:(su P o s T).k<=5:=by
 unfold su;cases Bq o with
 |none=>
  show(bV (aD s.H.next T.low) (bV (zT o) (cl 5)<|zU P o s) ⟨2,0,0,0,s.H,T⟩:Cl).k<=5;cases aD s.H.next T.low with
  |false=>exact aF O
  |true=>
   cases zT o with
   |true=>exact aF O
   |false=>
    show(zU P o s).k<=5;unfold zU;cases h:(aL (Gz o) λp=>aL (qC<|ev s p.2) λa=>aL (Za P p.1) λl=>D<|Cl.mk 4 a.block a.off (l.getD 1) hh0 hh0)with
    |none=>exact aF O
    |some q=>
     obtain⟨p,hp,h⟩:=aJ h;obtain⟨a,ha,h⟩:=aJ h;obtain⟨l,hl,h⟩:=aJ h;cases h;exact aF O
 |some p=>
  show(@aM Addr (λ_=>Cl) ⟨2,0,0,0,s.H,T⟩ (λa=>⟨3,a.block,a.off,len<|bK<|ev s p.2,hh0,hh0⟩) (qC<|ev s p.1):Cl).k<=5;cases qC (ev s p.1)<;>exact aF O
def XN(h:o9 ops=f):xm ops.toList 0=f/\∀i j oi oj,i<j->ops[i]?=D oi->ops[j]?=D oj->gZ (Ai ops j) i=f\/oi.apart ops oj=f:=by
 unfold o9 at h;rw[bg]at h;refine⟨h.1,λi j oi oj hij hi hj=>?_⟩;have hjs:j<ops.size:=(dU.1 hj).1
 have hget:∀k o,ops[k]?=D o->ops.toList.reverse[ops.size-1-k]?=D o:=by
  intro k o hk;have hks:k<ops.size:=(dU.1 hk).1;rw[List.getElem?_reverse (by simp;omega)];simp only[oI];rw[show ops.size-1-(ops.size-1-k)=k from by omega,eF];exact hk
 have:=Kr h.2 (ops.size-1-j) (ops.size-1-i) oj oi N (hget j oj hj) (hget i oi hi) (by rw[Ng];simp;omega);simp only[List.length_reverse,oI]at this;rw[show ops.size-1-(ops.size-1-i)=i from by omega]at this;simpa [Ai]using this
def aac(h:jT ops cls=f)(hl:cls.length=ops.size)(hC:∀j,j<ops.size->cls[ops.size-1-j]?=D (ak j))(hk:∀j,j<ops.size->(ak j).k<=5):
 ∀i j,i<j->j<ops.size->fH (ak j) (ak i) (gZ (Ai ops j) i)=f:=by
 intro i j hij hj;unfold jT at h;cases hn:noTwo cls with
 |false=>
  rw[hn]at h;have:=Kr (ay:=fH) h (ops.size-1-j) (ops.size-1-i) (ak j) (ak i) N (hC j hj) (hC i N) (by rw[Ng];simp;omega);rw[hl,show ops.size-1-(ops.size-1-i)=i from by omega]at this;exact this
 |true=>
  have hno:∀k,k<ops.size->(ak k).k≠2/\(ak k).k≠3:=by
   intro k hk';unfold noTwo at hn;rw[all_eq,eG]at hn;have:=hn (ak k)<|aS<|hC k hk';simp only[tC,Bool.or_eq_false_iff]at this;exact⟨λe=>by rw[e]at this;exact absurd this.1<|by decide,λe=>by rw[e]at this;exact absurd this.2<|by decide⟩
  have W:=hno i N;have J:=hno j hj;have h3:=hk i N;have h4:=hk j hj;generalize ak i=ci at W h3|-;generalize ak j=cj at J h4|-;obtain⟨ki,_,_,_,_,_⟩:=ci;obtain⟨kj,_,_,_,_,_⟩:=cj;simp only at W J h3 h4;have e1:ki=0\/ki=1\/ki=4\/ki=5:=by omega
  have e2:kj=0\/kj=1\/kj=4\/kj=5:=by omega
  rcases e1 with rfl|rfl|rfl|rfl<;>rcases e2 with rfl|rfl|rfl|rfl<;>rfl
def OE(h:fH hr x b=f)(E:x.k=1\/x.k=2)(hy:hr.k=1\/hr.k=2)(J:x.k=2\/hr.k=2):b=f:=by
 obtain⟨kx,_,_,_,_,_⟩:=x;obtain⟨ky,_,_,_,_,_⟩:=hr;simp only at E hy J;rcases E with rfl|rfl<;>rcases hy with rfl|rfl<;>first|(exfalso;omega)|exact h
def Vp(h:fH hr x b=f)(E:x.k=3)(hy:hr.k=1\/hr.k=2):False:=by
 obtain⟨kx,_,_,_,_,_⟩:=x;obtain⟨ky,_,_,_,_,_⟩:=hr;simp only at E hy;subst E;rcases hy with rfl|rfl<;>(cases b<;>exact absurd (show aC=f from h)<|by simp)
def Vq(h:fH hr x b=f)(E:x.k=1\/x.k=2)(hy:hr.k=3):b=f:=by
 obtain⟨kx,_,_,_,_,_⟩:=x;obtain⟨ky,_,_,_,_,_⟩:=hr;simp only at E hy;subst hy;rcases E with rfl|rfl<;>(cases b<;>first|rfl|exact h)
def aad(h:fH hr x b=f)(E:x.k=3)(hy:hr.k=3):b=f\/yB x hr=f:=by
 obtain⟨kx,_,_,_,_,_⟩:=x;obtain⟨ky,_,_,_,_,_⟩:=hr;simp only at E hy;subst E hy;cases b with
 |true=>exact .inl O
 |false=>exact .inr h
def ag7(h:fH hr x b=f)(E:x.k=4)(hy:hr.k=3):b=f\/yB x hr=f:=by
 obtain⟨kx,_,_,_,_,_⟩:=x;obtain⟨ky,_,_,_,_,_⟩:=hr;simp only at E hy;subst E hy;cases b with
 |true=>exact .inl O
 |false=>exact .inr h
def ag8(h:fH hr x b=f)(E:x.k=3)(hy:hr.k=4):b=f\/yB x hr=f:=by
 obtain⟨kx,_,_,_,_,_⟩:=x;obtain⟨ky,_,_,_,_,_⟩:=hr;simp only at E hy;subst E hy;cases b with
 |true=>exact .inl O
 |false=>exact .inr h
def ag9(h:fH hr x b=f)(E:x.k=4)(hy:hr.k=2):b=f\/mY hr x=f:=by
 obtain⟨kx,_,_,_,_,_⟩:=x;obtain⟨ky,_,_,_,_,_⟩:=hr;simp only at E hy;subst E hy;cases b with
 |true=>exact .inl O
 |false=>exact .inr h
def aha(h:fH hr x b=f)(E:x.k=2)(hy:hr.k=4):b=f\/mY x hr=f:=by
 obtain⟨kx,_,_,_,_,_⟩:=x;obtain⟨ky,_,_,_,_,_⟩:=hr;simp only at E hy;subst E hy;cases b with
 |true=>exact .inl O
 |false=>exact .inr h
end mem
section cls
variable{P:aU}
def OG{o:Op}:
 (∃p a,Bq o=D p/\qC (ev s p.1)=D a/\su P o s T=⟨3,a.block,a.off,len<|bK<|ev s p.2,hh0,hh0⟩)\/
 (su P o s T=⟨2,0,0,0,s.H,T⟩)\/
 (s.H.next<=T.low/\((zT o=f/\su P o s T=cl 5)\/su P o s T=cl 1\/
   ∃p a l,Gz o=D p/\qC (ev s p.2)=D a/\Za P p.1=D l/\su P o s T=⟨4,a.block,a.off,l.getD 1,hh0,hh0⟩)):=by
 have e:su P o s T=@aM (bT×bT) (λ_=>Cl) (bV (aD s.H.next T.low) (bV (zT o) (cl 5)<|zU P o s) ⟨2,0,0,0,s.H,T⟩)
  (λp=>@aM Addr (λ_=>Cl) ⟨2,0,0,0,s.H,T⟩ (λa=>⟨3,a.block,a.off,len<|bK<|ev s p.2,hh0,hh0⟩)<|qC<|ev s p.1) (Bq o):=rfl
 cases hs:Bq o with
 |none=>
  rw[hs]at e;cases hb:aD s.H.next T.low with
  |false=>rw[hb]at e;exact .inr<|.inl e
  |true=>
   rw[hb]at e;refine .inr<|.inr ⟨aF hb,?_⟩;cases hf:zT o with
   |true=>rw[hf]at e;exact .inl ⟨O,e⟩
   |false=>
    rw[hf]at e;replace e:su P o s T=zU P o s:=e;unfold zU at e;cases h:(aL (Gz o) λp=>aL (qC<|ev s p.2) λa=>aL (Za P p.1) λl=>D<|Cl.mk 4 a.block a.off (l.getD 1) hh0 hh0)with
    |none=>rw[h]at e;exact .inr<|.inl e
    |some q=>
     rw[h]at e;obtain⟨p,hp,h⟩:=aJ h;obtain⟨a,ha,h⟩:=aJ h;obtain⟨l,hl,h⟩:=aJ h;cases h;exact .inr<|.inr ⟨p,a,l,hp,ha,hl,e⟩
 |some p=>
  rw[hs]at e;replace e:su P o s T=@aM Addr (λ_=>Cl) ⟨2,0,0,0,s.H,T⟩ (λa=>⟨3,a.block,a.off,len<|bK<|ev s p.2,hh0,hh0⟩) (qC<|ev s p.1):=e;cases ha:qC (ev s p.1)with
  |none=>rw[ha]at e;exact .inr<|.inl e
  |some a=>rw[ha]at e;exact .inl ⟨p,a,O,ha,e⟩
end cls
structure Rg(P:aU)(cf:kT)(ops:Array Oper)(n nt:Nat)(S:Nat->St)(ak:Nat->Cl):Prop where
 step:∀(j:Nat)(o:Oper),ops[j]?=D o->Kt P cf ops o (S j) (S<|j+1) (ak j)
 tf:∀(j:Nat)(o:Oper),ops[j]?=D o->TF P cf ops o (S j)
 nts:∀(j:Nat)(o:Oper),ops[j]?=D o->(S j).nt=nt
 ok:∀(j:Nat)(o:Oper),ops[j]?=D o->xA n nt o=f
 back:xm ops.toList 0=f
 stat:∀(i j:Nat)(oi oj:Oper),i<j->ops[i]?=D oi->ops[j]?=D oj->gZ (Ai ops j) i=f\/oi.apart ops oj=f
 dyn:∀i j,i<j->j<ops.size->fH (ak j) (ak i) (gZ (Ai ops j) i)=f
def Closed(ops:Array Oper)(ag:Nat->Prop):Prop:=∀(j:Nat)(o:Oper),ops[j]?=D o->ag j->∀e,e∈o.after.toList->fQ .any e=f->ag e.on
def FF(ag:Nat->Prop)(i:Nat)(j:Nat):Prop:=ag j\/j=i
inductive Ct where
 |shape(o:lI)
 |cell(v:aB Z)
def cont:aB Nat->lI->Ct
 |none,o=>.shape<|Ko o
 |some i,o=>.cell<|lM o i
def Rel(κ:aB Nat)(m:Mp)(l:Loc)(c:Ct)(ob:Obj):Prop:=
 match κ,c with
 |none,.shape o=>mV m l o ob
 |some i,.cell (D x)=>l.lo<=i->xC m l i x ob
 |_,_=>True
def Rel.mono(hm:Mp.le m m'){c:Ct}(h:Rel κ m l c ob):Rel κ m' l c ob:=by
 cases κ with
 |none=>cases c with|shape o=>exact mV.mono hm h|cell v=>trivial
 |some i=>cases c with
  |shape o=>trivial
  |cell v=>cases v with|none=>trivial|some x=>exactλhl=>xC.mono hm<|h hl
def Rel.restrict(hm:Mp.le m1 m2){c:Ct}(h:Rel κ m2 l c Ka)(g:Rel κ m1 l c ob):Rel κ m1 l c Ka:=by
 cases κ with
 |none=>cases c with|shape o=>exact mV.restrict hm h g|cell v=>trivial
 |some i=>cases c with
  |shape o=>trivial
  |cell v=>cases v with|none=>trivial|some x=>exactλhl=>xC.restrict hm (h hl)<|g hl
def Vr(o:lI):Ko (Ko o)=Ko o:=by cases o<;>rfl
def Rel.jb{o:lI}(h:uY m l o ob):Rel κ m l (cont κ o) ob:=by
 cases κ with
 |none=>exact(h.split.1).Tn (Vr o).symm
 |some i=>
  show Rel (D i) m l (.cell<|lM o i) ob;cases hc:lM o i with
  |none=>trivial
  |some x=>exactλhl=>h.split.2 i x hc hl
def Rel.aae{o:lI}(h:∀κ,Rel κ m l (cont κ o) ob):uY m l o ob:=by
 refine uY.join ((show mV m l (Ko o) ob from h Q).Tn<|Vr o) ?_;intro i x E hl;have:=h<|D i;rw[show cont (D i) o=.cell (D x)from by show Ct.cell (lM o i)=_;rw[E]]at this;exact this hl
section con
variable{S:Nat->St}
abbrev nx(S:Nat->St)(k:Nat):Nat:=(S k).H.next
abbrev at'(S:Nat->St)(κ:aB Nat)(r k:Nat):Ct:=cont κ<|(S k).H.obj r
def Ec(S:Nat->St)(aa:Nat)(ag:Nat->Prop)(κ:aB Nat)(r k:Nat):Prop:=r<nx S k/\∀j,j<aa->r<nx S j->at' S κ r j≠at' S κ r (j+1)->(ag j<->j<k)
def Ec.afE(mono:∀i j,i<=j->j<=aa->nx S i<=nx S j):∀(d k:Nat),k+d<=aa->Ec S aa ag κ r k->Ec S aa ag κ r (k+d)->at' S κ r k=at' S κ r (k+d):=by
 intro d k hkd W J
 have:∀e,e<=d->at' S κ r k=at' S κ r (k+e):=by
  intro e
  induction e with
  |zero=>intro _;rfl
  |succ e ih=>
   intro he;rw[ih N];apply fO;intro hne;have y:r<nx S (k+e):=aR W.1<|mono _ _ N N;have a1:=W.2 (k+e) N y hne;have a2:=J.2 (k+e) N y hne;have:=a1.1<|a2.2 N;omega
 exact this d<|ax _
def Ec.eq(mono:∀i j,i<=j->j<=aa->nx S i<=nx S j)(hk:k<=aa)(hk':k'<=aa)(W:Ec S aa ag κ r k)(J:Ec S aa ag κ r k'):at' S κ r k=at' S κ r k':=by
 rcases Nat.le_total k k' with h|h
 .have:=Ec.afE mono (k'-k) k N W (by rw[show k+(k'-k)=k' from by omega];exact J)
  rwa [show k+(k'-k)=k' from by omega]at this
 .have:=Ec.afE mono (k-k') k' N J (by rw[show k'+(k-k')=k from by omega];exact W);rw[show k'+(k-k')=k from by omega]at this;exact this.symm
def Ec.less(h:Ec S aa (FF ag i) κ r k)(hi:r<nx S i->at' S κ r i=at' S κ r (i+1)):Ec S aa ag κ r k:=by
 refine⟨h.1,λj hj y hne=>?_⟩;have hji:j≠i:=λe=>hne (by subst e;exact hi y);rw[<-h.2 j hj y hne];exact⟨.inl,λhh=>hh.resolve_right hji⟩
end con
structure MInv(S:Nat->St)(ak:Nat->Cl)(aa:Nat)(m0:Mp)(w0:bY)(ag:Nat->Prop)(m:Mp)(w:bY):Prop where
 dom:∀r l,m r=D l->(m0 r=D l/\r<nx S 0)\/∃i,i<aa/\ag i/\nx S i<=r/\r<nx S (i+1)
 XO:∀r l,m r=D l->∃o,w.heap[l.c]?=D o
 cnt:∀κ r l k o,k<=aa->m r=D l->Ec S aa ag κ r k->w.heap[l.c]?=D o->Rel κ (m.upto<|nx S k) l (at' S κ r k) o
 sep:∀r r' l l' k k',m r=D l->m r'=D l'->l.c=l'.c->k<=aa->k'<=aa->Ec S aa ag Q r k->Ec S aa ag Q r' k'->(S k).H.obj r≠.dead->(S k').H.obj r'≠.dead->r=r'
 clash:∀r r' l l' j,m r=D l->m r'=D l'->l.c=l'.c->j<aa->¬ag j->(ak j).k=2->(r<nx S j<->r'<nx S j)
 hid:∀j r,j<aa->ag j->r<nx S j->m r=Q->(S<|j+1).H.obj r=(S j).H.obj r
 le:Mp.le m0 m
 fresh:∀r l,m r=D l->m0 r=Q->l.c<w0.heap.size->∃r0 l0,m0 r0=D l0/\l0.c=l.c/\(S aa).H.low<=r0
 os:w.os=w0.os
 tape:w.tape=w0.tape
 output:w.output=w0.output
 size:w0.heap.size<=w.heap.size
 keep:∀c,c<w0.heap.size->(∀r l,m0 r=D l->l.c=c->r<(S aa).H.low)->w.heap[c]?=w0.heap[c]?
section u
variable{P:aU}{cf:kT}{S:Nat->St}
def Rg.Qj(g:Rg P cf ops n nt S ak)(hj:j<ops.size):nx S j<=nx S (j+1):=by
 have ho:ops[j]?=D ops[j]:=bC hj;have hs:=g.step j _ ho;have htf:=g.tf j _ ho;show(S j).H.next<=(S<|j+1).H.next
 generalize S (j+1)=s1 at hs;generalize ak j=c at hs;cases hs with
 |skip hw=>rw[lF];exact ax _
 |Cm v hw y=>rw[lF];exact ax _
 |mem v T hw y=>rw[lF];exact(htf v T y hw).1
def Rg.mono(g:Rg P cf ops n nt S ak):∀i j,i<=j->j<=ops.size->nx S i<=nx S j:=by
 intro i j hij hj;obtain⟨d,rfl⟩:=tH hij;clear hij
 induction d with
 |zero=>exact ax _
 |succ d ih=>exact a_ (ih N)<|g.Qj N
def DN(a b:Nat):nY a b<=a/\nY a b<=b:=by
 unfold nY;cases h:aD a b with
 |true=>exact⟨ax _,aF h⟩
 |false=>
  have:¬a<=b:=λh'=>by rw[aI h']at h;cases h
  exact⟨by show b<=a;omega,ax _⟩
def Rg.alB(g:Rg P cf ops n nt S ak)(hj:j<ops.size):(S<|j+1).H.low<=(S j).H.low:=by
 have hs:=g.step j _<|bC hj;generalize S (j+1)=s1 at hs;generalize ak j=c at hs;cases hs with
 |skip hw=>rw[lF];exact ax _
 |Cm v hw y=>rw[lF];exact ax _
 |mem v T hw y=>rw[lF];exact(DN _ _).1
def Rg.low(g:Rg P cf ops n nt S ak):∀i j,i<=j->j<=ops.size->(S j).H.low<=(S i).H.low:=by
 intro i j hij hj;obtain⟨d,rfl⟩:=tH hij;clear hij
 induction d with
 |zero=>exact ax _
 |succ d ih=>exact a_ (g.alB (j:=i+d) N)<|ih N
def Rg.same(g:Rg P cf ops n nt S ak)(hj:j<ops.size)(J:(ak j).k≠2)(h3:(ak j).k≠3)(y:r<nx S j):(S<|j+1).H.obj r=(S j).H.obj r:=by
 have ho:ops[j]?=D ops[j]:=bC hj;have hs:=g.step j _ ho;have htf:=g.tf j _ ho;generalize S (j+1)=s1 at hs;generalize hc:ak j=c at hs;rw[hc]at J h3;cases hs with
 |skip hw=>rw[lF]
 |Cm v hw y=>rw[lF]
 |mem v T hw hr'=>
  rw[lF];show T.obj r=_;rcases OG (P:=P) (o:=ops[j].op) (s:=S j) (T:=T)with⟨p,a,_,_,e⟩|e|⟨hlow,_⟩
  .rw[e]at h3;exact absurd O h3
  .rw[e]at J;exact absurd O J
  .exact(htf v T hr' hw).2 r y<|aR y hlow
def Rg.ad9(g:Rg P cf ops n nt S ak)(hj:j<ops.size)(y:r<nx S j)(hl:r<(S ops.size).H.low):(S<|j+1).H.obj r=(S j).H.obj r:=by
 have ho:ops[j]?=D ops[j]:=bC hj;have hs:=g.step j _ ho;have htf:=g.tf j _ ho;have hlow:=g.low (j+1) ops.size N<|ax _;generalize S (j+1)=s1 at hs hlow;generalize ak j=c at hs;cases hs with
 |skip hw=>rw[lF]
 |Cm v hw y=>rw[lF]
 |mem v T hw hr'=>
  rw[lF]at hlow|-;exact(htf v T hr' hw).2 r y<|aR (aR hl hlow) (DN _ _).2
def Rg.turns(g:Rg P cf ops n nt S ak)(hj:j<ops.size)(y:r<nx S j)(hne:at' S κ r j≠at' S κ r (j+1)):(ak j).k=2\/(ak j).k=3:=by
 apply fO;intro h;exact hne (by show cont κ _=cont κ _;rw[g.same hj (λe=>h<|.inl e) (λe=>h<|.inr e) y])
def Rg.Vs(g:Rg P cf ops n nt S ak)(hD:Closed ops ag)(hi:i<ops.size)(Ee:¬ag i)(n_:∀e,e∈ops[i].after.toList->fQ .any e=f->ag e.on)(hc:(ak i).k=1\/(ak i).k=2)(y:r<nx S i):Ec S ops.size ag κ r i:=by
 refine⟨y,λj hj PI hne=>?_⟩;have hcj:=g.turns hj PI hne;have hoi:ops[i]?=D ops[i]:=bC hi;have hoj:ops[j]?=D ops[j]:=bC hj;rcases kI j i with h|h|h
 .refine⟨λ_=>h,λ_=>?_⟩;have hd:=g.dyn j i h hi;rcases hcj with hcj|hcj
  .exact mM g.back hD i _ hoi n_ j<|OE hd (.inr hcj) hc<|.inl hcj
  .exact(Vp hd hcj hc).elim
 .subst h;exact⟨λh=>absurd h Ee,λh=>absurd h<|qV _⟩
 .refine⟨λLV=>?_,λh'=>by omega⟩;have hd:=g.dyn i j h hj
  have hb:gZ (Ai ops j) i=f:=by
   rcases hcj with hcj|hcj
   .exact OE hd hc (.inr hcj)<|.inr hcj
   .exact Vq hd hc hcj
  exact absurd (mM g.back hD j _ hoj (hD j _ hoj LV) i hb) Ee
def Rg.alC(g:Rg P cf ops n nt S ak)(hD:Closed ops ag)(hi:i<ops.size)(Ee:¬ag i)(n_:∀e,e∈ops[i].after.toList->fQ .any e=f->ag e.on)(hc:(ak i).k=2)(y:r<nx S i):Ec S ops.size (FF ag i) κ r (i+1):=by
 have h0:=g.Vs hD hi Ee n_ (.inr hc) (κ:=κ) y;refine⟨aR y<|g.Qj hi,λj hj PI hne=>?_⟩;have:=h0.2 j hj PI hne;constructor
 .rintro(h|h)
  .have:=this.1 h;omega
  .omega
 .intro h
  by_cases e:j=i
  .exact .inr e
  .exact .inl<|this.2 N
end u
section u
variable{P:aU}{cf:kT}{S:Nat->St}
def MInv.still(ai:MInv S ak ops.size m0 w0 ag m w)(hi:i<ops.size)(hs:∀r,r<nx S i->(S<|i+1).H.obj r=(S i).H.obj r):MInv S ak ops.size m0 w0 (FF ag i) m w where
 dom:=λr l h=>(ai.dom r l h).imp id λ⟨j,W,J,h3⟩=>⟨j,W,.inl J,h3⟩
 XO:=ai.XO
 cnt:=λκ r l k o hk hm hc ho=>ai.cnt κ r l k o hk hm (hc.less λy=>by show cont κ _=cont κ _;rw[hs r y]) ho
 sep:=λr r' l l' k k' W J h3 h4 h5 h6 h7 h8 h9=>ai.sep r r' l l' k k' W J h3 h4 h5 (h6.less λy=>by show cont Q _=cont Q _;rw[hs r y]) (h7.less λy=>by show cont Q _=cont Q _;rw[hs r' y]) h8 h9
 clash:=λr r' l l' j W J h3 h4 h5 h6=>ai.clash r r' l l' j W J h3 h4 (λh=>h5<|.inl h) h6
 hid:=λj r W J h3 h4=>by
  rcases J with J|rfl
  .exact ai.hid j r W J h3 h4
  .exact hs r h3
 le:=ai.le
 fresh:=ai.fresh
 os:=ai.os
 tape:=ai.tape
 output:=ai.output
 size:=ai.size
 keep:=ai.keep
def join(m2 m:Mp):Mp:=λr=>match m2 r with|some l=>D l|none=>m r
def BB{o:lI}(e:cont Q o=cont Q o')(h:o≠.dead):o'≠.dead:=by
 have e:Ko o=Ko o':=by
  have:Ct.shape (Ko o)=Ct.shape (Ko o'):=e;injection this
 exact Z' e h
theorem MInv.made(g:Rg P cf ops n nt S ak)(hD:Closed ops ag)(ai:MInv S ak ops.size m0 w0 ag m w)(hi:i<ops.size)(Ee:¬ag i)(n_:∀e,e∈ops[i].after.toList->fQ .any e=f->ag e.on){A':R}(hA:A.next=nx S i)(hA':A'.next=nx S (i+1))(rh:RH m2 A' w')(ex:Ex (m.upto<|nx S i) m2 A A' w w')(hlow:A.next<=A'.low\/(S ops.size).H.low<=A'.low)(hnew:∀r,nx S i<=r->r<nx S (i+1)->A'.obj r=(S<|i+1).H.obj r)(h3:(ak i).k≠3)(hcase:((ak i).k=2/\(∀r,A'.obj r=(S<|i+1).H.obj r)/\(∀r,A.obj r=(S i).H.obj r))\/((ak i).k≠2/\A.next<=A'.low)):
 ∃m',MInv S ak ops.size m0 w0 (FF ag i) m' w'/\Mp.le m m'/\Mp.le m2 (m'.upto<|nx S<|i+1):=by
 have hmono:=g.mono;have hn1:nx S i<=nx S (i+1):=g.Qj hi
 have hrange:∀r l,m r=D l->r<nx S i\/nx S (i+1)<=r:=by
  intro r l y;rcases ai.dom r l y with⟨_,h⟩|⟨j,hj,LV,W,J⟩
  .exact .inl<|aR h<|hmono 0 i N N
  .have hji:j≠i:=λe=>Ee (e▸LV);rcases cr j i with h|h
   .exact .inl<|aR J<|hmono (j+1) i N N
   .exact .inr<|a_ (hmono (i+1) j N N) W
 have hm2:∀r l,m2 r=D l->r<nx S (i+1):=λr l h=>by have:=rh.dom r l h;rw[hA']at this;exact this
 have hup:∀r l,m r=D l->r<nx S i->m2 r=D l:=λr l h y=>ex.le r l<|Mp.FD h y
 have hnb:∀r l,m2 r=D l->m r≠D l->m r=Q/\nx S i<=r/\m.upto (nx S i) r=Q:=by
  intro r l h hne
  have aiS:m.upto (nx S i) r=Q:=by
   cases hu:m.upto (nx S i) r with
   |none=>rfl
   |some l'=>
    have:=ex.le r l' hu;rw[h]at this;cases this;exact absurd (Mp.oU hu).2 hne
  have hge:=ex.new r l h aiS;rw[hA]at hge;refine⟨?_,hge,aiS⟩;cases hm:m r with
  |none=>rfl
  |some l'=>
   have W:=hm2 r l h;rcases hrange r l' hm with h'|h'<;>omega
 have hj2:∀r l,m2 r=D l->join m2 m r=D l:=λr l h=>by unfold join;rw[h]
 have hj1:∀r l,m r=D l->join m2 m r=D l:=by
  intro r l h;unfold join;cases J:m2 r with
  |none=>exact h
  |some l2=>
   by_cases e:m r=D l2
   .rw[h]at e;cases e;rfl
   .have:=(hnb r l2 J e).1;rw[h]at this;cases this
 have hcs:∀r l,join m2 m r=D l->m r=D l\/(m r=Q/\m2 r=D l/\nx S i<=r/\r<nx S (i+1)/\m.upto (nx S i) r=Q):=by
  intro r l h;unfold join at h;cases J:m2 r with
  |none=>rw[J]at h;exact .inl h
  |some l2=>
   rw[J]at h;have hl:l2=l:=by injection h
   subst hl
   by_cases e:m r=D l2
   .exact .inl e
   .have:=hnb r l2 J e;exact .inr ⟨this.1,O,this.2.1,hm2 r l2 J,this.2.2⟩
 have hle2:Mp.le m2 ((join m2 m).upto<|nx S<|i+1):=λr l h=>Mp.FD (hj2 r l h)<|hm2 r l h;have ahb:Mp.le m (join m2 m):=hj1
 have aiT:∀r l,m r=D l->((ak i).k≠2\/nx S i<=r)->w'.heap[l.c]?=w.heap[l.c]?:=by
  intro r l h hor;obtain⟨o,ho⟩:=ai.XO r l h;refine ex.keep l.c (oQ ho) ?_;intro r1 l1 W hc1;have hu:=Mp.oU W;rcases hcase with⟨hk,_,_⟩|⟨_,hlo⟩
  .rcases hor with h'|h'
   .exact absurd hk h'
   .have:=(ai.clash r r1 l l1 i h hu.2 hc1.symm hi Ee hk).2 hu.1;omega
  .rw[hA]at hlo;exact aR hu.1 hlo
 have hsame:∀κ r,((ak i).k≠2\/nx S i<=r)->r<nx S i->at' S κ r i=at' S κ r (i+1):=by
  intro κ r hor y;rcases hor with h|h
  .show cont κ _=cont κ _;rw[g.same hi h h3 y]
  .omega
 have hborn:∀κ r l,m r=Q->m2 r=D l->nx S i<=r->r<nx S (i+1)->Ec S ops.size (FF ag i) κ r (i+1):=by
  intro κ r l hm _ hge hlt;refine⟨hlt,λj hj PI hne=>?_⟩
  have hji:i<j:=by
   rcases cr i j with h|h
   .exact h
   .have:=hmono j i h N;omega
  constructor
  .rintro(h|h)
   .exact absurd (by show cont κ _=cont κ _;rw[ai.hid j r hj h PI hm]) hne
   .omega
  .intro h;omega
 have hfr:∀r l,m2 r=D l->m.upto (nx S i) r=Q->l.c<w.heap.size->(ak i).k=2/\∃r0 l0,m r0=D l0/\l0.c=l.c/\r0<nx S i/\A'.low<=r0:=by
  intro r l h h0 hlt;obtain⟨r0,l0,e1,e2,e3⟩:=ex.fresh r l h h0 hlt;have hu:=Mp.oU e1;refine⟨?_,r0,l0,hu.2,e2,hu.1,e3⟩;rcases hcase with⟨hk,_,_⟩|⟨_,hlo⟩
  .exact hk
  .rw[hA]at hlo;omega
 have aiU:(ak i).k=2->∀κ r,r<nx S i->Ec S ops.size (FF ag i) κ r (i+1):=λhk κ r y=>g.alC hD hi Ee n_ hk y
 have Tu:∀r l,join m2 m r=D l->(m r=D l/\((ak i).k≠2\/nx S i<=r))\/(m2 r=D l/\(∀κ,Ec S ops.size (FF ag i) κ r<|i+1)/\A'.obj r=(S<|i+1).H.obj r/\
  ((m r=Q/\nx S i<=r/\r<nx S (i+1)/\m.upto (nx S i) r=Q)\/((ak i).k=2/\m r=D l/\r<nx S i))):=by
  intro r l h;rcases hcs r l h with h|⟨W,J,h3',h4,h5⟩
  .by_cases hor:(ak i).k≠2\/nx S i<=r
   .exact .inl ⟨h,hor⟩
   .have hk:(ak i).k=2:=fO λe=>hor (.inl e);have y:r<nx S i:=Nat.lt_of_not_le λe=>hor<|.inr e;refine .inr ⟨hup r l h y,λκ=>aiU hk κ r y,?_,.inr ⟨hk,h,y⟩⟩;rcases hcase with⟨_,h,_⟩|⟨h,_⟩
    .exact h r
    .exact absurd hk h
  .exact .inr ⟨J,λκ=>hborn κ r l W J h3' h4,hnew r h3' h4,.inl ⟨W,h3',h4,h5⟩⟩
 have aiV:∀r r' l l',m r=D l->((ak i).k≠2\/nx S i<=r)->m2 r'=D l'->
  ((m r'=Q/\nx S i<=r'/\r'<nx S (i+1)/\m.upto (nx S i) r'=Q)\/((ak i).k=2/\m r'=D l'/\r'<nx S i))->l.c=l'.c->False:=by
  intro r r' l l' e hor e' hk hcc;obtain⟨o,ho⟩:=ai.XO r l e;have hlt:=oQ ho;rcases hk with⟨_,_,_,hu0⟩|⟨hk2,W,J⟩
  .obtain⟨hk2,r0,l0,f1,f2,f3,_⟩:=hfr r' l' e' hu0 (by rw[<-hcc];exact hlt);rcases hor with W|W
   .exact W hk2
   .have:=(ai.clash r r0 l l0 i e f1 (by rw[f2,hcc]) hi Ee hk2).2 f3;omega
  .rcases hor with h3|h3
   .exact h3 hk2
   .have:=(ai.clash r r' l l' i e W hcc hi Ee hk2).2 J;omega
 refine⟨join m2 m,⟨?_,?_,?_,?_,?_,?_,?_,?_,?_,?_,?_,?_,?_⟩,ahb,hle2⟩
 .
  intro r l h;rcases hcs r l h with h|⟨_,_,h3',h4,_⟩
  .exact(ai.dom r l h).imp id λ⟨j,W,J,h3⟩=>⟨j,W,.inl J,h3⟩
  .exact .inr ⟨i,hi,.inr O,h3',h4⟩
 .
  intro r l h;rcases hcs r l h with h|⟨_,J,_⟩
  .obtain⟨o,ho⟩:=ai.XO r l h;have:l.c<w'.heap.size:=aR (oQ ho) ex.size;exact⟨w'.heap[l.c],bC this⟩
  .obtain⟨o,ho,_⟩:=rh.ok r l J;exact⟨o,ho⟩
 .
  intro κ r l k o hk hm hc ho;rcases Tu r l hm with⟨h,hor⟩|⟨J,hcon,Cn,_⟩
  .rw[aiT r l h hor]at ho;exact(ai.cnt κ r l k o hk h (hc.less λy=>hsame κ r hor y) ho).mono<|Mp.xB ahb<|ax _
  .obtain⟨o2,ho2,hok⟩:=rh.ok r l J;rw[ho]at ho2;cases ho2;have hrel:Rel κ m2 l (cont κ<|A'.obj r) o:=Rel.jb hok;rw[Cn]at hrel;have heq:at' S κ r (i+1)=at' S κ r k:=Ec.eq hmono N hk (hcon κ) hc;replace hrel:Rel κ m2 l (at' S κ r<|i+1) o:=hrel;rw[heq]at hrel;rcases cr i k with hik|hik
   .exact hrel.mono λr1 l1 W=>Mp.FD (hj2 r1 l1 W)<|aR (hm2 r1 l1 W)<|hmono _ _ hik hk
   .
    have hrk:=hc.1;have hri:r<nx S i:=aR hrk<|hmono k i hik N
    have hmr:m r=D l:=by
     rcases hcs r l hm with h|⟨_,_,h3',_⟩
     .exact h
     .omega
    have hnot:at' S κ r i=at' S κ r (i+1):=by
     apply fO;intro hne;have:=(hc.2 i hi hri hne).1<|.inr O;omega
    obtain⟨o0,ho0⟩:=ai.XO r l hmr;have hold:=ai.cnt κ r l k o0 hk hmr (hc.less λ_=>hnot) ho0
    have hlr:Mp.le (m.upto<|nx S k) m2:=by
     intro r1 l1 W;have hu:=Mp.oU W;exact hup r1 l1 hu.2<|aR hu.1<|hmono k i hik N
    exact(Rel.restrict hlr hrel hold).mono<|Mp.xB ahb<|ax _
 .
  intro r r' l l' k k' h h' hcc hk hk' hc hc' hd hd';rcases Tu r l h with⟨e,hor⟩|⟨e,hcon,Cn,hw⟩<;>rcases Tu r' l' h' with⟨e',aiW⟩|⟨e',aaf,aiX,hw'⟩
  .exact ai.sep r r' l l' k k' e e' hcc hk hk' (hc.less λy=>hsame Q r hor y) (hc'.less λy=>hsame Q r' aiW y) hd hd'
  .exact(aiV r r' l l' e hor e' hw' hcc).elim
  .exact(aiV r' r l' l e' aiW e hw hcc.symm).elim
  .refine rh.sep r r' l l' e e' ?_ ?_ hcc
   .rw[Cn];exact BB (Ec.eq hmono hk N hc<|hcon Q) hd
   .rw[aiX];exact BB (Ec.eq hmono hk' N hc'<|aaf Q) hd'
 .
  intro r r' l l' j h h' hcc hj LV hkj;have hji:j≠i:=λe=>LV<|.inr e;have ahd:¬ag j:=λe=>LV<|.inl e
  have hside:∀r1,nx S i<=r1->r1<nx S (i+1)->(r1<nx S j<->i<j):=by
   intro r1 W J;constructor
   .intro h3;rcases cr i j with h4|h4
    .exact h4
    .have:=hmono j i h4 N;omega
   .intro h3;exact aR J<|hmono _ _ h3 N
  have hone:∀r r' l l',m r=Q->m2 r=D l->nx S i<=r->r<nx S (i+1)->m.upto (nx S i) r=Q->m r'=D l'->l.c=l'.c->(r<nx S j<->r'<nx S j):=by
   intro r r' l l' W J h3 h4 h5 h6 hcc;obtain⟨o,ho⟩:=ai.XO r' l' h6;obtain⟨hk2,r0,l0,f1,f2,f3,_⟩:=hfr r l J h5 (by rw[hcc];exact oQ ho)
   have hij:i<j:=by
    rcases cr i j with h7|h7
    .exact h7
    .have hlt:j<i:=by omega
     have hb:=OE (g.dyn j i hlt hi) (.inr hkj) (.inr hk2)<|.inl hkj;exact absurd (mM g.back hD i _ (bC hi) n_ j hb) ahd
   rw[hside r h3 h4];have h8:r0<nx S j:=aR f3<|hmono i j N N;have:=(ai.clash r' r0 l' l0 j h6 f1 (by rw[f2,hcc]) hj ahd hkj).2 h8;exact⟨λ_=>this,λ_=>hij⟩
  rcases hcs r l h with e|⟨a1,a2,a3,a4,a5⟩<;>rcases hcs r' l' h' with e'|⟨b1,b2,b3,b4,b5⟩
  .exact ai.clash r r' l l' j e e' hcc hj ahd hkj
  .exact(hone r' r l' l b1 b2 b3 b4 b5 e hcc.symm).symm
  .exact hone r r' l l' a1 a2 a3 a4 a5 e' hcc
  .rw[hside r a3 a4,hside r' b3 b4]
 .
  intro j r hj LV y hm
  have hmr:m r=Q:=by
   cases h:m r with
   |none=>rfl
   |some l=>have:=hj1 r l h;rw[hm]at this;cases this
  rcases LV with h|rfl
  .exact ai.hid j r hj h y hmr
  .rcases hcase with⟨hk,W,J⟩|⟨hk,_⟩
   .rw[<-W,<-J];refine ex.hid r (by rw[hA];exact y) ?_;unfold Mp.upto;rw[hmr];simp
   .exact g.same hi hk h3 y
 .exactλr l h=>hj1 r l<|ai.le r l h
 .
  intro r l h h0 hlt;rcases hcs r l h with e|⟨a1,a2,a3,a4,a5⟩
  .exact ai.fresh r l e h0 hlt
  .obtain⟨hk2,r0,l0,f1,f2,f3,f4⟩:=hfr r l a2 a5 (aR hlt ai.size)
   have hl2:(S ops.size).H.low<=r0:=by
    rcases hlow with W|W
    .rw[hA]at W;omega
    .exact a_ W f4
   cases W:m0 r0 with
   |some l1=>
    have:=ai.le r0 l1 W;rw[f1]at this;cases this;exact⟨r0,l0,W,f2,hl2⟩
   |none=>
    obtain⟨r1,l1,g1,g2,g3⟩:=ai.fresh r0 l0 f1 W (by rw[f2];exact hlt);exact⟨r1,l1,g1,g2.trans f2,g3⟩
 .exact ex.os.trans ai.os
 .exact ex.tape.trans ai.tape
 .exact ex.output.trans ai.output
 .exact a_ ai.size ex.size
 .
  intro c hc hk;rw[ex.keep c (aR hc ai.size),ai.keep c hc hk];intro r l W J;have hu:=Mp.oU W;rcases hlow with h3'|h3'
  .rw[hA]at h3';exact aR hu.1 h3'
  .cases h0:m0 r with
   |some l0=>
    have:=ai.le r l0 h0;rw[hu.2]at this;cases this;exact aR (hk r l h0 J) h3'
   |none=>
    obtain⟨r0,l0,e1,e2,e3⟩:=ai.fresh r l hu.2 h0 (by rw[J];exact hc);have:=hk r0 l0 e1<|e2.trans J;omega
end u
def yf{o:aB Unit}(h:qo o=f):o=D ():=by
 cases o with
 |none=>cases h
 |some rg=>rfl
def Nh{a b:Addr}(h:addrEq a b=f):a=b:=by
 obtain⟨r,o,s⟩:=a;obtain⟨r',o',s'⟩:=b;simp only[addrEq,bg]at h;obtain⟨⟨⟨W,J⟩,h3⟩,h4⟩:=h;have W:=aW W;have J:=aW J;cases s with
 |some _=>cases h3
 |none=>cases s' with
  |some _=>cases h4
  |none=>rw[W,J]
def Tv{a b:aB Addr}(h:Js a b=f):a=b:=by
 cases a with
 |none=>cases b with
  |none=>rfl
  |some _=>cases h
 |some x=>cases b with
  |none=>cases h
  |some hr=>rw[Nh (show addrEq x hr=f from h)]
def XP{a b:aB Nat}(h:Zv a b=f):a=b:=by
 cases a with
 |none=>cases b with
  |none=>rfl
  |some _=>cases h
 |some x=>cases b with
  |none=>cases h
  |some hr=>rw[aW (show aA x hr=f from h)]
theorem Qk{x hr:Z}(h:Ar x hr=f):x=hr:=by
 unfold Ar at h;simp only[jY]at h;rcases h with h|h|h|h|h|h|h
 .replace h:=yf h;obtain⟨a,ha,h⟩:=aJ h;obtain⟨b,hb,h⟩:=aJ h;obtain⟨hg,h⟩:=fI h;rw[bg,J7,lz]at hg;rw[qp ha,qp hb,Av hg.1,hg.2]
 .replace h:=yf h;obtain⟨a,ha,h⟩:=aJ h;obtain⟨b,hb,h⟩:=aJ h;obtain⟨hg,h⟩:=fI h;rw[pN ha,pN hb,Nh hg]
 .replace h:=yf h;obtain⟨a,ha,h⟩:=aJ h;obtain⟨b,hb,h⟩:=aJ h;obtain⟨hg,h⟩:=fI h;rw[bg,bg]at hg;rw[xu ha,xu hb,Tv hg.1.1,aW hg.1.2,aW hg.2]
 .replace h:=yf h;obtain⟨a,ha,h⟩:=aJ h;obtain⟨b,hb,h⟩:=aJ h;obtain⟨hg,h⟩:=fI h;rw[J8,lz]at hg;rw[o_ ha,o_ hb,hg]
 .replace h:=yf h;obtain⟨a,ha,h⟩:=aJ h;obtain⟨b,hb,h⟩:=aJ h;obtain⟨hg,h⟩:=fI h;rw[zu,lz,iq,iq]at hg
  have:a=b:=by
   obtain⟨⟨la⟩⟩:=a;obtain⟨⟨lb⟩⟩:=b;simp at hg;rw[hg]
  rw[pO ha,pO hb,this]
 .replace h:=yf h;obtain⟨a,ha,h⟩:=aJ h;obtain⟨b,hb,h⟩:=aJ h;obtain⟨hg,h⟩:=fI h;rw[DC ha,DC hb,XP hg]
 .unfold afC at h;rw[bg,bg]at h;obtain⟨⟨W,J⟩,h3⟩:=h;cases x<;>first|(replace W:aC=f:=W;cases W;done)|skip
  all_goals cases hr<;>first|rfl|(replace J:aC=f:=J;cases J;done)|(replace h3:aC=f:=h3;cases h3;done)|skip
  all_goals
   rename_i p q;cases p<;>cases q<;>first|rfl|(replace W:aC=f:=W;cases W;done)|(replace J:aC=f:=J;cases J;done)
def Ni(hf:∀{x hr:Z},ay x hr=f->x=hr):∀{xs ys:C Z},Bl ay xs ys=f->xs=ys:=by
 intro xs
 induction xs with
 |nil=>
  intro ys h;cases ys with
  |nil=>rfl
  |cons hr ys=>cases h
 |cons x xs ih=>
  intro ys h;cases ys with
  |nil=>cases h
  |cons hr ys=>
   replace h:bV (ay x hr) (Bl ay xs ys) aC=f:=h;cases W:ay x hr with
   |false=>rw[W]at h;cases h
   |true=>
    rw[W]at h;rw[hf W,ih h]
def Ql(hf:∀{x hr:Z},ay x hr=f->x=hr){x hr:Z}(h:U8 ay x hr=f):x=hr:=by
 replace h:=yf h;obtain⟨a,ha,h⟩:=aJ h;obtain⟨b,hb,h⟩:=aJ h;obtain⟨g,hg,h⟩:=aJ h;obtain⟨k,hk,h⟩:=aJ h;obtain⟨hh,h⟩:=fI h;rw[bg,bg]at hh;rw[Oe ha,Oe hb,Og hg,Og hk,aW hh.1.1,Ni hf hh.1.2,Ni hf hh.2]
def aag{x hr:Z}(h:nG x hr=f):x=hr:=by
 have h00:∀{x hr:Z},Eu x hr=f->x=hr:=by
  intro x hr h;unfold Eu at h;rw[jY]at h;rcases h with h|h
  .exact Qk h
  .exact Ql Qk h
 unfold nG at h;rw[jY]at h;rcases h with h|h
 .exact h00 h
 .exact Ql h00 h
def aah:∀{xs ys:C Z},Fx xs ys=f->xs=ys:=by
 intro xs
 induction xs with
 |nil=>
  intro ys h;cases ys with
  |nil=>rfl
  |cons hr ys=>cases h
 |cons x xs ih=>
  intro ys h;cases ys with
  |nil=>cases h
  |cons hr ys=>
   replace h:bV (nG x hr) (Fx xs ys) aC=f:=h;cases W:nG x hr with
   |false=>rw[W]at h;cases h
   |true=>
    rw[W]at h;rw[aag W,ih h]
def EG{off:Nat}(h:H.read r off k=D vs):∀j,j<k->lM (H.obj r) (off+j)=vs[j]?/\j<vs.length:=by
 intro j hj;cases k with
 |zero=>omega
 |succ k=>
  replace h:(aL (vZ<|H.obj r) λw=>gd (aD (aZ off<|k+1) w.n)<|D<|Tr.Ep top w.cells off<|k+1)=D vs:=h;obtain⟨az,hR,h⟩:=aJ h;obtain⟨hg,h⟩:=fI h;cases h;have hg:off+(k+1)<=az.n:=aF hg;rw[uh hR,Vd _ _ _ _ _ hj,Vb];refine⟨?_,hj⟩;simp only[lM];rw[if_pos N]
def OH{vn:R}{off:Nat}(h:sameAt A vn r off k=f):∀j,off<=j->j<off+k->lM (A.obj r) j=lM (vn.obj r) j:=by
 replace h:=yf h;obtain⟨x,E,h⟩:=aJ h;obtain⟨hr,hy,h⟩:=aJ h;obtain⟨hg,h⟩:=fI h;intro j W J;have a1:=(EG E (j-off) N).1;have a2:=(EG hy (j-off) N).1;rw[show off+(j-off)=j from by omega]at a1 a2;rw[a1,a2,aah hg]
theorem aai{o:lI}(e:Ko o=Ko o')(i:Nat):(lM o i).isSome=(lM o' i).isSome:=by
 cases o<;>cases o'<;>simp only[Ko]at e<;>first|rfl|cases e|skip
 case row.row az R'=>
  simp only[lI.row.injEq,Row.mk.injEq]at e;simp only[lM,e.2.2.1];split<;>rfl
theorem GL{off:Nat}(h:H.write r off vs=D T):
 T.next=H.next/\(∀k,k≠r->T.obj k=H.obj k)/\Ko (T.obj r)=Ko (H.obj r)/\(∀i,¬(off<=i/\i<off+vs.length)->lM (T.obj r) i=lM (H.obj r) i)/\
  (∀i,off<=i->i<off+vs.length->lM (T.obj r) i=vs[i-off]?)/\(vs≠[]->T.low<=r):=by
 cases vs with
 |nil=>
  cases h;exact⟨O,λ_ _=>rfl,rfl,λ_ _=>rfl,λi a b=>by simp at b;omega,λh=>absurd O h⟩
 |cons v vs=>
  replace h:(aL (vZ<|H.obj r) λw=>
   gd (!w.kY&&aD (aZ off<|len<|v::vs) w.n&&aD w.fz off&&all' fC (v::vs))
   (D<|H.put r<|.row ⟨w.ty,Tr.tu top (v::vs) off w.cells,w.n,aC,w.fz⟩))=D T:=h
  obtain⟨az,hR,h⟩:=aJ h;obtain⟨hg,h⟩:=fI h;cases h;have Ie:=uh hR;simp only[bg,fU]at hg;obtain⟨⟨⟨g0,g1⟩,g2⟩,g3⟩:=hg;have g1:off+(v::vs).length<=az.n:=aF g1;have g0:az.kY=aC:=by simpa using g0
  have Cn:(H.put r<|.row ⟨az.ty,Tr.tu top (v::vs) off az.cells,az.n,aC,az.fz⟩).obj r=.row ⟨az.ty,Tr.tu top (v::vs) off az.cells,az.n,aC,az.fz⟩:=by rw[wD,if_pos O]
  refine⟨O,λk hk=>by rw[wD,if_neg hk],?_,?_,?_,λ_=>(Jz _ _ _).1⟩
  .rw[Cn,Ie];simp only[Ko,g0]
  .intro i hi;rw[Cn,Ie];simp only[lM];rw[Tr.l_,if_neg hi]
  .intro i W J;rw[Cn];simp only[lM];rw[if_pos N,Tr.l_,if_pos ⟨W,J⟩,bD,av N];rfl
section u
variable{P:aU}{cf:kT}{S:Nat->St}
theorem Tw{o:Op}{p:bT×bT}(h:Bq o=D p):∃t,o=.store t p.1 p.2:=by
 cases o<;>first|cases h|skip
 exact⟨_,O⟩
theorem XQ{o:Op}{p:aH×bT}(h:Gz o=D p):o=.load p.1 p.2:=by
 cases o<;>first|cases h|skip
 rfl
structure ahe(P:aU)(cf:kT)(ops:Array Oper)(o:Oper)(s s1:St)(c:Cl):Prop where
 ex:∃t x hr a T,o.op=.store t x hr/\qK ops s o.guard=D f/\qC (ev s x)=D a/\c=⟨3,a.block,a.off,len<|bK<|ev s hr,hh0,hh0⟩/\
  zi P t (ev s x) (ev s hr) (g_ s).H=D (undef,T)/\s1=jk s o.dst undef ⟨T.v_,T.next,nY s.H.low T.low⟩/\
  (g_ s).H.write a.block a.off (bK<|ev s hr)=D T
def AA(s:St)(x:bT):ev (g_ s) x=ev s x:=by cases x<;>rfl
def GM{c:Cl}(h:Kt P cf ops o s s1 c)(hc:c.k=3):ahe P cf ops o s s1 c:=by
 cases h with
 |skip hw=>cases hc
 |Cm v hw y=>cases hc
 |mem v T hw y=>
  rcases OG (P:=P) (o:=o.op) (s:=s) (T:=T)with⟨p,a,hs,ha,e⟩|e|⟨hlow,⟨_,e⟩|e|⟨p,a,l,hs,ha,hl,e⟩⟩
  .obtain⟨t,hop⟩:=Tw hs;rw[hop]at y;have h:=nZ (o:=zi P t (ev (g_ s) p.1) (ev (g_ s) p.2) (g_ s).H) y;rw[AA,AA]at h;have h0:=h;obtain⟨a',ha',h⟩:=aJ h;obtain⟨s',hs',h⟩:=aJ h;obtain⟨hg,h⟩:=fI h;obtain⟨H1,hH1,h⟩:=aJ h;cases h;rw[ha]at ha';cases ha';exact⟨t,p.1,p.2,a,_,hop,hw,ha,e,h0,O,hH1⟩
  all_goals(rw[e]at hc;cases hc)
def Rg.vU(g:Rg P cf ops n nt S ak)(hj:j<ops.size)(hc:(ak j).k=3)(hne:at' S κ r j≠at' S κ r (j+1)):
 r=(ak j).r/\∃i,κ=D i/\(ak j).off<=i/\i<(ak j).off+(ak j).n:=by
 have hs:=GM (g.step j _<|bC hj) hc;obtain⟨t,x,hr,a,T,hop,hw,ha,e,hst,hs1,hwr⟩:=hs.ex;obtain⟨_,W,J,h3,_,_⟩:=GL hwr;have Nj:∀k,(S<|j+1).H.obj k=T.obj k:=by intro k;rw[hs1,lF];rfl
 have ahf:∀k,(g_<|S j).H.obj k=(S j).H.obj k:=λ_=>rfl;rw[e];simp only[fU]
 by_cases y:r=a.block
 .subst y;refine⟨O,?_⟩;cases κ with
  |none=>exact absurd (by show Ct.shape _=Ct.shape _;rw[Nj,J,ahf]) hne
  |some i=>
   refine⟨i,O,?_⟩;apply fO;intro hni;exact hne (by show Ct.cell _=Ct.cell _;rw[Nj,h3 i hni,ahf])
 .exact absurd (by show cont κ _=cont κ _;rw[Nj,W r y,ahf]) hne
def Rg.Tx(g:Rg P cf ops n nt S ak)(hj:j<ops.size)(hc:(ak j).k=3)(y:r≠(ak j).r):(S<|j+1).H.obj r=(S j).H.obj r:=by
 have hs:=GM (g.step j _<|bC hj) hc;obtain⟨t,x,hr,a,T,hop,hw,ha,e,hst,hs1,hwr⟩:=hs.ex;rw[e]at y;rw[hs1,lF];exact(GL hwr).2.1 r y
def BC(h:yB x hr=f)(y:x.r=hr.r)(W:x.off<=i)(J:i<x.off+x.n)(h3:hr.off<=i)(h4:i<hr.off+hr.n):False:=by
 unfold yB at h;rw[jY,jY]at h;rcases h with(h|h)|h
 .rw[y]at h;rw[show aA hr.r hr.r=f from dD _]at h;cases h
 .have:=aF h;have e:aZ x.off x.n=x.off+x.n:=rfl;omega
 .have:=aF h;have e:aZ hr.off hr.n=hr.off+hr.n:=rfl;omega
def Rg.Vt(g:Rg P cf ops n nt S ak){l:Cl}(hj:j<ops.size)(hc:(ak j).k=2)(h:mY (ak j) l=f)(W:l.off<=i)(J:i<l.off+l.n):at' S (D i) l.r j=at' S (D i) l.r (j+1):=by
 have hs:=g.step j _<|bC hj;generalize hcj:ak j=c at hs hc h;generalize hsj:S (j+1)=s1 at hs;show Ct.cell (lM ((S j).H.obj l.r) i)=Ct.cell (lM ((S<|j+1).H.obj l.r) i);rw[hsj];cases hs with
 |skip hw=>rw[lF]
 |Cm v hw y=>rw[lF]
 |mem v T hw y=>
  rw[lF];rcases OG (P:=P) (o:=ops[j].op) (s:=S j) (T:=T)with⟨p,a,hs,ha,e⟩|e|⟨hlow,⟨_,e⟩|e|⟨p,a,l,hs,ha,hl,e⟩⟩
  .rw[e]at hc;cases hc
  .rw[e]at h;have:=OH (show sameAt (S j).H T l.r l.off l.n=f from h) i W J;rw[this];rfl
  all_goals(rw[e]at hc;cases hc)
def Rg.alD(g:Rg P cf ops n nt S ak)(hD:Closed ops ag)(hi:i<ops.size)(Ee:¬ag i)(n_:∀e,e∈ops[i].after.toList->fQ .any e=f->ag e.on)(hc:(ak i).k=4)(W:(ak i).off<=k)(J:k<(ak i).off+(ak i).n)(y:(ak i).r<nx S i):Ec S ops.size ag (D k) (ak i).r i:=by
 refine⟨y,λj hj PI hne=>?_⟩;have hcj:=g.turns hj PI hne;have hoi:ops[i]?=D ops[i]:=bC hi;have hoj:ops[j]?=D ops[j]:=bC hj
 have afF:(ak j).k=3->∀x hr,yB x hr=f->((x=ak j/\hr=ak i)\/(x=ak i/\hr=ak j))->False:=by
  intro h3 x hr hno hxy;obtain⟨e1,i',e2,e3,e4⟩:=g.vU hj h3 hne;cases e2;rcases hxy with⟨rfl,rfl⟩|⟨rfl,rfl⟩
  .exact BC hno e1.symm e3 e4 W J
  .exact BC hno e1 W J e3 e4
 rcases kI j i with h|h|h
 .refine⟨λ_=>h,λ_=>?_⟩;have hd:=g.dyn j i h hi;rcases hcj with hcj|hcj
  .rcases aha hd hcj hc with hb|hb
   .exact mM g.back hD i _ hoi n_ j hb
   .exact absurd (g.Vt hj hcj hb W J) hne
  .rcases ag8 hd hcj hc with hb|hb
   .exact mM g.back hD i _ hoi n_ j hb
   .exact(afF hcj _ _ hb<|.inl ⟨O,O⟩).elim
 .subst h;exact⟨λh=>absurd h Ee,λh=>absurd h<|qV _⟩
 .refine⟨λLV=>?_,λh'=>by omega⟩;have hd:=g.dyn i j h hj
  have hb:gZ (Ai ops j) i=f:=by
   rcases hcj with hcj|hcj
   .rcases ag9 hd hc hcj with hb|hb
    .exact hb
    .exact absurd (g.Vt hj hcj hb W J) hne
   .rcases ag7 hd hc hcj with hb|hb
    .exact hb
    .exact(afF hcj _ _ hb<|.inr ⟨O,O⟩).elim
  exact absurd (mM g.back hD j _ hoj (hD j _ hoj LV) i hb) Ee
def Ty{x:Z}{a:Addr}(h:wu P t x H=D (v,T))(E:VR m x x')(ha:qC x=D a)(hl:Za P t=D ld)(hm:m a.block=D l)(Nj:w.heap[l.c]?=D ob)(hc:∀i rg,a.off<=i->i<a.off+ld.getD 1->lM (H.obj a.block) i=D rg->xC m l i rg ob):
 ∃v',VR m v v'/\(Instr.loadAt t x').run P w=.ok v' w:=by
 obtain⟨a0,ha0,h⟩:=aJ h;obtain⟨l0,hl0,h⟩:=aJ h;rw[ha]at ha0;cases ha0;rw[hl]at hl0;cases hl0;rw[pN ha]at E;obtain⟨l1,hm1,hlo,hsp,rfl⟩:=E.tV;rw[hm]at hm1;cases hm1
 have hcell:∀i rg,a.off<=i->i<a.off+ld.getD 1->lM (H.obj a.block) i=D rg->∃u',VR m rg u'/\w.cell? ⟨l.c,l.base+(i-l.lo),Q⟩=D u':=by
  intro i rg W J h3;obtain⟨M,ty,fr,u',e,h4,h5⟩:=hc i rg W J h3;subst e;exact⟨u',h5,by rw[cell_of Nj];exact h4⟩
 obtain⟨d,i,hd,hi,hk⟩:=SE hl;rcases hk with⟨hag,rfl⟩|⟨hag,rfl⟩
 .replace h:(aL (H.read a.block a.off i.size) λvs=>D (Sg ⟨vs⟩,H))=D (v,T):=h;obtain⟨vs,hvs,h⟩:=aJ h;cases h;have hrc:=EG hvs
  have hvl:vs.length=i.size:=by
   cases hz:i.size with
   |zero=>rw[hz]at hvs;cases hvs;rfl
   |succ k=>
    rw[hz]at hvs;have h:=hvs;replace h:(aL (vZ<|H.obj a.block) λw=>gd (aD (aZ a.off<|k+1) w.n)<|D<|Tr.Ep top w.cells a.off<|k+1)=D vs:=h;obtain⟨az,hR,h⟩:=aJ h;obtain⟨hg,h⟩:=fI h;cases h;exact Vb _ _ _ _
  have key:∀(q:C Z)(b:Nat),vs.drop b=q->∃q',k_ m q q'/\∀j rg,q'[j]?=D rg->w.cell? ((⟨l.c,l.base+(a.off-l.lo),Q⟩:Addr).add<|b+j)=D rg:=by
   intro q
   induction q with
   |nil=>intro b _;exact⟨[],.nil,by simp⟩
   |cons rg q ih=>
    intro b hb
    have hbu:vs[b]?=D rg:=by
     have:=dW List.head? hb
     rwa [List.head?_drop]at this
    have hbl:b<vs.length:=(bE.1 hbu).1;obtain⟨q',W,J⟩:=ih (b+1) (by rw[<-List.tail_drop,hb];rfl);obtain⟨u',h3,h4⟩:=hcell (a.off+b) rg N (by show a.off+b<a.off+i.size;omega) (by rw[(hrc b N).1];exact hbu);refine⟨u'::q',.cons _ _ _ _ h3 W,?_⟩;intro j z hz;cases j with
    |zero=>
     simp at hz;subst hz;rw[dH,DJ l a.off _ hlo];exact h4
    |succ j=>
     have:=J j z (by simpa using hz);rw[show b+(j+1)=b+1+j from by omega];exact this
  obtain⟨vs',W,J⟩:=key vs 0 O;have hrun:=run_loadCells_list (P:=P) w ⟨l.c,l.base+(a.off-l.lo),Q⟩ vs' (λj rg hu=>by have:=J j rg hu;rwa [aY]at this);rw[<-W.length,hvl]at hrun;exact⟨.agg ⟨vs'⟩,.agg _ _ W,by simp[Instr.loadAt,jD,loadVar,xx hd,hag,jU hi,hrun]⟩
 .replace h:(aL (H.cell a.block a.off) λv=>D (v,H))=D (v,T):=h;obtain⟨rg,hu,h⟩:=aJ h;cases h;have h:=hu;obtain⟨az,hR,h⟩:=aJ h;obtain⟨hg,h⟩:=fI h;cases h;have hg:a.off+1<=az.n:=aF hg;obtain⟨v',W,J⟩:=hcell a.off (az.cells.get top a.off) (ax _) (by show a.off<a.off+1;omega) (by rw[uh hR];simp only[lM];rw[if_pos N]);exact⟨v',W,by simp[Instr.loadAt,jD,loadVar,xx hd,hag,J]⟩
theorem aaj{o:Op}(hf:zT o=f)(h:yL o P cf s=.mem v T):
 ∃ob,T=s.H.new ob/\∀A:R,A.next=s.H.next->yL o P cf ⟨s.nl,s.nt,s.reg,s.tm,s.df,A⟩=.mem v (A.new ob):=by
 cases o<;>first|cases hf|skip
 case alloc e=>
  replace h:=nZ (o:=CJ P e s.H) h;obtain⟨z,hz,h⟩:=aJ h;cases h;refine⟨_,O,λA hA=>?_⟩;show rm (aL (Af P e) λz=>D (MO A.next,A.new<|rowOf e z))=_;rw[hz,hA];rfl
 case box e x=>
  replace h:=nZ (o:=JZ e (ev s x) s.H) h;obtain⟨hg,h⟩:=fI h;cases h;refine⟨_,O,λA hA=>?_⟩;have e1:ev ⟨s.nl,s.nt,s.reg,s.tm,s.df,A⟩ x=ev s x:=by cases x<;>rfl
  show rm (gd (pZ<|ev ⟨s.nl,s.nt,s.reg,s.tm,s.df,A⟩ x)<|D (MO A.next,A.new<|rowOf e<|bK<|ev ⟨s.nl,s.nt,s.reg,s.tm,s.df,A⟩ x))=_;rw[e1,hg,hA];rfl
 case makeMap t r=>
  replace h:=nZ (o:=uV P t (I9 s r) s.H) h;obtain⟨q,hq,h⟩:=aJ h;obtain⟨hg,h⟩:=fI h;cases h;refine⟨_,O,λA hA=>?_⟩
  have e1:I9 ⟨s.nl,s.nt,s.reg,s.tm,s.df,A⟩ r=I9 s r:=by
   cases r with
   |none=>rfl
   |some x=>cases x<;>rfl
  show rm (aL (uT P t) λ_=>gd (@aM Z (λ_=>Bool) f (λv=>!(eZ<|tL v))<|I9 ⟨s.nl,s.nt,s.reg,s.tm,s.df,A⟩ r)<|D (WZ<|D A.next,A.new<|.map []))=_;rw[e1,hq,hA];show rm (gd (@aM Z (λ_=>Bool) f (λv=>!(eZ<|tL v))<|I9 s r) _)=_;rw[hg];rfl
 case makeSlice t l c=>
  replace h:=nZ (o:=qD P t (ev s l) (ev s c) s.H) h;obtain⟨q,hq,h⟩:=aJ h;obtain⟨i,hi,h⟩:=aJ h;obtain⟨z,hz,h⟩:=aJ h;obtain⟨k,hk,h⟩:=aJ h;obtain⟨k2,hk2,h⟩:=aJ h;obtain⟨hg,h⟩:=fI h;cases h;refine⟨_,O,λA hA=>?_⟩;have e1:ev ⟨s.nl,s.nt,s.reg,s.tm,s.df,A⟩ l=ev s l:=by cases l<;>rfl
  have e2:ev ⟨s.nl,s.nt,s.reg,s.tm,s.df,A⟩ c=ev s c:=by cases c<;>rfl
  show rm (qD P t (ev ⟨s.nl,s.nt,s.reg,s.tm,s.df,A⟩ l) (ev ⟨s.nl,s.nt,s.reg,s.tm,s.df,A⟩ c) A)=_;unfold qD;rw[e1,e2,hq];show rm (aL (tI P q.1) _)=_;rw[hi];show rm (aL (Af P q.1) _)=_;rw[hz];show rm (aL (zK<|ev s l) _)=_;rw[hk];show rm (aL (zK<|ev s c) _)=_;rw[hk2];show rm (gd _ _)=_;rw[hg,hA];rfl
 case buildSlice t k ps=>
  replace h:=nZ (o:=tO P t k (Ob s ps) s.H) h;obtain⟨q,hq,h⟩:=aJ h;obtain⟨z,hz,h⟩:=aJ h;obtain⟨hg,h⟩:=fI h;obtain⟨M,hcs,h⟩:=aJ h;cases h;refine⟨_,O,λA hA=>?_⟩
  have e1:Ob ⟨s.nl,s.nt,s.reg,s.tm,s.df,A⟩ ps=Ob s ps:=by
   obtain⟨ps⟩:=ps;show mp (λp=>(p.1,ev ⟨s.nl,s.nt,s.reg,s.tm,s.df,A⟩ p.2)) ps=mp (λp=>(p.1,ev s p.2)) ps;congr 1;funext p;cases p.2<;>rfl
  show rm (tO P t k (Ob ⟨s.nl,s.nt,s.reg,s.tm,s.df,A⟩ ps) A)=_;unfold tO;rw[e1,hq];show rm (aL (Af P q.1) _)=_;rw[hz];show rm (gd _ _)=_;rw[hg];show rm (aL (Eb _ (Ob s ps) _) _)=_;rw[hcs,hA];rfl
end u
section u
variable{P:aU}{cf:kT}{S:Nat->St}
def mV.cells{o:lI}{M cs':Array Z}{fr:Nat×Nat}(h:mV m l o<|.cells M ty fr)(hs:cs'.size=M.size):mV m l o (.cells cs' ty fr):=by
 cases o with
 |dead=>trivial
 |row az=>
  have⟨W,J,h3,h4,h5,h6⟩:=h;exact⟨W,J,by rw[hs];exact h3,h4,h5,h6⟩
 |map es=>exact h.elim
 |MM s p=>exact h.elim
theorem Rg.alE(g:Rg P cf ops n nt S ak)(hD:Closed ops ag)(hi:i<ops.size)(Ee:¬ag i)(n_:∀e,e∈ops[i].after.toList->fQ .any e=f->ag e.on)(hc:(ak i).k=3):(∀j,j<ops.size->(ak j).k=2->j<i/\ag j)/\∀r,r<nx S i->Ec S ops.size ag Q r i:=by
 have hoi:ops[i]?=D ops[i]:=bC hi
 have J:∀j,j<ops.size->(ak j).k=2->j<i/\ag j:=by
  intro j hj hcj;rcases kI j i with h|h|h
  .exact⟨h,mM g.back hD i _ hoi n_ j<|Vq (g.dyn j i h hi) (.inr hcj) hc⟩
  .subst h;rw[hc]at hcj;cases hcj
  .exact(Vp (g.dyn i j h hj) hc<|.inr hcj).elim
 refine⟨J,λr y=>⟨y,λj hj PI hne=>?_⟩⟩;rcases g.turns hj PI hne with hcj|hcj
 .have:=J j hj hcj;exact⟨λ_=>this.1,λ_=>this.2⟩
 .have⟨_,k,hk,_⟩:=g.vU hj hcj hne;cases hk
def Tz(p:Nat->Bool):∀d k,p k=f->p (k+d)=aC->∃j,k<=j/\j<k+d/\p j=f/\p (j+1)=aC:=by
 intro d
 induction d with
 |zero=>intro k W J;rw[dH,W]at J;cases J
 |succ d ih=>
  intro k W J;cases hp:p (k+1)with
  |false=>exact⟨k,ax _,N,W,hp⟩
  |true=>
   have⟨j,a1,a2,a3⟩:=ih (k+1) hp (by rw[show k+1+d=k+(d+1)from by omega];exact J);exact⟨j,N,N,a3⟩
theorem MInv.stored(g:Rg P cf ops n nt S ak)(hD:Closed ops ag)(ai:MInv S ak ops.size m0 w0 ag m w)(hi:i<ops.size)(Ee:¬ag i)(n_:∀e,e∈ops[i].after.toList->fQ .any e=f->ag e.on)(hc:(ak i).k=3){x hr:bT}{y':Z}{a:Addr}(ha:qC (ev (S i) x)=D a)(hcl:ak i=⟨3,a.block,a.off,len<|bK<|ev (S i) hr,hh0,hh0⟩)(hst:zi P t (ev (S i) x) (ev (S i) hr) (g_<|S i).H=D (undef,T))(hs1:(S<|i+1).H=⟨T.v_,T.next,nY (S i).H.low T.low⟩)(hwr:(g_<|S i).H.write a.block a.off (bK<|ev (S i) hr)=D T)(E:VR (m.upto<|nx S i) (ev (S i) x) x')(hy:VR (m.upto<|nx S i) (ev (S i) hr) y'):
 ∃w',(Instr.storeAt t x' y').run P w=.ok () w'/\MInv S ak ops.size m0 w0 (FF ag i) m w':=by
 have hmono:=g.mono;have h0:=hst;have h:=hst;have⟨a1,ha1,h⟩:=aJ h;have⟨sz,hsz,h⟩:=aJ h;have⟨hgl,h⟩:=fI h;have⟨H1,hH1,h⟩:=aJ h;cases h;rw[ha]at ha1;cases ha1;obtain⟨inf,uX,rfl⟩:=q8 hsz;have hlen:=aW hgl;rw[fU]at hlen;rw[pN ha]at E;obtain⟨l,hml,hlo,hsp,rfl⟩:=E.tV;have hu:=Mp.oU hml
 have hnt:ev (S i) hr≠top:=by
  intro e;rw[e]at hwr
  replace hwr:(aL (vZ<|(g_<|S i).H.obj a.block) λw=>
   gd (!w.kY&&aD (aZ a.off<|len [top]) w.n&&aD w.fz a.off&&all' fC [top])
   (D<|(g_<|S i).H.put a.block<|.row ⟨w.ty,Tr.tu top [top] a.off w.cells,w.n,aC,w.fz⟩))=D T:=hwr
  have h:=hwr;have⟨az,hR,h⟩:=aJ h;have⟨hg,h⟩:=fI h;simp[all_eq,fC,top]at hg
 have hcv:=Bw hy hnt
 have afG:∀w',(storeCells ⟨l.c,l.base+(a.off-l.lo),Q⟩<|bK y').run P w=.ok () w'->(Instr.storeAt t (.pointer<|D ⟨l.c,l.base+(a.off-l.lo),Q⟩) y').run P w=.ok () w':=by
  intro w' hw';have hsz:y'.cells.size=inf.size:=by rw[CK];show(bK y').length=_;rw[<-hcv.length,hlen]
  have hcl:y'.cells.toList=bK y':=(DD y').symm;simp only[Instr.storeAt,jD,storeVar,dw,dI,bR,jU uX,hsz,ne_eq,tK,kJ,hcl];exact hw'
 have hwo:=GL hwr;have Nj:∀k,(S<|i+1).H.obj k=T.obj k:=by intro k;rw[hs1];rfl
 by_cases hnil:bK (ev (S i) hr)=[]
 .rw[hnil]at hwr
  have hHH:(g_<|S i).H=T:=by
   have:D (g_<|S i).H=D T:=hwr;injection this
  have hn':bK y'=[]:=by
   have:=hcv.length;rw[hnil]at this;exact gW this.symm
  refine⟨w,afG w (by rw[hn'];simp[storeCells]),ai.still hi λr y=>?_⟩;rw[Nj,<-hHH];rfl
 .
  have⟨Vu,TA⟩:=g.alE hD hi Ee n_ hc;have⟨ob,aea⟩:=ai.XO _ _ hu.2;have hsh:=ai.cnt Q _ _ i ob N hu.2 (TA _ hu.1) aea
  have hrow:∃az,(S i).H.obj a.block=.row az/\az.kY=aC/\a.off+(bK<|ev (S i) hr).length<=az.n/\az.fz<=a.off/\(bK<|ev (S i) hr).all fC=f:=by
   cases hvs:bK (ev (S i) hr)with
   |nil=>exact absurd hvs hnil
   |cons rg us=>
    rw[hvs]at hwr
    replace hwr:(aL (vZ<|(g_<|S i).H.obj a.block) λw=>
     gd (!w.kY&&aD (aZ a.off<|len<|rg::us) w.n&&aD w.fz a.off&&all' fC (rg::us))
     (D<|(g_<|S i).H.put a.block<|.row ⟨w.ty,Tr.tu top (rg::us) a.off w.cells,w.n,aC,w.fz⟩))=D T:=hwr
    have h:=hwr;have⟨az,hR,h⟩:=aJ h;have⟨hg,h⟩:=fI h;simp only[bg,fU,all_eq]at hg;exact⟨az,uh hR,mg hg.1.1.1,aF hg.1.1.2,aF hg.1.2,hg.2⟩
  have⟨az,hR,hse,hbd,hfz,hoc⟩:=hrow
  have ahg:mV (m.upto<|nx S i) l (.row az) ob:=by
   have:mV (m.upto<|nx S i) l (Ko<|(S i).H.obj a.block) ob:=hsh;rw[hR]at this;exact this.Tn O
  cases ob with
  |cells M ty fr=>
   have⟨⟨e1,e2⟩,e3,e4,e5,e6,e7⟩:=ahg;have hlen':(bK y').length=(bK<|ev (S i) hr).length:=hcv.length.symm
   have⟨w',cs',r1,r2,r3,r4,r5,r6,r7,r8,r9⟩:=zw (P:=P) l.c (l.base+(a.off-l.lo)) ty fr (bK y') 0 M w aea (CL hcv hoc) (by rw[hlen'];omega)
    (λj b1 b2 b3=>by have:=e7 hse;omega)
   refine⟨w',afG w' r1,?_⟩;have hCr:(ak i).r=a.block:=by rw[hcl]
   have hCo:(ak i).off=a.off:=by rw[hcl]
   have hCn:(ak i).n=(bK<|ev (S i) hr).length:=by rw[hcl];exact fU _
   have hnot:∀κ r,(r≠a.block\/∀k,κ=D k->¬(a.off<=k/\k<a.off+(bK<|ev (S i) hr).length))->at' S κ r i=at' S κ r (i+1):=by
    intro κ r hor;apply fO;intro hne;have⟨f1,k,f2,f3,f4⟩:=g.vU hi hc hne;rw[hCr]at f1;rw[hCo]at f3;rw[hCo,hCn]at f4;rcases hor with h|h
    .exact h f1
    .exact h k f2 ⟨f3,f4⟩
   have ahh:(S i).H.obj a.block≠.dead:=by rw[hR];simp
   have hother:∀r l1 k κ,r≠a.block->m r=D l1->l1.c=l.c->k<=ops.size->Ec S ops.size ag κ r k->∀o,Rel κ (m.upto<|nx S k) l1 (at' S κ r k) o:=by
    intro r l1 k κ hne hm1 hcc hk hcon o
    have MZ:∀k',k'<=ops.size->Ec S ops.size ag Q r k'->(S k').H.obj r=.dead:=by
     intro k' hk' aaf;apply fO;intro hnd;exact hne<|ai.sep r a.block l1 l k' i hm1 hu.2 hcc hk' N aaf (TA _ hu.1) hnd ahh
    cases κ with
    |none=>
     show Rel Q _ _ (.shape<|Ko<|(S k).H.obj r) o;rw[MZ k hk hcon];trivial
    |some q=>
     show Rel (D q) _ _ (.cell<|lM ((S k).H.obj r) q) o;cases hca:lM ((S k).H.obj r) q with
     |none=>trivial
     |some z=>
      exfalso
      have aak:∀j,j<ops.size->r<nx S j->(ak j).k≠2->(lM ((S j).H.obj r) q).isSome=(lM ((S<|j+1).H.obj r) q).isSome:=by
       intro j hj PI J;apply aai;apply fO;intro hne';have hne2:at' S Q r j≠at' S Q r (j+1):=λe=>hne' (by injection e);rcases g.turns hj PI hne2 with h3|h3
       .exact J h3
       .have⟨_,_,h4,_⟩:=g.vU hj h3 hne2;cases h4
      by_cases hri:r<nx S i
      .have hd:=MZ i N (TA r hri);have hz:lM ((S i).H.obj r) q=Q:=by rw[hd];rfl
       rcases cr k i with hki|hki
       .have⟨j,f1,f2,f3,f4⟩:=Tz (λk=>(lM ((S k).H.obj r) q).isSome) (i-k) k (by simp[hca]) (by
         show(lM ((S<|k+(i-k)).H.obj r) q).isSome=aC;rw[show k+(i-k)=i from by omega,hz];rfl)
        have PI:r<nx S j:=aR hcon.1<|hmono k j f1 N
        have hj2:(ak j).k=2:=fO λe=>by
         have:=aak j N PI e;rw[f3,f4]at this;cases this
        have alF:at' S (D q) r j≠at' S (D q) r (j+1):=by
         intro e;have e:lM ((S j).H.obj r) q=lM ((S<|j+1).H.obj r) q:=by injection e
         rw[e,f4]at f3;cases f3
        have:=(hcon.2 j N PI alF).1 (Vu j N hj2).2;omega
       .have:∀d,i+d<=ops.size->(lM ((S<|i+d).H.obj r) q).isSome=aC:=by
         intro d
         induction d with
         |zero=>intro _;rw[dH,hz];rfl
         |succ d ih=>
          intro hd'
          have h9:=aak (i+d) N (aR hri<|hmono i (i+d) N N) (λe=>by
           have:=(Vu (i+d) N e).1;omega)
          rw[show i+(d+1)=i+d+1 from O,<-h9];exact ih N
        have:=this (k-i) N;rw[show i+(k-i)=k from by omega,hca]at this;cases this
      .have hcn:Ec S ops.size ag Q r k:=by
        refine⟨hcon.1,λj hj PI hne'=>?_⟩;exfalso;rcases g.turns hj PI hne' with h3|h3
        .have:=(Vu j hj h3).1;have:=hmono j i N N;omega
        .have⟨_,_,h4,_⟩:=g.vU hj h3 hne';cases h4
       rw[MZ k hk hcn]at hca;cases hca
   refine⟨?_,?_,?_,?_,?_,?_,ai.le,ai.fresh,r7.trans ai.os,r8.trans ai.tape,r9.trans ai.output,by rw[r6];exact ai.size,?_⟩
   .exactλr l h=>(ai.dom r l h).imp id λ⟨j,W,J,h3⟩=>⟨j,W,.inl J,h3⟩
   .intro r l1 W;have⟨o,ho⟩:=ai.XO r l1 W;have:l1.c<w'.heap.size:=by rw[r6];exact oQ ho
    exact⟨w'.heap[l1.c],bC this⟩
   .
    intro κ r l1 k o hk hm1 hcon ho
    by_cases y:r=a.block
    .subst y;rw[hu.2]at hm1;have hll:l=l1:=by injection hm1
     subst hll;rw[r2]at ho;have ho:Obj.cells cs' ty fr=o:=by injection ho
     subst ho
     by_cases hin:∃q,κ=D q/\a.off<=q/\q<a.off+(bK<|ev (S i) hr).length
     .obtain⟨q,rfl,q1,q2⟩:=hin
      have aiY:Ec S ops.size (FF ag i) (D q) a.block (i+1):=by
       refine⟨aR hu.1<|g.Qj hi,λj hj PI hne=>?_⟩;rcases g.turns hj PI hne with J|h3
       .have:=Vu j hj J;exact⟨λ_=>N,λ_=>.inl this.2⟩
       .have⟨f1,q',f2,f3,f4⟩:=g.vU hj h3 hne;cases f2;have hoi:ops[i]?=D ops[i]:=bC hi;have hoj:ops[j]?=D ops[j]:=bC hj;rcases kI j i with h|h|h
        .rcases aad (g.dyn j i h hi) h3 hc with hb|hb
         .exact⟨λ_=>N,λ_=>.inl<|mM g.back hD i _ hoi n_ j hb⟩
         .exact(BC hb (by rw[<-f1,hCr]) f3 f4 (by rw[hCo];exact q1) (by rw[hCo,hCn];exact q2)).elim
        .subst h;exact⟨λ_=>N,λ_=>.inr O⟩
        .rcases aad (g.dyn i j h hj) hc h3 with hb|hb
         .refine⟨λhw=>?_,λh'=>N⟩;rcases hw with LV|e
          .exact absurd (mM g.back hD j _ hoj (hD j _ hoj LV) i hb) Ee
          .omega
         .exact(BC hb (by rw[<-f1,hCr]) (by rw[hCo];exact q1) (by rw[hCo,hCn];exact q2) f3 f4).elim
      have heq:at' S (D q) a.block (i+1)=at' S (D q) a.block k:=Ec.eq hmono N hk aiY hcon;have hcell:lM ((S<|i+1).H.obj a.block) q=(bK<|ev (S i) hr)[q-a.off]?:=by rw[Nj];exact hwo.2.2.2.2.1 q q1 q2
      have hrel:Rel (D q) (m.upto<|nx S i) l (at' S (D q) a.block k) (.cells cs' ty fr):=by
       rw[<-heq];show Rel (D q) _ l (.cell<|lM ((S<|i+1).H.obj a.block) q) _;rw[hcell];cases hz:(bK<|ev (S i) hr)[q-a.off]? with
       |none=>trivial
       |some z=>
        intro hlq;have⟨z',f1,f2⟩:=hcv.get _ hz;refine⟨cs',ty,fr,z',O,?_,f2⟩;rw[r4,if_pos (by rw[hlen'];omega),show l.base+(q-l.lo)-(l.base+(a.off-l.lo)+0)=q-a.off from by omega];exact f1
      rcases cr i k with hik|hik
      .exact hrel.mono<|Mp.xB (λ_ _ h=>h)<|hmono i k N hk
      .have hni:at' S (D q) a.block i=at' S (D q) a.block (i+1):=by
        apply fO;intro hne;have:=(hcon.2 i hi hu.1 hne).1<|.inr O;omega
       have hold:=ai.cnt (D q) _ _ k _ hk hu.2 (hcon.less λ_=>hni) aea;exact Rel.restrict (Mp.xB (λ_ _ h=>h)<|hmono k i hik N) hrel hold
     .have hni:at' S κ a.block i=at' S κ a.block (i+1):=hnot κ _ (.inr λq e h=>hin ⟨q,e,h.1,h.2⟩);have hold:=ai.cnt κ _ _ k _ hk hu.2 (hcon.less λ_=>hni) aea;cases κ with
      |none=>
       have hold:mV (m.upto<|nx S k) l (Ko<|(S k).H.obj a.block) (.cells M ty fr):=hold;exact hold.cells r3
      |some q=>
       have hold:Rel (D q) (m.upto<|nx S k) l (.cell<|lM ((S k).H.obj a.block) q) (.cells M ty fr):=hold;show Rel (D q) (m.upto<|nx S k) l (.cell<|lM ((S k).H.obj a.block) q)<|.cells cs' ty fr;cases hz:lM ((S k).H.obj a.block) q with
       |none=>trivial
       |some z=>
        rw[hz]at hold;intro hlq;have⟨cs0,ty0,fr0,v,f1,f2,f3⟩:=hold hlq;cases f1;refine⟨cs',ty,fr,v,O,?_,f3⟩;rw[r4,if_neg]
        .exact f2
        .rw[hlen'];intro hh;exact hin ⟨q,O,N,N⟩
    .have hni:at' S κ r i=at' S κ r (i+1):=hnot κ r (.inl y);have Nk:=hcon.less λ_=>hni
     by_cases hcc:l1.c=l.c
     .exact hother r l1 k κ y hm1 hcc hk Nk o
     .rw[r5 _ hcc]at ho;exact ai.cnt κ r l1 k o hk hm1 Nk ho
   .intro r r' l1 l1' k k' W J h3 h4 h5 h6 h7 h8 h9;exact ai.sep r r' l1 l1' k k' W J h3 h4 h5 (h6.less λ_=>hnot Q r<|.inr λq e=>by cases e) (h7.less λ_=>hnot Q r'<|.inr λq e=>by cases e) h8 h9
   .exactλr r' l1 l1' j W J h3 h4 h5 h6=>ai.clash r r' l1 l1' j W J h3 h4 (λh=>h5<|.inl h) h6
   .intro j r hj LV y hmr;rcases LV with h|rfl
    .exact ai.hid j r hj h y hmr
    .refine g.Tx hi hc ?_;rw[hCr];intro e;rw[e,hu.2]at hmr;cases hmr
   .intro c hcs hk;rw[r5,ai.keep c hcs hk];intro e
    have hlow:(S ops.size).H.low<=a.block:=by
     have f1:=g.low (i+1) ops.size N<|ax _;rw[hs1]at f1;have f2:(S ops.size).H.low<=nY (S i).H.low T.low:=f1;exact a_ f2<|a_ (DN _ _).2<|hwo.2.2.2.2.2 hnil
    cases h0':m0 a.block with
    |some l0=>
     have:=ai.le _ _ h0';rw[hu.2]at this;cases this;have:=hk _ _ h0' e.symm;omega
    |none=>
     have⟨r0,l0,f1,f2,f3⟩:=ai.fresh _ _ hu.2 h0' (by rw[<-e];exact hcs);have:=hk r0 l0 f1 (by rw[f2,e]);omega
  |map zV c=>exact ahg.elim
  |_=>exact ahg.elim
end u
def yY(hd:Kn s.nt d=f)(t:Nat):iA (jk s d v H) t=if d=D t then v else iA s t:=by
 cases d with
 |none=>rfl
 |some d=>
  have hd:d<s.nt:=aF hd;show iA (qE s d v H) t=_;unfold qE;cases hb:gZ s.nl d with
  |true=>
   show iA ⟨s.nl,s.nt,s.reg,bV (aD (bW d) s.nt) (s.tm.set top d v) s.tm,s.df,H⟩ t=_;rw[show aD (bW d) s.nt=f from aI hd];show bV (gZ s.nl t) ((s.tm.set top d v).get top t) (look s.reg t)=_;rw[Tr.vE]
   by_cases e:d=t
   .subst e;rw[hb,if_pos O,if_pos O];rfl
   .rw[if_neg (oW e),if_neg<|mg e];rfl
  |false=>
   show bV (gZ s.nl t) (s.tm.get top t) (bV (aA d t) v<|look s.reg t)=_
   by_cases e:d=t
   .subst e;rw[hb,if_pos O,show aA d d=f from dD d];rfl
   .rw[if_neg (mg e),show aA d t=aC from by rw[<-b_];exactλg=>e<|aW g];rfl
section u
variable{P:aU}{cf:kT}{S:Nat->St}
def aeb(ops:Array Oper)(ag:Nat->Prop)(t k:Nat):Prop:=∀(j:Nat)(o:Oper),ops[j]?=D o->o.dst=D t->(ag j<->j<k)
structure Inv(ops:Array Oper)(nt:Nat)(S:Nat->St)(ak:Nat->Cl)(m0:Mp)(w0:bY)(d0:C Deferred)(ag:Nat->Prop)(m:Mp)(a:Act)(w:bY):Prop where
 mem:MInv S ak ops.size m0 w0 ag m w
 size:a.tmps.size=nt
 slot:∀t k,k<=ops.size->aeb ops ag t k->VR (m.upto<|nx S k) (iA (S k) t) (a.tmps.getD t undef)
 de:a.defers=d0
def Rg.look(g:Rg P cf ops n nt S ak)(ho:ops[j]?=D o)(t:Nat)(h:o.dst≠D t):iA (S<|j+1) t=iA (S j) t:=by
 have hs:=g.step j o ho
 have hd:Kn (S j).nt o.dst=f:=by
  have:=g.ok j o ho;unfold xA at this;rw[bg]at this;rw[g.nts j o ho];exact this.2
 generalize S (j+1)=s1 at hs;generalize ak j=c at hs;cases hs with
 |skip hw=>rw[yY hd,if_neg h]
 |Cm v hw y=>rw[yY hd,if_neg h]
 |mem v T hw y=>rw[yY hd,if_neg h]
def get_put(hs:a.tmps.size=nt)(hd:Kn nt d=f)(t:Nat):(a.put d v).tmps.getD t undef=if d=D t then v else a.tmps.getD t undef:=by
 cases d with
 |none=>rfl
 |some d=>
  have hd:d<nt:=aF hd;show(a.tmps.setIfInBounds d v).getD t undef=_
  by_cases e:d=t
  .subst e;rw[if_pos O];simp[Array.getD,hs,hd]
  .rw[if_neg (mg e)];simp only[gJ];rw[jX e]
def aal:(a.put d v).tmps.size=a.tmps.size:=by
 cases d with
 |none=>rfl
 |some d=>show(a.tmps.setIfInBounds d v).size=_;simp
def XR(g:Rg P cf ops n nt S ak)(hD:Closed ops ag)(hsz:a.tmps.size=nt)(hsl:∀t k,k<=ops.size->aeb ops ag t k->VR (m.upto<|nx S k) (iA (S k) t) (a.tmps.getD t undef))(hi:i<ops.size)(Ee:¬ag i)(hm:Mp.le m m')(hv:VR (m'.upto<|nx S<|i+1) v v')(Nl:∀t,ops[i].dst=D t->iA (S<|i+1) t=v):
 ∀t k,k<=ops.size->aeb ops (FF ag i) t k->VR (m'.upto<|nx S k) (iA (S k) t) ((a.put ops[i].dst v').tmps.getD t undef):=by
 intro t k hk hcon;have hoi:ops[i]?=D ops[i]:=bC hi
 have hd:Kn nt ops[i].dst=f:=by
  have:=g.ok i _ hoi;unfold xA at this;rw[bg]at this;exact this.2
 rw[get_put hsz hd]
 by_cases e:ops[i].dst=D t
 .rw[if_pos e];have hik:i<k:=(hcon i _ hoi e).1<|.inr O
  have hsame:∀d,i+1+d<=k->iA (S<|i+1+d) t=v:=by
   intro d
   induction d with
   |zero=>intro _;exact Nl t e
   |succ d ih=>
    intro hd';have hj:i+1+d<ops.size:=N;have hoj:ops[i+1+d]?=D ops[i+1+d]:=bC hj;rw[show i+1+(d+1)=i+1+d+1 from O,g.look hoj t ?_,ih N];intro e2;have LV:ag (i+1+d):=((hcon _ _ hoj e2).2 N).resolve_right N;rcases g.stat i (i+1+d) _ _ N hoi hoj with hb|hap
    .exact Ee<|mM g.back hD _ _ hoj (hD _ _ hoj LV) i hb
    .exact(Oper.apart_spec hap).2.1 t e e2
  have:=hsame (k-(i+1)) N;rw[show i+1+(k-(i+1))=k from by omega]at this;rw[this];exact hv.mono<|Mp.xB (λ_ _ h=>h)<|g.mono _ _ hik hk
 .rw[if_neg e];refine(hsl t k hk ?_).mono<|Mp.xB hm<|ax _;intro j o hj hdj
  have hji:j≠i:=by
   intro e2;subst e2;rw[hoi]at hj;cases hj;exact e hdj
  rw[<-hcon j o hj hdj];exact⟨.inl,λh=>h.resolve_right hji⟩
def aam(g:Rg P cf ops n nt S ak)(hD:Closed ops ag)(hi:i<ops.size)(Ee:¬ag i)(n_:∀e,e∈ops[i].after.toList->fQ .any e=f->ag e.on){t:Nat}(ht:t∈ops[i].looksAt ops):aeb ops ag t i:=by
 intro j o hj hdj;have hoi:ops[i]?=D ops[i]:=bC hi;rcases kI j i with h|h|h
 .refine⟨λ_=>h,λ_=>?_⟩;rcases g.stat j i _ _ h hj hoi with hb|hap
  .exact mM g.back hD i _ hoi n_ j hb
  .exact absurd ht<|(Oper.apart_spec hap).1 t hdj
 .subst h;exact⟨λh=>absurd h Ee,λh=>absurd h<|qV _⟩
 .refine⟨λLV=>?_,λh'=>N⟩;rcases g.stat i j _ _ h hoi hj with hb|hap
  .exact absurd (mM g.back hD j _ hj (hD j _ hj LV) i hb) Ee
  .exact absurd ht<|(Oper.apart_spec hap).2.2 t hdj
def XT{hr:aB Bool}(ay:∀(o:Oper) t,ops[j]?=D o->o.dst=D t->VR m (iA s t) (a.tmps.getD t undef))(h:Bo ops s j=D hr):yielded ops a.tmps j=hr:=by
 have⟨o,ho,h⟩:=aJ h;have⟨t,ht,h⟩:=aJ h;rw[oL,eF]at ho;have hs:=ay o t ho ht
 have hy:yielded ops a.tmps j=match a.tmps[t]? with|some (.bool b)=>D b|_=>Q:=by
  unfold yielded;rw[ho];show(match(o.dst).bind (a.tmps[·]?)with|some (.bool b)=>D b|_=>Q)=_;rw[ht];rfl
 rw[hy];cases hb:jQ (iA s t)with
 |some b=>
  rw[hb]at h;replace h:D (D b)=D hr:=h;cases h;rw[o_ hb]at hs;have hs:=hs.of_bool;rw[gJ]at hs;cases hq:a.tmps[t]? with
  |none=>rw[hq]at hs;cases hs
  |some x=>rw[hq]at hs;replace hs:x=.bool b:=hs;rw[hs]
 |none=>
  rw[hb]at h;replace h:(gd (isU<|iA s t)<|D (Q:aB Bool))=D hr:=h;have⟨hg,h⟩:=fI h;cases h;rw[Z5 hg]at hs;have⟨l',hl,hv⟩:=VR.Oh (x:=[]) hs;cases hv;rw[gJ]at hl;cases hq:a.tmps[t]? with
  |none=>rfl
  |some x=>rw[hq]at hl;replace hl:x=.tuple ⟨[]⟩:=hl;rw[hl]
def Ku(ay:∀t,t∈o.looksAt ops->VR m (iA s t) (a.tmps.getD t undef))(h:qK ops s o.guard=D b):Region.wanted o (yielded ops a.tmps)=b:=by
 unfold Region.wanted;cases hg:o.guard with
 |none=>rw[hg]at h;cases h;rfl
 |some p=>
  rw[hg]at h;replace h:(aL (Bo ops s p.1) λhr=>D<|@aM Bool (λ_=>Bool) aC (λb=>Ba b p.2) hr)=D b:=h;have⟨hr,hy,h⟩:=aJ h;cases h;have⟨j,want⟩:=p;simp only
  rw[XT (m:=m) (s:=s) (λo' t ho' ht=>ay t (by
   unfold Oper.looksAt;rw[hg];refine cZ _ ?_;simp only[ho',Option.bind_some,ht];simp)) hy]
  cases hr with
  |none=>rfl
  |some c=>cases c<;>cases want<;>rfl
def ahi(gl:Gl n m)(hok:all' (EF n) o.op.operands.toList=f)(ay:∀t,t∈o.looksAt ops->VR m (iA s t) (a.tmps.getD t undef)):Nb m s a.eval o.op.operands.toList:=by
 refine⟨λx E=>?_⟩;rw[all_eq]at hok;have hx':=eG.1 hok x E;cases x with
 |tmp t=>
  refine ay t ?_;unfold Oper.looksAt;refine dn _ ?_;rw[List.mem_filterMap];exact⟨_,E,O⟩
 |const v=>exact .sc v hx'
 |global k=>
  have⟨l,W,J,h3,h4⟩:=gl k<|aF hx';have:=VR.ptr (m:=m) k 0 l W N;rw[J,h3,h4]at this;exact this
 |func ay=>exact .func (.func ay) [] [] [] [] .nil .nil
def aan(e:Nb m s ρ L)(A:R):Nb m ⟨s.nl,s.nt,s.reg,s.tm,s.df,A⟩ ρ L:=⟨λx E=>by have:=e.all x E;cases x<;>exact this⟩
theorem Inv.step(g:Rg P cf ops n nt S ak)(hcf:FC P n cf)(gl0:Gl n m0)(Ja:∀r l,m0 r=D l->r<nx S 0)(hD:Closed ops ag)(ai:Inv ops nt S ak m0 w0 d0 ag m a w)(hi:i<ops.size)(Ee:¬ag i)(n_:∀e,e∈ops[i].after.toList->fQ .any e=f->ag e.on)(HK:∀m' a' w',Inv ops nt S ak m0 w0 d0 (FF ag i) m' a' w'->K a' w'):wpOp P ops au i K a w:=by
 have hoi:ops[i]?=D ops[i]:=bC hi;have hst:=g.step i _ hoi;have hok:=g.ok i _ hoi;unfold xA at hok;rw[bg]at hok;have hdst:Kn (S i).nt ops[i].dst=f:=by rw[g.nts i _ hoi];exact hok.2
 have hsl:∀t,t∈ops[i].looksAt ops->VR (m.upto<|nx S i) (iA (S i) t) (a.tmps.getD t undef):=λt ht=>ai.slot t i N<|aam g hD hi Ee n_ ht
 have gli:Gl n (m.upto<|nx S i):=by
  intro k hk;have⟨l,W,J⟩:=gl0 k hk;exact⟨l,Mp.FD (ai.mem.le _ _ W)<|aR (Ja _ _ W)<|g.mono 0 i N N,J⟩
 have e:=ahi gli hok.1 hsl
 have fin:∀(v v':Z)(m':Mp)(w':bY),MInv S ak ops.size m0 w0 (FF ag i) m' w'->Mp.le m m'->VR (m'.upto<|nx S<|i+1) v v'->(∀t,ops[i].dst=D t->iA (S<|i+1) t=v)->K (a.put ops[i].dst v') w':=by
  intro v v' m' w' hM hle hv hl;exact HK m' _ w' ⟨hM,by rw[aal];exact ai.size,XR g hD ai.size ai.slot hi Ee hle hv hl,by rw[put_defers];exact ai.de⟩
 have aiZ:Mp.le (m.upto<|nx S i) (m.upto<|nx S<|i+1):=Mp.xB (λ_ _ h=>h)<|g.Qj hi;unfold wpOp;rw[hoi];generalize hs1:S (i+1)=s1 at hst;generalize hci:ak i=c at hst;cases hst with
 |skip hw=>
  simp only[Ku hsl hw,cB,kJ];refine fin undef undef m w (ai.mem.still hi λr _=>by rw[hs1,lF]) (λ_ _ h=>h) (.tuple [] [] .nil) ?_;intro t ht;rw[hs1,yY hdst,if_pos ht]
 |Cm v hw y=>
  simp only[Ku hsl hw,kK];left;have⟨v',W,J⟩:=Oz y e.g_ λ_=>rfl;unfold Oper.wp;rw[J w];refine fin v v' m w (ai.mem.still hi λr _=>by rw[hs1,lF]) (λ_ _ h=>h) (W.mono aiZ) ?_;intro t ht;rw[hs1,yY hdst,if_pos ht]
 |mem v T hw y=>
  simp only[Ku hsl hw,kK];left
  have Nl:∀t,ops[i].dst=D t->iA (S<|i+1) t=v:=by
   intro t ht;rw[hs1,yY hdst,if_pos ht]
  have Cn:∀r,(S<|i+1).H.obj r=T.obj r:=by intro r;rw[hs1,lF];rfl
  have hnx:nx S (i+1)=T.next:=by show(S<|i+1).H.next=_;rw[hs1,lF]
  have ai0:(S ops.size).H.low<=T.low:=by
   have W:=g.low (i+1) ops.size N<|ax _;rw[hs1,lF]at W;have W:(S ops.size).H.low<=nY (S i).H.low T.low:=W;exact a_ W (DN _ _).2
  have Vv:((ak i).k=2\/((ak i).k=1/\nx S i<=T.low))->ops[i].wp P a w K au:=by
   intro hk
   have TB:(ak i).k=1\/(ak i).k=2:=by
    rcases hk with h|h
    .exact .inr h
    .exact .inl h.1
   have rh:RH (m.upto<|nx S i) (g_<|S i).H w:=by
    refine⟨λr l h=>(Mp.oU h).1,?_,?_⟩
    .intro r l h;have hu:=Mp.oU h;have⟨o,ho⟩:=ai.mem.XO r l hu.2;exact⟨o,ho,Rel.aae λκ=>ai.mem.cnt κ r l i o N hu.2 (g.Vs hD hi Ee n_ TB hu.1) ho⟩
    .intro r r' l l' h h' hd hd' hc;have hu:=Mp.oU h;have hu':=Mp.oU h';exact ai.mem.sep r r' l l' i i hu.2 hu'.2 hc N N (g.Vs hD hi Ee n_ TB hu.1) (g.Vs hD hi Ee n_ TB hu'.1) hd hd'
   refine Ks hcf (s:=g_<|S i) rh gli y e.g_ ?_;intro m2 v' w' W J h3
   have⟨m',f1,f2,f3⟩:=ai.mem.made g hD hi Ee n_ (A:=(g_<|S i).H) (A':=T) O hnx.symm J h3 (.inr ai0) (λr _ _=>(Cn r).symm)
    (by rcases TB with h|h<;>omega) (by
     rcases hk with h|h
     .exact .inl ⟨h,λr=>(Cn r).symm,λr=>rfl⟩
     .exact .inr ⟨N,h.2⟩)
   exact fin v v' m' w' f1 f2 (W.mono f3) Nl
  rcases OG (P:=P) (o:=ops[i].op) (s:=S i) (T:=T)with⟨p,ad,hs,ha,ec⟩|ec|⟨hlow,⟨hf,ec⟩|ec|⟨p,ad,l,hs,ha,hl,ec⟩⟩
  .
   have hc3:(ak i).k=3:=by rw[hci,ec]
   have hsk:=GM (g.step i _ hoi) hc3;have⟨t,x,hr,a1,H1,hop,hw1,ha1,hcl,ai1,alG,hwr⟩:=hsk.ex
   have hv:v=undef/\T=H1:=by
    rw[hop]at y;have h:=nZ (o:=zi P t (ev (g_<|S i) x) (ev (g_<|S i) hr) (g_<|S i).H) y;rw[AA,AA,ai1]at h;cases h;exact⟨O,O⟩
   have⟨w',r1,r2⟩:=ai.mem.stored g hD hi Ee n_ hc3 ha1 hcl ai1 (by rw[alG,lF]) hwr (e.all x (by rw[hop];simp[fV]))<|e.all hr (by rw[hop];simp[fV])
   have hrun:(execOp a.eval ops[i]).run P w=.ok .skip w':=by
    simp only[execOp,hop,dw,r1,bR,dI]
   unfold Oper.wp;rw[hrun];exact fin v undef m w' r2 (λ_ _ h=>h) (by rw[hv.1];exact .tuple [] [] .nil) Nl
  .exact Vv<|.inl (by rw[hci,ec])
  .
   have⟨ob,e1,e2⟩:=aaj (cf:=cf) (s:=g_<|S i) hf y;have hA:=e2 ⟨.nil,nx S i,nx S i⟩ O
   have rh:RH (m.upto<|nx S i) ⟨.nil,nx S i,nx S i⟩ w:=by
    refine⟨λr l h=>(Mp.oU h).1,?_,?_⟩
    .intro r l h;have⟨o,ho⟩:=ai.mem.XO r l (Mp.oU h).2;refine⟨o,ho,?_⟩;show uY _ _ ((Tr.nil:Tr lI).get .dead r) _;rw[Tr.get_nil];trivial
    .intro r r' l l' _ _ hd _ _;exact absurd (Tr.get_nil _ _) hd
   refine Ks hcf (s:=⟨(S i).nl,(S i).nt,(S i).reg,(S i).tm,(S i).df,⟨.nil,nx S i,nx S i⟩⟩) rh gli hA (aan e _) ?_;intro m2 v' w' W J h3;have Vw:(ak i).k=5:=by rw[hci,ec];rfl
   have⟨m',f1,f2,f3⟩:=ai.mem.made g hD hi Ee n_ (A:=⟨.nil,nx S i,nx S i⟩) (A':=(R.mk .nil (nx S i)<|nx S i).new ob) O (by rw[hnx,e1];rfl) J h3 (.inl<|ax _) (by
    intro r a1 a2;rw[Cn,e1,yN,yN]
    have:r=nx S i:=by
     rw[hnx,e1]at a2;have:r<nx S i+1:=a2;omega
    rw[if_pos this];exact(if_pos this).symm) N (.inr ⟨N,ax _⟩)
   exact fin v v' m' w' f1 f2 (W.mono f3) Nl
  .exact Vv<|.inr ⟨by rw[hci,ec];rfl,hlow⟩
  .
   have hc4:(ak i).k=4:=by rw[hci,ec]
   have hop:=XQ hs;rw[hop]at y;have hld:=nZ (o:=wu P p.1 (ev (g_<|S i) p.2) (g_<|S i).H) y;rw[AA]at hld;have E:=e.all p.2 (by rw[hop];simp[fV]);have hx0:=E;rw[pN ha]at hx0;have⟨l1,hm1,_,_,_⟩:=hx0.tV;have hu:=Mp.oU hm1;have⟨ob,Nj⟩:=ai.mem.XO _ _ hu.2;have hCr:(ak i).r=ad.block:=by rw[hci,ec]
   have hCo:(ak i).off=ad.off:=by rw[hci,ec]
   have hCn:(ak i).n=l.getD 1:=by rw[hci,ec]
   have⟨v',W,J⟩:=Ty (P:=P) (w:=w) (ob:=ob) hld E ha hl hm1 Nj (by
    intro k rg q1 q2 q3;have hcon:=g.alD hD hi Ee n_ hc4 (k:=k) (by rw[hCo];exact q1) (by rw[hCo,hCn];exact q2) (by rw[hCr];exact hu.1);rw[hCr]at hcon;have hrel:=ai.mem.cnt (D k) _ _ i ob N hu.2 hcon Nj;have hrel:Rel (D k) (m.upto<|nx S i) l1 (.cell<|lM ((S i).H.obj ad.block) k) ob:=hrel;replace q3:lM ((S i).H.obj ad.block) k=D rg:=q3;rw[q3]at hrel
    by_cases hlk:l1.lo<=k
    .exact hrel hlk
    .exfalso;have:=E;rw[pN ha]at this;have⟨l2,g1,g2,_⟩:=this.tV;rw[hm1]at g1;cases g1;omega)
   have hrun:(execOp a.eval ops[i]).run P w=.ok (.value v') w:=by
    simp only[execOp,hop,dw,J,bR,dI]
   unfold Oper.wp;rw[hrun];refine fin v v' m w (ai.mem.still hi λr hr'=>g.same hi N N hr') (λ_ _ h=>h) (W.mono aiZ) Nl
end u
section u
variable{P:aU}{cf:kT}{S:Nat->St}
def left(aa:Nat)(listed:Array Bool):Nat:=((f_ aa).filter λj=>!(listed.getD j aC)).length
def filter_le(p q:Nat->Bool)(h:∀x,p x=f->q x=f):∀(l:C Nat),(l.filter p).length<=(l.filter q).length:=by
 intro l
 induction l with
 |nil=>exact ax _
 |cons hr l ih=>
  simp only[oh];cases hy:p hr with
  |true=>rw[h hr hy];simp only[kK,cK];omega
  |false=>
   simp only[cB,kJ];split
   .simp only[cK];omega
   .exact ih
def filter_lt(p q:Nat->Bool)(h:∀x,p x=f->q x=f):∀(l:C Nat)(hr:Nat),hr∈l->q hr=f->p hr=aC->(l.filter p).length<(l.filter q).length:=by
 intro l
 induction l with
 |nil=>intro hr hy;cases hy
 |cons z l ih=>
  intro hr hy hq hp;simp only[oh];rcases bP.1 hy with e|hy
  .rw[<-e,hq,hp];have:=filter_le p q h l;simp only[kK,cB,kJ,cK];omega
  .have:=ih hr hy hq hp;cases hz:p z with
   |true=>rw[h z hz];simp only[kK,cK];omega
   |false=>
    simp only[cB,kJ];split
    .simp only[cK];omega
    .exact this
def XU(h:left aa listed=0):∀j,j<aa->listed.getD j aC=f:=by
 intro j hj;have:=gW h;have hm:=List.filter_eq_nil_iff.1 this j<|my.2 hj;simpa using hm
def aao(hs:listed.size=aa)(hi:i<aa)(hl:listed.getD i aC=aC):left aa (listed.setIfInBounds i f)<left aa listed:=by
 refine filter_lt _ _ ?_ _ i (my.2 hi) (by rw[hl];rfl) ?_
 .intro x E;cases h:listed.getD x aC with
  |false=>rfl
  |true=>rw[getD_set_true h]at E;exact E
 .have:(listed.setIfInBounds i f).getD i aC=f:=by simp[hs,hi]
  rw[this];rfl
def TC(aa:Nat):left aa (kQ aa aC)<=aa:=by
 unfold left;have:=nK (λj=>!((kQ aa aC).getD j aC))<|f_ aa;simpa using this
def any_ok(g:Rg P cf ops n nt S ak)(hcf:FC P n cf)(gl0:Gl n m0)(Ja:∀r l,m0 r=D l->r<nx S 0)(HQ:∀ag m a w,(∀j,j<ops.size->ag j)->Inv ops nt S ak m0 w0 d0 ag m a w->au .normal a w):
 ∀(fuel:Nat)(listed:Array Bool)(m:Mp)(a:Act)(w:bY),listed.size=ops.size->left ops.size listed<=fuel->Closed ops (λj=>listed.getD j aC=f)->
  Inv ops nt S ak m0 w0 d0 (λj=>listed.getD j aC=f) m a w->wpAny P .any ops au fuel listed a w:=by
 have hall:∀(listed:Array Bool),listed.size=ops.size->Region.ready .any ops listed=[]->∀j,j<ops.size->listed.getD j aC=f:=by
  intro listed hsz y j
  induction j using Nat.strongRecOn with
  |_ j ih=>
   intro hj;cases hl:listed.getD j aC with
   |true=>rfl
   |false=>
    have hoj:ops[j]?=D ops[j]:=bC hj
    have hmem:j∈Region.ready .any ops listed:=by
     rw[mem_ready];refine⟨by simp[hsz,hj]at hl|-;exact hl,ops[j],hoj,λe he hb=>?_⟩;have hlt:=CS ops.toList 0 j ops[j] g.back (by rw[eF];exact hoj) e (mg he) hb;exact ih e.on N N
    rw[y]at hmem;cases hmem
 intro fuel
 induction fuel with
 |zero=>
  intro listed m a w hsz hle hD ai;have W:=XU<|Nat.le_zero.1 hle;refine⟨?_,HQ _ m a w W ai⟩;cases y:Region.ready .any ops listed with
  |nil=>rfl
  |cons j l=>
   exfalso;have hj:j∈Region.ready .any ops listed:=by rw[y];exact aN ..
   rw[mem_ready]at hj;have⟨J,o,ho,_⟩:=hj;have hjs:j<ops.size:=(dU.1 ho).1;have:=W j hjs;simp[hsz,hjs]at J this;rw[J]at this;cases this
 |succ fuel ih=>
  intro listed m a w hsz hle hD ai;refine⟨λy=>HQ _ m a w (hall listed hsz y) ai,λi hi=>?_⟩;rw[mem_ready]at hi;have⟨J,o,ho,h3⟩:=hi;have his:i<ops.size:=(dU.1 ho).1
  have hoo:ops[i]=o:=by
   have:=bC his;rw[ho]at this;injection this with this;exact this.symm
  subst hoo;have hun:listed.getD i aC=aC:=by simp[hsz,his]at J|-;exact J
  have hset:∀j,((listed.setIfInBounds i f).getD j aC=f)<->FF (λj=>listed.getD j aC=f) i j:=by
   intro j
   by_cases e:i=j
   .subst e;exact⟨λ_=>.inr O,λ_=>by simp[hsz,his]⟩
   .rw[getD_set_ne aC e];exact⟨.inl,λh=>h.resolve_right<|oW e⟩
  refine Inv.step g hcf gl0 Ja hD ai his (by rw[hun];simp) (λe he hb=>h3 e (mg he) hb) ?_;intro m' a' w' I'
  have hfun:(λj=>(listed.setIfInBounds i f).getD j aC=f)=FF (λj=>listed.getD j aC=f) i:=by
   funext j;exact propext<|hset j
  refine ih (listed.setIfInBounds i f) m' a' w' (mg hsz) ?_ ?_ (by rw[hfun];exact I')
  .have:=aao (aa:=ops.size) hsz his hun;omega
  .intro j o hj LV e he hb;rcases(hset j).1 LV with h|h
   .exact getD_set_true<|hD j o hj h e he hb
   .subst h;rw[ho]at hj;cases hj;exact getD_set_true<|h3 e (mg he) hb
end u
section mem
variable{P:aU}
def aec(hmo:P.follows .mixedOrders=f){cf:kT}(hcf:FC P n cf)(nt:Nat):OA P cf n nt:=by
 intro id ops s m a w au hall hpl hnt rh ay gl hpost;replace hpost:Post m s.H w a.defers nt s.df au (bV (kD ops&&o9 ops) (vN ops<|jh P cf ops ops.toList (clear s) []) .fail):=hpost;cases hst:o9 ops with
 |false=>rw[hpl,hst]at hpost;exact hpost.elim
 |true=>
  rw[hpl,hst]at hpost;replace hpost:Post m s.H w a.defers nt s.df au (vN ops<|jh P cf ops ops.toList (clear s) []):=hpost;cases y:jh P cf ops ops.toList (clear s) []with
  |none=>rw[y]at hpost;exact hpost.elim
  |some q=>
   have⟨s1,cls⟩:=q;rw[y]at hpost;replace hpost:Post m s.H w a.defers nt s.df au (bV (jT ops cls) (.norm s1) .fail):=hpost;cases hdy:jT ops cls with
   |false=>rw[hdy]at hpost;exact hpost.elim
   |true=>
    rw[hdy]at hpost;replace hpost:To m s.H w a.defers nt s.df s1 (au .normal):=hpost;rw[all_eq,eG]at hall;have⟨S,ak,e0,eN,e3,e4,_,e6⟩:=trace hcf (ops:=ops) (nt:=nt) ops.toList (clear s) s1 [] cls m a w hall hnt rh ay.clear gl y;simp only[oI]at eN e3 e4;have hto:∀(j:Nat)(o:Oper),ops[j]?=D o->ops.toList[j]?=D o:=λj o h=>by rw[eF];exact h
    have hsp:=XN hst
    have hk5:∀j,j<ops.size->(ak j).k<=5:=by
     intro j hj;have hs:=(e6 j _<|hto j _<|bC hj).1;generalize S (j+1)=s2 at hs;generalize ak j=c at hs;cases hs with
     |skip hw=>exact bA _
     |Cm v hw y=>exact bA _
     |mem v T hw y=>exact aab
    have g:Rg P cf ops n nt S ak:=by
     refine⟨λj o h=>(e6 j o<|hto j o h).1,λj o h=>(e6 j o<|hto j o h).2.1,λj o h=>(e6 j o<|hto j o h).2.2,?_,hsp.1,hsp.2,?_⟩
     .intro j o h;exact hall o<|aS<|hto j o h
     .exact aac hdy (mg e3) e4 hk5
    have XV:nx S 0=s.H.next:=by show(S 0).H.next=_;rw[e0];rfl
    have Qm:∀r,(S 0).H.obj r=s.H.obj r:=by intro r;rw[e0];rfl
    have Ja:∀r l,m r=D l->r<nx S 0:=λr l h=>by rw[XV];exact rh.dom r l h
    have hup:∀k,k<=ops.size->Mp.le m (m.upto<|nx S k):=λk hk r l h=>Mp.FD h<|aR (Ja r l h)<|g.mono 0 k N hk
    have alH:∀j,j<=ops.size->(S j).df=s.df:=by
     intro j
     induction j with
     |zero=>intro _;rw[e0];rfl
     |succ j ih=>
      intro hj;have hs:=g.step j _<|bC hj;rw[<-ih N];generalize S (j+1)=s2 at hs;generalize ak j=c at hs;cases hs with
      |skip hw=>rw[DL]
      |Cm v hw y=>rw[DL]
      |mem v T hw y=>rw[DL]
    have ai2:(S ops.size).nt=nt:=by
     cases hz:ops.size with
     |zero=>rw[e0];exact hnt
     |succ k=>
      have hj:k<ops.size:=N;have hoj:=bC hj;have hs:=g.step k _ hoj;rw[<-g.nts k _ hoj];generalize S (k+1)=s2 at hs;generalize ak k=c at hs;cases hs with
      |skip hw=>rw[yP]
      |Cm v hw y=>rw[yP]
      |mem v T hw y=>rw[yP]
    have hfalse:∀j,((kQ ops.size aC).getD j aC=f)<->False:=by
     intro j;simp only[gJ,Array.getElem?_replicate,iff_false];split<;>simp
    have Nk:∀κ r k,k<=ops.size->Ec S ops.size (λj=>(kQ ops.size aC).getD j aC=f) κ r k->r<nx S 0->at' S κ r 0=at' S κ r k:=by
     intro κ r k hk hcon y;refine Ec.eq g.mono N hk ⟨y,λj _ _ _=>?_⟩ hcon;rw[hfalse];exact⟨λh=>h.elim,λh=>N⟩
    have hI:Inv ops nt S ak m w.drew a.defers (λj=>(kQ ops.size aC).getD j aC=f) m a w.drew:=by
     refine⟨⟨?_,?_,?_,?_,?_,?_,λ_ _ h=>h,?_,rfl,rfl,rfl,ax _,λ_ _ _=>rfl⟩,by rw[ay.size];exact hnt,?_,O⟩
     .exactλr l h=>.inl ⟨h,Ja r l h⟩
     .intro r l h;have⟨o,ho,_⟩:=rh.ok r l h;exact⟨o,ho⟩
     .intro κ r l k o hk hm hcon ho;have⟨o',ho',hok⟩:=rh.ok r l hm
      have:o'=o:=by
       have W:w.heap[l.c]?=D o:=ho;rw[ho']at W;injection W
      subst this;rw[<-Qm]at hok;have hrel:Rel κ m l (at' S κ r 0) o':=Rel.jb hok;rw[Nk κ r k hk hcon (Ja r l hm)]at hrel;exact hrel.mono<|hup k hk
     .intro r r' l l' k k' W J h3 h4 h5 h6 h7 h8 h9;refine rh.sep r r' l l' W J ?_ ?_ h3
      .rw[<-Qm];exact BB (Nk Q r k h4 h6<|Ja r l W).symm h8
      .rw[<-Qm];exact BB (Nk Q r' k' h5 h7<|Ja r' l' J).symm h9
     .intro r r' l l' j W J _ hj _ _;have hm:=g.mono 0 j N N;exact⟨λ_=>aR (Ja r' l' J) hm,λ_=>aR (Ja r l W) hm⟩
     .intro j r _ LV;exact((hfalse j).1 LV).elim
     .intro r l h h0;rw[h]at h0;cases h0
     .intro t k hk hcon
      have hsame:∀d,d<=k->iA (S d) t=iA (S 0) t:=by
       intro d
       induction d with
       |zero=>intro _;rfl
       |succ d ih=>
        intro hd;have hj:d<ops.size:=N;have hoj:ops[d]?=D ops[d]:=bC hj;rw[g.look hoj t ?_,ih N];intro e;exact(hfalse d).1<|(hcon d _ hoj e).2 N
      rw[hsame k (ax _),e0];exact(ay.clear.slot t).mono<|hup k hk
    refine wp_region_any hmo ?_;refine any_ok g hcf gl Ja ?_ ops.size (kQ ops.size aC) m a w.drew kg (TC _) (λj o _ h=>((hfalse j).1 h).elim) hI;intro ag m' a' w' hD ai;have aap:∀κ r,r<nx S ops.size->Ec S ops.size ag κ r ops.size:=λκ r y=>⟨y,λj hj _ _=>⟨λ_=>hj,λ_=>hD j hj⟩⟩
    have Vx:∀r l,m' r=D l->r<nx S ops.size:=by
     intro r l h;rcases ai.mem.dom r l h with⟨_,W⟩|⟨j,hj,_,_,W⟩
     .exact aR W<|g.mono 0 _ N<|ax _
     .exact aR W<|g.mono _ _ N<|ax _
    have hnone:∀r,r<nx S 0->m r=Q->m' r=Q:=by
     intro r y h;cases W:m' r with
     |none=>rfl
     |some l=>
      rcases ai.mem.dom r l W with⟨J,_⟩|⟨j,hj,_,J,_⟩
      .rw[h]at J;cases J
      .have:=g.mono 0 j N N;omega
    refine hpost m' a' w' ⟨⟨?_,?_⟩,⟨?_,?_,?_⟩,?_,ai.de,?_,?_⟩
    .rw[<-eN,ai2];exact ai.size
    .intro t;rw[<-eN];refine(ai.slot t ops.size (ax _) ?_).mono<|Mp.Vn _ _;intro j o hj _;have:j<ops.size:=(dU.1 hj).1;exact⟨λ_=>this,λ_=>hD j this⟩
    .intro r l h;rw[<-eN];exact Vx r l h
    .intro r l h;have⟨o,ho⟩:=ai.mem.XO r l h;rw[<-eN];exact⟨o,ho,(Rel.aae λκ=>ai.mem.cnt κ r l ops.size o (ax _) h (aap κ r<|Vx r l h) ho).mono<|Mp.Vn _ _⟩
    .intro r r' l l' h h' hd hd' hc;rw[<-eN]at hd hd';exact ai.mem.sep r r' l l' _ _ h h' hc (ax _) (ax _) (aap Q r<|Vx r l h) (aap Q r'<|Vx r' l' h') hd hd'
    .have hex:Ex m m' s.H s1.H w.drew w':=by
      rw[<-eN];refine⟨ai.mem.le,?_,?_,ai.mem.os,ai.mem.tape,ai.mem.output,ai.mem.size,ai.mem.keep,?_,?_,?_,?_⟩
      .intro r l h h0;rcases ai.mem.dom r l h with⟨J,_⟩|⟨j,hj,_,J,_⟩
       .rw[h0]at J;cases J
       .rw[<-XV];exact a_ (g.mono 0 j N N) J
      .exact ai.mem.fresh
      .rw[<-XV];exact g.mono 0 _ N<|ax _
      .have:=g.low 0 ops.size N (ax _);rw[e0]at this;exact this
      .intro r W J
       have:∀d,d<=ops.size->(S d).H.obj r=s.H.obj r:=by
        intro d
        induction d with
        |zero=>intro _;exact Qm r
        |succ d ih=>
         intro hd;rw[g.ad9 (j:=d) N (aR (by rw[XV];exact W)<|g.mono 0 d N N) J,ih N]
       exact this ops.size<|ax _
      .intro r W J;have hmn:=hnone r (by rw[XV];exact W) J
       have:∀d,d<=ops.size->(S d).H.obj r=s.H.obj r:=by
        intro d
        induction d with
        |zero=>intro _;exact Qm r
        |succ d ih=>
         intro hd;rw[ai.mem.hid d r N (hD d N) (aR (by rw[XV];exact W)<|g.mono 0 d N N) hmn,ih N]
       exact this ops.size<|ax _
     exact(Ex.drew m s.H w).trans hex
    .rw[<-eN];exact ai2
    .rw[<-eN];exact alH _<|ax _
def levels(hmo:P.follows .mixedOrders=f){X:Xt}(hP:Ce P n)(hX:Zc P X)(hO:I_ P X n)(k:Nat):OC P n (kE P X k):=
 (Z9 hP hX hO (λ_ hcf nt=>aec hmo hcf nt) k).2.2
end mem
section mem
variable{P:aU}
def Ce.TE(h:all' (Z8 n) P.funcs.toList=f):Ce P n:=by
 intro g fn hg;rw[all_eq,eG]at h;exact h fn<|aS (by rw[eF];exact hg)
end mem
def Kv(cf zM:kT):Prop:=∀g args H r,cf g args H=D r->zM g args H=D r
def aaq(cx PK:Code->St->Out):Prop:=∀c s,cx c s≠.fail->PK c s=cx c s
section mem
variable{P:aU}
def afH{o:aB (Z×R)}(h:rm o≠.fail):∃r,o=D r:=by
 cases o with
 |none=>exact absurd O h
 |some r=>exact⟨r,O⟩
def Qn{cf:kT}(h:Kv cf zM){o:Op}(hne:yL o P cf s≠.fail):yL o P zM s=yL o P cf s:=by
 cases o with
 |call c=>
  replace hne:wU c P cf s≠.fail:=hne;show wU c P zM s=wU c P cf s;have⟨callee,args,ats⟩:=c;cases callee with
  |builtin b=>rfl
  |value ay=>
   have⟨r,y⟩:=afH (o:=aL (nQ (.value ay) P s) λq=>cf q.1 (app q.2.1<|app (mp (ev s) args.toList) q.2.2) s.H) hne;show rm (aL (nQ (.value ay) P s) λq=>zM q.1 (app q.2.1<|app (mp (ev s) args.toList) q.2.2) s.H)=rm (aL (nQ (.value ay) P s) λq=>cf q.1 (app q.2.1<|app (mp (ev s) args.toList) q.2.2) s.H);rw[y];have⟨q,W,J⟩:=aJ y;rw[W];show rm (zM _ _ _)=_;rw[h _ _ _ _ J]
  |invoke ay nm=>
   have⟨r,y⟩:=afH (o:=aL (nQ (.invoke ay nm) P s) λq=>cf q.1 (app q.2.1<|app (mp (ev s) args.toList) q.2.2) s.H) hne;show rm (aL (nQ (.invoke ay nm) P s) λq=>zM q.1 (app q.2.1<|app (mp (ev s) args.toList) q.2.2) s.H)=rm (aL (nQ (.invoke ay nm) P s) λq=>cf q.1 (app q.2.1<|app (mp (ev s) args.toList) q.2.2) s.H);rw[y];have⟨q,W,J⟩:=aJ y;rw[W];show rm (zM _ _ _)=_;rw[h _ _ _ _ J]
 |_=>rfl
def XW{cf:kT}(h:Kv cf zM)(hs:zL P cf o s=D s1):zL P zM o s=D s1:=by
 unfold zL at hs|-;cases hd:qZ o.op with
 |some c=>rw[hd]at hs;exact hs
 |none=>
  rw[hd]at hs;replace hs:Ew o s (yL o.op P cf s)=D s1:=hs;show Ew o s (yL o.op P zM s)=D s1;rw[Qn h (by intro e;rw[e]at hs;cases hs)];exact hs
def Ik{cf:kT}(h:Kv cf zM)(hs:mE P cf ops o s=D s1):mE P zM ops o s=D s1:=by
 have⟨b,hb,J⟩:=aJ hs;unfold mE;rw[hb];cases b with
 |true=>exact XW h J
 |false=>exact J
def Il{cf:kT}(h:Kv cf zM):∀{l:C Oper}{s s1:St},mQ P cf ops l s=D s1->mQ P zM ops l s=D s1:=by
 intro l
 induction l with
 |nil=>intro s s1 hs;exact hs
 |cons o l ih=>
  intro s s1 hs;replace hs:(aL (mE P cf ops o s) λs=>mQ P cf ops l s)=D s1:=hs;have⟨s2,W,J⟩:=aJ hs;show(aL (mE P zM ops o s) λs=>mQ P zM ops l s)=D s1;rw[Ik h W];exact ih J
def FH{cf:kT}(h:Kv cf zM){r:St×Cl}(hs:kZ P cf ops o s=D r):kZ P zM ops o s=D r:=by
 have⟨b,hb,J⟩:=aJ hs;unfold kZ;rw[hb];cases b with
 |true=>
  replace J:H_ P o s (yL o.op P cf<|g_ s)=D r:=J;show H_ P o s (yL o.op P zM<|g_ s)=D r;rw[Qn h (by intro e;rw[e]at J;cases J)];exact J
 |false=>exact J
def FI{cf:kT}(h:Kv cf zM):∀{l:C Oper}{s:St}{acc:C Cl}{r:St×C Cl},jh P cf ops l s acc=D r->jh P zM ops l s acc=D r:=by
 intro l
 induction l with
 |nil=>intro s acc r hs;exact hs
 |cons o l ih=>
  intro s acc r hs;replace hs:(aL (kZ P cf ops o s) λq=>jh P cf ops l q.1<|q.2::acc)=D r:=hs;have⟨s2,W,J⟩:=aJ hs;show(aL (kZ P zM ops o s) λq=>jh P zM ops l q.1<|q.2::acc)=D r;rw[FH h W];exact ih J
def Qo{cf:kT}(h:Kv cf zM){d:Bool}(hne:region P cf ops d s≠.fail):region P zM ops d s=region P cf ops d s:=by
 cases d with
 |false=>
  replace hne:Ib (mQ P cf ops ops.toList<|clear s)≠.fail:=hne;show Ib (mQ P zM ops ops.toList<|clear s)=Ib (mQ P cf ops ops.toList<|clear s);cases y:mQ P cf ops ops.toList (clear s)with
  |none=>rw[y]at hne;exact absurd O hne
  |some s1=>rw[Il h y]
 |true=>
  replace hne:bV (kD ops&&o9 ops) (vN ops<|jh P cf ops ops.toList (clear s) []) .fail≠.fail:=hne;show bV (kD ops&&o9 ops) (vN ops<|jh P zM ops ops.toList (clear s) []) .fail=bV (kD ops&&o9 ops) (vN ops<|jh P cf ops ops.toList (clear s) []) .fail;cases hb:(kD ops&&o9 ops)with
  |false=>rfl
  |true=>
   rw[hb]at hne;replace hne:vN ops (jh P cf ops ops.toList (clear s) [])≠.fail:=hne;show vN ops (jh P zM ops ops.toList (clear s) [])=vN ops (jh P cf ops ops.toList (clear s) []);cases y:jh P cf ops ops.toList (clear s) []with
   |none=>rw[y]at hne;exact absurd O hne
   |some r=>rw[FI h y]
def FJ{o o':Out}{k k':St->Out}(ho:o≠.fail->o'=o)(hk:∀s,k s≠.fail->k' s=k s)(hne:andThen o k≠.fail):andThen o' k'=andThen o k:=by
 cases o with
 |fail=>exact absurd O hne
 |norm s=>rw[ho kg];exact hk s hne
 |exit i s=>rw[ho kg];rfl
 |goto l s=>rw[ho kg];rfl
 |ret s=>rw[ho kg];rfl
def Kw{ay f':St->Out}(hf:∀s,ay s≠.fail->f' s=ay s):∀(n n':Nat),n<=n'->∀s,xY n ay s≠.fail->xY n' f' s=xY n ay s:=by
 intro n
 induction n with
 |zero=>intro n' _ s h;exact absurd O h
 |succ n ih=>
  intro n' hn s h;cases n' with
  |zero=>omega
  |succ n'=>
   show andThen (f' s) (xY n' f')=andThen (ay s) (xY n ay);exact FJ (hf s) (λs' h'=>ih n' N s' h') h
def CU(E:aaq cx PK)(body:Code):∀(n n':Nat),n<=n'->∀o,nR cx n body o≠.fail->nR PK n' body o=nR cx n body o:=by
 intro n
 induction n with
 |zero=>intro n' _ o h;exact absurd O h
 |succ n ih=>
  intro n' hn o h;cases n' with
  |zero=>omega
  |succ n'=>
   cases o with
   |goto l s=>
    replace h:(@aM Code (λ_=>Out) (.goto l s) (λrest=>nR cx n body<|cx rest s) (findLabel body l):Out)≠.fail:=h;show(@aM Code (λ_=>Out) (.goto l s) (λrest=>nR PK n' body<|PK rest s) (findLabel body l):Out)=(@aM Code (λ_=>Out) (.goto l s) (λrest=>nR cx n body<|cx rest s) (findLabel body l):Out);cases hf:findLabel body l with
    |none=>rfl
    |some rest=>
     rw[hf]at h;replace h:nR cx n body (cx rest s)≠.fail:=h;show nR PK n' body (PK rest s)=nR cx n body (cx rest s)
     have hne:cx rest s≠.fail:=by
      intro e;rw[e]at h;cases n with
      |zero=>exact h O
      |succ n=>exact h O
     rw[E rest s hne];exact ih n' N _ h
   |_=>rfl
theorem GN{cf:kT}(h:Kv cf zM)(E:aaq cx PK)(hn:n<=n'):∀(c:Code)(s:St),exec P cf cx n c s≠.fail->exec P zM PK n' c s=exec P cf cx n c s:=by
 intro c
 induction c with
 |region id ops d=>intro s hne;exact Qo h hne
 |seq a b iha ihb=>
  intro s hne;exact FJ (o:=exec P cf cx n a s) (o':=exec P zM PK n' a s) (k:=exec P cf cx n b) (k':=exec P zM PK n' b) (iha s) ihb hne
 |cond c a b iha ihb=>
  intro s hne;replace hne:Ia (jQ<|ev s c) (exec P cf cx n a s) (exec P cf cx n b s)≠.fail:=hne;show Ia (jQ<|ev s c) (exec P zM PK n' a s) (exec P zM PK n' b s)=Ia (jQ<|ev s c) (exec P cf cx n a s) (exec P cf cx n b s);cases hb:jQ (ev s c)with
  |none=>rfl
  |some b'=>
   rw[hb]at hne;cases b' with
   |true=>exact iha s hne
   |false=>exact ihb s hne
 |block id a ih=>
  intro s hne;replace hne:xq id (exec P cf cx n a s)≠.fail:=hne;show xq id (exec P zM PK n' a s)=xq id (exec P cf cx n a s);rw[ih s (by intro e;rw[e]at hne;exact hne O)]
 |loop a ih=>intro s hne;exact Kw ih n n' hn s hne
 |scope a ih=>
  intro s hne;replace hne:nR cx n a (exec P cf cx n a s)≠.fail:=hne;show nR PK n' a (exec P zM PK n' a s)=nR cx n a (exec P cf cx n a s)
  have hne2:exec P cf cx n a s≠.fail:=by
   intro e;rw[e]at hne;cases n with
   |zero=>exact hne O
   |succ n=>exact hne O
  rw[ih s hne2];exact CU E a n n' hn _ hne
 |_=>intro s _;rfl
def Qp{X:Xt}{L L':Lv}(h:Kv L.ca L'.ca)(E:aaq L.cx L'.cx)(hn:n<=n'):Kv (Br P X L n) (Br P X L' n'):=by
 intro g args H r y;cases hor:X.o g args H with
 |some q=>rw[CQ hor]at y|-;exact y
 |none=>
 rw[x_ hor]at y|-;have⟨fn,W,J⟩:=aJ y;rw[W];show Xc P L' n' g (X g) fn args H=D r;unfold Xc at J|-;cases hb:fn.body with
 |none=>rw[hb]at J;exact J
 |some c=>
  rw[hb]at J;have⟨h3,h4⟩:=fI (b:=aD (len args) fn.ntmps) J;have⟨s,h5,h6⟩:=aJ h4;show gd (aD (len args) fn.ntmps) (aL (Oc<|exec P L'.ca L'.cx n' c ⟨jv P g,fn.ntmps,[],Tr.tu top args 0 .nil,[],H⟩) λs=>Ic P fn s)=D r;rw[h3,GN h E hn c _ (by intro e;rw[e]at h5;cases h5),h5];exact h6
def yR{X:Xt}:∀(n n':Nat),n<=n'->Kv (lv P X n).ca (lv P X n').ca/\aaq (lv P X n).cx (lv P X n').cx:=by
 intro n
 induction n with
 |zero=>intro n' _;exact⟨(λg args H r h=>by cases h),(λc s h=>absurd O h)⟩
 |succ n ih=>
  intro n' hn;cases n' with
  |zero=>omega
  |succ n'=>
   have⟨W,J⟩:=ih n' N;exact⟨Qp W J N,λc s h=>GN W J N c s h⟩
def Ca(P:aU)(X:Xt)(g:FuncId)(args:C Z)(H:R)(v:Z)(T:R):Prop:=∃k,kE P X k g args H=D (v,T)
def FK(P:aU)(X:Xt)(k:Nat)(c:Code)(s:St):Out:=exec P (lv P X k).ca (lv P X k).cx k c s
def Ev(P:aU)(X:Xt)(c:Code)(s:St)(o:Out):Prop:=o≠.fail/\∃k,FK P X k c s=o
def Ro(P:aU)(X:Xt)(ops:Array Oper)(l:C Oper)(s s':St):Prop:=∃k,mQ P (kE P X k) ops l s=D s'
def RoD(P:aU)(X:Xt)(ops:Array Oper)(l:C Oper)(s:St)(acc:C Cl)(r:St×C Cl):Prop:=∃k,jh P (kE P X k) ops l s acc=D r
variable{X:Xt}
def Ca.le(h:kE P X k g args H=D (v,T))(hk:k<=k'):kE P X k' g args H=D (v,T):=(yR k k' hk).1 _ _ _ _ h
def BD{o:Out}(h:FK P X k c s=o)(ho:o≠.fail)(hk:k<=k'):FK P X k' c s=o:=by
 rw[<-h];exact GN (yR k k' hk).1 (yR k k' hk).2 hk c s (by show FK P X k c s≠_;rw[h];exact ho)
section rules
variable{o:Out}{a b:Code}
def Ev.skip:Ev P X .skip s (.norm s):=⟨by simp,0,rfl⟩
def Ev.label{l:Nat}:Ev P X (.label l) s (.norm s):=⟨by simp,0,rfl⟩
def Ev.exit:Ev P X (.exit i) s (.exit i s):=⟨by simp,0,rfl⟩
def Ev.ret:Ev P X .ret s (.ret s):=⟨by simp,0,rfl⟩
def Ev.seq(W:Ev P X a s<|.norm s1)(J:Ev P X b s1 o):Ev P X (.seq a b) s o:=by
 have⟨n1,k1,W⟩:=W;have⟨n2,k2,J⟩:=J;refine⟨n2,max k1 k2,?_⟩;show andThen (FK P X (max k1 k2) a s) (FK P X (max k1 k2) b)=o;rw[BD W n1 (nC _ _)];exact BD J n2<|ko _ _
def Ev.aed(W:Ev P X a s<|.ret s1):Ev P X (.seq a b) s (.ret s1):=by
 have⟨n1,k1,W⟩:=W;refine⟨n1,k1,?_⟩;show andThen (FK P X k1 a s) (FK P X k1 b)=_;rw[W];rfl
def Ev.aar(W:Ev P X a s<|.exit i s1):Ev P X (.seq a b) s (.exit i s1):=by
 have⟨n1,k1,W⟩:=W;refine⟨n1,k1,?_⟩;show andThen (FK P X k1 a s) (FK P X k1 b)=_;rw[W];rfl
def Ev.cond{x:bT}{t:Bool}(E:jQ (ev s x)=D t)(h:Ev P X (if t then a else b) s o):Ev P X (.cond x a b) s o:=by
 have⟨n1,k1,W⟩:=h;refine⟨n1,k1,?_⟩;show Ia (jQ<|ev s x) (FK P X k1 a s) (FK P X k1 b s)=o;rw[E];cases t with
 |true=>exact W
 |false=>exact W
def Ev.block(h:Ev P X a s<|.norm s1):Ev P X (.block i a) s (.norm s1):=by
 have⟨n1,k1,W⟩:=h;refine⟨n1,k1,?_⟩;show xq i (FK P X k1 a s)=_;rw[W];rfl
def Ev.aee(W:Ev P X a s<|.norm s1)(J:Ev P X (.loop a) s1 o):Ev P X (.loop a) s o:=by
 have⟨n1,k1,W⟩:=W;have⟨n2,k2,J⟩:=J;refine⟨n2,max k1 k2+1,?_⟩;show andThen (FK P X (max k1 k2+1) a s) (xY (max k1 k2)<|FK P X (max k1 k2+1) a)=o;rw[BD W n1 (a_ (nC _ _)<|iU _)];show xY (max k1 k2) (FK P X (max k1 k2+1) a) s1=o;replace J:xY k2 (FK P X k2 a) s1=o:=J;rw[<-J];refine Kw ?_ k2 _ (ko _ _) s1 (by rw[J];exact n2);intro s2 hne;exact BD O hne<|a_ (ko _ _)<|iU _
def Ev.aas(h:Ev P X a s<|.exit i s1):Ev P X (.loop a) s (.exit i s1):=by
 have⟨n1,k1,W⟩:=h;refine⟨n1,k1+1,?_⟩;show andThen (FK P X (k1+1) a s) _=_;rw[BD W n1 (iU _)];rfl
def Ev.aat(h:Ev P X a s<|.ret s1):Ev P X (.loop a) s (.ret s1):=by
 have⟨n1,k1,W⟩:=h;refine⟨n1,k1+1,?_⟩;show andThen (FK P X (k1+1) a s) _=_;rw[BD W n1 (iU _)];rfl
def Ev.region{id:Nat}(h:Ro P X ops ops.toList (clear s) s1):Ev P X (.region id ops aC) s (.norm s1):=by
 have⟨k,h⟩:=h;refine⟨by simp,k,?_⟩;show Ib (mQ P (kE P X k) ops ops.toList<|clear s)=_;rw[h];rfl
def Ev.Qq{id:Nat}(hp:(kD ops&&o9 ops)=f)(h:RoD P X ops ops.toList (clear s) [] (s1,cls))(hd:jT ops cls=f):Ev P X (.region id ops f) s (.norm s1):=by
 have⟨k,h⟩:=h;refine⟨by simp,k,?_⟩;show bV (kD ops&&o9 ops) (vN ops<|jh P (kE P X k) ops ops.toList (clear s) []) .fail=_;rw[hp];show vN ops (jh P (kE P X k) ops ops.toList (clear s) [])=_;rw[h];show bV (jT ops cls) (Out.norm s1) Out.fail=_;rw[hd];rfl
def Ro.nil:Ro P X ops [] s s:=⟨0,O⟩
def So(P:aU)(X:Xt)(ops:Array Oper)(p:Oper)(s s':St):Prop:=∃k,mE P (kE P X k) ops p s=D s'
def Ro.cons{l:C Oper}(W:So P X ops p s s1)(J:Ro P X ops l s1 s2):Ro P X ops (p::l) s s2:=by
 have⟨k1,W⟩:=W;have⟨k2,J⟩:=J;refine⟨max k1 k2,?_⟩;show(aL (mE P (kE P X<|max k1 k2) ops p s) λs=>mQ P (kE P X<|max k1 k2) ops l s)=_;rw[show mE P (kE P X<|max k1 k2) ops p s=D s1 from Ik (yR k1 _<|nC k1 k2).1 W];exact Il (yR k2 _<|ko k1 k2).1 J
def So.Cm(hw:qK ops s p.guard=D f)(hd:qZ p.op=Q)(h:∀cf,yL p.op P cf s=.Cm v):So P X ops p s (jk s p.dst v s.H):=by
 refine⟨0,?_⟩;unfold mE;rw[hw];show zL P _ p s=_;unfold zL;rw[hd];show Ew p s (yL p.op P _ s)=_;rw[h];rfl
def So.mem(hw:qK ops s p.guard=D f)(hd:qZ p.op=Q)(h:∀cf,yL p.op P cf s=.mem v T):So P X ops p s (jk s p.dst v T):=by
 refine⟨0,?_⟩;unfold mE;rw[hw];show zL P _ p s=_;unfold zL;rw[hd];show Ew p s (yL p.op P _ s)=_;rw[h];rfl
def So.skip(hw:qK ops s p.guard=D aC):So P X ops p s (jk s p.dst undef s.H):=by
 refine⟨0,?_⟩;unfold mE;rw[hw];rfl
def So.call{q:Call}{pre post:C Z}(hw:qK ops s p.guard=D f)(hop:p.op=.call q)(hb:isBuiltin q.callee=Q)(hc:nQ q.callee P s=D (g,pre,post))(h:Ca P X g (app pre<|app (mp (ev s) q.args.toList) post) s.H v T):So P X ops p s (jk s p.dst v T):=by
 have⟨k,h⟩:=h;refine⟨k,?_⟩;unfold mE;rw[hw];show zL P _ p s=_;unfold zL;rw[show qZ p.op=Q from by rw[hop];rfl];show Ew p s (yL p.op P (kE P X k) s)=_
 have:yL p.op P (kE P X k) s=.mem v T:=by
  rw[hop];show wU q P (kE P X k) s=_;unfold wU;rw[hb];show rm (aL (nQ q.callee P s) λz=>kE P X k z.1 (app z.2.1<|app (mp (ev s) q.args.toList) z.2.2) s.H)=_;rw[hc];show rm (kE P X k g (app pre<|app (mp (ev s) q.args.toList) post) s.H)=_;rw[h];rfl
 rw[this];rfl
def Ca.body(hor:X.o g args H=Q)(hg:nth P.funcs.toList g=D fn)(hb:fn.body=D c)(hl:aD (len args) fn.ntmps=f)(h:Ev P X c ⟨jv P g,fn.ntmps,[],Tr.tu top args 0 .nil,[],H⟩ o)(ho:Oc o=D s1)(hdf:aA (len s1.df) 0=f)(y:lD P s1 fn.results.toList=D vs):Ca P X g args H (sN vs) s1.H:=by
 have⟨n1,k,h⟩:=h;refine⟨k+1,?_⟩;show Br P X (lv P X k) k g args H=_;rw[x_ hor,hg];show Xc P (lv P X k) k g (X g) fn args H=_;unfold Xc;rw[hb];show gd (aD (len args) fn.ntmps) (aL (Oc<|FK P X k c ⟨jv P g,fn.ntmps,[],Tr.tu top args 0 .nil,[],H⟩) λs=>Ic P fn s)=_;rw[hl,h,ho];show Ic P fn s1=_;unfold Ic;rw[hdf,y];rfl
end rules
end mem
def TG(P:aU)(g:FuncId)(c:Nat):Prop:=∀(fn:Func)(args:C Z)(v:Z)(H T:R),P.funcs[g]?=D fn->Xa P c fn.resultTypes.toList args H=D (v,T)->
 ∀m w args',RH m H w->k_ m args args'->∃m' v' w',(callFunc g ⟨args'⟩).run P w=.ok (.value v') w'/\VR m' v v'/\RH m' T w'/\Ex m m' H T w w'
def Zc.of{P:aU}{X:Xt}(h:∀g,X g=0\/TG P g (X g)):Zc P X:=by
 intro g fn args v H T hg _ E m w args' rh ha;rcases h g with h0|W
 .rw[h0]at E;cases E
 .exact W fn args v H T hg E m w args' rh ha
section mem
variable{P:aU}
def TG.TH{c:Nat}{e:Array Z->Sem Z}(hg:P.funcs[g]?=D fn)(hname:(fn.name== "runtime.NumGoroutine")=aC)(hb:fn.body.isNone=f)(hn:Extern.findNext fn=Q)(he:Extern.find fn=D e)(h:∀(args:C Z)(v:Z)(H T:R),Xa P c fn.resultTypes.toList args H=D (v,T)->∀m w args',RH m H w->k_ m args args'->wV P m H w (e ⟨args'⟩) v T):TG P g c:=by
 intro fn' args v H T hg' E m w args' rh ha;rw[hg]at hg';cases hg';have⟨m',v',w',W,J,h3,h4⟩:=h args v H T E m w args' rh ha;refine⟨m',v',w',?_,J,h3,h4⟩;rw[run_callFunc_extern hg hname hb hn he,W];rfl
def TG.same(hg:P.funcs[g]?=D fn)(hname:(fn.name== "runtime.NumGoroutine")=aC)(hb:fn.body.isNone=f)(hn:Extern.findNext fn=Q)(he:Extern.find fn=D Extern.AbiNoEscape.same):TG P g 1:=by
 refine TG.TH hg hname hb hn he ?_;intro args v H T h m w args' rh ha;replace h:(gd (aA (len args) 1)<|aL (nth args 0) λx=>D (x,H))=D (v,T):=h;have⟨hl,h⟩:=fI h;have⟨x,E,h⟩:=aJ h;cases h;rw[oL]at E;rw[fU]at hl;have⟨v',W,J⟩:=ad4 (P:=P) (w:=w) (aW hl) E ha;exact⟨m,v',w,J,W,rh,Ex.refl _ _ _⟩
def TG.index(hg:P.funcs[g]?=D fn)(hname:(fn.name== "runtime.NumGoroutine")=aC)(hb:fn.body.isNone=f)(hn:Extern.findNext fn=Q)(he:Extern.find fn=D Extern.BytealgIndexByte.indexByte):TG P g 3:=by
 refine TG.TH hg hname hb hn he ?_;intro args v H T h m w args' rh ha;replace h:(aL (J5 args) λx=>D (SA<|yF x.2 x.1.data.toList 0,H))=D (v,T):=h;have⟨q,hq,h⟩:=aJ h;cases h;have⟨W,J⟩:=Ox (P:=P) (w:=w) hq ha;exact⟨m,_,w,J,W,rh,Ex.refl _ _ _⟩
def TG.count(hg:P.funcs[g]?=D fn)(hname:(fn.name== "runtime.NumGoroutine")=aC)(hb:fn.body.isNone=f)(hn:Extern.findNext fn=Q)(he:Extern.find fn=D Extern.BytealgCount.count):TG P g 4:=by
 refine TG.TH hg hname hb hn he ?_;intro args v H T h m w args' rh ha;replace h:(aL (J5 args) λx=>D (bX .i64<|.ofNat<|countB x.2 x.1.data.toList,H))=D (v,T):=h;have⟨q,hq,h⟩:=aJ h;cases h;have⟨W,J⟩:=Oy (P:=P) (w:=w) hq ha;exact⟨m,_,w,J,W,rh,Ex.refl _ _ _⟩
end mem
def vO(ty:aH)(k:fB)(l:C Nat):lI:=.row ⟨ty,Tr.tu top (mp (λn=>bX k<|Int.ofNat n) l) 0 .nil,len l,f,0⟩
def TabAt(w:bY)(o:lI)(r:Nat):Prop:=o=.dead\/∃(ty:aH)(k:fB)(l:C Nat)(M:Array Z)(fr:Nat×Nat),o=vO ty k l/\w.heap[r]?=D (.cells M ty fr)/\∀(i z:Nat),l[i]?=D z->M[i]?=D (bX k (z:Nat))
def ahj:lI->Nat
 |.row az=>az.n
 |_=>0
def BF(w:bY)(r:Nat):Nat:=match w.heap[r]? with|some (.cells M _ _)=>M.size|_=>0
def BH(w:bY)(H:R):Mp:=λr=>if r<H.next then D ⟨r,0,0,BF w r,ahj<|H.obj r⟩else Q
section mem
variable{P:aU}
def Vy(w:bY)(H:R):Gl H.next (BH w H):=λg hg=>⟨⟨g,0,0,BF w g,ahj<|H.obj g⟩,by unfold BH;rw[if_pos hg],rfl,rfl,rfl⟩
def aef(h:H.next<=w.heap.size)(ht:∀r,r<H.next->TabAt w (H.obj r) r):RH (BH w H) H w:=by
 refine⟨?_,?_,?_⟩
 .intro r l y;unfold BH at y;split at y
  .next W=>exact W
  .cases y
 .intro r l y;unfold BH at y;split at y
  .next W=>
   cases y;refine⟨w.heap[r]'N,bC (i:=r) N,?_⟩;rcases ht r W with J|⟨ty,k,l,M,fr,J,h3,h4⟩
   .rw[J];trivial
   .have hcn:BF w r=M.size:=by unfold BF;rw[h3]
    have hget:w.heap[r]'N=.cells M ty fr:=by
     have:=bC (xs:=w.heap) (i:=r) N;rw[h3]at this;injection this with this;exact this.symm
    rw[hget,J];show uY _ _ (vO ty k l) _
    have hlen:∀i,i<l.length->i<M.size:=by
     intro i hi;exact(dU.1<|h4 i _<|av hi).1
    have hle:l.length<=M.size:=by
     rcases cr M.size l.length with h5|h5
     .have:=hlen M.size h5;omega
     .exact h5
    refine⟨⟨O,O⟩,O,hcn.symm,bA _,?_,?_,?_⟩
    .show 0+(len l-0)<=BF w r;rw[hcn,fU];omega
    .intro hse;cases hse
    .intro i _ hi;have hi:i<len l:=hi;rw[fU]at hi;refine⟨.int k (l[i]:Nat),?_,?_⟩
     .simp only[aY,jG];exact h4 i _<|av hi
     .show VR _ ((Tr.tu top (mp (λn=>bX k<|Int.ofNat n) l) 0 .nil).get top i) _;rw[Tr.l_,Fs,if_pos I6];rw[bD];simp[hi];exact .sc _ O
  .cases y
 .intro r r' l l' y hr' _ _ hc;unfold BH at y hr';split at y
  .split at hr'
   .cases y;cases hr';exact hc
   .cases hr'
  .cases y
def TI{X:Xt}(hmo:P.follows .mixedOrders=f)(hP:Ce P H.next)(hX:Zc P X)(hO:I_ P X H.next)(hg:P.funcs[g]?=D fn)(hb:fn.body.isSome=f)(h:kE P X k g args H=D (v,T))(hlow:H.next<=T.low)(hv:nE v=f)(ha:args.all nE=f)(hw:H.next<=w.heap.size)(ht:∀r,r<H.next->TabAt w (H.obj r) r):
 Calls P g ⟨args⟩ w λe w'=>e=.returned v/\Go.RowKit.Below w.heap.size w w':=by
 refine(levels hmo hP hX hO k g args v _ T fn h hg hb (BH w H) w args (aef hw ht) (Vy w H)<|k_.nE ha).mono ?_;rintro e w' ⟨m',v',rfl,W,J,h3⟩;rw[W.wC hv];refine⟨O,⟨h3.os,h3.tape,h3.output,h3.size,λc hc=>h3.keep c hc ?_⟩⟩;intro r l y _;unfold BH at y;split at y
 .next h4=>exact aR h4 hlow
 .cases y
def Vz(n:Nat)(b:Bool)(o:aB<|Z×R):Bool:=@aM (Z×R) (λ_=>Bool) aC (λp=>(@aM Bool (λ_=>Bool) aC (λx=>Ba x b)<|jQ p.1)&&aD n p.2.low) o
def aau{o:aB (Z×R)}(h:Vz n b o=f):∃T,o=D (.bool b,T)/\n<=T.low:=by
 cases o with
 |none=>cases h
 |some p=>
  replace h:((@aM Bool (λ_=>Bool) aC (λx=>Ba x b)<|jQ p.1)&&aD n p.2.low)=f:=h;rw[bg]at h;cases hb:jQ p.1 with
  |none=>rw[hb]at h;cases h.1
  |some x=>
   rw[hb]at h;have W:Ba x b=f:=h.1;rw[J8,lz]at W;exact⟨p.2,by rw[<-W,<-o_ hb],aF h.2⟩
end mem
def h2{a b:Prop}(x:a)(hr:b):a/\b:=⟨x,hr⟩
structure oD(s s':St):Prop where
 nl:s.nl=s'.nl
 nt:s.nt=s'.nt
 df:s.df=s'.df
 H:s.H=s'.H
 lk:∀t,iA s t=iA s' t
inductive Bb:Out->Out->Prop where
 |fail:Bb .fail .fail
 |norm {s s':St} (h:oD s s'):Bb (.norm s) (.norm s')
 |exit (i:Nat) {s s':St} (h:oD s s'):Bb (.exit i s) (.exit i s')
 |goto (l:Nat) {s s':St} (h:oD s s'):Bb (.goto l s) (.goto l s')
 |ret {s s':St} (h:oD s s'):Bb (.ret s) (.ret s')
def oD.look(h:oD s s'):iA s=iA s':=funext h.lk
def oD.ev(h:oD s s'):ev s=ev s':=by
 funext x;cases x with
 |tmp t=>exact congrFun h.look t
 |_=>rfl
def Bb.refl(o:Out):Bb o o:=by
 cases o with
 |fail=>exact .fail
 |norm s=>exact .norm ⟨O,O,O,O,λ_=>rfl⟩
 |exit i s=>exact .exit i ⟨O,O,O,O,λ_=>rfl⟩
 |goto l s=>exact .goto l ⟨O,O,O,O,λ_=>rfl⟩
 |ret s=>exact .ret ⟨O,O,O,O,λ_=>rfl⟩
def oD.I9(h:oD s s'):I9 s=I9 s':=by
 funext x;cases x with
 |none=>rfl
 |some x=>exact dW D<|congrFun h.ev x
def oD.Ob(h:oD s s'):Ob s=Ob s':=by
 funext ps;unfold Go.Ae.Ob;rw[h.ev]
def DR(d:Nat)(v:Z)(l:C<|Nat×Z)(t:Nat):Go.Ae.look ((d,v)::l) t=if d=t then v else Go.Ae.look l t:=by
 show bV (aA d t) v (Go.Ae.look l t)=_
 by_cases e:d=t
 .subst e;rw[show aA d d=f from dD d];simp[oz]
 .rw[show aA d t=aC from by rw[<-b_];exactλg=>e<|aW g,if_neg e];rfl
def wr(s:St)(d:Nat):Bool:=bV (gZ s.nl d) (aD (bW d) s.nt) f
def yZ(s:St)(d:Nat)(v:Z)(H:R)(t:Nat):iA (qE s d v H) t=if d=t/\wr s d=f then v else iA s t:=by
 by_cases hb:gZ s.nl d=f
 .have e:qE s d v H=⟨s.nl,s.nt,s.reg,bV (aD (bW d) s.nt) (s.tm.set top d v) s.tm,s.df,H⟩:=by unfold qE;rw[hb];rfl
  have ew:wr s d=aD (bW d) s.nt:=by unfold wr;rw[hb];rfl
  rw[e,ew];show bV (gZ s.nl t) ((bV (aD (bW d) s.nt) (s.tm.set top d v) s.tm).get top t) (Go.Ae.look s.reg t)=if d=t/\aD (bW d) s.nt=f then v else bV (gZ s.nl t) (s.tm.get top t) (Go.Ae.look s.reg t)
  by_cases hn:aD (bW d) s.nt=f
  .rw[hn];show bV (gZ s.nl t) ((s.tm.set top d v).get top t) (Go.Ae.look s.reg t)=_;rw[Tr.vE]
   by_cases e:d=t
   .subst e;rw[if_pos O,if_pos ⟨rfl,rfl⟩,hb];rfl
   .rw[if_neg (λh=>e h.symm),if_neg λh=>e h.1]
  .rw[b_]at hn;rw[hn,if_neg λh=>by cases h.2];rfl
 .rw[b_]at hb;have e:qE s d v H=⟨s.nl,s.nt,(d,v)::s.reg,s.tm,s.df,H⟩:=by unfold qE;rw[hb];rfl
  have ew:wr s d=f:=by unfold wr;rw[hb];rfl
  rw[e,ew];show bV (gZ s.nl t) (s.tm.get top t) (Go.Ae.look ((d,v)::s.reg) t)=if d=t/\f=f then v else bV (gZ s.nl t) (s.tm.get top t) (Go.Ae.look s.reg t)
  rw[DR]
  by_cases e:d=t
  .subst e;rw[if_pos O,if_pos ⟨rfl,rfl⟩,hb];rfl
  .rw[if_neg e,if_neg λh=>e h.1]
def JA(s:St)(d:Nat)(v:Z)(H:R):(qE s d v H).nl=s.nl/\(qE s d v H).nt=s.nt/\(qE s d v H).df=s.df/\(qE s d v H).H=H:=by
 unfold qE;cases gZ s.nl d<;>exact⟨O,O,O,O⟩
def oD.qE(h:oD s s')(d:Nat)(v:Z)(H:R):oD (qE s d v H) (qE s' d v H):=by
 obtain⟨a1,a2,a3,a4⟩:=JA s d v H;obtain⟨b1,b2,b3,b4⟩:=JA s' d v H;refine⟨a1.trans<|h.nl.trans b1.symm,a2.trans<|h.nt.trans b2.symm,a3.trans<|h.df.trans b3.symm,a4.trans b4.symm,λt=>?_⟩;rw[yZ,yZ,h.lk];have:wr s d=wr s' d:=by unfold wr;rw[h.nl,h.nt]
 rw[this]
def oD.same(s:St)(t:Nat):oD s (Go.Ae.qE s t (iA s t) s.H):=by
 obtain⟨b1,b2,b3,b4⟩:=JA s t (iA s t) s.H;refine⟨b1.symm,b2.symm,b3.symm,b4.symm,λrg=>?_⟩;rw[yZ];split
 .next h=>rw[h.1]
 .rfl
def oD.jk(h:oD s s')(d:aB Nat)(v:Z)(H:R):oD (jk s d v H) (jk s' d v H):=by
 cases d with
 |none=>exact⟨h.nl,h.nt,h.df,O,h.lk⟩
 |some d=>exact h.qE d v H
def EH(s:St)(t:Nat):iA (clear s) t=bV (gZ s.nl t) (iA s t) top:=by
 unfold iA;show bV (gZ s.nl t) (s.tm.get top t) (Go.Ae.look [] t)=_;cases gZ s.nl t<;>rfl
def oD.clear(h:oD s s'):oD (clear s) (clear s'):=⟨h.nl,h.nt,h.df,h.H,λt=>by rw[EH,EH,h.nl,h.lk]⟩
def oD.g_(h:oD s s'):oD (g_ s) (g_ s'):=⟨h.nl,h.nt,h.df,by show R.mk _ _ _=R.mk _ _ _;rw[h.H],h.lk⟩
def oD.heap(h:oD s s')(d:C Deferred)(H:R):oD ⟨s.nl,s.nt,s.reg,s.tm,d,H⟩ ⟨s'.nl,s'.nt,s'.reg,s'.tm,d,H⟩:=⟨h.nl,h.nt,O,O,h.lk⟩
def oD.refl(s:St):oD s s:=⟨O,O,O,O,λ_=>rfl⟩
def oD.symm{s s':St}(h:oD s s'):oD s' s:=⟨h.nl.symm,h.nt.symm,h.df.symm,h.H.symm,λt=>(h.lk t).symm⟩
def oD.trans(h:oD s s')(J:oD s' s2):oD s s2:=⟨h.nl.trans J.nl,h.nt.trans J.nt,h.df.trans J.df,h.H.trans J.H,λt=>(h.lk t).trans<|J.lk t⟩
section mem
variable{P:aU}{cf:kT}
def oD.nQ(h:oD s s')(c:Callee):nQ c P s=nQ c P s':=by
 cases c with
 |value ay=>show(aL (Zp<|Go.Ae.ev s ay) _)=_;rw[h.ev];rfl
 |invoke r n=>show(aL (Er<|Go.Ae.ev s r) _)=_;rw[h.ev];rfl
 |builtin b=>rfl
def oD.yL(h:oD s s')(o:Op):yL o P cf s=yL o P cf s':=by
 have e:=h.ev;have e1:=h.I9;have e2:=h.Ob;have e3:=h.H;cases o with
 |call c=>
  show wU c P cf s=wU c P cf s';unfold wU;rw[h.nQ,e,e3]
 |move x=>show R3.Cm (Go.Ae.ev s x)=_;rw[e];rfl
 |assign x=>show R3.Cm (Go.Ae.ev s x)=_;rw[e];rfl
 |pick c a b=>show rp (JX (Go.Ae.ev s c) (Go.Ae.ev s a)<|Go.Ae.ev s b)=_;rw[e];rfl
 |alloc t=>show rm (CJ P t s.H)=_;rw[e3];rfl
 |box t x=>show rm (JZ t (Go.Ae.ev s x) s.H)=_;rw[e,e3];rfl
 |build t ps=>show rp (Bj P t<|Go.Ae.Ob s ps)=_;rw[e2];rfl
 |buildSlice t n ps=>show rm (tO P t n (Go.Ae.Ob s ps) s.H)=_;rw[e2,e3];rfl
 |load t x=>show rm (wu P t (Go.Ae.ev s x) s.H)=_;rw[e,e3];rfl
 |store t x v=>show rm (zi P t (Go.Ae.ev s x) (Go.Ae.ev s v) s.H)=_;rw[e,e3];rfl
 |nilCheck x=>show rp (Oa<|Go.Ae.ev s x)=_;rw[e];rfl
 |binOp op t x hr rg=>show rp (lY P op t x hr (Go.Ae.ev s x)<|Go.Ae.ev s hr)=_;rw[e];rfl
 |unOp op t x=>show rp (j3<|Op.unary op<|Go.Ae.ev s x)=_;rw[e];rfl
 |convert a b x=>show rpm (CE P a b<|Go.Ae.ev s x) (rm<|uL P a b (Go.Ae.ev s x) s.H)=_;rw[e,e3];rfl
 |makeFunc ay fi ca=>show rp (D<|.func ay ⟨mp (Go.Ae.ev s) fi.toList⟩ ⟨mp (Go.Ae.ev s) ca.toList⟩)=_;rw[e];rfl
 |makeMap t r=>show rm (uV P t (Go.Ae.I9 s r) s.H)=_;rw[e1,e3];rfl
 |makeSlice t l c=>show rm (qD P t (Go.Ae.ev s l) (Go.Ae.ev s c) s.H)=_;rw[e,e3];rfl
 |slice t x lo hi mx=>show rp (Ag P t (Go.Ae.ev s x) (Go.Ae.I9 s lo) (Go.Ae.I9 s hi)<|Go.Ae.I9 s mx)=_;rw[e,e1];rfl
 |fieldAddr t x ay=>show rp (rR P t (Go.Ae.ev s x) ay)=_;rw[e];rfl
 |field t x ay=>show rp (CG P t (Go.Ae.ev s x) ay)=_;rw[e];rfl
 |indexAddr t x i=>show rp (rQ P t (Go.Ae.ev s x)<|Go.Ae.ev s i)=_;rw[e];rfl
 |index t x i=>show rp (CF P t (Go.Ae.ev s x)<|Go.Ae.ev s i)=_;rw[e];rfl
 |lookup t x k ok=>show rm (sV P t (Go.Ae.ev s x) (Go.Ae.ev s k) ok s.H)=_;rw[e,e3];rfl
 |mapUpdate t m k v=>show rm (vF P t (Go.Ae.ev s m) (Go.Ae.ev s k) (Go.Ae.ev s v) s.H)=_;rw[e,e3];rfl
 |extract t i=>show rp (uU (Go.Ae.ev s t) i)=_;rw[e];rfl
 |_=>rfl
def oD.Bp(h:oD s s')(c:Call):Bp c P s=Bp c P s':=by
 unfold Go.Ae.Bp;rw[h.ev]
inductive Zd:aB St->aB St->Prop where
 |none:Zd Q Q
 |some {s s':St} (h:oD s s'):Zd (D s) (D s')
def oD.qK(h:oD s s')(ops:Array Oper)(g:aB<|Nat×Bool):qK ops s g=qK ops s' g:=by
 cases g with
 |none=>rfl
 |some g=>
  show MQ ops s g=MQ ops s' g;unfold MQ Bo;rw[h.look]
def oD.Ew(h:oD s s')(o:Oper)(r:R3):Zd (Ew o s r) (Ew o s' r):=by
 cases r with
 |fail=>exact .none
 |Cm v=>show Zd (jO<|Go.Ae.jk s o.dst v s.H)<|jO<|Go.Ae.jk s' o.dst v s'.H;rw[h.H];exact .some<|h.jk ..
 |mem v H=>exact .some<|h.jk ..
def oD.zL(h:oD s s')(o:Oper):Zd (zL P cf o s) (zL P cf o s'):=by
 unfold Go.Ae.zL;cases qZ o.op with
 |none=>
  show Zd (Go.Ae.Ew o s<|Go.Ae.yL o.op P cf s)<|Go.Ae.Ew o s'<|Go.Ae.yL o.op P cf s';rw[h.yL];exact h.Ew ..
 |some c=>
  show Zd (aL (Go.Ae.Bp c P s) _)<|aL (Go.Ae.Bp c P s') _;rw[h.Bp];cases Go.Ae.Bp c P s' with
  |none=>exact .none
  |some d=>
   show Zd (jO<|Go.Ae.jk ⟨s.nl,s.nt,s.reg,s.tm,d::s.df,s.H⟩ o.dst undef s.H)<|jO<|Go.Ae.jk ⟨s'.nl,s'.nt,s'.reg,s'.tm,d::s'.df,s'.H⟩ o.dst undef s'.H;rw[h.df,h.H];exact .some<|(h.heap _ _).jk ..
def oD.mE(h:oD s s')(ops:Array Oper)(o:Oper):Zd (mE P cf ops o s) (mE P cf ops o s'):=by
 unfold Go.Ae.mE;rw[h.qK];cases Go.Ae.qK ops s' o.guard with
 |none=>exact .none
 |some b=>cases b with
  |true=>exact h.zL o
  |false=>show Zd (jO<|Go.Ae.jk s o.dst undef s.H)<|jO<|Go.Ae.jk s' o.dst undef s'.H;rw[h.H];exact .some<|h.jk ..
def oD.mQ(ops:Array Oper):∀(l:C Oper){s s':St},oD s s'->Zd (mQ P cf ops l s) (mQ P cf ops l s'):=by
 intro l
 induction l with
 |nil=>intro s s' h;exact .some h
 |cons o l ih=>
  intro s s' h;show Zd (aL (Go.Ae.mE P cf ops o s)<|Go.Ae.mQ P cf ops l)<|aL (Go.Ae.mE P cf ops o s')<|Go.Ae.mQ P cf ops l;have:=h.mE (P:=P) (cf:=cf) ops o;generalize Go.Ae.mE P cf ops o s=a at this;generalize Go.Ae.mE P cf ops o s'=b at this;cases this with
  |none=>exact .none
  |some W=>exact ih W
inductive DEq{α:Type}:aB (St×α)->aB (St×α)->Prop where
 |none:DEq Q Q
 |some {s s':St} (x:α) (h:oD s s'):DEq (D (s,x)) (D (s',x))
def oD.su(h:oD s s')(o:Op)(H:R):su P o s H=su P o s' H:=by
 unfold Go.Ae.su zU;rw[h.ev,h.H]
def oD.kZ(h:oD s s')(ops:Array Oper)(o:Oper):DEq (kZ P cf ops o s) (kZ P cf ops o s'):=by
 unfold Go.Ae.kZ;rw[h.qK];cases Go.Ae.qK ops s' o.guard with
 |none=>exact .none
 |some b=>cases b with
  |true=>
   show DEq (H_ P o s<|Go.Ae.yL o.op P cf<|Go.Ae.g_ s)<|H_ P o s'<|Go.Ae.yL o.op P cf<|Go.Ae.g_ s';rw[h.g_.yL];cases Go.Ae.yL o.op P cf (Go.Ae.g_ s')with
   |fail=>exact .none
   |Cm v=>show DEq (jO (Go.Ae.jk s o.dst v s.H,cl 0))<|jO (Go.Ae.jk s' o.dst v s'.H,cl 0);rw[h.H];exact .some _<|h.jk ..
   |mem v H=>
    show DEq (jO (Go.Ae.jk s o.dst v ⟨H.v_,H.next,nY s.H.low H.low⟩,Go.Ae.su P o.op s H))<|jO (Go.Ae.jk s' o.dst v ⟨H.v_,H.next,nY s'.H.low H.low⟩,Go.Ae.su P o.op s' H);rw[h.su,h.H];exact .some _<|h.jk ..
  |false=>show DEq (jO (Go.Ae.jk s o.dst undef s.H,cl 0))<|jO (Go.Ae.jk s' o.dst undef s'.H,cl 0);rw[h.H];exact .some _<|h.jk ..
def oD.jh(ops:Array Oper):∀(l:C Oper){s s':St}(acc:C Cl),oD s s'->DEq (jh P cf ops l s acc) (jh P cf ops l s' acc):=by
 intro l
 induction l with
 |nil=>intro s s' acc h;exact .some _ h
 |cons o l ih=>
  intro s s' acc h;show DEq (aL (Go.Ae.kZ P cf ops o s) λq=>Go.Ae.jh P cf ops l q.1<|q.2::acc)<|aL (Go.Ae.kZ P cf ops o s') λq=>Go.Ae.jh P cf ops l q.1<|q.2::acc;have:=h.kZ (P:=P) (cf:=cf) ops o;generalize Go.Ae.kZ P cf ops o s=a at this;generalize Go.Ae.kZ P cf ops o s'=b at this;cases this with
  |none=>exact .none
  |some x W=>exact ih _ W
def oD.region(h:oD s s')(ops:Array Oper)(d:Bool):Bb (region P cf ops d s) (region P cf ops d s'):=by
 cases d with
 |false=>
  show Bb (Ib<|Go.Ae.mQ P cf ops ops.toList<|Go.Ae.clear s)<|Ib<|Go.Ae.mQ P cf ops ops.toList<|Go.Ae.clear s';have:=oD.mQ (P:=P) (cf:=cf) ops ops.toList h.clear;generalize Go.Ae.mQ P cf ops ops.toList (Go.Ae.clear s)=a at this;generalize Go.Ae.mQ P cf ops ops.toList (Go.Ae.clear s')=b at this;cases this with
  |none=>exact .fail
  |some W=>exact .norm W
 |true=>
  show Bb (bV (kD ops&&o9 ops) (vN ops<|Go.Ae.jh P cf ops ops.toList (Go.Ae.clear s) []) .fail)<|bV (kD ops&&o9 ops) (vN ops<|Go.Ae.jh P cf ops ops.toList (Go.Ae.clear s') []) .fail;cases(kD ops&&o9 ops)with
  |false=>exact .fail
  |true=>
   show Bb (vN ops<|Go.Ae.jh P cf ops ops.toList (Go.Ae.clear s) [])<|vN ops<|Go.Ae.jh P cf ops ops.toList (Go.Ae.clear s') [];have:=oD.jh (P:=P) (cf:=cf) ops ops.toList [] h.clear;generalize Go.Ae.jh P cf ops ops.toList (Go.Ae.clear s) []=a at this;generalize Go.Ae.jh P cf ops ops.toList (Go.Ae.clear s') []=b at this;cases this with
   |none=>exact .fail
   |some x W=>
    show Bb (bV (jT ops x) (.norm _) .fail)<|bV (jT ops x) (.norm _) .fail;cases jT ops x with
    |true=>exact .norm W
    |false=>exact .fail
def Bb.trans{a b c:Out}(h:Bb a b)(J:Bb b c):Bb a c:=by
 cases h with
 |fail=>exact J
 |norm h=>cases J with|norm J=>exact .norm<|h.trans J
 |exit i h=>cases J with|exit _ J=>exact .exit i<|h.trans J
 |goto l h=>cases J with|goto _ J=>exact .goto l<|h.trans J
 |ret h=>cases J with|ret J=>exact .ret<|h.trans J
def aav{ay:St->Out}(hf:∀s s',oD s s'->Bb (ay s) (ay s')):∀n s s',oD s s'->Bb (xY n ay s) (xY n ay s'):=by
 intro n
 induction n with
 |zero=>intro s s' _;exact .fail
 |succ n ih=>
  intro s s' h;show Bb (andThen (ay s)<|xY n ay)<|andThen (ay s')<|xY n ay;have:=hf s s' h;generalize ay s=a at this;generalize ay s'=b at this;cases this with
  |fail=>exact .fail
  |norm W=>exact ih _ _ W
  |exit i W=>exact .exit i W
  |goto l W=>exact .goto l W
  |ret W=>exact .ret W
def XX(E:∀c s s',oD s s'->Bb (cx c s) (cx c s'))(body:Code):∀n o o',Bb o o'->Bb (nR cx n body o) (nR cx n body o'):=by
 intro n
 induction n with
 |zero=>intro o o' _;exact .fail
 |succ n ih=>
  intro o o' h;cases h with
  |fail=>exact .fail
  |norm W=>exact .norm W
  |exit i W=>exact .exit i W
  |ret W=>exact .ret W
  |goto l W=>
   rename_i s s';show Bb (@aM Code (λ_=>Out) (.goto l s) (λrest=>nR cx n body<|cx rest s)<|findLabel body l)<|@aM Code (λ_=>Out) (.goto l s') (λrest=>nR cx n body<|cx rest s')<|findLabel body l;cases findLabel body l with
   |none=>exact .goto l W
   |some rest=>exact ih _ _<|E rest _ _ W
theorem VA(E:∀c s s',oD s s'->Bb (cx c s) (cx c s'))(n:Nat)(c:Code):∀s s',oD s s'->Bb (exec P cf cx n c s) (exec P cf cx n c s'):=by
 induction c with
 |skip=>intro s s' h;exact .norm h
 |region id ops d=>intro s s' h;exact h.region ops d
 |seq a b iha ihb=>
  intro s s' h;show Bb (andThen (exec P cf cx n a s)<|exec P cf cx n b)<|andThen (exec P cf cx n a s')<|exec P cf cx n b;have:=iha s s' h;generalize exec P cf cx n a s=x at this;generalize exec P cf cx n a s'=hr at this;cases this with
  |fail=>exact .fail
  |norm W=>exact ihb _ _ W
  |exit i W=>exact .exit i W
  |goto l W=>exact .goto l W
  |ret W=>exact .ret W
 |cond x a b iha ihb=>
  intro s s' h;show Bb (Ia (jQ<|ev s x) (exec P cf cx n a s)<|exec P cf cx n b s)<|Ia (jQ<|ev s' x) (exec P cf cx n a s')<|exec P cf cx n b s';rw[h.ev];cases jQ (ev s' x)with
  |none=>exact .fail
  |some t=>cases t with
   |true=>exact iha _ _ h
   |false=>exact ihb _ _ h
 |block id a ih=>
  intro s s' h;show Bb (xq id<|exec P cf cx n a s)<|xq id<|exec P cf cx n a s';have:=ih s s' h;generalize exec P cf cx n a s=x at this;generalize exec P cf cx n a s'=hr at this;cases this with
  |fail=>exact .fail
  |norm W=>exact .norm W
  |exit i W=>
   show Bb (bV (aA i id) _ _)<|bV (aA i id) _ _;cases aA i id with
   |true=>exact .norm W
   |false=>exact .exit i W
  |goto l W=>exact .goto l W
  |ret W=>exact .ret W
 |loop a ih=>intro s s' h;exact aav ih n s s' h
 |scope a ih=>intro s s' h;exact XX E a n _ _<|ih s s' h
 |label l=>intro s s' h;exact .norm h
 |exit i=>intro s s' h;exact .exit i h
 |goto l=>intro s s' h;exact .goto l h
 |ret=>intro s s' h;exact .ret h
 |_=>intro s s' h;exact .fail
variable{X:Xt}
def ai3(n:Nat):∀c s s',oD s s'->Bb ((lv P X n).cx c s) ((lv P X n).cx c s'):=by
 induction n with
 |zero=>intro c s s' _;exact .fail
 |succ n ih=>intro c s s' h;exact VA ih n c s s' h
def Ev.alike{o:Out}(he:oD s s')(h:Ev P X c s o):∃o',Bb o o'/\Ev P X c s' o':=by
 obtain⟨hne,k,hk⟩:=h;have:=VA (P:=P) (cf:=(lv P X k).ca) (ai3 (P:=P) (X:=X) k) k c s s' he;refine⟨FK P X k c s',by rw[<-hk];exact this,?_,k,O⟩;intro hf;replace this:Bb (FK P X k c s) (FK P X k c s'):=this;rw[hf,hk]at this;cases this;exact hne O
def oD.lD(h:oD s s')(l:C ResultVar):lD P s l=lD P s' l:=by
 induction l with
 |nil=>rfl
 |cons r l ih=>
  show(aL (Dy P s r) λv=>aL (Go.Ae.lD P s l) λvs=>D<|v::vs)=(aL (Dy P s' r) λv=>aL (Go.Ae.lD P s' l) λvs=>D<|v::vs);rw[ih]
  have:Dy P s r=Dy P s' r:=by
   cases r with
   |tmp t=>show D (iA s t)=D (iA s' t);rw[h.look]
   |cell a t=>show(aL (wu P t (iA s a) s.H) _)=(aL (wu P t (iA s' a) s'.H) _);rw[h.look,h.H]
  rw[this]
end mem
end Go.Ae
