/-
  Part 02 of the proof. No condition.
-/
import Derived.Test.YtpngmpbmokhmiaaGreatDoorZ01
set_option linter.unusedVariables false
set_option linter.unusedSimpArgs false
set_option maxRecDepth 100000
set_option maxHeartbeats 4000000
set_option linter.defProp false
open Option renaming some->Z,none->T,rec->aQ,some->kQ
open Bool renaming true->f,false->aA
open Go renaming Value->C,TypeId->aI,Program->aX,World->cZ,Operand->cz,IntKind->f_
open Go.Value renaming int->a_,agg->dN,map->gz
open Nat renaming beq->aB,succ->dh,ble->aD,add->bq,sub->dP
open List renaming length->u,range->d_
open Go.Region renaming binds->gY
open Go.Sem renaming run_bind->dD,run_pure->dR
open Go.Result renaming andThen_ok->bR
open Go.Instr renaming sureAddr->kG
open Go.ByteArray renaming toList_eq->jc
open Go.Op renaming operands->iI
open Go.Call renaming operands->mq
open Classical renaming choose->jI
open Array renaming replicate->my
noncomputable section
namespace Go.Ae
variable{ops:Array Oper}{H':Exit->Act->cZ->Prop}{s s' s1 s2:St}{m m' m0 m1 m2:Mp}{ak p:Nat->Prop}{ae es i j k k' n n' nt r:Nat}{a a1:Act}{K next:Act->cZ->Prop}{o:Oper}{w w' w0 w1:cZ}{v v' x':C}{A H Q H0:R}{d ld κ:aC Nat}{l:Loc}{ρ:cz->C}{ob L_:Obj}{b:Bool}{args args' vs:D C}{ag:Nat->Cl}{d0 df:D Deferred}{cx RX:Code->St->Out}{L:D cz}{g:FuncId}{fn:Func}{c:Code}{A_:mM}{F listed:Array Bool}{x y:Cl}{ay:C->C->Bool}{q:aC (C×R)}{t ty:aI}{ats:D aI}{o':nI}{cls:D Cl}{α:Type}
section mem
variable{P:aX}
def afT(hl:u args=1)(J:args[0]?=Z v)(B:mX m args args'):
 ∃v',VR m v v'/\(Extern.AbiNoEscape.same ⟨args'⟩).run P w=.ok v' w:=by
 obtain⟨v',e,I⟩:=B.get 0 J;have z:u args'=1:=by rw[<-B.length,hl]
 have E:args'=[v']:=by
  match args',z,e with
  |[y],_,e=>cases e;rfl
 subst E;exact⟨v',I,O⟩
def abE(c:Nat)(E:c<=255):∀(l:D UInt8)(k:Nat),(zJ c l k=T/\Lib.indexByte l c.toUInt8=-1)\/∃j,zJ c l k=Z (k+j)/\Lib.indexByte l c.toUInt8=j:=by
 intro l
 induction l with
 |nil=>intro k;exact .inl ⟨O,O⟩
 |cons b l z=>
  intro k
  have e:aB b.toNat c=(b==c.toUInt8):=by
   rw[fM,ni];constructor
   .intro h;have:=bA h;rw[<-this];simp
   .intro h;rw[h];have B:c.toUInt8.toNat=c:=by simp;omega
    rw[B];exact dW c
  show(b_ (aB b.toNat c) (Z k) (zJ c l<|k+1)=T/\_)\/∃j,b_ (aB b.toNat c) (Z k) (zJ c l<|k+1)=Z (k+j)/\_;rw[e];cases hh:(b==c.toUInt8)with
  |true=>exact .inr ⟨0,O,by simp[Lib.indexByte,hh]⟩
  |false=>
   rcases z (k+1)with⟨I,B⟩|⟨j,I,B⟩
   .exact .inl ⟨I,by simp[Lib.indexByte,hh,B]⟩
   .refine .inr ⟨j+1,by show zJ c l (k+1)=_;rw[I];congr 1;omega,?_⟩;have:((j:Int)==-1)=aA:=by rw[tZ];omega
    simp[Lib.indexByte,hh,B,this]
theorem abF{q:aZ×Nat}(h:Xy args=Z q)(M:mX m args args'):args'=[.string q.1,.int .u8 q.2]/\q.2<=255:=by
 obtain⟨s,hs,h⟩:=aL h;obtain⟨b,Y,h⟩:=aL h;obtain⟨c,V,h⟩:=aL h;obtain⟨p,hp,h⟩:=aL h;obtain⟨n,hn,h⟩:=aL h;obtain⟨E,h⟩:=gJ h;cases h;rw[qw]at hs V;simp only[bE,h_]at E;have hl:=bA E.2;have U:=aF E.1.2;obtain⟨s',J,e⟩:=M.get 0 hs;obtain⟨W,I,B⟩:=M.get 1 V;have N:u args'=2:=by rw[<-M.length,hl]
 have he:args'=[s',W]:=by
  match args',N,J,I with
  |[y,z],_,J,I=>cases J;cases I;rfl
 rw[qZ Y]at e;rw[rZ hp,Qg hn]at B;have:=e.xQ;subst this;have:=B.of_int;subst this
 have hk:p.1=.u8:=by
  have:=E.1.1;cases hp1:p.1<;>rw[hp1]at this<;>first|rfl|(simp[Kv]at this)
 rw[he,hk];exact⟨O,U⟩
def Qv{q:aZ×Nat}(h:Xy args=Z q)(E:mX m args args'):
 VR m (U6<|zJ q.2 q.1.data.toList 0) (U6<|zJ q.2 q.1.data.toList 0)/\(Extern.BytealgIndexByte.indexByte ⟨args'⟩).run P w=.ok (U6<|zJ q.2 q.1.data.toList 0) w:=by
 obtain⟨rfl,z⟩:=abF h E;have e:=Lib.run_indexByteString (P:=P) q.1 (q.2:Int) w;rw[kV]at e;rcases abE q.2 z q.1.data.toList 0 with⟨I,B⟩|⟨j,I,B⟩
 .rw[I];rw[B]at e;exact⟨.sc _ O,e⟩
 .rw[I,bB];rw[B]at e;exact⟨.sc _ O,e⟩
end mem
section mem
variable{P:aX}
def abG(W:RH m H w){s d:aI}{x:C}(h:wo P s d x H=Z (v,Q))(M:VR m x x'):yt P m H w (convert s d x') v Q:=by
 obtain⟨q,z,h⟩:=aL h
 replace z:(aN (P.underlying s) λx=>aN (P.underlying d) λy=>
  b_ (DD x) (aN (Sf P d) λq=>Z (1,q)) (b_ (DD y) (aN (Sf P s) λq=>Z (2,q))
   (b_ (G7 y) (aN (G6 x) λe=>Z (3,e,0))<|b_ (G7 x) (aN (G6 y) λe=>Z (4,e,0)) T)))=Z q:=z
 obtain⟨N,U,I⟩:=aL z;clear z;obtain⟨J,O,z⟩:=aL I;clear I;cases I:DD N with
 |true=>
  rw[I]at z;obtain⟨q1,V,E⟩:=aL z;cases E;obtain⟨hu,_⟩:=CX V;have h:FY P q1 x H=Z (v,Q):=h;exact Su W h M U hu
 |false=>
  rw[I]at z
  replace z:(b_ (DD J) (aN (Sf P s) λq=>Z (2,q))
   (b_ (G7 J) (aN (G6 N) λe=>Z (3,e,0))<|b_ (G7 N) (aN (G6 J) λe=>Z (4,e,0)) T))=Z q:=z
  cases B:DD J with
  |true=>
   rw[B]at z;obtain⟨q1,V,E⟩:=aL z;cases E;obtain⟨hu,_⟩:=CX V;have h:FZ P q1 x H=Z (v,Q):=h;exact Sw W h M hu (by rw[O,He B])
  |false=>
   rw[B]at z;replace z:(b_ (G7 J) (aN (G6 N) λe=>Z (3,e,0))<|b_ (G7 N) (aN (G6 J) λe=>Z (4,e,0)) T)=Z q:=z;cases h3:G7 J with
   |true=>
    rw[h3]at z;obtain⟨e,Y,E⟩:=aL z;cases E;have h:LV P e x H=Z (v,Q):=h;exact Jd W h M (by rw[U,K_ Y]) h3 O
   |false=>
    rw[h3]at z;replace z:(b_ (G7 N) (aN (G6 J) λe=>Z (4,e,0)) T)=Z q:=z;cases h4:G7 N with
    |false=>rw[h4]at z;cases z
    |true=>
     rw[h4]at z;obtain⟨e,Y,E⟩:=aL z;cases E;have h:LW P e x H=Z (v,Q):=h;exact Je W h M h4 U (by rw[O,K_ Y])
end mem
section mem
variable{P:aX}
def yJ{o:aC C}(h:rp o=.DU v):o=Z v:=by
 cases o with
 |none=>cases h
 |some x=>cases h;rfl
def Vr{o:aC C}(h:rp o=.mem v H):False:=by cases o<;>cases h
def qx{o:aC (C×R)}(h:rm o=.mem v H):o=Z (v,H):=by
 cases o with
 |none=>cases h
 |some x=>cases h;rfl
def Eb{o:aC (C×R)}(h:rm o=.DU v):False:=by cases o<;>cases h
def XK{o:aC C}(h:rpm o (rm q)=.DU v):o=Z v:=by
 cases o with
 |none=>exact(Eb (o:=q) h).elim
 |some x=>cases h;rfl
def XL{o:aC C}(h:rpm o (rm q)=.mem v H):q=Z (v,H):=by
 cases o with
 |none=>exact qx (o:=q) h
 |some x=>cases h
structure Qw(m:Mp)(s:St)(ρ:cz->C)(L:D cz):Prop where
 all:∀x,x∈L->VR m (ev s x) (ρ x)
def Qw.IP(e:Qw m s ρ L)(x:cz)(h:x∈L:=by simp[iI,mq]):VR m (ev s x) (ρ x):=e.all x h
def Qw.list(e:Qw m s ρ L):∀l:D cz,(∀x,x∈l->x∈L)->mX m (mp (ev s) l) (l.map ρ)
 |[],_=>.nil
 |x::l,h=>.cons _ _ _ _ (e.all x<|h x<|gB)<|e.list l λy z=>h y (by simp[z])
def Qw.opt(e:Qw m s ρ L):∀o:aC cz,(∀x,x∈o->x∈L)->OR m (Kw s o) (o.map ρ)
 |none,_=>.nn
 |some x,h=>.ss _ _<|e.all x<|h x O
def Qw.pairs(e:Qw m s ρ L)(ps:Array<|Nat×cz)(h:∀x,x∈ps.toList->x.2∈L):PRs m (Qd s ps) (ps.map λ(i,x)=>(i,ρ x)).toList:=by
 obtain⟨l⟩:=ps
 have:∀l:D<|Nat×cz,(∀x,x∈l->x.2∈L)->PRs m (mp (λp=>(p.1,ev s p.2)) l) (l.map λ(i,x)=>(i,ρ x)):=by
  intro l
  induction l with
  |nil=>intro _;exact .nil
  |cons x l B=>intro h;exact .cons _ _ _ _ _ (e.all x.2<|h x<|gB)<|B λy z=>h y (by simp[z])
 simpa [Qd]using this l h
def afU(P:aX)(m:Mp)(v:C)(s:Sem Next):Prop:=∃v',VR m v v'/\∀w,s.run P w=.ok (.value v') w
def uO{s:Sem C}(h:VR m v v')(hs:∀w,s.run P w=.ok v' w):afU P m v (do pure (.value (<-s))):=
 ⟨v',h,λw=>by simp[hs]⟩
theorem SA{b:Builtin}(h:B6 b ats args P H=.DU v)(e:mX m args args'):
 afU P m v (builtin b ⟨ats⟩ ty F ⟨args'⟩):=by
 cases b
 case len=>
  have h:=XK (o:=one (LQ P) ats args) (q:=LX P ats args H) h;obtain⟨I,B⟩:=afL (t:=ty) h e;exact uO I B
 case max=>
  have h:=yJ (o:=U5 f args) h;obtain⟨v',I,B⟩:=abo (P:=P) (ats:=⟨ats⟩) (t:=ty) h e;exact uO I B
 case min=>
  have h:=yJ (o:=U5 aA args) h;obtain⟨v',I,B⟩:=abo (P:=P) (ats:=⟨ats⟩) (t:=ty) h e;exact uO I B
 case append=>exact(Eb (o:=EW P ats args H) h).elim
 case copy=>exact(Eb (o:=OV P ats args H) h).elim
 case clear=>exact(Eb (o:=I7 P ats args H) h).elim
 all_goals first|cases h|exact(Eb (o:=G9 args H) h).elim|exact(Eb (o:=yE P ats args H) h).elim
theorem Qx{cf:mM}(h:BK o.op P cf s=.DU v)(e:Qw m s ρ o.op.operands.toList)(Y:∀c,ρ (.const c)=c):afU P m v (execOp ρ o):=by
 cases hop:o.op
 case move x=>
  rw[hop]at h e;cases h;exact⟨ρ x,e.all x<|by simp[iI,mq],λw=>by simp[execOp,hop]⟩
 case assign x=>
  rw[hop]at h e;cases h;exact⟨ρ x,e.all x<|by simp[iI,mq],λw=>by simp[execOp,hop]⟩
 case pick c a b=>
  rw[hop]at h e;have h:=yJ (o:=LP (ev s c) (ev s a)<|ev s b) h;obtain⟨v',I,B⟩:=afI (P:=P) h (e.IP c) (e.IP a)<|e.IP b;have:=uO I B;refine⟨v',I,λw=>?_⟩;have B:=B w;simp only[execOp,hop];simp only[dD]at B|-;cases hr:(asBool<|ρ c).run P w with
  |ok W w'=>rw[hr]at B;simp only[bR,dR]at B|-;cases B;rfl
  |halt x w'=>rw[hr]at B;cases B
 case build t ps=>
  rw[hop]at h e;have h:=yJ (o:=CP P t<|Qd s ps) h;obtain⟨v',I,B⟩:=abu h<|e.pairs ps (by intro x M;simp[iI];exact⟨x.1,by simpa using M⟩);have:afU P m v (do pure (.value (<-Instr.build t (ps.map λ(i,x)=>(i,ρ x))))):=uO I B;simp only[execOp,hop];exact this
 case nilCheck x=>
  rw[hop]at h e;have h:=yJ (o:=Qc<|ev s x) h;obtain⟨I,B⟩:=Sn (P:=P) h (e.IP x) ρ o x hop O;exact⟨_,I,B⟩
 case binOp op t x y z=>
  rw[hop]at h e;have h:=yJ (o:=mW P op t x y (ev s x)<|ev s y) h;obtain⟨I,B⟩:=aiO h (e.IP x) (e.IP y) (λc M=>by subst M;rfl) (λc V=>by subst V;rfl);have:=uO I B;simpa [execOp,hop]using this
 case unOp op t x=>
  rw[hop]at h e;have h:=yJ (o:=lD<|Op.unary op<|ev s x) h;obtain⟨I,B⟩:=afJ (P:=P) h<|e.IP x;have:=uO I B;simpa [execOp,hop]using this
 case convert a b x=>
  rw[hop]at h e;have h:=XK (o:=DY P a b<|ev s x) (q:=wo P a b (ev s x) s.H) h;obtain⟨I,B⟩:=afK h<|e.IP x;have:=uO I B;simpa [execOp,hop]using this
 case makeFunc ay N J=>
  rw[hop]at h e;cases h;refine⟨.func ay (N.map ρ)<|J.map ρ,?_,λw=>by simp[execOp,hop,Instr.makeFunc]⟩;obtain⟨N⟩:=N;obtain⟨J⟩:=J;have:=VR.func ay _ _ _ _ (e.list N (by intro x M;simp[iI,mq,M]))<|e.list J (by intro x M;simp[iI,mq,M]);simpa using this
 case slice t x lo hi mx=>
  rw[hop]at h e;have h:=yJ (o:=BI P t (ev s x) (Kw s lo) (Kw s hi)<|Kw s mx) h;obtain⟨v',I,B⟩:=abr h (e.IP x) (e.opt lo (by intro x M;simp[iI]at M|-;simp[M])) (e.opt hi (by intro x M;simp[iI]at M|-;simp[M]))<|e.opt mx (by intro x M;simp[iI]at M|-;simp[M]);have:=uO I B;simpa [execOp,hop]using this
 case fieldAddr t x ay=>
  rw[hop]at h e;have h:=yJ (o:=ug P t (ev s x) ay) h;obtain⟨v',I,B⟩:=Qo h<|e.IP x;have:=uO I B;simpa [execOp,hop]using this
 case field t x ay=>
  rw[hop]at h e;have h:=yJ (o:=D3 P t (ev s x) ay) h;obtain⟨v',I,B⟩:=abh h<|e.IP x;have:=uO I B;simpa [execOp,hop]using this
 case indexAddr t x i=>
  rw[hop]at h e;have h:=yJ (o:=uf P t (ev s x)<|ev s i) h;obtain⟨v',I,B⟩:=Qn h (e.IP x)<|e.IP i;have:=uO I B;simpa [execOp,hop]using this
 case index t x i=>
  rw[hop]at h e;have h:=yJ (o:=DZ P t (ev s x)<|ev s i) h;obtain⟨v',I,B⟩:=abg h (e.IP x)<|e.IP i;have:=uO I B;simpa [execOp,hop]using this
 case extract t i=>
  rw[hop]at h e;have h:=yJ (o:=wI (ev s t) i) h;obtain⟨v',I,B⟩:=Vd (P:=P) h<|e.IP t;have:=uO I B;simpa [execOp,hop]using this
 case call c=>
  rw[hop]at h e;replace h:Al c P cf s=.DU v:=h;obtain⟨E,⟨args⟩,ats⟩:=c;cases E with
  |value ay=>exact(Eb h).elim
  |invoke r n=>exact nomatch(show(R3.fail:R3)=.DU _ from h)
  |builtin b=>
   have h:B6 b ats.toList (mp (ev s) args) P s.H=.DU v:=h
   obtain⟨F,U⟩:∃F,∀w,(execOp ρ o).run P w=(builtin b ⟨ats.toList⟩ o.type F ⟨args.map ρ⟩).run P w:=
    ⟨args.toArray.map λ|.const _=>f|_=>aA,λw=>by
     simp only[execOp,hop,resolve,invoke,dD,dR,bR,vX];rfl⟩
   obtain⟨v',I,B⟩:=SA (P:=P) (ty:=o.type) (F:=F) h<|e.list args (by intro x M;simp[iI,mq,M]);exact⟨v',I,λw=>by rw[U,B]⟩
 all_goals(rw[hop]at h;first|cases h|exact(Eb h).elim|skip)
end mem
section mem
variable{P:aX}
def Gl(n:Nat)(m:Mp):Prop:=∀g,g<n->∃l,m g=Z l/\l.c=g/\l.lo=0/\l.base=0
def Gl.mono{n:Nat}{m m':Mp}(h:Gl n m)(z:Mp.le m m'):Gl n m':=λg e=>let⟨l,a,b⟩:=h g e;⟨l,z _ _ a,b⟩
def Jf(P:aX)(n:Nat)(cf:mM):Prop:=∀g args v H Q,cf g args H=Z (v,Q)->∀m w args',RH m H w->Gl n m->mX m args args'->
 ∀(o:Oper)(a:Act)(next:Act->cZ->Prop)(H':Exit->Act->cZ->Prop),
  (∀m' v' w',VR m' v v'->RH m' Q w'->Ex m m' H Q w w'->next (a.put o.dst v') w')->o.upon P a next H' ((callFunc g ⟨args'⟩).run P w)
def su{s:Sem C}(h:yt P m H w s v Q)(K:∀m' v' w',VR m' v v'->RH m' Q w'->Ex m m' H Q w w'->next (a.put o.dst v') w'):o.upon P a next H' ((do pure (.value (<-s)):Sem Next).run P w):=by
 obtain⟨m',e,w',I,B,z,E⟩:=h;have:(do pure (.value (<-s)):Sem Next).run P w=.ok (.value e) w':=by simp[I]
 rw[this];exact K m' e w' B z E
def Pb{s:Sem Unit}(h:v=undef/\∃w',s.run P w=.ok () w'/\RH m Q w'/\Ex m m H Q w w')(K:∀m' v' w',VR m' v v'->RH m' Q w'->Ex m m' H Q w w'->next (a.put o.dst v') w'):o.upon P a next H' ((do s;pure .skip:Sem Next).run P w):=by
 obtain⟨rfl,w',I,e,z⟩:=h;have:(do s;pure .skip:Sem Next).run P w=.ok .skip w':=by simp[I]
 rw[this];exact K m undef w' (.tuple [] [] .nil) e z
def F6{s:Sem C}(B:RH m H w)(e:Q=H)(h:VR m v v')(z:s.run P w=.ok v' w):yt P m H w s v Q:=by
 subst e;exact⟨m,v',w,z,h,B,Ex.refl _ _ _⟩
theorem SC{b:Builtin}(z:RH m H w)(h:B6 b ats args P H=.mem v Q)(E:mX m args args')(K:∀m' v' w',VR m' v v'->RH m' Q w'->Ex m m' H Q w w'->next (a.put o.dst v') w'):o.upon P a next H' ((builtin b ⟨ats⟩ ty F ⟨args'⟩).run P w):=by
 cases b
 case append=>exact su (ZH z (qx (o:=EW P ats args H) h) E) K
 case copy=>exact su (afS z (qx (o:=OV P ats args H) h) E) K
 case clear=>exact su (abD z (qx (o:=I7 P ats args H) h) E) K
 case len=>
  have h:=XL (o:=one (LQ P) ats args) (q:=LX P ats args H) h;obtain⟨e,I,B⟩:=afO (t:=ty) z h E;exact su (F6 z e I B) K
 case max=>exact(Vr (o:=U5 f args) h).elim
 case min=>exact(Vr (o:=U5 aA args) h).elim
 all_goals first
  |cases h
  |exact su (ZK (λ_ _ _ _ _=>rfl) (λ_ _ _ _ _ _=>rfl) z (qx (o:=G9 args H) h) E) K
  |exact su (Sz ⟨_,_,_,_,_,λ_ _ _ _ _=>rfl⟩ z (qx (o:=yE P ats args H) h) E) K
theorem XM{cf:mM}(z:RH m s.H w)(h:BK o.op P cf s=.mem v Q)(e:Qw m s ρ o.op.operands.toList)(J:∀c,o.op=.call c->isBuiltin c.callee=T->o.upon P a next H' ((execOp ρ o).run P w))(K:∀m' v' w',VR m' v v'->RH m' Q w'->Ex m m' s.H Q w w'->next (a.put o.dst v') w'):o.upon P a next H' ((execOp ρ o).run P w):=by
 cases hop:o.op
 case alloc t=>
  rw[hop]at h e;simp only[execOp,hop];exact su (abx z<|qx h) K
 case box t x=>
  rw[hop]at h e;simp only[execOp,hop];exact su (aiS z (qx h)<|e.IP x) K
 case buildSlice t n ps=>
  rw[hop]at h e;simp only[execOp,hop];exact su (Vi z (qx h)<|e.pairs ps (by intro x M;simp[iI];exact⟨x.1,by simpa using M⟩)) K
 case mapUpdate t x k y=>
  rw[hop]at h e;simp only[execOp,hop];exact Pb (ZE z (qx h) (e.IP x) (e.IP k)<|e.IP y) K
 case load t x=>
  rw[hop]at h e;simp only[execOp,hop];obtain⟨I,v',B,N⟩:=XF z (qx h)<|e.IP x;exact su (F6 z I B N) K
 case store t x y=>
  rw[hop]at h e;simp only[execOp,hop];exact Pb (abw z (qx h) (e.IP x)<|e.IP y) K
 case convert c d x=>
  rw[hop]at h e;simp only[execOp,hop];exact su (abG z (XL (o:=DY P c d<|ev s x) (q:=wo P c d (ev s x) s.H) h)<|e.IP x) K
 case makeMap t r=>
  rw[hop]at h e;simp only[execOp,hop];exact su (Vl z (qx h)<|e.opt r (by intro x M;simp[iI]at M|-;simp[M])) K
 case makeSlice t l c=>
  rw[hop]at h e;simp only[execOp,hop];exact su (Qr z (qx h) (e.IP l)<|e.IP c) K
 case lookup t x k ok=>
  rw[hop]at h e;simp only[execOp,hop];obtain⟨I,v',B,N⟩:=ZC z (qx h) (e.IP x)<|e.IP k;exact su (F6 z I B N) K
 case call c=>
  rw[hop]at h e;cases hb:isBuiltin c.callee with
  |none=>exact J c hop hb
  |some b=>
   obtain⟨E,⟨args⟩,ats⟩:=c;cases E with
   |value ay=>cases hb
   |invoke r n=>cases hb
   |builtin b=>
    have h:B6 b ats.toList (mp (ev s) args) P s.H=.mem v Q:=h
    obtain⟨F,O⟩:∃F,∀w,(execOp ρ o).run P w=(builtin b ⟨ats.toList⟩ o.type F ⟨args.map ρ⟩).run P w:=
     ⟨args.toArray.map λ|.const _=>f|_=>aA,λw=>by
      simp only[execOp,hop,resolve,invoke,dD,dR,bR,vX];rfl⟩
    rw[O];exact SC z h (e.list args (by intro x M;simp[iI,mq,M])) K
 all_goals(rw[hop]at h;first|cases h|exact(Vr h).elim)
end mem
section mem
variable{P:aX}
def SE{cf:mM}(I:Jf P n cf)(O:Gl n m){ay:cz}{args:D cz}{ats:Array aI}(rh:RH m s.H w)(B:o.op=.call ⟨.value ay,⟨args⟩,ats⟩)(h:Al ⟨.value ay,⟨args⟩,ats⟩ P cf s=.mem v Q)(e:Qw m s ρ o.op.operands.toList)(K:∀m' v' w',VR m' v v'->RH m' Q w'->Ex m m' s.H Q w w'->next (a.put o.dst v') w'):o.upon P a next H' ((execOp ρ o).run P w):=by
 replace h:rm (aN (aN (vFn<|ev s ay) λq=>aN (fFn q.1) λg=>Z (g,q.2)) λq=>cf q.1 (app q.2.1<|app (mp (ev s) args) q.2.2) s.H)=.mem v Q:=h;replace h:=qx h;obtain⟨q,E,h⟩:=aL h;obtain⟨p,W,E⟩:=aL E;obtain⟨g,U,E⟩:=aL E;cases E;rw[B]at e;have J:=e.all ay (by simp[iI,mq]);rw[Qh W,Qi U]at J;obtain⟨p0,p1,p2⟩:=p;obtain⟨x',N,V,M,hy⟩:=J.abf
 have z:mX m (app p1<|app (mp (ev s) args) p2) (x'++(args.map ρ++N)):=by
  rw[uH,uH];exact M.append<|(e.list args (by intro x M;simp[iI,mq,M])).append hy
 have:=I _ _ _ _ _ h m w _ rh O z o a next H' K
 have Y:(execOp ρ o).run P w=(callFunc g ⟨x'++(args.map ρ++N)⟩).run P w:=by
  simp only[execOp,B,resolve,V,Deferred.ofValue,invoke,dD,dR,bR,vX];congr 2;rw[<-jJ];simp
 rw[Y];exact this
end mem
section mem
variable{P:aX}
end mem
def F7(n:Nat)(x:cz):Bool:=@Operand.rec (λ_=>Bool) (λ_=>f) (λv=>oZ v) (λg=>aD (dh g) n) (λ_=>f) x
def Mj(nt:Nat)(d:aC Nat):Bool:=@aQ Nat (λ_=>Bool) f (λd=>aD (dh d) nt) d
def yK(n nt:Nat)(o:Oper):Bool:=all' (F7 n) o.op.operands.toList&&Mj nt o.dst
section mem
variable{P:aX}
structure FR(m:Mp)(s:St)(a:Act):Prop where
 size:a.tmps.size=s.nt
 slot:∀t,VR m (jd s t)<|a.tmps.getD t undef
def FR.mono{m m':Mp}{s:St}{a:Act}(h:FR m s a)(e:Mp.le m m'):FR m' s a:=⟨h.size,λt=>(h.slot t).mono e⟩
def FR.ev(h:FR m s a)(g:Gl n m)(e:all' (F7 n) L=f):Qw m s a.eval L:=by
 refine⟨λx M=>?_⟩;rw[all_eq]at e;have M:=fD.1 e x M;cases x with
 |tmp t=>exact h.slot t
 |const v=>exact .sc v M
 |global k=>
  obtain⟨l,I,B,z,E⟩:=g k<|aF M;have:=VR.ptr (m:=m) k 0 l I N;rw[B,z,E]at this;exact this
 |func ay=>exact .func (.func ay) [] [] [] [] .nil .nil
def FR.put(h:FR m s a)(hd:Mj s.nt d=f)(E:VR m v v'):FR m (kF s d v Q) (a.put d v'):=by
 cases d with
 |none=>exact⟨h.size,h.slot⟩
 |some d=>
  have hd:d<s.nt:=aF hd
  have B:∀t,(a.tmps.setIfInBounds d v').getD t undef=if t=d then v' else a.tmps.getD t undef:=by
   intro t
   by_cases e:t=d
   .subst e;rw[jj O];simp[Array.getD,h.size,hd]
   .rw[jx e];simp only[iG];rw[lq (qI e)]
  show FR m (sM s d v Q) {a with tmps:=a.tmps.setIfInBounds d v'};unfold sM;cases hb:iP s.nl d with
  |true=>
   show FR m ⟨s.nl,s.nt,s.reg,b_ (aD (dh d) s.nt) (s.tm.set top d v) s.tm,s.df,Q⟩ _;rw[show aD (dh d) s.nt=f from aH hd];refine⟨by simpa using h.size,λt=>?_⟩;rw[B];have z:=h.slot t;unfold jd at z|-;simp only at z|-
   by_cases e:t=d
   .subst e;rw[jj O,hb];show VR m ((s.tm.set top t v).get top t) v';rw[Tr.wU,jj O];exact E
   .rw[jx e];cases hbt:iP s.nl t with
    |true=>
     rw[hbt]at z;show VR m ((s.tm.set top d v).get top t) _;rw[Tr.wU,jx e];exact z
    |false=>rw[hbt]at z;exact z
  |false=>
   show FR m ⟨s.nl,s.nt,(d,v)::s.reg,s.tm,s.df,Q⟩ _;refine⟨by simpa using h.size,λt=>?_⟩;rw[B];have z:=h.slot t;unfold jd at z|-;simp only at z|-
   by_cases e:t=d
   .subst e;rw[jj O,hb];show VR m (b_ (aB t t) v<|look s.reg t) v';rw[show aB t t=f from dW t];exact E
   .rw[jx e];cases hbt:iP s.nl t with
    |true=>rw[hbt]at z;exact z
    |false=>
     rw[hbt]at z;show VR m (b_ (aB d t) v<|look s.reg t) _;rw[show aB d t=aA from by rw[<-dw];exactλg=>e (bA g).symm];exact z
end mem
section mem
variable{P:aX}
def abH(h:isU v=f):v=.tuple #[]:=by
 cases v with
 |tuple l=>
  obtain⟨l⟩:=l;have h:aB (len l) 0=f:=h;have h:=bA h;rw[h_]at h;rw[iL h]
 |_=>simp[isU,aa2]at h
def abI{y:aC Bool}(ay:FR m s a)(h:CR ops s j=Z y):yielded ops a.tmps j=y:=by
 obtain⟨o,z,h⟩:=aL h;obtain⟨t,E,h⟩:=aL h;rw[qw,fC]at z;have hs:=ay.slot t
 have J:yielded ops a.tmps j=match a.tmps[t]? with|some (.bool b)=>Z b|_=>T:=by
  unfold yielded;rw[z];show(match(o.dst).bind (a.tmps[·]?)with|some (.bool b)=>Z b|_=>T)=_;rw[E];rfl
 rw[J];cases hb:kT (jd s t)with
 |some b=>
  rw[hb]at h;replace h:Z (Z b)=Z y:=h;cases h;rw[qO hb]at hs;have hs:=hs.of_bool;rw[iG]at hs;cases hq:a.tmps[t]? with
  |none=>rw[hq]at hs;cases hs
  |some x=>rw[hq]at hs;replace hs:x=.bool b:=hs;rw[hs]
 |none=>
  rw[hb]at h;replace h:(gd (isU<|jd s t)<|Z (T:aC Bool))=Z y:=h;obtain⟨B,h⟩:=gJ h;cases h;rw[abH B]at hs;obtain⟨M,e,I⟩:=VR.Qj (x:=[]) hs;cases I;rw[iG]at e;cases hq:a.tmps[t]? with
  |none=>rfl
  |some x=>rw[hq]at e;replace e:x=.tuple ⟨[]⟩:=e;rw[e]
def afV(ay:FR m s a)(h:uN ops s o.guard=Z b):Region.wanted o (yielded ops a.tmps)=b:=by
 unfold Region.wanted;cases hg:o.guard with
 |none=>rw[hg]at h;cases h;rfl
 |some p=>
  rw[hg]at h;replace h:(aN (CR ops s p.1) λy=>Z<|@aQ Bool (λ_=>Bool) aA (λb=>CE b p.2) y)=Z b:=h;obtain⟨y,z,h⟩:=aL h;cases h;obtain⟨j,e⟩:=p;simp only;rw[abI ay z];cases y with
  |none=>rfl
  |some c=>cases c<;>cases e<;>rfl
end mem
section mem
variable{P:aX}
def put_defers(a:Act)(d:aC Tmp)(v:C):(a.put d v).defers=a.defers:=by cases d<;>rfl
def nA(s:St)(d:aC Nat)(v:C)(H:R):(kF s d v H).H=H:=by
 cases d with
 |none=>rfl
 |some d=>show(sM s d v H).H=H;unfold sM;cases iP s.nl d<;>rfl
def zT(s:St)(d:aC Nat)(v:C)(H:R):(kF s d v H).nt=s.nt:=by
 cases d with
 |none=>rfl
 |some d=>show(sM s d v H).nt=s.nt;unfold sM;cases iP s.nl d<;>rfl
def Fb(s:St)(d:aC Nat)(v:C)(H:R):(kF s d v H).df=s.df:=by
 cases d with
 |none=>rfl
 |some d=>show(sM s d v H).df=s.df;unfold sM;cases iP s.nl d<;>rfl
def afW{cf:mM}(N:Jf P n cf)(O:RH m s.H w)(ay:FR m s a)(V:Gl n m)(z:yK n s.nt o=f)(hd:vz o.op=T)(h:Fq P cf o s=Z s1)(K:∀m' a' w',FR m' s1 a'->RH m' s1.H w'->Ex m m' s.H s1.H w w'->a'.defers=a.defers->next a' w'):o.wp P a w next H':=by
 unfold Fq at h;rw[hd]at h;replace h:Ky o s (BK o.op P cf s)=Z s1:=h;unfold yK at z;simp only[bE]at z;have e:=ay.ev V z.1;unfold Oper.wp;cases E:BK o.op P cf s with
 |fail=>rw[E]at h;cases h
 |DU v=>
  rw[E]at h;replace h:Z (kF s o.dst v s.H)=Z s1:=h;cases h;obtain⟨v',I,B⟩:=Qx E e λ_=>rfl;rw[B w];have hf:FR m (kF s o.dst v s.H) (a.put o.dst v'):=ay.put z.2 I;exact K m _ w hf (by rw[nA];exact O) (by rw[nA];exact Ex.refl _ _ _)<|put_defers _ _ _
 |mem v Q=>
  rw[E]at h;replace h:Z (kF s o.dst v Q)=Z s1:=h;cases h
  have U:∀m' v' w',VR m' v v'->RH m' Q w'->Ex m m' s.H Q w w'->next (a.put o.dst v') w':=by
   intro m' v' w' I B W;exact K m' _ w' ((ay.mono W.le).put z.2 I) (by rw[nA];exact B) (by rw[nA];exact W)<|put_defers _ _ _
  refine XM O E e ?_ U;intro c M hb;rw[M]at E;replace E:Al c P cf s=.mem v Q:=E;obtain⟨J,⟨args⟩,ats⟩:=c;cases J with
  |value g=>exact SE N V O M E e U
  |invoke r Y=>exact nomatch(show(R3.fail:R3)=.mem _ _ from E)
  |builtin b=>cases hb
end mem
section mem
variable{P:aX}
def ZO{cf:mM}(al:Jf P n cf)(N:all' (yK n nt) ops.toList=f)(ad:all' (λo=>fT<|vz o.op) ops.toList=f):
 ∀(l:D Oper)(k:Nat)(m:Mp)(s s1:St)(a:Act)(w:cZ),ops.toList.drop k=l->s.nt=nt->RH m s.H w->FR m s a->Gl n m->oM P cf ops l s=Z s1->
 (∀m' a' w',FR m' s1 a'->RH m' s1.H w'->Ex m m' s.H s1.H w w'->a'.defers=a.defers->s1.nt=nt->s1.df=s.df->H' .normal a' w')->
 wpOps P ops H' (List.range' k<|u l) a w:=by
 intro l
 induction l with
 |nil=>
  intro k m s s1 a w _ z rh ay gl h K;cases h;exact K m a w ay rh (Ex.refl _ _ _) O z O
 |cons o l ih=>
  intro k m s s1 a w hl z rh ay gl h K
  have hk:ops[k]?=Z o:=by
   rw[<-fC];have:=eY List.head? hl;rw[List.head?_drop]at this;exact this
  have U:o∈ops.toList:=aT (by rw[fC];exact hk)
  have E:ops.toList.drop (k+1)=l:=by
   rw[<-List.tail_drop,hl];rfl
  rw[all_eq]at N ad;have ho:=fD.1 N o U;have hd:=fD.1 ad o U
  have hd:vz o.op=T:=by
   cases hc:vz o.op with
   |none=>rfl
   |some c=>rw[hc]at hd;cases hd
  replace h:(aN (aN (uN ops s o.guard) λb=>b_ b (Fq P cf o s)<|Z<|kF s o.dst undef s.H) λs=>oM P cf ops l s)=Z s1:=h;obtain⟨s2,I,B⟩:=aL h;obtain⟨b,hb,e⟩:=aL I;have hw:=afV ay hb;rw[cO,List.range'_succ];show wpOps P ops H' (k::List.range' (k+1) (u l)) a w;rw[wpOps_cons];unfold wpOp;rw[hk];simp only[hw];cases b with
  |true=>
   replace e:Fq P cf o s=Z s2:=e;simp only[lC];left
   have ab:s2.nt=s.nt/\s2.df=s.df:=by
    unfold Fq at e;rw[hd]at e;replace e:Ky o s (BK o.op P cf s)=Z s2:=e;cases hr:BK o.op P cf s with
    |fail=>rw[hr]at e;cases e
    |DU v=>rw[hr]at e;replace e:Z (kF s o.dst v s.H)=Z s2:=e;cases e;exact⟨zT _ _ _ _,Fb _ _ _ _⟩
    |mem v Q=>rw[hr]at e;replace e:Z (kF s o.dst v Q)=Z s2:=e;cases e;exact⟨zT _ _ _ _,Fb _ _ _ _⟩
   refine afW al rh ay gl (by rw[z];exact ho) hd e ?_;intro m' a' w' f' an ac am;refine ih (k+1) m' s2 s1 a' w' E (by rw[ab.1,z]) an f' (gl.mono ac.le) B ?_;intro m2 a2 w2 f2 Y J V W M;exact K m2 a2 w2 f2 Y (ac.trans J) (by rw[V,am]) W (by rw[M,ab.2])
  |false=>
   replace e:Z (kF s o.dst undef s.H)=Z s2:=e;cases e;simp only[dG,lN];unfold yK at ho;simp only[bE]at ho;have f':FR m (kF s o.dst undef s.H) (a.put o.dst undef):=ay.put (by rw[z];exact ho.2)<|.tuple [] [] .nil;refine ih (k+1) m _ s1 _ w E (by rw[zT,z]) (by rw[nA];exact rh) f' gl B ?_;intro m2 a2 w2 f2 Y J V W M;rw[nA]at J;rw[Fb]at M;exact K m2 a2 w2 f2 Y J (by rw[V,put_defers]) W M
end mem
section rules
variable{P:aX}
def least(h:∃n,p n):∃n,p n/\∀k,k<n->¬p k:=by
 obtain⟨n,z⟩:=h
 induction n using Nat.strongRecOn with
 |_ n J=>
  by_cases M:∃k,k<n/\p k
  .obtain⟨k,I,B⟩:=M;exact J k I B
  .exact⟨n,z,λk e E=>M ⟨k,e,E⟩⟩
theorem ZP(az:Nat->Act->cZ->Prop)(U:∀a w,¬az 0 a w)(hs:∀n a w,az (n+1) a w->c.wp P (Exit.then (az n) H') a w)(h:az n a w):(Code.loop c).wp P H' a w:=by
 classical
 refine wp_loop (λa w=>∃n,az n a w) (λa w=>if h:∃n,az n a w then jI (least h)else 0) ⟨n,h⟩ ?_;intro a w B;have J:=mZ<|least B;have V:(if h:∃n,az n a w then jI (least h)else 0)=jI (least B):=dif_pos B;rw[V];generalize jI (least B)=k0 at J;cases k0 with
 |zero=>exact(U a w J.1).elim
 |succ k=>
  refine wp_mono (hs k a w J.1) ?_;intro e O w' I;cases e with
  |normal=>
   have z:∃n,az n O w':=⟨k,I⟩;refine⟨z,?_⟩;have E:(if h:∃n,az n O w' then jI (least h)else 0)=jI (least z):=dif_pos z;rw[E];have M:=mZ<|least z;exact pz<|pZ λN=>M.2 k N I
  |_=>exact I
def abJ(ah:Nat->Act->cZ->Prop)(H':Exit->Act->cZ->Prop):Exit->Act->cZ->Prop
 |.goto l,a,w=>ah l a w
 |e,a,w=>H' e a w
theorem Vs(az:Nat->Nat->Act->cZ->Prop)(hs:∀n l a w,az n l a w->(∃n' rest,n=n'+1/\findLabel c l=Z rest/\rest.wp P (abJ (az n') H') a w)\/(findLabel c l=T/\H' (.goto l) a w))(first:c.wp P (abJ (az n) H') a w):(Code.scope c).wp P H' a w:=by
 intro b k F
 have Y:∀n l a w,az n l a w->∀M,(∀k',gotoIn l (.inScope c::k)=Z k'->Steps P M (lone (b.at a k') F w))->∃e a' w',H' e a' w'/\Arrives P M b k F e a' w':=by
  intro n
  induction n with
  |zero=>
   intro l a w W M V;rcases hs 0 l a w W with⟨n',rest,I,_⟩|⟨I,B⟩
   .cases I
   .exact⟨_,a,w,B,λk' O=>V k'<|by simp[gotoIn,I,O]⟩
  |succ n ih=>
   intro l a w W M V;rcases hs (n+1) l a w W with⟨n',rest,I,B,h3⟩|⟨I,B⟩
   .cases I;obtain⟨e,z,J,N,E⟩:=h3 b (.inScope c::k) F;have U:=V (.code rest::.inScope c::k) (by simp[gotoIn,B]);cases e with
    |normal=>exact⟨.normal,z,J,N,U.trans<|Steps.trans E<|.one step_inScope⟩
    |exit id=>exact⟨.exit id,z,J,N,λk' O=>U.trans<|E k'<|by simp[exitTo,O]⟩
    |goto l'=>exact ih l' z J N M λk' O=>U.trans<|E k' O
    |ret=>exact⟨_,z,J,N,.of_steps U E⟩
    |panic ch=>exact⟨_,z,J,N,.of_steps U E⟩
    |outgrown=>exact⟨_,z,J,N,.of_steps U E⟩
   .exact⟨_,a,w,B,λk' O=>V k'<|by simp[gotoIn,I,O]⟩
 obtain⟨e,z,J,N,E⟩:=first b (.inScope c::k) F
 cases e with
 |normal=>exact⟨.normal,z,J,N,.head step_scope<|Steps.trans E<|.one step_inScope⟩
 |exit id=>exact⟨.exit id,z,J,N,λk' O=>.head step_scope<|E k'<|by simp[exitTo,O]⟩
 |goto l'=>exact Y n l' z J N _ λk' O=>.head step_scope<|E k' O
 |ret=>exact⟨_,z,J,N,.of_steps (.one step_scope) E⟩
 |panic ch=>exact⟨_,z,J,N,.of_steps (.one step_scope) E⟩
 |outgrown=>exact⟨_,z,J,N,.of_steps (.one step_scope) E⟩
end rules
def codeOk(n nt:Nat):Code->Bool
 |.region _ ops _=>all' (yK n nt) ops.toList&&lT ops
 |.seq a b=>codeOk n nt a&&codeOk n nt b
 |.cond c a b=>F7 n c&&(codeOk n nt a&&codeOk n nt b)
 |.block _ c=>codeOk n nt c
 |.loop c=>codeOk n nt c
 |.scope c=>codeOk n nt c
 |_=>f
def C5:∀{c:Code}{l:Nat}{rest:Code},codeOk n nt c=f->findLabel c l=Z rest->codeOk n nt rest=f
 |.seq a b,l,rest,hc,h=>by
  simp only[codeOk,bE]at hc;simp only[findLabel]at h;cases ha:findLabel a l with
  |some r=>
   rw[ha]at h;replace h:Z (Code.seq r b)=Z rest:=h;cases h;simp only[codeOk,bE];exact⟨C5 hc.1 ha,hc.2⟩
  |none=>
   rw[ha]at h;exact C5 hc.2 h
 |.label l',l,rest,_,h=>by
  simp only[findLabel]at h;split at h
  .cases h;rfl
  .cases h
 |.skip,_,_,_,h=>by simp[findLabel]at h
 |.region ..,_,_,_,h=>by simp[findLabel]at h
 |.cond ..,_,_,_,h=>by simp[findLabel]at h
 |.block ..,_,_,_,h=>by simp[findLabel]at h
 |.loop _,_,_,_,h=>by simp[findLabel]at h
 |.rangeFunc ..,_,_,_,h=>by simp[findLabel]at h
 |.exit _,_,_,_,h=>by simp[findLabel]at h
 |.scope _,_,_,_,h=>by simp[findLabel]at h
 |.goto _,_,_,_,h=>by simp[findLabel]at h
 |.ret,_,_,_,h=>by simp[findLabel]at h
 |.refuse _,_,_,_,h=>by simp[findLabel]at h
structure At(m0:Mp)(H0:R)(w0:cZ)(d0:D Deferred)(nt:Nat)(df:D Deferred)(s1:St)(a:Act)(w:cZ)(m:Mp):Prop where
 fr:FR m s1 a
 rh:RH m s1.H w
 ex:Ex m0 m H0 s1.H w0 w
 de:a.defers=d0
 nt:s1.nt=nt
 df:s1.df=df
def To(m0:Mp)(H0:R)(w0:cZ)(d0:D Deferred)(nt:Nat)(df:D Deferred)(s1:St)(q:Act->cZ->Prop):Prop:=
 ∀m a w,At m0 H0 w0 d0 nt df s1 a w m->q a w
def Post(m0:Mp)(H0:R)(w0:cZ)(d0:D Deferred)(nt:Nat)(df:D Deferred)(H':Exit->Act->cZ->Prop):Out->Prop
 |.fail=>False
 |.norm s=>To m0 H0 w0 d0 nt df s<|H' .normal
 |.exit i s=>To m0 H0 w0 d0 nt df s<|H'<|.exit i
 |.goto l s=>To m0 H0 w0 d0 nt df s<|H'<|.goto l
 |.ret s=>To m0 H0 w0 d0 nt df s<|H' .ret
def At.trans(I:At m0 H0 w0 d0 nt df s1 a1 w1 m1)(B:At m1 s1.H w1 a1.defers s1.nt s1.df s2 a w m):At m0 H0 w0 d0 nt df s2 a w m:=
 ⟨B.fr,B.rh,I.ex.trans B.ex,by rw[B.de,I.de],by rw[B.nt,I.nt],by rw[B.df,I.df]⟩
def Post.from'(I:At m0 H0 w0 d0 nt df s1 a1 w1 m1){o:Out}(h:Post m0 H0 w0 d0 nt df H' o):Post m1 s1.H w1 a1.defers nt s1.df H' o:=by
 have e:=I.nt;cases o with
 |fail=>exact h
 |_=>exactλm a w B=>h m a w<|I.trans (by rw[e];exact B)
def Post.from(I:At m0 H0 w0 d0 nt df s1 a1 w1 m1){o:Out}(h:Post m0 H0 w0 d0 nt df H' o):Post m1 s1.H w1 a1.defers s1.nt s1.df H' o:=by
 cases o with
 |fail=>exact h
 |_=>exactλm a w B=>h m a w<|I.trans B
def Qy(P:aX)(cf:mM)(n nt:Nat):Prop:=∀(id:Nat)(ops:Array Oper)(s:St)(m:Mp)(a:Act)(w:cZ)(H':Exit->Act->cZ->Prop),
 all' (yK n nt) ops.toList=f->lT ops=f->s.nt=nt->RH m s.H w->FR m s a->Gl n m->
 Post m s.H w a.defers nt s.df H' (region P cf ops f s)->(Code.region id ops f).wp P H' a w
def Qz(P:aX)(ex:Code->St->Out)(n nt:Nat):Prop:=∀(c:Code)(s:St)(m:Mp)(a:Act)(w:cZ)(H':Exit->Act->cZ->Prop),
 codeOk n nt c=f->s.nt=nt->RH m s.H w->FR m s a->Gl n m->
 Post m s.H w a.defers nt s.df H' (ex c s)->c.wp P H' a w
def FR.clear(h:FR m s a):FR m (clear s) a:=by
 refine⟨h.size,λt=>?_⟩;have e:=h.slot t;unfold jd at e|-;show VR m (b_ (iP s.nl t) (s.tm.get top t)<|look [] t) _;cases hb:iP s.nl t with
 |true=>rw[hb]at e;exact e
 |false=>exact .top _
section mem
variable{P:aX}
def XN{cf:mM}(an:Jf P n cf)(ao:Qz P cx n nt)(aq:Qy P cf n nt)(k:Nat):Qz P (exec P cf cx k) n nt:=by
 intro c
 induction c with
 |skip=>intro s m a w H' _ z E ay _ h;exact wp_skip<|h m a w ⟨ay,E,Ex.refl _ _ _,O,z,O⟩
 |label l=>intro s m a w H' _ z E ay _ h;exact wp_label<|h m a w ⟨ay,E,Ex.refl _ _ _,O,z,O⟩
 |exit id=>intro s m a w H' _ z E ay _ h;exact wp_exit<|h m a w ⟨ay,E,Ex.refl _ _ _,O,z,O⟩
 |goto l=>intro s m a w H' _ z E ay _ h;exact wp_goto<|h m a w ⟨ay,E,Ex.refl _ _ _,O,z,O⟩
 |ret=>intro s m a w H' _ z E ay _ h;exact wp_ret<|h m a w ⟨ay,E,Ex.refl _ _ _,O,z,O⟩
 |refuse=>intro s m a w H' _ _ _ _ _ h;exact h.elim
 |rangeFunc=>intro s m a w H' _ _ _ _ _ h;exact h.elim
 |region id ops ab=>
  intro s m a w H' N z E ay U h;simp only[codeOk,bE]at N;cases ab with
  |true=>exact aq id ops s m a w H' N.1 N.2 z E ay U h
  |false=>
   replace h:Post m s.H w a.defers nt s.df H' (JJ<|oM P cf ops ops.toList<|clear s):=h;cases hr:oM P cf ops ops.toList (clear s)with
   |none=>rw[hr]at h;exact h.elim
   |some s1=>
    rw[hr]at h;replace h:To m s.H w a.defers nt s.df s1 (H' .normal):=h
    have aw:all' (λo=>fT<|vz o.op) ops.toList=f:=by
     have:=N.2;unfold lT at this;rw[all_eq]at this|-;rw[fD]at this|-;intro o W;have:=this o W;simp only[bE]at this;exact this.1
    have hw:wpOps P ops H' (List.range' 0<|u ops.toList) a w:=by
     refine ZO (P:=P) an (n:=n) (nt:=nt) N.1 aw ops.toList 0 m (clear s) s1 a w (gB) z E ay.clear U hr ?_;intro m' a' w' f' a3 al ap ar aE;exact h m' a' w' ⟨f',a3,al,ap,ar,aE⟩
    refine wp_region ?_;rw[List.range_eq_range'];exact hw
 |seq x y ac ad=>
  intro s m a w H' N z E ay U h;simp only[codeOk,bE]at N;replace h:Post m s.H w a.defers nt s.df H' (andThen (exec P cf cx k x s)<|exec P cf cx k y):=h;refine wp_seq<|ac s m a w _ N.1 z E ay U ?_;cases M:exec P cf cx k x s with
  |fail=>rw[M]at h;exact h
  |norm s1=>
   rw[M]at h;intro m1 a1 w1 I;have:=h.from I;rw[I.nt]at this;exact ad s1 m1 a1 w1 H' N.2 I.nt I.rh I.fr (U.mono I.ex.le) this
  |exit i s1=>rw[M]at h;exact h
  |goto l s1=>rw[M]at h;exact h
  |ret s1=>rw[M]at h;exact h
 |cond c x y ac ad=>
  intro s m a w H' N z E ay U h;simp only[codeOk,bE]at N;replace h:Post m s.H w a.defers nt s.df H' (JI (kT<|ev s c) (exec P cf cx k x s)<|exec P cf cx k y s):=h;cases hb:kT (ev s c)with
  |none=>rw[hb]at h;exact h.elim
  |some b=>
   rw[hb]at h;have hL:all' (F7 n) [c]=f:=by rw[all_eq];simp[N.1]
   have he:=(ay.ev U hL).all c<|gB;rw[qO hb]at he;have he:=he.of_bool;cases b with
   |true=>exact wp_cond_true he<|ac s m a w H' N.2.1 z E ay U h
   |false=>exact wp_cond_false he<|ad s m a w H' N.2.2 z E ay U h
 |block id c ih=>
  intro s m a w H' N z E ay U h;replace h:Post m s.H w a.defers nt s.df H' (zF id<|exec P cf cx k c s):=h;refine wp_block<|ih s m a w _ N z E ay U ?_;cases M:exec P cf cx k c s with
  |fail=>rw[M]at h;exact h
  |norm s1=>rw[M]at h;exact h
  |exit i s1=>
   rw[M]at h;replace h:Post m s.H w a.defers nt s.df H' (b_ (aB i id) (.norm s1)<|.exit i s1):=h;intro m1 a1 w1 I
   by_cases e:i=id
   .subst e;rw[show aB i i=f from dW i]at h;simp only[Exit.inBlock,lC];exact h m1 a1 w1 I
   .rw[show aB i id=aA from by rw[<-dw];exactλg=>e<|bA g]at h;simp only[Exit.inBlock,e,lN];exact h m1 a1 w1 I
  |goto l s1=>rw[M]at h;exact h
  |ret s1=>rw[M]at h;exact h
 |loop c ih=>
  intro s m a w H' N z E ay U h;replace h:Post m s.H w a.defers nt s.df H' (zi k (exec P cf cx k c) s):=h
  have a0:∀j,Post m s.H w a.defers nt s.df H' (zi j (exec P cf cx k c) s)->(Code.loop c).wp P H' a w:=by
   intro j hj
   refine ZP (λj a1 w1=>∃m1 s1,At m s.H w a.defers nt s.df s1 a1 w1 m1/\Post m s.H w a.defers nt s.df H' (zi j (exec P cf cx k c) s1)) ?_ ?_ (n:=j)
    ⟨m,s,⟨ay,E,Ex.refl _ _ _,rfl,z,rfl⟩,hj⟩
   .rintro a1 w1 ⟨m1,s1,_,J⟩;exact J
   .rintro j a1 w1 ⟨m1,s1,I,J⟩;replace J:Post m s.H w a.defers nt s.df H' (andThen (exec P cf cx k c s1)<|zi j<|exec P cf cx k c):=J;refine ih s1 m1 a1 w1 _ N I.nt I.rh I.fr (U.mono I.ex.le) ?_;cases M:exec P cf cx k c s1 with
    |fail=>rw[M]at J;exact J
    |norm s2=>
     rw[M]at J;intro m2 a2 w2 B;exact⟨m2,s2,I.trans (by rw[I.nt];exact B),J⟩
    |exit i s2=>rw[M]at J;exact J.from' I
    |goto l s2=>rw[M]at J;exact J.from' I
    |ret s2=>rw[M]at J;exact J.from' I
  exact a0 k h
 |scope c ih=>
  intro s m a w H' N z E ay U h;replace h:Post m s.H w a.defers nt s.df H' (pG cx k c<|exec P cf cx k c s):=h;have am:codeOk n nt c=f:=N
  have Y:∀j(o:Out),Post m s.H w a.defers nt s.df H' (pG cx j c o)->
   Post m s.H w a.defers nt s.df (abJ (λl a1 w1=>∃m1 s1,At m s.H w a.defers nt s.df s1 a1 w1 m1/\Post m s.H w a.defers nt s.df H' (pG cx j c<|.goto l s1)) H') o:=by
   intro j o W;cases j with
   |zero=>exact W.elim
   |succ j=>
    cases o with
    |fail=>exact W
    |norm s1=>exact W
    |exit i s1=>exact W
    |ret s1=>exact W
    |goto l s1=>
     intro m1 a1 w1 I;exact⟨m1,s1,I,W⟩
  refine Vs (n:=k) (λj l a1 w1=>∃m1 s1,At m s.H w a.defers nt s.df s1 a1 w1 m1/\Post m s.H w a.defers nt s.df H' (pG cx j c<|.goto l s1)) ?_<|ih s m a w _ N z E ay U<|Y k _ h;rintro j l a1 w1 ⟨m1,s1,I,J⟩;cases j with
  |zero=>exact J.elim
  |succ j=>
   replace J:Post m s.H w a.defers nt s.df H' (@aQ Code (λ_=>Out) (.goto l s1) (λV=>pG cx j c<|cx V s1)<|findLabel c l):=J;cases hf:findLabel c l with
   |none=>
    rw[hf]at J;exact .inr ⟨O,J m1 a1 w1 I⟩
   |some V=>
    rw[hf]at J;refine .inl ⟨j,V,O,O,?_⟩;have:=(Y j _ J).from I;rw[I.nt]at this;exact ao V s1 m1 a1 w1 _ (C5 am hf) I.nt I.rh I.fr (U.mono I.ex.le) this
end mem
def zU(n nt:Nat)(c:Code):Bool:=
 @Code.rec (λ_=>Bool) f (λ_ ops _=>all' (yK n nt) ops.toList&&lT ops) (λ_ _ a b=>a&&b) (λc _ _ a b=>F7 n c&&(a&&b)) (λ_ _ a=>a) (λ_ a=>a)
  (λ_ _ _ _ _ _=>f) (λ_=>f) (λ_ a=>a) (λ_=>f) (λ_=>f) f (λ_=>f) c
def Vt(c:Code)(h:zU n nt c=f):codeOk n nt c=f:=by
 have:zU n nt c=codeOk n nt c:=by
  clear h
  induction c with
  |seq a b e z=>show(zU n nt a&&zU n nt b)=_;rw[e,z];rfl
  |cond c a b e z=>show(F7 n c&&(zU n nt a&&zU n nt b))=_;rw[e,z];rfl
  |block id a B=>exact B
  |loop a B=>exact B
  |scope a B=>exact B
  |_=>rfl
 rw[<-this];exact h
def abK(n:Nat)(fn:Func):Bool:=@aQ Code (λ_=>Bool) f (λc=>zU n fn.ntmps c&&!(fn.name== "runtime.NumGoroutine")) fn.body
def Ec(P:aX)(n:Nat):Prop:=∀(g:FuncId)(fn:Func),P.funcs[g]?=Z fn->abK n fn=f
def XOk(P:aX)(X:Xt):Prop:=∀(g:FuncId)(fn:Func)(args:D C)(v:C)(H Q:R),P.funcs[g]?=Z fn->fn.body=T->Zm P (X g) fn.resultTypes.toList args H=Z (v,Q)->
 ∀m w args',RH m H w->mX m args args'->∃m' v' w',(callFunc g ⟨args'⟩).run P w=.ok (.value v') w'/\VR m' v v'/\RH m' Q w'/\Ex m m' H Q w w'
def QA(P:aX)(n:Nat)(cf:mM):Prop:=∀g args v H Q fn,cf g args H=Z (v,Q)->P.funcs[g]?=Z fn->fn.body.isSome=f->∀m w args',RH m H w->Gl n m->mX m args args'->
 Calls P g ⟨args'⟩ w λe w'=>∃m' v',e=.returned v'/\VR m' v v'/\RH m' Q w'/\Ex m m' H Q w w'
def Ml(P:aX)(X:Xt)(n:Nat):Prop:=∀(g:FuncId)(args:D C)(v:C)(H Q:R),X.o g args H=Z (v,Q)->(∃fn,P.funcs[g]?=Z fn/\fn.body.isSome=f)/\∀m w args',RH m H w->Gl n m->mX m args args'->
 Calls P g ⟨args'⟩ w λe w'=>∃m' v',e=.returned v'/\VR m' v v'/\RH m' Q w'/\Ex m m' H Q w w'
def Ml.none{P:aX}{X:Xt}(h:∀g a H,X.o g a H=T):Ml P X n:=λg a v H Q e=>by rw[h]at e;cases e
def zl{P:aX}{X:Xt}{L:Lv}(h:X.o g args H=T):CW P X L k g args H=aN (nth P.funcs.toList g) λfn=>Zo P L k g (X g) fn args H:=by
 show orO (X.o g args H) _=_;rw[h];rfl
def Ee{P:aX}{X:Xt}{L:Lv}{r:C×R}(h:X.o g args H=Z r):CW P X L k g args H=Z r:=by
 show orO (X.o g args H) _=_;rw[h];rfl
section mem
variable{P:aX}
def Vu(rh:RH m s.H w)(ay:FR m s a)(h:ny P s fn.results.toList=Z vs):
 ∃v',VR m (uI vs) v'/\(results fn a.tmps).run P w=.ok v' w:=by
 have ab:∀(l:D ResultVar)(vs:D C),ny P s l=Z vs->∃e,mX m vs e/\
  Sem.run P (l.mapM λ|ResultVar.tmp t=>(pure (a.tmps.getD t undef):Sem C)|ResultVar.cell b t=>do loadVar t (<-asAddr (a.tmps.getD b undef))) w=Result.ok e w:=by
  intro l
  induction l with
  |nil=>intro vs h;cases h;exact⟨[],.nil,gB⟩
  |cons r l ih=>
   intro vs h;replace h:(aN (EX P s r) λv=>aN (ny P s l) λvs=>Z<|v::vs)=Z vs:=h;obtain⟨v,E,h⟩:=aL h;obtain⟨ac,Y,h⟩:=aL h;cases h;obtain⟨e,I,B⟩:=ih ac Y;cases r with
   |tmp t=>
    replace E:Z (jd s t)=Z v:=E;cases E;refine⟨_::e,.cons _ _ _ _ (ay.slot t) I,?_⟩;simp only[xL,dD,dR,bR,B]
   |cell b t=>
    replace E:(aN (xP P t (jd s b) s.H) λp=>Z p.1)=Z v:=E;obtain⟨p,hp,E⟩:=aL E;cases E;have W:=ay.slot b;obtain⟨hH,v',h3,O⟩:=XF (P:=P) rh (show xP P t (jd s b) s.H=Z (p.1,p.2)from hp) W;refine⟨v'::e,.cons _ _ _ _ h3 I,?_⟩
    have h5:∃N,a.tmps.getD b undef=.pointer (Z N):=by
     have h:=hp;obtain⟨a0,U,h⟩:=aL h;rw[qY U]at W;obtain⟨l,_,_,_,h⟩:=W.vD;exact⟨_,h⟩
    obtain⟨N,J⟩:=h5;rw[J]at O;simp only[Instr.loadAt,kG,dD,dR,bR]at O;have V:asAddr (.pointer<|Z N)=pure N:=rfl;simp only[xL,J,V,dD,dR,bR,O,B]
 obtain⟨e,I,B⟩:=ab _ _ h;have z:=I.length;refine⟨if h:e.toArray.size=1 then e.toArray[0]else .tuple e.toArray,?_,?_⟩
 .unfold uI;cases vs with
  |nil=>cases I;exact .tuple [] [] .nil
  |cons v vs=>
   cases I with
   |cons _ v' _ x' E M=>
    cases vs with
    |nil=>cases M;exact E
    |cons aa vs=>
     have:(v'::x').toArray.size≠1:=by simp at z|-;intro h;rw[h]at z;simp at z
     rw[dif_neg this];exact .tuple _ _<|.cons _ _ _ _ E M
 .show Sem.run P (do
   let vs<-fn.results.mapM (λ|ResultVar.tmp t=>(pure (a.tmps.getD t undef):Sem C)|ResultVar.cell b t=>do loadVar t (<-asAddr (a.tmps.getD b undef)))
   pure (if h:vs.size=1 then vs[0]else .tuple vs)) w=_
  simp only[dD,Array.mapM_eq_mapM_toList,Sem.run_map,B,bR,dR]
theorem aiV(h:mX m args args')(e nt:Nat)(E:u args<=nt)(H:R):
 FR m ⟨e,nt,[],Tr.uS top args 0 .nil,[],H⟩ {tmps:=(⟨args'⟩:Array C)++my (nt-(⟨args'⟩:Array C).size) undef,defers:=[]}:=by
 have J:=h.length;refine⟨by simp;omega,λt=>?_⟩;show VR m (b_ (iP e t) ((Tr.uS top args 0 .nil).get top t)<|look [] t) _;cases iP e t with
 |false=>exact .top _
 |true=>
  show VR m ((Tr.uS top args 0 .nil).get top t) _;rw[Tr.oh]
  by_cases ht:t<u args
  .rw[jj N];have z:args[t]?=Z (args.getD t top):=by rw[aW,av ht];rfl
   obtain⟨v',I,B⟩:=h.get t z
   have:((⟨args'⟩:Array C)++my (nt-(⟨args'⟩:Array C).size) undef).getD t undef=v':=by
    rw[iG,tL (by simp;omega)];simp[I]
   rw[this];exact B
  .rw[jx N,Tr.get_nil];exact .top _
def ZQ{o:Out}{az:Ending->cZ->Prop}(h:Qf o=Z s)(K:∀a' w' m',At m H w [] nt [] s a' w' m'->a'.defers=[]/\∃v,(results fn a'.tmps).run P w'=.ok v w'/\az (.returned v) w'):
 Post m H w [] nt [] (bodyPost P fn az) o:=by
 cases o with
 |fail=>cases h
 |norm s1=>cases h;intro m' a' w' e;exact K a' w' m' e
 |exit=>cases h
 |goto=>cases h
 |ret s1=>cases h;intro m' a' w' e;exact K a' w' m' e
def ZR{X:Xt}{L:Lv}(hP:Ec P n)(hO:Ml P X n)(hcf:Jf P n L.ca)(hcx:∀nt,Qz P L.cx n nt)(hdr:∀nt,Qy P L.ca n nt)(k:Nat):
 QA P n (CW P X L k):=by
 intro g args v H Q fn h hg hb m w args' rh gl hv;cases hor:X.o g args H with
 |some r=>
  rw[Ee hor]at h;cases h;exact(hO g args v H Q hor).2 m w args' rh gl hv
 |none=>
 rw[zl hor]at h;obtain⟨fn',hfn,h⟩:=aL h;rw[qw,fC,hg]at hfn;cases hfn;have hok:=hP g fn hg;cases hbody:fn.body with
 |none=>rw[hbody]at hb;cases hb
 |some c=>
  replace h:(@aQ Code (λ_=>aC<|C×R) (Zm P (X g) fn.resultTypes.toList args H)
   (λc=>gd (aD (len args) fn.ntmps)<|aN (Qf<|exec P L.ca L.cx k c ⟨jZ P g,fn.ntmps,[],Tr.uS top args 0 .nil,[],H⟩) λs=>JK P fn s) fn.body)=Z (v,Q):=h
  unfold abK at hok;rw[hbody]at h hok;replace h:(gd (aD (len args) fn.ntmps)<|aN (Qf<|exec P L.ca L.cx k c ⟨jZ P g,fn.ntmps,[],Tr.uS top args 0 .nil,[],H⟩) λs=>JK P fn s)=Z (v,Q):=h;replace hok:(zU n fn.ntmps c&&!(fn.name== "runtime.NumGoroutine"))=f:=hok;rw[bE]at hok;obtain⟨hle,h⟩:=gJ h;have hle:=aF hle;rw[h_]at hle;obtain⟨s,hs,h⟩:=aL h;obtain⟨hdf,h⟩:=gJ h;obtain⟨vs,hvs,h⟩:=aL h;cases h;refine calls_of_wp hg hbody ?_;refine XN hcf (hcx fn.ntmps) (hdr fn.ntmps) k c ⟨jZ P g,fn.ntmps,[],Tr.uS top args 0 .nil,[],H⟩ m _ w _ (Vt c hok.1) O rh (aiV hv (jZ P g) fn.ntmps hle H) gl ?_;refine ZQ hs ?_;intro a' w' m' ha;obtain⟨v',I,B⟩:=Vu ha.rh ha.fr hvs;exact⟨ha.de,v',B,m',v',O,I,ha.rh,ha.ex⟩
def afX{X:Xt}{L:Lv}(hP:Ec P n)(hX:XOk P X)(hO:Ml P X n)(hc:QA P n<|CW P X L k):Jf P n (CW P X L k):=by
 intro g args v H Q h m w args' rh gl hv o a next H' K
 have h0:=h
 have anK:∃fn,P.funcs[g]?=Z fn/\(fn.body=T->X.o g args H=T):=by
  cases hor:X.o g args H with
  |some r=>
   obtain⟨⟨fn,I,B⟩,_⟩:=hO g args r.1 H r.2 hor;exact⟨fn,I,λh3=>by rw[h3]at B;cases B⟩
  |none=>
   rw[zl hor]at h;obtain⟨fn,I,_⟩:=aL h;rw[qw,fC]at I;exact⟨fn,I,λ_=>rfl⟩
 obtain⟨fn,hfn,hno⟩:=anK;cases hbody:fn.body with
 |some c=>
  have hok:=hP g fn hfn;unfold abK at hok;rw[hbody]at hok;replace hok:(zU n fn.ntmps c&&!(fn.name== "runtime.NumGoroutine"))=f:=hok;rw[bE]at hok;have hn:fn.name≠ "runtime.NumGoroutine" :=by simpa using hok.2
  have hr:(callFunc g ⟨args'⟩).run P w=.ok (.enter g ⟨args'⟩) w:=by
   simp[callFunc,hfn,hn,hbody]
  rw[hr,Oper.upon_enter];refine(hc g args v H Q fn h0 hfn (by rw[hbody];rfl) m w args' rh gl hv).mono ?_;rintro e w' ⟨m',v',rfl,I,B,h3⟩;exact K m' v' w' I B h3
 |none=>
  rw[zl (hno hbody),qw,fC,hfn]at h
  replace h:(@aQ Code (λ_=>aC<|C×R) (Zm P (X g) fn.resultTypes.toList args H)
   (λc=>gd (aD (len args) fn.ntmps)<|aN (Qf<|exec P L.ca L.cx k c ⟨jZ P g,fn.ntmps,[],Tr.uS top args 0 .nil,[],H⟩) λs=>JK P fn s) fn.body)=Z (v,Q):=h
  rw[hbody]at h;obtain⟨m',v',w',I,B,h3,h4⟩:=hX g fn args v H Q hfn hbody h m w args' rh hv;rw[I,Oper.upon_value];exact K m' v' w' B h3 h4
def abL{X:Xt}(E:Ec P n)(hX:XOk P X)(B:Ml P X n)(z:∀cf,Jf P n cf->∀nt,Qy P cf n nt):
 ∀k,Jf P n (lv P X k).ca/\(∀nt,Qz P (lv P X k).cx n nt)/\QA P n (lv P X k).ca:=by
 intro k
 induction k with
 |zero=>
  refine⟨?_,?_,?_⟩
  .intro g args v H Q h;cases h
  .intro nt c s m a w H' _ _ _ _ _ h;exact h.elim
  .intro g args v H Q fn h;cases h
 |succ k e=>
  have I:=ZR (X:=X) E B e.1 e.2.1 (z _ e.1) k;exact⟨afX E hX B I,λnt=>XN e.1 (e.2.1 nt) (z _ e.1 nt) k,I⟩
end mem
def Mp.upto(m:Mp)(b:Nat):Mp:=λr=>if r<b then m r else T
def Mp.XO(m:Mp)(b:Nat):Mp.le (m.upto b) m:=by
 intro r l h;unfold Mp.upto at h;split at h
 .exact h
 .cases h
def Mp.yL{b b':Nat}(e:Mp.le m m')(z:b<=b'):Mp.le (m.upto b) (m'.upto b'):=by
 intro r l h;unfold Mp.upto at h|-;split at h
 .next I=>rw[jj N];exact e r l h
 .cases h
def Mp.qD{b:Nat}(h:m.upto b r=Z l):r<b/\m r=Z l:=by
 unfold Mp.upto at h;split at h
 .next I=>exact⟨I,h⟩
 .cases h
def Mp.Hr{b:Nat}(h:m r=Z l)(e:r<b):m.upto b r=Z l:=by
 unfold Mp.upto;rw[jj e];exact h
def Ht(h:gZ (gK es)=f):False:=by
 have:=aF h;unfold gK at this;have e:bq 18446744073709551616 es=18446744073709551616+es:=rfl;omega
mutual
theorem VR.restrict(z:Mp.le m1 m2):∀{x v v':C},VR m2 x v'->VR m1 x v->VR m1 x v'
 |_,_,_,.sc v h,_=>.sc v h
 |_,_,_,.top v,_=>.top v
 |_,_,_,.ptr r off l h hl,g=>by
  obtain⟨l1,I,B,_,_⟩:=g.vD;have:=z _ _ I;simp only at this I;rw[h]at this;cases this;exact .ptr r off l I hl
 |_,_,_,.slice r off n cp l h hl J hn,g=>by
  cases g with
  |sc _ hs=>simp[Ae.oZ,fT]at hs
  |slice _ _ _ _ l1 I _ _ _=>
   have:=z _ _ I;rw[h]at this;cases this;exact .slice r off n cp l I hl J hn
  |uJ=>exact(Ht J).elim
  |xh=>exact .xh _ _
  |vN=>exact(Ht J).elim
 |_,_,_,.uJ r off n es cc l h hl he ht hc hN,g=>by
  generalize JM:gK es=cu at g;cases g with
  |sc _ hs=>simp[Ae.oZ,fT]at hs
  |slice _ _ _ _ l1 I _ J _=>subst JM;exact(Ht J).elim
  |uJ _ _ _ E _ l1 I _ _ _ _ _=>
   have:=z _ _ I;rw[h]at this;cases this;rw[<-JM];exact .uJ r off n es cc l I hl he ht hc hN
  |xh=>unfold gK at JM;have e:bq 18446744073709551616 es=18446744073709551616+es:=rfl;omega
  |vN _ _ E _ l1 I _ _ _=>
   have:=z _ _ I;rw[h]at this;cases this;rw[<-JM];exact .uJ r off _ es cc l I hl he ht hc hN
 |_,_,_,.xh a a',_=>.xh a a'
 |_,_,_,.vN r off es a' l h hl he hN,g=>by
  generalize JM:gK es=cu at g;cases g with
  |sc _ hs=>simp[Ae.oZ,fT]at hs
  |slice _ _ _ _ l1 I _ J _=>subst JM;exact(Ht J).elim
  |uJ _ _ _ E _ l1 I _ _ _ _ _=>
   have:=z _ _ I;rw[h]at this;cases this;rw[<-JM];exact .vN r off es a' l I hl he hN
  |xh=>unfold gK at JM;have e:bq 18446744073709551616 es=18446744073709551616+es:=rfl;omega
  |vN _ _ E _ l1 I _ _ _=>
   have:=z _ _ I;rw[h]at this;cases this;rw[<-JM];exact .vN r off es a' l I hl he hN
 |_,_,_,.map r l h,g=>by
  obtain⟨l1,I,_⟩:=g.of_map;have:=z _ _ I;rw[h]at this;cases this;exact .map r l I
 |_,_,_,.func ay x y x' y' M hy,g=>by
  obtain⟨_,_,rfl,I,B⟩:=g.abf;exact .func ay x y x' y' (mX.restrict z M I)<|mX.restrict z hy B
 |_,_,_,.iface t v v' h,g=>by
  obtain⟨_,rfl,I⟩:=g.abe;exact .iface t v v'<|VR.restrict z h I
 |_,_,_,.agg x x' h,g=>by
  obtain⟨_,rfl,I⟩:=g.vC;exact .agg x x'<|mX.restrict z h I
 |_,_,_,.tuple x x' h,g=>by
  obtain⟨_,rfl,I⟩:=g.Qj;exact .tuple x x'<|mX.restrict z h I
theorem mX.restrict(e:Mp.le m1 m2):∀{x v v':D C},mX m2 x v'->mX m1 x v->mX m1 x v'
 |_,_,_,.nil,_=>.nil
 |_,_,_,.cons v v' x x' h M,g=>by
  cases g with
  |cons _ _ _ _ z B=>exact .cons v v' x x' (VR.restrict e h z)<|mX.restrict e M B
end
def Fs.restrict(z:Mp.le m1 m2){x:D (C×C)}{v v':D MapEntry}(h:Fs m2 x v')(g:Fs m1 x v):Fs m1 x v':=by
 induction h generalizing v with
 |nil=>exact .nil
 |cons k x e l N I J _ M=>
  cases g with
  |cons _ _ _ _ _ B gv E=>exact .cons k x e l N (VR.restrict z I B) (VR.restrict z J gv)<|M E
def Mm:nI->nI
 |.row az=>.row ⟨az.ty,.nil,az.n,az.mR,az.fz⟩
 |o=>o
def nK:nI->Nat->aC C
 |.row az,i=>if i<az.n then Z (az.cells.get top i)else T
 |_,_=>T
def oP(m:Mp)(l:Loc):nI->Obj->Prop
 |.dead,_=>True
 |.row az,.cells F ty fr=>(ty=az.ty/\l.base=0)/\az.n=l.n/\F.size=l.tot/\l.lo<=az.n/\l.base+(az.n-l.lo)<=l.tot/\(az.mR=aA->fr.2<=l.base+(az.fz-l.lo))
 |.map es,.map Bo _=>Fs m es Bo.toList
 |.OQ s p,.stringIter s' p'=>s'=s/\p'=p/\l.base=0
 |_,_=>False
def yM(m:Mp)(l:Loc)(i:Nat)(x:C)(ob:Obj):Prop:=∃F ty fr v,ob=.cells F ty fr/\F[l.base+(i-l.lo)]?=Z v/\VR m x v
theorem oP.Vv{o:nI}(h:oP m l o ob)(e:Mm o=Mm o'):oP m l o' ob:=by
 cases o<;>cases o'<;>simp only[Mm]at e<;>first|(cases e;exact h)|cases e|skip
 case row.row az R'=>
  obtain⟨a1,z,B,E,I⟩:=az;obtain⟨J,M,N,O,U⟩:=R';simp only[nI.row.injEq,Row.mk.injEq]at e;obtain⟨rfl,_,rfl,rfl,rfl⟩:=e;cases ob<;>first|exact h|exact h.elim
theorem wL.split{o:nI}(h:wL m l o ob):oP m l o ob/\∀i x,nK o i=Z x->l.lo<=i->yM m l i x ob:=by
 cases o with
 |row az=>
  cases ob<;>first|exact h.elim|skip
  case cells F ty fr=>
   obtain⟨I,B,e,z,E,J,N⟩:=h;refine⟨⟨I,B,e,z,E,J⟩,?_⟩;intro i x M W;simp only[nK]at M;split at M
   .next Y=>
    cases M;obtain⟨v,U,V⟩:=N i W Y;exact⟨F,ty,fr,v,O,U,V⟩
   .cases M
 |dead=>exact⟨trivial,λi x M=>by cases M⟩
 |map es=>cases ob<;>first|exact h.elim|exact⟨h,λi x M=>by cases M⟩
 |OQ s p=>cases ob<;>first|exact h.elim|exact⟨h,λi x M=>by cases M⟩
theorem wL.join{o:nI}(h:oP m l o ob)(W:∀i x,nK o i=Z x->l.lo<=i->yM m l i x ob):wL m l o ob:=by
 cases o with
 |row az=>
  cases ob<;>first|exact h.elim|skip
  case cells F ty fr=>
   obtain⟨I,B,J,M,N,O⟩:=h;refine⟨I,B,J,M,N,O,?_⟩;intro i Y hn;obtain⟨z,ab,E,v,e,U,V⟩:=W i _ (by simp only[nK];rw[jj hn]) Y;cases e;exact⟨v,U,V⟩
 |dead=>trivial
 |map es=>cases ob<;>first|exact h.elim|exact h
 |OQ s p=>cases ob<;>first|exact h.elim|exact h
theorem oP.mono{m m':Mp}(e:Mp.le m m'){l:Loc}{o:nI}{ob:Obj}(h:oP m l o ob):oP m' l o ob:=by
 cases o<;>cases ob<;>first|exact h|exact Fs.mono e h
theorem oP.restrict(e:Mp.le m1 m2){o:nI}(h:oP m2 l o L_)(g:oP m1 l o ob):oP m1 l o L_:=by
 cases o with
 |dead=>trivial
 |row az=>cases L_<;>exact h
 |OQ s p=>cases L_<;>exact h
 |map es=>
  cases L_<;>first|exact h.elim|skip
  cases ob<;>first|exact g.elim|skip
  exact Fs.restrict e h g
def yM.mono{m m':Mp}(z:Mp.le m m'){l:Loc}{i:Nat}{x:C}{ob:Obj}(h:yM m l i x ob):yM m' l i x ob:=by
 obtain⟨F,ty,fr,v,I,B,e⟩:=h;exact⟨F,ty,fr,v,I,B,e.mono z⟩
def yM.restrict(z:Mp.le m1 m2){x:C}(h:yM m2 l i x L_)(g:yM m1 l i x ob):yM m1 l i x L_:=by
 obtain⟨F,ty,fr,v,I,B,e⟩:=h;obtain⟨_,_,_,_,_,_,g3⟩:=g;exact⟨F,ty,fr,v,I,B,VR.restrict z e g3⟩
theorem abM{o:nI}(e:Mm o=Mm o')(h:o≠.dead):o'≠.dead:=by
 intro z;subst z;cases o<;>first|exact h O|cases e
def Ef(m i:Nat):iP m i=m.testBit i:=by
 unfold iP;rw[qz];have e:Nat.shiftRight m i=m>>>i:=rfl;rw[e,uA];have z:Nat.mod (m/2^i) 2=(m/2^i) %2:=rfl;rw[z,fM,decide_eq_true_iff];exact⟨bA,λh=>by rw[h];rfl⟩
def ZS(e i:Nat):iP (Nat.shiftLeft 1 e) i=f<->i=e:=by
 rw[Ef];have z:Nat.shiftLeft 1 e=1<<<e:=rfl;rw[z,Nat.one_shiftLeft,Nat.testBit_two_pow];simp[eq_comm]
def Pd(a b i:Nat):iP (Nat.lor a b) i=(iP a i||iP b i):=by
 rw[Ef,Ef,Ef];exact xN a b i
def Vw(i:Nat):iP 0 i=aA:=by rw[Ef];simp
def Vx{acc:D Nat}:∀{l:D Edge}{i:Nat},iP (Am acc n l) i=f->∃e,e∈l/\gY .any e=f/\(i=e.on\/iP ((nth acc<|n-1-e.on).getD 0) i=f):=by
 intro l
 induction l with
 |nil=>intro i h;rw[show Am acc n []=0 from O,Vw]at h;cases h
 |cons e l E=>
  intro i h;replace h:iP (b_ (gY .any e) (Nat.lor (Nat.lor (Nat.shiftLeft 1 e.on)<|(nth acc<|dP (dP n 1) e.on).getD 0)<|Am acc n l)<|Am acc n l) i=f:=h;cases hb:gY .any e with
  |false=>
   rw[hb]at h;obtain⟨z,I,B⟩:=E h;exact⟨z,bJ _ I,B⟩
  |true=>
   rw[hb]at h;replace h:iP (Nat.lor (Nat.lor (Nat.shiftLeft 1 e.on)<|(nth acc<|dP (dP n 1) e.on).getD 0)<|Am acc n l) i=f:=h;rw[Pd,Pd,lu,lu]at h;rcases h with(h|h)|h
   .exact⟨e,aK ..,hb,.inl<|(ZS _ _).1 h⟩
   .exact⟨e,aK ..,hb,.inr h⟩
   .obtain⟨z,I,B⟩:=E h;exact⟨z,bJ _ I,B⟩
def BM(ops:Array Oper)(j:Nat):Nat:=(vB ops.toList [] 0).getD (ops.size-1-j) 0
def Pe:∀(l:D Oper)(acc:D Nat)(n:Nat),(vB l acc n).length=u l+u acc:=by
 intro l
 induction l with
 |nil=>intro acc n;simp[show vB [] acc n=acc from O]
 |cons o l e=>
  intro acc n;rw[show vB (o::l) acc n=vB l (Am acc n o.after.toList::acc) (n+1)from O,e];simp;omega
def Mo:∀(l:D Oper)(acc:D Nat)(n k:Nat),u l<=k->(vB l acc n).getD k 0=acc.getD (k-u l) 0:=by
 intro l
 induction l with
 |nil=>intro acc n k _;rfl
 |cons o l z=>
  intro acc n k e;rw[show vB (o::l) acc n=vB l (Am acc n o.after.toList::acc) (n+1)from O,z _ _ _ (by simp at e;omega)];simp only[cO]at e|-;rw[show k-u l=(k-(u l+1))+1 from N];rfl
def abN:∀(l:D Oper)(acc:D Nat)(n j:Nat)(o:Oper),u acc=n->l[j]?=Z o->
 ∃e,u e=n+j/\(vB l acc n).getD (u l-1-j) 0=Am e (n+j) o.after.toList/\∀k,k<n+j->e.getD (n+j-1-k) 0=(vB l acc n).getD (n+u l-1-k) 0:=by
 intro l
 induction l with
 |nil=>intro acc n j o _ h;simp at h
 |cons p l M=>
  intro acc n j o z h;rw[show vB (p::l) acc n=vB l (Am acc n p.after.toList::acc) (n+1)from O];cases j with
  |zero=>
   simp at h;subst h;refine⟨acc,by simpa using z,?_,?_⟩
   .rw[Mo _ _ _ _ (gB)];simp
   .intro k J;rw[Mo _ _ _ _ (by simp;omega)];simp only[cO,dZ];rw[show n+(u l+1)-1-k-u l=(n-1-k)+1 from N];rfl
  |succ j=>
   obtain⟨e,I,B,E⟩:=M (Am acc n p.after.toList::acc) (n+1) j o (by simp[z]) (by simpa using h)
   have U:j<u l:=by
    have:l[j]?=Z o:=by simpa using h
    exact(bK.1 this).1
   refine⟨e,N,?_,?_⟩
   .simp only[cO];rw[show u l+1-1-(j+1)=u l-1-j from N,B,show n+1+j=n+(j+1)from N]
   .intro k J;have:=E k N;rw[show n+1+j-1-k=n+(j+1)-1-k from N,show n+1+u l-1-k=n+(u l+1)-1-k from N]at this;exact this
def Eg:∀(l:D Oper)(n j:Nat)(o:Oper),yF l n=f->l[j]?=Z o->∀e,e∈o.after.toList->gY .any e=f->e.on<n+j:=by
 intro l
 induction l with
 |nil=>intro n j o _ h;simp at h
 |cons p l I=>
  intro n j o z h e E B;replace z:b_ (all' (λe=>!(gY .any e)||aD (dh e.on) n) p.after.toList) (yF l<|dh n) aA=f:=z;cases ha:all' (λe=>!(gY .any e)||aD (dh e.on) n) p.after.toList with
  |false=>rw[ha]at z;cases z
  |true=>
   rw[ha]at z;replace z:yF l (dh n)=f:=z;cases j with
   |zero=>
    simp at h;subst h;rw[all_eq,fD]at ha;have:=ha e E;rw[B]at this;simp only[vI,sZ]at this;have:=aF this;omega
   |succ j=>
    have:=I (n+1) j o z (by simpa using h) e E B;omega
def oK(hb:yF ops.toList 0=f)(hD:∀j o,ops[j]?=Z o->ak j->∀e,e∈o.after.toList->gY .any e=f->ak e.on):
 ∀(j:Nat)(o:Oper),ops[j]?=Z o->(∀e,e∈o.after.toList->gY .any e=f->ak e.on)->∀i,iP (BM ops j) i=f->ak i:=by
 intro j
 induction j using Nat.strongRecOn with
 |_ j ih=>
  intro o ho z i W;have M:ops.toList[j]?=Z o:=by rw[fC];exact ho
  obtain⟨Y,I,B,h3⟩:=abN ops.toList [] 0 j o O M;unfold BM at W;rw[show ops.size-1-j=u ops.toList-1-j from gB,B]at W;obtain⟨e,V,E,hie⟩:=Vx W;have ac:=Eg _ 0 j o hb M e V E;rcases hie with rfl|hie
  .exact z e V E
  .have U:=z e V E;have ab:j<ops.size:=(eX.1 ho).1;have J:ops[e.on]?=Z ops[e.on]:=bI N;refine ih e.on N _ J (hD e.on _ J U) i ?_;have h4:=h3 e.on N;unfold BM;rw[show ops.size-1-e.on=0+u ops.toList-1-e.on from gB,<-h4];rw[qw]at hie;rw[aW];exact hie
def QB{ay:α->α->Bool->Bool}{x:α}{m:Nat}:∀{l:D α},jU ay x m l=f->∀i y,l[i]?=Z y->ay x y (iP m<|u l-1-i)=f:=by
 intro l
 induction l with
 |nil=>intro _ i y h;simp at h
 |cons z l B=>
  intro h i y e;replace h:b_ (ay x z<|iP m<|len l) (jU ay x m l) aA=f:=h;cases hf:ay x z (iP m<|len l)with
  |false=>rw[hf]at h;cases h
  |true=>
   rw[hf]at h;cases i with
   |zero=>simp at e;subst e;rw[h_]at hf;simpa using hf
   |succ i=>
    have:=B h i y (by simpa using e);simp only[cO];rw[show u l+1-1-(i+1)=u l-1-i from N];exact this
def Mq{ay:α->α->Bool->Bool}:∀{ms:D Nat}{xs:D α},pairs ay ms xs=f->∀i j x y,i<j->xs[i]?=Z x->xs[j]?=Z y->i<u ms->
 ay x y (iP (ms.getD i 0)<|u xs-1-j)=f:=by
 intro ms
 induction ms with
 |nil=>intro xs _ i j x y _ _ _ h;simp at h
 |cons m ms I=>
  intro xs h i j x y E M e B;cases xs with
  |nil=>simp at M
  |cons z xs=>
   replace h:b_ (jU ay z m xs) (pairs ay ms xs) aA=f:=h;cases hr:jU ay z m xs with
   |false=>rw[hr]at h;cases h
   |true=>
    rw[hr]at h;cases j with
    |zero=>omega
    |succ j=>
     simp only[cO];rw[show u xs+1-1-(j+1)=u xs-1-j from N];cases i with
     |zero=>
      simp at M;subst M;exact QB hr j y (by simpa using e)
     |succ i=>exact I h i j x y N (by simpa using M) (by simpa using e) (by simpa using B)
section mem
variable{P:aX}
def Vy{cs:Prop}(h:o.wp P a w next H')(B:∀a w,next a w->cs)(E:∀e a w,H' e a w->cs):cs:=by
 unfold Oper.wp at h;generalize(execOp a.eval o).run P w=r at h;cases r with
 |ok n w'=>
  cases n with
  |value v=>exact B _ _ h
  |skip=>exact B _ _ h
  |defer d=>exact B _ _ h
  |enter ay args=>
   obtain⟨e,J,fr,z,_⟩:=h [];cases e with
   |returned v=>exact B _ _ z
   |panicked M=>exact E _ _ _ z
   |outgrown=>obtain⟨a1,w1,I⟩:=z;exact E _ _ _ I
  |row row args=>
   obtain⟨v,J,z,_⟩:=h default [];exact B _ _ z
  |_=>exact h.elim
 |halt x w'=>
  cases x with
  |panic v=>exact E _ _ _ h
  |_=>exact h.elim
def Mr{cf:mM}(I:Jf P n cf)(M:RH m s.H w)(N:Gl n m)(B:BK o.op P cf s=.mem v Q)(e:Qw m s a.eval o.op.operands.toList)(K:∀m' v' w',VR m' v v'->RH m' Q w'->Ex m m' s.H Q w w'->next (a.put o.dst v') w'):o.wp P a w next H':=by
 unfold Oper.wp;refine XM M B e ?_ K;intro c E O;rw[E]at B;replace B:Al c P cf s=.mem v Q:=B;obtain⟨z,⟨args⟩,ats⟩:=c;cases z with
 |value g=>exact SE I N M E B e K
 |invoke r J=>exact nomatch(show(R3.fail:R3)=.mem _ _ from B)
 |builtin b=>cases O
def Qw.iW(e:Qw m s ρ L):Qw m (iW s) ρ L:=⟨λx M=>by have:=e.all x M;cases x<;>exact this⟩
inductive Mt(P:aX)(cf:mM)(ops:Array Oper)(o:Oper)(s:St):St->Cl->Prop where
 |skip (hw:uN ops s o.guard=Z aA):Mt P cf ops o s (kF s o.dst undef s.H) (cl 0)
 |DU (v:C) (hw:uN ops s o.guard=Z f) (hr:BK o.op P cf (iW s)=.DU v):Mt P cf ops o s (kF s o.dst v s.H) (cl 0)
 |mem (v:C) (Q:R) (hw:uN ops s o.guard=Z f) (hr:BK o.op P cf (iW s)=.mem v Q):
  Mt P cf ops o s (kF s o.dst v ⟨Q.xI,Q.bV,pV s.H.low Q.low⟩) (uB P o.op s Q)
def abO{cf:mM}{c:Cl}(h:mV P cf ops o s=Z (s1,c)):Mt P cf ops o s s1 c:=by
 obtain⟨b,e,h⟩:=aL h;cases b with
 |false=>
  replace h:Z (kF s o.dst undef s.H,cl 0)=Z (s1,c):=h;cases h;exact .skip e
 |true=>
  replace h:JH P o s (BK o.op P cf<|iW s)=Z (s1,c):=h;cases hr:BK o.op P cf (iW s)with
  |fail=>rw[hr]at h;cases h
  |DU v=>
   rw[hr]at h;replace h:Z (kF s o.dst v s.H,cl 0)=Z (s1,c):=h;cases h;exact .DU v e hr
  |mem v Q=>
   rw[hr]at h;replace h:Z (kF s o.dst v ⟨Q.xI,Q.bV,pV s.H.low Q.low⟩,uB P o.op s Q)=Z (s1,c):=h;cases h;exact .mem v Q e hr
def TF(P:aX)(cf:mM)(ops:Array Oper)(o:Oper)(s:St):Prop:=∀v Q,BK o.op P cf (iW s)=.mem v Q->uN ops s o.guard=Z f->s.H.bV<=Q.bV/\∀r,r<s.H.bV->r<Q.low->Q.obj r=s.H.obj r
def RH.low(e:RH m H w)(k:Nat):RH m ⟨H.xI,H.bV,k⟩ w:=⟨e.dom,e.ok,e.sep⟩
def trace{cf:mM}(am:Jf P n cf):
 ∀(l:D Oper)(s s1:St)(acc cls:D Cl)(m:Mp)(a:Act)(w:cZ),(∀o,o∈l->yK n nt o=f)->s.nt=nt->RH m s.H w->FR m s a->Gl n m->
 jT P cf ops l s acc=Z (s1,cls)->
 ∃(S:Nat->St)(ag:Nat->Cl),S 0=s/\S (u l)=s1/\u cls=u l+u acc/\(∀j,j<u l->cls[u l-1-j]?=Z (ag j))/\(∀k,cls[u l+k]?=acc[k]?)/\
  ∀j o,l[j]?=Z o->Mt P cf ops o (S j) (S<|j+1) (ag j)/\TF P cf ops o (S j)/\(S j).nt=nt:=by
 intro l
 induction l with
 |nil=>
  intro s s1 acc cls m a w _ z _ _ _ h;cases h;exact⟨λ_=>s,λ_=>cl 0,rfl,rfl,gB,gB,gB,gB⟩
 |cons o l ih=>
  intro s s1 acc cls m a w O z rh ay V h;replace h:(aN (mV P cf ops o s) λq=>jT P cf ops l q.1<|q.2::acc)=Z (s1,cls):=h;obtain⟨q,hq,h⟩:=aL h;obtain⟨s2,c⟩:=q;have ab:=abO hq;have U:=O o<|gB;unfold yK at U;simp only[bE]at U
  have ao:(∃m' J w',RH m' s2.H w'/\FR m' s2 J/\Gl n m')/\TF P cf ops o s/\s2.nt=nt:=by
   cases ab with
   |skip hw=>
    refine⟨⟨m,a.put o.dst undef,w,by rw[nA];exact rh,ay.put (by rw[z];exact U.2)<|.tuple [] [] .nil,V⟩,?_,by rw[zT];exact z⟩;intro v Q _ ac;rw[hw]at ac;cases ac
   |DU v hw Y=>
    have e:=(ay.ev V U.1).iW;obtain⟨v',I,B⟩:=Qx Y e λ_=>rfl;refine⟨⟨m,a.put o.dst v',w,by rw[nA];exact rh,ay.put (by rw[z];exact U.2) I,V⟩,?_,by rw[zT];exact z⟩;intro v1 Q E _;rw[Y]at E;cases E
   |mem v Q hw Y=>
    have e:=(ay.ev V U.1).iW
    have M:o.wp P a w (λJ w'=>∃m',(RH m' (kF s o.dst v ⟨Q.xI,Q.bV,pV s.H.low Q.low⟩).H w'/\FR m' (kF s o.dst v ⟨Q.xI,Q.bV,pV s.H.low Q.low⟩) J/\Gl n m')/\
     (s.H.bV<=Q.bV/\∀r,r<s.H.bV->r<Q.low->Q.obj r=s.H.obj r)) (λ_ _ _=>False):=by
     refine Mr am (s:=iW s) (rh.low _) V Y e ?_;intro m' v' w' I B h3;exact⟨m',⟨by rw[nA];exact B.low _,(ay.mono h3.le).put (by rw[z];exact U.2) I,V.mono h3.le⟩,h3.bV,h3.xI⟩
    have:=Vy (cs:=(∃m' J w',RH m' (kF s o.dst v ⟨Q.xI,Q.bV,pV s.H.low Q.low⟩).H w'/\FR m' (kF s o.dst v ⟨Q.xI,Q.bV,pV s.H.low Q.low⟩) J/\Gl n m')/\
     (s.H.bV<=Q.bV/\∀r,r<s.H.bV->r<Q.low->Q.obj r=s.H.obj r)) M
     (λJ w' ⟨m',I,B⟩=>⟨⟨m',J,w',I⟩,B⟩) (λ_ _ _ h=>h.elim)
    refine⟨this.1,?_,by rw[zT];exact z⟩;intro v1 H1 E _;rw[Y]at E;cases E;exact this.2
  obtain⟨⟨m',J,w',ap,f',al⟩,an,ad⟩:=ao;obtain⟨S,ag,e1,e2,e3,e4,e5,e6⟩:=ih s2 s1 (c::acc) cls m' J w' (λp W=>O p<|by simp[W]) ad ap f' al h;refine⟨λk=>match k with|0=>s|k+1=>S k,λk=>match k with|0=>c|k+1=>ag k,rfl,e2,by simp at e3|-;omega,?_,?_,?_⟩
  .intro j hj;cases j with
   |zero=>
    have:=e5 0;simpa using this
   |succ j=>
    simp only[cO]at hj|-;rw[show u l+1-1-(j+1)=u l-1-j from N];exact e4 j N
  .intro k;have:=e5<|k+1;simp only[cO];rw[show u l+1+k=u l+(k+1)from N,this];rfl
  .intro j p W;cases j with
   |zero=>
    simp at W;subst W;exact⟨by simpa [e1]using ab,an,z⟩
   |succ j=>exact e6 j p (by simpa using W)
theorem abP{o:Op}:(uB P o s Q).k<=5:=by
 unfold uB;cases CU o with
 |none=>
  show(b_ (aD s.H.bV Q.low) (b_ (Bj o) (cl 5)<|Bl P o s) ⟨2,0,0,0,s.H,Q⟩:Cl).k<=5;cases aD s.H.bV Q.low with
  |false=>exact aF O
  |true=>
   cases Bj o with
   |true=>exact aF O
   |false=>
    show(Bl P o s).k<=5;unfold Bl;cases h:(aN (I8 o) λp=>aN (sJ<|ev s p.2) λa=>aN (tLd P p.1) λl=>Z<|Cl.mk 4 a.block a.off (l.getD 1) hh0 hh0)with
    |none=>exact aF O
    |some q=>
     obtain⟨p,B,h⟩:=aL h;obtain⟨a,e,h⟩:=aL h;obtain⟨l,z,h⟩:=aL h;cases h;exact aF O
 |some p=>
  show(@aQ Addr (λ_=>Cl) ⟨2,0,0,0,s.H,Q⟩ (λa=>⟨3,a.block,a.off,len<|cr<|ev s p.2,hh0,hh0⟩) (sJ<|ev s p.1):Cl).k<=5;cases sJ (ev s p.1)<;>exact aF O
def ZT(h:qN ops=f):yF ops.toList 0=f/\∀i j z B,i<j->ops[i]?=Z z->ops[j]?=Z B->iP (BM ops j) i=f\/z.apart ops B=f:=by
 unfold qN at h;rw[bE]at h;refine⟨h.1,λi j z B M J E=>?_⟩;have O:j<ops.size:=(eX.1 E).1
 have e:∀k o,ops[k]?=Z o->ops.toList.reverse[ops.size-1-k]?=Z o:=by
  intro k o I;have U:k<ops.size:=(eX.1 I).1;rw[List.getElem?_reverse (by simp;omega)];simp only[qo];rw[show ops.size-1-(ops.size-1-k)=k from N,fC];exact I
 have:=Mq h.2 (ops.size-1-j) (ops.size-1-i) B z N (e j B E) (e i z J) (by rw[Pe];simp;omega);simp only[List.length_reverse,qo]at this;rw[show ops.size-1-(ops.size-1-i)=i from N]at this;simpa [BM]using this
def abQ(h:kY ops cls=f)(hl:u cls=ops.size)(M:∀j,j<ops.size->cls[ops.size-1-j]?=Z (ag j))(hk:∀j,j<ops.size->(ag j).k<=5):
 ∀i j,i<j->j<ops.size->gG (ag j) (ag i) (iP (BM ops j) i)=f:=by
 intro i j ab O;unfold kY at h;cases hn:noTwo cls with
 |false=>
  rw[hn]at h;have:=Mq (ay:=gG) h (ops.size-1-j) (ops.size-1-i) (ag j) (ag i) N (M j O) (M i N) (by rw[Pe];simp;omega);rw[hl,show ops.size-1-(ops.size-1-i)=i from N]at this;exact this
 |true=>
  have z:∀k,k<ops.size->(ag k).k≠2/\(ag k).k≠3:=by
   intro k U;unfold noTwo at hn;rw[all_eq,fD]at hn;have:=hn (ag k)<|aT<|M k U;simp only[nQ,Bool.or_eq_false_iff]at this;exact⟨λe=>by rw[e]at this;exact absurd this.1<|jg,λe=>by rw[e]at this;exact absurd this.2<|jg⟩
  have I:=z i N;have B:=z j O;have V:=hk i N;have W:=hk j O;generalize ag i=ci at I V|-;generalize ag j=cj at B W|-;obtain⟨E,_,_,_,_,_⟩:=ci;obtain⟨J,_,_,_,_,_⟩:=cj;simp only at I B V W;have Y:E=0\/E=1\/E=4\/E=5:=N;have e2:J=0\/J=1\/J=4\/J=5:=N;rcases Y with rfl|rfl|rfl|rfl<;>rcases e2 with rfl|rfl|rfl|rfl<;>rfl
def QC(h:gG y x b=f)(M:x.k=1\/x.k=2)(e:y.k=1\/y.k=2)(B:x.k=2\/y.k=2):b=f:=by
 obtain⟨z,_,_,_,_,_⟩:=x;obtain⟨E,_,_,_,_,_⟩:=y;simp only at M e B;rcases M with rfl|rfl<;>rcases e with rfl|rfl<;>first|(exfalso;omega)|exact h
def XP(h:gG y x b=f)(M:x.k=3)(e:y.k=1\/y.k=2):False:=by
 obtain⟨z,_,_,_,_,_⟩:=x;obtain⟨B,_,_,_,_,_⟩:=y;simp only at M e;subst M;rcases e with rfl|rfl<;>(cases b<;>exact absurd (show aA=f from h)<|gB)
def XQ(h:gG y x b=f)(M:x.k=1\/x.k=2)(e:y.k=3):b=f:=by
 obtain⟨z,_,_,_,_,_⟩:=x;obtain⟨B,_,_,_,_,_⟩:=y;simp only at M e;subst e;rcases M with rfl|rfl<;>(cases b<;>first|rfl|exact h)
def abR(h:gG y x b=f)(M:x.k=3)(e:y.k=3):b=f\/zD x y=f:=by
 obtain⟨z,_,_,_,_,_⟩:=x;obtain⟨B,_,_,_,_,_⟩:=y;simp only at M e;subst M e;cases b with
 |true=>exact .inl O
 |false=>exact .inr h
def aiW(h:gG y x b=f)(M:x.k=4)(e:y.k=3):b=f\/zD x y=f:=by
 obtain⟨z,_,_,_,_,_⟩:=x;obtain⟨B,_,_,_,_,_⟩:=y;simp only at M e;subst M e;cases b with
 |true=>exact .inl O
 |false=>exact .inr h
def aiX(h:gG y x b=f)(M:x.k=3)(e:y.k=4):b=f\/zD x y=f:=by
 obtain⟨z,_,_,_,_,_⟩:=x;obtain⟨B,_,_,_,_,_⟩:=y;simp only at M e;subst M e;cases b with
 |true=>exact .inl O
 |false=>exact .inr h
def aiY(h:gG y x b=f)(M:x.k=4)(e:y.k=2):b=f\/oV y x=f:=by
 obtain⟨z,_,_,_,_,_⟩:=x;obtain⟨B,_,_,_,_,_⟩:=y;simp only at M e;subst M e;cases b with
 |true=>exact .inl O
 |false=>exact .inr h
def aiZ(h:gG y x b=f)(M:x.k=2)(e:y.k=4):b=f\/oV x y=f:=by
 obtain⟨z,_,_,_,_,_⟩:=x;obtain⟨B,_,_,_,_,_⟩:=y;simp only at M e;subst M e;cases b with
 |true=>exact .inl O
 |false=>exact .inr h
end mem
section cls
variable{P:aX}
def QD{o:Op}:
 (∃p a,CU o=Z p/\sJ (ev s p.1)=Z a/\uB P o s Q=⟨3,a.block,a.off,len<|cr<|ev s p.2,hh0,hh0⟩)\/
 (uB P o s Q=⟨2,0,0,0,s.H,Q⟩)\/
 (s.H.bV<=Q.low/\((Bj o=f/\uB P o s Q=cl 5)\/uB P o s Q=cl 1\/
   ∃p a l,I8 o=Z p/\sJ (ev s p.2)=Z a/\tLd P p.1=Z l/\uB P o s Q=⟨4,a.block,a.off,l.getD 1,hh0,hh0⟩)):=by
 have e:uB P o s Q=@aQ (cz×cz) (λ_=>Cl) (b_ (aD s.H.bV Q.low) (b_ (Bj o) (cl 5)<|Bl P o s) ⟨2,0,0,0,s.H,Q⟩)
  (λp=>@aQ Addr (λ_=>Cl) ⟨2,0,0,0,s.H,Q⟩ (λa=>⟨3,a.block,a.off,len<|cr<|ev s p.2,hh0,hh0⟩)<|sJ<|ev s p.1) (CU o):=rfl
 cases hs:CU o with
 |none=>
  rw[hs]at e;cases hb:aD s.H.bV Q.low with
  |false=>rw[hb]at e;exact .inr<|.inl e
  |true=>
   rw[hb]at e;refine .inr<|.inr ⟨aF hb,?_⟩;cases hf:Bj o with
   |true=>rw[hf]at e;exact .inl ⟨O,e⟩
   |false=>
    rw[hf]at e;replace e:uB P o s Q=Bl P o s:=e;unfold Bl at e;cases h:(aN (I8 o) λp=>aN (sJ<|ev s p.2) λa=>aN (tLd P p.1) λl=>Z<|Cl.mk 4 a.block a.off (l.getD 1) hh0 hh0)with
    |none=>rw[h]at e;exact .inr<|.inl e
    |some q=>
     rw[h]at e;obtain⟨p,E,h⟩:=aL h;obtain⟨a,z,h⟩:=aL h;obtain⟨l,B,h⟩:=aL h;cases h;exact .inr<|.inr ⟨p,a,l,E,z,B,e⟩
 |some p=>
  rw[hs]at e;replace e:uB P o s Q=@aQ Addr (λ_=>Cl) ⟨2,0,0,0,s.H,Q⟩ (λa=>⟨3,a.block,a.off,len<|cr<|ev s p.2,hh0,hh0⟩) (sJ<|ev s p.1):=e;cases z:sJ (ev s p.1)with
  |none=>rw[z]at e;exact .inr<|.inl e
  |some a=>rw[z]at e;exact .inl ⟨p,a,O,z,e⟩
end cls
structure Rg(P:aX)(cf:mM)(ops:Array Oper)(n nt:Nat)(S:Nat->St)(ag:Nat->Cl):Prop where
 step:∀(j:Nat)(o:Oper),ops[j]?=Z o->Mt P cf ops o (S j) (S<|j+1) (ag j)
 tf:∀(j:Nat)(o:Oper),ops[j]?=Z o->TF P cf ops o (S j)
 nts:∀(j:Nat)(o:Oper),ops[j]?=Z o->(S j).nt=nt
 ok:∀(j:Nat)(o:Oper),ops[j]?=Z o->yK n nt o=f
 back:yF ops.toList 0=f
 stat:∀(i j:Nat)(oi oj:Oper),i<j->ops[i]?=Z oi->ops[j]?=Z oj->iP (BM ops j) i=f\/oi.apart ops oj=f
 dyn:∀i j,i<j->j<ops.size->gG (ag j) (ag i) (iP (BM ops j) i)=f
def Closed(ops:Array Oper)(ak:Nat->Prop):Prop:=∀(j:Nat)(o:Oper),ops[j]?=Z o->ak j->∀e,e∈o.after.toList->gY .any e=f->ak e.on
def Hu(ak:Nat->Prop)(i:Nat)(j:Nat):Prop:=ak j\/j=i
inductive Ct where
 |shape(o:nI)
 |cell(v:aC C)
def cont:aC Nat->nI->Ct
 |none,o=>.shape<|Mm o
 |some i,o=>.cell<|nK o i
def Rel(κ:aC Nat)(m:Mp)(l:Loc)(c:Ct)(ob:Obj):Prop:=
 match κ,c with
 |none,.shape o=>oP m l o ob
 |some i,.cell (Z x)=>l.lo<=i->yM m l i x ob
 |_,_=>True
def Rel.mono{κ:aC Nat}{m m':Mp}(e:Mp.le m m'){l:Loc}{c:Ct}{ob:Obj}(h:Rel κ m l c ob):Rel κ m' l c ob:=by
 cases κ with
 |none=>cases c with|shape o=>exact oP.mono e h|cell v=>trivial
 |some i=>cases c with
  |shape o=>trivial
  |cell v=>cases v with|none=>trivial|some x=>exactλz=>yM.mono e<|h z
def Rel.restrict(z:Mp.le m1 m2){c:Ct}(h:Rel κ m2 l c L_)(g:Rel κ m1 l c ob):Rel κ m1 l c L_:=by
 cases κ with
 |none=>cases c with|shape o=>exact oP.restrict z h g|cell v=>trivial
 |some i=>cases c with
  |shape o=>trivial
  |cell v=>cases v with|none=>trivial|some x=>exactλe=>yM.restrict z (h e)<|g e
def XR(o:nI):Mm (Mm o)=Mm o:=by cases o<;>rfl
def Rel.iB{o:nI}(h:wL m l o ob):Rel κ m l (cont κ o) ob:=by
 cases κ with
 |none=>exact(h.split.1).Vv (XR o).symm
 |some i=>
  show Rel (Z i) m l (.cell<|nK o i) ob;cases hc:nK o i with
  |none=>trivial
  |some x=>exactλe=>h.split.2 i x hc e
def Rel.abS{o:nI}(h:∀κ,Rel κ m l (cont κ o) ob):wL m l o ob:=by
 refine wL.join ((show oP m l (Mm o) ob from h T).Vv<|XR o) ?_;intro i x M e;have:=h<|Z i;rw[show cont (Z i) o=.cell (Z x)from by show Ct.cell (nK o i)=_;rw[M]]at this;exact this e
section con
variable{S:Nat->St}
abbrev nx(S:Nat->St)(k:Nat):Nat:=(S k).H.bV
abbrev at'(S:Nat->St)(κ:aC Nat)(r k:Nat):Ct:=cont κ<|(S k).H.obj r
def FL(S:Nat->St)(ae:Nat)(ak:Nat->Prop)(κ:aC Nat)(r k:Nat):Prop:=r<nx S k/\∀j,j<ae->r<nx S j->at' S κ r j≠at' S κ r (j+1)->(ak j<->j<k)
def FL.ahr(E:∀i j,i<=j->j<=ae->nx S i<=nx S j):∀(d k:Nat),k+d<=ae->FL S ae ak κ r k->FL S ae ak κ r (k+d)->at' S κ r k=at' S κ r (k+d):=by
 intro d k O I B
 have:∀e,e<=d->at' S κ r k=at' S κ r (k+e):=by
  intro e
  induction e with
  |zero=>intro _;rfl
  |succ e U=>
   intro V;rw[U N];apply gQ;intro z;have J:r<nx S (k+e):=aP I.1<|E _ _ N N;have a1:=I.2 (k+e) N J z;have M:=B.2 (k+e) N J z;have:=a1.1<|M.2 N;omega
 exact this d<|ax _
def FL.eq(e:∀i j,i<=j->j<=ae->nx S i<=nx S j)(hk:k<=ae)(z:k'<=ae)(I:FL S ae ak κ r k)(B:FL S ae ak κ r k'):at' S κ r k=at' S κ r k':=by
 rcases Nat.le_total k k' with h|h
 .have:=FL.ahr e (k'-k) k N I (by rw[show k+(k'-k)=k' from N];exact B)
  rwa [show k+(k'-k)=k' from N]at this
 .have:=FL.ahr e (k-k') k' N B (by rw[show k'+(k-k')=k from N];exact I);rw[show k'+(k-k')=k from N]at this;exact this.symm
def FL.less(h:FL S ae (Hu ak i) κ r k)(hi:r<nx S i->at' S κ r i=at' S κ r (i+1)):FL S ae ak κ r k:=by
 refine⟨h.1,λj J E z=>?_⟩;have B:j≠i:=λe=>z (by subst e;exact hi E);rw[<-h.2 j J E z];exact⟨.inl,λI=>I.resolve_right B⟩
end con
structure MInv(S:Nat->St)(ag:Nat->Cl)(ae:Nat)(m0:Mp)(w0:cZ)(ak:Nat->Prop)(m:Mp)(w:cZ):Prop where
 dom:∀r l,m r=Z l->(m0 r=Z l/\r<nx S 0)\/∃i,i<ae/\ak i/\nx S i<=r/\r<nx S (i+1)
 ZU:∀r l,m r=Z l->∃o,w.heap[l.c]?=Z o
 cnt:∀κ r l k o,k<=ae->m r=Z l->FL S ae ak κ r k->w.heap[l.c]?=Z o->Rel κ (m.upto<|nx S k) l (at' S κ r k) o
 sep:∀r r' l l' k k',m r=Z l->m r'=Z l'->l.c=l'.c->k<=ae->k'<=ae->FL S ae ak T r k->FL S ae ak T r' k'->(S k).H.obj r≠.dead->(S k').H.obj r'≠.dead->r=r'
 clash:∀r r' l l' j,m r=Z l->m r'=Z l'->l.c=l'.c->j<ae->¬ak j->(ag j).k=2->(r<nx S j<->r'<nx S j)
 hid:∀j r,j<ae->ak j->r<nx S j->m r=T->(S<|j+1).H.obj r=(S j).H.obj r
 le:Mp.le m0 m
 fresh:∀r l,m r=Z l->m0 r=T->l.c<w0.heap.size->∃r0 l0,m0 r0=Z l0/\l0.c=l.c/\(S ae).H.low<=r0
 os:w.os=w0.os
 tape:w.tape=w0.tape
 output:w.output=w0.output
 size:w0.heap.size<=w.heap.size
 keep:∀c,c<w0.heap.size->(∀r l,m0 r=Z l->l.c=c->r<(S ae).H.low)->w.heap[c]?=w0.heap[c]?
section E
variable{P:aX}{cf:mM}{S:Nat->St}
def Rg.SF(g:Rg P cf ops n nt S ag)(I:j<ops.size):nx S j<=nx S (j+1):=by
 have B:ops[j]?=Z ops[j]:=bI I;have hs:=g.step j _ B;have e:=g.tf j _ B;show(S j).H.bV<=(S<|j+1).H.bV;generalize S (j+1)=s1 at hs;generalize ag j=c at hs;cases hs with
 |skip z=>rw[nA];exact ax _
 |DU v z E=>rw[nA];exact ax _
 |mem v Q z E=>rw[nA];exact(e v Q E z).1
def Rg.mono(g:Rg P cf ops n nt S ag):∀i j,i<=j->j<=ops.size->nx S i<=nx S j:=by
 intro i j e B;obtain⟨d,rfl⟩:=uU e;clear e
 induction d with
 |zero=>exact ax _
 |succ d z=>exact aR (z N)<|g.SF N
def Fe(a b:Nat):pV a b<=a/\pV a b<=b:=by
 unfold pV;cases h:aD a b with
 |true=>exact⟨ax _,aF h⟩
 |false=>
  have:¬a<=b:=λe=>by rw[aH e]at h;cases h
  exact⟨by show b<=a;omega,ax _⟩
def Rg.anM(g:Rg P cf ops n nt S ag)(z:j<ops.size):(S<|j+1).H.low<=(S j).H.low:=by
 have hs:=g.step j _<|bI z;generalize S (j+1)=s1 at hs;generalize ag j=c at hs;cases hs with
 |skip e=>rw[nA];exact ax _
 |DU v e B=>rw[nA];exact ax _
 |mem v Q e B=>rw[nA];exact(Fe _ _).1
def Rg.low(g:Rg P cf ops n nt S ag):∀i j,i<=j->j<=ops.size->(S j).H.low<=(S i).H.low:=by
 intro i j e B;obtain⟨d,rfl⟩:=uU e;clear e
 induction d with
 |zero=>exact ax _
 |succ d z=>exact aR (g.anM (j:=i+d) N)<|z N
def Rg.same(g:Rg P cf ops n nt S ag)(U:j<ops.size)(B:(ag j).k≠2)(z:(ag j).k≠3)(E:r<nx S j):(S<|j+1).H.obj r=(S j).H.obj r:=by
 have N:ops[j]?=Z ops[j]:=bI U;have hs:=g.step j _ N;have J:=g.tf j _ N;generalize S (j+1)=s1 at hs;generalize hc:ag j=c at hs;rw[hc]at B z;cases hs with
 |skip M=>rw[nA]
 |DU v M E=>rw[nA]
 |mem v Q M I=>
  rw[nA];show Q.obj r=_;rcases QD (P:=P) (o:=ops[j].op) (s:=S j) (Q:=Q)with⟨p,a,_,_,e⟩|e|⟨hlow,_⟩
  .rw[e]at z;exact absurd O z
  .rw[e]at B;exact absurd O B
  .exact(J v Q I M).2 r E<|aP E hlow
def Rg.afY(g:Rg P cf ops n nt S ag)(M:j<ops.size)(J:r<nx S j)(hl:r<(S ops.size).H.low):(S<|j+1).H.obj r=(S j).H.obj r:=by
 have I:ops[j]?=Z ops[j]:=bI M;have hs:=g.step j _ I;have B:=g.tf j _ I;have e:=g.low (j+1) ops.size N<|ax _;generalize S (j+1)=s1 at hs e;generalize ag j=c at hs;cases hs with
 |skip E=>rw[nA]
 |DU v E J=>rw[nA]
 |mem v Q E z=>
  rw[nA]at e|-;exact(B v Q z E).2 r J<|aP (aP hl e) (Fe _ _).2
def Rg.turns(g:Rg P cf ops n nt S ag)(B:j<ops.size)(E:r<nx S j)(z:at' S κ r j≠at' S κ r (j+1)):(ag j).k=2\/(ag j).k=3:=by
 apply gQ;intro h;exact z (by show cont κ _=cont κ _;rw[g.same B (λe=>h<|.inl e) (λe=>h<|.inr e) E])
def Rg.XT(g:Rg P cf ops n nt S ag)(I:Closed ops ak)(hi:i<ops.size)(U:¬ak i)(pW:∀e,e∈ops[i].after.toList->gY .any e=f->ak e.on)(E:(ag i).k=1\/(ag i).k=2)(hr:r<nx S i):FL S ops.size ak κ r i:=by
 refine⟨hr,λj J W M=>?_⟩;have hcj:=g.turns J W M;have O:ops[i]?=Z ops[i]:=bI hi;have B:ops[j]?=Z ops[j]:=bI J;rcases kW j i with h|h|h
 .refine⟨λ_=>h,λ_=>?_⟩;have z:=g.dyn j i h hi;rcases hcj with hcj|hcj
  .exact oK g.back I i _ O pW j<|QC z (.inr hcj) E<|.inl hcj
  .exact(XP z hcj E).elim
 .subst h;exact⟨λh=>absurd h U,λh=>absurd h<|mI _⟩
 .refine⟨λV=>?_,λh'=>N⟩;have z:=g.dyn i j h J
  have Y:iP (BM ops j) i=f:=by
   rcases hcj with hcj|hcj
   .exact QC z E (.inr hcj)<|.inr hcj
   .exact XQ z E hcj
  exact absurd (oK g.back I j _ B (I j _ B V) i Y) U
def Rg.anN(g:Rg P cf ops n nt S ag)(M:Closed ops ak)(hi:i<ops.size)(E:¬ak i)(V:∀e,e∈ops[i].after.toList->gY .any e=f->ak e.on)(O:(ag i).k=2)(B:r<nx S i):FL S ops.size (Hu ak i) κ r (i+1):=by
 have J:=g.XT M hi E V (.inr O) (κ:=κ) B;refine⟨aP B<|g.SF hi,λj U I z=>?_⟩;have:=J.2 j U I z;constructor
 .rintro(h|h)
  .have:=this.1 h;omega
  .omega
 .intro h
  by_cases e:j=i
  .exact .inr e
  .exact .inl<|this.2 N
end E
section E
variable{P:aX}{cf:mM}{S:Nat->St}
def MInv.still(h1:MInv S ag ops.size m0 w0 ak m w)(hi:i<ops.size)(hs:∀r,r<nx S i->(S<|i+1).H.obj r=(S i).H.obj r):MInv S ag ops.size m0 w0 (Hu ak i) m w where
 dom:=λr l h=>(h1.dom r l h).imp id λ⟨j,I,B,e⟩=>⟨j,I,.inl B,e⟩
 ZU:=h1.ZU
 cnt:=λκ r l k o hk hm Y ho=>h1.cnt κ r l k o hk hm (Y.less λE=>by show cont κ _=cont κ _;rw[hs r E]) ho
 sep:=λr J l O k k' I B e z M N U V W=>h1.sep r J l O k k' I B e z M (N.less λE=>by show cont T _=cont T _;rw[hs r E]) (U.less λE=>by show cont T _=cont T _;rw[hs J E]) V W
 clash:=λr J l O j I B e z M N=>h1.clash r J l O j I B e z (λh=>M<|.inl h) N
 hid:=λj r I B e z=>by
  rcases B with B|rfl
  .exact h1.hid j r I B e z
  .exact hs r e
 le:=h1.le
 fresh:=h1.fresh
 os:=h1.os
 tape:=h1.tape
 output:=h1.output
 size:=h1.size
 keep:=h1.keep
def join(m2 m:Mp):Mp:=λr=>match m2 r with|some l=>Z l|none=>m r
def C6{o:nI}(e:cont T o=cont T o')(h:o≠.dead):o'≠.dead:=by
 have e:Mm o=Mm o':=by
  have:Ct.shape (Mm o)=Ct.shape (Mm o'):=e;injection this
 exact abM e h
def MInv.made(g:Rg P cf ops n nt S ag)(hD:Closed ops ak)(h1:MInv S ag ops.size m0 w0 ak m w)(hi:i<ops.size)(FM:¬ak i)(pW:∀e,e∈ops[i].after.toList->gY .any e=f->ak e.on){A':R}(hA:A.bV=nx S i)(b7:A'.bV=nx S (i+1))(rh:RH m2 A' w')(ex:Ex (m.upto<|nx S i) m2 A A' w w')(ar:A.bV<=A'.low\/(S ops.size).H.low<=A'.low)(bf:∀r,nx S i<=r->r<nx S (i+1)->A'.obj r=(S<|i+1).H.obj r)(h3:(ag i).k≠3)(ab:((ag i).k=2/\(∀r,A'.obj r=(S<|i+1).H.obj r)/\(∀r,A.obj r=(S i).H.obj r))\/((ag i).k≠2/\A.bV<=A'.low)):
 ∃m',MInv S ag ops.size m0 w0 (Hu ak i) m' w'/\Mp.le m m'/\Mp.le m2 (m'.upto<|nx S<|i+1):=by
 have z:=g.mono;have cw:nx S i<=nx S (i+1):=g.SF hi
 have ap:∀r l,m r=Z l->r<nx S i\/nx S (i+1)<=r:=by
  intro r l Y;rcases h1.dom r l Y with⟨_,h⟩|⟨j,hj,N8,I,B⟩
  .exact .inl<|aP h<|z 0 i N N
  .have bp:j≠i:=λe=>FM (e▸N8);rcases dH j i with h|h
   .exact .inl<|aP B<|z (j+1) i N N
   .exact .inr<|aR (z (i+1) j N N) I
 have a8:∀r l,m2 r=Z l->r<nx S (i+1):=λr l h=>by have:=rh.dom r l h;rw[b7]at this;exact this
 have bw:∀r l,m r=Z l->r<nx S i->m2 r=Z l:=λr l h Y=>ex.le r l<|Mp.Hr h Y
 have bt:∀r l,m2 r=Z l->m r≠Z l->m r=T/\nx S i<=r/\m.upto (nx S i) r=T:=by
  intro r l h aE
  have bi:m.upto (nx S i) r=T:=by
   cases hu:m.upto (nx S i) r with
   |none=>rfl
   |some V=>
    have:=ex.le r V hu;rw[h]at this;cases this;exact absurd (Mp.qD hu).2 aE
  have bc:=ex.new r l h bi;rw[hA]at bc;refine⟨?_,bc,bi⟩;cases hm:m r with
  |none=>rfl
  |some V=>
   have I:=a8 r l h;rcases ap r V hm with h'|h'<;>omega
 have bo:∀r l,m2 r=Z l->join m2 m r=Z l:=λr l h=>by unfold join;rw[h]
 have bd:∀r l,m r=Z l->join m2 m r=Z l:=by
  intro r l h;unfold join;cases B:m2 r with
  |none=>exact h
  |some l2=>
   by_cases e:m r=Z l2
   .rw[h]at e;cases e;rfl
   .have:=(bt r l2 B e).1;rw[h]at this;cases this
 have ao:∀r l,join m2 m r=Z l->m r=Z l\/(m r=T/\m2 r=Z l/\nx S i<=r/\r<nx S (i+1)/\m.upto (nx S i) r=T):=by
  intro r l h;unfold join at h;cases B:m2 r with
  |none=>rw[B]at h;exact .inl h
  |some l2=>
   rw[B]at h;have hl:l2=l:=by injection h
   subst hl
   by_cases e:m r=Z l2
   .exact .inl e
   .have:=bt r l2 B e;exact .inr ⟨this.1,O,this.2.1,a8 r l2 B,this.2.2⟩
 have be:Mp.le m2 ((join m2 m).upto<|nx S<|i+1):=λr l h=>Mp.Hr (bo r l h)<|a8 r l h;have a9:Mp.le m (join m2 m):=bd
 have bz:∀r l,m r=Z l->((ag i).k≠2\/nx S i<=r)->w'.heap[l.c]?=w.heap[l.c]?:=by
  intro r l h E;obtain⟨o,ho⟩:=h1.ZU r l h;refine ex.keep l.c (qC ho) ?_;intro r1 l1 I b8;have hu:=Mp.qD I;rcases ab with⟨U,_,_⟩|⟨_,a7⟩
  .rcases E with h'|h'
   .exact absurd U h'
   .have:=(h1.clash r r1 l l1 i h hu.2 b8.symm hi FM U).2 hu.1;omega
  .rw[hA]at a7;exact aP hu.1 a7
 have ad:∀κ r,((ag i).k≠2\/nx S i<=r)->r<nx S i->at' S κ r i=at' S κ r (i+1):=by
  intro κ r E Y;rcases E with h|h
  .show cont κ _=cont κ _;rw[g.same hi h h3 Y]
  .omega
 have aq:∀κ r l,m r=T->m2 r=Z l->nx S i<=r->r<nx S (i+1)->FL S ops.size (Hu ak i) κ r (i+1):=by
  intro κ r l hm _ bc W;refine⟨W,λj hj RV aE=>?_⟩
  have bp:i<j:=by
   rcases dH i j with h|h
   .exact h
   .have:=z j i h N;omega
  constructor
  .rintro(h|h)
   .exact absurd (by show cont κ _=cont κ _;rw[h1.hid j r hj h RV hm]) aE
   .omega
  .intro h;omega
 have bb:∀r l,m2 r=Z l->m.upto (nx S i) r=T->l.c<w.heap.size->(ag i).k=2/\∃r0 l0,m r0=Z l0/\l0.c=l.c/\r0<nx S i/\A'.low<=r0:=by
  intro r l h h0 W;obtain⟨r0,l0,e1,e2,e3⟩:=ex.fresh r l h h0 W;have hu:=Mp.qD e1;refine⟨?_,r0,l0,hu.2,e2,hu.1,e3⟩;rcases ab with⟨U,_,_⟩|⟨_,a7⟩
  .exact U
  .rw[hA]at a7;omega
 have b0:(ag i).k=2->∀κ r,r<nx S i->FL S ops.size (Hu ak i) κ r (i+1):=λU κ r Y=>g.anN hD hi FM pW U Y
 have Vz:∀r l,join m2 m r=Z l->(m r=Z l/\((ag i).k≠2\/nx S i<=r))\/(m2 r=Z l/\(∀κ,FL S ops.size (Hu ak i) κ r<|i+1)/\A'.obj r=(S<|i+1).H.obj r/\
  ((m r=T/\nx S i<=r/\r<nx S (i+1)/\m.upto (nx S i) r=T)\/((ag i).k=2/\m r=Z l/\r<nx S i))):=by
  intro r l h;rcases ao r l h with h|⟨I,B,h3',h4,h5⟩
  .by_cases E:(ag i).k≠2\/nx S i<=r
   .exact .inl ⟨h,E⟩
   .have U:(ag i).k=2:=gQ λe=>E (.inl e);have Y:r<nx S i:=Nat.lt_of_not_le λe=>E<|.inr e;refine .inr ⟨bw r l h Y,λκ=>b0 U κ r Y,?_,.inr ⟨U,h,Y⟩⟩;rcases ab with⟨_,h,_⟩|⟨h,_⟩
    .exact h r
    .exact absurd U h
  .exact .inr ⟨B,λκ=>aq κ r l I B h3' h4,bf r h3' h4,.inl ⟨I,h3',h4,h5⟩⟩
 have bj:∀r M l V,m r=Z l->((ag i).k≠2\/nx S i<=r)->m2 M=Z V->
  ((m M=T/\nx S i<=M/\M<nx S (i+1)/\m.upto (nx S i) M=T)\/((ag i).k=2/\m M=Z V/\M<nx S i))->l.c=V.c->False:=by
  intro r M l V e E e' U J;obtain⟨o,ho⟩:=h1.ZU r l e;have W:=qC ho;rcases U with⟨_,_,_,cq⟩|⟨am,I,B⟩
  .obtain⟨am,r0,l0,f1,f2,f3,_⟩:=bb M V e' cq (by rw[<-J];exact W);rcases E with I|I
   .exact I am
   .have:=(h1.clash r r0 l l0 i e f1 (by rw[f2,J]) hi FM am).2 f3;omega
  .rcases E with h3|h3
   .exact h3 am
   .have:=(h1.clash r M l V i e I J hi FM am).2 B;omega
 refine⟨join m2 m,⟨?_,?_,?_,?_,?_,?_,?_,?_,?_,?_,?_,?_,?_⟩,a9,be⟩
 .
  intro r l h;rcases ao r l h with h|⟨_,_,h3',h4,_⟩
  .exact(h1.dom r l h).imp id λ⟨j,I,B,h3⟩=>⟨j,I,.inl B,h3⟩
  .exact .inr ⟨i,hi,.inr O,h3',h4⟩
 .
  intro r l h;rcases ao r l h with h|⟨_,B,_⟩
  .obtain⟨o,ho⟩:=h1.ZU r l h;have:l.c<w'.heap.size:=aP (qC ho) ex.size;exact⟨w'.heap[l.c],bI this⟩
  .obtain⟨o,ho,_⟩:=rh.ok r l B;exact⟨o,ho⟩
 .
  intro κ r l k o U hm hc ho;rcases Vz r l hm with⟨h,E⟩|⟨B,an,DF,_⟩
  .rw[bz r l h E]at ho;exact(h1.cnt κ r l k o U h (hc.less λY=>ad κ r E Y) ho).mono<|Mp.yL a9<|ax _
  .obtain⟨o2,bv,ck⟩:=rh.ok r l B;rw[ho]at bv;cases bv;have ac:Rel κ m2 l (cont κ<|A'.obj r) o:=Rel.iB ck;rw[DF]at ac;have b9:at' S κ r (i+1)=at' S κ r k:=FL.eq z N U (an κ) hc;replace ac:Rel κ m2 l (at' S κ r<|i+1) o:=ac;rw[b9]at ac;rcases dH i k with hik|hik
   .exact ac.mono λr1 l1 I=>Mp.Hr (bo r1 l1 I)<|aP (a8 r1 l1 I)<|z _ _ hik U
   .
    have cn:=hc.1;have cm:r<nx S i:=aP cn<|z k i hik N
    have aw:m r=Z l:=by
     rcases ao r l hm with h|⟨_,_,h3',_⟩
     .exact h
     .omega
    have bg:at' S κ r i=at' S κ r (i+1):=by
     apply gQ;intro aE;have:=(hc.2 i hi cm aE).1<|.inr O;omega
    obtain⟨o0,cj⟩:=h1.ZU r l aw;have bh:=h1.cnt κ r l k o0 U aw (hc.less λ_=>bg) cj
    have ci:Mp.le (m.upto<|nx S k) m2:=by
     intro r1 l1 I;have hu:=Mp.qD I;exact bw r1 l1 hu.2<|aP hu.1<|z k i hik N
    exact(Rel.restrict ci ac bh).mono<|Mp.yL a9<|ax _
 .
  intro r M l V k k' h h' J U br hc bm hd bn;rcases Vz r l h with⟨e,E⟩|⟨e,an,DF,hw⟩<;>rcases Vz M V h' with⟨e',bl⟩|⟨e',bx,b6,cu⟩
  .exact h1.sep r M l V k k' e e' J U br (hc.less λY=>ad T r E Y) (bm.less λY=>ad T M bl Y) hd bn
  .exact(bj r M l V e E e' cu J).elim
  .exact(bj M r V l e' bl e hw J.symm).elim
  .refine rh.sep r M l V e e' ?_ ?_ J
   .rw[DF];exact C6 (FL.eq z U N hc<|an T) hd
   .rw[b6];exact C6 (FL.eq z br N bm<|bx T) bn
 .
  intro r M l V j h h' J hj N8 a6;have bp:j≠i:=λe=>N8<|.inr e;have ba:¬ak j:=λe=>N8<|.inl e
  have al:∀r1,nx S i<=r1->r1<nx S (i+1)->(r1<nx S j<->i<j):=by
   intro r1 I B;constructor
   .intro h3;rcases dH i j with h4|h4
    .exact h4
    .have:=z j i h4 N;omega
   .intro h3;exact aP B<|z _ _ h3 N
  have a0:∀r M l V,m r=T->m2 r=Z l->nx S i<=r->r<nx S (i+1)->m.upto (nx S i) r=T->m M=Z V->l.c=V.c->(r<nx S j<->M<nx S j):=by
   intro r M l V I B h3 h4 h5 h6 J;obtain⟨o,ho⟩:=h1.ZU M V h6;obtain⟨am,r0,l0,f1,f2,f3,_⟩:=bb r l B h5 (by rw[J];exact qC ho)
   have ca:i<j:=by
    rcases dH i j with h7|h7
    .exact h7
    .have W:j<i:=N;have hb:=QC (g.dyn j i W hi) (.inr a6) (.inr am)<|.inl a6;exact absurd (oK g.back hD i _ (bI hi) pW j hb) ba
   rw[al r h3 h4];have h8:r0<nx S j:=aP f3<|z i j N N;have:=(h1.clash M r0 V l0 j h6 f1 (by rw[f2,J]) hj ba a6).2 h8;exact⟨λ_=>this,λ_=>ca⟩
  rcases ao r l h with e|⟨a1,a2,a3,a4,a5⟩<;>rcases ao M V h' with e'|⟨b1,b2,b3,b4,b5⟩
  .exact h1.clash r M l V j e e' J hj ba a6
  .exact(a0 M r V l b1 b2 b3 b4 b5 e J.symm).symm
  .exact a0 r M l V a1 a2 a3 a4 a5 e' J
  .rw[al r a3 a4,al M b3 b4]
 .
  intro j r hj N8 Y hm
  have aw:m r=T:=by
   cases h:m r with
   |none=>rfl
   |some l=>have:=bd r l h;rw[hm]at this;cases this
  rcases N8 with h|rfl
  .exact h1.hid j r hj h Y aw
  .rcases ab with⟨U,I,B⟩|⟨U,_⟩
   .rw[<-I,<-B];refine ex.hid r (by rw[hA];exact Y) ?_;unfold Mp.upto;rw[aw];simp
   .exact g.same hi U h3 Y
 .exactλr l h=>bd r l<|h1.le r l h
 .
  intro r l h h0 W;rcases ao r l h with e|⟨a1,a2,a3,a4,a5⟩
  .exact h1.fresh r l e h0 W
  .obtain⟨am,r0,l0,f1,f2,f3,f4⟩:=bb r l a2 a5 (aP W h1.size)
   have cg:(S ops.size).H.low<=r0:=by
    rcases ar with I|I
    .rw[hA]at I;omega
    .exact aR I f4
   cases I:m0 r0 with
   |some l1=>
    have:=h1.le r0 l1 I;rw[f1]at this;cases this;exact⟨r0,l0,I,f2,cg⟩
   |none=>
    obtain⟨r1,l1,g1,g2,g3⟩:=h1.fresh r0 l0 f1 I (by rw[f2];exact W);exact⟨r1,l1,g1,g2.trans f2,g3⟩
 .exact ex.os.trans h1.os
 .exact ex.tape.trans h1.tape
 .exact ex.output.trans h1.output
 .exact aR h1.size ex.size
 .
  intro c hc U;rw[ex.keep c (aP hc h1.size),h1.keep c hc U];intro r l I B;have hu:=Mp.qD I;rcases ar with h3'|h3'
  .rw[hA]at h3';exact aP hu.1 h3'
  .cases h0:m0 r with
   |some l0=>
    have:=h1.le r l0 h0;rw[hu.2]at this;cases this;exact aP (U r l h0 B) h3'
   |none=>
    obtain⟨r0,l0,e1,e2,e3⟩:=h1.fresh r l hu.2 h0 (by rw[B];exact hc);have:=U r0 l0 e1<|e2.trans B;omega
end E
def zm{o:aC Unit}(h:rY o=f):o=Z ():=by
 cases o with
 |none=>cases h
 |some e=>rfl
def Ph{a b:Addr}(h:addrEq a b=f):a=b:=by
 obtain⟨r,o,s⟩:=a;obtain⟨E,o',s'⟩:=b;simp only[addrEq,bE]at h;obtain⟨⟨⟨I,B⟩,e⟩,z⟩:=h;have I:=bA I;have B:=bA B;cases s with
 |some _=>cases e
 |none=>cases s' with
  |some _=>cases z
  |none=>rw[I,B]
def VA{a b:aC Addr}(h:K9 a b=f):a=b:=by
 cases a with
 |none=>cases b with
  |none=>rfl
  |some _=>cases h
 |some x=>cases b with
  |none=>cases h
  |some y=>rw[Ph (show addrEq x y=f from h)]
def ZV{a b:aC Nat}(h:aa7 a b=f):a=b:=by
 cases a with
 |none=>cases b with
  |none=>rfl
  |some _=>cases h
 |some x=>cases b with
  |none=>cases h
  |some y=>rw[bA (show aB x y=f from h)]
theorem SG{x y:C}(h:B5 x y=f):x=y:=by
 unfold B5 at h;simp only[lu]at h;rcases h with h|h|h|h|h|h|h
 .replace h:=zm h;obtain⟨a,z,h⟩:=aL h;obtain⟨b,E,h⟩:=aL h;obtain⟨e,h⟩:=gJ h;rw[bE,LZ,ni]at e;rw[rZ z,rZ E,B_ e.1,e.2]
 .replace h:=zm h;obtain⟨a,z,h⟩:=aL h;obtain⟨b,E,h⟩:=aL h;obtain⟨e,h⟩:=gJ h;rw[qY z,qY E,Ph e]
 .replace h:=zm h;obtain⟨a,z,h⟩:=aL h;obtain⟨b,E,h⟩:=aL h;obtain⟨e,h⟩:=gJ h;rw[bE,bE]at e;rw[yG z,yG E,VA e.1.1,bA e.1.2,bA e.2]
 .replace h:=zm h;obtain⟨a,z,h⟩:=aL h;obtain⟨b,E,h⟩:=aL h;obtain⟨e,h⟩:=gJ h;rw[L5,ni]at e;rw[qO z,qO E,e]
 .replace h:=zm h;obtain⟨a,z,h⟩:=aL h;obtain⟨b,E,h⟩:=aL h;obtain⟨e,h⟩:=gJ h;rw[Ar,ni,jc,jc]at e
  have:a=b:=by
   obtain⟨⟨M⟩⟩:=a;obtain⟨⟨N⟩⟩:=b;simp at e;rw[e]
  rw[qZ z,qZ E,this]
 .replace h:=zm h;obtain⟨a,z,h⟩:=aL h;obtain⟨b,E,h⟩:=aL h;obtain⟨e,h⟩:=gJ h;rw[EZ z,EZ E,ZV e]
 .unfold ahp at h;rw[bE,bE]at h;obtain⟨⟨I,B⟩,J⟩:=h;cases x<;>first|(replace I:aA=f:=I;cases I;done)|skip
  all_goals cases y<;>first|rfl|(replace B:aA=f:=B;cases B;done)|(replace J:aA=f:=J;cases J;done)|skip
  all_goals
   rename_i p q;cases p<;>cases q<;>first|rfl|(replace I:aA=f:=I;cases I;done)|(replace B:aA=f:=B;cases B;done)
def Pj(e:∀{x y:C},ay x y=f->x=y):∀{xs ys:D C},CQ ay xs ys=f->xs=ys:=by
 intro xs
 induction xs with
 |nil=>
  intro ys h;cases ys with
  |nil=>rfl
  |cons y ys=>cases h
 |cons x xs z=>
  intro ys h;cases ys with
  |nil=>cases h
  |cons y ys=>
   replace h:b_ (ay x y) (CQ ay xs ys) aA=f:=h;cases I:ay x y with
   |false=>rw[I]at h;cases h
   |true=>
    rw[I]at h;rw[e I,z h]
def SI(z:∀{x y:C},ay x y=f->x=y){x y:C}(h:Xx ay x y=f):x=y:=by
 replace h:=zm h;obtain⟨a,B,h⟩:=aL h;obtain⟨b,E,h⟩:=aL h;obtain⟨g,I,h⟩:=aL h;obtain⟨k,J,h⟩:=aL h;obtain⟨e,h⟩:=gJ h;rw[bE,bE]at e;rw[Qh B,Qh E,Qi I,Qi J,bA e.1.1,Pj z e.1.2,Pj z e.2]
def abU{x y:C}(h:qL x y=f):x=y:=by
 have e:∀{x y:C},F3 x y=f->x=y:=by
  intro x y h;unfold F3 at h;rw[lu]at h;rcases h with h|h
  .exact SG h
  .exact SI SG h
 unfold qL at h;rw[lu]at h;rcases h with h|h
 .exact e h
 .exact SI e h
theorem abV:∀{xs ys:D C},G_ xs ys=f->xs=ys:=by
 intro xs
 induction xs with
 |nil=>
  intro ys h;cases ys with
  |nil=>rfl
  |cons y ys=>cases h
 |cons x xs e=>
  intro ys h;cases ys with
  |nil=>cases h
  |cons y ys=>
   replace h:b_ (qL x y) (G_ xs ys) aA=f:=h;cases I:qL x y with
   |false=>rw[I]at h;cases h
   |true=>
    rw[I]at h;rw[abU I,e h]
def F8{off:Nat}(h:H.read r off k=Z vs):∀j,j<k->nK (H.obj r) (off+j)=vs[j]?/\j<u vs:=by
 intro j z;cases k with
 |zero=>omega
 |succ k=>
  replace h:(aN (xH<|H.obj r) λw=>gd (aD (bq off<|k+1) w.n)<|Z<|Tr.FX top w.cells off<|k+1)=Z vs:=h;obtain⟨az,B,h⟩:=aL h;obtain⟨e,h⟩:=gJ h;cases h;have e:off+(k+1)<=az.n:=aF e;rw[vK B,XE _ _ _ _ _ z,XD];refine⟨?_,z⟩;simp only[nK];rw[jj N]
def QE{h2:R}{off:Nat}(h:sameAt A h2 r off k=f):∀j,off<=j->j<off+k->nK (A.obj r) j=nK (h2.obj r) j:=by
 replace h:=zm h;obtain⟨x,M,h⟩:=aL h;obtain⟨y,E,h⟩:=aL h;obtain⟨z,h⟩:=gJ h;intro j I B;have a1:=(F8 M (j-off) N).1;have e:=(F8 E (j-off) N).1;rw[show off+(j-off)=j from N]at a1 e;rw[a1,e,abV z]
theorem abW{o:nI}(e:Mm o=Mm o')(i:Nat):(nK o i).isSome=(nK o' i).isSome:=by
 cases o<;>cases o'<;>simp only[Mm]at e<;>first|rfl|cases e|skip
 case row.row az R'=>
  simp only[nI.row.injEq,Row.mk.injEq]at e;simp only[nK,e.2.2.1];split<;>rfl
theorem Jg{off:Nat}(h:H.write r off vs=Z Q):
 Q.bV=H.bV/\(∀k,k≠r->Q.obj k=H.obj k)/\Mm (Q.obj r)=Mm (H.obj r)/\(∀i,¬(off<=i/\i<off+u vs)->nK (Q.obj r) i=nK (H.obj r) i)/\
  (∀i,off<=i->i<off+u vs->nK (Q.obj r) i=vs[i-off]?)/\(vs≠[]->Q.low<=r):=by
 cases vs with
 |nil=>
  cases h;exact⟨O,λ_ _=>rfl,rfl,λ_ _=>rfl,λi a b=>by simp at b;omega,λh=>absurd O h⟩
 |cons v vs=>
  replace h:(aN (xH<|H.obj r) λw=>
   gd (!w.mR&&aD (bq off<|len<|v::vs) w.n&&aD w.fz off&&all' gI (v::vs))
   (Z<|H.put r<|.row ⟨w.ty,Tr.uS top (v::vs) off w.cells,w.n,aA,w.fz⟩))=Z Q:=h
  obtain⟨az,U,h⟩:=aL h;obtain⟨M,h⟩:=gJ h;cases h;have E:=vK U;simp only[bE,h_]at M;obtain⟨⟨⟨z,J⟩,Y⟩,g3⟩:=M;have J:off+(v::vs).length<=az.n:=aF J;have z:az.mR=aA:=by simpa using z
  have e:(H.put r<|.row ⟨az.ty,Tr.uS top (v::vs) off az.cells,az.n,aA,az.fz⟩).obj r=.row ⟨az.ty,Tr.uS top (v::vs) off az.cells,az.n,aA,az.fz⟩:=by rw[xU,jj O]
  refine⟨O,λk W=>by rw[xU,jx W],?_,?_,?_,λ_=>(Ld _ _ _).1⟩
  .rw[e,E];simp only[Mm,z]
  .intro i V;rw[e,E];simp only[nK];rw[Tr.oh,jx V]
  .intro i I B;rw[e];simp only[nK];rw[jj N,Tr.oh,jj ⟨I,B⟩,aW,av N];rfl
section E
variable{P:aX}{cf:mM}{S:Nat->St}
theorem VB{o:Op}{p:cz×cz}(h:CU o=Z p):∃t,o=.store t p.1 p.2:=by
 cases o<;>first|cases h|skip
 exact⟨_,O⟩
theorem ZW{o:Op}{p:aI×cz}(h:I8 o=Z p):o=.load p.1 p.2:=by
 cases o<;>first|cases h|skip
 rfl
structure ai2(P:aX)(cf:mM)(ops:Array Oper)(o:Oper)(s s1:St)(c:Cl):Prop where
 ex:∃t x y a Q,o.op=.store t x y/\uN ops s o.guard=Z f/\sJ (ev s x)=Z a/\c=⟨3,a.block,a.off,len<|cr<|ev s y,hh0,hh0⟩/\
  Ak P t (ev s x) (ev s y) (iW s).H=Z (undef,Q)/\s1=kF s o.dst undef ⟨Q.xI,Q.bV,pV s.H.low Q.low⟩/\
  (iW s).H.write a.block a.off (cr<|ev s y)=Z Q
def Ce(s:St)(x:cz):ev (iW s) x=ev s x:=by cases x<;>rfl
def Jh{c:Cl}(h:Mt P cf ops o s s1 c)(E:c.k=3):ai2 P cf ops o s s1 c:=by
 cases h with
 |skip M=>cases E
 |DU v M J=>cases E
 |mem v Q M J=>
  rcases QD (P:=P) (o:=o.op) (s:=s) (Q:=Q)with⟨p,a,hs,ha,e⟩|e|⟨hlow,⟨_,e⟩|e|⟨p,a,l,hs,ha,hl,e⟩⟩
  .obtain⟨t,B⟩:=VB hs;rw[B]at J;have h:=qx (o:=Ak P t (ev (iW s) p.1) (ev (iW s) p.2) (iW s).H) J;rw[Ce,Ce]at h;have N:=h;obtain⟨W,z,h⟩:=aL h;obtain⟨s',U,h⟩:=aL h;obtain⟨Y,h⟩:=gJ h;obtain⟨V,I,h⟩:=aL h;cases h;rw[ha]at z;cases z;exact⟨t,p.1,p.2,a,_,B,M,ha,e,N,O,I⟩
  all_goals(rw[e]at E;cases E)
def Rg.xC(g:Rg P cf ops n nt S ag)(Y:j<ops.size)(W:(ag j).k=3)(E:at' S κ r j≠at' S κ r (j+1)):
 r=(ag j).r/\∃i,κ=Z i/\(ag j).off<=i/\i<(ag j).off+(ag j).n:=by
 have hs:=Jh (g.step j _<|bI Y) W;obtain⟨t,x,y,a,Q,ab,hw,ha,e,ac,N,U⟩:=hs.ex;obtain⟨_,I,B,V,_,_⟩:=Jg U;have J:∀k,(S<|j+1).H.obj k=Q.obj k:=by intro k;rw[N,nA];rfl
 have z:∀k,(iW<|S j).H.obj k=(S j).H.obj k:=λ_=>rfl;rw[e];simp only[h_]
 by_cases hr:r=a.block
 .subst hr;refine⟨O,?_⟩;cases κ with
  |none=>exact absurd (by show Ct.shape _=Ct.shape _;rw[J,B,z]) E
  |some i=>
   refine⟨i,O,?_⟩;apply gQ;intro M;exact E (by show Ct.cell _=Ct.cell _;rw[J,V i M,z])
 .exact absurd (by show cont κ _=cont κ _;rw[J,I r hr,z]) E
def Rg.VD(g:Rg P cf ops n nt S ag)(J:j<ops.size)(I:(ag j).k=3)(E:r≠(ag j).r):(S<|j+1).H.obj r=(S j).H.obj r:=by
 have hs:=Jh (g.step j _<|bI J) I;obtain⟨t,x,y,a,Q,M,U,O,e,N,z,B⟩:=hs.ex;rw[e]at E;rw[z,nA];exact(Jg B).2.1 r E
def C8(h:zD x y=f)(z:x.r=y.r)(I:x.off<=i)(B:i<x.off+x.n)(E:y.off<=i)(J:i<y.off+y.n):False:=by
 unfold zD at h;rw[lu,lu]at h;rcases h with(h|h)|h
 .rw[z]at h;rw[show aB y.r y.r=f from dW _]at h;cases h
 .have:=aF h;have e:bq x.off x.n=x.off+x.n:=rfl;omega
 .have:=aF h;have e:bq y.off y.n=y.off+y.n:=rfl;omega
def Rg.XU(g:Rg P cf ops n nt S ag){l:Cl}(J:j<ops.size)(z:(ag j).k=2)(h:oV (ag j) l=f)(I:l.off<=i)(B:i<l.off+l.n):at' S (Z i) l.r j=at' S (Z i) l.r (j+1):=by
 have hs:=g.step j _<|bI J;generalize hcj:ag j=c at hs z h;generalize hsj:S (j+1)=s1 at hs;show Ct.cell (nK ((S j).H.obj l.r) i)=Ct.cell (nK ((S<|j+1).H.obj l.r) i);rw[hsj];cases hs with
 |skip E=>rw[nA]
 |DU v E M=>rw[nA]
 |mem v Q E M=>
  rw[nA];rcases QD (P:=P) (o:=ops[j].op) (s:=S j) (Q:=Q)with⟨p,a,hs,ha,e⟩|e|⟨hlow,⟨_,e⟩|e|⟨p,a,l,hs,ha,hl,e⟩⟩
  .rw[e]at z;cases z
  .rw[e]at h;have:=QE (show sameAt (S j).H Q l.r l.off l.n=f from h) i I B;rw[this];rfl
  all_goals(rw[e]at z;cases z)
def Rg.anO(g:Rg P cf ops n nt S ag)(Y:Closed ops ak)(hi:i<ops.size)(FM:¬ak i)(pW:∀e,e∈ops[i].after.toList->gY .any e=f->ak e.on)(hc:(ag i).k=4)(I:(ag i).off<=k)(B:k<(ag i).off+(ag i).n)(hr:(ag i).r<nx S i):FL S ops.size ak (Z k) (ag i).r i:=by
 refine⟨hr,λj E RV z=>?_⟩;have hcj:=g.turns E RV z;have V:ops[i]?=Z ops[i]:=bI hi;have W:ops[j]?=Z ops[j]:=bI E
 have J:(ag j).k=3->∀x y,zD x y=f->((x=ag j/\y=ag i)\/(x=ag i/\y=ag j))->False:=by
  intro h3 x y U ab;obtain⟨e1,i',e2,e3,e4⟩:=g.xC E h3 z;cases e2;rcases ab with⟨rfl,rfl⟩|⟨rfl,rfl⟩
  .exact C8 U e1.symm e3 e4 I B
  .exact C8 U e1 I B e3 e4
 rcases kW j i with h|h|h
 .refine⟨λ_=>h,λ_=>?_⟩;have M:=g.dyn j i h hi;rcases hcj with hcj|hcj
  .rcases aiZ M hcj hc with hb|hb
   .exact oK g.back Y i _ V pW j hb
   .exact absurd (g.XU E hcj hb I B) z
  .rcases aiX M hcj hc with hb|hb
   .exact oK g.back Y i _ V pW j hb
   .exact(J hcj _ _ hb<|.inl ⟨O,O⟩).elim
 .subst h;exact⟨λh=>absurd h FM,λh=>absurd h<|mI _⟩
 .refine⟨λN8=>?_,λh'=>N⟩;have M:=g.dyn i j h E
  have hb:iP (BM ops j) i=f:=by
   rcases hcj with hcj|hcj
   .rcases aiY M hc hcj with hb|hb
    .exact hb
    .exact absurd (g.XU E hcj hb I B) z
   .rcases aiW M hc hcj with hb|hb
    .exact hb
    .exact(J hcj _ _ hb<|.inr ⟨O,O⟩).elim
  exact absurd (oK g.back Y j _ W (Y j _ W N8) i hb) FM
def VE{x:C}{a:Addr}(h:xP P t x H=Z (v,Q))(M:VR m x x')(ha:sJ x=Z a)(hl:tLd P t=Z ld)(hm:m a.block=Z l)(VC:w.heap[l.c]?=Z ob)(hc:∀i aa,a.off<=i->i<a.off+ld.getD 1->nK (H.obj a.block) i=Z aa->yM m l i aa ob):
 ∃v',VR m v v'/\(Instr.loadAt t x').run P w=.ok v' w:=by
 obtain⟨a0,ab,h⟩:=aL h;obtain⟨l0,ad,h⟩:=aL h;rw[ha]at ab;cases ab;rw[hl]at ad;cases ad;rw[qY ha]at M;obtain⟨l1,al,an,aw,rfl⟩:=M.vD;rw[hm]at al;cases al
 have E:∀i aa,a.off<=i->i<a.off+ld.getD 1->nK (H.obj a.block) i=Z aa->∃Y,VR m aa Y/\w.cell? ⟨l.c,l.base+(i-l.lo),T⟩=Z Y:=by
  intro i aa I B h3;obtain⟨F,ty,fr,Y,e,h4,h5⟩:=hc i aa I B h3;subst e;exact⟨Y,h5,by rw[cell_of VC];exact h4⟩
 obtain⟨d,i,hd,hi,hk⟩:=U8 hl;rcases hk with⟨V,rfl⟩|⟨V,rfl⟩
 .replace h:(aN (H.read a.block a.off i.size) λvs=>Z (dN ⟨vs⟩,H))=Z (v,Q):=h;obtain⟨vs,J,h⟩:=aL h;cases h;have ao:=F8 J
  have ap:u vs=i.size:=by
   cases W:i.size with
   |zero=>rw[W]at J;cases J;rfl
   |succ k=>
    rw[W]at J;have h:=J;replace h:(aN (xH<|H.obj a.block) λw=>gd (aD (bq a.off<|k+1) w.n)<|Z<|Tr.FX top w.cells a.off<|k+1)=Z vs:=h;obtain⟨az,hR,h⟩:=aL h;obtain⟨hg,h⟩:=gJ h;cases h;exact XD _ _ _ _
  have aq:∀(q:D C)(b:Nat),vs.drop b=q->∃q',mX m q q'/\∀j aa,q'[j]?=Z aa->w.cell? ((⟨l.c,l.base+(a.off-l.lo),T⟩:Addr).add<|b+j)=Z aa:=by
   intro q
   induction q with
   |nil=>intro b _;exact⟨[],.nil,gB⟩
   |cons aa q ih=>
    intro b hb
    have ac:vs[b]?=Z aa:=by
     have:=eY List.head? hb
     rwa [List.head?_drop]at this
    have ar:b<u vs:=(bK.1 ac).1;obtain⟨q',I,B⟩:=ih (b+1) (by rw[<-List.tail_drop,hb];rfl);obtain⟨Y,h3,h4⟩:=E (a.off+b) aa N (by show a.off+b<a.off+i.size;omega) (by rw[(ao b N).1];exact ac);refine⟨Y::q',.cons _ _ _ _ h3 I,?_⟩;intro j z W;cases j with
    |zero=>
     simp at W;subst W;rw[dZ,E9 l a.off _ an];exact h4
    |succ j=>
     have:=B j z (by simpa using W);rw[show b+(j+1)=b+1+j from N];exact this
  obtain⟨am,I,B⟩:=aq vs 0 O;have U:=run_loadCells_list (P:=P) w ⟨l.c,l.base+(a.off-l.lo),T⟩ am (λj aa hu=>by have:=B j aa hu;rwa [bB]at this);rw[<-I.length,ap]at U;exact⟨.agg ⟨am⟩,.agg _ _ I,by simp[Instr.loadAt,kG,loadVar,xB hd,V,kg hi,U]⟩
 .replace h:(aN (H.cell a.block a.off) λv=>Z (v,H))=Z (v,Q):=h;obtain⟨aa,hu,h⟩:=aL h;cases h;have h:=hu;obtain⟨az,hR,h⟩:=aL h;obtain⟨hg,h⟩:=gJ h;cases h;have hg:a.off+1<=az.n:=aF hg;obtain⟨v',I,B⟩:=E a.off (az.cells.get top a.off) (ax _) (by show a.off<a.off+1;omega) (by rw[vK hR];simp only[nK];rw[jj N]);exact⟨v',I,by simp[Instr.loadAt,kG,loadVar,xB hd,V,B]⟩
theorem abX{o:Op}(Y:Bj o=f)(h:BK o P cf s=.mem v Q):
 ∃ob,Q=s.H.new ob/\∀A:R,A.bV=s.H.bV->BK o P cf ⟨s.nl,s.nt,s.reg,s.tm,s.df,A⟩=.mem v (A.new ob):=by
 cases o<;>first|cases Y|skip
 case alloc e=>
  replace h:=qx (o:=D4 P e s.H) h;obtain⟨z,N,h⟩:=aL h;cases h;refine⟨_,O,λA B=>?_⟩;show rm (aN (BH P e) λz=>Z (OU A.bV,A.new<|rowOf e z))=_;rw[N,B];rfl
 case box e x=>
  replace h:=qx (o:=LU e (ev s x) s.H) h;obtain⟨J,h⟩:=gJ h;cases h;refine⟨_,O,λA B=>?_⟩;have I:ev ⟨s.nl,s.nt,s.reg,s.tm,s.df,A⟩ x=ev s x:=by cases x<;>rfl
  show rm (gd (rP<|ev ⟨s.nl,s.nt,s.reg,s.tm,s.df,A⟩ x)<|Z (OU A.bV,A.new<|rowOf e<|cr<|ev ⟨s.nl,s.nt,s.reg,s.tm,s.df,A⟩ x))=_;rw[I,J,B];rfl
 case makeMap t r=>
  replace h:=qx (o:=vw P t (Kw s r) s.H) h;obtain⟨q,M,h⟩:=aL h;obtain⟨J,h⟩:=gJ h;cases h;refine⟨_,O,λA B=>?_⟩
  have I:Kw ⟨s.nl,s.nt,s.reg,s.tm,s.df,A⟩ r=Kw s r:=by
   cases r with
   |none=>rfl
   |some x=>cases x<;>rfl
  show rm (aN (vk P t) λ_=>gd (@aQ C (λ_=>Bool) f (λv=>!(fT<|vg v))<|Kw ⟨s.nl,s.nt,s.reg,s.tm,s.df,A⟩ r)<|Z (gz<|Z A.bV,A.new<|.map []))=_;rw[I,M,B];show rm (gd (@aQ C (λ_=>Bool) f (λv=>!(fT<|vg v))<|Kw s r) _)=_;rw[J];rfl
 case makeSlice t l c=>
  replace h:=qx (o:=sK P t (ev s l) (ev s c) s.H) h;obtain⟨q,M,h⟩:=aL h;obtain⟨i,hi,h⟩:=aL h;obtain⟨z,N,h⟩:=aL h;obtain⟨k,hk,h⟩:=aL h;obtain⟨k2,V,h⟩:=aL h;obtain⟨J,h⟩:=gJ h;cases h;refine⟨_,O,λA B=>?_⟩;have I:ev ⟨s.nl,s.nt,s.reg,s.tm,s.df,A⟩ l=ev s l:=by cases l<;>rfl
  have W:ev ⟨s.nl,s.nt,s.reg,s.tm,s.df,A⟩ c=ev s c:=by cases c<;>rfl
  show rm (sK P t (ev ⟨s.nl,s.nt,s.reg,s.tm,s.df,A⟩ l) (ev ⟨s.nl,s.nt,s.reg,s.tm,s.df,A⟩ c) A)=_;unfold sK;rw[I,W,M];show rm (aN (tI P q.1) _)=_;rw[hi];show rm (aN (BH P q.1) _)=_;rw[N];show rm (aN (AZ<|ev s l) _)=_;rw[hk];show rm (aN (AZ<|ev s c) _)=_;rw[V];show rm (gd _ _)=_;rw[J,B];rfl
 case buildSlice t k E=>
  replace h:=qx (o:=vv P t k (Qd s E) s.H) h;obtain⟨q,M,h⟩:=aL h;obtain⟨z,N,h⟩:=aL h;obtain⟨J,h⟩:=gJ h;obtain⟨F,U,h⟩:=aL h;cases h;refine⟨_,O,λA B=>?_⟩
  have I:Qd ⟨s.nl,s.nt,s.reg,s.tm,s.df,A⟩ E=Qd s E:=by
   obtain⟨E⟩:=E;show mp (λp=>(p.1,ev ⟨s.nl,s.nt,s.reg,s.tm,s.df,A⟩ p.2)) E=mp (λp=>(p.1,ev s p.2)) E;congr 1;funext p;cases p.2<;>rfl
  show rm (vv P t k (Qd ⟨s.nl,s.nt,s.reg,s.tm,s.df,A⟩ E) A)=_;unfold vv;rw[I,M];show rm (aN (BH P q.1) _)=_;rw[N];show rm (gd _ _)=_;rw[J];show rm (aN (FJ _ (Qd s E) _) _)=_;rw[U,B];rfl
end E
section E
variable{P:aX}{cf:mM}{S:Nat->St}
def oP.cells{o:nI}{F cs':Array C}{fr:Nat×Nat}(h:oP m l o<|.cells F ty fr)(hs:cs'.size=F.size):oP m l o (.cells cs' ty fr):=by
 cases o with
 |dead=>trivial
 |row az=>
  have⟨I,B,h3,h4,h5,h6⟩:=h;exact⟨I,B,by rw[hs];exact h3,h4,h5,h6⟩
 |map es=>exact h.elim
 |OQ s p=>exact h.elim
theorem Rg.anP(g:Rg P cf ops n nt S ag)(N:Closed ops ak)(hi:i<ops.size)(V:¬ak i)(U:∀e,e∈ops[i].after.toList->gY .any e=f->ak e.on)(I:(ag i).k=3):(∀j,j<ops.size->(ag j).k=2->j<i/\ak j)/\∀r,r<nx S i->FL S ops.size ak T r i:=by
 have J:ops[i]?=Z ops[i]:=bI hi
 have B:∀j,j<ops.size->(ag j).k=2->j<i/\ak j:=by
  intro j z hcj;rcases kW j i with h|h|h
  .exact⟨h,oK g.back N i _ J U j<|XQ (g.dyn j i h hi) (.inr hcj) I⟩
  .subst h;rw[I]at hcj;cases hcj
  .exact(XP (g.dyn i j h z) I<|.inr hcj).elim
 refine⟨B,λr O=>⟨O,λj z M E=>?_⟩⟩;rcases g.turns z M E with hcj|hcj
 .have:=B j z hcj;exact⟨λ_=>this.1,λ_=>this.2⟩
 .have⟨_,k,hk,_⟩:=g.xC z hcj E;cases hk
def VF(p:Nat->Bool):∀d k,p k=f->p (k+d)=aA->∃j,k<=j/\j<k+d/\p j=f/\p (j+1)=aA:=by
 intro d
 induction d with
 |zero=>intro k I B;rw[dZ,I]at B;cases B
 |succ d e=>
  intro k I B;cases hp:p (k+1)with
  |false=>exact⟨k,ax _,N,I,hp⟩
  |true=>
   have⟨j,a1,a2,a3⟩:=e (k+1) hp (by rw[show k+1+d=k+(d+1)from N];exact B);exact⟨j,N,N,a3⟩
theorem MInv.stored(g:Rg P cf ops n nt S ag)(hD:Closed ops ak)(h1:MInv S ag ops.size m0 w0 ak m w)(hi:i<ops.size)(FM:¬ak i)(pW:∀e,e∈ops[i].after.toList->gY .any e=f->ak e.on)(hc:(ag i).k=3){x y:cz}{y':C}{a:Addr}(ha:sJ (ev (S i) x)=Z a)(ap:ag i=⟨3,a.block,a.off,len<|cr<|ev (S i) y,hh0,hh0⟩)(bg:Ak P t (ev (S i) x) (ev (S i) y) (iW<|S i).H=Z (undef,Q))(bf:(S<|i+1).H=⟨Q.xI,Q.bV,pV (S i).H.low Q.low⟩)(V:(iW<|S i).H.write a.block a.off (cr<|ev (S i) y)=Z Q)(M:VR (m.upto<|nx S i) (ev (S i) x) x')(hy:VR (m.upto<|nx S i) (ev (S i) y) y'):
 ∃w',(Instr.storeAt t x' y').run P w=.ok () w'/\MInv S ag ops.size m0 w0 (Hu ak i) m w':=by
 have U:=g.mono;have h0:=bg;have h:=bg;have⟨a1,ha1,h⟩:=aL h;have⟨sz,a8,h⟩:=aL h;have⟨hgl,h⟩:=gJ h;have⟨H1,hH1,h⟩:=aL h;cases h;rw[ha]at ha1;cases ha1;obtain⟨b9,wK,rfl⟩:=si a8;have ar:=bA hgl;rw[h_]at ar;rw[qY ha]at M;obtain⟨l,bx,cg,ci,rfl⟩:=M.vD;have hu:=Mp.qD bx
 have b4:ev (S i) y≠top:=by
  intro e;rw[e]at V
  replace V:(aN (xH<|(iW<|S i).H.obj a.block) λw=>
   gd (!w.mR&&aD (bq a.off<|len [top]) w.n&&aD w.fz a.off&&all' gI [top])
   (Z<|(iW<|S i).H.put a.block<|.row ⟨w.ty,Tr.uS top [top] a.off w.cells,w.n,aA,w.fz⟩))=Z Q:=V
  have h:=V;have⟨az,hR,h⟩:=aL h;have⟨hg,h⟩:=gJ h;simp[all_eq,gI,top]at hg
 have aq:=C4 hy b4
 have bb:∀w',(storeCells ⟨l.c,l.base+(a.off-l.lo),T⟩<|cr y').run P w=.ok () w'->(Instr.storeAt t (.pointer<|Z ⟨l.c,l.base+(a.off-l.lo),T⟩) y').run P w=.ok () w':=by
  intro w' b8;have a8:y'.cells.size=b9.size:=by rw[D6];show(cr y').length=_;rw[<-aq.length,ar]
  have ap:y'.cells.toList=cr y':=(E6 y').symm;simp only[Instr.storeAt,kG,storeVar,dD,dR,bR,kg wK,a8,ne_eq,u_,lN,ap];exact b8
 have bh:=Jg V;have VC:∀k,(S<|i+1).H.obj k=Q.obj k:=by intro k;rw[bf];rfl
 by_cases hnil:cr (ev (S i) y)=[]
 .rw[hnil]at V
  have bn:(iW<|S i).H=Q:=by
   have:Z (iW<|S i).H=Z Q:=V;injection this
  have bz:cr y'=[]:=by
   have:=aq.length;rw[hnil]at this;exact iL this.symm
  refine⟨w,bb w (by rw[bz];simp[storeCells]),h1.still hi λr hr=>?_⟩;rw[VC,<-bn];rfl
 .
  have⟨XV,VG⟩:=g.anP hD hi FM pW hc;have⟨ob,afZ⟩:=h1.ZU _ _ hu.2;have b7:=h1.cnt T _ _ i ob N hu.2 (VG _ hu.1) afZ
  have a7:∃az,(S i).H.obj a.block=.row az/\az.mR=aA/\a.off+(cr<|ev (S i) y).length<=az.n/\az.fz<=a.off/\(cr<|ev (S i) y).all gI=f:=by
   cases hvs:cr (ev (S i) y)with
   |nil=>exact absurd hvs hnil
   |cons aa us=>
    rw[hvs]at V
    replace V:(aN (xH<|(iW<|S i).H.obj a.block) λw=>
     gd (!w.mR&&aD (bq a.off<|len<|aa::us) w.n&&aD w.fz a.off&&all' gI (aa::us))
     (Z<|(iW<|S i).H.put a.block<|.row ⟨w.ty,Tr.uS top (aa::us) a.off w.cells,w.n,aA,w.fz⟩))=Z Q:=V
    have h:=V;have⟨az,hR,h⟩:=aL h;have⟨hg,h⟩:=gJ h;simp only[bE,h_,all_eq]at hg;exact⟨az,vK hR,om hg.1.1.1,aF hg.1.1.2,aF hg.1.2,hg.2⟩
  have⟨az,hR,hse,hbd,hfz,hoc⟩:=a7
  have a4:oP (m.upto<|nx S i) l (.row az) ob:=by
   have:oP (m.upto<|nx S i) l (Mm<|(S i).H.obj a.block) ob:=b7;rw[hR]at this;exact this.Vv O
  cases ob with
  |cells F ty fr=>
   have⟨⟨e1,e2⟩,e3,e4,e5,e6,e7⟩:=a4;have ab:(cr y').length=(cr<|ev (S i) y).length:=aq.length.symm
   have⟨w',cs',r1,r2,r3,r4,r5,r6,r7,r8,r9⟩:=Au (P:=P) l.c (l.base+(a.off-l.lo)) ty fr (cr y') 0 F w afZ (D7 aq hoc) (by rw[ab];omega)
    (λj b1 b2 b3=>by have:=e7 hse;omega)
   refine⟨w',bb w' r1,?_⟩;have a2:(ag i).r=a.block:=by rw[ap]
   have am:(ag i).off=a.off:=by rw[ap]
   have a5:(ag i).n=(cr<|ev (S i) y).length:=by rw[ap];exact h_ _
   have ad:∀κ r,(r≠a.block\/∀k,κ=Z k->¬(a.off<=k/\k<a.off+(cr<|ev (S i) y).length))->at' S κ r i=at' S κ r (i+1):=by
    intro κ r b6;apply gQ;intro Y;have⟨f1,k,f2,f3,f4⟩:=g.xC hi hc Y;rw[a2]at f1;rw[am]at f3;rw[am,a5]at f4;rcases b6 with h|h
    .exact h f1
    .exact h k f2 ⟨f3,f4⟩
   have bj:(S i).H.obj a.block≠.dead:=by rw[hR];simp
   have al:∀r W k κ,r≠a.block->m r=Z W->W.c=l.c->k<=ops.size->FL S ops.size ak κ r k->∀o,Rel κ (m.upto<|nx S k) W (at' S κ r k) o:=by
    intro r W k κ Y an a3 hk E o
    have O8:∀k',k'<=ops.size->FL S ops.size ak T r k'->(S k').H.obj r=.dead:=by
     intro k' bt bi;apply gQ;intro b0;exact Y<|h1.sep r a.block W l k' i an hu.2 a3 bt N bi (VG _ hu.1) b0 bj
    cases κ with
    |none=>
     show Rel T _ _ (.shape<|Mm<|(S k).H.obj r) o;rw[O8 k hk E];trivial
    |some q=>
     show Rel (Z q) _ _ (.cell<|nK ((S k).H.obj r) q) o;cases hca:nK ((S k).H.obj r) q with
     |none=>trivial
     |some z=>
      exfalso
      have ba:∀j,j<ops.size->r<nx S j->(ag j).k≠2->(nK ((S j).H.obj r) q).isSome=(nK ((S<|j+1).H.obj r) q).isSome:=by
       intro j hj RV B;apply abW;apply gQ;intro ac;have aw:at' S T r j≠at' S T r (j+1):=λe=>ac (by injection e);rcases g.turns hj RV aw with h3|h3
       .exact B h3
       .have⟨_,_,h4,_⟩:=g.xC hj h3 aw;cases h4
      by_cases hri:r<nx S i
      .have hd:=O8 i N (VG r hri);have hz:nK ((S i).H.obj r) q=T:=by rw[hd];rfl
       rcases dH k i with hki|hki
       .have⟨j,f1,f2,f3,f4⟩:=VF (λk=>(nK ((S k).H.obj r) q).isSome) (i-k) k (by simp[hca]) (by
         show(nK ((S<|k+(i-k)).H.obj r) q).isSome=aA;rw[show k+(i-k)=i from N,hz];rfl)
        have RV:r<nx S j:=aP E.1<|U k j f1 N
        have br:(ag j).k=2:=gQ λe=>by
         have:=ba j N RV e;rw[f3,f4]at this;cases this
        have bm:at' S (Z q) r j≠at' S (Z q) r (j+1):=by
         intro e;have e:nK ((S j).H.obj r) q=nK ((S<|j+1).H.obj r) q:=by injection e
         rw[e,f4]at f3;cases f3
        have:=(E.2 j N RV bm).1 (XV j N br).2;omega
       .have:∀d,i+d<=ops.size->(nK ((S<|i+d).H.obj r) q).isSome=aA:=by
         intro d
         induction d with
         |zero=>intro _;rw[dZ,hz];rfl
         |succ d ih=>
          intro ca
          have h9:=ba (i+d) N (aP hri<|U i (i+d) N N) (λe=>by
           have:=(XV (i+d) N e).1;omega)
          rw[show i+(d+1)=i+d+1 from O,<-h9];exact ih N
        have:=this (k-i) N;rw[show i+(k-i)=k from N,hca]at this;cases this
      .have bo:FL S ops.size ak T r k:=by
        refine⟨E.1,λj hj RV ac=>?_⟩;exfalso;rcases g.turns hj RV ac with h3|h3
        .have:=(XV j hj h3).1;have:=U j i N N;omega
        .have⟨_,_,h4,_⟩:=g.xC hj h3 ac;cases h4
       rw[O8 k hk bo]at hca;cases hca
   refine⟨?_,?_,?_,?_,?_,?_,h1.le,h1.fresh,r7.trans h1.os,r8.trans h1.tape,r9.trans h1.output,by rw[r6];exact h1.size,?_⟩
   .exactλr l h=>(h1.dom r l h).imp id λ⟨j,I,B,h3⟩=>⟨j,I,.inl B,h3⟩
   .intro r W I;have⟨o,ho⟩:=h1.ZU r W I;have:W.c<w'.heap.size:=by rw[r6];exact qC ho
    exact⟨w'.heap[W.c],bI this⟩
   .
    intro κ r W k o hk an E ho
    by_cases hr:r=a.block
    .subst hr;rw[hu.2]at an;have bv:l=W:=by injection an
     subst bv;rw[r2]at ho;have ho:Obj.cells cs' ty fr=o:=by injection ho
     subst ho
     by_cases hin:∃q,κ=Z q/\a.off<=q/\q<a.off+(cr<|ev (S i) y).length
     .obtain⟨q,rfl,q1,q2⟩:=hin
      have bl:FL S ops.size (Hu ak i) (Z q) a.block (i+1):=by
       refine⟨aP hu.1<|g.SF hi,λj hj RV Y=>?_⟩;rcases g.turns hj RV Y with B|h3
       .have:=XV j hj B;exact⟨λ_=>N,λ_=>.inl this.2⟩
       .have⟨f1,q',f2,f3,f4⟩:=g.xC hj h3 Y;cases f2;have b5:ops[i]?=Z ops[i]:=bI hi;have be:ops[j]?=Z ops[j]:=bI hj;rcases kW j i with h|h|h
        .rcases abR (g.dyn j i h hi) h3 hc with hb|hb
         .exact⟨λ_=>N,λ_=>.inl<|oK g.back hD i _ b5 pW j hb⟩
         .exact(C8 hb (by rw[<-f1,a2]) f3 f4 (by rw[am];exact q1) (by rw[am,a5];exact q2)).elim
        .subst h;exact⟨λ_=>N,λ_=>.inr O⟩
        .rcases abR (g.dyn i j h hj) hc h3 with hb|hb
         .refine⟨λhw=>?_,λh'=>N⟩;rcases hw with N8|e
          .exact absurd (oK g.back hD j _ be (hD j _ be N8) i hb) FM
          .omega
         .exact(C8 hb (by rw[<-f1,a2]) (by rw[am];exact q1) (by rw[am,a5];exact q2) f3 f4).elim
      have bp:at' S (Z q) a.block (i+1)=at' S (Z q) a.block k:=FL.eq U N hk bl E;have ao:nK ((S<|i+1).H.obj a.block) q=(cr<|ev (S i) y)[q-a.off]?:=by rw[VC];exact bh.2.2.2.2.1 q q1 q2
      have a0:Rel (Z q) (m.upto<|nx S i) l (at' S (Z q) a.block k) (.cells cs' ty fr):=by
       rw[<-bp];show Rel (Z q) _ l (.cell<|nK ((S<|i+1).H.obj a.block) q) _;rw[ao];cases hz:(cr<|ev (S i) y)[q-a.off]? with
       |none=>trivial
       |some z=>
        intro bd;have⟨z',f1,f2⟩:=aq.get _ hz;refine⟨cs',ty,fr,z',O,?_,f2⟩;rw[r4,jj (by rw[ab];omega),show l.base+(q-l.lo)-(l.base+(a.off-l.lo)+0)=q-a.off from N];exact f1
      rcases dH i k with hik|hik
      .exact a0.mono<|Mp.yL (λ_ _ h=>h)<|U i k N hk
      .have aE:at' S (Z q) a.block i=at' S (Z q) a.block (i+1):=by
        apply gQ;intro Y;have:=(E.2 i hi hu.1 Y).1<|.inr O;omega
       have J:=h1.cnt (Z q) _ _ k _ hk hu.2 (E.less λ_=>aE) afZ;exact Rel.restrict (Mp.yL (λ_ _ h=>h)<|U k i hik N) a0 J
     .have aE:at' S κ a.block i=at' S κ a.block (i+1):=ad κ _ (.inr λq e h=>hin ⟨q,e,h.1,h.2⟩);have J:=h1.cnt κ _ _ k _ hk hu.2 (E.less λ_=>aE) afZ;cases κ with
      |none=>
       have J:oP (m.upto<|nx S k) l (Mm<|(S k).H.obj a.block) (.cells F ty fr):=J;exact J.cells r3
      |some q=>
       have J:Rel (Z q) (m.upto<|nx S k) l (.cell<|nK ((S k).H.obj a.block) q) (.cells F ty fr):=J;show Rel (Z q) (m.upto<|nx S k) l (.cell<|nK ((S k).H.obj a.block) q)<|.cells cs' ty fr;cases hz:nK ((S k).H.obj a.block) q with
       |none=>trivial
       |some z=>
        rw[hz]at J;intro bd;have⟨cs0,ty0,fr0,v,f1,f2,f3⟩:=J bd;cases f1;refine⟨cs',ty,fr,v,O,?_,f3⟩;rw[r4,jx]
        .exact f2
        .rw[ab];intro hh;exact hin ⟨q,O,N,N⟩
    .have aE:at' S κ r i=at' S κ r (i+1):=ad κ r (.inl hr);have Pk:=E.less λ_=>aE
     by_cases a3:W.c=l.c
     .exact al r W k κ hr an a3 hk Pk o
     .rw[r5 _ a3]at ho;exact h1.cnt κ r W k o hk an Pk ho
   .intro r r' W a9 k k' I B h3 h4 h5 h6 h7 h8 h9;exact h1.sep r r' W a9 k k' I B h3 h4 h5 (h6.less λ_=>ad T r<|.inr λq e=>by cases e) (h7.less λ_=>ad T r'<|.inr λq e=>by cases e) h8 h9
   .exactλr r' W a9 j I B h3 h4 h5 h6=>h1.clash r r' W a9 j I B h3 h4 (λh=>h5<|.inl h) h6
   .intro j r hj N8 hr a6;rcases N8 with h|rfl
    .exact h1.hid j r hj h hr a6
    .refine g.VD hi hc ?_;rw[a2];intro e;rw[e,hu.2]at a6;cases a6
   .intro c bc hk;rw[r5,h1.keep c bc hk];intro e
    have bw:(S ops.size).H.low<=a.block:=by
     have f1:=g.low (i+1) ops.size N<|ax _;rw[bf]at f1;have f2:(S ops.size).H.low<=pV (S i).H.low Q.low:=f1;exact aR f2<|aR (Fe _ _).2<|bh.2.2.2.2.2 hnil
    cases h0':m0 a.block with
    |some l0=>
     have:=h1.le _ _ h0';rw[hu.2]at this;cases this;have:=hk _ _ h0' e.symm;omega
    |none=>
     have⟨r0,l0,f1,f2,f3⟩:=h1.fresh _ _ hu.2 h0' (by rw[<-e];exact bc);have:=hk r0 l0 f1 (by rw[f2,e]);omega
  |map Bo c=>exact a4.elim
  |_=>exact a4.elim
end E
def Ac(hd:Mj s.nt d=f)(t:Nat):jd (kF s d v H) t=if d=Z t then v else jd s t:=by
 cases d with
 |none=>rfl
 |some d=>
  have hd:d<s.nt:=aF hd;show jd (sM s d v H) t=_;unfold sM;cases hb:iP s.nl d with
  |true=>
   show jd ⟨s.nl,s.nt,s.reg,b_ (aD (dh d) s.nt) (s.tm.set top d v) s.tm,s.df,H⟩ t=_;rw[show aD (dh d) s.nt=f from aH hd];show b_ (iP s.nl t) ((s.tm.set top d v).get top t) (look s.reg t)=_;rw[Tr.wU]
   by_cases e:d=t
   .subst e;rw[hb,jj O,jj O];rfl
   .rw[jx (qI e),jx<|om e];rfl
  |false=>
   show b_ (iP s.nl t) (s.tm.get top t) (b_ (aB d t) v<|look s.reg t)=_
   by_cases e:d=t
   .subst e;rw[hb,jj O,show aB d d=f from dW d];rfl
   .rw[jx (om e),show aB d t=aA from by rw[<-dw];exactλg=>e<|bA g];rfl
section E
variable{P:aX}{cf:mM}{S:Nat->St}
def af0(ops:Array Oper)(ak:Nat->Prop)(t k:Nat):Prop:=∀(j:Nat)(o:Oper),ops[j]?=Z o->o.dst=Z t->(ak j<->j<k)
structure Inv(ops:Array Oper)(nt:Nat)(S:Nat->St)(ag:Nat->Cl)(m0:Mp)(w0:cZ)(d0:D Deferred)(ak:Nat->Prop)(m:Mp)(a:Act)(w:cZ):Prop where
 mem:MInv S ag ops.size m0 w0 ak m w
 size:a.tmps.size=nt
 slot:∀t k,k<=ops.size->af0 ops ak t k->VR (m.upto<|nx S k) (jd (S k) t) (a.tmps.getD t undef)
 de:a.defers=d0
def Rg.look(g:Rg P cf ops n nt S ag)(ho:ops[j]?=Z o)(t:Nat)(h:o.dst≠Z t):jd (S<|j+1) t=jd (S j) t:=by
 have hs:=g.step j o ho
 have e:Mj (S j).nt o.dst=f:=by
  have:=g.ok j o ho;unfold yK at this;rw[bE]at this;rw[g.nts j o ho];exact this.2
 generalize S (j+1)=s1 at hs;generalize ag j=c at hs;cases hs with
 |skip z=>rw[Ac e,jx h]
 |DU v z B=>rw[Ac e,jx h]
 |mem v Q z B=>rw[Ac e,jx h]
def get_put(hs:a.tmps.size=nt)(hd:Mj nt d=f)(t:Nat):(a.put d v).tmps.getD t undef=if d=Z t then v else a.tmps.getD t undef:=by
 cases d with
 |none=>rfl
 |some d=>
  have hd:d<nt:=aF hd;show(a.tmps.setIfInBounds d v).getD t undef=_
  by_cases e:d=t
  .subst e;rw[jj O];simp[Array.getD,hs,hd]
  .rw[jx (om e)];simp only[iG];rw[lq e]
def abZ:(a.put d v).tmps.size=a.tmps.size:=by
 cases d with
 |none=>rfl
 |some d=>show(a.tmps.setIfInBounds d v).size=_;simp
def ZX(g:Rg P cf ops n nt S ag)(hD:Closed ops ak)(ab:a.tmps.size=nt)(Y:∀t k,k<=ops.size->af0 ops ak t k->VR (m.upto<|nx S k) (jd (S k) t) (a.tmps.getD t undef))(hi:i<ops.size)(FM:¬ak i)(hm:Mp.le m m')(hv:VR (m'.upto<|nx S<|i+1) v v')(Pm:∀t,ops[i].dst=Z t->jd (S<|i+1) t=v):
 ∀t k,k<=ops.size->af0 ops (Hu ak i) t k->VR (m'.upto<|nx S k) (jd (S k) t) ((a.put ops[i].dst v').tmps.getD t undef):=by
 intro t k hk z;have E:ops[i]?=Z ops[i]:=bI hi
 have hd:Mj nt ops[i].dst=f:=by
  have:=g.ok i _ E;unfold yK at this;rw[bE]at this;exact this.2
 rw[get_put ab hd]
 by_cases e:ops[i].dst=Z t
 .rw[jj e];have V:i<k:=(z i _ E e).1<|.inr O
  have I:∀d,i+1+d<=k->jd (S<|i+1+d) t=v:=by
   intro d
   induction d with
   |zero=>intro _;exact Pm t e
   |succ d ih=>
    intro ac;have M:i+1+d<ops.size:=N;have B:ops[i+1+d]?=Z ops[i+1+d]:=bI M;rw[show i+1+(d+1)=i+1+d+1 from O,g.look B t ?_,ih N];intro U;have N8:ak (i+1+d):=((z _ _ B U).2 N).resolve_right N;rcases g.stat i (i+1+d) _ _ N E B with hb|hap
    .exact FM<|oK g.back hD _ _ B (hD _ _ B N8) i hb
    .exact(Oper.apart_spec hap).2.1 t e U
  have:=I (k-(i+1)) N;rw[show i+1+(k-(i+1))=k from N]at this;rw[this];exact hv.mono<|Mp.yL (λ_ _ h=>h)<|g.mono _ _ V hk
 .rw[jx e];refine(Y t k hk ?_).mono<|Mp.yL hm<|ax _;intro j o M J
  have W:j≠i:=by
   intro U;subst U;rw[E]at M;cases M;exact e J
  rw[<-z j o M J];exact⟨.inl,λh=>h.resolve_right W⟩
def ab0(g:Rg P cf ops n nt S ag)(I:Closed ops ak)(hi:i<ops.size)(M:¬ak i)(U:∀e,e∈ops[i].after.toList->gY .any e=f->ak e.on){t:Nat}(ht:t∈ops[i].looksAt ops):af0 ops ak t i:=by
 intro j o E B;have z:ops[i]?=Z ops[i]:=bI hi;rcases kW j i with h|h|h
 .refine⟨λ_=>h,λ_=>?_⟩;rcases g.stat j i _ _ h E z with J|hap
  .exact oK g.back I i _ z U j J
  .exact absurd ht<|(Oper.apart_spec hap).1 t B
 .subst h;exact⟨λh=>absurd h M,λh=>absurd h<|mI _⟩
 .refine⟨λO=>?_,λV=>N⟩;rcases g.stat i j _ _ h z E with J|hap
  .exact absurd (oK g.back I j _ E (I j _ E O) i J) M
  .exact absurd ht<|(Oper.apart_spec hap).2.2 t B
def ZY{y:aC Bool}(ay:∀(o:Oper) t,ops[j]?=Z o->o.dst=Z t->VR m (jd s t) (a.tmps.getD t undef))(h:CR ops s j=Z y):yielded ops a.tmps j=y:=by
 have⟨o,ho,h⟩:=aL h;have⟨t,ht,h⟩:=aL h;rw[qw,fC]at ho;have hs:=ay o t ho ht
 have z:yielded ops a.tmps j=match a.tmps[t]? with|some (.bool b)=>Z b|_=>T:=by
  unfold yielded;rw[ho];show(match(o.dst).bind (a.tmps[·]?)with|some (.bool b)=>Z b|_=>T)=_;rw[ht];rfl
 rw[z];cases hb:kT (jd s t)with
 |some b=>
  rw[hb]at h;replace h:Z (Z b)=Z y:=h;cases h;rw[qO hb]at hs;have hs:=hs.of_bool;rw[iG]at hs;cases hq:a.tmps[t]? with
  |none=>rw[hq]at hs;cases hs
  |some x=>rw[hq]at hs;replace hs:x=.bool b:=hs;rw[hs]
 |none=>
  rw[hb]at h;replace h:(gd (isU<|jd s t)<|Z (T:aC Bool))=Z y:=h;have⟨hg,h⟩:=gJ h;cases h;rw[abH hg]at hs;have⟨l',e,hv⟩:=VR.Qj (x:=[]) hs;cases hv;rw[iG]at e;cases hq:a.tmps[t]? with
  |none=>rfl
  |some x=>rw[hq]at e;replace e:x=.tuple ⟨[]⟩:=e;rw[e]
def Mv(ay:∀t,t∈o.looksAt ops->VR m (jd s t) (a.tmps.getD t undef))(h:uN ops s o.guard=Z b):Region.wanted o (yielded ops a.tmps)=b:=by
 unfold Region.wanted;cases hg:o.guard with
 |none=>rw[hg]at h;cases h;rfl
 |some p=>
  rw[hg]at h;replace h:(aN (CR ops s p.1) λy=>Z<|@aQ Bool (λ_=>Bool) aA (λb=>CE b p.2) y)=Z b:=h;have⟨y,hy,h⟩:=aL h;cases h;have⟨j,want⟩:=p;simp only
  rw[ZY (m:=m) (s:=s) (λo' t e z=>ay t (by
   unfold Oper.looksAt;rw[hg];refine dL _ ?_;simp only[e,Option.bind_some,z];simp)) hy]
  cases y with
  |none=>rfl
  |some c=>cases c<;>cases want<;>rfl
def ai6(E:Gl n m)(e:all' (F7 n) o.op.operands.toList=f)(ay:∀t,t∈o.looksAt ops->VR m (jd s t) (a.tmps.getD t undef)):Qw m s a.eval o.op.operands.toList:=by
 refine⟨λx M=>?_⟩;rw[all_eq]at e;have z:=fD.1 e x M;cases x with
 |tmp t=>
  refine ay t ?_;unfold Oper.looksAt;refine dM _ ?_;rw[List.mem_filterMap];exact⟨_,M,O⟩
 |const v=>exact .sc v z
 |global k=>
  have⟨l,I,B,h3,h4⟩:=E k<|aF z;have:=VR.ptr (m:=m) k 0 l I N;rw[B,h3,h4]at this;exact this
 |func ay=>exact .func (.func ay) [] [] [] [] .nil .nil
def ab1(e:Qw m s ρ L)(A:R):Qw m ⟨s.nl,s.nt,s.reg,s.tm,s.df,A⟩ ρ L:=⟨λx M=>by have:=e.all x M;cases x<;>exact this⟩
theorem Inv.step(g:Rg P cf ops n nt S ag)(aE:Jf P n cf)(a6:Gl n m0)(KA:∀r l,m0 r=Z l->r<nx S 0)(hD:Closed ops ak)(h1:Inv ops nt S ag m0 w0 d0 ak m a w)(hi:i<ops.size)(FM:¬ak i)(pW:∀e,e∈ops[i].after.toList->gY .any e=f->ak e.on)(HK:∀m' a' w',Inv ops nt S ag m0 w0 d0 (Hu ak i) m' a' w'->K a' w'):wpOp P ops H' i K a w:=by
 have V:ops[i]?=Z ops[i]:=bI hi;have ao:=g.step i _ V;have ac:=g.ok i _ V;unfold yK at ac;rw[bE]at ac;have U:Mj (S i).nt ops[i].dst=f:=by rw[g.nts i _ V];exact ac.2
 have al:∀t,t∈ops[i].looksAt ops->VR (m.upto<|nx S i) (jd (S i) t) (a.tmps.getD t undef):=λt ht=>h1.slot t i N<|ab0 g hD hi FM pW ht
 have am:Gl n (m.upto<|nx S i):=by
  intro k hk;have⟨l,I,B⟩:=a6 k hk;exact⟨l,Mp.Hr (h1.mem.le _ _ I)<|aP (KA _ _ I)<|g.mono 0 i N N,B⟩
 have e:=ai6 am ac.1 al
 have J:∀(v v':C)(m':Mp)(w':cZ),MInv S ag ops.size m0 w0 (Hu ak i) m' w'->Mp.le m m'->VR (m'.upto<|nx S<|i+1) v v'->(∀t,ops[i].dst=Z t->jd (S<|i+1) t=v)->K (a.put ops[i].dst v') w':=by
  intro v v' m' w' hM ba hv hl;exact HK m' _ w' ⟨hM,by rw[abZ];exact h1.size,ZX g hD h1.size h1.slot hi FM ba hv hl,by rw[put_defers];exact h1.de⟩
 have ap:Mp.le (m.upto<|nx S i) (m.upto<|nx S<|i+1):=Mp.yL (λ_ _ h=>h)<|g.SF hi;unfold wpOp;rw[V];generalize hs1:S (i+1)=s1 at ao;generalize hci:ag i=c at ao;cases ao with
 |skip hw=>
  simp only[Mv al hw,dG,lN];refine J undef undef m w (h1.mem.still hi λr _=>by rw[hs1,nA]) (λ_ _ h=>h) (.tuple [] [] .nil) ?_;intro t ht;rw[hs1,Ac U,jj ht]
 |DU v hw hr=>
  simp only[Mv al hw,lC];left;have⟨v',I,B⟩:=Qx hr e.iW λ_=>rfl;unfold Oper.wp;rw[B w];refine J v v' m w (h1.mem.still hi λr _=>by rw[hs1,nA]) (λ_ _ h=>h) (I.mono ap) ?_;intro t ht;rw[hs1,Ac U,jj ht]
 |mem v Q hw hr=>
  simp only[Mv al hw,lC];left
  have Pm:∀t,ops[i].dst=Z t->jd (S<|i+1) t=v:=by
   intro t ht;rw[hs1,Ac U,jj ht]
  have DF:∀r,(S<|i+1).H.obj r=Q.obj r:=by intro r;rw[hs1,nA];rfl
  have an:nx S (i+1)=Q.bV:=by show(S<|i+1).H.bV=_;rw[hs1,nA]
  have a5:(S ops.size).H.low<=Q.low:=by
   have I:=g.low (i+1) ops.size N<|ax _;rw[hs1,nA]at I;have I:(S ops.size).H.low<=pV (S i).H.low Q.low:=I;exact aR I (Fe _ _).2
  have XW:((ag i).k=2\/((ag i).k=1/\nx S i<=Q.low))->ops[i].wp P a w K H':=by
   intro hk
   have VH:(ag i).k=1\/(ag i).k=2:=by
    rcases hk with h|h
    .exact .inr h
    .exact .inl h.1
   have rh:RH (m.upto<|nx S i) (iW<|S i).H w:=by
    refine⟨λr l h=>(Mp.qD h).1,?_,?_⟩
    .intro r l h;have Y:=Mp.qD h;have⟨o,ho⟩:=h1.mem.ZU r l Y.2;exact⟨o,ho,Rel.abS λκ=>h1.mem.cnt κ r l i o N Y.2 (g.XT hD hi FM pW VH Y.1) ho⟩
    .intro r r' l l' h h' hd a9 hc;have Y:=Mp.qD h;have a3:=Mp.qD h';exact h1.mem.sep r r' l l' i i Y.2 a3.2 hc N N (g.XT hD hi FM pW VH Y.1) (g.XT hD hi FM pW VH a3.1) hd a9
   refine Mr aE (s:=iW<|S i) rh am hr e.iW ?_;intro m2 v' w' I B h3
   have⟨m',f1,f2,f3⟩:=h1.mem.made g hD hi FM pW (A:=(iW<|S i).H) (A':=Q) O an.symm B h3 (.inr a5) (λr _ _=>(DF r).symm)
    (by rcases VH with h|h<;>omega) (by
     rcases hk with h|h
     .exact .inl ⟨h,λr=>(DF r).symm,λr=>rfl⟩
     .exact .inr ⟨N,h.2⟩)
   exact J v v' m' w' f1 f2 (I.mono f3) Pm
  rcases QD (P:=P) (o:=ops[i].op) (s:=S i) (Q:=Q)with⟨p,ad,hs,ha,ec⟩|ec|⟨hlow,⟨hf,ec⟩|ec|⟨p,ad,l,hs,ha,hl,ec⟩⟩
  .
   have aw:(ag i).k=3:=by rw[hci,ec]
   have bc:=Jh (g.step i _ V) aw;have⟨t,x,y,a1,H1,z,hw1,ha1,hcl,akV,anR,hwr⟩:=bc.ex
   have hv:v=undef/\Q=H1:=by
    rw[z]at hr;have h:=qx (o:=Ak P t (ev (iW<|S i) x) (ev (iW<|S i) y) (iW<|S i).H) hr;rw[Ce,Ce,akV]at h;cases h;exact⟨O,O⟩
   have⟨w',r1,r2⟩:=h1.mem.stored g hD hi FM pW aw ha1 hcl akV (by rw[anR,nA]) hwr (e.all x (by rw[z];simp[iI]))<|e.all y (by rw[z];simp[iI])
   have W:(execOp a.eval ops[i]).run P w=.ok .skip w':=by
    simp only[execOp,z,dD,r1,bR,dR]
   unfold Oper.wp;rw[W];exact J v undef m w' r2 (λ_ _ h=>h) (by rw[hv.1];exact .tuple [] [] .nil) Pm
  .exact XW<|.inl (by rw[hci,ec])
  .
   have⟨ob,e1,e2⟩:=abX (cf:=cf) (s:=iW<|S i) hf hr;have hA:=e2 ⟨.nil,nx S i,nx S i⟩ O
   have rh:RH (m.upto<|nx S i) ⟨.nil,nx S i,nx S i⟩ w:=by
    refine⟨λr l h=>(Mp.qD h).1,?_,?_⟩
    .intro r l h;have⟨o,ho⟩:=h1.mem.ZU r l (Mp.qD h).2;refine⟨o,ho,?_⟩;show wL _ _ ((Tr.nil:Tr nI).get .dead r) _;rw[Tr.get_nil];trivial
    .intro r r' l l' _ _ hd _ _;exact absurd (Tr.get_nil _ _) hd
   refine Mr aE (s:=⟨(S i).nl,(S i).nt,(S i).reg,(S i).tm,(S i).df,⟨.nil,nx S i,nx S i⟩⟩) rh am hA (ab1 e _) ?_;intro m2 v' w' I B h3;have bd:(ag i).k=5:=by rw[hci,ec];rfl
   have⟨m',f1,f2,f3⟩:=h1.mem.made g hD hi FM pW (A:=⟨.nil,nx S i,nx S i⟩) (A':=(R.mk .nil (nx S i)<|nx S i).new ob) O (by rw[an,e1];rfl) B h3 (.inl<|ax _) (by
    intro r a1 a2;rw[DF,e1,zR,zR]
    have:r=nx S i:=by
     rw[an,e1]at a2;have:r<nx S i+1:=a2;omega
    rw[jj this];exact(jj this).symm) N (.inr ⟨N,ax _⟩)
   exact J v v' m' w' f1 f2 (I.mono f3) Pm
  .exact XW<|.inr ⟨by rw[hci,ec];rfl,hlow⟩
  .
   have a8:(ag i).k=4:=by rw[hci,ec]
   have z:=ZW hs;rw[z]at hr;have a0:=qx (o:=xP P p.1 (ev (iW<|S i) p.2) (iW<|S i).H) hr;rw[Ce]at a0;have M:=e.all p.2 (by rw[z];simp[iI]);have a4:=M;rw[qY ha]at a4;have⟨l1,hm1,_,_,_⟩:=a4.vD;have Y:=Mp.qD hm1;have⟨ob,VC⟩:=h1.mem.ZU _ _ Y.2;have ar:(ag i).r=ad.block:=by rw[hci,ec]
   have aq:(ag i).off=ad.off:=by rw[hci,ec]
   have a7:(ag i).n=l.getD 1:=by rw[hci,ec]
   have⟨v',I,B⟩:=VE (P:=P) (w:=w) (ob:=ob) a0 M ha hl hm1 VC (by
    intro k aa q1 q2 q3;have ab:=g.anO hD hi FM pW a8 (k:=k) (by rw[aq];exact q1) (by rw[aq,a7];exact q2) (by rw[ar];exact Y.1);rw[ar]at ab;have E:=h1.mem.cnt (Z k) _ _ i ob N Y.2 ab VC;have E:Rel (Z k) (m.upto<|nx S i) l1 (.cell<|nK ((S i).H.obj ad.block) k) ob:=E;replace q3:nK ((S i).H.obj ad.block) k=Z aa:=q3;rw[q3]at E
    by_cases hlk:l1.lo<=k
    .exact E hlk
    .exfalso;have:=M;rw[qY ha]at this;have⟨l2,g1,g2,_⟩:=this.vD;rw[hm1]at g1;cases g1;omega)
   have W:(execOp a.eval ops[i]).run P w=.ok (.value v') w:=by
    simp only[execOp,z,dD,B,bR,dR]
   unfold Oper.wp;rw[W];refine J v v' m w (h1.mem.still hi λr bb=>g.same hi N N bb) (λ_ _ h=>h) (I.mono ap) Pm
end E
section E
variable{P:aX}{cf:mM}{S:Nat->St}
def left(ae:Nat)(listed:Array Bool):Nat:=((d_ ae).filter λj=>!(listed.getD j aA)).length
def filter_le(p q:Nat->Bool)(h:∀x,p x=f->q x=f):∀(l:D Nat),(l.filter p).length<=(l.filter q).length:=by
 intro l
 induction l with
 |nil=>exact ax _
 |cons y l e=>
  simp only[pX];cases hy:p y with
  |true=>rw[h y hy];simp only[lC,cO];omega
  |false=>
   simp only[dG,lN];split
   .simp only[cO];omega
   .exact e
def filter_lt(p q:Nat->Bool)(h:∀x,p x=f->q x=f):∀(l:D Nat)(y:Nat),y∈l->q y=f->p y=aA->(l.filter p).length<(l.filter q).length:=by
 intro l
 induction l with
 |nil=>intro y hy;cases hy
 |cons z l I=>
  intro y hy E B;simp only[pX];rcases bW.1 hy with e|hy
  .rw[<-e,E,B];have:=filter_le p q h l;simp only[lC,dG,lN,cO];omega
  .have:=I y hy E B;cases hz:p z with
   |true=>rw[h z hz];simp only[lC,cO];omega
   |false=>
    simp only[dG,lN];split
    .simp only[cO];omega
    .exact this
def ZZ(h:left ae listed=0):∀j,j<ae->listed.getD j aA=f:=by
 intro j e;have:=iL h;have z:=List.filter_eq_nil_iff.1 this j<|jR.2 e;simpa using z
def ab2(hs:listed.size=ae)(hi:i<ae)(hl:listed.getD i aA=aA):left ae (listed.setIfInBounds i f)<left ae listed:=by
 refine filter_lt _ _ ?_ _ i (jR.2 hi) (by rw[hl];rfl) ?_
 .intro x M;cases h:listed.getD x aA with
  |false=>rfl
  |true=>rw[getD_set_true h]at M;exact M
 .have:(listed.setIfInBounds i f).getD i aA=f:=by simp[hs,hi]
  rw[this];rfl
def VI(ae:Nat):left ae (my ae aA)<=ae:=by
 unfold left;have:=m_ (λj=>!((my ae aA).getD j aA))<|d_ ae;simpa using this
def any_ok(g:Rg P cf ops n nt S ag)(ap:Jf P n cf)(ao:Gl n m0)(KA:∀r l,m0 r=Z l->r<nx S 0)(HQ:∀ak m a w,(∀j,j<ops.size->ak j)->Inv ops nt S ag m0 w0 d0 ak m a w->H' .normal a w):
 ∀(E:Nat)(listed:Array Bool)(m:Mp)(a:Act)(w:cZ),listed.size=ops.size->left ops.size listed<=E->Closed ops (λj=>listed.getD j aA=f)->
  Inv ops nt S ag m0 w0 d0 (λj=>listed.getD j aA=f) m a w->wpAny P .any ops H' E listed a w:=by
 have ab:∀(listed:Array Bool),listed.size=ops.size->Region.ready .any ops listed=[]->∀j,j<ops.size->listed.getD j aA=f:=by
  intro listed z hr j
  induction j using Nat.strongRecOn with
  |_ j ih=>
   intro M;cases hl:listed.getD j aA with
   |true=>rfl
   |false=>
    have am:ops[j]?=Z ops[j]:=bI M
    have U:j∈Region.ready .any ops listed:=by
     rw[mem_ready];refine⟨by simp[z,M]at hl|-;exact hl,ops[j],am,λe Y W=>?_⟩;have ar:=Eg ops.toList 0 j ops[j] g.back (by rw[fC];exact am) e (om Y) W;exact ih e.on N N
    rw[hr]at U;cases U
 intro E
 induction E with
 |zero=>
  intro listed m a w z al hD h1;have I:=ZZ<|Nat.le_zero.1 al;refine⟨?_,HQ _ m a w I h1⟩;cases hr:Region.ready .any ops listed with
  |nil=>rfl
  |cons j l=>
   exfalso;have M:j∈Region.ready .any ops listed:=by rw[hr];exact aK ..
   rw[mem_ready]at M;have⟨B,o,ho,_⟩:=M;have ad:j<ops.size:=(eX.1 ho).1;have:=I j ad;simp[z,ad]at B this;rw[B]at this;cases this
 |succ E ih=>
  intro listed m a w z al hD h1;refine⟨λhr=>HQ _ m a w (ab listed z hr) h1,λi hi=>?_⟩;rw[mem_ready]at hi;have⟨B,o,ho,h3⟩:=hi;have J:i<ops.size:=(eX.1 ho).1
  have aq:ops[i]=o:=by
   have:=bI J;rw[ho]at this;injection this with this;exact this.symm
  subst aq;have an:listed.getD i aA=aA:=by simp[z,J]at B|-;exact B
  have V:∀j,((listed.setIfInBounds i f).getD j aA=f)<->Hu (λj=>listed.getD j aA=f) i j:=by
   intro j
   by_cases e:i=j
   .subst e;exact⟨λ_=>.inr O,λ_=>by simp[z,J]⟩
   .rw[getD_set_ne aA e];exact⟨.inl,λh=>h.resolve_right<|qI e⟩
  refine Inv.step g ap ao KA hD h1 J (by rw[an];simp) (λe Y W=>h3 e (om Y) W) ?_;intro m' a' w' I'
  have ac:(λj=>(listed.setIfInBounds i f).getD j aA=f)=Hu (λj=>listed.getD j aA=f) i:=by
   funext j;exact propext<|V j
  refine ih (listed.setIfInBounds i f) m' a' w' (om z) ?_ ?_ (by rw[ac];exact I')
  .have:=ab2 (ae:=ops.size) z J an;omega
  .intro j o M N8 e Y W;rcases(V j).1 N8 with h|h
   .exact getD_set_true<|hD j o M h e Y W
   .subst h;rw[ho]at M;cases M;exact getD_set_true<|h3 e (om Y) W
end E
section mem
variable{P:aX}
def af1(a5:P.follows .mixedOrders=f){cf:mM}(ap:Jf P n cf)(nt:Nat):Qy P cf n nt:=by
 intro id ops s m a w H' W ar an rh ay gl z;replace z:Post m s.H w a.defers nt s.df H' (b_ (lT ops&&qN ops) (xg ops<|jT P cf ops ops.toList (clear s) []) .fail):=z;cases hst:qN ops with
 |false=>rw[ar,hst]at z;exact z.elim
 |true=>
  rw[ar,hst]at z;replace z:Post m s.H w a.defers nt s.df H' (xg ops<|jT P cf ops ops.toList (clear s) []):=z;cases V:jT P cf ops ops.toList (clear s) []with
  |none=>rw[V]at z;exact z.elim
  |some q=>
   have⟨s1,cls⟩:=q;rw[V]at z;replace z:Post m s.H w a.defers nt s.df H' (b_ (kY ops cls) (.norm s1) .fail):=z;cases hdy:kY ops cls with
   |false=>rw[hdy]at z;exact z.elim
   |true=>
    rw[hdy]at z;replace z:To m s.H w a.defers nt s.df s1 (H' .normal):=z;rw[all_eq,fD]at W;have⟨S,ag,e0,eN,e3,e4,_,e6⟩:=trace ap (ops:=ops) (nt:=nt) ops.toList (clear s) s1 [] cls m a w W an rh ay.clear gl V;simp only[qo]at eN e3 e4;have al:∀(j:Nat)(o:Oper),ops[j]?=Z o->ops.toList[j]?=Z o:=λj o h=>by rw[fC];exact h
    have aw:=ZT hst
    have a3:∀j,j<ops.size->(ag j).k<=5:=by
     intro j U;have hs:=(e6 j _<|al j _<|bI U).1;generalize S (j+1)=s2 at hs;generalize ag j=c at hs;cases hs with
     |skip hw=>exact bD _
     |DU v hw V=>exact bD _
     |mem v Q hw V=>exact abP
    have g:Rg P cf ops n nt S ag:=by
     refine⟨λj o h=>(e6 j o<|al j o h).1,λj o h=>(e6 j o<|al j o h).2.1,λj o h=>(e6 j o<|al j o h).2.2,?_,aw.1,aw.2,?_⟩
     .intro j o h;exact W o<|aT<|al j o h
     .exact abQ hdy (om e3) e4 a3
    have Z0:nx S 0=s.H.bV:=by show(S 0).H.bV=_;rw[e0];rfl
    have SK:∀r,(S 0).H.obj r=s.H.obj r:=by intro r;rw[e0];rfl
    have KA:∀r l,m r=Z l->r<nx S 0:=λr l h=>by rw[Z0];exact rh.dom r l h
    have aE:∀k,k<=ops.size->Mp.le m (m.upto<|nx S k):=λk hk r l h=>Mp.Hr h<|aP (KA r l h)<|g.mono 0 k N hk
    have a0:∀j,j<=ops.size->(S j).df=s.df:=by
     intro j
     induction j with
     |zero=>intro _;rw[e0];rfl
     |succ j ih=>
      intro U;have hs:=g.step j _<|bI U;rw[<-ih N];generalize S (j+1)=s2 at hs;generalize ag j=c at hs;cases hs with
      |skip hw=>rw[Fb]
      |DU v hw V=>rw[Fb]
      |mem v Q hw V=>rw[Fb]
    have ao:(S ops.size).nt=nt:=by
     cases hz:ops.size with
     |zero=>rw[e0];exact an
     |succ k=>
      have U:k<ops.size:=N;have Y:=bI U;have hs:=g.step k _ Y;rw[<-g.nts k _ Y];generalize S (k+1)=s2 at hs;generalize ag k=c at hs;cases hs with
      |skip hw=>rw[zT]
      |DU v hw V=>rw[zT]
      |mem v Q hw V=>rw[zT]
    have E:∀j,((my ops.size aA).getD j aA=f)<->False:=by
     intro j;simp only[iG,Array.getElem?_replicate,iff_false];split<;>simp
    have Pk:∀κ r k,k<=ops.size->FL S ops.size (λj=>(my ops.size aA).getD j aA=f) κ r k->r<nx S 0->at' S κ r 0=at' S κ r k:=by
     intro κ r k hk M V;refine FL.eq g.mono N hk ⟨V,λj _ _ _=>?_⟩ M;rw[E];exact⟨λh=>h.elim,λh=>N⟩
    have hI:Inv ops nt S ag m w.drew a.defers (λj=>(my ops.size aA).getD j aA=f) m a w.drew:=by
     refine⟨⟨?_,?_,?_,?_,?_,?_,λ_ _ h=>h,?_,rfl,rfl,rfl,ax _,λ_ _ _=>rfl⟩,by rw[ay.size];exact an,?_,O⟩
     .exactλr l h=>.inl ⟨h,KA r l h⟩
     .intro r l h;have⟨o,ho,_⟩:=rh.ok r l h;exact⟨o,ho⟩
     .intro κ r l k o hk hm M ho;have⟨o',ho',hok⟩:=rh.ok r l hm
      have:o'=o:=by
       have I:w.heap[l.c]?=Z o:=ho;rw[ho']at I;injection I
      subst this;rw[<-SK]at hok;have ac:Rel κ m l (at' S κ r 0) o':=Rel.iB hok;rw[Pk κ r k hk M (KA r l hm)]at ac;exact ac.mono<|aE k hk
     .intro r r' l l' k k' I B h3 h4 h5 h6 h7 h8 h9;refine rh.sep r r' l l' I B ?_ ?_ h3
      .rw[<-SK];exact C6 (Pk T r k h4 h6<|KA r l I).symm h8
      .rw[<-SK];exact C6 (Pk T r' k' h5 h7<|KA r' l' B).symm h9
     .intro r r' l l' j I B _ U _ _;have hm:=g.mono 0 j N N;exact⟨λ_=>aP (KA r' l' B) hm,λ_=>aP (KA r l I) hm⟩
     .intro j r _ N8;exact((E j).1 N8).elim
     .intro r l h h0;rw[h]at h0;cases h0
     .intro t k hk M
      have ad:∀d,d<=k->jd (S d) t=jd (S 0) t:=by
       intro d
       induction d with
       |zero=>intro _;rfl
       |succ d ih=>
        intro hd;have U:d<ops.size:=N;have Y:ops[d]?=Z ops[d]:=bI U;rw[g.look Y t ?_,ih N];intro e;exact(E d).1<|(M d _ Y e).2 N
      rw[ad k (ax _),e0];exact(ay.clear.slot t).mono<|aE k hk
    refine wp_region_any a5 ?_;refine any_ok g ap gl KA ?_ ops.size (my ops.size aA) m a w.drew gB (VI _) (λj o _ h=>((E j).1 h).elim) hI;intro ak m' a' w' hD J;have am:∀κ r,r<nx S ops.size->FL S ops.size ak κ r ops.size:=λκ r V=>⟨V,λj U _ _=>⟨λ_=>U,λ_=>hD j U⟩⟩
    have XX:∀r l,m' r=Z l->r<nx S ops.size:=by
     intro r l h;rcases J.mem.dom r l h with⟨_,I⟩|⟨j,U,_,_,I⟩
     .exact aP I<|g.mono 0 _ N<|ax _
     .exact aP I<|g.mono _ _ N<|ax _
    have ab:∀r,r<nx S 0->m r=T->m' r=T:=by
     intro r V h;cases I:m' r with
     |none=>rfl
     |some l=>
      rcases J.mem.dom r l I with⟨B,_⟩|⟨j,U,_,B,_⟩
      .rw[h]at B;cases B
      .have:=g.mono 0 j N N;omega
    refine z m' a' w' ⟨⟨?_,?_⟩,⟨?_,?_,?_⟩,?_,J.de,?_,?_⟩
    .rw[<-eN,ao];exact J.size
    .intro t;rw[<-eN];refine(J.slot t ops.size (ax _) ?_).mono<|Mp.XO _ _;intro j o U _;have:j<ops.size:=(eX.1 U).1;exact⟨λ_=>this,λ_=>hD j this⟩
    .intro r l h;rw[<-eN];exact XX r l h
    .intro r l h;have⟨o,ho⟩:=J.mem.ZU r l h;rw[<-eN];exact⟨o,ho,(Rel.abS λκ=>J.mem.cnt κ r l ops.size o (ax _) h (am κ r<|XX r l h) ho).mono<|Mp.XO _ _⟩
    .intro r r' l l' h h' hd aq hc;rw[<-eN]at hd aq;exact J.mem.sep r r' l l' _ _ h h' hc (ax _) (ax _) (am T r<|XX r l h) (am T r'<|XX r' l' h') hd aq
    .have a2:Ex m m' s.H s1.H w.drew w':=by
      rw[<-eN];refine⟨J.mem.le,?_,?_,J.mem.os,J.mem.tape,J.mem.output,J.mem.size,J.mem.keep,?_,?_,?_,?_⟩
      .intro r l h h0;rcases J.mem.dom r l h with⟨B,_⟩|⟨j,U,_,B,_⟩
       .rw[h0]at B;cases B
       .rw[<-Z0];exact aR (g.mono 0 j N N) B
      .exact J.mem.fresh
      .rw[<-Z0];exact g.mono 0 _ N<|ax _
      .have:=g.low 0 ops.size N (ax _);rw[e0]at this;exact this
      .intro r I B
       have:∀d,d<=ops.size->(S d).H.obj r=s.H.obj r:=by
        intro d
        induction d with
        |zero=>intro _;exact SK r
        |succ d ih=>
         intro hd;rw[g.afY (j:=d) N (aP (by rw[Z0];exact I)<|g.mono 0 d N N) B,ih N]
       exact this ops.size<|ax _
      .intro r I B;have a4:=ab r (by rw[Z0];exact I) B
       have:∀d,d<=ops.size->(S d).H.obj r=s.H.obj r:=by
        intro d
        induction d with
        |zero=>intro _;exact SK r
        |succ d ih=>
         intro hd;rw[J.mem.hid d r N (hD d N) (aP (by rw[Z0];exact I)<|g.mono 0 d N N) a4,ih N]
       exact this ops.size<|ax _
     exact(Ex.drew m s.H w).trans a2
    .rw[<-eN];exact ao
    .rw[<-eN];exact a0 _<|ax _
def levels(z:P.follows .mixedOrders=f){X:Xt}(E:Ec P n)(hX:XOk P X)(B:Ml P X n)(k:Nat):QA P n (nX P X k):=
 (abL E hX B (λ_ e nt=>af1 z e nt) k).2.2
end mem
section mem
variable{P:aX}
def Ec.ab4(h:all' (abK n) P.funcs.toList=f):Ec P n:=by
 intro g fn e;rw[all_eq,fD]at h;exact h fn<|aT (by rw[fC];exact e)
end mem
def Mw(cf A_:mM):Prop:=∀g args H r,cf g args H=Z r->A_ g args H=Z r
def ab5(cx RX:Code->St->Out):Prop:=∀c s,cx c s≠.fail->RX c s=cx c s
section mem
variable{P:aX}
def ahu{o:aC (C×R)}(h:rm o≠.fail):∃r,o=Z r:=by
 cases o with
 |none=>exact absurd O h
 |some r=>exact⟨r,O⟩
def SL{cf:mM}(h:Mw cf A_){o:Op}(e:BK o P cf s≠.fail):BK o P A_ s=BK o P cf s:=by
 cases o with
 |call c=>
  replace e:Al c P cf s≠.fail:=e;show Al c P A_ s=Al c P cf s;have⟨callee,args,ats⟩:=c;cases callee with
  |builtin b=>rfl
  |value ay=>
   have⟨r,hr⟩:=ahu (o:=aN (qM (.value ay) P s) λq=>cf q.1 (app q.2.1<|app (mp (ev s) args.toList) q.2.2) s.H) e;show rm (aN (qM (.value ay) P s) λq=>A_ q.1 (app q.2.1<|app (mp (ev s) args.toList) q.2.2) s.H)=rm (aN (qM (.value ay) P s) λq=>cf q.1 (app q.2.1<|app (mp (ev s) args.toList) q.2.2) s.H);rw[hr];have⟨q,I,B⟩:=aL hr;rw[I];show rm (A_ _ _ _)=_;rw[h _ _ _ _ B]
  |invoke ay z=>
   have⟨r,hr⟩:=ahu (o:=aN (qM (.invoke ay z) P s) λq=>cf q.1 (app q.2.1<|app (mp (ev s) args.toList) q.2.2) s.H) e;show rm (aN (qM (.invoke ay z) P s) λq=>A_ q.1 (app q.2.1<|app (mp (ev s) args.toList) q.2.2) s.H)=rm (aN (qM (.invoke ay z) P s) λq=>cf q.1 (app q.2.1<|app (mp (ev s) args.toList) q.2.2) s.H);rw[hr];have⟨q,I,B⟩:=aL hr;rw[I];show rm (A_ _ _ _)=_;rw[h _ _ _ _ B]
 |_=>rfl
def Z4{cf:mM}(h:Mw cf A_)(hs:Fq P cf o s=Z s1):Fq P A_ o s=Z s1:=by
 unfold Fq at hs|-;cases hd:vz o.op with
 |some c=>rw[hd]at hs;exact hs
 |none=>
  rw[hd]at hs;replace hs:Ky o s (BK o.op P cf s)=Z s1:=hs;show Ky o s (BK o.op P A_ s)=Z s1;rw[SL h (by intro e;rw[e]at hs;cases hs)];exact hs
def JR{cf:mM}(h:Mw cf A_)(hs:pU P cf ops o s=Z s1):pU P A_ ops o s=Z s1:=by
 have⟨b,hb,B⟩:=aL hs;unfold pU;rw[hb];cases b with
 |true=>exact Z4 h B
 |false=>exact B
def JS{cf:mM}(h:Mw cf A_):∀{l:D Oper}{s s1:St},oM P cf ops l s=Z s1->oM P A_ ops l s=Z s1:=by
 intro l
 induction l with
 |nil=>intro s s1 hs;exact hs
 |cons o l e=>
  intro s s1 hs;replace hs:(aN (pU P cf ops o s) λs=>oM P cf ops l s)=Z s1:=hs;have⟨s2,I,B⟩:=aL hs;show(aN (pU P A_ ops o s) λs=>oM P A_ ops l s)=Z s1;rw[JR h I];exact e B
def Hw{cf:mM}(h:Mw cf A_){r:St×Cl}(hs:mV P cf ops o s=Z r):mV P A_ ops o s=Z r:=by
 have⟨b,hb,B⟩:=aL hs;unfold mV;rw[hb];cases b with
 |true=>
  replace B:JH P o s (BK o.op P cf<|iW s)=Z r:=B;show JH P o s (BK o.op P A_<|iW s)=Z r;rw[SL h (by intro e;rw[e]at B;cases B)];exact B
 |false=>exact B
def Hy{cf:mM}(h:Mw cf A_):∀{l:D Oper}{s:St}{acc:D Cl}{r:St×D Cl},jT P cf ops l s acc=Z r->jT P A_ ops l s acc=Z r:=by
 intro l
 induction l with
 |nil=>intro s acc r hs;exact hs
 |cons o l e=>
  intro s acc r hs;replace hs:(aN (mV P cf ops o s) λq=>jT P cf ops l q.1<|q.2::acc)=Z r:=hs;have⟨s2,I,B⟩:=aL hs;show(aN (mV P A_ ops o s) λq=>jT P A_ ops l q.1<|q.2::acc)=Z r;rw[Hw h I];exact e B
def SN{cf:mM}(h:Mw cf A_){d:Bool}(e:region P cf ops d s≠.fail):region P A_ ops d s=region P cf ops d s:=by
 cases d with
 |false=>
  replace e:JJ (oM P cf ops ops.toList<|clear s)≠.fail:=e;show JJ (oM P A_ ops ops.toList<|clear s)=JJ (oM P cf ops ops.toList<|clear s);cases hr:oM P cf ops ops.toList (clear s)with
  |none=>rw[hr]at e;exact absurd O e
  |some s1=>rw[JS h hr]
 |true=>
  replace e:b_ (lT ops&&qN ops) (xg ops<|jT P cf ops ops.toList (clear s) []) .fail≠.fail:=e;show b_ (lT ops&&qN ops) (xg ops<|jT P A_ ops ops.toList (clear s) []) .fail=b_ (lT ops&&qN ops) (xg ops<|jT P cf ops ops.toList (clear s) []) .fail;cases hb:(lT ops&&qN ops)with
  |false=>rfl
  |true=>
   rw[hb]at e;replace e:xg ops (jT P cf ops ops.toList (clear s) [])≠.fail:=e;show xg ops (jT P A_ ops ops.toList (clear s) [])=xg ops (jT P cf ops ops.toList (clear s) []);cases hr:jT P cf ops ops.toList (clear s) []with
   |none=>rw[hr]at e;exact absurd O e
   |some r=>rw[Hy h hr]
def HV{o o':Out}{k k':St->Out}(ho:o≠.fail->o'=o)(hk:∀s,k s≠.fail->k' s=k s)(e:andThen o k≠.fail):andThen o' k'=andThen o k:=by
 cases o with
 |fail=>exact absurd O e
 |norm s=>rw[ho gB];exact hk s e
 |exit i s=>rw[ho gB];rfl
 |goto l s=>rw[ho gB];rfl
 |ret s=>rw[ho gB];rfl
def Mx{ay e:St->Out}(B:∀s,ay s≠.fail->e s=ay s):∀(n n':Nat),n<=n'->∀s,zi n ay s≠.fail->zi n' e s=zi n ay s:=by
 intro n
 induction n with
 |zero=>intro n' _ s h;exact absurd O h
 |succ n E=>
  intro n' I s h;cases n' with
  |zero=>omega
  |succ n'=>
   show andThen (e s) (zi n' e)=andThen (ay s) (zi n ay);exact HV (B s) (λs' z=>E n' N s' z) h
def Eh(M:ab5 cx RX)(z:Code):∀(n n':Nat),n<=n'->∀o,pG cx n z o≠.fail->pG RX n' z o=pG cx n z o:=by
 intro n
 induction n with
 |zero=>intro n' _ o h;exact absurd O h
 |succ n I=>
  intro n' J o h;cases n' with
  |zero=>omega
  |succ n'=>
   cases o with
   |goto l s=>
    replace h:(@aQ Code (λ_=>Out) (.goto l s) (λB=>pG cx n z<|cx B s) (findLabel z l):Out)≠.fail:=h;show(@aQ Code (λ_=>Out) (.goto l s) (λB=>pG RX n' z<|RX B s) (findLabel z l):Out)=(@aQ Code (λ_=>Out) (.goto l s) (λB=>pG cx n z<|cx B s) (findLabel z l):Out);cases hf:findLabel z l with
    |none=>rfl
    |some B=>
     rw[hf]at h;replace h:pG cx n z (cx B s)≠.fail:=h;show pG RX n' z (RX B s)=pG cx n z (cx B s)
     have E:cx B s≠.fail:=by
      intro e;rw[e]at h;cases n with
      |zero=>exact h O
      |succ n=>exact h O
     rw[M B s E];exact I n' N _ h
   |_=>rfl
theorem Ji{cf:mM}(h:Mw cf A_)(M:ab5 cx RX)(N:n<=n'):∀(c:Code)(s:St),exec P cf cx n c s≠.fail->exec P A_ RX n' c s=exec P cf cx n c s:=by
 intro c
 induction c with
 |region id ops d=>intro s z;exact SN h z
 |seq a b B E=>
  intro s z;exact HV (o:=exec P cf cx n a s) (o':=exec P A_ RX n' a s) (k:=exec P cf cx n b) (k':=exec P A_ RX n' b) (B s) E z
 |cond c a b B E=>
  intro s z;replace z:JI (kT<|ev s c) (exec P cf cx n a s) (exec P cf cx n b s)≠.fail:=z;show JI (kT<|ev s c) (exec P A_ RX n' a s) (exec P A_ RX n' b s)=JI (kT<|ev s c) (exec P cf cx n a s) (exec P cf cx n b s);cases hb:kT (ev s c)with
  |none=>rfl
  |some U=>
   rw[hb]at z;cases U with
   |true=>exact B s z
   |false=>exact E s z
 |block id a J=>
  intro s z;replace z:zF id (exec P cf cx n a s)≠.fail:=z;show zF id (exec P A_ RX n' a s)=zF id (exec P cf cx n a s);rw[J s (by intro e;rw[e]at z;exact z O)]
 |loop a J=>intro s z;exact Mx J n n' N s z
 |scope a J=>
  intro s z;replace z:pG cx n a (exec P cf cx n a s)≠.fail:=z;show pG RX n' a (exec P A_ RX n' a s)=pG cx n a (exec P cf cx n a s)
  have I:exec P cf cx n a s≠.fail:=by
   intro e;rw[e]at z;cases n with
   |zero=>exact z O
   |succ n=>exact z O
  rw[J s I];exact Eh M a n n' N _ z
 |_=>intro s _;rfl
def SQ{X:Xt}{L L':Lv}(h:Mw L.ca L'.ca)(M:ab5 L.cx L'.cx)(E:n<=n'):Mw (CW P X L n) (CW P X L' n'):=by
 intro g args H r z;cases hor:X.o g args H with
 |some q=>rw[Ee hor]at z|-;exact z
 |none=>
 rw[zl hor]at z|-;have⟨fn,I,B⟩:=aL z;rw[I];show Zo P L' n' g (X g) fn args H=Z r;unfold Zo at B|-;cases hb:fn.body with
 |none=>rw[hb]at B;exact B
 |some c=>
  rw[hb]at B;have⟨h3,h4⟩:=gJ (b:=aD (len args) fn.ntmps) B;have⟨s,h5,h6⟩:=aL h4;show gd (aD (len args) fn.ntmps) (aN (Qf<|exec P L'.ca L'.cx n' c ⟨jZ P g,fn.ntmps,[],Tr.uS top args 0 .nil,[],H⟩) λs=>JK P fn s)=Z r;rw[h3,Ji h M E c _ (by intro e;rw[e]at h5;cases h5),h5];exact h6
def Bp{X:Xt}:∀(n n':Nat),n<=n'->Mw (lv P X n).ca (lv P X n').ca/\ab5 (lv P X n).cx (lv P X n').cx:=by
 intro n
 induction n with
 |zero=>intro n' _;exact⟨(λg args H r h=>by cases h),(λc s h=>absurd O h)⟩
 |succ n e=>
  intro n' z;cases n' with
  |zero=>omega
  |succ n'=>
   have⟨I,B⟩:=e n' N;exact⟨SQ I B N,λc s h=>Ji I B N c s h⟩
def Ca(P:aX)(X:Xt)(g:FuncId)(args:D C)(H:R)(v:C)(Q:R):Prop:=∃k,nX P X k g args H=Z (v,Q)
def IQ(P:aX)(X:Xt)(k:Nat)(c:Code)(s:St):Out:=exec P (lv P X k).ca (lv P X k).cx k c s
def Ev(P:aX)(X:Xt)(c:Code)(s:St)(o:Out):Prop:=o≠.fail/\∃k,IQ P X k c s=o
def Ro(P:aX)(X:Xt)(ops:Array Oper)(l:D Oper)(s s':St):Prop:=∃k,oM P (nX P X k) ops l s=Z s'
def RoD(P:aX)(X:Xt)(ops:Array Oper)(l:D Oper)(s:St)(acc:D Cl)(r:St×D Cl):Prop:=∃k,jT P (nX P X k) ops l s acc=Z r
variable{X:Xt}
def C9{o:Out}(h:IQ P X k c s=o)(ho:o≠.fail)(hk:k<=k'):IQ P X k' c s=o:=by
 rw[<-h];exact Ji (Bp k k' hk).1 (Bp k k' hk).2 hk c s (by show IQ P X k c s≠_;rw[h];exact ho)
section rules
variable{o:Out}{a b:Code}
def Ev.skip:Ev P X .skip s (.norm s):=⟨gB,0,O⟩
def Ev.label{l:Nat}:Ev P X (.label l) s (.norm s):=⟨gB,0,O⟩
def Ev.exit:Ev P X (.exit i) s (.exit i s):=⟨gB,0,O⟩
def Ev.ret:Ev P X .ret s (.ret s):=⟨gB,0,O⟩
def Ev.seq(I:Ev P X a s<|.norm s1)(B:Ev P X b s1 o):Ev P X (.seq a b) s o:=by
 have⟨n1,k1,I⟩:=I;have⟨n2,k2,B⟩:=B;refine⟨n2,max k1 k2,?_⟩;show andThen (IQ P X (max k1 k2) a s) (IQ P X (max k1 k2) b)=o;rw[C9 I n1 (nM _ _)];exact C9 B n2<|kE _ _
def Ev.af2(I:Ev P X a s<|.ret s1):Ev P X (.seq a b) s (.ret s1):=by
 have⟨n1,k1,I⟩:=I;refine⟨n1,k1,?_⟩;show andThen (IQ P X k1 a s) (IQ P X k1 b)=_;rw[I];rfl
def Ev.ab6(I:Ev P X a s<|.exit i s1):Ev P X (.seq a b) s (.exit i s1):=by
 have⟨n1,k1,I⟩:=I;refine⟨n1,k1,?_⟩;show andThen (IQ P X k1 a s) (IQ P X k1 b)=_;rw[I];rfl
def Ev.cond{x:cz}{t:Bool}(M:kT (ev s x)=Z t)(h:Ev P X (if t then a else b) s o):Ev P X (.cond x a b) s o:=by
 have⟨n1,k1,I⟩:=h;refine⟨n1,k1,?_⟩;show JI (kT<|ev s x) (IQ P X k1 a s) (IQ P X k1 b s)=o;rw[M];cases t with
 |true=>exact I
 |false=>exact I
def Ev.af3(I:Ev P X a s<|.norm s1)(B:Ev P X (.loop a) s1 o):Ev P X (.loop a) s o:=by
 have⟨n1,k1,I⟩:=I;have⟨n2,k2,B⟩:=B;refine⟨n2,max k1 k2+1,?_⟩;show andThen (IQ P X (max k1 k2+1) a s) (zi (max k1 k2)<|IQ P X (max k1 k2+1) a)=o;rw[C9 I n1 (aR (nM _ _)<|jr _)];show zi (max k1 k2) (IQ P X (max k1 k2+1) a) s1=o;replace B:zi k2 (IQ P X k2 a) s1=o:=B;rw[<-B];refine Mx ?_ k2 _ (kE _ _) s1 (by rw[B];exact n2);intro s2 e;exact C9 O e<|aR (kE _ _)<|jr _
def Ev.ab7(h:Ev P X a s<|.exit i s1):Ev P X (.loop a) s (.exit i s1):=by
 have⟨n1,k1,I⟩:=h;refine⟨n1,k1+1,?_⟩;show andThen (IQ P X (k1+1) a s) _=_;rw[C9 I n1 (jr _)];rfl
def Ev.ab8(h:Ev P X a s<|.ret s1):Ev P X (.loop a) s (.ret s1):=by
 have⟨n1,k1,I⟩:=h;refine⟨n1,k1+1,?_⟩;show andThen (IQ P X (k1+1) a s) _=_;rw[C9 I n1 (jr _)];rfl
def Ev.region{id:Nat}(h:Ro P X ops ops.toList (clear s) s1):Ev P X (.region id ops aA) s (.norm s1):=by
 have⟨k,h⟩:=h;refine⟨gB,k,?_⟩;show JJ (oM P (nX P X k) ops ops.toList<|clear s)=_;rw[h];rfl
def Ev.SS{id:Nat}(e:(lT ops&&qN ops)=f)(h:RoD P X ops ops.toList (clear s) [] (s1,cls))(hd:kY ops cls=f):Ev P X (.region id ops f) s (.norm s1):=by
 have⟨k,h⟩:=h;refine⟨gB,k,?_⟩;show b_ (lT ops&&qN ops) (xg ops<|jT P (nX P X k) ops ops.toList (clear s) []) .fail=_;rw[e];show xg ops (jT P (nX P X k) ops ops.toList (clear s) [])=_;rw[h];show b_ (kY ops cls) (Out.norm s1) Out.fail=_;rw[hd];rfl
def Ro.nil:Ro P X ops [] s s:=⟨0,O⟩
def So(P:aX)(X:Xt)(ops:Array Oper)(p:Oper)(s s':St):Prop:=∃k,pU P (nX P X k) ops p s=Z s'
def Ro.cons{p:Oper}{l:D Oper}(I:So P X ops p s s1)(B:Ro P X ops l s1 s2):Ro P X ops (p::l) s s2:=by
 have⟨k1,I⟩:=I;have⟨k2,B⟩:=B;refine⟨max k1 k2,?_⟩;show(aN (pU P (nX P X<|max k1 k2) ops p s) λs=>oM P (nX P X<|max k1 k2) ops l s)=_;rw[show pU P (nX P X<|max k1 k2) ops p s=Z s1 from JR (Bp k1 _<|nM k1 k2).1 I];exact JS (Bp k2 _<|kE k1 k2).1 B
def Ca.body(z:X.o g args H=T)(E:nth P.funcs.toList g=Z fn)(B:fn.body=Z c)(hl:aD (len args) fn.ntmps=f)(h:Ev P X c ⟨jZ P g,fn.ntmps,[],Tr.uS top args 0 .nil,[],H⟩ o)(ho:Qf o=Z s1)(e:aB (len s1.df) 0=f)(I:ny P s1 fn.results.toList=Z vs):Ca P X g args H (uI vs) s1.H:=by
 have⟨n1,k,h⟩:=h;refine⟨k+1,?_⟩;show CW P X (lv P X k) k g args H=_;rw[zl z,E];show Zo P (lv P X k) k g (X g) fn args H=_;unfold Zo;rw[B];show gd (aD (len args) fn.ntmps) (aN (Qf<|IQ P X k c ⟨jZ P g,fn.ntmps,[],Tr.uS top args 0 .nil,[],H⟩) λs=>JK P fn s)=_;rw[hl,h,ho];show JK P fn s1=_;unfold JK;rw[e,I];rfl
end rules
end mem
def XAt(P:aX)(g:FuncId)(c:Nat):Prop:=∀(fn:Func)(args:D C)(v:C)(H Q:R),P.funcs[g]?=Z fn->Zm P c fn.resultTypes.toList args H=Z (v,Q)->
 ∀m w args',RH m H w->mX m args args'->∃m' v' w',(callFunc g ⟨args'⟩).run P w=.ok (.value v') w'/\VR m' v v'/\RH m' Q w'/\Ex m m' H Q w w'
def XOk.of{P:aX}{X:Xt}(h:∀g,X g=0\/XAt P g (X g)):XOk P X:=by
 intro g fn args v H Q B _ M m w args' E z;rcases h g with e|I
 .rw[e]at M;cases M
 .exact I fn args v H Q B M m w args' E z
section mem
variable{P:aX}
def XAt.ab9{c:Nat}{e:Array C->Sem C}(hg:P.funcs[g]?=Z fn)(hname:(fn.name== "runtime.NumGoroutine")=aA)(hb:fn.body.isNone=f)(hn:Extern.findNext fn=T)(he:Extern.find fn=Z e)(h:∀(args:D C)(v:C)(H Q:R),Zm P c fn.resultTypes.toList args H=Z (v,Q)->∀m w args',RH m H w->mX m args args'->yt P m H w (e ⟨args'⟩) v Q):XAt P g c:=by
 intro fn' args v H Q hg' M m w args' rh ha;rw[hg]at hg';cases hg';have⟨m',v',w',I,B,h3,h4⟩:=h args v H Q M m w args' rh ha;refine⟨m',v',w',?_,B,h3,h4⟩;rw[run_callFunc_extern hg hname hb hn he,I];rfl
def XAt.same(hg:P.funcs[g]?=Z fn)(hname:(fn.name== "runtime.NumGoroutine")=aA)(hb:fn.body.isNone=f)(hn:Extern.findNext fn=T)(he:Extern.find fn=Z Extern.AbiNoEscape.same):XAt P g 1:=by
 refine XAt.ab9 hg hname hb hn he ?_;intro args v H Q h m w args' rh ha;replace h:(gd (aB (len args) 1)<|aN (nth args 0) λx=>Z (x,H))=Z (v,Q):=h;have⟨hl,h⟩:=gJ h;have⟨x,M,h⟩:=aL h;cases h;rw[qw]at M;rw[h_]at hl;have⟨v',I,B⟩:=afT (P:=P) (w:=w) (bA hl) M ha;exact⟨m,v',w,B,I,rh,Ex.refl _ _ _⟩
def XAt.index(hg:P.funcs[g]?=Z fn)(hname:(fn.name== "runtime.NumGoroutine")=aA)(hb:fn.body.isNone=f)(hn:Extern.findNext fn=T)(he:Extern.find fn=Z Extern.BytealgIndexByte.indexByte):XAt P g 3:=by
 refine XAt.ab9 hg hname hb hn he ?_;intro args v H Q h m w args' rh ha;replace h:(aN (Xy args) λx=>Z (U6<|zJ x.2 x.1.data.toList 0,H))=Z (v,Q):=h;have⟨q,hq,h⟩:=aL h;cases h;have⟨I,B⟩:=Qv (P:=P) (w:=w) hq ha;exact⟨m,_,w,B,I,rh,Ex.refl _ _ _⟩
end mem
def xm(ty:aI)(k:f_)(l:D Nat):nI:=.row ⟨ty,Tr.uS top (mp (λn=>a_ k<|Int.ofNat n) l) 0 .nil,len l,f,0⟩
def TabAt(w:cZ)(o:nI)(r:Nat):Prop:=o=.dead\/∃(ty:aI)(k:f_)(l:D Nat)(F:Array C)(fr:Nat×Nat),o=xm ty k l/\w.heap[r]?=Z (.cells F ty fr)/\∀(i z:Nat),l[i]?=Z z->F[i]?=Z (a_ k (z:Nat))
def ai7:nI->Nat
 |.row az=>az.n
 |_=>0
def C_(w:cZ)(r:Nat):Nat:=match w.heap[r]? with|some (.cells F _ _)=>F.size|_=>0
def Ba(w:cZ)(H:R):Mp:=λr=>if r<H.bV then Z ⟨r,0,0,C_ w r,ai7<|H.obj r⟩else T
section mem
variable{P:aX}
def XY(w:cZ)(H:R):Gl H.bV (Ba w H):=λg e=>⟨⟨g,0,0,C_ w g,ai7<|H.obj g⟩,by unfold Ba;rw[jj e],rfl,rfl,rfl⟩
def af4(h:H.bV<=w.heap.size)(ht:∀r,r<H.bV->TabAt w (H.obj r) r):RH (Ba w H) H w:=by
 refine⟨?_,?_,?_⟩
 .intro r l e;unfold Ba at e;split at e
  .next I=>exact I
  .cases e
 .intro r l e;unfold Ba at e;split at e
  .next I=>
   cases e;refine⟨w.heap[r]'N,bI (i:=r) N,?_⟩;rcases ht r I with B|⟨ty,k,l,F,fr,B,W,Y⟩
   .rw[B];trivial
   .have J:C_ w r=F.size:=by unfold C_;rw[W]
    have M:w.heap[r]'N=.cells F ty fr:=by
     have:=bI (xs:=w.heap) (i:=r) N;rw[W]at this;injection this with this;exact this.symm
    rw[M,B];show wL _ _ (xm ty k l) _
    have U:∀i,i<u l->i<F.size:=by
     intro i E;exact(eX.1<|Y i _<|av E).1
    have ab:u l<=F.size:=by
     rcases dH F.size (u l)with h5|h5
     .have:=U F.size h5;omega
     .exact h5
    refine⟨⟨O,O⟩,O,J.symm,bD _,?_,?_,?_⟩
    .show 0+(len l-0)<=C_ w r;rw[J,h_];omega
    .intro V;cases V
    .intro i _ E;have E:i<len l:=E;rw[h_]at E;refine⟨.int k (l[i]:Nat),?_,?_⟩
     .simp only[bB,mD];exact Y i _<|av E
     .show VR _ ((Tr.uS top (mp (λn=>a_ k<|Int.ofNat n) l) 0 .nil).get top i) _;rw[Tr.oh,G5,jj N7];rw[aW];simp[E];exact .sc _ O
  .cases e
 .intro r r' l l' e z _ _ hc;unfold Ba at e z;split at e
  .split at z
   .cases e;cases z;exact hc
   .cases z
  .cases e
def VJ{X:Xt}(J:P.follows .mixedOrders=f)(V:Ec P H.bV)(hX:XOk P X)(U:Ml P X H.bV)(hg:P.funcs[g]?=Z fn)(Y:fn.body.isSome=f)(h:nX P X k g args H=Z (v,Q))(E:H.bV<=Q.low)(hv:oZ v=f)(W:args.all oZ=f)(hw:H.bV<=w.heap.size)(ht:∀r,r<H.bV->TabAt w (H.obj r) r):
 Calls P g ⟨args⟩ w λe w'=>e=.returned v/\Go.RowKit.Below w.heap.size w w':=by
 refine(levels J V hX U k g args v _ Q fn h hg Y (Ba w H) w args (af4 hw ht) (XY w H)<|mX.oZ W).mono ?_;rintro e w' ⟨m',v',rfl,I,B,z⟩;rw[I.xR hv];refine⟨O,⟨z.os,z.tape,z.output,z.size,λc hc=>z.keep c hc ?_⟩⟩;intro r l M _;unfold Ba at M;split at M
 .next N=>exact aP N E
 .cases M
def acd(n:Nat)(b:Bool)(o:aC<|C×R):Bool:=@aQ (C×R) (λ_=>Bool) aA (λp=>(@aQ Bool (λ_=>Bool) aA (λx=>CE x b)<|kT p.1)&&aD n p.2.low) o
def ace{o:aC (C×R)}(h:acd n b o=f):∃Q,o=Z (.bool b,Q)/\n<=Q.low:=by
 cases o with
 |none=>cases h
 |some p=>
  replace h:((@aQ Bool (λ_=>Bool) aA (λx=>CE x b)<|kT p.1)&&aD n p.2.low)=f:=h;rw[bE]at h;cases hb:kT p.1 with
  |none=>rw[hb]at h;cases h.1
  |some x=>
   rw[hb]at h;have I:CE x b=f:=h.1;rw[L5,ni]at I;exact⟨p.2,by rw[<-I,<-qO hb],aF h.2⟩
end mem
def ah{a b:Prop}(x:a)(y:b):a/\b:=⟨x,y⟩
structure qg(s s':St):Prop where
 nl:s.nl=s'.nl
 nt:s.nt=s'.nt
 df:s.df=s'.df
 H:s.H=s'.H
 lk:∀t,jd s t=jd s' t
inductive CF:Out->Out->Prop where
 |fail:CF .fail .fail
 |norm {s s':St} (h:qg s s'):CF (.norm s) (.norm s')
 |exit (i:Nat) {s s':St} (h:qg s s'):CF (.exit i s) (.exit i s')
 |goto (l:Nat) {s s':St} (h:qg s s'):CF (.goto l s) (.goto l s')
 |ret {s s':St} (h:qg s s'):CF (.ret s) (.ret s')
def qg.look(h:qg s s'):jd s=jd s':=funext h.lk
def qg.ev(h:qg s s'):ev s=ev s':=by
 funext x;cases x with
 |tmp t=>exact congrFun h.look t
 |_=>rfl
def CF.refl(o:Out):CF o o:=by
 cases o with
 |fail=>exact .fail
 |norm s=>exact .norm ⟨O,O,O,O,λ_=>rfl⟩
 |exit i s=>exact .exit i ⟨O,O,O,O,λ_=>rfl⟩
 |goto l s=>exact .goto l ⟨O,O,O,O,λ_=>rfl⟩
 |ret s=>exact .ret ⟨O,O,O,O,λ_=>rfl⟩
def qg.Kw(h:qg s s'):Kw s=Kw s':=by
 funext x;cases x with
 |none=>rfl
 |some x=>exact eY Z<|congrFun h.ev x
def qg.Qd(h:qg s s'):Qd s=Qd s':=by
 funext ps;unfold Go.Ae.Qd;rw[h.ev]
def Ff(d:Nat)(v:C)(l:D<|Nat×C)(t:Nat):Go.Ae.look ((d,v)::l) t=if d=t then v else Go.Ae.look l t:=by
 show b_ (aB d t) v (Go.Ae.look l t)=_
 by_cases e:d=t
 .subst e;rw[show aB d d=f from dW d];simp[oU]
 .rw[show aB d t=aA from by rw[<-dw];exactλg=>e<|bA g,jx e];rfl
def wr(s:St)(d:Nat):Bool:=b_ (iP s.nl d) (aD (dh d) s.nt) f
def Ad(s:St)(d:Nat)(v:C)(H:R)(t:Nat):jd (sM s d v H) t=if d=t/\wr s d=f then v else jd s t:=by
 by_cases hb:iP s.nl d=f
 .have e:sM s d v H=⟨s.nl,s.nt,s.reg,b_ (aD (dh d) s.nt) (s.tm.set top d v) s.tm,s.df,H⟩:=by unfold sM;rw[hb];rfl
  have z:wr s d=aD (dh d) s.nt:=by unfold wr;rw[hb];rfl
  rw[e,z];show b_ (iP s.nl t) ((b_ (aD (dh d) s.nt) (s.tm.set top d v) s.tm).get top t) (Go.Ae.look s.reg t)=if d=t/\aD (dh d) s.nt=f then v else b_ (iP s.nl t) (s.tm.get top t) (Go.Ae.look s.reg t)
  by_cases hn:aD (dh d) s.nt=f
  .rw[hn];show b_ (iP s.nl t) ((s.tm.set top d v).get top t) (Go.Ae.look s.reg t)=_;rw[Tr.wU]
   by_cases e:d=t
   .subst e;rw[jj O,jj ⟨rfl,rfl⟩,hb];rfl
   .rw[jx (λh=>e h.symm),jx λh=>e h.1]
  .rw[dw]at hn;rw[hn,jx λh=>by cases h.2];rfl
 .rw[dw]at hb;have e:sM s d v H=⟨s.nl,s.nt,(d,v)::s.reg,s.tm,s.df,H⟩:=by unfold sM;rw[hb];rfl
  have z:wr s d=f:=by unfold wr;rw[hb];rfl
  rw[e,z];show b_ (iP s.nl t) (s.tm.get top t) (Go.Ae.look ((d,v)::s.reg) t)=if d=t/\f=f then v else b_ (iP s.nl t) (s.tm.get top t) (Go.Ae.look s.reg t)
  rw[Ff]
  by_cases e:d=t
  .subst e;rw[jj O,jj ⟨rfl,rfl⟩,hb];rfl
  .rw[jx e,jx λh=>e h.1]
def Lf(s:St)(d:Nat)(v:C)(H:R):(sM s d v H).nl=s.nl/\(sM s d v H).nt=s.nt/\(sM s d v H).df=s.df/\(sM s d v H).H=H:=by
 unfold sM;cases iP s.nl d<;>exact⟨O,O,O,O⟩
def qg.sM(h:qg s s')(d:Nat)(v:C)(H:R):qg (sM s d v H) (sM s' d v H):=by
 obtain⟨a1,e,z,B⟩:=Lf s d v H;obtain⟨E,I,J,M⟩:=Lf s' d v H;refine⟨a1.trans<|h.nl.trans E.symm,e.trans<|h.nt.trans I.symm,z.trans<|h.df.trans J.symm,B.trans M.symm,λt=>?_⟩;rw[Ad,Ad,h.lk];have:wr s d=wr s' d:=by unfold wr;rw[h.nl,h.nt]
 rw[this]
def qg.same(s:St)(t:Nat):qg s (Go.Ae.sM s t (jd s t) s.H):=by
 obtain⟨e,z,B,E⟩:=Lf s t (jd s t) s.H;refine⟨e.symm,z.symm,B.symm,E.symm,λI=>?_⟩;rw[Ad];split
 .next h=>rw[h.1]
 .rfl
def qg.kF(h:qg s s')(d:aC Nat)(v:C)(H:R):qg (kF s d v H) (kF s' d v H):=by
 cases d with
 |none=>exact⟨h.nl,h.nt,h.df,O,h.lk⟩
 |some d=>exact h.sM d v H
def F9(s:St)(t:Nat):jd (clear s) t=b_ (iP s.nl t) (jd s t) top:=by
 unfold jd;show b_ (iP s.nl t) (s.tm.get top t) (Go.Ae.look [] t)=_;cases iP s.nl t<;>rfl
def qg.clear(h:qg s s'):qg (clear s) (clear s'):=⟨h.nl,h.nt,h.df,h.H,λt=>by rw[F9,F9,h.nl,h.lk]⟩
def qg.iW(h:qg s s'):qg (iW s) (iW s'):=⟨h.nl,h.nt,h.df,by show R.mk _ _ _=R.mk _ _ _;rw[h.H],h.lk⟩
def qg.heap(h:qg s s')(d:D Deferred)(H:R):qg ⟨s.nl,s.nt,s.reg,s.tm,d,H⟩ ⟨s'.nl,s'.nt,s'.reg,s'.tm,d,H⟩:=⟨h.nl,h.nt,O,O,h.lk⟩
def qg.refl(s:St):qg s s:=⟨O,O,O,O,λ_=>rfl⟩
def qg.symm{s s':St}(h:qg s s'):qg s' s:=⟨h.nl.symm,h.nt.symm,h.df.symm,h.H.symm,λt=>(h.lk t).symm⟩
def qg.trans(h:qg s s')(B:qg s' s2):qg s s2:=⟨h.nl.trans B.nl,h.nt.trans B.nt,h.df.trans B.df,h.H.trans B.H,λt=>(h.lk t).trans<|B.lk t⟩
section mem
variable{P:aX}{cf:mM}
def qg.qM(h:qg s s')(c:Callee):qM c P s=qM c P s':=by
 cases c with
 |value ay=>show(aN (vFn<|Go.Ae.ev s ay) _)=_;rw[h.ev];rfl
 |invoke r n=>rfl
 |builtin b=>rfl
def qg.BK(h:qg s s')(o:Op):BK o P cf s=BK o P cf s':=by
 have e:=h.ev;have E:=h.Kw;have I:=h.Qd;have z:=h.H;cases o with
 |call c=>
  show Al c P cf s=Al c P cf s';unfold Al;rw[h.qM,e,z]
 |move x=>show R3.DU (Go.Ae.ev s x)=_;rw[e];rfl
 |assign x=>show R3.DU (Go.Ae.ev s x)=_;rw[e];rfl
 |pick c a b=>show rp (LP (Go.Ae.ev s c) (Go.Ae.ev s a)<|Go.Ae.ev s b)=_;rw[e];rfl
 |alloc t=>show rm (D4 P t s.H)=_;rw[z];rfl
 |box t x=>show rm (LU t (Go.Ae.ev s x) s.H)=_;rw[e,z];rfl
 |build t B=>show rp (CP P t<|Go.Ae.Qd s B)=_;rw[I];rfl
 |buildSlice t n B=>show rm (vv P t n (Go.Ae.Qd s B) s.H)=_;rw[I,z];rfl
 |load t x=>show rm (xP P t (Go.Ae.ev s x) s.H)=_;rw[e,z];rfl
 |store t x v=>show rm (Ak P t (Go.Ae.ev s x) (Go.Ae.ev s v) s.H)=_;rw[e,z];rfl
 |nilCheck x=>show rp (Qc<|Go.Ae.ev s x)=_;rw[e];rfl
 |binOp op t x y W=>show rp (mW P op t x y (Go.Ae.ev s x)<|Go.Ae.ev s y)=_;rw[e];rfl
 |unOp op t x=>show rp (lD<|Op.unary op<|Go.Ae.ev s x)=_;rw[e];rfl
 |convert a b x=>show rpm (DY P a b<|Go.Ae.ev s x) (rm<|wo P a b (Go.Ae.ev s x) s.H)=_;rw[e,z];rfl
 |makeFunc ay M J=>show rp (Z<|.func ay ⟨mp (Go.Ae.ev s) M.toList⟩ ⟨mp (Go.Ae.ev s) J.toList⟩)=_;rw[e];rfl
 |makeMap t r=>show rm (vw P t (Go.Ae.Kw s r) s.H)=_;rw[E,z];rfl
 |makeSlice t l c=>show rm (sK P t (Go.Ae.ev s l) (Go.Ae.ev s c) s.H)=_;rw[e,z];rfl
 |slice t x O N U=>show rp (BI P t (Go.Ae.ev s x) (Go.Ae.Kw s O) (Go.Ae.Kw s N)<|Go.Ae.Kw s U)=_;rw[e,E];rfl
 |fieldAddr t x ay=>show rp (ug P t (Go.Ae.ev s x) ay)=_;rw[e];rfl
 |field t x ay=>show rp (D3 P t (Go.Ae.ev s x) ay)=_;rw[e];rfl
 |indexAddr t x i=>show rp (uf P t (Go.Ae.ev s x)<|Go.Ae.ev s i)=_;rw[e];rfl
 |index t x i=>show rp (DZ P t (Go.Ae.ev s x)<|Go.Ae.ev s i)=_;rw[e];rfl
 |lookup t x k V=>show rm (uM P t (Go.Ae.ev s x) (Go.Ae.ev s k) V s.H)=_;rw[e,z];rfl
 |mapUpdate t m k v=>show rm (wV P t (Go.Ae.ev s m) (Go.Ae.ev s k) (Go.Ae.ev s v) s.H)=_;rw[e,z];rfl
 |extract t i=>show rp (wI (Go.Ae.ev s t) i)=_;rw[e];rfl
 |_=>rfl
def qg.CS(h:qg s s')(c:Call):CS c P s=CS c P s':=by
 unfold Go.Ae.CS;rw[h.ev]
inductive SEq:aC St->aC St->Prop where
 |none:SEq T T
 |some {s s':St} (h:qg s s'):SEq (Z s) (Z s')
def qg.uN(h:qg s s')(ops:Array Oper)(g:aC<|Nat×Bool):uN ops s g=uN ops s' g:=by
 cases g with
 |none=>rfl
 |some g=>
  show OW ops s g=OW ops s' g;unfold OW CR;rw[h.look]
def qg.Ky(h:qg s s')(o:Oper)(r:R3):SEq (Ky o s r) (Ky o s' r):=by
 cases r with
 |fail=>exact .none
 |DU v=>show SEq (kQ<|Go.Ae.kF s o.dst v s.H)<|kQ<|Go.Ae.kF s' o.dst v s'.H;rw[h.H];exact .some<|h.kF ..
 |mem v H=>exact .some<|h.kF ..
def qg.Fq(h:qg s s')(o:Oper):SEq (Fq P cf o s) (Fq P cf o s'):=by
 unfold Go.Ae.Fq;cases vz o.op with
 |none=>
  show SEq (Go.Ae.Ky o s<|Go.Ae.BK o.op P cf s)<|Go.Ae.Ky o s'<|Go.Ae.BK o.op P cf s';rw[h.BK];exact h.Ky ..
 |some c=>
  show SEq (aN (Go.Ae.CS c P s) _)<|aN (Go.Ae.CS c P s') _;rw[h.CS];cases Go.Ae.CS c P s' with
  |none=>exact .none
  |some d=>
   show SEq (kQ<|Go.Ae.kF ⟨s.nl,s.nt,s.reg,s.tm,d::s.df,s.H⟩ o.dst undef s.H)<|kQ<|Go.Ae.kF ⟨s'.nl,s'.nt,s'.reg,s'.tm,d::s'.df,s'.H⟩ o.dst undef s'.H;rw[h.df,h.H];exact .some<|(h.heap _ _).kF ..
def qg.pU(h:qg s s')(ops:Array Oper)(o:Oper):SEq (pU P cf ops o s) (pU P cf ops o s'):=by
 unfold Go.Ae.pU;rw[h.uN];cases Go.Ae.uN ops s' o.guard with
 |none=>exact .none
 |some b=>cases b with
  |true=>exact h.Fq o
  |false=>show SEq (kQ<|Go.Ae.kF s o.dst undef s.H)<|kQ<|Go.Ae.kF s' o.dst undef s'.H;rw[h.H];exact .some<|h.kF ..
def qg.oM(ops:Array Oper):∀(l:D Oper){s s':St},qg s s'->SEq (oM P cf ops l s) (oM P cf ops l s'):=by
 intro l
 induction l with
 |nil=>intro s s' h;exact .some h
 |cons o l e=>
  intro s s' h;show SEq (aN (Go.Ae.pU P cf ops o s)<|Go.Ae.oM P cf ops l)<|aN (Go.Ae.pU P cf ops o s')<|Go.Ae.oM P cf ops l;have:=h.pU (P:=P) (cf:=cf) ops o;generalize Go.Ae.pU P cf ops o s=a at this;generalize Go.Ae.pU P cf ops o s'=b at this;cases this with
  |none=>exact .none
  |some I=>exact e I
inductive DEq{α:Type}:aC (St×α)->aC (St×α)->Prop where
 |none:DEq T T
 |some {s s':St} (x:α) (h:qg s s'):DEq (Z (s,x)) (Z (s',x))
def qg.uB(h:qg s s')(o:Op)(H:R):uB P o s H=uB P o s' H:=by
 unfold Go.Ae.uB Bl;rw[h.ev,h.H]
def qg.mV(h:qg s s')(ops:Array Oper)(o:Oper):DEq (mV P cf ops o s) (mV P cf ops o s'):=by
 unfold Go.Ae.mV;rw[h.uN];cases Go.Ae.uN ops s' o.guard with
 |none=>exact .none
 |some b=>cases b with
  |true=>
   show DEq (JH P o s<|Go.Ae.BK o.op P cf<|Go.Ae.iW s)<|JH P o s'<|Go.Ae.BK o.op P cf<|Go.Ae.iW s';rw[h.iW.BK];cases Go.Ae.BK o.op P cf (Go.Ae.iW s')with
   |fail=>exact .none
   |DU v=>show DEq (kQ (Go.Ae.kF s o.dst v s.H,cl 0))<|kQ (Go.Ae.kF s' o.dst v s'.H,cl 0);rw[h.H];exact .some _<|h.kF ..
   |mem v H=>
    show DEq (kQ (Go.Ae.kF s o.dst v ⟨H.xI,H.bV,pV s.H.low H.low⟩,Go.Ae.uB P o.op s H))<|kQ (Go.Ae.kF s' o.dst v ⟨H.xI,H.bV,pV s'.H.low H.low⟩,Go.Ae.uB P o.op s' H);rw[h.uB,h.H];exact .some _<|h.kF ..
  |false=>show DEq (kQ (Go.Ae.kF s o.dst undef s.H,cl 0))<|kQ (Go.Ae.kF s' o.dst undef s'.H,cl 0);rw[h.H];exact .some _<|h.kF ..
def qg.jT(ops:Array Oper):∀(l:D Oper){s s':St}(acc:D Cl),qg s s'->DEq (jT P cf ops l s acc) (jT P cf ops l s' acc):=by
 intro l
 induction l with
 |nil=>intro s s' acc h;exact .some _ h
 |cons o l e=>
  intro s s' acc h;show DEq (aN (Go.Ae.mV P cf ops o s) λq=>Go.Ae.jT P cf ops l q.1<|q.2::acc)<|aN (Go.Ae.mV P cf ops o s') λq=>Go.Ae.jT P cf ops l q.1<|q.2::acc;have:=h.mV (P:=P) (cf:=cf) ops o;generalize Go.Ae.mV P cf ops o s=a at this;generalize Go.Ae.mV P cf ops o s'=b at this;cases this with
  |none=>exact .none
  |some x I=>exact e _ I
def qg.region(h:qg s s')(ops:Array Oper)(d:Bool):CF (region P cf ops d s) (region P cf ops d s'):=by
 cases d with
 |false=>
  show CF (JJ<|Go.Ae.oM P cf ops ops.toList<|Go.Ae.clear s)<|JJ<|Go.Ae.oM P cf ops ops.toList<|Go.Ae.clear s';have:=qg.oM (P:=P) (cf:=cf) ops ops.toList h.clear;generalize Go.Ae.oM P cf ops ops.toList (Go.Ae.clear s)=a at this;generalize Go.Ae.oM P cf ops ops.toList (Go.Ae.clear s')=b at this;cases this with
  |none=>exact .fail
  |some I=>exact .norm I
 |true=>
  show CF (b_ (lT ops&&qN ops) (xg ops<|Go.Ae.jT P cf ops ops.toList (Go.Ae.clear s) []) .fail)<|b_ (lT ops&&qN ops) (xg ops<|Go.Ae.jT P cf ops ops.toList (Go.Ae.clear s') []) .fail;cases(lT ops&&qN ops)with
  |false=>exact .fail
  |true=>
   show CF (xg ops<|Go.Ae.jT P cf ops ops.toList (Go.Ae.clear s) [])<|xg ops<|Go.Ae.jT P cf ops ops.toList (Go.Ae.clear s') [];have:=qg.jT (P:=P) (cf:=cf) ops ops.toList [] h.clear;generalize Go.Ae.jT P cf ops ops.toList (Go.Ae.clear s) []=a at this;generalize Go.Ae.jT P cf ops ops.toList (Go.Ae.clear s') []=b at this;cases this with
   |none=>exact .fail
   |some x I=>
    show CF (b_ (kY ops x) (.norm _) .fail)<|b_ (kY ops x) (.norm _) .fail;cases kY ops x with
    |true=>exact .norm I
    |false=>exact .fail
def CF.trans{a b c:Out}(h:CF a b)(B:CF b c):CF a c:=by
 cases h with
 |fail=>exact B
 |norm h=>cases B with|norm B=>exact .norm<|h.trans B
 |exit i h=>cases B with|exit _ B=>exact .exit i<|h.trans B
 |goto l h=>cases B with|goto _ B=>exact .goto l<|h.trans B
 |ret h=>cases B with|ret B=>exact .ret<|h.trans B
def acf{ay:St->Out}(e:∀s s',qg s s'->CF (ay s) (ay s')):∀n s s',qg s s'->CF (zi n ay s) (zi n ay s'):=by
 intro n
 induction n with
 |zero=>intro s s' _;exact .fail
 |succ n z=>
  intro s s' h;show CF (andThen (ay s)<|zi n ay)<|andThen (ay s')<|zi n ay;have:=e s s' h;generalize ay s=a at this;generalize ay s'=b at this;cases this with
  |fail=>exact .fail
  |norm I=>exact z _ _ I
  |exit i I=>exact .exit i I
  |goto l I=>exact .goto l I
  |ret I=>exact .ret I
def Z5(M:∀c s s',qg s s'->CF (cx c s) (cx c s'))(e:Code):∀n o o',CF o o'->CF (pG cx n e o) (pG cx n e o'):=by
 intro n
 induction n with
 |zero=>intro o o' _;exact .fail
 |succ n B=>
  intro o o' h;cases h with
  |fail=>exact .fail
  |norm I=>exact .norm I
  |exit i I=>exact .exit i I
  |ret I=>exact .ret I
  |goto l I=>
   rename_i s s';show CF (@aQ Code (λ_=>Out) (.goto l s) (λz=>pG cx n e<|cx z s)<|findLabel e l)<|@aQ Code (λ_=>Out) (.goto l s') (λz=>pG cx n e<|cx z s')<|findLabel e l;cases findLabel e l with
   |none=>exact .goto l I
   |some z=>exact B _ _<|M z _ _ I
theorem XZ(M:∀c s s',qg s s'->CF (cx c s) (cx c s'))(n:Nat)(c:Code):∀s s',qg s s'->CF (exec P cf cx n c s) (exec P cf cx n c s'):=by
 induction c with
 |skip=>intro s s' h;exact .norm h
 |region id ops d=>intro s s' h;exact h.region ops d
 |seq a b e z=>
  intro s s' h;show CF (andThen (exec P cf cx n a s)<|exec P cf cx n b)<|andThen (exec P cf cx n a s')<|exec P cf cx n b;have:=e s s' h;generalize exec P cf cx n a s=x at this;generalize exec P cf cx n a s'=y at this;cases this with
  |fail=>exact .fail
  |norm I=>exact z _ _ I
  |exit i I=>exact .exit i I
  |goto l I=>exact .goto l I
  |ret I=>exact .ret I
 |cond x a b e z=>
  intro s s' h;show CF (JI (kT<|ev s x) (exec P cf cx n a s)<|exec P cf cx n b s)<|JI (kT<|ev s' x) (exec P cf cx n a s')<|exec P cf cx n b s';rw[h.ev];cases kT (ev s' x)with
  |none=>exact .fail
  |some t=>cases t with
   |true=>exact e _ _ h
   |false=>exact z _ _ h
 |block id a B=>
  intro s s' h;show CF (zF id<|exec P cf cx n a s)<|zF id<|exec P cf cx n a s';have:=B s s' h;generalize exec P cf cx n a s=x at this;generalize exec P cf cx n a s'=y at this;cases this with
  |fail=>exact .fail
  |norm I=>exact .norm I
  |exit i I=>
   show CF (b_ (aB i id) _ _)<|b_ (aB i id) _ _;cases aB i id with
   |true=>exact .norm I
   |false=>exact .exit i I
  |goto l I=>exact .goto l I
  |ret I=>exact .ret I
 |loop a B=>intro s s' h;exact acf B n s s' h
 |scope a B=>intro s s' h;exact Z5 M a n _ _<|B s s' h
 |label l=>intro s s' h;exact .norm h
 |exit i=>intro s s' h;exact .exit i h
 |goto l=>intro s s' h;exact .goto l h
 |ret=>intro s s' h;exact .ret h
 |_=>intro s s' h;exact .fail
variable{X:Xt}
def akX(n:Nat):∀c s s',qg s s'->CF ((lv P X n).cx c s) ((lv P X n).cx c s'):=by
 induction n with
 |zero=>intro c s s' _;exact .fail
 |succ n e=>intro c s s' h;exact XZ e n c s s' h
def Ev.alike{o:Out}(B:qg s s')(h:Ev P X c s o):∃o',CF o o'/\Ev P X c s' o':=by
 obtain⟨e,k,z⟩:=h;have:=XZ (P:=P) (cf:=(lv P X k).ca) (akX (P:=P) (X:=X) k) k c s s' B;refine⟨IQ P X k c s',by rw[<-z];exact this,?_,k,O⟩;intro E;replace this:CF (IQ P X k c s) (IQ P X k c s'):=this;rw[E,z]at this;cases this;exact e O
def qg.ny(h:qg s s')(l:D ResultVar):ny P s l=ny P s' l:=by
 induction l with
 |nil=>rfl
 |cons r l e=>
  show(aN (EX P s r) λv=>aN (Go.Ae.ny P s l) λvs=>Z<|v::vs)=(aN (EX P s' r) λv=>aN (Go.Ae.ny P s' l) λvs=>Z<|v::vs);rw[e]
  have:EX P s r=EX P s' r:=by
   cases r with
   |tmp t=>show Z (jd s t)=Z (jd s' t);rw[h.look]
   |cell a t=>show(aN (xP P t (jd s a) s.H) _)=(aN (xP P t (jd s' a) s'.H) _);rw[h.look,h.H]
  rw[this]
end mem
end Go.Ae
