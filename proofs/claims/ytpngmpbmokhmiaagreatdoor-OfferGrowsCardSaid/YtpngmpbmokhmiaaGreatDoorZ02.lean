/-
  Part 02 of the proof. No condition.
-/
import Derived.Test.YtpngmpbmokhmiaaGreatDoorZ01
set_option linter.unusedVariables false
set_option linter.unusedSimpArgs false
set_option maxRecDepth 100000
set_option maxHeartbeats 4000000
set_option linter.defProp false
open Option renaming some->Z,none->T,rec->aP,some->kS
open Bool renaming true->F,false->aA
open Go renaming Value->D,TypeId->aH,Program->aX,World->cZ,Operand->cB,IntKind->gm
open Go.Value renaming int->bq,agg->dP,map->fK
open Nat renaming beq->aB,succ->dh,ble->aD,add->a_,sub->dQ
open List renaming length->J,range->dZ
open Go.Region renaming binds->g_
open Go.Sem renaming run_bind->dB,run_pure->dS
open Go.Result renaming andThen_ok->bT
open Go.Instr renaming sureAddr->kK
open Go.ByteArray renaming toList_eq->jb
open Go.Op renaming operands->iJ
open Go.Call renaming operands->mq
open Classical renaming choose->jM
open Array renaming replicate->my
noncomputable section
namespace Go.Ae
variable{ops:Array Oper}{H':Exit->Act->cZ->Prop}{s s' s1 s2:St}{m m' m0 m1 m2:Mp}{ag:Nat->Prop}{ae es i j k k' n n' nt r:Nat}{a a1:Act}{K next:Act->cZ->Prop}{v v' x':D}{o p:Oper}{w w' w0 w1:cZ}{A H Q H0:R}{d ld κ:aC Nat}{l:Loc}{args args' vs:C D}{ρ:cB->D}{ob L9:Obj}{b:Bool}{ak:Nat->Cl}{d0 df:C Deferred}{cx RX:Code->St->Out}{g:FuncId}{L:C cB}{fn:Func}{c:Code}{Bj:mJ}{f listed:Array Bool}{x y:Cl}{cs:D->D->Bool}{q:aC (D×R)}{t ty:aH}{ats:C aH}{o':nE}{cls:C Cl}{α:Type}
section mem
variable{P:aX}
def afU(hl:J args=1)(I:args[0]?=Z v)(z:mX m args args'):
 ∃v',VR m v v'/\(Extern.AbiNoEscape.same ⟨args'⟩).run P w=.ok v' w:=by
 obtain⟨v',e,E⟩:=z.get 0 I;have u:J args'=1:=by rw[<-z.length,hl]
 have B:args'=[v']:=by
  match args',u,e with
  |[y],_,e=>cases e;rfl
 subst B;exact⟨v',E,O⟩
def abw(c:Nat)(z:c<=255):∀(l:C UInt8)(k:Nat),(zU c l k=T/\Lib.indexByte l c.toUInt8=-1)\/∃j,zU c l k=Z (k+j)/\Lib.indexByte l c.toUInt8=j:=by
 intro l
 induction l with
 |nil=>intro k;exact .inl ⟨O,O⟩
 |cons b l u=>
  intro k
  have e:aB b.toNat c=(b==c.toUInt8):=by
   rw[iD,ni];constructor
   .intro h;have:=bA h;rw[<-this];simp
   .intro h;rw[h];have W:c.toUInt8.toNat=c:=by simp;omega
    rw[W];exact dW c
  show(cr (aB b.toNat c) (Z k) (zU c l<|k+1)=T/\_)\/∃j,cr (aB b.toNat c) (Z k) (zU c l<|k+1)=Z (k+j)/\_;rw[e];cases hh:(b==c.toUInt8)with
  |true=>exact .inr ⟨0,O,by simp[Lib.indexByte,hh]⟩
  |false=>
   rcases u (k+1)with⟨I,W⟩|⟨j,I,W⟩
   .exact .inl ⟨I,by simp[Lib.indexByte,hh,W]⟩
   .refine .inr ⟨j+1,by show zU c l (k+1)=_;rw[I];congr 1;omega,?_⟩;have:((j:Int)==-1)=aA:=by rw[um];omega
    simp[Lib.indexByte,hh,W,this]
theorem abx{q:aZ×Nat}(h:Xp args=Z q)(M:mX m args args'):args'=[.string q.1,.int .u8 q.2]/\q.2<=255:=by
 obtain⟨s,hs,h⟩:=aM h;obtain⟨b,Y,h⟩:=aM h;obtain⟨c,V,h⟩:=aM h;obtain⟨p,hp,h⟩:=aM h;obtain⟨n,hn,h⟩:=aM h;obtain⟨B,h⟩:=gN h;cases h;rw[qw]at hs V;simp only[bE,ig]at B;have hl:=bA B.2;have U:=aF B.1.2;obtain⟨s',E,e⟩:=M.get 0 hs;obtain⟨W,I,u⟩:=M.get 1 V;have N:J args'=2:=by rw[<-M.length,hl]
 have he:args'=[s',W]:=by
  match args',N,E,I with
  |[y,z],_,E,I=>cases E;cases I;rfl
 rw[qY Y]at e;rw[rZ hp,Qm hn]at u;have:=e.xX;subst this;have:=u.of_int;subst this
 have hk:p.1=.u8:=by
  have:=B.1.1;cases hp1:p.1<;>rw[hp1]at this<;>first|rfl|(simp[KA]at this)
 rw[he,hk];exact⟨O,U⟩
def QB{q:aZ×Nat}(h:Xp args=Z q)(z:mX m args args'):
 VR m (U0<|zU q.2 q.1.data.toList 0) (U0<|zU q.2 q.1.data.toList 0)/\(Extern.BytealgIndexByte.indexByte ⟨args'⟩).run P w=.ok (U0<|zU q.2 q.1.data.toList 0) w:=by
 obtain⟨rfl,u⟩:=abx h z;have e:=Lib.run_indexByteString (P:=P) q.1 (q.2:Int) w;rw[kX]at e;rcases abw q.2 u q.1.data.toList 0 with⟨I,W⟩|⟨j,I,W⟩
 .rw[I];rw[W]at e;exact⟨.sc _ O,e⟩
 .rw[I,bB];rw[W]at e;exact⟨.sc _ O,e⟩
end mem
section mem
variable{P:aX}
def aby(V:RH m H w){s d:aH}{x:D}(h:wC P s d x H=Z (v,Q))(M:VR m x x'):yC P m H w (convert s d x') v Q:=by
 obtain⟨q,u,h⟩:=aM h
 replace u:(aN (P.underlying s) λx=>aN (P.underlying d) λy=>
  cr (DL x) (aN (Se P d) λq=>Z (1,q)) (cr (DL y) (aN (Se P s) λq=>Z (2,q))
   (cr (G8 y) (aN (G7 x) λe=>Z (3,e,0))<|cr (G8 x) (aN (G7 y) λe=>Z (4,e,0)) T)))=Z q:=u
 obtain⟨E,O,I⟩:=aM u;clear u;obtain⟨B,N,u⟩:=aM I;clear I;cases I:DL E with
 |true=>
  rw[I]at u;obtain⟨q1,U,z⟩:=aM u;cases z;obtain⟨hu,_⟩:=C5 U;have h:FX P q1 x H=Z (v,Q):=h;exact Ss V h M O hu
 |false=>
  rw[I]at u
  replace u:(cr (DL B) (aN (Se P s) λq=>Z (2,q))
   (cr (G8 B) (aN (G7 E) λe=>Z (3,e,0))<|cr (G8 E) (aN (G7 B) λe=>Z (4,e,0)) T))=Z q:=u
  cases W:DL B with
  |true=>
   rw[W]at u;obtain⟨q1,U,z⟩:=aM u;cases z;obtain⟨hu,_⟩:=C5 U;have h:FY P q1 x H=Z (v,Q):=h;exact Su V h M hu (by rw[N,Hf W])
  |false=>
   rw[W]at u;replace u:(cr (G8 B) (aN (G7 E) λe=>Z (3,e,0))<|cr (G8 E) (aN (G7 B) λe=>Z (4,e,0)) T)=Z q:=u;cases h3:G8 B with
   |true=>
    rw[h3]at u;obtain⟨e,Y,z⟩:=aM u;cases z;have h:LU P e x H=Z (v,Q):=h;exact Ji V h M (by rw[O,K8 Y]) h3 N
   |false=>
    rw[h3]at u;replace u:(cr (G8 E) (aN (G7 B) λe=>Z (4,e,0)) T)=Z q:=u;cases h4:G8 E with
    |false=>rw[h4]at u;cases u
    |true=>
     rw[h4]at u;obtain⟨e,Y,z⟩:=aM u;cases z;have h:LV P e x H=Z (v,Q):=h;exact Jj V h M h4 O (by rw[N,K8 Y])
end mem
section mem
variable{P:aX}
def yQ{o:aC D}(h:rp o=.DN v):o=Z v:=by
 cases o with
 |none=>cases h
 |some x=>cases h;rfl
def Vn{o:aC D}(h:rp o=.mem v H):False:=by cases o<;>cases h
def qx{o:aC (D×R)}(h:rm o=.mem v H):o=Z (v,H):=by
 cases o with
 |none=>cases h
 |some x=>cases h;rfl
def C9{o:aC (D×R)}(h:rm o=.DN v):False:=by cases o<;>cases h
def XD{o:aC D}(h:rpm o (rm q)=.DN v):o=Z v:=by
 cases o with
 |none=>exact(C9 (o:=q) h).elim
 |some x=>cases h;rfl
def XE{o:aC D}(h:rpm o (rm q)=.mem v H):q=Z (v,H):=by
 cases o with
 |none=>exact qx (o:=q) h
 |some x=>cases h
structure QC(m:Mp)(s:St)(ρ:cB->D)(L:C cB):Prop where
 all:∀x,x∈L->VR m (ev s x) (ρ x)
def QC.IV(e:QC m s ρ L)(x:cB)(h:x∈L:=by simp[iJ,mq]):VR m (ev s x) (ρ x):=e.all x h
def QC.list(e:QC m s ρ L):∀l:C cB,(∀x,x∈l->x∈L)->mX m (mp (ev s) l) (l.map ρ)
 |[],_=>.nil
 |x::l,h=>.cons _ _ _ _ (e.all x<|h x<|gD)<|e.list l λy u=>h y (by simp[u])
def QC.opt(e:QC m s ρ L):∀o:aC cB,(∀x,x∈o->x∈L)->OR m (KB s o) (o.map ρ)
 |none,_=>.nn
 |some x,h=>.ss _ _<|e.all x<|h x O
def QC.pairs(e:QC m s ρ L)(ps:Array<|Nat×cB)(h:∀x,x∈ps.toList->x.2∈L):PRs m (Qk s ps) (ps.map λ(i,x)=>(i,ρ x)).toList:=by
 obtain⟨l⟩:=ps
 have:∀l:C<|Nat×cB,(∀x,x∈l->x.2∈L)->PRs m (mp (λp=>(p.1,ev s p.2)) l) (l.map λ(i,x)=>(i,ρ x)):=by
  intro l
  induction l with
  |nil=>intro _;exact .nil
  |cons x l z=>intro h;exact .cons _ _ _ _ _ (e.all x.2<|h x<|gD)<|z λy u=>h y (by simp[u])
 simpa [Qk]using this l h
def afV(P:aX)(m:Mp)(v:D)(s:Sem Next):Prop:=∃v',VR m v v'/\∀w,s.run P w=.ok (.value v') w
def uU{s:Sem D}(h:VR m v v')(hs:∀w,s.run P w=.ok v' w):afV P m v (do pure (.value (<-s))):=
 ⟨v',h,λw=>by simp[hs]⟩
theorem Sz{b:Builtin}(h:Cg b ats args P H=.DN v)(e:mX m args args'):
 afV P m v (builtin b ⟨ats⟩ ty f ⟨args'⟩):=by
 cases b
 case len=>
  have h:=XD (o:=one (LP P) ats args) (q:=LW P ats args H) h;obtain⟨I,W⟩:=afM (t:=ty) h e;exact uU I W
 case max=>
  have h:=yQ (o:=UZ F args) h;obtain⟨v',I,W⟩:=abf (P:=P) (ats:=⟨ats⟩) (t:=ty) h e;exact uU I W
 case min=>
  have h:=yQ (o:=UZ aA args) h;obtain⟨v',I,W⟩:=abf (P:=P) (ats:=⟨ats⟩) (t:=ty) h e;exact uU I W
 case append=>exact(C9 (o:=EZ P ats args H) h).elim
 case copy=>exact(C9 (o:=OX P ats args H) h).elim
 case clear=>exact(C9 (o:=Jb P ats args H) h).elim
 all_goals first|cases h|exact(C9 (o:=G_ args H) h).elim|exact(C9 (o:=yL P ats args H) h).elim
theorem QD{cf:mJ}(h:Aa o.op P cf s=.DN v)(e:QC m s ρ o.op.operands.toList)(Y:∀c,ρ (.const c)=c):afV P m v (execOp ρ o):=by
 cases hop:o.op
 case move x=>
  rw[hop]at h e;cases h;exact⟨ρ x,e.all x<|by simp[iJ,mq],λw=>by simp[execOp,hop]⟩
 case assign x=>
  rw[hop]at h e;cases h;exact⟨ρ x,e.all x<|by simp[iJ,mq],λw=>by simp[execOp,hop]⟩
 case pick c a b=>
  rw[hop]at h e;have h:=yQ (o:=LM (ev s c) (ev s a)<|ev s b) h;obtain⟨v',I,W⟩:=afJ (P:=P) h (e.IV c) (e.IV a)<|e.IV b;have:=uU I W;refine⟨v',I,λw=>?_⟩;have W:=W w;simp only[execOp,hop];simp only[dB]at W|-;cases hr:(asBool<|ρ c).run P w with
  |ok V w'=>rw[hr]at W;simp only[bT,dS]at W|-;cases W;rfl
  |halt x w'=>rw[hr]at W;cases W
 case build t ps=>
  rw[hop]at h e;have h:=yQ (o:=CS P t<|Qk s ps) h;obtain⟨v',I,W⟩:=abl h<|e.pairs ps (by intro x M;simp[iJ];exact⟨x.1,by simpa using M⟩);have:afV P m v (do pure (.value (<-Instr.build t (ps.map λ(i,x)=>(i,ρ x))))):=uU I W;simp only[execOp,hop];exact this
 case nilCheck x=>
  rw[hop]at h e;have h:=yQ (o:=Qj<|ev s x) h;obtain⟨I,W⟩:=Sl (P:=P) h (e.IV x) ρ o x hop O;exact⟨_,I,W⟩
 case binOp op t x y z=>
  rw[hop]at h e;have h:=yQ (o:=mW P op t x y (ev s x)<|ev s y) h;obtain⟨I,W⟩:=aiO h (e.IV x) (e.IV y) (λc M=>by subst M;rfl) (λc U=>by subst U;rfl);have:=uU I W;simpa [execOp,hop]using this
 case unOp op t x=>
  rw[hop]at h e;have h:=yQ (o:=lH<|Op.unary op<|ev s x) h;obtain⟨I,W⟩:=afK (P:=P) h<|e.IV x;have:=uU I W;simpa [execOp,hop]using this
 case convert a b x=>
  rw[hop]at h e;have h:=XD (o:=D7 P a b<|ev s x) (q:=wC P a b (ev s x) s.H) h;obtain⟨I,W⟩:=afL h<|e.IV x;have:=uU I W;simpa [execOp,hop]using this
 case makeFunc cs E B=>
  rw[hop]at h e;cases h;refine⟨.func cs (E.map ρ)<|B.map ρ,?_,λw=>by simp[execOp,hop,Instr.makeFunc]⟩;obtain⟨E⟩:=E;obtain⟨B⟩:=B;have:=VR.func cs _ _ _ _ (e.list E (by intro x M;simp[iJ,mq,M]))<|e.list B (by intro x M;simp[iJ,mq,M]);simpa using this
 case slice t x lo hi mx=>
  rw[hop]at h e;have h:=yQ (o:=BQ P t (ev s x) (KB s lo) (KB s hi)<|KB s mx) h;obtain⟨v',I,W⟩:=abj h (e.IV x) (e.opt lo (by intro x M;simp[iJ]at M|-;simp[M])) (e.opt hi (by intro x M;simp[iJ]at M|-;simp[M]))<|e.opt mx (by intro x M;simp[iJ]at M|-;simp[M]);have:=uU I W;simpa [execOp,hop]using this
 case fieldAddr t x cs=>
  rw[hop]at h e;have h:=yQ (o:=uy P t (ev s x) cs) h;obtain⟨v',I,W⟩:=Qu h<|e.IV x;have:=uU I W;simpa [execOp,hop]using this
 case field t x cs=>
  rw[hop]at h e;have h:=yQ (o:=D9 P t (ev s x) cs) h;obtain⟨v',I,W⟩:=aa8 h<|e.IV x;have:=uU I W;simpa [execOp,hop]using this
 case indexAddr t x i=>
  rw[hop]at h e;have h:=yQ (o:=uw P t (ev s x)<|ev s i) h;obtain⟨v',I,W⟩:=Qt h (e.IV x)<|e.IV i;have:=uU I W;simpa [execOp,hop]using this
 case index t x i=>
  rw[hop]at h e;have h:=yQ (o:=D8 P t (ev s x)<|ev s i) h;obtain⟨v',I,W⟩:=aa7 h (e.IV x)<|e.IV i;have:=uU I W;simpa [execOp,hop]using this
 case extract t i=>
  rw[hop]at h e;have h:=yQ (o:=wN (ev s t) i) h;obtain⟨v',I,W⟩:=U_ (P:=P) h<|e.IV t;have:=uU I W;simpa [execOp,hop]using this
 case call c=>
  rw[hop]at h e;replace h:zx c P cf s=.DN v:=h;obtain⟨u,⟨args⟩,ats⟩:=c;cases u with
  |value cs=>exact(C9 h).elim
  |invoke r n=>exact nomatch(show(R3.fail:R3)=.DN _ from h)
  |builtin b=>
   have h:Cg b ats.toList (mp (ev s) args) P s.H=.DN v:=h
   obtain⟨f,N⟩:∃f,∀w,(execOp ρ o).run P w=(builtin b ⟨ats.toList⟩ o.type f ⟨args.map ρ⟩).run P w:=
    ⟨args.toArray.map λ|.const _=>F|_=>aA,λw=>by
     simp only[execOp,hop,resolve,invoke,dB,dS,bT,wh];rfl⟩
   obtain⟨v',I,W⟩:=Sz (P:=P) (ty:=o.type) (f:=f) h<|e.list args (by intro x M;simp[iJ,mq,M]);exact⟨v',I,λw=>by rw[N,W]⟩
 all_goals(rw[hop]at h;first|cases h|exact(C9 h).elim|skip)
end mem
section mem
variable{P:aX}
def Gl(n:Nat)(m:Mp):Prop:=∀g,g<n->∃l,m g=Z l/\l.c=g/\l.lo=0/\l.base=0
def Gl.mono{n:Nat}{m m':Mp}(h:Gl n m)(u:Mp.le m m'):Gl n m':=λg e=>let⟨l,a,b⟩:=h g e;⟨l,u _ _ a,b⟩
def Jk(P:aX)(n:Nat)(cf:mJ):Prop:=∀g args v H Q,cf g args H=Z (v,Q)->∀m w args',RH m H w->Gl n m->mX m args args'->
 ∀(o:Oper)(a:Act)(next:Act->cZ->Prop)(H':Exit->Act->cZ->Prop),
  (∀m' v' w',VR m' v v'->RH m' Q w'->Ex m m' H Q w w'->next (a.put o.dst v') w')->o.upon P a next H' ((callFunc g ⟨args'⟩).run P w)
def su{s:Sem D}(h:yC P m H w s v Q)(K:∀m' v' w',VR m' v v'->RH m' Q w'->Ex m m' H Q w w'->next (a.put o.dst v') w'):o.upon P a next H' ((do pure (.value (<-s)):Sem Next).run P w):=by
 obtain⟨m',e,w',I,W,u,z⟩:=h;have:(do pure (.value (<-s)):Sem Next).run P w=.ok (.value e) w':=by simp[I]
 rw[this];exact K m' e w' W u z
def Pe{s:Sem Unit}(h:v=undef/\∃w',s.run P w=.ok () w'/\RH m Q w'/\Ex m m H Q w w')(K:∀m' v' w',VR m' v v'->RH m' Q w'->Ex m m' H Q w w'->next (a.put o.dst v') w'):o.upon P a next H' ((do s;pure .skip:Sem Next).run P w):=by
 obtain⟨rfl,w',I,e,u⟩:=h;have:(do s;pure .skip:Sem Next).run P w=.ok .skip w':=by simp[I]
 rw[this];exact K m undef w' (.tuple [] [] .nil) e u
def F6{s:Sem D}(z:RH m H w)(e:Q=H)(h:VR m v v')(u:s.run P w=.ok v' w):yC P m H w s v Q:=by
 subst e;exact⟨m,v',w,u,h,z,Ex.refl _ _ _⟩
theorem SA{b:Builtin}(u:RH m H w)(h:Cg b ats args P H=.mem v Q)(z:mX m args args')(K:∀m' v' w',VR m' v v'->RH m' Q w'->Ex m m' H Q w w'->next (a.put o.dst v') w'):o.upon P a next H' ((builtin b ⟨ats⟩ ty f ⟨args'⟩).run P w):=by
 cases b
 case append=>exact su (ZA u (qx (o:=EZ P ats args H) h) z) K
 case copy=>exact su (afT u (qx (o:=OX P ats args H) h) z) K
 case clear=>exact su (abv u (qx (o:=Jb P ats args H) h) z) K
 case len=>
  have h:=XE (o:=one (LP P) ats args) (q:=LW P ats args H) h;obtain⟨e,I,W⟩:=afP (t:=ty) u h z;exact su (F6 u e I W) K
 case max=>exact(Vn (o:=UZ F args) h).elim
 case min=>exact(Vn (o:=UZ aA args) h).elim
 all_goals first
  |cases h
  |exact su (ZD (λ_ _ _ _ _=>rfl) (λ_ _ _ _ _ _=>rfl) u (qx (o:=G_ args H) h) z) K
  |exact su (Sy ⟨_,_,_,_,_,λ_ _ _ _ _=>rfl⟩ u (qx (o:=yL P ats args H) h) z) K
theorem XF{cf:mJ}(u:RH m s.H w)(h:Aa o.op P cf s=.mem v Q)(e:QC m s ρ o.op.operands.toList)(B:∀c,o.op=.call c->isBuiltin c.callee=T->o.upon P a next H' ((execOp ρ o).run P w))(K:∀m' v' w',VR m' v v'->RH m' Q w'->Ex m m' s.H Q w w'->next (a.put o.dst v') w'):o.upon P a next H' ((execOp ρ o).run P w):=by
 cases hop:o.op
 case alloc t=>
  rw[hop]at h e;simp only[execOp,hop];exact su (abo u<|qx h) K
 case box t x=>
  rw[hop]at h e;simp only[execOp,hop];exact su (aiS u (qx h)<|e.IV x) K
 case buildSlice t n ps=>
  rw[hop]at h e;simp only[execOp,hop];exact su (Vf u (qx h)<|e.pairs ps (by intro x M;simp[iJ];exact⟨x.1,by simpa using M⟩)) K
 case mapUpdate t x k y=>
  rw[hop]at h e;simp only[execOp,hop];exact Pe (Zx u (qx h) (e.IV x) (e.IV k)<|e.IV y) K
 case load t x=>
  rw[hop]at h e;simp only[execOp,hop];obtain⟨I,v',W,E⟩:=Xy u (qx h)<|e.IV x;exact su (F6 u I W E) K
 case store t x y=>
  rw[hop]at h e;simp only[execOp,hop];exact Pe (abn u (qx h) (e.IV x)<|e.IV y) K
 case convert c d x=>
  rw[hop]at h e;simp only[execOp,hop];exact su (aby u (XE (o:=D7 P c d<|ev s x) (q:=wC P c d (ev s x) s.H) h)<|e.IV x) K
 case makeMap t r=>
  rw[hop]at h e;simp only[execOp,hop];exact su (Vi u (qx h)<|e.opt r (by intro x M;simp[iJ]at M|-;simp[M])) K
 case makeSlice t l c=>
  rw[hop]at h e;simp only[execOp,hop];exact su (Qx u (qx h) (e.IV l)<|e.IV c) K
 case lookup t x k ok=>
  rw[hop]at h e;simp only[execOp,hop];obtain⟨I,v',W,E⟩:=Zv u (qx h) (e.IV x)<|e.IV k;exact su (F6 u I W E) K
 case call c=>
  rw[hop]at h e;cases hb:isBuiltin c.callee with
  |none=>exact B c hop hb
  |some b=>
   obtain⟨z,⟨args⟩,ats⟩:=c;cases z with
   |value cs=>cases hb
   |invoke r n=>cases hb
   |builtin b=>
    have h:Cg b ats.toList (mp (ev s) args) P s.H=.mem v Q:=h
    obtain⟨f,N⟩:∃f,∀w,(execOp ρ o).run P w=(builtin b ⟨ats.toList⟩ o.type f ⟨args.map ρ⟩).run P w:=
     ⟨args.toArray.map λ|.const _=>F|_=>aA,λw=>by
      simp only[execOp,hop,resolve,invoke,dB,dS,bT,wh];rfl⟩
    rw[N];exact SA u h (e.list args (by intro x M;simp[iJ,mq,M])) K
 all_goals(rw[hop]at h;first|cases h|exact(Vn h).elim)
end mem
section mem
variable{P:aX}
def SC{cf:mJ}(E:Jk P n cf)(O:Gl n m){cs:cB}{args:C cB}{ats:Array aH}(rh:RH m s.H w)(z:o.op=.call ⟨.value cs,⟨args⟩,ats⟩)(h:zx ⟨.value cs,⟨args⟩,ats⟩ P cf s=.mem v Q)(e:QC m s ρ o.op.operands.toList)(K:∀m' v' w',VR m' v v'->RH m' Q w'->Ex m m' s.H Q w w'->next (a.put o.dst v') w'):o.upon P a next H' ((execOp ρ o).run P w):=by
 replace h:rm (aN (aN (vFn<|ev s cs) λq=>aN (fFn q.1) λg=>Z (g,q.2)) λq=>cf q.1 (app q.2.1<|app (mp (ev s) args) q.2.2) s.H)=.mem v Q:=h;replace h:=qx h;obtain⟨q,B,h⟩:=aM h;obtain⟨p,W,B⟩:=aM B;obtain⟨g,U,B⟩:=aM B;cases B;rw[z]at e;have I:=e.all cs (by simp[iJ,mq]);rw[Qn W,Qo U]at I;obtain⟨p0,p1,p2⟩:=p;obtain⟨x',N,V,M,hy⟩:=I.aa6
 have u:mX m (app p1<|app (mp (ev s) args) p2) (x'++(args.map ρ++N)):=by
  rw[uq,uq];exact M.append<|(e.list args (by intro x M;simp[iJ,mq,M])).append hy
 have:=E _ _ _ _ _ h m w _ rh O u o a next H' K
 have Y:(execOp ρ o).run P w=(callFunc g ⟨x'++(args.map ρ++N)⟩).run P w:=by
  simp only[execOp,z,resolve,V,Deferred.ofValue,invoke,dB,dS,bT,wh];congr 2;rw[<-jN];simp
 rw[Y];exact this
end mem
section mem
variable{P:aX}
end mem
def F7(n:Nat)(x:cB):Bool:=@Operand.rec (λ_=>Bool) (λ_=>F) (λv=>o7 v) (λg=>aD (dh g) n) (λ_=>F) x
def Mi(nt:Nat)(d:aC Nat):Bool:=@aP Nat (λ_=>Bool) F (λd=>aD (dh d) nt) d
def yR(n nt:Nat)(o:Oper):Bool:=all' (F7 n) o.op.operands.toList&&Mi nt o.dst
section mem
variable{P:aX}
structure FR(m:Mp)(s:St)(a:Act):Prop where
 size:a.tmps.size=s.nt
 slot:∀t,VR m (jc s t)<|a.tmps.getD t undef
def FR.mono{m m':Mp}{s:St}{a:Act}(h:FR m s a)(e:Mp.le m m'):FR m' s a:=⟨h.size,λt=>(h.slot t).mono e⟩
def FR.ev(h:FR m s a)(g:Gl n m)(e:all' (F7 n) L=F):QC m s a.eval L:=by
 refine⟨λx M=>?_⟩;rw[all_eq]at e;have M:=fE.1 e x M;cases x with
 |tmp t=>exact h.slot t
 |const v=>exact .sc v M
 |global k=>
  obtain⟨l,I,W,u,z⟩:=g k<|aF M;have:=VR.ptr (m:=m) k 0 l I N;rw[W,u,z]at this;exact this
 |func cs=>exact .func (.func cs) [] [] [] [] .nil .nil
def FR.put(h:FR m s a)(hd:Mi s.nt d=F)(B:VR m v v'):FR m (jY s d v Q) (a.put d v'):=by
 cases d with
 |none=>exact⟨h.size,h.slot⟩
 |some d=>
  have hd:d<s.nt:=aF hd
  have z:∀t,(a.tmps.setIfInBounds d v').getD t undef=if t=d then v' else a.tmps.getD t undef:=by
   intro t
   by_cases e:t=d
   .subst e;rw[if_pos O];simp[Array.getD,h.size,hd]
   .rw[if_neg e];simp only[iH];rw[lC (qJ e)]
  show FR m (sM s d v Q) {a with tmps:=a.tmps.setIfInBounds d v'};unfold sM;cases hb:iR s.nl d with
  |true=>
   show FR m ⟨s.nl,s.nt,s.reg,cr (aD (dh d) s.nt) (s.tm.set top d v) s.tm,s.df,Q⟩ _;rw[show aD (dh d) s.nt=F from aG hd];refine⟨by simpa using h.size,λt=>?_⟩;rw[z];have u:=h.slot t;unfold jc at u|-;simp only at u|-
   by_cases e:t=d
   .subst e;rw[if_pos O,hb];show VR m ((s.tm.set top t v).get top t) v';rw[Tr.w9,if_pos O];exact B
   .rw[if_neg e];cases hbt:iR s.nl t with
    |true=>
     rw[hbt]at u;show VR m ((s.tm.set top d v).get top t) _;rw[Tr.w9,if_neg e];exact u
    |false=>rw[hbt]at u;exact u
  |false=>
   show FR m ⟨s.nl,s.nt,(d,v)::s.reg,s.tm,s.df,Q⟩ _;refine⟨by simpa using h.size,λt=>?_⟩;rw[z];have u:=h.slot t;unfold jc at u|-;simp only at u|-
   by_cases e:t=d
   .subst e;rw[if_pos O,hb];show VR m (cr (aB t t) v<|look s.reg t) v';rw[show aB t t=F from dW t];exact B
   .rw[if_neg e];cases hbt:iR s.nl t with
    |true=>rw[hbt]at u;exact u
    |false=>
     rw[hbt]at u;show VR m (cr (aB d t) v<|look s.reg t) _;rw[show aB d t=aA from by rw[<-dn];exactλg=>e (bA g).symm];exact u
end mem
section mem
variable{P:aX}
def abz(h:isU v=F):v=.tuple #[]:=by
 cases v with
 |tuple l=>
  obtain⟨l⟩:=l;have h:aB (len l) 0=F:=h;have h:=bA h;rw[ig]at h;rw[jf h]
 |_=>simp[isU,aaU]at h
def abA{y:aC Bool}(cs:FR m s a)(h:CW ops s j=Z y):yielded ops a.tmps j=y:=by
 obtain⟨o,u,h⟩:=aM h;obtain⟨t,B,h⟩:=aM h;rw[qw,fD]at u;have hs:=cs.slot t
 have I:yielded ops a.tmps j=match a.tmps[t]? with|some (.bool b)=>Z b|_=>T:=by
  unfold yielded;rw[u];show(match(o.dst).bind (a.tmps[·]?)with|some (.bool b)=>Z b|_=>T)=_;rw[B];rfl
 rw[I];cases hb:kV (jc s t)with
 |some b=>
  rw[hb]at h;replace h:Z (Z b)=Z y:=h;cases h;rw[qN hb]at hs;have hs:=hs.of_bool;rw[iH]at hs;cases hq:a.tmps[t]? with
  |none=>rw[hq]at hs;cases hs
  |some x=>rw[hq]at hs;replace hs:x=.bool b:=hs;rw[hs]
 |none=>
  rw[hb]at h;replace h:(gd (isU<|jc s t)<|Z (T:aC Bool))=Z y:=h;obtain⟨z,h⟩:=gN h;cases h;rw[abz z]at hs;obtain⟨M,e,E⟩:=VR.Qp (x:=[]) hs;cases E;rw[iH]at e;cases hq:a.tmps[t]? with
  |none=>rfl
  |some x=>rw[hq]at e;replace e:x=.tuple ⟨[]⟩:=e;rw[e]
def afW(cs:FR m s a)(h:sU ops s o.guard=Z b):Region.wanted o (yielded ops a.tmps)=b:=by
 unfold Region.wanted;cases hg:o.guard with
 |none=>rw[hg]at h;cases h;rfl
 |some p=>
  rw[hg]at h;replace h:(aN (CW ops s p.1) λy=>Z<|@aP Bool (λ_=>Bool) aA (λb=>CK b p.2) y)=Z b:=h;obtain⟨y,u,h⟩:=aM h;cases h;obtain⟨j,e⟩:=p;simp only;rw[abA cs u];cases y with
  |none=>rfl
  |some c=>cases c<;>cases e<;>rfl
end mem
section mem
variable{P:aX}
def put_defers(a:Act)(d:aC Tmp)(v:D):(a.put d v).defers=a.defers:=by cases d<;>rfl
def nA(s:St)(d:aC Nat)(v:D)(H:R):(jY s d v H).H=H:=by
 cases d with
 |none=>rfl
 |some d=>show(sM s d v H).H=H;unfold sM;cases iR s.nl d<;>rfl
def Ad(s:St)(d:aC Nat)(v:D)(H:R):(jY s d v H).nt=s.nt:=by
 cases d with
 |none=>rfl
 |some d=>show(sM s d v H).nt=s.nt;unfold sM;cases iR s.nl d<;>rfl
def Fg(s:St)(d:aC Nat)(v:D)(H:R):(jY s d v H).df=s.df:=by
 cases d with
 |none=>rfl
 |some d=>show(sM s d v H).df=s.df;unfold sM;cases iR s.nl d<;>rfl
def afX{cf:mJ}(M:Jk P n cf)(N:RH m s.H w)(cs:FR m s a)(U:Gl n m)(u:yR n s.nt o=F)(hd:tJ o.op=T)(h:Bi P cf o s=Z s1)(K:∀m' a' w',FR m' s1 a'->RH m' s1.H w'->Ex m m' s.H s1.H w w'->a'.defers=a.defers->next a' w'):o.wp P a w next H':=by
 unfold Bi at h;rw[hd]at h;replace h:F3 o s (Aa o.op P cf s)=Z s1:=h;unfold yR at u;simp only[bE]at u;have e:=cs.ev U u.1;unfold Oper.wp;cases z:Aa o.op P cf s with
 |fail=>rw[z]at h;cases h
 |DN v=>
  rw[z]at h;replace h:Z (jY s o.dst v s.H)=Z s1:=h;cases h;obtain⟨v',I,W⟩:=QD z e λ_=>rfl;rw[W w];have hf:FR m (jY s o.dst v s.H) (a.put o.dst v'):=cs.put u.2 I;exact K m _ w hf (by rw[nA];exact N) (by rw[nA];exact Ex.refl _ _ _)<|put_defers _ _ _
 |mem v Q=>
  rw[z]at h;replace h:Z (jY s o.dst v Q)=Z s1:=h;cases h
  have O:∀m' v' w',VR m' v v'->RH m' Q w'->Ex m m' s.H Q w w'->next (a.put o.dst v') w':=by
   intro m' v' w' I W V;exact K m' _ w' ((cs.mono V.le).put u.2 I) (by rw[nA];exact W) (by rw[nA];exact V)<|put_defers _ _ _
  refine XF N z e ?_ O;intro c E hb;rw[E]at z;replace z:zx c P cf s=.mem v Q:=z;obtain⟨B,⟨args⟩,ats⟩:=c;cases B with
  |value g=>exact SC M U N E z e O
  |invoke r Y=>exact nomatch(show(R3.fail:R3)=.mem _ _ from z)
  |builtin b=>cases hb
end mem
section mem
variable{P:aX}
def ZH{cf:mJ}(al:Jk P n cf)(M:all' (yR n nt) ops.toList=F)(ad:all' (λo=>fQ<|tJ o.op) ops.toList=F):
 ∀(l:C Oper)(k:Nat)(m:Mp)(s s1:St)(a:Act)(w:cZ),ops.toList.drop k=l->s.nt=nt->RH m s.H w->FR m s a->Gl n m->oK P cf ops l s=Z s1->
 (∀m' a' w',FR m' s1 a'->RH m' s1.H w'->Ex m m' s.H s1.H w w'->a'.defers=a.defers->s1.nt=nt->s1.df=s.df->H' .normal a' w')->
 wpOps P ops H' (List.range' k<|J l) a w:=by
 intro l
 induction l with
 |nil=>
  intro k m s s1 a w _ u rh cs gl h K;cases h;exact K m a w cs rh (Ex.refl _ _ _) O u O
 |cons o l ih=>
  intro k m s s1 a w hl u rh cs gl h K
  have hk:ops[k]?=Z o:=by
   rw[<-fD];have:=fq List.head? hl;rw[List.head?_drop]at this;exact this
  have N:o∈ops.toList:=aV (by rw[fD];exact hk)
  have z:ops.toList.drop (k+1)=l:=by
   rw[<-List.tail_drop,hl];rfl
  rw[all_eq]at M ad;have ho:=fE.1 M o N;have hd:=fE.1 ad o N
  have hd:tJ o.op=T:=by
   cases hc:tJ o.op with
   |none=>rfl
   |some c=>rw[hc]at hd;cases hd
  replace h:(aN (aN (sU ops s o.guard) λb=>cr b (Bi P cf o s)<|Z<|jY s o.dst undef s.H) λs=>oK P cf ops l s)=Z s1:=h;obtain⟨s2,I,W⟩:=aM h;obtain⟨b,hb,e⟩:=aM I;have hw:=afW cs hb;rw[cO,List.range'_succ];show wpOps P ops H' (k::List.range' (k+1) (J l)) a w;rw[wpOps_cons];unfold wpOp;rw[hk];simp only[hw];cases b with
  |true=>
   replace e:Bi P cf o s=Z s2:=e;simp only[lG];left
   have ab:s2.nt=s.nt/\s2.df=s.df:=by
    unfold Bi at e;rw[hd]at e;replace e:F3 o s (Aa o.op P cf s)=Z s2:=e;cases hr:Aa o.op P cf s with
    |fail=>rw[hr]at e;cases e
    |DN v=>rw[hr]at e;replace e:Z (jY s o.dst v s.H)=Z s2:=e;cases e;exact⟨Ad _ _ _ _,Fg _ _ _ _⟩
    |mem v Q=>rw[hr]at e;replace e:Z (jY s o.dst v Q)=Z s2:=e;cases e;exact⟨Ad _ _ _ _,Fg _ _ _ _⟩
   refine afX al rh cs gl (by rw[u];exact ho) hd e ?_;intro m' a' w' f' an ac am;refine ih (k+1) m' s2 s1 a' w' z (by rw[ab.1,u]) an f' (gl.mono ac.le) W ?_;intro m2 a2 w2 f2 Y B U V E;exact K m2 a2 w2 f2 Y (ac.trans B) (by rw[U,am]) V (by rw[E,ab.2])
  |false=>
   replace e:Z (jY s o.dst undef s.H)=Z s2:=e;cases e;simp only[dG,lQ];unfold yR at ho;simp only[bE]at ho;have f':FR m (jY s o.dst undef s.H) (a.put o.dst undef):=cs.put (by rw[u];exact ho.2)<|.tuple [] [] .nil;refine ih (k+1) m _ s1 _ w z (by rw[Ad,u]) (by rw[nA];exact rh) f' gl W ?_;intro m2 a2 w2 f2 Y B U V E;rw[nA]at B;rw[Fg]at E;exact K m2 a2 w2 f2 Y B (by rw[U,put_defers]) V E
end mem
section rules
variable{P:aX}
def least{p:Nat->Prop}(h:∃n,p n):∃n,p n/\∀k,k<n->¬p k:=by
 obtain⟨n,u⟩:=h
 induction n using Nat.strongRecOn with
 |_ n B=>
  by_cases M:∃k,k<n/\p k
  .obtain⟨k,I,W⟩:=M;exact B k I W
  .exact⟨n,u,λk e z=>M ⟨k,e,z⟩⟩
theorem ZI(az:Nat->Act->cZ->Prop)(U:∀a w,¬az 0 a w)(hs:∀n a w,az (n+1) a w->c.wp P (Exit.then (az n) H') a w)(h:az n a w):(Code.loop c).wp P H' a w:=by
 classical
 refine wp_loop (λa w=>∃n,az n a w) (λa w=>if h:∃n,az n a w then jM (least h)else 0) ⟨n,h⟩ ?_;intro a w z;have I:=mZ<|least z;have V:(if h:∃n,az n a w then jM (least h)else 0)=jM (least z):=dif_pos z;rw[V];generalize jM (least z)=k0 at I;cases k0 with
 |zero=>exact(U a w I.1).elim
 |succ k=>
  refine wp_mono (hs k a w I.1) ?_;intro e O w' E;cases e with
  |normal=>
   have u:∃n,az n O w':=⟨k,E⟩;refine⟨u,?_⟩;have B:(if h:∃n,az n O w' then jM (least h)else 0)=jM (least u):=dif_pos u;rw[B];have M:=mZ<|least u;exact rX<|p8 λN=>M.2 k N E
  |_=>exact E
def abB(aa:Nat->Act->cZ->Prop)(H':Exit->Act->cZ->Prop):Exit->Act->cZ->Prop
 |.goto l,a,w=>aa l a w
 |e,a,w=>H' e a w
theorem Vp(az:Nat->Nat->Act->cZ->Prop)(hs:∀n l a w,az n l a w->(∃n' rest,n=n'+1/\findLabel c l=Z rest/\rest.wp P (abB (az n') H') a w)\/(findLabel c l=T/\H' (.goto l) a w))(first:c.wp P (abB (az n) H') a w):(Code.scope c).wp P H' a w:=by
 intro b k f
 have Y:∀n l a w,az n l a w->∀E,(∀k',gotoIn l (.inScope c::k)=Z k'->Steps P E (lone (b.at a k') f w))->∃e a' w',H' e a' w'/\Arrives P E b k f e a' w':=by
  intro n
  induction n with
  |zero=>
   intro l a w V E U;rcases hs 0 l a w V with⟨n',rest,I,_⟩|⟨I,W⟩
   .cases I
   .exact⟨_,a,w,W,λk' N=>U k'<|by simp[gotoIn,I,N]⟩
  |succ n ih=>
   intro l a w V E U;rcases hs (n+1) l a w V with⟨n',rest,I,W,h3⟩|⟨I,W⟩
   .cases I;obtain⟨e,u,B,M,z⟩:=h3 b (.inScope c::k) f;have O:=U (.code rest::.inScope c::k) (by simp[gotoIn,W]);cases e with
    |normal=>exact⟨.normal,u,B,M,O.trans<|Steps.trans z<|.one step_inScope⟩
    |exit id=>exact⟨.exit id,u,B,M,λk' N=>O.trans<|z k'<|by simp[exitTo,N]⟩
    |goto l'=>exact ih l' u B M E λk' N=>O.trans<|z k' N
    |ret=>exact⟨_,u,B,M,.of_steps O z⟩
    |panic ch=>exact⟨_,u,B,M,.of_steps O z⟩
    |outgrown=>exact⟨_,u,B,M,.of_steps O z⟩
   .exact⟨_,a,w,W,λk' N=>U k'<|by simp[gotoIn,I,N]⟩
 obtain⟨e,u,B,M,z⟩:=first b (.inScope c::k) f
 cases e with
 |normal=>exact⟨.normal,u,B,M,.head step_scope<|Steps.trans z<|.one step_inScope⟩
 |exit id=>exact⟨.exit id,u,B,M,λk' N=>.head step_scope<|z k'<|by simp[exitTo,N]⟩
 |goto l'=>exact Y n l' u B M _ λk' N=>.head step_scope<|z k' N
 |ret=>exact⟨_,u,B,M,.of_steps (.one step_scope) z⟩
 |panic ch=>exact⟨_,u,B,M,.of_steps (.one step_scope) z⟩
 |outgrown=>exact⟨_,u,B,M,.of_steps (.one step_scope) z⟩
end rules
def codeOk(n nt:Nat):Code->Bool
 |.region _ ops _=>all' (yR n nt) ops.toList&&lT ops
 |.seq a b=>codeOk n nt a&&codeOk n nt b
 |.cond c a b=>F7 n c&&(codeOk n nt a&&codeOk n nt b)
 |.block _ c=>codeOk n nt c
 |.loop c=>codeOk n nt c
 |.scope c=>codeOk n nt c
 |_=>F
def C_:∀{c:Code}{l:Nat}{rest:Code},codeOk n nt c=F->findLabel c l=Z rest->codeOk n nt rest=F
 |.seq a b,l,rest,hc,h=>by
  simp only[codeOk,bE]at hc;simp only[findLabel]at h;cases ha:findLabel a l with
  |some r=>
   rw[ha]at h;replace h:Z (Code.seq r b)=Z rest:=h;cases h;simp only[codeOk,bE];exact⟨C_ hc.1 ha,hc.2⟩
  |none=>
   rw[ha]at h;exact C_ hc.2 h
 |.label l',l,rest,_,h=>by
  simp only[findLabel]at h;split at h
  .cases h;rfl
  .cases h
 |.skip,_,_,_,h=>by simp[findLabel]at h
 |.region ..,_,_,_,h=>by simp[findLabel]at h
 |.cond ..,_,_,_,h=>by simp[findLabel]at h
 |.block ..,_,_,_,h=>by simp[findLabel]at h
 |.loop _,_,_,_,h=>by simp[findLabel]at h
 |.rangeFunc ..,_,_,_,h=>by simp[findLabel]at h
 |.exit _,_,_,_,h=>by simp[findLabel]at h
 |.scope _,_,_,_,h=>by simp[findLabel]at h
 |.goto _,_,_,_,h=>by simp[findLabel]at h
 |.ret,_,_,_,h=>by simp[findLabel]at h
 |.refuse _,_,_,_,h=>by simp[findLabel]at h
structure At(m0:Mp)(H0:R)(w0:cZ)(d0:C Deferred)(nt:Nat)(df:C Deferred)(s1:St)(a:Act)(w:cZ)(m:Mp):Prop where
 fr:FR m s1 a
 rh:RH m s1.H w
 ex:Ex m0 m H0 s1.H w0 w
 de:a.defers=d0
 nt:s1.nt=nt
 df:s1.df=df
def To(m0:Mp)(H0:R)(w0:cZ)(d0:C Deferred)(nt:Nat)(df:C Deferred)(s1:St)(q:Act->cZ->Prop):Prop:=
 ∀m a w,At m0 H0 w0 d0 nt df s1 a w m->q a w
def Post(m0:Mp)(H0:R)(w0:cZ)(d0:C Deferred)(nt:Nat)(df:C Deferred)(H':Exit->Act->cZ->Prop):Out->Prop
 |.fail=>False
 |.norm s=>To m0 H0 w0 d0 nt df s<|H' .normal
 |.exit i s=>To m0 H0 w0 d0 nt df s<|H'<|.exit i
 |.goto l s=>To m0 H0 w0 d0 nt df s<|H'<|.goto l
 |.ret s=>To m0 H0 w0 d0 nt df s<|H' .ret
def At.trans(I:At m0 H0 w0 d0 nt df s1 a1 w1 m1)(W:At m1 s1.H w1 a1.defers s1.nt s1.df s2 a w m):At m0 H0 w0 d0 nt df s2 a w m:=
 ⟨W.fr,W.rh,I.ex.trans W.ex,by rw[W.de,I.de],by rw[W.nt,I.nt],by rw[W.df,I.df]⟩
def Post.from'(I:At m0 H0 w0 d0 nt df s1 a1 w1 m1){o:Out}(h:Post m0 H0 w0 d0 nt df H' o):Post m1 s1.H w1 a1.defers nt s1.df H' o:=by
 have e:=I.nt;cases o with
 |fail=>exact h
 |_=>exactλm a w W=>h m a w<|I.trans (by rw[e];exact W)
def Post.from(I:At m0 H0 w0 d0 nt df s1 a1 w1 m1){o:Out}(h:Post m0 H0 w0 d0 nt df H' o):Post m1 s1.H w1 a1.defers s1.nt s1.df H' o:=by
 cases o with
 |fail=>exact h
 |_=>exactλm a w W=>h m a w<|I.trans W
def QE(P:aX)(cf:mJ)(n nt:Nat):Prop:=∀(id:Nat)(ops:Array Oper)(s:St)(m:Mp)(a:Act)(w:cZ)(H':Exit->Act->cZ->Prop),
 all' (yR n nt) ops.toList=F->lT ops=F->s.nt=nt->RH m s.H w->FR m s a->Gl n m->
 Post m s.H w a.defers nt s.df H' (region P cf ops F s)->(Code.region id ops F).wp P H' a w
def QF(P:aX)(ex:Code->St->Out)(n nt:Nat):Prop:=∀(c:Code)(s:St)(m:Mp)(a:Act)(w:cZ)(H':Exit->Act->cZ->Prop),
 codeOk n nt c=F->s.nt=nt->RH m s.H w->FR m s a->Gl n m->
 Post m s.H w a.defers nt s.df H' (ex c s)->c.wp P H' a w
def FR.clear(h:FR m s a):FR m (clear s) a:=by
 refine⟨h.size,λt=>?_⟩;have e:=h.slot t;unfold jc at e|-;show VR m (cr (iR s.nl t) (s.tm.get top t)<|look [] t) _;cases hb:iR s.nl t with
 |true=>rw[hb]at e;exact e
 |false=>exact .top _
section mem
variable{P:aX}
def XG{cf:mJ}(an:Jk P n cf)(ao:QF P cx n nt)(aq:QE P cf n nt)(k:Nat):QF P (exec P cf cx k) n nt:=by
 intro c
 induction c with
 |skip=>intro s m a w H' _ u z cs _ h;exact wp_skip<|h m a w ⟨cs,z,Ex.refl _ _ _,O,u,O⟩
 |label l=>intro s m a w H' _ u z cs _ h;exact wp_label<|h m a w ⟨cs,z,Ex.refl _ _ _,O,u,O⟩
 |exit id=>intro s m a w H' _ u z cs _ h;exact wp_exit<|h m a w ⟨cs,z,Ex.refl _ _ _,O,u,O⟩
 |goto l=>intro s m a w H' _ u z cs _ h;exact wp_goto<|h m a w ⟨cs,z,Ex.refl _ _ _,O,u,O⟩
 |ret=>intro s m a w H' _ u z cs _ h;exact wp_ret<|h m a w ⟨cs,z,Ex.refl _ _ _,O,u,O⟩
 |refuse=>intro s m a w H' _ _ _ _ _ h;exact h.elim
 |rangeFunc=>intro s m a w H' _ _ _ _ _ h;exact h.elim
 |region id ops ab=>
  intro s m a w H' E u z cs N h;simp only[codeOk,bE]at E;cases ab with
  |true=>exact aq id ops s m a w H' E.1 E.2 u z cs N h
  |false=>
   replace h:Post m s.H w a.defers nt s.df H' (JM<|oK P cf ops ops.toList<|clear s):=h;cases hr:oK P cf ops ops.toList (clear s)with
   |none=>rw[hr]at h;exact h.elim
   |some s1=>
    rw[hr]at h;replace h:To m s.H w a.defers nt s.df s1 (H' .normal):=h
    have aE:all' (λo=>fQ<|tJ o.op) ops.toList=F:=by
     have:=E.2;unfold lT at this;rw[all_eq]at this|-;rw[fE]at this|-;intro o V;have:=this o V;simp only[bE]at this;exact this.1
    have hw:wpOps P ops H' (List.range' 0<|J ops.toList) a w:=by
     refine ZH (P:=P) an (n:=n) (nt:=nt) E.1 aE ops.toList 0 m (clear s) s1 a w (gD) u z cs.clear N hr ?_;intro m' a' w' f' a4 al ap ar a0;exact h m' a' w' ⟨f',a4,al,ap,ar,a0⟩
    refine wp_region ?_;rw[List.range_eq_range'];exact hw
 |seq x y ac ad=>
  intro s m a w H' E u z cs N h;simp only[codeOk,bE]at E;replace h:Post m s.H w a.defers nt s.df H' (andThen (exec P cf cx k x s)<|exec P cf cx k y):=h;refine wp_seq<|ac s m a w _ E.1 u z cs N ?_;cases M:exec P cf cx k x s with
  |fail=>rw[M]at h;exact h
  |norm s1=>
   rw[M]at h;intro m1 a1 w1 I;have:=h.from I;rw[I.nt]at this;exact ad s1 m1 a1 w1 H' E.2 I.nt I.rh I.fr (N.mono I.ex.le) this
  |exit i s1=>rw[M]at h;exact h
  |goto l s1=>rw[M]at h;exact h
  |ret s1=>rw[M]at h;exact h
 |cond c x y ac ad=>
  intro s m a w H' E u z cs N h;simp only[codeOk,bE]at E;replace h:Post m s.H w a.defers nt s.df H' (JL (kV<|ev s c) (exec P cf cx k x s)<|exec P cf cx k y s):=h;cases hb:kV (ev s c)with
  |none=>rw[hb]at h;exact h.elim
  |some b=>
   rw[hb]at h;have hL:all' (F7 n) [c]=F:=by rw[all_eq];simp[E.1]
   have he:=(cs.ev N hL).all c<|gD;rw[qN hb]at he;have he:=he.of_bool;cases b with
   |true=>exact wp_cond_true he<|ac s m a w H' E.2.1 u z cs N h
   |false=>exact wp_cond_false he<|ad s m a w H' E.2.2 u z cs N h
 |block id c ih=>
  intro s m a w H' E u z cs N h;replace h:Post m s.H w a.defers nt s.df H' (yN id<|exec P cf cx k c s):=h;refine wp_block<|ih s m a w _ E u z cs N ?_;cases M:exec P cf cx k c s with
  |fail=>rw[M]at h;exact h
  |norm s1=>rw[M]at h;exact h
  |exit i s1=>
   rw[M]at h;replace h:Post m s.H w a.defers nt s.df H' (cr (aB i id) (.norm s1)<|.exit i s1):=h;intro m1 a1 w1 I
   by_cases e:i=id
   .subst e;rw[show aB i i=F from dW i]at h;simp only[Exit.inBlock,lG];exact h m1 a1 w1 I
   .rw[show aB i id=aA from by rw[<-dn];exactλg=>e<|bA g]at h;simp only[Exit.inBlock,e,lQ];exact h m1 a1 w1 I
  |goto l s1=>rw[M]at h;exact h
  |ret s1=>rw[M]at h;exact h
 |loop c ih=>
  intro s m a w H' E u z cs N h;replace h:Post m s.H w a.defers nt s.df H' (zy k (exec P cf cx k c) s):=h
  have a3:∀j,Post m s.H w a.defers nt s.df H' (zy j (exec P cf cx k c) s)->(Code.loop c).wp P H' a w:=by
   intro j hj
   refine ZI (λj a1 w1=>∃m1 s1,At m s.H w a.defers nt s.df s1 a1 w1 m1/\Post m s.H w a.defers nt s.df H' (zy j (exec P cf cx k c) s1)) ?_ ?_ (n:=j)
    ⟨m,s,⟨cs,z,Ex.refl _ _ _,rfl,u,rfl⟩,hj⟩
   .rintro a1 w1 ⟨m1,s1,_,B⟩;exact B
   .rintro j a1 w1 ⟨m1,s1,I,B⟩;replace B:Post m s.H w a.defers nt s.df H' (andThen (exec P cf cx k c s1)<|zy j<|exec P cf cx k c):=B;refine ih s1 m1 a1 w1 _ E I.nt I.rh I.fr (N.mono I.ex.le) ?_;cases M:exec P cf cx k c s1 with
    |fail=>rw[M]at B;exact B
    |norm s2=>
     rw[M]at B;intro m2 a2 w2 W;exact⟨m2,s2,I.trans (by rw[I.nt];exact W),B⟩
    |exit i s2=>rw[M]at B;exact B.from' I
    |goto l s2=>rw[M]at B;exact B.from' I
    |ret s2=>rw[M]at B;exact B.from' I
  exact a3 k h
 |scope c ih=>
  intro s m a w H' E u z cs N h;replace h:Post m s.H w a.defers nt s.df H' (pG cx k c<|exec P cf cx k c s):=h;have am:codeOk n nt c=F:=E
  have Y:∀j(o:Out),Post m s.H w a.defers nt s.df H' (pG cx j c o)->
   Post m s.H w a.defers nt s.df (abB (λl a1 w1=>∃m1 s1,At m s.H w a.defers nt s.df s1 a1 w1 m1/\Post m s.H w a.defers nt s.df H' (pG cx j c<|.goto l s1)) H') o:=by
   intro j o V;cases j with
   |zero=>exact V.elim
   |succ j=>
    cases o with
    |fail=>exact V
    |norm s1=>exact V
    |exit i s1=>exact V
    |ret s1=>exact V
    |goto l s1=>
     intro m1 a1 w1 I;exact⟨m1,s1,I,V⟩
  refine Vp (n:=k) (λj l a1 w1=>∃m1 s1,At m s.H w a.defers nt s.df s1 a1 w1 m1/\Post m s.H w a.defers nt s.df H' (pG cx j c<|.goto l s1)) ?_<|ih s m a w _ E u z cs N<|Y k _ h;rintro j l a1 w1 ⟨m1,s1,I,B⟩;cases j with
  |zero=>exact B.elim
  |succ j=>
   replace B:Post m s.H w a.defers nt s.df H' (@aP Code (λ_=>Out) (.goto l s1) (λU=>pG cx j c<|cx U s1)<|findLabel c l):=B;cases hf:findLabel c l with
   |none=>
    rw[hf]at B;exact .inr ⟨O,B m1 a1 w1 I⟩
   |some U=>
    rw[hf]at B;refine .inl ⟨j,U,O,O,?_⟩;have:=(Y j _ B).from I;rw[I.nt]at this;exact ao U s1 m1 a1 w1 _ (C_ am hf) I.nt I.rh I.fr (N.mono I.ex.le) this
end mem
def Af(n nt:Nat)(c:Code):Bool:=
 @Code.rec (λ_=>Bool) F (λ_ ops _=>all' (yR n nt) ops.toList&&lT ops) (λ_ _ a b=>a&&b) (λc _ _ a b=>F7 n c&&(a&&b)) (λ_ _ a=>a) (λ_ a=>a)
  (λ_ _ _ _ _ _=>F) (λ_=>F) (λ_ a=>a) (λ_=>F) (λ_=>F) F (λ_=>F) c
def Vq(c:Code)(h:Af n nt c=F):codeOk n nt c=F:=by
 have:Af n nt c=codeOk n nt c:=by
  clear h
  induction c with
  |seq a b e u=>show(Af n nt a&&Af n nt b)=_;rw[e,u];rfl
  |cond c a b e u=>show(F7 n c&&(Af n nt a&&Af n nt b))=_;rw[e,u];rfl
  |block id a z=>exact z
  |loop a z=>exact z
  |scope a z=>exact z
  |_=>rfl
 rw[<-this];exact h
def abC(n:Nat)(fn:Func):Bool:=@aP Code (λ_=>Bool) F (λc=>Af n fn.ntmps c&&!(fn.name== "runtime.NumGoroutine")) fn.body
def Ei(P:aX)(n:Nat):Prop:=∀(g:FuncId)(fn:Func),P.funcs[g]?=Z fn->abC n fn=F
def XOk(P:aX)(X:Xt):Prop:=∀(g:FuncId)(fn:Func)(args:C D)(v:D)(H Q:R),P.funcs[g]?=Z fn->fn.body=T->Zf P (X g) fn.resultTypes.toList args H=Z (v,Q)->
 ∀m w args',RH m H w->mX m args args'->∃m' v' w',(callFunc g ⟨args'⟩).run P w=.ok (.value v') w'/\VR m' v v'/\RH m' Q w'/\Ex m m' H Q w w'
def QG(P:aX)(n:Nat)(cf:mJ):Prop:=∀g args v H Q fn,cf g args H=Z (v,Q)->P.funcs[g]?=Z fn->fn.body.isSome=F->∀m w args',RH m H w->Gl n m->mX m args args'->
 Calls P g ⟨args'⟩ w λe w'=>∃m' v',e=.returned v'/\VR m' v v'/\RH m' Q w'/\Ex m m' H Q w w'
def Mj(P:aX)(X:Xt)(n:Nat):Prop:=∀(g:FuncId)(args:C D)(v:D)(H Q:R),X.o g args H=Z (v,Q)->(∃fn,P.funcs[g]?=Z fn/\fn.body.isSome=F)/\∀m w args',RH m H w->Gl n m->mX m args args'->
 Calls P g ⟨args'⟩ w λe w'=>∃m' v',e=.returned v'/\VR m' v v'/\RH m' Q w'/\Ex m m' H Q w w'
def Mj.none{P:aX}{X:Xt}(h:∀g a H,X.o g a H=T):Mj P X n:=λg a v H Q e=>by rw[h]at e;cases e
def zA{P:aX}{X:Xt}{L:Lv}(h:X.o g args H=T):C4 P X L k g args H=aN (nth P.funcs.toList g) λfn=>Zh P L k g (X g) fn args H:=by
 show orO (X.o g args H) _=_;rw[h];rfl
def Ej{P:aX}{X:Xt}{L:Lv}{r:D×R}(h:X.o g args H=Z r):C4 P X L k g args H=Z r:=by
 show orO (X.o g args H) _=_;rw[h];rfl
section mem
variable{P:aX}
def Vr(rh:RH m s.H w)(cs:FR m s a)(h:ny P s fn.results.toList=Z vs):
 ∃v',VR m (uO vs) v'/\(results fn a.tmps).run P w=.ok v' w:=by
 have ab:∀(l:C ResultVar)(vs:C D),ny P s l=Z vs->∃e,mX m vs e/\
  Sem.run P (l.mapM λ|ResultVar.tmp t=>(pure (a.tmps.getD t undef):Sem D)|ResultVar.cell b t=>do loadVar t (<-asAddr (a.tmps.getD b undef))) w=Result.ok e w:=by
  intro l
  induction l with
  |nil=>intro vs h;cases h;exact⟨[],.nil,gD⟩
  |cons r l ih=>
   intro vs h;replace h:(aN (E6 P s r) λv=>aN (ny P s l) λvs=>Z<|v::vs)=Z vs:=h;obtain⟨v,z,h⟩:=aM h;obtain⟨ac,Y,h⟩:=aM h;cases h;obtain⟨e,I,W⟩:=ih ac Y;cases r with
   |tmp t=>
    replace z:Z (jc s t)=Z v:=z;cases z;refine⟨_::e,.cons _ _ _ _ (cs.slot t) I,?_⟩;simp only[xR,dB,dS,bT,W]
   |cell b t=>
    replace z:(aN (xV P t (jc s b) s.H) λp=>Z p.1)=Z v:=z;obtain⟨p,hp,z⟩:=aM z;cases z;have V:=cs.slot b;obtain⟨hH,v',h3,N⟩:=Xy (P:=P) rh (show xV P t (jc s b) s.H=Z (p.1,p.2)from hp) V;refine⟨v'::e,.cons _ _ _ _ h3 I,?_⟩
    have h5:∃E,a.tmps.getD b undef=.pointer (Z E):=by
     have h:=hp;obtain⟨a0,O,h⟩:=aM h;rw[qX O]at V;obtain⟨l,_,_,_,h⟩:=V.vG;exact⟨_,h⟩
    obtain⟨E,B⟩:=h5;rw[B]at N;simp only[Instr.loadAt,kK,dB,dS,bT]at N;have U:asAddr (.pointer<|Z E)=pure E:=rfl;simp only[xR,B,U,dB,dS,bT,N,W]
 obtain⟨e,I,W⟩:=ab _ _ h;have u:=I.length;refine⟨if h:e.toArray.size=1 then e.toArray[0]else .tuple e.toArray,?_,?_⟩
 .unfold uO;cases vs with
  |nil=>cases I;exact .tuple [] [] .nil
  |cons v vs=>
   cases I with
   |cons _ v' _ x' z M=>
    cases vs with
    |nil=>cases M;exact z
    |cons ai vs=>
     have:(v'::x').toArray.size≠1:=by simp at u|-;intro h;rw[h]at u;simp at u
     rw[dif_neg this];exact .tuple _ _<|.cons _ _ _ _ z M
 .show Sem.run P (do
   let vs<-fn.results.mapM (λ|ResultVar.tmp t=>(pure (a.tmps.getD t undef):Sem D)|ResultVar.cell b t=>do loadVar t (<-asAddr (a.tmps.getD b undef)))
   pure (if h:vs.size=1 then vs[0]else .tuple vs)) w=_
  simp only[dB,Array.mapM_eq_mapM_toList,Sem.run_map,W,bT,dS]
theorem aiV(h:mX m args args')(e nt:Nat)(z:J args<=nt)(H:R):
 FR m ⟨e,nt,[],Tr.uY top args 0 .nil,[],H⟩ {tmps:=(⟨args'⟩:Array D)++my (nt-(⟨args'⟩:Array D).size) undef,defers:=[]}:=by
 have B:=h.length;refine⟨by simp;omega,λt=>?_⟩;show VR m (cr (iR e t) ((Tr.uY top args 0 .nil).get top t)<|look [] t) _;cases iR e t with
 |false=>exact .top _
 |true=>
  show VR m ((Tr.uY top args 0 .nil).get top t) _;rw[Tr.nY]
  by_cases ht:t<J args
  .rw[if_pos N];have u:args[t]?=Z (args.getD t top):=by rw[aU,av ht];rfl
   obtain⟨v',I,W⟩:=h.get t u
   have:((⟨args'⟩:Array D)++my (nt-(⟨args'⟩:Array D).size) undef).getD t undef=v':=by
    rw[iH,tV (by simp;omega)];simp[I]
   rw[this];exact W
  .rw[if_neg N,Tr.get_nil];exact .top _
def ZJ{o:Out}{az:Ending->cZ->Prop}(h:Ql o=Z s)(K:∀a' w' m',At m H w [] nt [] s a' w' m'->a'.defers=[]/\∃v,(results fn a'.tmps).run P w'=.ok v w'/\az (.returned v) w'):
 Post m H w [] nt [] (bodyPost P fn az) o:=by
 cases o with
 |fail=>cases h
 |norm s1=>cases h;intro m' a' w' e;exact K a' w' m' e
 |exit=>cases h
 |goto=>cases h
 |ret s1=>cases h;intro m' a' w' e;exact K a' w' m' e
def ZK{X:Xt}{L:Lv}(hP:Ei P n)(hO:Mj P X n)(hcf:Jk P n L.ca)(hcx:∀nt,QF P L.cx n nt)(hdr:∀nt,QE P L.ca n nt)(k:Nat):
 QG P n (C4 P X L k):=by
 intro g args v H Q fn h hg hb m w args' rh gl hv;cases hor:X.o g args H with
 |some r=>
  rw[Ej hor]at h;cases h;exact(hO g args v H Q hor).2 m w args' rh gl hv
 |none=>
 rw[zA hor]at h;obtain⟨fn',hfn,h⟩:=aM h;rw[qw,fD,hg]at hfn;cases hfn;have hok:=hP g fn hg;cases hbody:fn.body with
 |none=>rw[hbody]at hb;cases hb
 |some c=>
  replace h:(@aP Code (λ_=>aC<|D×R) (Zf P (X g) fn.resultTypes.toList args H)
   (λc=>gd (aD (len args) fn.ntmps)<|aN (Ql<|exec P L.ca L.cx k c ⟨kC P g,fn.ntmps,[],Tr.uY top args 0 .nil,[],H⟩) λs=>JN P fn s) fn.body)=Z (v,Q):=h
  unfold abC at hok;rw[hbody]at h hok;replace h:(gd (aD (len args) fn.ntmps)<|aN (Ql<|exec P L.ca L.cx k c ⟨kC P g,fn.ntmps,[],Tr.uY top args 0 .nil,[],H⟩) λs=>JN P fn s)=Z (v,Q):=h;replace hok:(Af n fn.ntmps c&&!(fn.name== "runtime.NumGoroutine"))=F:=hok;rw[bE]at hok;obtain⟨hle,h⟩:=gN h;have hle:=aF hle;rw[ig]at hle;obtain⟨s,hs,h⟩:=aM h;obtain⟨hdf,h⟩:=gN h;obtain⟨vs,hvs,h⟩:=aM h;cases h;refine calls_of_wp hg hbody ?_;refine XG hcf (hcx fn.ntmps) (hdr fn.ntmps) k c ⟨kC P g,fn.ntmps,[],Tr.uY top args 0 .nil,[],H⟩ m _ w _ (Vq c hok.1) O rh (aiV hv (kC P g) fn.ntmps hle H) gl ?_;refine ZJ hs ?_;intro a' w' m' ha;obtain⟨v',I,W⟩:=Vr ha.rh ha.fr hvs;exact⟨ha.de,v',W,m',v',O,I,ha.rh,ha.ex⟩
def afY{X:Xt}{L:Lv}(hP:Ei P n)(hX:XOk P X)(hO:Mj P X n)(hc:QG P n<|C4 P X L k):Jk P n (C4 P X L k):=by
 intro g args v H Q h m w args' rh gl hv o a next H' K
 have h0:=h
 have anJ:∃fn,P.funcs[g]?=Z fn/\(fn.body=T->X.o g args H=T):=by
  cases hor:X.o g args H with
  |some r=>
   obtain⟨⟨fn,I,W⟩,_⟩:=hO g args r.1 H r.2 hor;exact⟨fn,I,λh3=>by rw[h3]at W;cases W⟩
  |none=>
   rw[zA hor]at h;obtain⟨fn,I,_⟩:=aM h;rw[qw,fD]at I;exact⟨fn,I,λ_=>rfl⟩
 obtain⟨fn,hfn,hno⟩:=anJ;cases hbody:fn.body with
 |some c=>
  have hok:=hP g fn hfn;unfold abC at hok;rw[hbody]at hok;replace hok:(Af n fn.ntmps c&&!(fn.name== "runtime.NumGoroutine"))=F:=hok;rw[bE]at hok;have hn:fn.name≠ "runtime.NumGoroutine" :=by simpa using hok.2
  have hr:(callFunc g ⟨args'⟩).run P w=.ok (.enter g ⟨args'⟩) w:=by
   simp[callFunc,hfn,hn,hbody]
  rw[hr,Oper.upon_enter];refine(hc g args v H Q fn h0 hfn (by rw[hbody];rfl) m w args' rh gl hv).mono ?_;rintro e w' ⟨m',v',rfl,I,W,h3⟩;exact K m' v' w' I W h3
 |none=>
  rw[zA (hno hbody),qw,fD,hfn]at h
  replace h:(@aP Code (λ_=>aC<|D×R) (Zf P (X g) fn.resultTypes.toList args H)
   (λc=>gd (aD (len args) fn.ntmps)<|aN (Ql<|exec P L.ca L.cx k c ⟨kC P g,fn.ntmps,[],Tr.uY top args 0 .nil,[],H⟩) λs=>JN P fn s) fn.body)=Z (v,Q):=h
  rw[hbody]at h;obtain⟨m',v',w',I,W,h3,h4⟩:=hX g fn args v H Q hfn hbody h m w args' rh hv;rw[I,Oper.upon_value];exact K m' v' w' W h3 h4
def abD{X:Xt}(B:Ei P n)(hX:XOk P X)(z:Mj P X n)(u:∀cf,Jk P n cf->∀nt,QE P cf n nt):
 ∀k,Jk P n (lv P X k).ca/\(∀nt,QF P (lv P X k).cx n nt)/\QG P n (lv P X k).ca:=by
 intro k
 induction k with
 |zero=>
  refine⟨?_,?_,?_⟩
  .intro g args v H Q h;cases h
  .intro nt c s m a w H' _ _ _ _ _ h;exact h.elim
  .intro g args v H Q fn h;cases h
 |succ k e=>
  have E:=ZK (X:=X) B z e.1 e.2.1 (u _ e.1) k;exact⟨afY B hX z E,λnt=>XG e.1 (e.2.1 nt) (u _ e.1 nt) k,E⟩
end mem
def Mp.upto(m:Mp)(b:Nat):Mp:=λr=>if r<b then m r else T
def Mp.XH(m:Mp)(b:Nat):Mp.le (m.upto b) m:=by
 intro r l h;unfold Mp.upto at h;split at h
 .exact h
 .cases h
def Mp.yS{b b':Nat}(e:Mp.le m m')(u:b<=b'):Mp.le (m.upto b) (m'.upto b'):=by
 intro r l h;unfold Mp.upto at h|-;split at h
 .next I=>rw[if_pos N];exact e r l h
 .cases h
def Mp.qE{b:Nat}(h:m.upto b r=Z l):r<b/\m r=Z l:=by
 unfold Mp.upto at h;split at h
 .next I=>exact⟨I,h⟩
 .cases h
def Mp.Ht{b:Nat}(h:m r=Z l)(e:r<b):m.upto b r=Z l:=by
 unfold Mp.upto;rw[if_pos e];exact h
def Hu(h:gW (gQ es)=F):False:=by
 have:=aF h;unfold gQ at this;have e:a_ 18446744073709551616 es=18446744073709551616+es:=rfl;omega
mutual
theorem VR.restrict(u:Mp.le m1 m2):∀{x v v':D},VR m2 x v'->VR m1 x v->VR m1 x v'
 |_,_,_,.sc v h,_=>.sc v h
 |_,_,_,.top v,_=>.top v
 |_,_,_,.ptr r off l h hl,g=>by
  obtain⟨l1,I,W,_,_⟩:=g.vG;have:=u _ _ I;simp only at this I;rw[h]at this;cases this;exact .ptr r off l I hl
 |_,_,_,.slice r off n cp l h hl B hn,g=>by
  cases g with
  |sc _ hs=>simp[Ae.o7,fQ]at hs
  |slice _ _ _ _ l1 I _ _ _=>
   have:=u _ _ I;rw[h]at this;cases this;exact .slice r off n cp l I hl B hn
  |uP=>exact(Hu B).elim
  |xy=>exact .xy _ _
  |vQ=>exact(Hu B).elim
 |_,_,_,.uP r off n es cc l h hl he ht hc hN,g=>by
  generalize JP:gQ es=cu at g;cases g with
  |sc _ hs=>simp[Ae.o7,fQ]at hs
  |slice _ _ _ _ l1 I _ B _=>subst JP;exact(Hu B).elim
  |uP _ _ _ z _ l1 I _ _ _ _ _=>
   have:=u _ _ I;rw[h]at this;cases this;rw[<-JP];exact .uP r off n es cc l I hl he ht hc hN
  |xy=>unfold gQ at JP;have e:a_ 18446744073709551616 es=18446744073709551616+es:=rfl;omega
  |vQ _ _ z _ l1 I _ _ _=>
   have:=u _ _ I;rw[h]at this;cases this;rw[<-JP];exact .uP r off _ es cc l I hl he ht hc hN
 |_,_,_,.xy a a',_=>.xy a a'
 |_,_,_,.vQ r off es a' l h hl he hN,g=>by
  generalize JP:gQ es=cu at g;cases g with
  |sc _ hs=>simp[Ae.o7,fQ]at hs
  |slice _ _ _ _ l1 I _ B _=>subst JP;exact(Hu B).elim
  |uP _ _ _ z _ l1 I _ _ _ _ _=>
   have:=u _ _ I;rw[h]at this;cases this;rw[<-JP];exact .vQ r off es a' l I hl he hN
  |xy=>unfold gQ at JP;have e:a_ 18446744073709551616 es=18446744073709551616+es:=rfl;omega
  |vQ _ _ z _ l1 I _ _ _=>
   have:=u _ _ I;rw[h]at this;cases this;rw[<-JP];exact .vQ r off es a' l I hl he hN
 |_,_,_,.map r l h,g=>by
  obtain⟨l1,I,_⟩:=g.of_map;have:=u _ _ I;rw[h]at this;cases this;exact .map r l I
 |_,_,_,.func cs x y x' y' M hy,g=>by
  obtain⟨_,_,rfl,I,W⟩:=g.aa6;exact .func cs x y x' y' (mX.restrict u M I)<|mX.restrict u hy W
 |_,_,_,.iface t v v' h,g=>by
  obtain⟨_,rfl,I⟩:=g.aa5;exact .iface t v v'<|VR.restrict u h I
 |_,_,_,.agg x x' h,g=>by
  obtain⟨_,rfl,I⟩:=g.vF;exact .agg x x'<|mX.restrict u h I
 |_,_,_,.tuple x x' h,g=>by
  obtain⟨_,rfl,I⟩:=g.Qp;exact .tuple x x'<|mX.restrict u h I
theorem mX.restrict(e:Mp.le m1 m2):∀{x v v':C D},mX m2 x v'->mX m1 x v->mX m1 x v'
 |_,_,_,.nil,_=>.nil
 |_,_,_,.cons v v' x x' h M,g=>by
  cases g with
  |cons _ _ _ _ u z=>exact .cons v v' x x' (VR.restrict e h u)<|mX.restrict e M z
end
def D3.restrict(u:Mp.le m1 m2){x:C (D×D)}{v v':C MapEntry}(h:D3 m2 x v')(g:D3 m1 x v):D3 m1 x v':=by
 induction h generalizing v with
 |nil=>exact .nil
 |cons k x e l N E I _ M=>
  cases g with
  |cons _ _ _ _ _ z gv B=>exact .cons k x e l N (VR.restrict u E z) (VR.restrict u I gv)<|M B
def Ml:nE->nE
 |.row az=>.row ⟨az.ty,.nil,az.n,az.mR,az.fz⟩
 |o=>o
def nJ:nE->Nat->aC D
 |.row az,i=>if i<az.n then Z (az.cells.get top i)else T
 |_,_=>T
def oO(m:Mp)(l:Loc):nE->Obj->Prop
 |.dead,_=>True
 |.row az,.cells f ty fr=>(ty=az.ty/\l.base=0)/\az.n=l.n/\f.size=l.tot/\l.lo<=az.n/\l.base+(az.n-l.lo)<=l.tot/\(az.mR=aA->fr.2<=l.base+(az.fz-l.lo))
 |.map es,.map BB _=>D3 m es BB.toList
 |.OU s p,.stringIter s' p'=>s'=s/\p'=p/\l.base=0
 |_,_=>False
def yT(m:Mp)(l:Loc)(i:Nat)(x:D)(ob:Obj):Prop:=∃f ty fr v,ob=.cells f ty fr/\f[l.base+(i-l.lo)]?=Z v/\VR m x v
theorem oO.Vs{o:nE}(h:oO m l o ob)(e:Ml o=Ml o'):oO m l o' ob:=by
 cases o<;>cases o'<;>simp only[Ml]at e<;>first|(cases e;exact h)|cases e|skip
 case row.row az R'=>
  obtain⟨a1,u,z,B,E⟩:=az;obtain⟨I,M,N,O,U⟩:=R';simp only[nE.row.injEq,Row.mk.injEq]at e;obtain⟨rfl,_,rfl,rfl,rfl⟩:=e;cases ob<;>first|exact h|exact h.elim
theorem wQ.split{o:nE}(h:wQ m l o ob):oO m l o ob/\∀i x,nJ o i=Z x->l.lo<=i->yT m l i x ob:=by
 cases o with
 |row az=>
  cases ob<;>first|exact h.elim|skip
  case cells f ty fr=>
   obtain⟨I,W,e,u,z,B,E⟩:=h;refine⟨⟨I,W,e,u,z,B⟩,?_⟩;intro i x M V;simp only[nJ]at M;split at M
   .next Y=>
    cases M;obtain⟨v,N,U⟩:=E i V Y;exact⟨f,ty,fr,v,O,N,U⟩
   .cases M
 |dead=>exact⟨trivial,λi x M=>by cases M⟩
 |map es=>cases ob<;>first|exact h.elim|exact⟨h,λi x M=>by cases M⟩
 |OU s p=>cases ob<;>first|exact h.elim|exact⟨h,λi x M=>by cases M⟩
theorem wQ.join{o:nE}(h:oO m l o ob)(V:∀i x,nJ o i=Z x->l.lo<=i->yT m l i x ob):wQ m l o ob:=by
 cases o with
 |row az=>
  cases ob<;>first|exact h.elim|skip
  case cells f ty fr=>
   obtain⟨I,W,B,E,M,N⟩:=h;refine⟨I,W,B,E,M,N,?_⟩;intro i Y hn;obtain⟨u,ab,z,v,e,O,U⟩:=V i _ (by simp only[nJ];rw[if_pos hn]) Y;cases e;exact⟨v,O,U⟩
 |dead=>trivial
 |map es=>cases ob<;>first|exact h.elim|exact h
 |OU s p=>cases ob<;>first|exact h.elim|exact h
theorem oO.mono{m m':Mp}(e:Mp.le m m'){l:Loc}{o:nE}{ob:Obj}(h:oO m l o ob):oO m' l o ob:=by
 cases o<;>cases ob<;>first|exact h|exact D3.mono e h
theorem oO.restrict(e:Mp.le m1 m2){o:nE}(h:oO m2 l o L9)(g:oO m1 l o ob):oO m1 l o L9:=by
 cases o with
 |dead=>trivial
 |row az=>cases L9<;>exact h
 |OU s p=>cases L9<;>exact h
 |map es=>
  cases L9<;>first|exact h.elim|skip
  cases ob<;>first|exact g.elim|skip
  exact D3.restrict e h g
def yT.mono{m m':Mp}(u:Mp.le m m'){l:Loc}{i:Nat}{x:D}{ob:Obj}(h:yT m l i x ob):yT m' l i x ob:=by
 obtain⟨f,ty,fr,v,I,W,e⟩:=h;exact⟨f,ty,fr,v,I,W,e.mono u⟩
def yT.restrict(u:Mp.le m1 m2){x:D}(h:yT m2 l i x L9)(g:yT m1 l i x ob):yT m1 l i x L9:=by
 obtain⟨f,ty,fr,v,I,W,e⟩:=h;obtain⟨_,_,_,_,_,_,g3⟩:=g;exact⟨f,ty,fr,v,I,W,VR.restrict u e g3⟩
theorem abE{o:nE}(e:Ml o=Ml o')(h:o≠.dead):o'≠.dead:=by
 intro u;subst u;cases o<;>first|exact h O|cases e
def Eo(m i:Nat):iR m i=m.testBit i:=by
 unfold iR;rw[qz];have e:Nat.shiftRight m i=m>>>i:=rfl;rw[e,uI];have u:Nat.mod (m/2^i) 2=(m/2^i) %2:=rfl;rw[u,iD,decide_eq_true_iff];exact⟨bA,λh=>by rw[h];rfl⟩
def ZL(e i:Nat):iR (Nat.shiftLeft 1 e) i=F<->i=e:=by
 rw[Eo];have u:Nat.shiftLeft 1 e=1<<<e:=rfl;rw[u,Nat.one_shiftLeft,Nat.testBit_two_pow];simp[eq_comm]
def Ph(a b i:Nat):iR (Nat.lor a b) i=(iR a i||iR b i):=by
 rw[Eo,Eo,Eo];exact xS a b i
def Vt(i:Nat):iR 0 i=aA:=by rw[Eo];simp
def Vu{acc:C Nat}:∀{l:C Edge}{i:Nat},iR (Ay acc n l) i=F->∃e,e∈l/\g_ .any e=F/\(i=e.on\/iR ((nth acc<|n-1-e.on).getD 0) i=F):=by
 intro l
 induction l with
 |nil=>intro i h;rw[show Ay acc n []=0 from O,Vt]at h;cases h
 |cons e l z=>
  intro i h;replace h:iR (cr (g_ .any e) (Nat.lor (Nat.lor (Nat.shiftLeft 1 e.on)<|(nth acc<|dQ (dQ n 1) e.on).getD 0)<|Ay acc n l)<|Ay acc n l) i=F:=h;cases hb:g_ .any e with
  |false=>
   rw[hb]at h;obtain⟨u,I,W⟩:=z h;exact⟨u,bL _ I,W⟩
  |true=>
   rw[hb]at h;replace h:iR (Nat.lor (Nat.lor (Nat.shiftLeft 1 e.on)<|(nth acc<|dQ (dQ n 1) e.on).getD 0)<|Ay acc n l) i=F:=h;rw[Ph,Ph,lD,lD]at h;rcases h with(h|h)|h
   .exact⟨e,aL ..,hb,.inl<|(ZL _ _).1 h⟩
   .exact⟨e,aL ..,hb,.inr h⟩
   .obtain⟨u,I,W⟩:=z h;exact⟨u,bL _ I,W⟩
def BS(ops:Array Oper)(j:Nat):Nat:=(vE ops.toList [] 0).getD (ops.size-1-j) 0
def Pj:∀(l:C Oper)(acc:C Nat)(n:Nat),(vE l acc n).length=J l+J acc:=by
 intro l
 induction l with
 |nil=>intro acc n;simp[show vE [] acc n=acc from O]
 |cons o l e=>
  intro acc n;rw[show vE (o::l) acc n=vE l (Ay acc n o.after.toList::acc) (n+1)from O,e];simp;omega
def Mm:∀(l:C Oper)(acc:C Nat)(n k:Nat),J l<=k->(vE l acc n).getD k 0=acc.getD (k-J l) 0:=by
 intro l
 induction l with
 |nil=>intro acc n k _;rfl
 |cons o l u=>
  intro acc n k e;rw[show vE (o::l) acc n=vE l (Ay acc n o.after.toList::acc) (n+1)from O,u _ _ _ (by simp at e;omega)];simp only[cO]at e|-;rw[show k-J l=(k-(J l+1))+1 from N];rfl
def abF:∀(l:C Oper)(acc:C Nat)(n j:Nat)(o:Oper),J acc=n->l[j]?=Z o->
 ∃e,J e=n+j/\(vE l acc n).getD (J l-1-j) 0=Ay e (n+j) o.after.toList/\∀k,k<n+j->e.getD (n+j-1-k) 0=(vE l acc n).getD (n+J l-1-k) 0:=by
 intro l
 induction l with
 |nil=>intro acc n j o _ h;simp at h
 |cons p l E=>
  intro acc n j o u h;rw[show vE (p::l) acc n=vE l (Ay acc n p.after.toList::acc) (n+1)from O];cases j with
  |zero=>
   simp at h;subst h;refine⟨acc,by simpa using u,?_,?_⟩
   .rw[Mm _ _ _ _ (gD)];simp
   .intro k B;rw[Mm _ _ _ _ (by simp;omega)];simp only[cO,d_];rw[show n+(J l+1)-1-k-J l=(n-1-k)+1 from N];rfl
  |succ j=>
   obtain⟨e,I,W,z⟩:=E (Ay acc n p.after.toList::acc) (n+1) j o (by simp[u]) (by simpa using h)
   have M:j<J l:=by
    have:l[j]?=Z o:=by simpa using h
    exact(bI.1 this).1
   refine⟨e,N,?_,?_⟩
   .simp only[cO];rw[show J l+1-1-(j+1)=J l-1-j from N,W,show n+1+j=n+(j+1)from N]
   .intro k B;have:=z k N;rw[show n+1+j-1-k=n+(j+1)-1-k from N,show n+1+J l-1-k=n+(J l+1)-1-k from N]at this;exact this
def Ep:∀(l:C Oper)(n j:Nat)(o:Oper),yM l n=F->l[j]?=Z o->∀e,e∈o.after.toList->g_ .any e=F->e.on<n+j:=by
 intro l
 induction l with
 |nil=>intro n j o _ h;simp at h
 |cons p l E=>
  intro n j o u h e B z;replace u:cr (all' (λe=>!(g_ .any e)||aD (dh e.on) n) p.after.toList) (yM l<|dh n) aA=F:=u;cases ha:all' (λe=>!(g_ .any e)||aD (dh e.on) n) p.after.toList with
  |false=>rw[ha]at u;cases u
  |true=>
   rw[ha]at u;replace u:yM l (dh n)=F:=u;cases j with
   |zero=>
    simp at h;subst h;rw[all_eq,fE]at ha;have:=ha e B;rw[z]at this;simp only[vL,tu]at this;have:=aF this;omega
   |succ j=>
    have:=E (n+1) j o u (by simpa using h) e B z;omega
def oH(hb:yM ops.toList 0=F)(hD:∀j o,ops[j]?=Z o->ag j->∀e,e∈o.after.toList->g_ .any e=F->ag e.on):
 ∀(j:Nat)(o:Oper),ops[j]?=Z o->(∀e,e∈o.after.toList->g_ .any e=F->ag e.on)->∀i,iR (BS ops j) i=F->ag i:=by
 intro j
 induction j using Nat.strongRecOn with
 |_ j ih=>
  intro o ho u i V;have E:ops.toList[j]?=Z o:=by rw[fD];exact ho
  obtain⟨Y,I,W,h3⟩:=abF ops.toList [] 0 j o O E;unfold BS at V;rw[show ops.size-1-j=J ops.toList-1-j from gD,W]at V;obtain⟨e,U,z,hie⟩:=Vu V;have ac:=Ep _ 0 j o hb E e U z;rcases hie with rfl|hie
  .exact u e U z
  .have M:=u e U z;have ab:j<ops.size:=(eZ.1 ho).1;have B:ops[e.on]?=Z ops[e.on]:=bJ N;refine ih e.on N _ B (hD e.on _ B M) i ?_;have h4:=h3 e.on N;unfold BS;rw[show ops.size-1-e.on=0+J ops.toList-1-e.on from gD,<-h4];rw[qw]at hie;rw[aU];exact hie
def QH{cs:α->α->Bool->Bool}{x:α}{m:Nat}:∀{l:C α},jW cs x m l=F->∀i y,l[i]?=Z y->cs x y (iR m<|J l-1-i)=F:=by
 intro l
 induction l with
 |nil=>intro _ i y h;simp at h
 |cons z l u=>
  intro h i y e;replace h:cr (cs x z<|iR m<|len l) (jW cs x m l) aA=F:=h;cases hf:cs x z (iR m<|len l)with
  |false=>rw[hf]at h;cases h
  |true=>
   rw[hf]at h;cases i with
   |zero=>simp at e;subst e;rw[ig]at hf;simpa using hf
   |succ i=>
    have:=u h i y (by simpa using e);simp only[cO];rw[show J l+1-1-(i+1)=J l-1-i from N];exact this
def Mo{cs:α->α->Bool->Bool}:∀{ms:C Nat}{xs:C α},pairs cs ms xs=F->∀i j x y,i<j->xs[i]?=Z x->xs[j]?=Z y->i<J ms->
 cs x y (iR (ms.getD i 0)<|J xs-1-j)=F:=by
 intro ms
 induction ms with
 |nil=>intro xs _ i j x y _ _ _ h;simp at h
 |cons m ms E=>
  intro xs h i j x y B M e u;cases xs with
  |nil=>simp at M
  |cons z xs=>
   replace h:cr (jW cs z m xs) (pairs cs ms xs) aA=F:=h;cases hr:jW cs z m xs with
   |false=>rw[hr]at h;cases h
   |true=>
    rw[hr]at h;cases j with
    |zero=>omega
    |succ j=>
     simp only[cO];rw[show J xs+1-1-(j+1)=J xs-1-j from N];cases i with
     |zero=>
      simp at M;subst M;exact QH hr j y (by simpa using e)
     |succ i=>exact E h i j x y N (by simpa using M) (by simpa using e) (by simpa using u)
section mem
variable{P:aX}
def Vv{ay:Prop}(h:o.wp P a w next H')(z:∀a w,next a w->ay)(B:∀e a w,H' e a w->ay):ay:=by
 unfold Oper.wp at h;generalize(execOp a.eval o).run P w=r at h;cases r with
 |ok n w'=>
  cases n with
  |value v=>exact z _ _ h
  |skip=>exact z _ _ h
  |defer d=>exact z _ _ h
  |enter cs args=>
   obtain⟨e,E,fr,u,_⟩:=h [];cases e with
   |returned v=>exact z _ _ u
   |panicked M=>exact B _ _ _ u
   |outgrown=>obtain⟨a1,w1,I⟩:=u;exact B _ _ _ I
  |row row args=>
   obtain⟨v,E,u,_⟩:=h default [];exact z _ _ u
  |_=>exact h.elim
 |halt x w'=>
  cases x with
  |panic v=>exact B _ _ _ h
  |_=>exact h.elim
def Mq{cf:mJ}(E:Jk P n cf)(M:RH m s.H w)(N:Gl n m)(z:Aa o.op P cf s=.mem v Q)(e:QC m s a.eval o.op.operands.toList)(K:∀m' v' w',VR m' v v'->RH m' Q w'->Ex m m' s.H Q w w'->next (a.put o.dst v') w'):o.wp P a w next H':=by
 unfold Oper.wp;refine XF M z e ?_ K;intro c B O;rw[B]at z;replace z:zx c P cf s=.mem v Q:=z;obtain⟨u,⟨args⟩,ats⟩:=c;cases u with
 |value g=>exact SC E N M B z e K
 |invoke r I=>exact nomatch(show(R3.fail:R3)=.mem _ _ from z)
 |builtin b=>cases O
def QC.iU(e:QC m s ρ L):QC m (iU s) ρ L:=⟨λx M=>by have:=e.all x M;cases x<;>exact this⟩
inductive Mr(P:aX)(cf:mJ)(ops:Array Oper)(o:Oper)(s:St):St->Cl->Prop where
 |skip (hw:sU ops s o.guard=Z aA):Mr P cf ops o s (jY s o.dst undef s.H) (cl 0)
 |DN (v:D) (hw:sU ops s o.guard=Z F) (hr:Aa o.op P cf (iU s)=.DN v):Mr P cf ops o s (jY s o.dst v s.H) (cl 0)
 |mem (v:D) (Q:R) (hw:sU ops s o.guard=Z F) (hr:Aa o.op P cf (iU s)=.mem v Q):
  Mr P cf ops o s (jY s o.dst v ⟨Q.xO,Q.bU,pW s.H.low Q.low⟩) (uJ P o.op s Q)
def abG{cf:mJ}{c:Cl}(h:mV P cf ops o s=Z (s1,c)):Mr P cf ops o s s1 c:=by
 obtain⟨b,e,h⟩:=aM h;cases b with
 |false=>
  replace h:Z (jY s o.dst undef s.H,cl 0)=Z (s1,c):=h;cases h;exact .skip e
 |true=>
  replace h:JK P o s (Aa o.op P cf<|iU s)=Z (s1,c):=h;cases hr:Aa o.op P cf (iU s)with
  |fail=>rw[hr]at h;cases h
  |DN v=>
   rw[hr]at h;replace h:Z (jY s o.dst v s.H,cl 0)=Z (s1,c):=h;cases h;exact .DN v e hr
  |mem v Q=>
   rw[hr]at h;replace h:Z (jY s o.dst v ⟨Q.xO,Q.bU,pW s.H.low Q.low⟩,uJ P o.op s Q)=Z (s1,c):=h;cases h;exact .mem v Q e hr
def TF(P:aX)(cf:mJ)(ops:Array Oper)(o:Oper)(s:St):Prop:=∀v Q,Aa o.op P cf (iU s)=.mem v Q->sU ops s o.guard=Z F->s.H.bU<=Q.bU/\∀r,r<s.H.bU->r<Q.low->Q.obj r=s.H.obj r
def RH.low(e:RH m H w)(k:Nat):RH m ⟨H.xO,H.bU,k⟩ w:=⟨e.dom,e.ok,e.sep⟩
def trace{cf:mJ}(am:Jk P n cf):
 ∀(l:C Oper)(s s1:St)(acc cls:C Cl)(m:Mp)(a:Act)(w:cZ),(∀o,o∈l->yR n nt o=F)->s.nt=nt->RH m s.H w->FR m s a->Gl n m->
 jV P cf ops l s acc=Z (s1,cls)->
 ∃(S:Nat->St)(ak:Nat->Cl),S 0=s/\S (J l)=s1/\J cls=J l+J acc/\(∀j,j<J l->cls[J l-1-j]?=Z (ak j))/\(∀k,cls[J l+k]?=acc[k]?)/\
  ∀j o,l[j]?=Z o->Mr P cf ops o (S j) (S<|j+1) (ak j)/\TF P cf ops o (S j)/\(S j).nt=nt:=by
 intro l
 induction l with
 |nil=>
  intro s s1 acc cls m a w _ u _ _ _ h;cases h;exact⟨λ_=>s,λ_=>cl 0,rfl,rfl,gD,gD,gD,gD⟩
 |cons o l ih=>
  intro s s1 acc cls m a w E u rh cs U h;replace h:(aN (mV P cf ops o s) λq=>jV P cf ops l q.1<|q.2::acc)=Z (s1,cls):=h;obtain⟨q,hq,h⟩:=aM h;obtain⟨s2,c⟩:=q;have ab:=abG hq;have O:=E o<|gD;unfold yR at O;simp only[bE]at O
  have ao:(∃m' B w',RH m' s2.H w'/\FR m' s2 B/\Gl n m')/\TF P cf ops o s/\s2.nt=nt:=by
   cases ab with
   |skip hw=>
    refine⟨⟨m,a.put o.dst undef,w,by rw[nA];exact rh,cs.put (by rw[u];exact O.2)<|.tuple [] [] .nil,U⟩,?_,by rw[Ad];exact u⟩;intro v Q _ ac;rw[hw]at ac;cases ac
   |DN v hw Y=>
    have e:=(cs.ev U O.1).iU;obtain⟨v',I,W⟩:=QD Y e λ_=>rfl;refine⟨⟨m,a.put o.dst v',w,by rw[nA];exact rh,cs.put (by rw[u];exact O.2) I,U⟩,?_,by rw[Ad];exact u⟩;intro v1 Q z _;rw[Y]at z;cases z
   |mem v Q hw Y=>
    have e:=(cs.ev U O.1).iU
    have M:o.wp P a w (λB w'=>∃m',(RH m' (jY s o.dst v ⟨Q.xO,Q.bU,pW s.H.low Q.low⟩).H w'/\FR m' (jY s o.dst v ⟨Q.xO,Q.bU,pW s.H.low Q.low⟩) B/\Gl n m')/\
     (s.H.bU<=Q.bU/\∀r,r<s.H.bU->r<Q.low->Q.obj r=s.H.obj r)) (λ_ _ _=>False):=by
     refine Mq am (s:=iU s) (rh.low _) U Y e ?_;intro m' v' w' I W h3;exact⟨m',⟨by rw[nA];exact W.low _,(cs.mono h3.le).put (by rw[u];exact O.2) I,U.mono h3.le⟩,h3.bU,h3.xO⟩
    have:=Vv (ay:=(∃m' B w',RH m' (jY s o.dst v ⟨Q.xO,Q.bU,pW s.H.low Q.low⟩).H w'/\FR m' (jY s o.dst v ⟨Q.xO,Q.bU,pW s.H.low Q.low⟩) B/\Gl n m')/\
     (s.H.bU<=Q.bU/\∀r,r<s.H.bU->r<Q.low->Q.obj r=s.H.obj r)) M
     (λB w' ⟨m',I,W⟩=>⟨⟨m',B,w',I⟩,W⟩) (λ_ _ _ h=>h.elim)
    refine⟨this.1,?_,by rw[Ad];exact u⟩;intro v1 H1 z _;rw[Y]at z;cases z;exact this.2
  obtain⟨⟨m',B,w',ap,f',al⟩,an,ad⟩:=ao;obtain⟨S,ak,e1,e2,e3,e4,e5,e6⟩:=ih s2 s1 (c::acc) cls m' B w' (λp V=>E p<|by simp[V]) ad ap f' al h;refine⟨λk=>match k with|0=>s|k+1=>S k,λk=>match k with|0=>c|k+1=>ak k,rfl,e2,by simp at e3|-;omega,?_,?_,?_⟩
  .intro j hj;cases j with
   |zero=>
    have:=e5 0;simpa using this
   |succ j=>
    simp only[cO]at hj|-;rw[show J l+1-1-(j+1)=J l-1-j from N];exact e4 j N
  .intro k;have:=e5<|k+1;simp only[cO];rw[show J l+1+k=J l+(k+1)from N,this];rfl
  .intro j p V;cases j with
   |zero=>
    simp at V;subst V;exact⟨by simpa [e1]using ab,an,u⟩
   |succ j=>exact e6 j p (by simpa using V)
theorem abH{o:Op}:(uJ P o s Q).k<=5:=by
 unfold uJ;cases CZ o with
 |none=>
  show(cr (aD s.H.bU Q.low) (cr (Bz o) (cl 5)<|BA P o s) ⟨2,0,0,0,s.H,Q⟩:Cl).k<=5;cases aD s.H.bU Q.low with
  |false=>exact aF O
  |true=>
   cases Bz o with
   |true=>exact aF O
   |false=>
    show(BA P o s).k<=5;unfold BA;cases h:(aN (Jc o) λp=>aN (sJ<|ev s p.2) λa=>aN (tLd P p.1) λl=>Z<|Cl.mk 4 a.block a.off (l.getD 1) hh0 hh0)with
    |none=>exact aF O
    |some q=>
     obtain⟨p,z,h⟩:=aM h;obtain⟨a,e,h⟩:=aM h;obtain⟨l,u,h⟩:=aM h;cases h;exact aF O
 |some p=>
  show(@aP Addr (λ_=>Cl) ⟨2,0,0,0,s.H,Q⟩ (λa=>⟨3,a.block,a.off,len<|bY<|ev s p.2,hh0,hh0⟩) (sJ<|ev s p.1):Cl).k<=5;cases sJ (ev s p.1)<;>exact aF O
def ZM(h:qM ops=F):yM ops.toList 0=F/\∀i j u z,i<j->ops[i]?=Z u->ops[j]?=Z z->iR (BS ops j) i=F\/u.apart ops z=F:=by
 unfold qM at h;rw[bE]at h;refine⟨h.1,λi j u z M I B=>?_⟩;have O:j<ops.size:=(eZ.1 B).1
 have e:∀k o,ops[k]?=Z o->ops.toList.reverse[ops.size-1-k]?=Z o:=by
  intro k o E;have U:k<ops.size:=(eZ.1 E).1;rw[List.getElem?_reverse (by simp;omega)];simp only[qo];rw[show ops.size-1-(ops.size-1-k)=k from N,fD];exact E
 have:=Mo h.2 (ops.size-1-j) (ops.size-1-i) z u N (e j z B) (e i u I) (by rw[Pj];simp;omega);simp only[List.length_reverse,qo]at this;rw[show ops.size-1-(ops.size-1-i)=i from N]at this;simpa [BS]using this
def abI(h:kZ ops cls=F)(hl:J cls=ops.size)(E:∀j,j<ops.size->cls[ops.size-1-j]?=Z (ak j))(hk:∀j,j<ops.size->(ak j).k<=5):
 ∀i j,i<j->j<ops.size->gI (ak j) (ak i) (iR (BS ops j) i)=F:=by
 intro i j ab M;unfold kZ at h;cases hn:noTwo cls with
 |false=>
  rw[hn]at h;have:=Mo (cs:=gI) h (ops.size-1-j) (ops.size-1-i) (ak j) (ak i) N (E j M) (E i N) (by rw[Pj];simp;omega);rw[hl,show ops.size-1-(ops.size-1-i)=i from N]at this;exact this
 |true=>
  have u:∀k,k<ops.size->(ak k).k≠2/\(ak k).k≠3:=by
   intro k O;unfold noTwo at hn;rw[all_eq,fE]at hn;have:=hn (ak k)<|aV<|E k O;simp only[pq,Bool.or_eq_false_iff]at this;exact⟨λe=>by rw[e]at this;exact absurd this.1<|jq,λe=>by rw[e]at this;exact absurd this.2<|jq⟩
  have I:=u i N;have W:=u j M;have U:=hk i N;have V:=hk j M;generalize ak i=ci at I U|-;generalize ak j=cj at W V|-;obtain⟨z,_,_,_,_,_⟩:=ci;obtain⟨B,_,_,_,_,_⟩:=cj;simp only at I W U V;have Y:z=0\/z=1\/z=4\/z=5:=N;have e2:B=0\/B=1\/B=4\/B=5:=N;rcases Y with rfl|rfl|rfl|rfl<;>rcases e2 with rfl|rfl|rfl|rfl<;>rfl
def QI(h:gI y x b=F)(M:x.k=1\/x.k=2)(e:y.k=1\/y.k=2)(W:x.k=2\/y.k=2):b=F:=by
 obtain⟨u,_,_,_,_,_⟩:=x;obtain⟨z,_,_,_,_,_⟩:=y;simp only at M e W;rcases M with rfl|rfl<;>rcases e with rfl|rfl<;>first|(exfalso;omega)|exact h
def XI(h:gI y x b=F)(M:x.k=3)(e:y.k=1\/y.k=2):False:=by
 obtain⟨u,_,_,_,_,_⟩:=x;obtain⟨z,_,_,_,_,_⟩:=y;simp only at M e;subst M;rcases e with rfl|rfl<;>(cases b<;>exact absurd (show aA=F from h)<|gD)
def XJ(h:gI y x b=F)(M:x.k=1\/x.k=2)(e:y.k=3):b=F:=by
 obtain⟨u,_,_,_,_,_⟩:=x;obtain⟨z,_,_,_,_,_⟩:=y;simp only at M e;subst e;rcases M with rfl|rfl<;>(cases b<;>first|rfl|exact h)
def abJ(h:gI y x b=F)(M:x.k=3)(e:y.k=3):b=F\/zO x y=F:=by
 obtain⟨u,_,_,_,_,_⟩:=x;obtain⟨z,_,_,_,_,_⟩:=y;simp only at M e;subst M e;cases b with
 |true=>exact .inl O
 |false=>exact .inr h
def aiW(h:gI y x b=F)(M:x.k=4)(e:y.k=3):b=F\/zO x y=F:=by
 obtain⟨u,_,_,_,_,_⟩:=x;obtain⟨z,_,_,_,_,_⟩:=y;simp only at M e;subst M e;cases b with
 |true=>exact .inl O
 |false=>exact .inr h
def aiX(h:gI y x b=F)(M:x.k=3)(e:y.k=4):b=F\/zO x y=F:=by
 obtain⟨u,_,_,_,_,_⟩:=x;obtain⟨z,_,_,_,_,_⟩:=y;simp only at M e;subst M e;cases b with
 |true=>exact .inl O
 |false=>exact .inr h
def aiY(h:gI y x b=F)(M:x.k=4)(e:y.k=2):b=F\/oQ y x=F:=by
 obtain⟨u,_,_,_,_,_⟩:=x;obtain⟨z,_,_,_,_,_⟩:=y;simp only at M e;subst M e;cases b with
 |true=>exact .inl O
 |false=>exact .inr h
def aiZ(h:gI y x b=F)(M:x.k=2)(e:y.k=4):b=F\/oQ x y=F:=by
 obtain⟨u,_,_,_,_,_⟩:=x;obtain⟨z,_,_,_,_,_⟩:=y;simp only at M e;subst M e;cases b with
 |true=>exact .inl O
 |false=>exact .inr h
end mem
section cls
variable{P:aX}
def QJ{o:Op}:
 (∃p a,CZ o=Z p/\sJ (ev s p.1)=Z a/\uJ P o s Q=⟨3,a.block,a.off,len<|bY<|ev s p.2,hh0,hh0⟩)\/
 (uJ P o s Q=⟨2,0,0,0,s.H,Q⟩)\/
 (s.H.bU<=Q.low/\((Bz o=F/\uJ P o s Q=cl 5)\/uJ P o s Q=cl 1\/
   ∃p a l,Jc o=Z p/\sJ (ev s p.2)=Z a/\tLd P p.1=Z l/\uJ P o s Q=⟨4,a.block,a.off,l.getD 1,hh0,hh0⟩)):=by
 have e:uJ P o s Q=@aP (cB×cB) (λ_=>Cl) (cr (aD s.H.bU Q.low) (cr (Bz o) (cl 5)<|BA P o s) ⟨2,0,0,0,s.H,Q⟩)
  (λp=>@aP Addr (λ_=>Cl) ⟨2,0,0,0,s.H,Q⟩ (λa=>⟨3,a.block,a.off,len<|bY<|ev s p.2,hh0,hh0⟩)<|sJ<|ev s p.1) (CZ o):=rfl
 cases hs:CZ o with
 |none=>
  rw[hs]at e;cases hb:aD s.H.bU Q.low with
  |false=>rw[hb]at e;exact .inr<|.inl e
  |true=>
   rw[hb]at e;refine .inr<|.inr ⟨aF hb,?_⟩;cases hf:Bz o with
   |true=>rw[hf]at e;exact .inl ⟨O,e⟩
   |false=>
    rw[hf]at e;replace e:uJ P o s Q=BA P o s:=e;unfold BA at e;cases h:(aN (Jc o) λp=>aN (sJ<|ev s p.2) λa=>aN (tLd P p.1) λl=>Z<|Cl.mk 4 a.block a.off (l.getD 1) hh0 hh0)with
    |none=>rw[h]at e;exact .inr<|.inl e
    |some q=>
     rw[h]at e;obtain⟨p,B,h⟩:=aM h;obtain⟨a,u,h⟩:=aM h;obtain⟨l,z,h⟩:=aM h;cases h;exact .inr<|.inr ⟨p,a,l,B,u,z,e⟩
 |some p=>
  rw[hs]at e;replace e:uJ P o s Q=@aP Addr (λ_=>Cl) ⟨2,0,0,0,s.H,Q⟩ (λa=>⟨3,a.block,a.off,len<|bY<|ev s p.2,hh0,hh0⟩) (sJ<|ev s p.1):=e;cases u:sJ (ev s p.1)with
  |none=>rw[u]at e;exact .inr<|.inl e
  |some a=>rw[u]at e;exact .inl ⟨p,a,O,u,e⟩
end cls
structure Rg(P:aX)(cf:mJ)(ops:Array Oper)(n nt:Nat)(S:Nat->St)(ak:Nat->Cl):Prop where
 step:∀(j:Nat)(o:Oper),ops[j]?=Z o->Mr P cf ops o (S j) (S<|j+1) (ak j)
 tf:∀(j:Nat)(o:Oper),ops[j]?=Z o->TF P cf ops o (S j)
 nts:∀(j:Nat)(o:Oper),ops[j]?=Z o->(S j).nt=nt
 ok:∀(j:Nat)(o:Oper),ops[j]?=Z o->yR n nt o=F
 back:yM ops.toList 0=F
 stat:∀(i j:Nat)(oi oj:Oper),i<j->ops[i]?=Z oi->ops[j]?=Z oj->iR (BS ops j) i=F\/oi.apart ops oj=F
 dyn:∀i j,i<j->j<ops.size->gI (ak j) (ak i) (iR (BS ops j) i)=F
def Closed(ops:Array Oper)(ag:Nat->Prop):Prop:=∀(j:Nat)(o:Oper),ops[j]?=Z o->ag j->∀e,e∈o.after.toList->g_ .any e=F->ag e.on
def Hw(ag:Nat->Prop)(i:Nat)(j:Nat):Prop:=ag j\/j=i
inductive Ct where
 |shape(o:nE)
 |cell(v:aC D)
def cont:aC Nat->nE->Ct
 |none,o=>.shape<|Ml o
 |some i,o=>.cell<|nJ o i
def Rel(κ:aC Nat)(m:Mp)(l:Loc)(c:Ct)(ob:Obj):Prop:=
 match κ,c with
 |none,.shape o=>oO m l o ob
 |some i,.cell (Z x)=>l.lo<=i->yT m l i x ob
 |_,_=>True
def Rel.mono{κ:aC Nat}{m m':Mp}(e:Mp.le m m'){l:Loc}{c:Ct}{ob:Obj}(h:Rel κ m l c ob):Rel κ m' l c ob:=by
 cases κ with
 |none=>cases c with|shape o=>exact oO.mono e h|cell v=>trivial
 |some i=>cases c with
  |shape o=>trivial
  |cell v=>cases v with|none=>trivial|some x=>exactλu=>yT.mono e<|h u
def Rel.restrict(u:Mp.le m1 m2){c:Ct}(h:Rel κ m2 l c L9)(g:Rel κ m1 l c ob):Rel κ m1 l c L9:=by
 cases κ with
 |none=>cases c with|shape o=>exact oO.restrict u h g|cell v=>trivial
 |some i=>cases c with
  |shape o=>trivial
  |cell v=>cases v with|none=>trivial|some x=>exactλe=>yT.restrict u (h e)<|g e
def XK(o:nE):Ml (Ml o)=Ml o:=by cases o<;>rfl
def Rel.iE{o:nE}(h:wQ m l o ob):Rel κ m l (cont κ o) ob:=by
 cases κ with
 |none=>exact(h.split.1).Vs (XK o).symm
 |some i=>
  show Rel (Z i) m l (.cell<|nJ o i) ob;cases hc:nJ o i with
  |none=>trivial
  |some x=>exactλe=>h.split.2 i x hc e
def Rel.abK{o:nE}(h:∀κ,Rel κ m l (cont κ o) ob):wQ m l o ob:=by
 refine wQ.join ((show oO m l (Ml o) ob from h T).Vs<|XK o) ?_;intro i x M e;have:=h<|Z i;rw[show cont (Z i) o=.cell (Z x)from by show Ct.cell (nJ o i)=_;rw[M]]at this;exact this e
section con
variable{S:Nat->St}
abbrev nx(S:Nat->St)(k:Nat):Nat:=(S k).H.bU
abbrev at'(S:Nat->St)(κ:aC Nat)(r k:Nat):Ct:=cont κ<|(S k).H.obj r
def FK(S:Nat->St)(ae:Nat)(ag:Nat->Prop)(κ:aC Nat)(r k:Nat):Prop:=r<nx S k/\∀j,j<ae->r<nx S j->at' S κ r j≠at' S κ r (j+1)->(ag j<->j<k)
def FK.ahr(z:∀i j,i<=j->j<=ae->nx S i<=nx S j):∀(d k:Nat),k+d<=ae->FK S ae ag κ r k->FK S ae ag κ r (k+d)->at' S κ r k=at' S κ r (k+d):=by
 intro d k M I W
 have:∀e,e<=d->at' S κ r k=at' S κ r (k+e):=by
  intro e
  induction e with
  |zero=>intro _;rfl
  |succ e O=>
   intro U;rw[O N];apply gY;intro u;have B:r<nx S (k+e):=aO I.1<|z _ _ N N;have a1:=I.2 (k+e) N B u;have E:=W.2 (k+e) N B u;have:=a1.1<|E.2 N;omega
 exact this d<|ax _
def FK.eq(e:∀i j,i<=j->j<=ae->nx S i<=nx S j)(hk:k<=ae)(u:k'<=ae)(I:FK S ae ag κ r k)(W:FK S ae ag κ r k'):at' S κ r k=at' S κ r k':=by
 rcases Nat.le_total k k' with h|h
 .have:=FK.ahr e (k'-k) k N I (by rw[show k+(k'-k)=k' from N];exact W)
  rwa [show k+(k'-k)=k' from N]at this
 .have:=FK.ahr e (k-k') k' N W (by rw[show k'+(k-k')=k from N];exact I);rw[show k'+(k-k')=k from N]at this;exact this.symm
def FK.less(h:FK S ae (Hw ag i) κ r k)(hi:r<nx S i->at' S κ r i=at' S κ r (i+1)):FK S ae ag κ r k:=by
 refine⟨h.1,λj I B u=>?_⟩;have z:j≠i:=λe=>u (by subst e;exact hi B);rw[<-h.2 j I B u];exact⟨.inl,λE=>E.resolve_right z⟩
end con
structure MInv(S:Nat->St)(ak:Nat->Cl)(ae:Nat)(m0:Mp)(w0:cZ)(ag:Nat->Prop)(m:Mp)(w:cZ):Prop where
 dom:∀r l,m r=Z l->(m0 r=Z l/\r<nx S 0)\/∃i,i<ae/\ag i/\nx S i<=r/\r<nx S (i+1)
 ZN:∀r l,m r=Z l->∃o,w.heap[l.c]?=Z o
 cnt:∀κ r l k o,k<=ae->m r=Z l->FK S ae ag κ r k->w.heap[l.c]?=Z o->Rel κ (m.upto<|nx S k) l (at' S κ r k) o
 sep:∀r r' l l' k k',m r=Z l->m r'=Z l'->l.c=l'.c->k<=ae->k'<=ae->FK S ae ag T r k->FK S ae ag T r' k'->(S k).H.obj r≠.dead->(S k').H.obj r'≠.dead->r=r'
 clash:∀r r' l l' j,m r=Z l->m r'=Z l'->l.c=l'.c->j<ae->¬ag j->(ak j).k=2->(r<nx S j<->r'<nx S j)
 hid:∀j r,j<ae->ag j->r<nx S j->m r=T->(S<|j+1).H.obj r=(S j).H.obj r
 le:Mp.le m0 m
 fresh:∀r l,m r=Z l->m0 r=T->l.c<w0.heap.size->∃r0 l0,m0 r0=Z l0/\l0.c=l.c/\(S ae).H.low<=r0
 os:w.os=w0.os
 tape:w.tape=w0.tape
 output:w.output=w0.output
 size:w0.heap.size<=w.heap.size
 keep:∀c,c<w0.heap.size->(∀r l,m0 r=Z l->l.c=c->r<(S ae).H.low)->w.heap[c]?=w0.heap[c]?
section E
variable{P:aX}{cf:mJ}{S:Nat->St}
def Rg.SE(g:Rg P cf ops n nt S ak)(E:j<ops.size):nx S j<=nx S (j+1):=by
 have z:ops[j]?=Z ops[j]:=bJ E;have hs:=g.step j _ z;have e:=g.tf j _ z;show(S j).H.bU<=(S<|j+1).H.bU;generalize S (j+1)=s1 at hs;generalize ak j=c at hs;cases hs with
 |skip u=>rw[nA];exact ax _
 |DN v u B=>rw[nA];exact ax _
 |mem v Q u B=>rw[nA];exact(e v Q B u).1
def Rg.mono(g:Rg P cf ops n nt S ak):∀i j,i<=j->j<=ops.size->nx S i<=nx S j:=by
 intro i j e z;obtain⟨d,rfl⟩:=u_ e;clear e
 induction d with
 |zero=>exact ax _
 |succ d u=>exact aQ (u N)<|g.SE N
def Fh(a b:Nat):pW a b<=a/\pW a b<=b:=by
 unfold pW;cases h:aD a b with
 |true=>exact⟨ax _,aF h⟩
 |false=>
  have:¬a<=b:=λe=>by rw[aG e]at h;cases h
  exact⟨by show b<=a;omega,ax _⟩
def Rg.anL(g:Rg P cf ops n nt S ak)(u:j<ops.size):(S<|j+1).H.low<=(S j).H.low:=by
 have hs:=g.step j _<|bJ u;generalize S (j+1)=s1 at hs;generalize ak j=c at hs;cases hs with
 |skip e=>rw[nA];exact ax _
 |DN v e z=>rw[nA];exact ax _
 |mem v Q e z=>rw[nA];exact(Fh _ _).1
def Rg.low(g:Rg P cf ops n nt S ak):∀i j,i<=j->j<=ops.size->(S j).H.low<=(S i).H.low:=by
 intro i j e z;obtain⟨d,rfl⟩:=u_ e;clear e
 induction d with
 |zero=>exact ax _
 |succ d u=>exact aQ (g.anL (j:=i+d) N)<|u N
def Rg.same(g:Rg P cf ops n nt S ak)(N:j<ops.size)(W:(ak j).k≠2)(u:(ak j).k≠3)(z:r<nx S j):(S<|j+1).H.obj r=(S j).H.obj r:=by
 have M:ops[j]?=Z ops[j]:=bJ N;have hs:=g.step j _ M;have E:=g.tf j _ M;generalize S (j+1)=s1 at hs;generalize hc:ak j=c at hs;rw[hc]at W u;cases hs with
 |skip I=>rw[nA]
 |DN v I z=>rw[nA]
 |mem v Q I B=>
  rw[nA];show Q.obj r=_;rcases QJ (P:=P) (o:=ops[j].op) (s:=S j) (Q:=Q)with⟨p,a,_,_,e⟩|e|⟨hlow,_⟩
  .rw[e]at u;exact absurd O u
  .rw[e]at W;exact absurd O W
  .exact(E v Q B I).2 r z<|aO z hlow
def Rg.afZ(g:Rg P cf ops n nt S ak)(M:j<ops.size)(I:r<nx S j)(hl:r<(S ops.size).H.low):(S<|j+1).H.obj r=(S j).H.obj r:=by
 have E:ops[j]?=Z ops[j]:=bJ M;have hs:=g.step j _ E;have z:=g.tf j _ E;have e:=g.low (j+1) ops.size N<|ax _;generalize S (j+1)=s1 at hs e;generalize ak j=c at hs;cases hs with
 |skip B=>rw[nA]
 |DN v B I=>rw[nA]
 |mem v Q B u=>
  rw[nA]at e|-;exact(z v Q u B).2 r I<|aO (aO hl e) (Fh _ _).2
def Rg.turns(g:Rg P cf ops n nt S ak)(z:j<ops.size)(B:r<nx S j)(u:at' S κ r j≠at' S κ r (j+1)):(ak j).k=2\/(ak j).k=3:=by
 apply gY;intro h;exact u (by show cont κ _=cont κ _;rw[g.same z (λe=>h<|.inl e) (λe=>h<|.inr e) B])
def Rg.XL(g:Rg P cf ops n nt S ak)(E:Closed ops ag)(hi:i<ops.size)(U:¬ag i)(pX:∀e,e∈ops[i].after.toList->g_ .any e=F->ag e.on)(B:(ak i).k=1\/(ak i).k=2)(hr:r<nx S i):FK S ops.size ag κ r i:=by
 refine⟨hr,λj I W M=>?_⟩;have hcj:=g.turns I W M;have O:ops[i]?=Z ops[i]:=bJ hi;have z:ops[j]?=Z ops[j]:=bJ I;rcases kY j i with h|h|h
 .refine⟨λ_=>h,λ_=>?_⟩;have u:=g.dyn j i h hi;rcases hcj with hcj|hcj
  .exact oH g.back E i _ O pX j<|QI u (.inr hcj) B<|.inl hcj
  .exact(XI u hcj B).elim
 .subst h;exact⟨λh=>absurd h U,λh=>absurd h<|mG _⟩
 .refine⟨λV=>?_,λh'=>N⟩;have u:=g.dyn i j h I
  have Y:iR (BS ops j) i=F:=by
   rcases hcj with hcj|hcj
   .exact QI u B (.inr hcj)<|.inr hcj
   .exact XJ u B hcj
  exact absurd (oH g.back E j _ z (E j _ z V) i Y) U
def Rg.anM(g:Rg P cf ops n nt S ak)(M:Closed ops ag)(hi:i<ops.size)(B:¬ag i)(V:∀e,e∈ops[i].after.toList->g_ .any e=F->ag e.on)(O:(ak i).k=2)(z:r<nx S i):FK S ops.size (Hw ag i) κ r (i+1):=by
 have I:=g.XL M hi B V (.inr O) (κ:=κ) z;refine⟨aO z<|g.SE hi,λj U E u=>?_⟩;have:=I.2 j U E u;constructor
 .rintro(h|h)
  .have:=this.1 h;omega
  .omega
 .intro h
  by_cases e:j=i
  .exact .inr e
  .exact .inl<|this.2 N
end E
section E
variable{P:aX}{cf:mJ}{S:Nat->St}
def MInv.still(h1:MInv S ak ops.size m0 w0 ag m w)(hi:i<ops.size)(hs:∀r,r<nx S i->(S<|i+1).H.obj r=(S i).H.obj r):MInv S ak ops.size m0 w0 (Hw ag i) m w where
 dom:=λr l h=>(h1.dom r l h).imp id λ⟨j,I,W,e⟩=>⟨j,I,.inl W,e⟩
 ZN:=h1.ZN
 cnt:=λκ r l k o hk hm Y ho=>h1.cnt κ r l k o hk hm (Y.less λz=>by show cont κ _=cont κ _;rw[hs r z]) ho
 sep:=λr B l N k k' I W e u E M O U V=>h1.sep r B l N k k' I W e u E (M.less λz=>by show cont T _=cont T _;rw[hs r z]) (O.less λz=>by show cont T _=cont T _;rw[hs B z]) U V
 clash:=λr B l N j I W e u E M=>h1.clash r B l N j I W e u (λh=>E<|.inl h) M
 hid:=λj r I W e u=>by
  rcases W with W|rfl
  .exact h1.hid j r I W e u
  .exact hs r e
 le:=h1.le
 fresh:=h1.fresh
 os:=h1.os
 tape:=h1.tape
 output:=h1.output
 size:=h1.size
 keep:=h1.keep
def join(m2 m:Mp):Mp:=λr=>match m2 r with|some l=>Z l|none=>m r
def Da{o:nE}(e:cont T o=cont T o')(h:o≠.dead):o'≠.dead:=by
 have e:Ml o=Ml o':=by
  have:Ct.shape (Ml o)=Ct.shape (Ml o'):=e;injection this
 exact abE e h
def MInv.made(g:Rg P cf ops n nt S ak)(hD:Closed ops ag)(h1:MInv S ak ops.size m0 w0 ag m w)(hi:i<ops.size)(FL:¬ag i)(pX:∀e,e∈ops[i].after.toList->g_ .any e=F->ag e.on){A':R}(hA:A.bU=nx S i)(b8:A'.bU=nx S (i+1))(rh:RH m2 A' w')(ex:Ex (m.upto<|nx S i) m2 A A' w w')(ar:A.bU<=A'.low\/(S ops.size).H.low<=A'.low)(bg:∀r,nx S i<=r->r<nx S (i+1)->A'.obj r=(S<|i+1).H.obj r)(h3:(ak i).k≠3)(ab:((ak i).k=2/\(∀r,A'.obj r=(S<|i+1).H.obj r)/\(∀r,A.obj r=(S i).H.obj r))\/((ak i).k≠2/\A.bU<=A'.low)):
 ∃m',MInv S ak ops.size m0 w0 (Hw ag i) m' w'/\Mp.le m m'/\Mp.le m2 (m'.upto<|nx S<|i+1):=by
 have u:=g.mono;have cy:nx S i<=nx S (i+1):=g.SE hi
 have ap:∀r l,m r=Z l->r<nx S i\/nx S (i+1)<=r:=by
  intro r l Y;rcases h1.dom r l Y with⟨_,h⟩|⟨j,hj,N9,I,W⟩
  .exact .inl<|aO h<|u 0 i N N
  .have br:j≠i:=λe=>FL (e▸N9);rcases dH j i with h|h
   .exact .inl<|aO W<|u (j+1) i N N
   .exact .inr<|aQ (u (i+1) j N N) I
 have a9:∀r l,m2 r=Z l->r<nx S (i+1):=λr l h=>by have:=rh.dom r l h;rw[b8]at this;exact this
 have bx:∀r l,m r=Z l->r<nx S i->m2 r=Z l:=λr l h Y=>ex.le r l<|Mp.Ht h Y
 have bv:∀r l,m2 r=Z l->m r≠Z l->m r=T/\nx S i<=r/\m.upto (nx S i) r=T:=by
  intro r l h a0
  have bj:m.upto (nx S i) r=T:=by
   cases hu:m.upto (nx S i) r with
   |none=>rfl
   |some U=>
    have:=ex.le r U hu;rw[h]at this;cases this;exact absurd (Mp.qE hu).2 a0
  have bd:=ex.new r l h bj;rw[hA]at bd;refine⟨?_,bd,bj⟩;cases hm:m r with
  |none=>rfl
  |some U=>
   have I:=a9 r l h;rcases ap r U hm with h'|h'<;>omega
 have bp:∀r l,m2 r=Z l->join m2 m r=Z l:=λr l h=>by unfold join;rw[h]
 have be:∀r l,m r=Z l->join m2 m r=Z l:=by
  intro r l h;unfold join;cases W:m2 r with
  |none=>exact h
  |some l2=>
   by_cases e:m r=Z l2
   .rw[h]at e;cases e;rfl
   .have:=(bv r l2 W e).1;rw[h]at this;cases this
 have ao:∀r l,join m2 m r=Z l->m r=Z l\/(m r=T/\m2 r=Z l/\nx S i<=r/\r<nx S (i+1)/\m.upto (nx S i) r=T):=by
  intro r l h;unfold join at h;cases W:m2 r with
  |none=>rw[W]at h;exact .inl h
  |some l2=>
   rw[W]at h;have hl:l2=l:=by injection h
   subst hl
   by_cases e:m r=Z l2
   .exact .inl e
   .have:=bv r l2 W e;exact .inr ⟨this.1,O,this.2.1,a9 r l2 W,this.2.2⟩
 have bf:Mp.le m2 ((join m2 m).upto<|nx S<|i+1):=λr l h=>Mp.Ht (bp r l h)<|a9 r l h;have ba:Mp.le m (join m2 m):=be
 have b0:∀r l,m r=Z l->((ak i).k≠2\/nx S i<=r)->w'.heap[l.c]?=w.heap[l.c]?:=by
  intro r l h z;obtain⟨o,ho⟩:=h1.ZN r l h;refine ex.keep l.c (qD ho) ?_;intro r1 l1 I b9;have hu:=Mp.qE I;rcases ab with⟨M,_,_⟩|⟨_,a8⟩
  .rcases z with h'|h'
   .exact absurd M h'
   .have:=(h1.clash r r1 l l1 i h hu.2 b9.symm hi FL M).2 hu.1;omega
  .rw[hA]at a8;exact aO hu.1 a8
 have ad:∀κ r,((ak i).k≠2\/nx S i<=r)->r<nx S i->at' S κ r i=at' S κ r (i+1):=by
  intro κ r z Y;rcases z with h|h
  .show cont κ _=cont κ _;rw[g.same hi h h3 Y]
  .omega
 have aq:∀κ r l,m r=T->m2 r=Z l->nx S i<=r->r<nx S (i+1)->FK S ops.size (Hw ag i) κ r (i+1):=by
  intro κ r l hm _ bd V;refine⟨V,λj hj RV a0=>?_⟩
  have br:i<j:=by
   rcases dH i j with h|h
   .exact h
   .have:=u j i h N;omega
  constructor
  .rintro(h|h)
   .exact absurd (by show cont κ _=cont κ _;rw[h1.hid j r hj h RV hm]) a0
   .omega
  .intro h;omega
 have bc:∀r l,m2 r=Z l->m.upto (nx S i) r=T->l.c<w.heap.size->(ak i).k=2/\∃r0 l0,m r0=Z l0/\l0.c=l.c/\r0<nx S i/\A'.low<=r0:=by
  intro r l h h0 V;obtain⟨r0,l0,e1,e2,e3⟩:=ex.fresh r l h h0 V;have hu:=Mp.qE e1;refine⟨?_,r0,l0,hu.2,e2,hu.1,e3⟩;rcases ab with⟨M,_,_⟩|⟨_,a8⟩
  .exact M
  .rw[hA]at a8;omega
 have b6:(ak i).k=2->∀κ r,r<nx S i->FK S ops.size (Hw ag i) κ r (i+1):=λM κ r Y=>g.anM hD hi FL pX M Y
 have Vw:∀r l,join m2 m r=Z l->(m r=Z l/\((ak i).k≠2\/nx S i<=r))\/(m2 r=Z l/\(∀κ,FK S ops.size (Hw ag i) κ r<|i+1)/\A'.obj r=(S<|i+1).H.obj r/\
  ((m r=T/\nx S i<=r/\r<nx S (i+1)/\m.upto (nx S i) r=T)\/((ak i).k=2/\m r=Z l/\r<nx S i))):=by
  intro r l h;rcases ao r l h with h|⟨I,W,h3',h4,h5⟩
  .by_cases z:(ak i).k≠2\/nx S i<=r
   .exact .inl ⟨h,z⟩
   .have M:(ak i).k=2:=gY λe=>z (.inl e);have Y:r<nx S i:=Nat.lt_of_not_le λe=>z<|.inr e;refine .inr ⟨bx r l h Y,λκ=>b6 M κ r Y,?_,.inr ⟨M,h,Y⟩⟩;rcases ab with⟨_,h,_⟩|⟨h,_⟩
    .exact h r
    .exact absurd M h
  .exact .inr ⟨W,λκ=>aq κ r l I W h3' h4,bg r h3' h4,.inl ⟨I,h3',h4,h5⟩⟩
 have bl:∀r E l U,m r=Z l->((ak i).k≠2\/nx S i<=r)->m2 E=Z U->
  ((m E=T/\nx S i<=E/\E<nx S (i+1)/\m.upto (nx S i) E=T)\/((ak i).k=2/\m E=Z U/\E<nx S i))->l.c=U.c->False:=by
  intro r E l U e z e' M B;obtain⟨o,ho⟩:=h1.ZN r l e;have V:=qD ho;rcases M with⟨_,_,_,cu⟩|⟨am,I,W⟩
  .obtain⟨am,r0,l0,f1,f2,f3,_⟩:=bc E U e' cu (by rw[<-B];exact V);rcases z with I|I
   .exact I am
   .have:=(h1.clash r r0 l l0 i e f1 (by rw[f2,B]) hi FL am).2 f3;omega
  .rcases z with h3|h3
   .exact h3 am
   .have:=(h1.clash r E l U i e I B hi FL am).2 W;omega
 refine⟨join m2 m,⟨?_,?_,?_,?_,?_,?_,?_,?_,?_,?_,?_,?_,?_⟩,ba,bf⟩
 .
  intro r l h;rcases ao r l h with h|⟨_,_,h3',h4,_⟩
  .exact(h1.dom r l h).imp id λ⟨j,I,W,h3⟩=>⟨j,I,.inl W,h3⟩
  .exact .inr ⟨i,hi,.inr O,h3',h4⟩
 .
  intro r l h;rcases ao r l h with h|⟨_,W,_⟩
  .obtain⟨o,ho⟩:=h1.ZN r l h;have:l.c<w'.heap.size:=aO (qD ho) ex.size;exact⟨w'.heap[l.c],bJ this⟩
  .obtain⟨o,ho,_⟩:=rh.ok r l W;exact⟨o,ho⟩
 .
  intro κ r l k o M hm hc ho;rcases Vw r l hm with⟨h,z⟩|⟨W,an,DR,_⟩
  .rw[b0 r l h z]at ho;exact(h1.cnt κ r l k o M h (hc.less λY=>ad κ r z Y) ho).mono<|Mp.yS ba<|ax _
  .obtain⟨o2,bw,cm⟩:=rh.ok r l W;rw[ho]at bw;cases bw;have ac:Rel κ m2 l (cont κ<|A'.obj r) o:=Rel.iE cm;rw[DR]at ac;have ca:at' S κ r (i+1)=at' S κ r k:=FK.eq u N M (an κ) hc;replace ac:Rel κ m2 l (at' S κ r<|i+1) o:=ac;rw[ca]at ac;rcases dH i k with hik|hik
   .exact ac.mono λr1 l1 I=>Mp.Ht (bp r1 l1 I)<|aO (a9 r1 l1 I)<|u _ _ hik M
   .
    have cq:=hc.1;have cn:r<nx S i:=aO cq<|u k i hik N
    have aE:m r=Z l:=by
     rcases ao r l hm with h|⟨_,_,h3',_⟩
     .exact h
     .omega
    have bh:at' S κ r i=at' S κ r (i+1):=by
     apply gY;intro a0;have:=(hc.2 i hi cn a0).1<|.inr O;omega
    obtain⟨o0,ck⟩:=h1.ZN r l aE;have bi:=h1.cnt κ r l k o0 M aE (hc.less λ_=>bh) ck
    have cj:Mp.le (m.upto<|nx S k) m2:=by
     intro r1 l1 I;have hu:=Mp.qE I;exact bx r1 l1 hu.2<|aO hu.1<|u k i hik N
    exact(Rel.restrict cj ac bi).mono<|Mp.yS ba<|ax _
 .
  intro r E l U k k' h h' B M bt hc bn hd bo;rcases Vw r l h with⟨e,z⟩|⟨e,an,DR,hw⟩<;>rcases Vw E U h' with⟨e',bm⟩|⟨e',bz,b7,cw⟩
  .exact h1.sep r E l U k k' e e' B M bt (hc.less λY=>ad T r z Y) (bn.less λY=>ad T E bm Y) hd bo
  .exact(bl r E l U e z e' cw B).elim
  .exact(bl E r U l e' bm e hw B.symm).elim
  .refine rh.sep r E l U e e' ?_ ?_ B
   .rw[DR];exact Da (FK.eq u M N hc<|an T) hd
   .rw[b7];exact Da (FK.eq u bt N bn<|bz T) bo
 .
  intro r E l U j h h' B hj N9 a7;have br:j≠i:=λe=>N9<|.inr e;have bb:¬ag j:=λe=>N9<|.inl e
  have al:∀r1,nx S i<=r1->r1<nx S (i+1)->(r1<nx S j<->i<j):=by
   intro r1 I W;constructor
   .intro h3;rcases dH i j with h4|h4
    .exact h4
    .have:=u j i h4 N;omega
   .intro h3;exact aO W<|u _ _ h3 N
  have a6:∀r E l U,m r=T->m2 r=Z l->nx S i<=r->r<nx S (i+1)->m.upto (nx S i) r=T->m E=Z U->l.c=U.c->(r<nx S j<->E<nx S j):=by
   intro r E l U I W h3 h4 h5 h6 B;obtain⟨o,ho⟩:=h1.ZN E U h6;obtain⟨am,r0,l0,f1,f2,f3,_⟩:=bc r l W h5 (by rw[B];exact qD ho)
   have cg:i<j:=by
    rcases dH i j with h7|h7
    .exact h7
    .have V:j<i:=N;have hb:=QI (g.dyn j i V hi) (.inr a7) (.inr am)<|.inl a7;exact absurd (oH g.back hD i _ (bJ hi) pX j hb) bb
   rw[al r h3 h4];have h8:r0<nx S j:=aO f3<|u i j N N;have:=(h1.clash E r0 U l0 j h6 f1 (by rw[f2,B]) hj bb a7).2 h8;exact⟨λ_=>this,λ_=>cg⟩
  rcases ao r l h with e|⟨a1,a2,a3,a4,a5⟩<;>rcases ao E U h' with e'|⟨b1,b2,b3,b4,b5⟩
  .exact h1.clash r E l U j e e' B hj bb a7
  .exact(a6 E r U l b1 b2 b3 b4 b5 e B.symm).symm
  .exact a6 r E l U a1 a2 a3 a4 a5 e' B
  .rw[al r a3 a4,al E b3 b4]
 .
  intro j r hj N9 Y hm
  have aE:m r=T:=by
   cases h:m r with
   |none=>rfl
   |some l=>have:=be r l h;rw[hm]at this;cases this
  rcases N9 with h|rfl
  .exact h1.hid j r hj h Y aE
  .rcases ab with⟨M,I,W⟩|⟨M,_⟩
   .rw[<-I,<-W];refine ex.hid r (by rw[hA];exact Y) ?_;unfold Mp.upto;rw[aE];simp
   .exact g.same hi M h3 Y
 .exactλr l h=>be r l<|h1.le r l h
 .
  intro r l h h0 V;rcases ao r l h with e|⟨a1,a2,a3,a4,a5⟩
  .exact h1.fresh r l e h0 V
  .obtain⟨am,r0,l0,f1,f2,f3,f4⟩:=bc r l a2 a5 (aO V h1.size)
   have ci:(S ops.size).H.low<=r0:=by
    rcases ar with I|I
    .rw[hA]at I;omega
    .exact aQ I f4
   cases I:m0 r0 with
   |some l1=>
    have:=h1.le r0 l1 I;rw[f1]at this;cases this;exact⟨r0,l0,I,f2,ci⟩
   |none=>
    obtain⟨r1,l1,g1,g2,g3⟩:=h1.fresh r0 l0 f1 I (by rw[f2];exact V);exact⟨r1,l1,g1,g2.trans f2,g3⟩
 .exact ex.os.trans h1.os
 .exact ex.tape.trans h1.tape
 .exact ex.output.trans h1.output
 .exact aQ h1.size ex.size
 .
  intro c hc M;rw[ex.keep c (aO hc h1.size),h1.keep c hc M];intro r l I W;have hu:=Mp.qE I;rcases ar with h3'|h3'
  .rw[hA]at h3';exact aO hu.1 h3'
  .cases h0:m0 r with
   |some l0=>
    have:=h1.le r l0 h0;rw[hu.2]at this;cases this;exact aO (M r l h0 W) h3'
   |none=>
    obtain⟨r0,l0,e1,e2,e3⟩:=h1.fresh r l hu.2 h0 (by rw[W];exact hc);have:=M r0 l0 e1<|e2.trans W;omega
end E
def zB{o:aC Unit}(h:rY o=F):o=Z ():=by
 cases o with
 |none=>cases h
 |some e=>rfl
def Pk{a b:Addr}(h:addrEq a b=F):a=b:=by
 obtain⟨r,o,s⟩:=a;obtain⟨z,o',s'⟩:=b;simp only[addrEq,bE]at h;obtain⟨⟨⟨I,W⟩,e⟩,u⟩:=h;have I:=bA I;have W:=bA W;cases s with
 |some _=>cases e
 |none=>cases s' with
  |some _=>cases u
  |none=>rw[I,W]
def Vx{a b:aC Addr}(h:K7 a b=F):a=b:=by
 cases a with
 |none=>cases b with
  |none=>rfl
  |some _=>cases h
 |some x=>cases b with
  |none=>cases h
  |some y=>rw[Pk (show addrEq x y=F from h)]
def ZO{a b:aC Nat}(h:aaZ a b=F):a=b:=by
 cases a with
 |none=>cases b with
  |none=>rfl
  |some _=>cases h
 |some x=>cases b with
  |none=>cases h
  |some y=>rw[bA (show aB x y=F from h)]
theorem SF{x y:D}(h:Cf x y=F):x=y:=by
 unfold Cf at h;simp only[lD]at h;rcases h with h|h|h|h|h|h|h
 .replace h:=zB h;obtain⟨a,u,h⟩:=aM h;obtain⟨b,z,h⟩:=aM h;obtain⟨e,h⟩:=gN h;rw[bE,LY,ni]at e;rw[rZ u,rZ z,Ch e.1,e.2]
 .replace h:=zB h;obtain⟨a,u,h⟩:=aM h;obtain⟨b,z,h⟩:=aM h;obtain⟨e,h⟩:=gN h;rw[qX u,qX z,Pk e]
 .replace h:=zB h;obtain⟨a,u,h⟩:=aM h;obtain⟨b,z,h⟩:=aM h;obtain⟨e,h⟩:=gN h;rw[bE,bE]at e;rw[yO u,yO z,Vx e.1.1,bA e.1.2,bA e.2]
 .replace h:=zB h;obtain⟨a,u,h⟩:=aM h;obtain⟨b,z,h⟩:=aM h;obtain⟨e,h⟩:=gN h;rw[LZ,ni]at e;rw[qN u,qN z,e]
 .replace h:=zB h;obtain⟨a,u,h⟩:=aM h;obtain⟨b,z,h⟩:=aM h;obtain⟨e,h⟩:=gN h;rw[AF,ni,jb,jb]at e
  have:a=b:=by
   obtain⟨⟨E⟩⟩:=a;obtain⟨⟨M⟩⟩:=b;simp at e;rw[e]
  rw[qY u,qY z,this]
 .replace h:=zB h;obtain⟨a,u,h⟩:=aM h;obtain⟨b,z,h⟩:=aM h;obtain⟨e,h⟩:=gN h;rw[E8 u,E8 z,ZO e]
 .unfold ahp at h;rw[bE,bE]at h;obtain⟨⟨I,W⟩,B⟩:=h;cases x<;>first|(replace I:aA=F:=I;cases I;done)|skip
  all_goals cases y<;>first|rfl|(replace W:aA=F:=W;cases W;done)|(replace B:aA=F:=B;cases B;done)|skip
  all_goals
   rename_i p q;cases p<;>cases q<;>first|rfl|(replace I:aA=F:=I;cases I;done)|(replace W:aA=F:=W;cases W;done)
def Pm(e:∀{x y:D},cs x y=F->x=y):∀{xs ys:C D},CU cs xs ys=F->xs=ys:=by
 intro xs
 induction xs with
 |nil=>
  intro ys h;cases ys with
  |nil=>rfl
  |cons y ys=>cases h
 |cons x xs u=>
  intro ys h;cases ys with
  |nil=>cases h
  |cons y ys=>
   replace h:cr (cs x y) (CU cs xs ys) aA=F:=h;cases I:cs x y with
   |false=>rw[I]at h;cases h
   |true=>
    rw[I]at h;rw[e I,u h]
def SG(u:∀{x y:D},cs x y=F->x=y){x y:D}(h:Xo cs x y=F):x=y:=by
 replace h:=zB h;obtain⟨a,z,h⟩:=aM h;obtain⟨b,B,h⟩:=aM h;obtain⟨g,E,h⟩:=aM h;obtain⟨k,I,h⟩:=aM h;obtain⟨e,h⟩:=gN h;rw[bE,bE]at e;rw[Qn z,Qn B,Qo E,Qo I,bA e.1.1,Pm u e.1.2,Pm u e.2]
def abM{x y:D}(h:qA x y=F):x=y:=by
 have e:∀{x y:D},FZ x y=F->x=y:=by
  intro x y h;unfold FZ at h;rw[lD]at h;rcases h with h|h
  .exact SF h
  .exact SG SF h
 unfold qA at h;rw[lD]at h;rcases h with h|h
 .exact e h
 .exact SG e h
theorem abN:∀{xs ys:C D},He xs ys=F->xs=ys:=by
 intro xs
 induction xs with
 |nil=>
  intro ys h;cases ys with
  |nil=>rfl
  |cons y ys=>cases h
 |cons x xs e=>
  intro ys h;cases ys with
  |nil=>cases h
  |cons y ys=>
   replace h:cr (qA x y) (He xs ys) aA=F:=h;cases I:qA x y with
   |false=>rw[I]at h;cases h
   |true=>
    rw[I]at h;rw[abM I,e h]
def F8{off:Nat}(h:H.read r off k=Z vs):∀j,j<k->nJ (H.obj r) (off+j)=vs[j]?/\j<J vs:=by
 intro j u;cases k with
 |zero=>omega
 |succ k=>
  replace h:(aN (xN<|H.obj r) λw=>gd (aD (a_ off<|k+1) w.n)<|Z<|Tr.FW top w.cells off<|k+1)=Z vs:=h;obtain⟨az,z,h⟩:=aM h;obtain⟨e,h⟩:=gN h;cases h;have e:off+(k+1)<=az.n:=aF e;rw[vN z,Xx _ _ _ _ _ u,Xw];refine⟨?_,u⟩;simp only[nJ];rw[if_pos N]
def QK{vn:R}{off:Nat}(h:sameAt A vn r off k=F):∀j,off<=j->j<off+k->nJ (A.obj r) j=nJ (vn.obj r) j:=by
 replace h:=zB h;obtain⟨x,M,h⟩:=aM h;obtain⟨y,z,h⟩:=aM h;obtain⟨u,h⟩:=gN h;intro j I W;have a1:=(F8 M (j-off) N).1;have e:=(F8 z (j-off) N).1;rw[show off+(j-off)=j from N]at a1 e;rw[a1,e,abN u]
theorem abO{o:nE}(e:Ml o=Ml o')(i:Nat):(nJ o i).isSome=(nJ o' i).isSome:=by
 cases o<;>cases o'<;>simp only[Ml]at e<;>first|rfl|cases e|skip
 case row.row az R'=>
  simp only[nE.row.injEq,Row.mk.injEq]at e;simp only[nJ,e.2.2.1];split<;>rfl
theorem Jl{off:Nat}(h:H.write r off vs=Z Q):
 Q.bU=H.bU/\(∀k,k≠r->Q.obj k=H.obj k)/\Ml (Q.obj r)=Ml (H.obj r)/\(∀i,¬(off<=i/\i<off+J vs)->nJ (Q.obj r) i=nJ (H.obj r) i)/\
  (∀i,off<=i->i<off+J vs->nJ (Q.obj r) i=vs[i-off]?)/\(vs≠[]->Q.low<=r):=by
 cases vs with
 |nil=>
  cases h;exact⟨O,λ_ _=>rfl,rfl,λ_ _=>rfl,λi a b=>by simp at b;omega,λh=>absurd O h⟩
 |cons v vs=>
  replace h:(aN (xN<|H.obj r) λw=>
   gd (!w.mR&&aD (a_ off<|len<|v::vs) w.n&&aD w.fz off&&all' fZ (v::vs))
   (Z<|H.put r<|.row ⟨w.ty,Tr.uY top (v::vs) off w.cells,w.n,aA,w.fz⟩))=Z Q:=h
  obtain⟨az,M,h⟩:=aM h;obtain⟨E,h⟩:=gN h;cases h;have z:=vN M;simp only[bE,ig]at E;obtain⟨⟨⟨u,B⟩,Y⟩,g3⟩:=E;have B:off+(v::vs).length<=az.n:=aF B;have u:az.mR=aA:=by simpa using u
  have e:(H.put r<|.row ⟨az.ty,Tr.uY top (v::vs) off az.cells,az.n,aA,az.fz⟩).obj r=.row ⟨az.ty,Tr.uY top (v::vs) off az.cells,az.n,aA,az.fz⟩:=by rw[x_,if_pos O]
  refine⟨O,λk V=>by rw[x_,if_neg V],?_,?_,?_,λ_=>(Lb _ _ _).1⟩
  .rw[e,z];simp only[Ml,u]
  .intro i U;rw[e,z];simp only[nJ];rw[Tr.nY,if_neg U]
  .intro i I W;rw[e];simp only[nJ];rw[if_pos N,Tr.nY,if_pos ⟨I,W⟩,aU,av N];rfl
section E
variable{P:aX}{cf:mJ}{S:Nat->St}
theorem Vy{o:Op}{p:cB×cB}(h:CZ o=Z p):∃t,o=.store t p.1 p.2:=by
 cases o<;>first|cases h|skip
 exact⟨_,O⟩
theorem ZP{o:Op}{p:aH×cB}(h:Jc o=Z p):o=.load p.1 p.2:=by
 cases o<;>first|cases h|skip
 rfl
structure ai2(P:aX)(cf:mJ)(ops:Array Oper)(o:Oper)(s s1:St)(c:Cl):Prop where
 ex:∃t x y a Q,o.op=.store t x y/\sU ops s o.guard=Z F/\sJ (ev s x)=Z a/\c=⟨3,a.block,a.off,len<|bY<|ev s y,hh0,hh0⟩/\
  Aw P t (ev s x) (ev s y) (iU s).H=Z (undef,Q)/\s1=jY s o.dst undef ⟨Q.xO,Q.bU,pW s.H.low Q.low⟩/\
  (iU s).H.write a.block a.off (bY<|ev s y)=Z Q
def Ck(s:St)(x:cB):ev (iU s) x=ev s x:=by cases x<;>rfl
def Jm{c:Cl}(h:Mr P cf ops o s s1 c)(B:c.k=3):ai2 P cf ops o s s1 c:=by
 cases h with
 |skip M=>cases B
 |DN v M I=>cases B
 |mem v Q M I=>
  rcases QJ (P:=P) (o:=o.op) (s:=s) (Q:=Q)with⟨p,a,hs,ha,e⟩|e|⟨hlow,⟨_,e⟩|e|⟨p,a,l,hs,ha,hl,e⟩⟩
  .obtain⟨t,z⟩:=Vy hs;rw[z]at I;have h:=qx (o:=Aw P t (ev (iU s) p.1) (ev (iU s) p.2) (iU s).H) I;rw[Ck,Ck]at h;have N:=h;obtain⟨W,u,h⟩:=aM h;obtain⟨s',U,h⟩:=aM h;obtain⟨Y,h⟩:=gN h;obtain⟨V,E,h⟩:=aM h;cases h;rw[ha]at u;cases u;exact⟨t,p.1,p.2,a,_,z,M,ha,e,N,O,E⟩
  all_goals(rw[e]at B;cases B)
def Rg.xH(g:Rg P cf ops n nt S ak)(Y:j<ops.size)(V:(ak j).k=3)(z:at' S κ r j≠at' S κ r (j+1)):
 r=(ak j).r/\∃i,κ=Z i/\(ak j).off<=i/\i<(ak j).off+(ak j).n:=by
 have hs:=Jm (g.step j _<|bJ Y) V;obtain⟨t,x,y,a,Q,ab,hw,ha,e,ac,M,N⟩:=hs.ex;obtain⟨_,I,W,U,_,_⟩:=Jl N;have B:∀k,(S<|j+1).H.obj k=Q.obj k:=by intro k;rw[M,nA];rfl
 have u:∀k,(iU<|S j).H.obj k=(S j).H.obj k:=λ_=>rfl;rw[e];simp only[ig]
 by_cases hr:r=a.block
 .subst hr;refine⟨O,?_⟩;cases κ with
  |none=>exact absurd (by show Ct.shape _=Ct.shape _;rw[B,W,u]) z
  |some i=>
   refine⟨i,O,?_⟩;apply gY;intro E;exact z (by show Ct.cell _=Ct.cell _;rw[B,U i E,u])
 .exact absurd (by show cont κ _=cont κ _;rw[B,I r hr,u]) z
def Rg.Vz(g:Rg P cf ops n nt S ak)(I:j<ops.size)(E:(ak j).k=3)(B:r≠(ak j).r):(S<|j+1).H.obj r=(S j).H.obj r:=by
 have hs:=Jm (g.step j _<|bJ I) E;obtain⟨t,x,y,a,Q,M,U,O,e,N,u,z⟩:=hs.ex;rw[e]at B;rw[u,nA];exact(Jl z).2.1 r B
def Db(h:zO x y=F)(u:x.r=y.r)(I:x.off<=i)(W:i<x.off+x.n)(z:y.off<=i)(B:i<y.off+y.n):False:=by
 unfold zO at h;rw[lD,lD]at h;rcases h with(h|h)|h
 .rw[u]at h;rw[show aB y.r y.r=F from dW _]at h;cases h
 .have:=aF h;have e:a_ x.off x.n=x.off+x.n:=rfl;omega
 .have:=aF h;have e:a_ y.off y.n=y.off+y.n:=rfl;omega
def Rg.XM(g:Rg P cf ops n nt S ak){l:Cl}(B:j<ops.size)(u:(ak j).k=2)(h:oQ (ak j) l=F)(I:l.off<=i)(W:i<l.off+l.n):at' S (Z i) l.r j=at' S (Z i) l.r (j+1):=by
 have hs:=g.step j _<|bJ B;generalize hcj:ak j=c at hs u h;generalize hsj:S (j+1)=s1 at hs;show Ct.cell (nJ ((S j).H.obj l.r) i)=Ct.cell (nJ ((S<|j+1).H.obj l.r) i);rw[hsj];cases hs with
 |skip z=>rw[nA]
 |DN v z E=>rw[nA]
 |mem v Q z E=>
  rw[nA];rcases QJ (P:=P) (o:=ops[j].op) (s:=S j) (Q:=Q)with⟨p,a,hs,ha,e⟩|e|⟨hlow,⟨_,e⟩|e|⟨p,a,l,hs,ha,hl,e⟩⟩
  .rw[e]at u;cases u
  .rw[e]at h;have:=QK (show sameAt (S j).H Q l.r l.off l.n=F from h) i I W;rw[this];rfl
  all_goals(rw[e]at u;cases u)
def Rg.anN(g:Rg P cf ops n nt S ak)(Y:Closed ops ag)(hi:i<ops.size)(FL:¬ag i)(pX:∀e,e∈ops[i].after.toList->g_ .any e=F->ag e.on)(hc:(ak i).k=4)(I:(ak i).off<=k)(W:k<(ak i).off+(ak i).n)(hr:(ak i).r<nx S i):FK S ops.size ag (Z k) (ak i).r i:=by
 refine⟨hr,λj z RV u=>?_⟩;have hcj:=g.turns z RV u;have U:ops[i]?=Z ops[i]:=bJ hi;have V:ops[j]?=Z ops[j]:=bJ z
 have B:(ak j).k=3->∀x y,zO x y=F->((x=ak j/\y=ak i)\/(x=ak i/\y=ak j))->False:=by
  intro h3 x y M ab;obtain⟨e1,i',e2,e3,e4⟩:=g.xH z h3 u;cases e2;rcases ab with⟨rfl,rfl⟩|⟨rfl,rfl⟩
  .exact Db M e1.symm e3 e4 I W
  .exact Db M e1 I W e3 e4
 rcases kY j i with h|h|h
 .refine⟨λ_=>h,λ_=>?_⟩;have E:=g.dyn j i h hi;rcases hcj with hcj|hcj
  .rcases aiZ E hcj hc with hb|hb
   .exact oH g.back Y i _ U pX j hb
   .exact absurd (g.XM z hcj hb I W) u
  .rcases aiX E hcj hc with hb|hb
   .exact oH g.back Y i _ U pX j hb
   .exact(B hcj _ _ hb<|.inl ⟨O,O⟩).elim
 .subst h;exact⟨λh=>absurd h FL,λh=>absurd h<|mG _⟩
 .refine⟨λN9=>?_,λh'=>N⟩;have E:=g.dyn i j h z
  have hb:iR (BS ops j) i=F:=by
   rcases hcj with hcj|hcj
   .rcases aiY E hc hcj with hb|hb
    .exact hb
    .exact absurd (g.XM z hcj hb I W) u
   .rcases aiW E hc hcj with hb|hb
    .exact hb
    .exact(B hcj _ _ hb<|.inr ⟨O,O⟩).elim
  exact absurd (oH g.back Y j _ V (Y j _ V N9) i hb) FL
def VA{x:D}{a:Addr}(h:xV P t x H=Z (v,Q))(M:VR m x x')(ha:sJ x=Z a)(hl:tLd P t=Z ld)(hm:m a.block=Z l)(SI:w.heap[l.c]?=Z ob)(hc:∀i ai,a.off<=i->i<a.off+ld.getD 1->nJ (H.obj a.block) i=Z ai->yT m l i ai ob):
 ∃v',VR m v v'/\(Instr.loadAt t x').run P w=.ok v' w:=by
 obtain⟨a0,ab,h⟩:=aM h;obtain⟨l0,ad,h⟩:=aM h;rw[ha]at ab;cases ab;rw[hl]at ad;cases ad;rw[qX ha]at M;obtain⟨l1,al,an,aE,rfl⟩:=M.vG;rw[hm]at al;cases al
 have u:∀i ai,a.off<=i->i<a.off+ld.getD 1->nJ (H.obj a.block) i=Z ai->∃Y,VR m ai Y/\w.cell? ⟨l.c,l.base+(i-l.lo),T⟩=Z Y:=by
  intro i ai I W h3;obtain⟨f,ty,fr,Y,e,h4,h5⟩:=hc i ai I W h3;subst e;exact⟨Y,h5,by rw[cell_of SI];exact h4⟩
 obtain⟨d,i,hd,hi,hk⟩:=U5 hl;rcases hk with⟨U,rfl⟩|⟨U,rfl⟩
 .replace h:(aN (H.read a.block a.off i.size) λvs=>Z (dP ⟨vs⟩,H))=Z (v,Q):=h;obtain⟨vs,B,h⟩:=aM h;cases h;have ao:=F8 B
  have ap:J vs=i.size:=by
   cases V:i.size with
   |zero=>rw[V]at B;cases B;rfl
   |succ k=>
    rw[V]at B;have h:=B;replace h:(aN (xN<|H.obj a.block) λw=>gd (aD (a_ a.off<|k+1) w.n)<|Z<|Tr.FW top w.cells a.off<|k+1)=Z vs:=h;obtain⟨az,hR,h⟩:=aM h;obtain⟨hg,h⟩:=gN h;cases h;exact Xw _ _ _ _
  have aq:∀(q:C D)(b:Nat),vs.drop b=q->∃q',mX m q q'/\∀j ai,q'[j]?=Z ai->w.cell? ((⟨l.c,l.base+(a.off-l.lo),T⟩:Addr).add<|b+j)=Z ai:=by
   intro q
   induction q with
   |nil=>intro b _;exact⟨[],.nil,gD⟩
   |cons ai q ih=>
    intro b hb
    have ac:vs[b]?=Z ai:=by
     have:=fq List.head? hb
     rwa [List.head?_drop]at this
    have ar:b<J vs:=(bI.1 ac).1;obtain⟨q',I,W⟩:=ih (b+1) (by rw[<-List.tail_drop,hb];rfl);obtain⟨Y,h3,h4⟩:=u (a.off+b) ai N (by show a.off+b<a.off+i.size;omega) (by rw[(ao b N).1];exact ac);refine⟨Y::q',.cons _ _ _ _ h3 I,?_⟩;intro j z V;cases j with
    |zero=>
     simp at V;subst V;rw[d_,Fe l a.off _ an];exact h4
    |succ j=>
     have:=W j z (by simpa using V);rw[show b+(j+1)=b+1+j from N];exact this
  obtain⟨am,I,W⟩:=aq vs 0 O;have E:=run_loadCells_list (P:=P) w ⟨l.c,l.base+(a.off-l.lo),T⟩ am (λj ai hu=>by have:=W j ai hu;rwa [bB]at this);rw[<-I.length,ap]at E;exact⟨.agg ⟨am⟩,.agg _ _ I,by simp[Instr.loadAt,kK,loadVar,xG hd,U,kD hi,E]⟩
 .replace h:(aN (H.cell a.block a.off) λv=>Z (v,H))=Z (v,Q):=h;obtain⟨ai,hu,h⟩:=aM h;cases h;have h:=hu;obtain⟨az,hR,h⟩:=aM h;obtain⟨hg,h⟩:=gN h;cases h;have hg:a.off+1<=az.n:=aF hg;obtain⟨v',I,W⟩:=u a.off (az.cells.get top a.off) (ax _) (by show a.off<a.off+1;omega) (by rw[vN hR];simp only[nJ];rw[if_pos N]);exact⟨v',I,by simp[Instr.loadAt,kK,loadVar,xG hd,U,W]⟩
theorem abP{o:Op}(Y:Bz o=F)(h:Aa o P cf s=.mem v Q):
 ∃ob,Q=s.H.new ob/\∀A:R,A.bU=s.H.bU->Aa o P cf ⟨s.nl,s.nt,s.reg,s.tm,s.df,A⟩=.mem v (A.new ob):=by
 cases o<;>first|cases Y|skip
 case alloc e=>
  replace h:=qx (o:=D_ P e s.H) h;obtain⟨z,N,h⟩:=aM h;cases h;refine⟨_,O,λA u=>?_⟩;show rm (aN (BP P e) λz=>Z (OW A.bU,A.new<|rowOf e z))=_;rw[N,u];rfl
 case box e x=>
  replace h:=qx (o:=LQ e (ev s x) s.H) h;obtain⟨I,h⟩:=gN h;cases h;refine⟨_,O,λA u=>?_⟩;have E:ev ⟨s.nl,s.nt,s.reg,s.tm,s.df,A⟩ x=ev s x:=by cases x<;>rfl
  show rm (gd (rJ<|ev ⟨s.nl,s.nt,s.reg,s.tm,s.df,A⟩ x)<|Z (OW A.bU,A.new<|rowOf e<|bY<|ev ⟨s.nl,s.nt,s.reg,s.tm,s.df,A⟩ x))=_;rw[E,I,u];rfl
 case makeMap t r=>
  replace h:=qx (o:=vD P t (KB s r) s.H) h;obtain⟨q,M,h⟩:=aM h;obtain⟨I,h⟩:=gN h;cases h;refine⟨_,O,λA u=>?_⟩
  have E:KB ⟨s.nl,s.nt,s.reg,s.tm,s.df,A⟩ r=KB s r:=by
   cases r with
   |none=>rfl
   |some x=>cases x<;>rfl
  show rm (aN (vz P t) λ_=>gd (@aP D (λ_=>Bool) F (λv=>!(fQ<|vw v))<|KB ⟨s.nl,s.nt,s.reg,s.tm,s.df,A⟩ r)<|Z (fK<|Z A.bU,A.new<|.map []))=_;rw[E,M,u];show rm (gd (@aP D (λ_=>Bool) F (λv=>!(fQ<|vw v))<|KB s r) _)=_;rw[I];rfl
 case makeSlice t l c=>
  replace h:=qx (o:=sK P t (ev s l) (ev s c) s.H) h;obtain⟨q,M,h⟩:=aM h;obtain⟨i,hi,h⟩:=aM h;obtain⟨z,N,h⟩:=aM h;obtain⟨k,hk,h⟩:=aM h;obtain⟨k2,V,h⟩:=aM h;obtain⟨I,h⟩:=gN h;cases h;refine⟨_,O,λA u=>?_⟩;have E:ev ⟨s.nl,s.nt,s.reg,s.tm,s.df,A⟩ l=ev s l:=by cases l<;>rfl
  have W:ev ⟨s.nl,s.nt,s.reg,s.tm,s.df,A⟩ c=ev s c:=by cases c<;>rfl
  show rm (sK P t (ev ⟨s.nl,s.nt,s.reg,s.tm,s.df,A⟩ l) (ev ⟨s.nl,s.nt,s.reg,s.tm,s.df,A⟩ c) A)=_;unfold sK;rw[E,W,M];show rm (aN (tI P q.1) _)=_;rw[hi];show rm (aN (BP P q.1) _)=_;rw[N];show rm (aN (Bh<|ev s l) _)=_;rw[hk];show rm (aN (Bh<|ev s c) _)=_;rw[V];show rm (gd _ _)=_;rw[I,u];rfl
 case buildSlice t k B=>
  replace h:=qx (o:=vC P t k (Qk s B) s.H) h;obtain⟨q,M,h⟩:=aM h;obtain⟨z,N,h⟩:=aM h;obtain⟨I,h⟩:=gN h;obtain⟨f,U,h⟩:=aM h;cases h;refine⟨_,O,λA u=>?_⟩
  have E:Qk ⟨s.nl,s.nt,s.reg,s.tm,s.df,A⟩ B=Qk s B:=by
   obtain⟨B⟩:=B;show mp (λp=>(p.1,ev ⟨s.nl,s.nt,s.reg,s.tm,s.df,A⟩ p.2)) B=mp (λp=>(p.1,ev s p.2)) B;congr 1;funext p;cases p.2<;>rfl
  show rm (vC P t k (Qk ⟨s.nl,s.nt,s.reg,s.tm,s.df,A⟩ B) A)=_;unfold vC;rw[E,M];show rm (aN (BP P q.1) _)=_;rw[N];show rm (gd _ _)=_;rw[I];show rm (aN (FJ _ (Qk s B) _) _)=_;rw[U,u];rfl
end E
section E
variable{P:aX}{cf:mJ}{S:Nat->St}
def oO.cells{o:nE}{f cs':Array D}{fr:Nat×Nat}(h:oO m l o<|.cells f ty fr)(hs:cs'.size=f.size):oO m l o (.cells cs' ty fr):=by
 cases o with
 |dead=>trivial
 |row az=>
  have⟨I,W,h3,h4,h5,h6⟩:=h;exact⟨I,W,by rw[hs];exact h3,h4,h5,h6⟩
 |map es=>exact h.elim
 |OU s p=>exact h.elim
theorem Rg.anO(g:Rg P cf ops n nt S ak)(M:Closed ops ag)(hi:i<ops.size)(U:¬ag i)(O:∀e,e∈ops[i].after.toList->g_ .any e=F->ag e.on)(B:(ak i).k=3):(∀j,j<ops.size->(ak j).k=2->j<i/\ag j)/\∀r,r<nx S i->FK S ops.size ag T r i:=by
 have E:ops[i]?=Z ops[i]:=bJ hi
 have W:∀j,j<ops.size->(ak j).k=2->j<i/\ag j:=by
  intro j u hcj;rcases kY j i with h|h|h
  .exact⟨h,oH g.back M i _ E O j<|XJ (g.dyn j i h hi) (.inr hcj) B⟩
  .subst h;rw[B]at hcj;cases hcj
  .exact(XI (g.dyn i j h u) B<|.inr hcj).elim
 refine⟨W,λr N=>⟨N,λj u I z=>?_⟩⟩;rcases g.turns u I z with hcj|hcj
 .have:=W j u hcj;exact⟨λ_=>this.1,λ_=>this.2⟩
 .have⟨_,k,hk,_⟩:=g.xH u hcj z;cases hk
def VB(p:Nat->Bool):∀d k,p k=F->p (k+d)=aA->∃j,k<=j/\j<k+d/\p j=F/\p (j+1)=aA:=by
 intro d
 induction d with
 |zero=>intro k I W;rw[d_,I]at W;cases W
 |succ d e=>
  intro k I W;cases hp:p (k+1)with
  |false=>exact⟨k,ax _,N,I,hp⟩
  |true=>
   have⟨j,a1,a2,a3⟩:=e (k+1) hp (by rw[show k+1+d=k+(d+1)from N];exact W);exact⟨j,N,N,a3⟩
theorem MInv.stored(g:Rg P cf ops n nt S ak)(hD:Closed ops ag)(h1:MInv S ak ops.size m0 w0 ag m w)(hi:i<ops.size)(FL:¬ag i)(pX:∀e,e∈ops[i].after.toList->g_ .any e=F->ag e.on)(hc:(ak i).k=3){x y:cB}{y':D}{a:Addr}(ha:sJ (ev (S i) x)=Z a)(ap:ak i=⟨3,a.block,a.off,len<|bY<|ev (S i) y,hh0,hh0⟩)(bh:Aw P t (ev (S i) x) (ev (S i) y) (iU<|S i).H=Z (undef,Q))(bg:(S<|i+1).H=⟨Q.xO,Q.bU,pW (S i).H.low Q.low⟩)(U:(iU<|S i).H.write a.block a.off (bY<|ev (S i) y)=Z Q)(M:VR (m.upto<|nx S i) (ev (S i) x) x')(hy:VR (m.upto<|nx S i) (ev (S i) y) y'):
 ∃w',(Instr.storeAt t x' y').run P w=.ok () w'/\MInv S ak ops.size m0 w0 (Hw ag i) m w':=by
 have E:=g.mono;have h0:=bh;have h:=bh;have⟨a1,ha1,h⟩:=aM h;have⟨sz,a9,h⟩:=aM h;have⟨hgl,h⟩:=gN h;have⟨H1,hH1,h⟩:=aM h;cases h;rw[ha]at ha1;cases ha1;obtain⟨ca,wP,rfl⟩:=si a9;have ar:=bA hgl;rw[ig]at ar;rw[qX ha]at M;obtain⟨l,bz,ci,cj,rfl⟩:=M.vG;have hu:=Mp.qE bz
 have b5:ev (S i) y≠top:=by
  intro e;rw[e]at U
  replace U:(aN (xN<|(iU<|S i).H.obj a.block) λw=>
   gd (!w.mR&&aD (a_ a.off<|len [top]) w.n&&aD w.fz a.off&&all' fZ [top])
   (Z<|(iU<|S i).H.put a.block<|.row ⟨w.ty,Tr.uY top [top] a.off w.cells,w.n,aA,w.fz⟩))=Z Q:=U
  have h:=U;have⟨az,hR,h⟩:=aM h;have⟨hg,h⟩:=gN h;simp[all_eq,fZ,top]at hg
 have aq:=C8 hy b5
 have bc:∀w',(storeCells ⟨l.c,l.base+(a.off-l.lo),T⟩<|bY y').run P w=.ok () w'->(Instr.storeAt t (.pointer<|Z ⟨l.c,l.base+(a.off-l.lo),T⟩) y').run P w=.ok () w':=by
  intro w' b9;have a9:y'.cells.size=ca.size:=by rw[Eb];show(bY y').length=_;rw[<-aq.length,ar]
  have ap:y'.cells.toList=bY y':=(E9 y').symm;simp only[Instr.storeAt,kK,storeVar,dB,dS,bT,kD wP,a9,ne_eq,vv,lQ,ap];exact b9
 have bi:=Jl U;have SI:∀k,(S<|i+1).H.obj k=Q.obj k:=by intro k;rw[bg];rfl
 by_cases hnil:bY (ev (S i) y)=[]
 .rw[hnil]at U
  have bo:(iU<|S i).H=Q:=by
   have:Z (iU<|S i).H=Z Q:=U;injection this
  have b0:bY y'=[]:=by
   have:=aq.length;rw[hnil]at this;exact jf this.symm
  refine⟨w,bc w (by rw[b0];simp[storeCells]),h1.still hi λr hr=>?_⟩;rw[SI,<-bo];rfl
 .
  have⟨XN,VC⟩:=g.anO hD hi FL pX hc;have⟨ob,af0⟩:=h1.ZN _ _ hu.2;have b8:=h1.cnt T _ _ i ob N hu.2 (VC _ hu.1) af0
  have a8:∃az,(S i).H.obj a.block=.row az/\az.mR=aA/\a.off+(bY<|ev (S i) y).length<=az.n/\az.fz<=a.off/\(bY<|ev (S i) y).all fZ=F:=by
   cases hvs:bY (ev (S i) y)with
   |nil=>exact absurd hvs hnil
   |cons ai us=>
    rw[hvs]at U
    replace U:(aN (xN<|(iU<|S i).H.obj a.block) λw=>
     gd (!w.mR&&aD (a_ a.off<|len<|ai::us) w.n&&aD w.fz a.off&&all' fZ (ai::us))
     (Z<|(iU<|S i).H.put a.block<|.row ⟨w.ty,Tr.uY top (ai::us) a.off w.cells,w.n,aA,w.fz⟩))=Z Q:=U
    have h:=U;have⟨az,hR,h⟩:=aM h;have⟨hg,h⟩:=gN h;simp only[bE,ig,all_eq]at hg;exact⟨az,vN hR,nZ hg.1.1.1,aF hg.1.1.2,aF hg.1.2,hg.2⟩
  have⟨az,hR,hse,hbd,hfz,hoc⟩:=a8
  have a5:oO (m.upto<|nx S i) l (.row az) ob:=by
   have:oO (m.upto<|nx S i) l (Ml<|(S i).H.obj a.block) ob:=b8;rw[hR]at this;exact this.Vs O
  cases ob with
  |cells f ty fr=>
   have⟨⟨e1,e2⟩,e3,e4,e5,e6,e7⟩:=a5;have ab:(bY y').length=(bY<|ev (S i) y).length:=aq.length.symm
   have⟨w',cs',r1,r2,r3,r4,r5,r6,r7,r8,r9⟩:=AJ (P:=P) l.c (l.base+(a.off-l.lo)) ty fr (bY y') 0 f w af0 (Ec aq hoc) (by rw[ab];omega)
    (λj b1 b2 b3=>by have:=e7 hse;omega)
   refine⟨w',bc w' r1,?_⟩;have a3:(ak i).r=a.block:=by rw[ap]
   have am:(ak i).off=a.off:=by rw[ap]
   have a6:(ak i).n=(bY<|ev (S i) y).length:=by rw[ap];exact ig _
   have ad:∀κ r,(r≠a.block\/∀k,κ=Z k->¬(a.off<=k/\k<a.off+(bY<|ev (S i) y).length))->at' S κ r i=at' S κ r (i+1):=by
    intro κ r b7;apply gY;intro Y;have⟨f1,k,f2,f3,f4⟩:=g.xH hi hc Y;rw[a3]at f1;rw[am]at f3;rw[am,a6]at f4;rcases b7 with h|h
    .exact h f1
    .exact h k f2 ⟨f3,f4⟩
   have bl:(S i).H.obj a.block≠.dead:=by rw[hR];simp
   have al:∀r V k κ,r≠a.block->m r=Z V->V.c=l.c->k<=ops.size->FK S ops.size ag κ r k->∀o,Rel κ (m.upto<|nx S k) V (at' S κ r k) o:=by
    intro r V k κ Y an a4 hk u o
    have O':∀k',k'<=ops.size->FK S ops.size ag T r k'->(S k').H.obj r=.dead:=by
     intro k' bv bj;apply gY;intro b4;exact Y<|h1.sep r a.block V l k' i an hu.2 a4 bv N bj (VC _ hu.1) b4 bl
    cases κ with
    |none=>
     show Rel T _ _ (.shape<|Ml<|(S k).H.obj r) o;rw[O' k hk u];trivial
    |some q=>
     show Rel (Z q) _ _ (.cell<|nJ ((S k).H.obj r) q) o;cases hca:nJ ((S k).H.obj r) q with
     |none=>trivial
     |some z=>
      exfalso
      have bb:∀j,j<ops.size->r<nx S j->(ak j).k≠2->(nJ ((S j).H.obj r) q).isSome=(nJ ((S<|j+1).H.obj r) q).isSome:=by
       intro j hj RV W;apply abO;apply gY;intro ac;have aE:at' S T r j≠at' S T r (j+1):=λe=>ac (by injection e);rcases g.turns hj RV aE with h3|h3
       .exact W h3
       .have⟨_,_,h4,_⟩:=g.xH hj h3 aE;cases h4
      by_cases hri:r<nx S i
      .have hd:=O' i N (VC r hri);have hz:nJ ((S i).H.obj r) q=T:=by rw[hd];rfl
       rcases dH k i with hki|hki
       .have⟨j,f1,f2,f3,f4⟩:=VB (λk=>(nJ ((S k).H.obj r) q).isSome) (i-k) k (by simp[hca]) (by
         show(nJ ((S<|k+(i-k)).H.obj r) q).isSome=aA;rw[show k+(i-k)=i from N,hz];rfl)
        have RV:r<nx S j:=aO u.1<|E k j f1 N
        have bt:(ak j).k=2:=gY λe=>by
         have:=bb j N RV e;rw[f3,f4]at this;cases this
        have bn:at' S (Z q) r j≠at' S (Z q) r (j+1):=by
         intro e;have e:nJ ((S j).H.obj r) q=nJ ((S<|j+1).H.obj r) q:=by injection e
         rw[e,f4]at f3;cases f3
        have:=(u.2 j N RV bn).1 (XN j N bt).2;omega
       .have:∀d,i+d<=ops.size->(nJ ((S<|i+d).H.obj r) q).isSome=aA:=by
         intro d
         induction d with
         |zero=>intro _;rw[d_,hz];rfl
         |succ d ih=>
          intro cg
          have h9:=bb (i+d) N (aO hri<|E i (i+d) N N) (λe=>by
           have:=(XN (i+d) N e).1;omega)
          rw[show i+(d+1)=i+d+1 from O,<-h9];exact ih N
        have:=this (k-i) N;rw[show i+(k-i)=k from N,hca]at this;cases this
      .have bp:FK S ops.size ag T r k:=by
        refine⟨u.1,λj hj RV ac=>?_⟩;exfalso;rcases g.turns hj RV ac with h3|h3
        .have:=(XN j hj h3).1;have:=E j i N N;omega
        .have⟨_,_,h4,_⟩:=g.xH hj h3 ac;cases h4
       rw[O' k hk bp]at hca;cases hca
   refine⟨?_,?_,?_,?_,?_,?_,h1.le,h1.fresh,r7.trans h1.os,r8.trans h1.tape,r9.trans h1.output,by rw[r6];exact h1.size,?_⟩
   .exactλr l h=>(h1.dom r l h).imp id λ⟨j,I,W,h3⟩=>⟨j,I,.inl W,h3⟩
   .intro r V I;have⟨o,ho⟩:=h1.ZN r V I;have:V.c<w'.heap.size:=by rw[r6];exact qD ho
    exact⟨w'.heap[V.c],bJ this⟩
   .
    intro κ r V k o hk an u ho
    by_cases hr:r=a.block
    .subst hr;rw[hu.2]at an;have bw:l=V:=by injection an
     subst bw;rw[r2]at ho;have ho:Obj.cells cs' ty fr=o:=by injection ho
     subst ho
     by_cases hin:∃q,κ=Z q/\a.off<=q/\q<a.off+(bY<|ev (S i) y).length
     .obtain⟨q,rfl,q1,q2⟩:=hin
      have bm:FK S ops.size (Hw ag i) (Z q) a.block (i+1):=by
       refine⟨aO hu.1<|g.SE hi,λj hj RV Y=>?_⟩;rcases g.turns hj RV Y with W|h3
       .have:=XN j hj W;exact⟨λ_=>N,λ_=>.inl this.2⟩
       .have⟨f1,q',f2,f3,f4⟩:=g.xH hj h3 Y;cases f2;have b6:ops[i]?=Z ops[i]:=bJ hi;have bf:ops[j]?=Z ops[j]:=bJ hj;rcases kY j i with h|h|h
        .rcases abJ (g.dyn j i h hi) h3 hc with hb|hb
         .exact⟨λ_=>N,λ_=>.inl<|oH g.back hD i _ b6 pX j hb⟩
         .exact(Db hb (by rw[<-f1,a3]) f3 f4 (by rw[am];exact q1) (by rw[am,a6];exact q2)).elim
        .subst h;exact⟨λ_=>N,λ_=>.inr O⟩
        .rcases abJ (g.dyn i j h hj) hc h3 with hb|hb
         .refine⟨λhw=>?_,λh'=>N⟩;rcases hw with N9|e
          .exact absurd (oH g.back hD j _ bf (hD j _ bf N9) i hb) FL
          .omega
         .exact(Db hb (by rw[<-f1,a3]) (by rw[am];exact q1) (by rw[am,a6];exact q2) f3 f4).elim
      have br:at' S (Z q) a.block (i+1)=at' S (Z q) a.block k:=FK.eq E N hk bm u;have ao:nJ ((S<|i+1).H.obj a.block) q=(bY<|ev (S i) y)[q-a.off]?:=by rw[SI];exact bi.2.2.2.2.1 q q1 q2
      have a2:Rel (Z q) (m.upto<|nx S i) l (at' S (Z q) a.block k) (.cells cs' ty fr):=by
       rw[<-br];show Rel (Z q) _ l (.cell<|nJ ((S<|i+1).H.obj a.block) q) _;rw[ao];cases hz:(bY<|ev (S i) y)[q-a.off]? with
       |none=>trivial
       |some z=>
        intro be;have⟨z',f1,f2⟩:=aq.get _ hz;refine⟨cs',ty,fr,z',O,?_,f2⟩;rw[r4,if_pos (by rw[ab];omega),show l.base+(q-l.lo)-(l.base+(a.off-l.lo)+0)=q-a.off from N];exact f1
      rcases dH i k with hik|hik
      .exact a2.mono<|Mp.yS (λ_ _ h=>h)<|E i k N hk
      .have a0:at' S (Z q) a.block i=at' S (Z q) a.block (i+1):=by
        apply gY;intro Y;have:=(u.2 i hi hu.1 Y).1<|.inr O;omega
       have B:=h1.cnt (Z q) _ _ k _ hk hu.2 (u.less λ_=>a0) af0;exact Rel.restrict (Mp.yS (λ_ _ h=>h)<|E k i hik N) a2 B
     .have a0:at' S κ a.block i=at' S κ a.block (i+1):=ad κ _ (.inr λq e h=>hin ⟨q,e,h.1,h.2⟩);have B:=h1.cnt κ _ _ k _ hk hu.2 (u.less λ_=>a0) af0;cases κ with
      |none=>
       have B:oO (m.upto<|nx S k) l (Ml<|(S k).H.obj a.block) (.cells f ty fr):=B;exact B.cells r3
      |some q=>
       have B:Rel (Z q) (m.upto<|nx S k) l (.cell<|nJ ((S k).H.obj a.block) q) (.cells f ty fr):=B;show Rel (Z q) (m.upto<|nx S k) l (.cell<|nJ ((S k).H.obj a.block) q)<|.cells cs' ty fr;cases hz:nJ ((S k).H.obj a.block) q with
       |none=>trivial
       |some z=>
        rw[hz]at B;intro be;have⟨cs0,ty0,fr0,v,f1,f2,f3⟩:=B be;cases f1;refine⟨cs',ty,fr,v,O,?_,f3⟩;rw[r4,if_neg]
        .exact f2
        .rw[ab];intro hh;exact hin ⟨q,O,N,N⟩
    .have a0:at' S κ r i=at' S κ r (i+1):=ad κ r (.inl hr);have Po:=u.less λ_=>a0
     by_cases a4:V.c=l.c
     .exact al r V k κ hr an a4 hk Po o
     .rw[r5 _ a4]at ho;exact h1.cnt κ r V k o hk an Po ho
   .intro r r' V ba k k' I W h3 h4 h5 h6 h7 h8 h9;exact h1.sep r r' V ba k k' I W h3 h4 h5 (h6.less λ_=>ad T r<|.inr λq e=>by cases e) (h7.less λ_=>ad T r'<|.inr λq e=>by cases e) h8 h9
   .exactλr r' V ba j I W h3 h4 h5 h6=>h1.clash r r' V ba j I W h3 h4 (λh=>h5<|.inl h) h6
   .intro j r hj N9 hr a7;rcases N9 with h|rfl
    .exact h1.hid j r hj h hr a7
    .refine g.Vz hi hc ?_;rw[a3];intro e;rw[e,hu.2]at a7;cases a7
   .intro c bd hk;rw[r5,h1.keep c bd hk];intro e
    have bx:(S ops.size).H.low<=a.block:=by
     have f1:=g.low (i+1) ops.size N<|ax _;rw[bg]at f1;have f2:(S ops.size).H.low<=pW (S i).H.low Q.low:=f1;exact aQ f2<|aQ (Fh _ _).2<|bi.2.2.2.2.2 hnil
    cases h0':m0 a.block with
    |some l0=>
     have:=h1.le _ _ h0';rw[hu.2]at this;cases this;have:=hk _ _ h0' e.symm;omega
    |none=>
     have⟨r0,l0,f1,f2,f3⟩:=h1.fresh _ _ hu.2 h0' (by rw[<-e];exact bd);have:=hk r0 l0 f1 (by rw[f2,e]);omega
  |map BB c=>exact a5.elim
  |_=>exact a5.elim
end E
def Ao(hd:Mi s.nt d=F)(t:Nat):jc (jY s d v H) t=if d=Z t then v else jc s t:=by
 cases d with
 |none=>rfl
 |some d=>
  have hd:d<s.nt:=aF hd;show jc (sM s d v H) t=_;unfold sM;cases hb:iR s.nl d with
  |true=>
   show jc ⟨s.nl,s.nt,s.reg,cr (aD (dh d) s.nt) (s.tm.set top d v) s.tm,s.df,H⟩ t=_;rw[show aD (dh d) s.nt=F from aG hd];show cr (iR s.nl t) ((s.tm.set top d v).get top t) (look s.reg t)=_;rw[Tr.w9]
   by_cases e:d=t
   .subst e;rw[hb,if_pos O,if_pos O];rfl
   .rw[if_neg (qJ e),if_neg<|nZ e];rfl
  |false=>
   show cr (iR s.nl t) (s.tm.get top t) (cr (aB d t) v<|look s.reg t)=_
   by_cases e:d=t
   .subst e;rw[hb,if_pos O,show aB d d=F from dW d];rfl
   .rw[if_neg (nZ e),show aB d t=aA from by rw[<-dn];exactλg=>e<|bA g];rfl
section E
variable{P:aX}{cf:mJ}{S:Nat->St}
def af1(ops:Array Oper)(ag:Nat->Prop)(t k:Nat):Prop:=∀(j:Nat)(o:Oper),ops[j]?=Z o->o.dst=Z t->(ag j<->j<k)
structure Inv(ops:Array Oper)(nt:Nat)(S:Nat->St)(ak:Nat->Cl)(m0:Mp)(w0:cZ)(d0:C Deferred)(ag:Nat->Prop)(m:Mp)(a:Act)(w:cZ):Prop where
 mem:MInv S ak ops.size m0 w0 ag m w
 size:a.tmps.size=nt
 slot:∀t k,k<=ops.size->af1 ops ag t k->VR (m.upto<|nx S k) (jc (S k) t) (a.tmps.getD t undef)
 de:a.defers=d0
def Rg.look(g:Rg P cf ops n nt S ak)(ho:ops[j]?=Z o)(t:Nat)(h:o.dst≠Z t):jc (S<|j+1) t=jc (S j) t:=by
 have hs:=g.step j o ho
 have e:Mi (S j).nt o.dst=F:=by
  have:=g.ok j o ho;unfold yR at this;rw[bE]at this;rw[g.nts j o ho];exact this.2
 generalize S (j+1)=s1 at hs;generalize ak j=c at hs;cases hs with
 |skip u=>rw[Ao e,if_neg h]
 |DN v u z=>rw[Ao e,if_neg h]
 |mem v Q u z=>rw[Ao e,if_neg h]
def get_put(hs:a.tmps.size=nt)(hd:Mi nt d=F)(t:Nat):(a.put d v).tmps.getD t undef=if d=Z t then v else a.tmps.getD t undef:=by
 cases d with
 |none=>rfl
 |some d=>
  have hd:d<nt:=aF hd;show(a.tmps.setIfInBounds d v).getD t undef=_
  by_cases e:d=t
  .subst e;rw[if_pos O];simp[Array.getD,hs,hd]
  .rw[if_neg (nZ e)];simp only[iH];rw[lC e]
def abR:(a.put d v).tmps.size=a.tmps.size:=by
 cases d with
 |none=>rfl
 |some d=>show(a.tmps.setIfInBounds d v).size=_;simp
def ZQ(g:Rg P cf ops n nt S ak)(hD:Closed ops ag)(ab:a.tmps.size=nt)(Y:∀t k,k<=ops.size->af1 ops ag t k->VR (m.upto<|nx S k) (jc (S k) t) (a.tmps.getD t undef))(hi:i<ops.size)(FL:¬ag i)(hm:Mp.le m m')(hv:VR (m'.upto<|nx S<|i+1) v v')(Pp:∀t,ops[i].dst=Z t->jc (S<|i+1) t=v):
 ∀t k,k<=ops.size->af1 ops (Hw ag i) t k->VR (m'.upto<|nx S k) (jc (S k) t) ((a.put ops[i].dst v').tmps.getD t undef):=by
 intro t k hk u;have B:ops[i]?=Z ops[i]:=bJ hi
 have hd:Mi nt ops[i].dst=F:=by
  have:=g.ok i _ B;unfold yR at this;rw[bE]at this;exact this.2
 rw[get_put ab hd]
 by_cases e:ops[i].dst=Z t
 .rw[if_pos e];have V:i<k:=(u i _ B e).1<|.inr O
  have E:∀d,i+1+d<=k->jc (S<|i+1+d) t=v:=by
   intro d
   induction d with
   |zero=>intro _;exact Pp t e
   |succ d ih=>
    intro ac;have M:i+1+d<ops.size:=N;have z:ops[i+1+d]?=Z ops[i+1+d]:=bJ M;rw[show i+1+(d+1)=i+1+d+1 from O,g.look z t ?_,ih N];intro U;have N9:ag (i+1+d):=((u _ _ z U).2 N).resolve_right N;rcases g.stat i (i+1+d) _ _ N B z with hb|hap
    .exact FL<|oH g.back hD _ _ z (hD _ _ z N9) i hb
    .exact(Oper.apart_spec hap).2.1 t e U
  have:=E (k-(i+1)) N;rw[show i+1+(k-(i+1))=k from N]at this;rw[this];exact hv.mono<|Mp.yS (λ_ _ h=>h)<|g.mono _ _ V hk
 .rw[if_neg e];refine(Y t k hk ?_).mono<|Mp.yS hm<|ax _;intro j o M I
  have W:j≠i:=by
   intro U;subst U;rw[B]at M;cases M;exact e I
  rw[<-u j o M I];exact⟨.inl,λh=>h.resolve_right W⟩
def abS(g:Rg P cf ops n nt S ak)(E:Closed ops ag)(hi:i<ops.size)(M:¬ag i)(U:∀e,e∈ops[i].after.toList->g_ .any e=F->ag e.on){t:Nat}(ht:t∈ops[i].looksAt ops):af1 ops ag t i:=by
 intro j o B z;have u:ops[i]?=Z ops[i]:=bJ hi;rcases kY j i with h|h|h
 .refine⟨λ_=>h,λ_=>?_⟩;rcases g.stat j i _ _ h B u with I|hap
  .exact oH g.back E i _ u U j I
  .exact absurd ht<|(Oper.apart_spec hap).1 t z
 .subst h;exact⟨λh=>absurd h M,λh=>absurd h<|mG _⟩
 .refine⟨λO=>?_,λV=>N⟩;rcases g.stat i j _ _ h u B with I|hap
  .exact absurd (oH g.back E j _ B (E j _ B O) i I) M
  .exact absurd ht<|(Oper.apart_spec hap).2.2 t z
def ZR{y:aC Bool}(cs:∀(o:Oper) t,ops[j]?=Z o->o.dst=Z t->VR m (jc s t) (a.tmps.getD t undef))(h:CW ops s j=Z y):yielded ops a.tmps j=y:=by
 have⟨o,ho,h⟩:=aM h;have⟨t,ht,h⟩:=aM h;rw[qw,fD]at ho;have hs:=cs o t ho ht
 have u:yielded ops a.tmps j=match a.tmps[t]? with|some (.bool b)=>Z b|_=>T:=by
  unfold yielded;rw[ho];show(match(o.dst).bind (a.tmps[·]?)with|some (.bool b)=>Z b|_=>T)=_;rw[ht];rfl
 rw[u];cases hb:kV (jc s t)with
 |some b=>
  rw[hb]at h;replace h:Z (Z b)=Z y:=h;cases h;rw[qN hb]at hs;have hs:=hs.of_bool;rw[iH]at hs;cases hq:a.tmps[t]? with
  |none=>rw[hq]at hs;cases hs
  |some x=>rw[hq]at hs;replace hs:x=.bool b:=hs;rw[hs]
 |none=>
  rw[hb]at h;replace h:(gd (isU<|jc s t)<|Z (T:aC Bool))=Z y:=h;have⟨hg,h⟩:=gN h;cases h;rw[abz hg]at hs;have⟨l',e,hv⟩:=VR.Qp (x:=[]) hs;cases hv;rw[iH]at e;cases hq:a.tmps[t]? with
  |none=>rfl
  |some x=>rw[hq]at e;replace e:x=.tuple ⟨[]⟩:=e;rw[e]
def Mt(cs:∀t,t∈o.looksAt ops->VR m (jc s t) (a.tmps.getD t undef))(h:sU ops s o.guard=Z b):Region.wanted o (yielded ops a.tmps)=b:=by
 unfold Region.wanted;cases hg:o.guard with
 |none=>rw[hg]at h;cases h;rfl
 |some p=>
  rw[hg]at h;replace h:(aN (CW ops s p.1) λy=>Z<|@aP Bool (λ_=>Bool) aA (λb=>CK b p.2) y)=Z b:=h;have⟨y,hy,h⟩:=aM h;cases h;have⟨j,want⟩:=p;simp only
  rw[ZR (m:=m) (s:=s) (λo' t e u=>cs t (by
   unfold Oper.looksAt;rw[hg];refine dL _ ?_;simp only[e,Option.bind_some,u];simp)) hy]
  cases y with
  |none=>rfl
  |some c=>cases c<;>cases want<;>rfl
def ai6(z:Gl n m)(e:all' (F7 n) o.op.operands.toList=F)(cs:∀t,t∈o.looksAt ops->VR m (jc s t) (a.tmps.getD t undef)):QC m s a.eval o.op.operands.toList:=by
 refine⟨λx M=>?_⟩;rw[all_eq]at e;have u:=fE.1 e x M;cases x with
 |tmp t=>
  refine cs t ?_;unfold Oper.looksAt;refine dK _ ?_;rw[List.mem_filterMap];exact⟨_,M,O⟩
 |const v=>exact .sc v u
 |global k=>
  have⟨l,I,W,h3,h4⟩:=z k<|aF u;have:=VR.ptr (m:=m) k 0 l I N;rw[W,h3,h4]at this;exact this
 |func cs=>exact .func (.func cs) [] [] [] [] .nil .nil
def abT(e:QC m s ρ L)(A:R):QC m ⟨s.nl,s.nt,s.reg,s.tm,s.df,A⟩ ρ L:=⟨λx M=>by have:=e.all x M;cases x<;>exact this⟩
theorem Inv.step(g:Rg P cf ops n nt S ak)(a0:Jk P n cf)(a7:Gl n m0)(KC:∀r l,m0 r=Z l->r<nx S 0)(hD:Closed ops ag)(h1:Inv ops nt S ak m0 w0 d0 ag m a w)(hi:i<ops.size)(FL:¬ag i)(pX:∀e,e∈ops[i].after.toList->g_ .any e=F->ag e.on)(HK:∀m' a' w',Inv ops nt S ak m0 w0 d0 (Hw ag i) m' a' w'->K a' w'):wpOp P ops H' i K a w:=by
 have U:ops[i]?=Z ops[i]:=bJ hi;have ao:=g.step i _ U;have ac:=g.ok i _ U;unfold yR at ac;rw[bE]at ac;have E:Mi (S i).nt ops[i].dst=F:=by rw[g.nts i _ U];exact ac.2
 have al:∀t,t∈ops[i].looksAt ops->VR (m.upto<|nx S i) (jc (S i) t) (a.tmps.getD t undef):=λt ht=>h1.slot t i N<|abS g hD hi FL pX ht
 have am:Gl n (m.upto<|nx S i):=by
  intro k hk;have⟨l,I,W⟩:=a7 k hk;exact⟨l,Mp.Ht (h1.mem.le _ _ I)<|aO (KC _ _ I)<|g.mono 0 i N N,W⟩
 have e:=ai6 am ac.1 al
 have B:∀(v v':D)(m':Mp)(w':cZ),MInv S ak ops.size m0 w0 (Hw ag i) m' w'->Mp.le m m'->VR (m'.upto<|nx S<|i+1) v v'->(∀t,ops[i].dst=Z t->jc (S<|i+1) t=v)->K (a.put ops[i].dst v') w':=by
  intro v v' m' w' hM bb hv hl;exact HK m' _ w' ⟨hM,by rw[abR];exact h1.size,ZQ g hD h1.size h1.slot hi FL bb hv hl,by rw[put_defers];exact h1.de⟩
 have ap:Mp.le (m.upto<|nx S i) (m.upto<|nx S<|i+1):=Mp.yS (λ_ _ h=>h)<|g.SE hi;unfold wpOp;rw[U];generalize hs1:S (i+1)=s1 at ao;generalize hci:ak i=c at ao;cases ao with
 |skip hw=>
  simp only[Mt al hw,dG,lQ];refine B undef undef m w (h1.mem.still hi λr _=>by rw[hs1,nA]) (λ_ _ h=>h) (.tuple [] [] .nil) ?_;intro t ht;rw[hs1,Ao E,if_pos ht]
 |DN v hw hr=>
  simp only[Mt al hw,lG];left;have⟨v',I,W⟩:=QD hr e.iU λ_=>rfl;unfold Oper.wp;rw[W w];refine B v v' m w (h1.mem.still hi λr _=>by rw[hs1,nA]) (λ_ _ h=>h) (I.mono ap) ?_;intro t ht;rw[hs1,Ao E,if_pos ht]
 |mem v Q hw hr=>
  simp only[Mt al hw,lG];left
  have Pp:∀t,ops[i].dst=Z t->jc (S<|i+1) t=v:=by
   intro t ht;rw[hs1,Ao E,if_pos ht]
  have DR:∀r,(S<|i+1).H.obj r=Q.obj r:=by intro r;rw[hs1,nA];rfl
  have an:nx S (i+1)=Q.bU:=by show(S<|i+1).H.bU=_;rw[hs1,nA]
  have a6:(S ops.size).H.low<=Q.low:=by
   have I:=g.low (i+1) ops.size N<|ax _;rw[hs1,nA]at I;have I:(S ops.size).H.low<=pW (S i).H.low Q.low:=I;exact aQ I (Fh _ _).2
  have XO:((ak i).k=2\/((ak i).k=1/\nx S i<=Q.low))->ops[i].wp P a w K H':=by
   intro hk
   have VD:(ak i).k=1\/(ak i).k=2:=by
    rcases hk with h|h
    .exact .inr h
    .exact .inl h.1
   have rh:RH (m.upto<|nx S i) (iU<|S i).H w:=by
    refine⟨λr l h=>(Mp.qE h).1,?_,?_⟩
    .intro r l h;have Y:=Mp.qE h;have⟨o,ho⟩:=h1.mem.ZN r l Y.2;exact⟨o,ho,Rel.abK λκ=>h1.mem.cnt κ r l i o N Y.2 (g.XL hD hi FL pX VD Y.1) ho⟩
    .intro r r' l l' h h' hd ba hc;have Y:=Mp.qE h;have a4:=Mp.qE h';exact h1.mem.sep r r' l l' i i Y.2 a4.2 hc N N (g.XL hD hi FL pX VD Y.1) (g.XL hD hi FL pX VD a4.1) hd ba
   refine Mq a0 (s:=iU<|S i) rh am hr e.iU ?_;intro m2 v' w' I W h3
   have⟨m',f1,f2,f3⟩:=h1.mem.made g hD hi FL pX (A:=(iU<|S i).H) (A':=Q) O an.symm W h3 (.inr a6) (λr _ _=>(DR r).symm)
    (by rcases VD with h|h<;>omega) (by
     rcases hk with h|h
     .exact .inl ⟨h,λr=>(DR r).symm,λr=>rfl⟩
     .exact .inr ⟨N,h.2⟩)
   exact B v v' m' w' f1 f2 (I.mono f3) Pp
  rcases QJ (P:=P) (o:=ops[i].op) (s:=S i) (Q:=Q)with⟨p,ad,hs,ha,ec⟩|ec|⟨hlow,⟨hf,ec⟩|ec|⟨p,ad,l,hs,ha,hl,ec⟩⟩
  .
   have aE:(ak i).k=3:=by rw[hci,ec]
   have bd:=Jm (g.step i _ U) aE;have⟨t,x,y,a1,H1,u,hw1,ha1,hcl,akV,anQ,hwr⟩:=bd.ex
   have hv:v=undef/\Q=H1:=by
    rw[u]at hr;have h:=qx (o:=Aw P t (ev (iU<|S i) x) (ev (iU<|S i) y) (iU<|S i).H) hr;rw[Ck,Ck,akV]at h;cases h;exact⟨O,O⟩
   have⟨w',r1,r2⟩:=h1.mem.stored g hD hi FL pX aE ha1 hcl akV (by rw[anQ,nA]) hwr (e.all x (by rw[u];simp[iJ]))<|e.all y (by rw[u];simp[iJ])
   have V:(execOp a.eval ops[i]).run P w=.ok .skip w':=by
    simp only[execOp,u,dB,r1,bT,dS]
   unfold Oper.wp;rw[V];exact B v undef m w' r2 (λ_ _ h=>h) (by rw[hv.1];exact .tuple [] [] .nil) Pp
  .exact XO<|.inl (by rw[hci,ec])
  .
   have⟨ob,e1,e2⟩:=abP (cf:=cf) (s:=iU<|S i) hf hr;have hA:=e2 ⟨.nil,nx S i,nx S i⟩ O
   have rh:RH (m.upto<|nx S i) ⟨.nil,nx S i,nx S i⟩ w:=by
    refine⟨λr l h=>(Mp.qE h).1,?_,?_⟩
    .intro r l h;have⟨o,ho⟩:=h1.mem.ZN r l (Mp.qE h).2;refine⟨o,ho,?_⟩;show wQ _ _ ((Tr.nil:Tr nE).get .dead r) _;rw[Tr.get_nil];trivial
    .intro r r' l l' _ _ hd _ _;exact absurd (Tr.get_nil _ _) hd
   refine Mq a0 (s:=⟨(S i).nl,(S i).nt,(S i).reg,(S i).tm,(S i).df,⟨.nil,nx S i,nx S i⟩⟩) rh am hA (abT e _) ?_;intro m2 v' w' I W h3;have be:(ak i).k=5:=by rw[hci,ec];rfl
   have⟨m',f1,f2,f3⟩:=h1.mem.made g hD hi FL pX (A:=⟨.nil,nx S i,nx S i⟩) (A':=(R.mk .nil (nx S i)<|nx S i).new ob) O (by rw[an,e1];rfl) W h3 (.inl<|ax _) (by
    intro r a1 a2;rw[DR,e1,Ab,Ab]
    have:r=nx S i:=by
     rw[an,e1]at a2;have:r<nx S i+1:=a2;omega
    rw[if_pos this];exact(if_pos this).symm) N (.inr ⟨N,ax _⟩)
   exact B v v' m' w' f1 f2 (I.mono f3) Pp
  .exact XO<|.inr ⟨by rw[hci,ec];rfl,hlow⟩
  .
   have a9:(ak i).k=4:=by rw[hci,ec]
   have u:=ZP hs;rw[u]at hr;have a3:=qx (o:=xV P p.1 (ev (iU<|S i) p.2) (iU<|S i).H) hr;rw[Ck]at a3;have M:=e.all p.2 (by rw[u];simp[iJ]);have a5:=M;rw[qX ha]at a5;have⟨l1,hm1,_,_,_⟩:=a5.vG;have Y:=Mp.qE hm1;have⟨ob,SI⟩:=h1.mem.ZN _ _ Y.2;have ar:(ak i).r=ad.block:=by rw[hci,ec]
   have aq:(ak i).off=ad.off:=by rw[hci,ec]
   have a8:(ak i).n=l.getD 1:=by rw[hci,ec]
   have⟨v',I,W⟩:=VA (P:=P) (w:=w) (ob:=ob) a3 M ha hl hm1 SI (by
    intro k ai q1 q2 q3;have ab:=g.anN hD hi FL pX a9 (k:=k) (by rw[aq];exact q1) (by rw[aq,a8];exact q2) (by rw[ar];exact Y.1);rw[ar]at ab;have z:=h1.mem.cnt (Z k) _ _ i ob N Y.2 ab SI;have z:Rel (Z k) (m.upto<|nx S i) l1 (.cell<|nJ ((S i).H.obj ad.block) k) ob:=z;replace q3:nJ ((S i).H.obj ad.block) k=Z ai:=q3;rw[q3]at z
    by_cases hlk:l1.lo<=k
    .exact z hlk
    .exfalso;have:=M;rw[qX ha]at this;have⟨l2,g1,g2,_⟩:=this.vG;rw[hm1]at g1;cases g1;omega)
   have V:(execOp a.eval ops[i]).run P w=.ok (.value v') w:=by
    simp only[execOp,u,dB,W,bT,dS]
   unfold Oper.wp;rw[V];refine B v v' m w (h1.mem.still hi λr bc=>g.same hi N N bc) (λ_ _ h=>h) (I.mono ap) Pp
end E
section E
variable{P:aX}{cf:mJ}{S:Nat->St}
def left(ae:Nat)(listed:Array Bool):Nat:=((dZ ae).filter λj=>!(listed.getD j aA)).length
def filter_le(p q:Nat->Bool)(h:∀x,p x=F->q x=F):∀(l:C Nat),(l.filter p).length<=(l.filter q).length:=by
 intro l
 induction l with
 |nil=>exact ax _
 |cons y l e=>
  simp only[pY];cases hy:p y with
  |true=>rw[h y hy];simp only[lG,cO];omega
  |false=>
   simp only[dG,lQ];split
   .simp only[cO];omega
   .exact e
def filter_lt(p q:Nat->Bool)(h:∀x,p x=F->q x=F):∀(l:C Nat)(y:Nat),y∈l->q y=F->p y=aA->(l.filter p).length<(l.filter q).length:=by
 intro l
 induction l with
 |nil=>intro y hy;cases hy
 |cons z l E=>
  intro y hy B u;simp only[pY];rcases bW.1 hy with e|hy
  .rw[<-e,B,u];have:=filter_le p q h l;simp only[lG,dG,lQ,cO];omega
  .have:=E y hy B u;cases hz:p z with
   |true=>rw[h z hz];simp only[lG,cO];omega
   |false=>
    simp only[dG,lQ];split
    .simp only[cO];omega
    .exact this
def ZS(h:left ae listed=0):∀j,j<ae->listed.getD j aA=F:=by
 intro j e;have:=jf h;have u:=List.filter_eq_nil_iff.1 this j<|jT.2 e;simpa using u
def abU(hs:listed.size=ae)(hi:i<ae)(hl:listed.getD i aA=aA):left ae (listed.setIfInBounds i F)<left ae listed:=by
 refine filter_lt _ _ ?_ _ i (jT.2 hi) (by rw[hl];rfl) ?_
 .intro x M;cases h:listed.getD x aA with
  |false=>rfl
  |true=>rw[getD_set_true h]at M;exact M
 .have:(listed.setIfInBounds i F).getD i aA=F:=by simp[hs,hi]
  rw[this];rfl
def VE(ae:Nat):left ae (my ae aA)<=ae:=by
 unfold left;have:=m_ (λj=>!((my ae aA).getD j aA))<|dZ ae;simpa using this
def any_ok(g:Rg P cf ops n nt S ak)(ap:Jk P n cf)(ao:Gl n m0)(KC:∀r l,m0 r=Z l->r<nx S 0)(HQ:∀ag m a w,(∀j,j<ops.size->ag j)->Inv ops nt S ak m0 w0 d0 ag m a w->H' .normal a w):
 ∀(z:Nat)(listed:Array Bool)(m:Mp)(a:Act)(w:cZ),listed.size=ops.size->left ops.size listed<=z->Closed ops (λj=>listed.getD j aA=F)->
  Inv ops nt S ak m0 w0 d0 (λj=>listed.getD j aA=F) m a w->wpAny P .any ops H' z listed a w:=by
 have ab:∀(listed:Array Bool),listed.size=ops.size->Region.ready .any ops listed=[]->∀j,j<ops.size->listed.getD j aA=F:=by
  intro listed u hr j
  induction j using Nat.strongRecOn with
  |_ j ih=>
   intro E;cases hl:listed.getD j aA with
   |true=>rfl
   |false=>
    have am:ops[j]?=Z ops[j]:=bJ E
    have M:j∈Region.ready .any ops listed:=by
     rw[mem_ready];refine⟨by simp[u,E]at hl|-;exact hl,ops[j],am,λe Y V=>?_⟩;have ar:=Ep ops.toList 0 j ops[j] g.back (by rw[fD];exact am) e (nZ Y) V;exact ih e.on N N
    rw[hr]at M;cases M
 intro z
 induction z with
 |zero=>
  intro listed m a w u al hD h1;have I:=ZS<|Nat.le_zero.1 al;refine⟨?_,HQ _ m a w I h1⟩;cases hr:Region.ready .any ops listed with
  |nil=>rfl
  |cons j l=>
   exfalso;have E:j∈Region.ready .any ops listed:=by rw[hr];exact aL ..
   rw[mem_ready]at E;have⟨W,o,ho,_⟩:=E;have ad:j<ops.size:=(eZ.1 ho).1;have:=I j ad;simp[u,ad]at W this;rw[W]at this;cases this
 |succ z ih=>
  intro listed m a w u al hD h1;refine⟨λhr=>HQ _ m a w (ab listed u hr) h1,λi hi=>?_⟩;rw[mem_ready]at hi;have⟨W,o,ho,h3⟩:=hi;have B:i<ops.size:=(eZ.1 ho).1
  have aq:ops[i]=o:=by
   have:=bJ B;rw[ho]at this;injection this with this;exact this.symm
  subst aq;have an:listed.getD i aA=aA:=by simp[u,B]at W|-;exact W
  have U:∀j,((listed.setIfInBounds i F).getD j aA=F)<->Hw (λj=>listed.getD j aA=F) i j:=by
   intro j
   by_cases e:i=j
   .subst e;exact⟨λ_=>.inr O,λ_=>by simp[u,B]⟩
   .rw[getD_set_ne aA e];exact⟨.inl,λh=>h.resolve_right<|qJ e⟩
  refine Inv.step g ap ao KC hD h1 B (by rw[an];simp) (λe Y V=>h3 e (nZ Y) V) ?_;intro m' a' w' I'
  have ac:(λj=>(listed.setIfInBounds i F).getD j aA=F)=Hw (λj=>listed.getD j aA=F) i:=by
   funext j;exact propext<|U j
  refine ih (listed.setIfInBounds i F) m' a' w' (nZ u) ?_ ?_ (by rw[ac];exact I')
  .have:=abU (ae:=ops.size) u B an;omega
  .intro j o E N9 e Y V;rcases(U j).1 N9 with h|h
   .exact getD_set_true<|hD j o E h e Y V
   .subst h;rw[ho]at E;cases E;exact getD_set_true<|h3 e (nZ Y) V
end E
section mem
variable{P:aX}
def af2(a6:P.follows .mixedOrders=F){cf:mJ}(ap:Jk P n cf)(nt:Nat):QE P cf n nt:=by
 intro id ops s m a w H' V ar an rh cs gl u;replace u:Post m s.H w a.defers nt s.df H' (cr (lT ops&&qM ops) (xw ops<|jV P cf ops ops.toList (clear s) []) .fail):=u;cases hst:qM ops with
 |false=>rw[ar,hst]at u;exact u.elim
 |true=>
  rw[ar,hst]at u;replace u:Post m s.H w a.defers nt s.df H' (xw ops<|jV P cf ops ops.toList (clear s) []):=u;cases U:jV P cf ops ops.toList (clear s) []with
  |none=>rw[U]at u;exact u.elim
  |some q=>
   have⟨s1,cls⟩:=q;rw[U]at u;replace u:Post m s.H w a.defers nt s.df H' (cr (kZ ops cls) (.norm s1) .fail):=u;cases hdy:kZ ops cls with
   |false=>rw[hdy]at u;exact u.elim
   |true=>
    rw[hdy]at u;replace u:To m s.H w a.defers nt s.df s1 (H' .normal):=u;rw[all_eq,fE]at V;have⟨S,ak,e0,eN,e3,e4,_,e6⟩:=trace ap (ops:=ops) (nt:=nt) ops.toList (clear s) s1 [] cls m a w V an rh cs.clear gl U;simp only[qo]at eN e3 e4;have al:∀(j:Nat)(o:Oper),ops[j]?=Z o->ops.toList[j]?=Z o:=λj o h=>by rw[fD];exact h
    have aE:=ZM hst
    have a4:∀j,j<ops.size->(ak j).k<=5:=by
     intro j M;have hs:=(e6 j _<|al j _<|bJ M).1;generalize S (j+1)=s2 at hs;generalize ak j=c at hs;cases hs with
     |skip hw=>exact bD _
     |DN v hw U=>exact bD _
     |mem v Q hw U=>exact abH
    have g:Rg P cf ops n nt S ak:=by
     refine⟨λj o h=>(e6 j o<|al j o h).1,λj o h=>(e6 j o<|al j o h).2.1,λj o h=>(e6 j o<|al j o h).2.2,?_,aE.1,aE.2,?_⟩
     .intro j o h;exact V o<|aV<|al j o h
     .exact abI hdy (nZ e3) e4 a4
    have ZT:nx S 0=s.H.bU:=by show(S 0).H.bU=_;rw[e0];rfl
    have SK:∀r,(S 0).H.obj r=s.H.obj r:=by intro r;rw[e0];rfl
    have KC:∀r l,m r=Z l->r<nx S 0:=λr l h=>by rw[ZT];exact rh.dom r l h
    have a0:∀k,k<=ops.size->Mp.le m (m.upto<|nx S k):=λk hk r l h=>Mp.Ht h<|aO (KC r l h)<|g.mono 0 k N hk
    have a2:∀j,j<=ops.size->(S j).df=s.df:=by
     intro j
     induction j with
     |zero=>intro _;rw[e0];rfl
     |succ j ih=>
      intro M;have hs:=g.step j _<|bJ M;rw[<-ih N];generalize S (j+1)=s2 at hs;generalize ak j=c at hs;cases hs with
      |skip hw=>rw[Fg]
      |DN v hw U=>rw[Fg]
      |mem v Q hw U=>rw[Fg]
    have ao:(S ops.size).nt=nt:=by
     cases hz:ops.size with
     |zero=>rw[e0];exact an
     |succ k=>
      have M:k<ops.size:=N;have Y:=bJ M;have hs:=g.step k _ Y;rw[<-g.nts k _ Y];generalize S (k+1)=s2 at hs;generalize ak k=c at hs;cases hs with
      |skip hw=>rw[Ad]
      |DN v hw U=>rw[Ad]
      |mem v Q hw U=>rw[Ad]
    have z:∀j,((my ops.size aA).getD j aA=F)<->False:=by
     intro j;simp only[iH,Array.getElem?_replicate,iff_false];split<;>simp
    have Po:∀κ r k,k<=ops.size->FK S ops.size (λj=>(my ops.size aA).getD j aA=F) κ r k->r<nx S 0->at' S κ r 0=at' S κ r k:=by
     intro κ r k hk E U;refine FK.eq g.mono N hk ⟨U,λj _ _ _=>?_⟩ E;rw[z];exact⟨λh=>h.elim,λh=>N⟩
    have hI:Inv ops nt S ak m w.drew a.defers (λj=>(my ops.size aA).getD j aA=F) m a w.drew:=by
     refine⟨⟨?_,?_,?_,?_,?_,?_,λ_ _ h=>h,?_,rfl,rfl,rfl,ax _,λ_ _ _=>rfl⟩,by rw[cs.size];exact an,?_,O⟩
     .exactλr l h=>.inl ⟨h,KC r l h⟩
     .intro r l h;have⟨o,ho,_⟩:=rh.ok r l h;exact⟨o,ho⟩
     .intro κ r l k o hk hm E ho;have⟨o',ho',hok⟩:=rh.ok r l hm
      have:o'=o:=by
       have I:w.heap[l.c]?=Z o:=ho;rw[ho']at I;injection I
      subst this;rw[<-SK]at hok;have ac:Rel κ m l (at' S κ r 0) o':=Rel.iE hok;rw[Po κ r k hk E (KC r l hm)]at ac;exact ac.mono<|a0 k hk
     .intro r r' l l' k k' I W h3 h4 h5 h6 h7 h8 h9;refine rh.sep r r' l l' I W ?_ ?_ h3
      .rw[<-SK];exact Da (Po T r k h4 h6<|KC r l I).symm h8
      .rw[<-SK];exact Da (Po T r' k' h5 h7<|KC r' l' W).symm h9
     .intro r r' l l' j I W _ M _ _;have hm:=g.mono 0 j N N;exact⟨λ_=>aO (KC r' l' W) hm,λ_=>aO (KC r l I) hm⟩
     .intro j r _ N9;exact((z j).1 N9).elim
     .intro r l h h0;rw[h]at h0;cases h0
     .intro t k hk E
      have ad:∀d,d<=k->jc (S d) t=jc (S 0) t:=by
       intro d
       induction d with
       |zero=>intro _;rfl
       |succ d ih=>
        intro hd;have M:d<ops.size:=N;have Y:ops[d]?=Z ops[d]:=bJ M;rw[g.look Y t ?_,ih N];intro e;exact(z d).1<|(E d _ Y e).2 N
      rw[ad k (ax _),e0];exact(cs.clear.slot t).mono<|a0 k hk
    refine wp_region_any a6 ?_;refine any_ok g ap gl KC ?_ ops.size (my ops.size aA) m a w.drew gD (VE _) (λj o _ h=>((z j).1 h).elim) hI;intro ag m' a' w' hD B;have am:∀κ r,r<nx S ops.size->FK S ops.size ag κ r ops.size:=λκ r U=>⟨U,λj M _ _=>⟨λ_=>M,λ_=>hD j M⟩⟩
    have XP:∀r l,m' r=Z l->r<nx S ops.size:=by
     intro r l h;rcases B.mem.dom r l h with⟨_,I⟩|⟨j,M,_,_,I⟩
     .exact aO I<|g.mono 0 _ N<|ax _
     .exact aO I<|g.mono _ _ N<|ax _
    have ab:∀r,r<nx S 0->m r=T->m' r=T:=by
     intro r U h;cases I:m' r with
     |none=>rfl
     |some l=>
      rcases B.mem.dom r l I with⟨W,_⟩|⟨j,M,_,W,_⟩
      .rw[h]at W;cases W
      .have:=g.mono 0 j N N;omega
    refine u m' a' w' ⟨⟨?_,?_⟩,⟨?_,?_,?_⟩,?_,B.de,?_,?_⟩
    .rw[<-eN,ao];exact B.size
    .intro t;rw[<-eN];refine(B.slot t ops.size (ax _) ?_).mono<|Mp.XH _ _;intro j o M _;have:j<ops.size:=(eZ.1 M).1;exact⟨λ_=>this,λ_=>hD j this⟩
    .intro r l h;rw[<-eN];exact XP r l h
    .intro r l h;have⟨o,ho⟩:=B.mem.ZN r l h;rw[<-eN];exact⟨o,ho,(Rel.abK λκ=>B.mem.cnt κ r l ops.size o (ax _) h (am κ r<|XP r l h) ho).mono<|Mp.XH _ _⟩
    .intro r r' l l' h h' hd aq hc;rw[<-eN]at hd aq;exact B.mem.sep r r' l l' _ _ h h' hc (ax _) (ax _) (am T r<|XP r l h) (am T r'<|XP r' l' h') hd aq
    .have a3:Ex m m' s.H s1.H w.drew w':=by
      rw[<-eN];refine⟨B.mem.le,?_,?_,B.mem.os,B.mem.tape,B.mem.output,B.mem.size,B.mem.keep,?_,?_,?_,?_⟩
      .intro r l h h0;rcases B.mem.dom r l h with⟨W,_⟩|⟨j,M,_,W,_⟩
       .rw[h0]at W;cases W
       .rw[<-ZT];exact aQ (g.mono 0 j N N) W
      .exact B.mem.fresh
      .rw[<-ZT];exact g.mono 0 _ N<|ax _
      .have:=g.low 0 ops.size N (ax _);rw[e0]at this;exact this
      .intro r I W
       have:∀d,d<=ops.size->(S d).H.obj r=s.H.obj r:=by
        intro d
        induction d with
        |zero=>intro _;exact SK r
        |succ d ih=>
         intro hd;rw[g.afZ (j:=d) N (aO (by rw[ZT];exact I)<|g.mono 0 d N N) W,ih N]
       exact this ops.size<|ax _
      .intro r I W;have a5:=ab r (by rw[ZT];exact I) W
       have:∀d,d<=ops.size->(S d).H.obj r=s.H.obj r:=by
        intro d
        induction d with
        |zero=>intro _;exact SK r
        |succ d ih=>
         intro hd;rw[B.mem.hid d r N (hD d N) (aO (by rw[ZT];exact I)<|g.mono 0 d N N) a5,ih N]
       exact this ops.size<|ax _
     exact(Ex.drew m s.H w).trans a3
    .rw[<-eN];exact ao
    .rw[<-eN];exact a2 _<|ax _
def levels(u:P.follows .mixedOrders=F){X:Xt}(B:Ei P n)(hX:XOk P X)(z:Mj P X n)(k:Nat):QG P n (lW P X k):=
 (abD B hX z (λ_ e nt=>af2 u e nt) k).2.2
end mem
section mem
variable{P:aX}
def Ei.abW(h:all' (abC n) P.funcs.toList=F):Ei P n:=by
 intro g fn e;rw[all_eq,fE]at h;exact h fn<|aV (by rw[fD];exact e)
end mem
def Mv(cf Bj:mJ):Prop:=∀g args H r,cf g args H=Z r->Bj g args H=Z r
def abX(cx RX:Code->St->Out):Prop:=∀c s,cx c s≠.fail->RX c s=cx c s
section mem
variable{P:aX}
def ahu{o:aC (D×R)}(h:rm o≠.fail):∃r,o=Z r:=by
 cases o with
 |none=>exact absurd O h
 |some r=>exact⟨r,O⟩
def SL{cf:mJ}(h:Mv cf Bj){o:Op}(e:Aa o P cf s≠.fail):Aa o P Bj s=Aa o P cf s:=by
 cases o with
 |call c=>
  replace e:zx c P cf s≠.fail:=e;show zx c P Bj s=zx c P cf s;have⟨callee,args,ats⟩:=c;cases callee with
  |builtin b=>rfl
  |value cs=>
   have⟨r,hr⟩:=ahu (o:=aN (pF (.value cs) P s) λq=>cf q.1 (app q.2.1<|app (mp (ev s) args.toList) q.2.2) s.H) e;show rm (aN (pF (.value cs) P s) λq=>Bj q.1 (app q.2.1<|app (mp (ev s) args.toList) q.2.2) s.H)=rm (aN (pF (.value cs) P s) λq=>cf q.1 (app q.2.1<|app (mp (ev s) args.toList) q.2.2) s.H);rw[hr];have⟨q,I,W⟩:=aM hr;rw[I];show rm (Bj _ _ _)=_;rw[h _ _ _ _ W]
  |invoke cs u=>
   have⟨r,hr⟩:=ahu (o:=aN (pF (.invoke cs u) P s) λq=>cf q.1 (app q.2.1<|app (mp (ev s) args.toList) q.2.2) s.H) e;show rm (aN (pF (.invoke cs u) P s) λq=>Bj q.1 (app q.2.1<|app (mp (ev s) args.toList) q.2.2) s.H)=rm (aN (pF (.invoke cs u) P s) λq=>cf q.1 (app q.2.1<|app (mp (ev s) args.toList) q.2.2) s.H);rw[hr];have⟨q,I,W⟩:=aM hr;rw[I];show rm (Bj _ _ _)=_;rw[h _ _ _ _ W]
 |_=>rfl
def ZU{cf:mJ}(h:Mv cf Bj)(hs:Bi P cf o s=Z s1):Bi P Bj o s=Z s1:=by
 unfold Bi at hs|-;cases hd:tJ o.op with
 |some c=>rw[hd]at hs;exact hs
 |none=>
  rw[hd]at hs;replace hs:F3 o s (Aa o.op P cf s)=Z s1:=hs;show F3 o s (Aa o.op P Bj s)=Z s1;rw[SL h (by intro e;rw[e]at hs;cases hs)];exact hs
def JV{cf:mJ}(h:Mv cf Bj)(hs:oq P cf ops o s=Z s1):oq P Bj ops o s=Z s1:=by
 have⟨b,hb,W⟩:=aM hs;unfold oq;rw[hb];cases b with
 |true=>exact ZU h W
 |false=>exact W
def JW{cf:mJ}(h:Mv cf Bj):∀{l:C Oper}{s s1:St},oK P cf ops l s=Z s1->oK P Bj ops l s=Z s1:=by
 intro l
 induction l with
 |nil=>intro s s1 hs;exact hs
 |cons o l e=>
  intro s s1 hs;replace hs:(aN (oq P cf ops o s) λs=>oK P cf ops l s)=Z s1:=hs;have⟨s2,I,W⟩:=aM hs;show(aN (oq P Bj ops o s) λs=>oK P Bj ops l s)=Z s1;rw[JV h I];exact e W
def Hy{cf:mJ}(h:Mv cf Bj){r:St×Cl}(hs:mV P cf ops o s=Z r):mV P Bj ops o s=Z r:=by
 have⟨b,hb,W⟩:=aM hs;unfold mV;rw[hb];cases b with
 |true=>
  replace W:JK P o s (Aa o.op P cf<|iU s)=Z r:=W;show JK P o s (Aa o.op P Bj<|iU s)=Z r;rw[SL h (by intro e;rw[e]at W;cases W)];exact W
 |false=>exact W
def HV{cf:mJ}(h:Mv cf Bj):∀{l:C Oper}{s:St}{acc:C Cl}{r:St×C Cl},jV P cf ops l s acc=Z r->jV P Bj ops l s acc=Z r:=by
 intro l
 induction l with
 |nil=>intro s acc r hs;exact hs
 |cons o l e=>
  intro s acc r hs;replace hs:(aN (mV P cf ops o s) λq=>jV P cf ops l q.1<|q.2::acc)=Z r:=hs;have⟨s2,I,W⟩:=aM hs;show(aN (mV P Bj ops o s) λq=>jV P Bj ops l q.1<|q.2::acc)=Z r;rw[Hy h I];exact e W
def SN{cf:mJ}(h:Mv cf Bj){d:Bool}(e:region P cf ops d s≠.fail):region P Bj ops d s=region P cf ops d s:=by
 cases d with
 |false=>
  replace e:JM (oK P cf ops ops.toList<|clear s)≠.fail:=e;show JM (oK P Bj ops ops.toList<|clear s)=JM (oK P cf ops ops.toList<|clear s);cases hr:oK P cf ops ops.toList (clear s)with
  |none=>rw[hr]at e;exact absurd O e
  |some s1=>rw[JW h hr]
 |true=>
  replace e:cr (lT ops&&qM ops) (xw ops<|jV P cf ops ops.toList (clear s) []) .fail≠.fail:=e;show cr (lT ops&&qM ops) (xw ops<|jV P Bj ops ops.toList (clear s) []) .fail=cr (lT ops&&qM ops) (xw ops<|jV P cf ops ops.toList (clear s) []) .fail;cases hb:(lT ops&&qM ops)with
  |false=>rfl
  |true=>
   rw[hb]at e;replace e:xw ops (jV P cf ops ops.toList (clear s) [])≠.fail:=e;show xw ops (jV P Bj ops ops.toList (clear s) [])=xw ops (jV P cf ops ops.toList (clear s) []);cases hr:jV P cf ops ops.toList (clear s) []with
   |none=>rw[hr]at e;exact absurd O e
   |some r=>rw[HV h hr]
def HY{o o':Out}{k k':St->Out}(ho:o≠.fail->o'=o)(hk:∀s,k s≠.fail->k' s=k s)(e:andThen o k≠.fail):andThen o' k'=andThen o k:=by
 cases o with
 |fail=>exact absurd O e
 |norm s=>rw[ho gD];exact hk s e
 |exit i s=>rw[ho gD];rfl
 |goto l s=>rw[ho gD];rfl
 |ret s=>rw[ho gD];rfl
def Mw{cs e:St->Out}(z:∀s,cs s≠.fail->e s=cs s):∀(n n':Nat),n<=n'->∀s,zy n cs s≠.fail->zy n' e s=zy n cs s:=by
 intro n
 induction n with
 |zero=>intro n' _ s h;exact absurd O h
 |succ n B=>
  intro n' E s h;cases n' with
  |zero=>omega
  |succ n'=>
   show andThen (e s) (zy n' e)=andThen (cs s) (zy n cs);exact HY (z s) (λs' u=>B n' N s' u) h
def Er(M:abX cx RX)(u:Code):∀(n n':Nat),n<=n'->∀o,pG cx n u o≠.fail->pG RX n' u o=pG cx n u o:=by
 intro n
 induction n with
 |zero=>intro n' _ o h;exact absurd O h
 |succ n E=>
  intro n' I o h;cases n' with
  |zero=>omega
  |succ n'=>
   cases o with
   |goto l s=>
    replace h:(@aP Code (λ_=>Out) (.goto l s) (λz=>pG cx n u<|cx z s) (findLabel u l):Out)≠.fail:=h;show(@aP Code (λ_=>Out) (.goto l s) (λz=>pG RX n' u<|RX z s) (findLabel u l):Out)=(@aP Code (λ_=>Out) (.goto l s) (λz=>pG cx n u<|cx z s) (findLabel u l):Out);cases hf:findLabel u l with
    |none=>rfl
    |some z=>
     rw[hf]at h;replace h:pG cx n u (cx z s)≠.fail:=h;show pG RX n' u (RX z s)=pG cx n u (cx z s)
     have B:cx z s≠.fail:=by
      intro e;rw[e]at h;cases n with
      |zero=>exact h O
      |succ n=>exact h O
     rw[M z s B];exact E n' N _ h
   |_=>rfl
theorem Jn{cf:mJ}(h:Mv cf Bj)(M:abX cx RX)(N:n<=n'):∀(c:Code)(s:St),exec P cf cx n c s≠.fail->exec P Bj RX n' c s=exec P cf cx n c s:=by
 intro c
 induction c with
 |region id ops d=>intro s u;exact SN h u
 |seq a b z B=>
  intro s u;exact HY (o:=exec P cf cx n a s) (o':=exec P Bj RX n' a s) (k:=exec P cf cx n b) (k':=exec P Bj RX n' b) (z s) B u
 |cond c a b z B=>
  intro s u;replace u:JL (kV<|ev s c) (exec P cf cx n a s) (exec P cf cx n b s)≠.fail:=u;show JL (kV<|ev s c) (exec P Bj RX n' a s) (exec P Bj RX n' b s)=JL (kV<|ev s c) (exec P cf cx n a s) (exec P cf cx n b s);cases hb:kV (ev s c)with
  |none=>rfl
  |some U=>
   rw[hb]at u;cases U with
   |true=>exact z s u
   |false=>exact B s u
 |block id a I=>
  intro s u;replace u:yN id (exec P cf cx n a s)≠.fail:=u;show yN id (exec P Bj RX n' a s)=yN id (exec P cf cx n a s);rw[I s (by intro e;rw[e]at u;exact u O)]
 |loop a I=>intro s u;exact Mw I n n' N s u
 |scope a I=>
  intro s u;replace u:pG cx n a (exec P cf cx n a s)≠.fail:=u;show pG RX n' a (exec P Bj RX n' a s)=pG cx n a (exec P cf cx n a s)
  have E:exec P cf cx n a s≠.fail:=by
   intro e;rw[e]at u;cases n with
   |zero=>exact u O
   |succ n=>exact u O
  rw[I s E];exact Er M a n n' N _ u
 |_=>intro s _;rfl
def SQ{X:Xt}{L L':Lv}(h:Mv L.ca L'.ca)(M:abX L.cx L'.cx)(z:n<=n'):Mv (C4 P X L n) (C4 P X L' n'):=by
 intro g args H r u;cases hor:X.o g args H with
 |some q=>rw[Ej hor]at u|-;exact u
 |none=>
 rw[zA hor]at u|-;have⟨fn,I,W⟩:=aM u;rw[I];show Zh P L' n' g (X g) fn args H=Z r;unfold Zh at W|-;cases hb:fn.body with
 |none=>rw[hb]at W;exact W
 |some c=>
  rw[hb]at W;have⟨h3,h4⟩:=gN (b:=aD (len args) fn.ntmps) W;have⟨s,h5,h6⟩:=aM h4;show gd (aD (len args) fn.ntmps) (aN (Ql<|exec P L'.ca L'.cx n' c ⟨kC P g,fn.ntmps,[],Tr.uY top args 0 .nil,[],H⟩) λs=>JN P fn s)=Z r;rw[h3,Jn h M z c _ (by intro e;rw[e]at h5;cases h5),h5];exact h6
def Ag{X:Xt}:∀(n n':Nat),n<=n'->Mv (lv P X n).ca (lv P X n').ca/\abX (lv P X n).cx (lv P X n').cx:=by
 intro n
 induction n with
 |zero=>intro n' _;exact⟨(λg args H r h=>by cases h),(λc s h=>absurd O h)⟩
 |succ n e=>
  intro n' u;cases n' with
  |zero=>omega
  |succ n'=>
   have⟨I,W⟩:=e n' N;exact⟨SQ I W N,λc s h=>Jn I W N c s h⟩
def Ca(P:aX)(X:Xt)(g:FuncId)(args:C D)(H:R)(v:D)(Q:R):Prop:=∃k,lW P X k g args H=Z (v,Q)
def HZ(P:aX)(X:Xt)(k:Nat)(c:Code)(s:St):Out:=exec P (lv P X k).ca (lv P X k).cx k c s
def Ev(P:aX)(X:Xt)(c:Code)(s:St)(o:Out):Prop:=o≠.fail/\∃k,HZ P X k c s=o
def Ro(P:aX)(X:Xt)(ops:Array Oper)(l:C Oper)(s s':St):Prop:=∃k,oK P (lW P X k) ops l s=Z s'
def RoD(P:aX)(X:Xt)(ops:Array Oper)(l:C Oper)(s:St)(acc:C Cl)(r:St×C Cl):Prop:=∃k,jV P (lW P X k) ops l s acc=Z r
variable{X:Xt}
def Ca.le(h:lW P X k g args H=Z (v,Q))(hk:k<=k'):lW P X k' g args H=Z (v,Q):=(Ag k k' hk).1 _ _ _ _ h
def Dc{o:Out}(h:HZ P X k c s=o)(ho:o≠.fail)(hk:k<=k'):HZ P X k' c s=o:=by
 rw[<-h];exact Jn (Ag k k' hk).1 (Ag k k' hk).2 hk c s (by show HZ P X k c s≠_;rw[h];exact ho)
section rules
variable{o:Out}{a b:Code}
def Ev.skip:Ev P X .skip s (.norm s):=⟨gD,0,O⟩
def Ev.label{l:Nat}:Ev P X (.label l) s (.norm s):=⟨gD,0,O⟩
def Ev.exit:Ev P X (.exit i) s (.exit i s):=⟨gD,0,O⟩
def Ev.ret:Ev P X .ret s (.ret s):=⟨gD,0,O⟩
def Ev.seq(I:Ev P X a s<|.norm s1)(W:Ev P X b s1 o):Ev P X (.seq a b) s o:=by
 have⟨n1,k1,I⟩:=I;have⟨n2,k2,W⟩:=W;refine⟨n2,max k1 k2,?_⟩;show andThen (HZ P X (max k1 k2) a s) (HZ P X (max k1 k2) b)=o;rw[Dc I n1 (nL _ _)];exact Dc W n2<|kJ _ _
def Ev.af3(I:Ev P X a s<|.ret s1):Ev P X (.seq a b) s (.ret s1):=by
 have⟨n1,k1,I⟩:=I;refine⟨n1,k1,?_⟩;show andThen (HZ P X k1 a s) (HZ P X k1 b)=_;rw[I];rfl
def Ev.abY(I:Ev P X a s<|.exit i s1):Ev P X (.seq a b) s (.exit i s1):=by
 have⟨n1,k1,I⟩:=I;refine⟨n1,k1,?_⟩;show andThen (HZ P X k1 a s) (HZ P X k1 b)=_;rw[I];rfl
def Ev.cond{x:cB}{t:Bool}(M:kV (ev s x)=Z t)(h:Ev P X (if t then a else b) s o):Ev P X (.cond x a b) s o:=by
 have⟨n1,k1,I⟩:=h;refine⟨n1,k1,?_⟩;show JL (kV<|ev s x) (HZ P X k1 a s) (HZ P X k1 b s)=o;rw[M];cases t with
 |true=>exact I
 |false=>exact I
def Ev.block(h:Ev P X a s<|.norm s1):Ev P X (.block i a) s (.norm s1):=by
 have⟨n1,k1,I⟩:=h;refine⟨n1,k1,?_⟩;show yN i (HZ P X k1 a s)=_;rw[I];rfl
def Ev.af4(I:Ev P X a s<|.norm s1)(W:Ev P X (.loop a) s1 o):Ev P X (.loop a) s o:=by
 have⟨n1,k1,I⟩:=I;have⟨n2,k2,W⟩:=W;refine⟨n2,max k1 k2+1,?_⟩;show andThen (HZ P X (max k1 k2+1) a s) (zy (max k1 k2)<|HZ P X (max k1 k2+1) a)=o;rw[Dc I n1 (aQ (nL _ _)<|jv _)];show zy (max k1 k2) (HZ P X (max k1 k2+1) a) s1=o;replace W:zy k2 (HZ P X k2 a) s1=o:=W;rw[<-W];refine Mw ?_ k2 _ (kJ _ _) s1 (by rw[W];exact n2);intro s2 e;exact Dc O e<|aQ (kJ _ _)<|jv _
def Ev.abZ(h:Ev P X a s<|.exit i s1):Ev P X (.loop a) s (.exit i s1):=by
 have⟨n1,k1,I⟩:=h;refine⟨n1,k1+1,?_⟩;show andThen (HZ P X (k1+1) a s) _=_;rw[Dc I n1 (jv _)];rfl
def Ev.ab0(h:Ev P X a s<|.ret s1):Ev P X (.loop a) s (.ret s1):=by
 have⟨n1,k1,I⟩:=h;refine⟨n1,k1+1,?_⟩;show andThen (HZ P X (k1+1) a s) _=_;rw[Dc I n1 (jv _)];rfl
def Ev.region{id:Nat}(h:Ro P X ops ops.toList (clear s) s1):Ev P X (.region id ops aA) s (.norm s1):=by
 have⟨k,h⟩:=h;refine⟨gD,k,?_⟩;show JM (oK P (lW P X k) ops ops.toList<|clear s)=_;rw[h];rfl
def Ev.SS{id:Nat}(e:(lT ops&&qM ops)=F)(h:RoD P X ops ops.toList (clear s) [] (s1,cls))(hd:kZ ops cls=F):Ev P X (.region id ops F) s (.norm s1):=by
 have⟨k,h⟩:=h;refine⟨gD,k,?_⟩;show cr (lT ops&&qM ops) (xw ops<|jV P (lW P X k) ops ops.toList (clear s) []) .fail=_;rw[e];show xw ops (jV P (lW P X k) ops ops.toList (clear s) [])=_;rw[h];show cr (kZ ops cls) (Out.norm s1) Out.fail=_;rw[hd];rfl
def Ro.nil:Ro P X ops [] s s:=⟨0,O⟩
def So(P:aX)(X:Xt)(ops:Array Oper)(p:Oper)(s s':St):Prop:=∃k,oq P (lW P X k) ops p s=Z s'
def Ro.cons{l:C Oper}(I:So P X ops p s s1)(W:Ro P X ops l s1 s2):Ro P X ops (p::l) s s2:=by
 have⟨k1,I⟩:=I;have⟨k2,W⟩:=W;refine⟨max k1 k2,?_⟩;show(aN (oq P (lW P X<|max k1 k2) ops p s) λs=>oK P (lW P X<|max k1 k2) ops l s)=_;rw[show oq P (lW P X<|max k1 k2) ops p s=Z s1 from JV (Ag k1 _<|nL k1 k2).1 I];exact JW (Ag k2 _<|kJ k1 k2).1 W
def So.DN(e:sU ops s p.guard=Z F)(hd:tJ p.op=T)(h:∀cf,Aa p.op P cf s=.DN v):So P X ops p s (jY s p.dst v s.H):=by
 refine⟨0,?_⟩;unfold oq;rw[e];show Bi P _ p s=_;unfold Bi;rw[hd];show F3 p s (Aa p.op P _ s)=_;rw[h];rfl
def So.mem(e:sU ops s p.guard=Z F)(hd:tJ p.op=T)(h:∀cf,Aa p.op P cf s=.mem v Q):So P X ops p s (jY s p.dst v Q):=by
 refine⟨0,?_⟩;unfold oq;rw[e];show Bi P _ p s=_;unfold Bi;rw[hd];show F3 p s (Aa p.op P _ s)=_;rw[h];rfl
def So.skip(e:sU ops s p.guard=Z aA):So P X ops p s (jY s p.dst undef s.H):=by
 refine⟨0,?_⟩;unfold oq;rw[e];rfl
def So.call{q:Call}{pre e:C D}(I:sU ops s p.guard=Z F)(u:p.op=.call q)(B:isBuiltin q.callee=T)(E:pF q.callee P s=Z (g,pre,e))(h:Ca P X g (app pre<|app (mp (ev s) q.args.toList) e) s.H v Q):So P X ops p s (jY s p.dst v Q):=by
 have⟨k,h⟩:=h;refine⟨k,?_⟩;unfold oq;rw[I];show Bi P _ p s=_;unfold Bi;rw[show tJ p.op=T from by rw[u];rfl];show F3 p s (Aa p.op P (lW P X k) s)=_
 have:Aa p.op P (lW P X k) s=.mem v Q:=by
  rw[u];show zx q P (lW P X k) s=_;unfold zx;rw[B];show rm (aN (pF q.callee P s) λz=>lW P X k z.1 (app z.2.1<|app (mp (ev s) q.args.toList) z.2.2) s.H)=_;rw[E];show rm (lW P X k g (app pre<|app (mp (ev s) q.args.toList) e) s.H)=_;rw[h];rfl
 rw[this];rfl
def Ca.body(u:X.o g args H=T)(B:nth P.funcs.toList g=Z fn)(z:fn.body=Z c)(hl:aD (len args) fn.ntmps=F)(h:Ev P X c ⟨kC P g,fn.ntmps,[],Tr.uY top args 0 .nil,[],H⟩ o)(ho:Ql o=Z s1)(e:aB (len s1.df) 0=F)(E:ny P s1 fn.results.toList=Z vs):Ca P X g args H (uO vs) s1.H:=by
 have⟨n1,k,h⟩:=h;refine⟨k+1,?_⟩;show C4 P X (lv P X k) k g args H=_;rw[zA u,B];show Zh P (lv P X k) k g (X g) fn args H=_;unfold Zh;rw[z];show gd (aD (len args) fn.ntmps) (aN (Ql<|HZ P X k c ⟨kC P g,fn.ntmps,[],Tr.uY top args 0 .nil,[],H⟩) λs=>JN P fn s)=_;rw[hl,h,ho];show JN P fn s1=_;unfold JN;rw[e,E];rfl
end rules
end mem
def XAt(P:aX)(g:FuncId)(c:Nat):Prop:=∀(fn:Func)(args:C D)(v:D)(H Q:R),P.funcs[g]?=Z fn->Zf P c fn.resultTypes.toList args H=Z (v,Q)->
 ∀m w args',RH m H w->mX m args args'->∃m' v' w',(callFunc g ⟨args'⟩).run P w=.ok (.value v') w'/\VR m' v v'/\RH m' Q w'/\Ex m m' H Q w w'
def XOk.of{P:aX}{X:Xt}(h:∀g,X g=0\/XAt P g (X g)):XOk P X:=by
 intro g fn args v H Q z _ M m w args' B u;rcases h g with e|I
 .rw[e]at M;cases M
 .exact I fn args v H Q z M m w args' B u
section mem
variable{P:aX}
def XAt.ab1{c:Nat}{e:Array D->Sem D}(hg:P.funcs[g]?=Z fn)(hname:(fn.name== "runtime.NumGoroutine")=aA)(hb:fn.body.isNone=F)(hn:Extern.findNext fn=T)(he:Extern.find fn=Z e)(h:∀(args:C D)(v:D)(H Q:R),Zf P c fn.resultTypes.toList args H=Z (v,Q)->∀m w args',RH m H w->mX m args args'->yC P m H w (e ⟨args'⟩) v Q):XAt P g c:=by
 intro fn' args v H Q hg' M m w args' rh ha;rw[hg]at hg';cases hg';have⟨m',v',w',I,W,h3,h4⟩:=h args v H Q M m w args' rh ha;refine⟨m',v',w',?_,W,h3,h4⟩;rw[run_callFunc_extern hg hname hb hn he,I];rfl
def XAt.same(hg:P.funcs[g]?=Z fn)(hname:(fn.name== "runtime.NumGoroutine")=aA)(hb:fn.body.isNone=F)(hn:Extern.findNext fn=T)(he:Extern.find fn=Z Extern.AbiNoEscape.same):XAt P g 1:=by
 refine XAt.ab1 hg hname hb hn he ?_;intro args v H Q h m w args' rh ha;replace h:(gd (aB (len args) 1)<|aN (nth args 0) λx=>Z (x,H))=Z (v,Q):=h;have⟨hl,h⟩:=gN h;have⟨x,M,h⟩:=aM h;cases h;rw[qw]at M;rw[ig]at hl;have⟨v',I,W⟩:=afU (P:=P) (w:=w) (bA hl) M ha;exact⟨m,v',w,W,I,rh,Ex.refl _ _ _⟩
def XAt.index(hg:P.funcs[g]?=Z fn)(hname:(fn.name== "runtime.NumGoroutine")=aA)(hb:fn.body.isNone=F)(hn:Extern.findNext fn=T)(he:Extern.find fn=Z Extern.BytealgIndexByte.indexByte):XAt P g 3:=by
 refine XAt.ab1 hg hname hb hn he ?_;intro args v H Q h m w args' rh ha;replace h:(aN (Xp args) λx=>Z (U0<|zU x.2 x.1.data.toList 0,H))=Z (v,Q):=h;have⟨q,hq,h⟩:=aM h;cases h;have⟨I,W⟩:=QB (P:=P) (w:=w) hq ha;exact⟨m,_,w,W,I,rh,Ex.refl _ _ _⟩
end mem
def xz(ty:aH)(k:gm)(l:C Nat):nE:=.row ⟨ty,Tr.uY top (mp (λn=>bq k<|Int.ofNat n) l) 0 .nil,len l,F,0⟩
def TabAt(w:cZ)(o:nE)(r:Nat):Prop:=o=.dead\/∃(ty:aH)(k:gm)(l:C Nat)(f:Array D)(fr:Nat×Nat),o=xz ty k l/\w.heap[r]?=Z (.cells f ty fr)/\∀(i z:Nat),l[i]?=Z z->f[i]?=Z (bq k (z:Nat))
def ai7:nE->Nat
 |.row az=>az.n
 |_=>0
def De(w:cZ)(r:Nat):Nat:=match w.heap[r]? with|some (.cells f _ _)=>f.size|_=>0
def Bl(w:cZ)(H:R):Mp:=λr=>if r<H.bU then Z ⟨r,0,0,De w r,ai7<|H.obj r⟩else T
section mem
variable{P:aX}
def XQ(w:cZ)(H:R):Gl H.bU (Bl w H):=λg e=>⟨⟨g,0,0,De w g,ai7<|H.obj g⟩,by unfold Bl;rw[if_pos e],rfl,rfl,rfl⟩
def af5(h:H.bU<=w.heap.size)(ht:∀r,r<H.bU->TabAt w (H.obj r) r):RH (Bl w H) H w:=by
 refine⟨?_,?_,?_⟩
 .intro r l e;unfold Bl at e;split at e
  .next I=>exact I
  .cases e
 .intro r l e;unfold Bl at e;split at e
  .next I=>
   cases e;refine⟨w.heap[r]'N,bJ (i:=r) N,?_⟩;rcases ht r I with W|⟨ty,k,l,f,fr,W,V,Y⟩
   .rw[W];trivial
   .have B:De w r=f.size:=by unfold De;rw[V]
    have E:w.heap[r]'N=.cells f ty fr:=by
     have:=bJ (xs:=w.heap) (i:=r) N;rw[V]at this;injection this with this;exact this.symm
    rw[E,W];show wQ _ _ (xz ty k l) _
    have M:∀i,i<J l->i<f.size:=by
     intro i z;exact(eZ.1<|Y i _<|av z).1
    have ab:J l<=f.size:=by
     rcases dH f.size (J l)with h5|h5
     .have:=M f.size h5;omega
     .exact h5
    refine⟨⟨O,O⟩,O,B.symm,bD _,?_,?_,?_⟩
    .show 0+(len l-0)<=De w r;rw[B,ig];omega
    .intro U;cases U
    .intro i _ z;have z:i<len l:=z;rw[ig]at z;refine⟨.int k (l[i]:Nat),?_,?_⟩
     .simp only[bB,mD];exact Y i _<|av z
     .show VR _ ((Tr.uY top (mp (λn=>bq k<|Int.ofNat n) l) 0 .nil).get top i) _;rw[Tr.nY,G6,if_pos K4];rw[aU];simp[z];exact .sc _ O
  .cases e
 .intro r r' l l' e u _ _ hc;unfold Bl at e u;split at e
  .split at u
   .cases e;cases u;exact hc
   .cases u
  .cases e
def VF{X:Xt}(B:P.follows .mixedOrders=F)(U:Ei P H.bU)(hX:XOk P X)(N:Mj P X H.bU)(hg:P.funcs[g]?=Z fn)(Y:fn.body.isSome=F)(h:lW P X k g args H=Z (v,Q))(z:H.bU<=Q.low)(hv:o7 v=F)(V:args.all o7=F)(hw:H.bU<=w.heap.size)(ht:∀r,r<H.bU->TabAt w (H.obj r) r):
 Calls P g ⟨args⟩ w λe w'=>e=.returned v/\Go.RowKit.Below w.heap.size w w':=by
 refine(levels B U hX N k g args v _ Q fn h hg Y (Bl w H) w args (af5 hw ht) (XQ w H)<|mX.o7 V).mono ?_;rintro e w' ⟨m',v',rfl,I,W,u⟩;rw[I.xY hv];refine⟨O,⟨u.os,u.tape,u.output,u.size,λc hc=>u.keep c hc ?_⟩⟩;intro r l E _;unfold Bl at E;split at E
 .next M=>exact aO M z
 .cases E
def ab2(n:Nat)(b:Bool)(o:aC<|D×R):Bool:=@aP (D×R) (λ_=>Bool) aA (λp=>(@aP Bool (λ_=>Bool) aA (λx=>CK x b)<|kV p.1)&&aD n p.2.low) o
def ab3{o:aC (D×R)}(h:ab2 n b o=F):∃Q,o=Z (.bool b,Q)/\n<=Q.low:=by
 cases o with
 |none=>cases h
 |some p=>
  replace h:((@aP Bool (λ_=>Bool) aA (λx=>CK x b)<|kV p.1)&&aD n p.2.low)=F:=h;rw[bE]at h;cases hb:kV p.1 with
  |none=>rw[hb]at h;cases h.1
  |some x=>
   rw[hb]at h;have I:CK x b=F:=h.1;rw[LZ,ni]at I;exact⟨p.2,by rw[<-I,<-qN hb],aF h.2⟩
end mem
def aa{a b:Prop}(x:a)(y:b):a/\b:=⟨x,y⟩
structure qg(s s':St):Prop where
 nl:s.nl=s'.nl
 nt:s.nt=s'.nt
 df:s.df=s'.df
 H:s.H=s'.H
 lk:∀t,jc s t=jc s' t
inductive CL:Out->Out->Prop where
 |fail:CL .fail .fail
 |norm {s s':St} (h:qg s s'):CL (.norm s) (.norm s')
 |exit (i:Nat) {s s':St} (h:qg s s'):CL (.exit i s) (.exit i s')
 |goto (l:Nat) {s s':St} (h:qg s s'):CL (.goto l s) (.goto l s')
 |ret {s s':St} (h:qg s s'):CL (.ret s) (.ret s')
def qg.look(h:qg s s'):jc s=jc s':=funext h.lk
def qg.ev(h:qg s s'):ev s=ev s':=by
 funext x;cases x with
 |tmp t=>exact congrFun h.look t
 |_=>rfl
def CL.refl(o:Out):CL o o:=by
 cases o with
 |fail=>exact .fail
 |norm s=>exact .norm ⟨O,O,O,O,λ_=>rfl⟩
 |exit i s=>exact .exit i ⟨O,O,O,O,λ_=>rfl⟩
 |goto l s=>exact .goto l ⟨O,O,O,O,λ_=>rfl⟩
 |ret s=>exact .ret ⟨O,O,O,O,λ_=>rfl⟩
def qg.KB(h:qg s s'):KB s=KB s':=by
 funext x;cases x with
 |none=>rfl
 |some x=>exact fq Z<|congrFun h.ev x
def qg.Qk(h:qg s s'):Qk s=Qk s':=by
 funext ps;unfold Go.Ae.Qk;rw[h.ev]
def Fj(d:Nat)(v:D)(l:C<|Nat×D)(t:Nat):Go.Ae.look ((d,v)::l) t=if d=t then v else Go.Ae.look l t:=by
 show cr (aB d t) v (Go.Ae.look l t)=_
 by_cases e:d=t
 .subst e;rw[show aB d d=F from dW d];simp[oh]
 .rw[show aB d t=aA from by rw[<-dn];exactλg=>e<|bA g,if_neg e];rfl
def wr(s:St)(d:Nat):Bool:=cr (iR s.nl d) (aD (dh d) s.nt) F
def Ap(s:St)(d:Nat)(v:D)(H:R)(t:Nat):jc (sM s d v H) t=if d=t/\wr s d=F then v else jc s t:=by
 by_cases hb:iR s.nl d=F
 .have e:sM s d v H=⟨s.nl,s.nt,s.reg,cr (aD (dh d) s.nt) (s.tm.set top d v) s.tm,s.df,H⟩:=by unfold sM;rw[hb];rfl
  have u:wr s d=aD (dh d) s.nt:=by unfold wr;rw[hb];rfl
  rw[e,u];show cr (iR s.nl t) ((cr (aD (dh d) s.nt) (s.tm.set top d v) s.tm).get top t) (Go.Ae.look s.reg t)=if d=t/\aD (dh d) s.nt=F then v else cr (iR s.nl t) (s.tm.get top t) (Go.Ae.look s.reg t)
  by_cases hn:aD (dh d) s.nt=F
  .rw[hn];show cr (iR s.nl t) ((s.tm.set top d v).get top t) (Go.Ae.look s.reg t)=_;rw[Tr.w9]
   by_cases e:d=t
   .subst e;rw[if_pos O,if_pos ⟨rfl,rfl⟩,hb];rfl
   .rw[if_neg (λh=>e h.symm),if_neg λh=>e h.1]
  .rw[dn]at hn;rw[hn,if_neg λh=>by cases h.2];rfl
 .rw[dn]at hb;have e:sM s d v H=⟨s.nl,s.nt,(d,v)::s.reg,s.tm,s.df,H⟩:=by unfold sM;rw[hb];rfl
  have u:wr s d=F:=by unfold wr;rw[hb];rfl
  rw[e,u];show cr (iR s.nl t) (s.tm.get top t) (Go.Ae.look ((d,v)::s.reg) t)=if d=t/\F=F then v else cr (iR s.nl t) (s.tm.get top t) (Go.Ae.look s.reg t)
  rw[Fj]
  by_cases e:d=t
  .subst e;rw[if_pos O,if_pos ⟨rfl,rfl⟩,hb];rfl
  .rw[if_neg e,if_neg λh=>e h.1]
def Lc(s:St)(d:Nat)(v:D)(H:R):(sM s d v H).nl=s.nl/\(sM s d v H).nt=s.nt/\(sM s d v H).df=s.df/\(sM s d v H).H=H:=by
 unfold sM;cases iR s.nl d<;>exact⟨O,O,O,O⟩
def qg.sM(h:qg s s')(d:Nat)(v:D)(H:R):qg (sM s d v H) (sM s' d v H):=by
 obtain⟨a1,e,u,z⟩:=Lc s d v H;obtain⟨B,E,I,M⟩:=Lc s' d v H;refine⟨a1.trans<|h.nl.trans B.symm,e.trans<|h.nt.trans E.symm,u.trans<|h.df.trans I.symm,z.trans M.symm,λt=>?_⟩;rw[Ap,Ap,h.lk];have:wr s d=wr s' d:=by unfold wr;rw[h.nl,h.nt]
 rw[this]
def qg.same(s:St)(t:Nat):qg s (Go.Ae.sM s t (jc s t) s.H):=by
 obtain⟨e,u,z,B⟩:=Lc s t (jc s t) s.H;refine⟨e.symm,u.symm,z.symm,B.symm,λE=>?_⟩;rw[Ap];split
 .next h=>rw[h.1]
 .rfl
def qg.jY(h:qg s s')(d:aC Nat)(v:D)(H:R):qg (jY s d v H) (jY s' d v H):=by
 cases d with
 |none=>exact⟨h.nl,h.nt,h.df,O,h.lk⟩
 |some d=>exact h.sM d v H
def F9(s:St)(t:Nat):jc (clear s) t=cr (iR s.nl t) (jc s t) top:=by
 unfold jc;show cr (iR s.nl t) (s.tm.get top t) (Go.Ae.look [] t)=_;cases iR s.nl t<;>rfl
def qg.clear(h:qg s s'):qg (clear s) (clear s'):=⟨h.nl,h.nt,h.df,h.H,λt=>by rw[F9,F9,h.nl,h.lk]⟩
def qg.iU(h:qg s s'):qg (iU s) (iU s'):=⟨h.nl,h.nt,h.df,by show R.mk _ _ _=R.mk _ _ _;rw[h.H],h.lk⟩
def qg.heap(h:qg s s')(d:C Deferred)(H:R):qg ⟨s.nl,s.nt,s.reg,s.tm,d,H⟩ ⟨s'.nl,s'.nt,s'.reg,s'.tm,d,H⟩:=⟨h.nl,h.nt,O,O,h.lk⟩
def qg.refl(s:St):qg s s:=⟨O,O,O,O,λ_=>rfl⟩
def qg.symm{s s':St}(h:qg s s'):qg s' s:=⟨h.nl.symm,h.nt.symm,h.df.symm,h.H.symm,λt=>(h.lk t).symm⟩
def qg.trans(h:qg s s')(W:qg s' s2):qg s s2:=⟨h.nl.trans W.nl,h.nt.trans W.nt,h.df.trans W.df,h.H.trans W.H,λt=>(h.lk t).trans<|W.lk t⟩
section mem
variable{P:aX}{cf:mJ}
def qg.pF(h:qg s s')(c:Callee):pF c P s=pF c P s':=by
 cases c with
 |value cs=>show(aN (vFn<|Go.Ae.ev s cs) _)=_;rw[h.ev];rfl
 |invoke r n=>rfl
 |builtin b=>rfl
def qg.Aa(h:qg s s')(o:Op):Aa o P cf s=Aa o P cf s':=by
 have e:=h.ev;have B:=h.KB;have E:=h.Qk;have u:=h.H;cases o with
 |call c=>
  show zx c P cf s=zx c P cf s';unfold zx;rw[h.pF,e,u]
 |move x=>show R3.DN (Go.Ae.ev s x)=_;rw[e];rfl
 |assign x=>show R3.DN (Go.Ae.ev s x)=_;rw[e];rfl
 |pick c a b=>show rp (LM (Go.Ae.ev s c) (Go.Ae.ev s a)<|Go.Ae.ev s b)=_;rw[e];rfl
 |alloc t=>show rm (D_ P t s.H)=_;rw[u];rfl
 |box t x=>show rm (LQ t (Go.Ae.ev s x) s.H)=_;rw[e,u];rfl
 |build t z=>show rp (CS P t<|Go.Ae.Qk s z)=_;rw[E];rfl
 |buildSlice t n z=>show rm (vC P t n (Go.Ae.Qk s z) s.H)=_;rw[E,u];rfl
 |load t x=>show rm (xV P t (Go.Ae.ev s x) s.H)=_;rw[e,u];rfl
 |store t x v=>show rm (Aw P t (Go.Ae.ev s x) (Go.Ae.ev s v) s.H)=_;rw[e,u];rfl
 |nilCheck x=>show rp (Qj<|Go.Ae.ev s x)=_;rw[e];rfl
 |binOp op t x y W=>show rp (mW P op t x y (Go.Ae.ev s x)<|Go.Ae.ev s y)=_;rw[e];rfl
 |unOp op t x=>show rp (lH<|Op.unary op<|Go.Ae.ev s x)=_;rw[e];rfl
 |convert a b x=>show rpm (D7 P a b<|Go.Ae.ev s x) (rm<|wC P a b (Go.Ae.ev s x) s.H)=_;rw[e,u];rfl
 |makeFunc cs M I=>show rp (Z<|.func cs ⟨mp (Go.Ae.ev s) M.toList⟩ ⟨mp (Go.Ae.ev s) I.toList⟩)=_;rw[e];rfl
 |makeMap t r=>show rm (vD P t (Go.Ae.KB s r) s.H)=_;rw[B,u];rfl
 |makeSlice t l c=>show rm (sK P t (Go.Ae.ev s l) (Go.Ae.ev s c) s.H)=_;rw[e,u];rfl
 |slice t x O N U=>show rp (BQ P t (Go.Ae.ev s x) (Go.Ae.KB s O) (Go.Ae.KB s N)<|Go.Ae.KB s U)=_;rw[e,B];rfl
 |fieldAddr t x cs=>show rp (uy P t (Go.Ae.ev s x) cs)=_;rw[e];rfl
 |field t x cs=>show rp (D9 P t (Go.Ae.ev s x) cs)=_;rw[e];rfl
 |indexAddr t x i=>show rp (uw P t (Go.Ae.ev s x)<|Go.Ae.ev s i)=_;rw[e];rfl
 |index t x i=>show rp (D8 P t (Go.Ae.ev s x)<|Go.Ae.ev s i)=_;rw[e];rfl
 |lookup t x k V=>show rm (uT P t (Go.Ae.ev s x) (Go.Ae.ev s k) V s.H)=_;rw[e,u];rfl
 |mapUpdate t m k v=>show rm (w_ P t (Go.Ae.ev s m) (Go.Ae.ev s k) (Go.Ae.ev s v) s.H)=_;rw[e,u];rfl
 |extract t i=>show rp (wN (Go.Ae.ev s t) i)=_;rw[e];rfl
 |_=>rfl
def qg.CX(h:qg s s')(c:Call):CX c P s=CX c P s':=by
 unfold Go.Ae.CX;rw[h.ev]
inductive SEq:aC St->aC St->Prop where
 |none:SEq T T
 |some {s s':St} (h:qg s s'):SEq (Z s) (Z s')
def qg.sU(h:qg s s')(ops:Array Oper)(g:aC<|Nat×Bool):sU ops s g=sU ops s' g:=by
 cases g with
 |none=>rfl
 |some g=>
  show OZ ops s g=OZ ops s' g;unfold OZ CW;rw[h.look]
def qg.F3(h:qg s s')(o:Oper)(r:R3):SEq (F3 o s r) (F3 o s' r):=by
 cases r with
 |fail=>exact .none
 |DN v=>show SEq (kS<|Go.Ae.jY s o.dst v s.H)<|kS<|Go.Ae.jY s' o.dst v s'.H;rw[h.H];exact .some<|h.jY ..
 |mem v H=>exact .some<|h.jY ..
def qg.Bi(h:qg s s')(o:Oper):SEq (Bi P cf o s) (Bi P cf o s'):=by
 unfold Go.Ae.Bi;cases tJ o.op with
 |none=>
  show SEq (Go.Ae.F3 o s<|Go.Ae.Aa o.op P cf s)<|Go.Ae.F3 o s'<|Go.Ae.Aa o.op P cf s';rw[h.Aa];exact h.F3 ..
 |some c=>
  show SEq (aN (Go.Ae.CX c P s) _)<|aN (Go.Ae.CX c P s') _;rw[h.CX];cases Go.Ae.CX c P s' with
  |none=>exact .none
  |some d=>
   show SEq (kS<|Go.Ae.jY ⟨s.nl,s.nt,s.reg,s.tm,d::s.df,s.H⟩ o.dst undef s.H)<|kS<|Go.Ae.jY ⟨s'.nl,s'.nt,s'.reg,s'.tm,d::s'.df,s'.H⟩ o.dst undef s'.H;rw[h.df,h.H];exact .some<|(h.heap _ _).jY ..
def qg.oq(h:qg s s')(ops:Array Oper)(o:Oper):SEq (oq P cf ops o s) (oq P cf ops o s'):=by
 unfold Go.Ae.oq;rw[h.sU];cases Go.Ae.sU ops s' o.guard with
 |none=>exact .none
 |some b=>cases b with
  |true=>exact h.Bi o
  |false=>show SEq (kS<|Go.Ae.jY s o.dst undef s.H)<|kS<|Go.Ae.jY s' o.dst undef s'.H;rw[h.H];exact .some<|h.jY ..
def qg.oK(ops:Array Oper):∀(l:C Oper){s s':St},qg s s'->SEq (oK P cf ops l s) (oK P cf ops l s'):=by
 intro l
 induction l with
 |nil=>intro s s' h;exact .some h
 |cons o l e=>
  intro s s' h;show SEq (aN (Go.Ae.oq P cf ops o s)<|Go.Ae.oK P cf ops l)<|aN (Go.Ae.oq P cf ops o s')<|Go.Ae.oK P cf ops l;have:=h.oq (P:=P) (cf:=cf) ops o;generalize Go.Ae.oq P cf ops o s=a at this;generalize Go.Ae.oq P cf ops o s'=b at this;cases this with
  |none=>exact .none
  |some I=>exact e I
inductive DEq{α:Type}:aC (St×α)->aC (St×α)->Prop where
 |none:DEq T T
 |some {s s':St} (x:α) (h:qg s s'):DEq (Z (s,x)) (Z (s',x))
def qg.uJ(h:qg s s')(o:Op)(H:R):uJ P o s H=uJ P o s' H:=by
 unfold Go.Ae.uJ BA;rw[h.ev,h.H]
def qg.mV(h:qg s s')(ops:Array Oper)(o:Oper):DEq (mV P cf ops o s) (mV P cf ops o s'):=by
 unfold Go.Ae.mV;rw[h.sU];cases Go.Ae.sU ops s' o.guard with
 |none=>exact .none
 |some b=>cases b with
  |true=>
   show DEq (JK P o s<|Go.Ae.Aa o.op P cf<|Go.Ae.iU s)<|JK P o s'<|Go.Ae.Aa o.op P cf<|Go.Ae.iU s';rw[h.iU.Aa];cases Go.Ae.Aa o.op P cf (Go.Ae.iU s')with
   |fail=>exact .none
   |DN v=>show DEq (kS (Go.Ae.jY s o.dst v s.H,cl 0))<|kS (Go.Ae.jY s' o.dst v s'.H,cl 0);rw[h.H];exact .some _<|h.jY ..
   |mem v H=>
    show DEq (kS (Go.Ae.jY s o.dst v ⟨H.xO,H.bU,pW s.H.low H.low⟩,Go.Ae.uJ P o.op s H))<|kS (Go.Ae.jY s' o.dst v ⟨H.xO,H.bU,pW s'.H.low H.low⟩,Go.Ae.uJ P o.op s' H);rw[h.uJ,h.H];exact .some _<|h.jY ..
  |false=>show DEq (kS (Go.Ae.jY s o.dst undef s.H,cl 0))<|kS (Go.Ae.jY s' o.dst undef s'.H,cl 0);rw[h.H];exact .some _<|h.jY ..
def qg.jV(ops:Array Oper):∀(l:C Oper){s s':St}(acc:C Cl),qg s s'->DEq (jV P cf ops l s acc) (jV P cf ops l s' acc):=by
 intro l
 induction l with
 |nil=>intro s s' acc h;exact .some _ h
 |cons o l e=>
  intro s s' acc h;show DEq (aN (Go.Ae.mV P cf ops o s) λq=>Go.Ae.jV P cf ops l q.1<|q.2::acc)<|aN (Go.Ae.mV P cf ops o s') λq=>Go.Ae.jV P cf ops l q.1<|q.2::acc;have:=h.mV (P:=P) (cf:=cf) ops o;generalize Go.Ae.mV P cf ops o s=a at this;generalize Go.Ae.mV P cf ops o s'=b at this;cases this with
  |none=>exact .none
  |some x I=>exact e _ I
def qg.region(h:qg s s')(ops:Array Oper)(d:Bool):CL (region P cf ops d s) (region P cf ops d s'):=by
 cases d with
 |false=>
  show CL (JM<|Go.Ae.oK P cf ops ops.toList<|Go.Ae.clear s)<|JM<|Go.Ae.oK P cf ops ops.toList<|Go.Ae.clear s';have:=qg.oK (P:=P) (cf:=cf) ops ops.toList h.clear;generalize Go.Ae.oK P cf ops ops.toList (Go.Ae.clear s)=a at this;generalize Go.Ae.oK P cf ops ops.toList (Go.Ae.clear s')=b at this;cases this with
  |none=>exact .fail
  |some I=>exact .norm I
 |true=>
  show CL (cr (lT ops&&qM ops) (xw ops<|Go.Ae.jV P cf ops ops.toList (Go.Ae.clear s) []) .fail)<|cr (lT ops&&qM ops) (xw ops<|Go.Ae.jV P cf ops ops.toList (Go.Ae.clear s') []) .fail;cases(lT ops&&qM ops)with
  |false=>exact .fail
  |true=>
   show CL (xw ops<|Go.Ae.jV P cf ops ops.toList (Go.Ae.clear s) [])<|xw ops<|Go.Ae.jV P cf ops ops.toList (Go.Ae.clear s') [];have:=qg.jV (P:=P) (cf:=cf) ops ops.toList [] h.clear;generalize Go.Ae.jV P cf ops ops.toList (Go.Ae.clear s) []=a at this;generalize Go.Ae.jV P cf ops ops.toList (Go.Ae.clear s') []=b at this;cases this with
   |none=>exact .fail
   |some x I=>
    show CL (cr (kZ ops x) (.norm _) .fail)<|cr (kZ ops x) (.norm _) .fail;cases kZ ops x with
    |true=>exact .norm I
    |false=>exact .fail
def CL.trans{a b c:Out}(h:CL a b)(W:CL b c):CL a c:=by
 cases h with
 |fail=>exact W
 |norm h=>cases W with|norm W=>exact .norm<|h.trans W
 |exit i h=>cases W with|exit _ W=>exact .exit i<|h.trans W
 |goto l h=>cases W with|goto _ W=>exact .goto l<|h.trans W
 |ret h=>cases W with|ret W=>exact .ret<|h.trans W
def ab4{cs:St->Out}(e:∀s s',qg s s'->CL (cs s) (cs s')):∀n s s',qg s s'->CL (zy n cs s) (zy n cs s'):=by
 intro n
 induction n with
 |zero=>intro s s' _;exact .fail
 |succ n u=>
  intro s s' h;show CL (andThen (cs s)<|zy n cs)<|andThen (cs s')<|zy n cs;have:=e s s' h;generalize cs s=a at this;generalize cs s'=b at this;cases this with
  |fail=>exact .fail
  |norm I=>exact u _ _ I
  |exit i I=>exact .exit i I
  |goto l I=>exact .goto l I
  |ret I=>exact .ret I
def ZV(M:∀c s s',qg s s'->CL (cx c s) (cx c s'))(e:Code):∀n o o',CL o o'->CL (pG cx n e o) (pG cx n e o'):=by
 intro n
 induction n with
 |zero=>intro o o' _;exact .fail
 |succ n z=>
  intro o o' h;cases h with
  |fail=>exact .fail
  |norm I=>exact .norm I
  |exit i I=>exact .exit i I
  |ret I=>exact .ret I
  |goto l I=>
   rename_i s s';show CL (@aP Code (λ_=>Out) (.goto l s) (λu=>pG cx n e<|cx u s)<|findLabel e l)<|@aP Code (λ_=>Out) (.goto l s') (λu=>pG cx n e<|cx u s')<|findLabel e l;cases findLabel e l with
   |none=>exact .goto l I
   |some u=>exact z _ _<|M u _ _ I
theorem XR(M:∀c s s',qg s s'->CL (cx c s) (cx c s'))(n:Nat)(c:Code):∀s s',qg s s'->CL (exec P cf cx n c s) (exec P cf cx n c s'):=by
 induction c with
 |skip=>intro s s' h;exact .norm h
 |region id ops d=>intro s s' h;exact h.region ops d
 |seq a b e u=>
  intro s s' h;show CL (andThen (exec P cf cx n a s)<|exec P cf cx n b)<|andThen (exec P cf cx n a s')<|exec P cf cx n b;have:=e s s' h;generalize exec P cf cx n a s=x at this;generalize exec P cf cx n a s'=y at this;cases this with
  |fail=>exact .fail
  |norm I=>exact u _ _ I
  |exit i I=>exact .exit i I
  |goto l I=>exact .goto l I
  |ret I=>exact .ret I
 |cond x a b e u=>
  intro s s' h;show CL (JL (kV<|ev s x) (exec P cf cx n a s)<|exec P cf cx n b s)<|JL (kV<|ev s' x) (exec P cf cx n a s')<|exec P cf cx n b s';rw[h.ev];cases kV (ev s' x)with
  |none=>exact .fail
  |some t=>cases t with
   |true=>exact e _ _ h
   |false=>exact u _ _ h
 |block id a z=>
  intro s s' h;show CL (yN id<|exec P cf cx n a s)<|yN id<|exec P cf cx n a s';have:=z s s' h;generalize exec P cf cx n a s=x at this;generalize exec P cf cx n a s'=y at this;cases this with
  |fail=>exact .fail
  |norm I=>exact .norm I
  |exit i I=>
   show CL (cr (aB i id) _ _)<|cr (aB i id) _ _;cases aB i id with
   |true=>exact .norm I
   |false=>exact .exit i I
  |goto l I=>exact .goto l I
  |ret I=>exact .ret I
 |loop a z=>intro s s' h;exact ab4 z n s s' h
 |scope a z=>intro s s' h;exact ZV M a n _ _<|z s s' h
 |label l=>intro s s' h;exact .norm h
 |exit i=>intro s s' h;exact .exit i h
 |goto l=>intro s s' h;exact .goto l h
 |ret=>intro s s' h;exact .ret h
 |_=>intro s s' h;exact .fail
variable{X:Xt}
def akX(n:Nat):∀c s s',qg s s'->CL ((lv P X n).cx c s) ((lv P X n).cx c s'):=by
 induction n with
 |zero=>intro c s s' _;exact .fail
 |succ n e=>intro c s s' h;exact XR e n c s s' h
def Ev.alike{o:Out}(z:qg s s')(h:Ev P X c s o):∃o',CL o o'/\Ev P X c s' o':=by
 obtain⟨e,k,u⟩:=h;have:=XR (P:=P) (cf:=(lv P X k).ca) (akX (P:=P) (X:=X) k) k c s s' z;refine⟨HZ P X k c s',by rw[<-u];exact this,?_,k,O⟩;intro B;replace this:CL (HZ P X k c s) (HZ P X k c s'):=this;rw[B,u]at this;cases this;exact e O
def qg.ny(h:qg s s')(l:C ResultVar):ny P s l=ny P s' l:=by
 induction l with
 |nil=>rfl
 |cons r l e=>
  show(aN (E6 P s r) λv=>aN (Go.Ae.ny P s l) λvs=>Z<|v::vs)=(aN (E6 P s' r) λv=>aN (Go.Ae.ny P s' l) λvs=>Z<|v::vs);rw[e]
  have:E6 P s r=E6 P s' r:=by
   cases r with
   |tmp t=>show Z (jc s t)=Z (jc s' t);rw[h.look]
   |cell a t=>show(aN (xV P t (jc s a) s.H) _)=(aN (xV P t (jc s' a) s'.H) _);rw[h.look,h.H]
  rw[this]
end mem
end Go.Ae
