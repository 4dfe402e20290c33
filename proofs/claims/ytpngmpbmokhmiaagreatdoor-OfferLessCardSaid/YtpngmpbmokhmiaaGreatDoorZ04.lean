/-
  Part 04 of the proof. No condition.
-/
import Derived.Test.YtpngmpbmokhmiaaGreatDoorZ03
set_option linter.unusedVariables false
set_option linter.unusedSimpArgs false
set_option maxRecDepth 100000
set_option maxHeartbeats 4000000
set_option linter.defProp false
open Option renaming some->Z,none->T,rec->aQ
open Bool renaming true->f,false->aA,rec->ik
open Go renaming Value->C,TypeId->aI,Program->aX,World->cZ,Operand->cz,IntKind->f_,BinOp->tH
open Go.Value renaming int->a_,slice->J,bool->aO,string->aJ,pointer->bG,map->gz
open Nat renaming rec->kD,beq->aB,succ->dh,ble->aD,add->bq
open List renaming rec->dF,length->u,toArray->jm
open ByteArray renaming mk->dJ
open And renaming intro->iZ
noncomputable section
namespace Go.Ae.hx
variable{ps:Array (Nat×cz)}{K K' Km Km':C->R->Prop}{args ps1 ps2:Array cz}{α β:Type}{ats:Array aI}{h2 c:Code}{Kp Kp':C->Prop}{p:D Nat}{i j n nl nt t:Nat}{ρ:cz->C}{o:Op}{hi lo mx r:aC cz}{b gb ok:Bool}{ty aa:aI}{H Q:R}{v w:C}{s:St}{a vs:D C}
inductive Fr where
 |n
 |c(i:Nat)(v:C)(l:Fr)
abbrev Rs:=D<|Nat×C
def tsF(l:Fr):Tr C:=@Fr.rec (λ_=>Tr C) .nil (λi v _ r=>r.set top i v) l
def S(nl nt:Nat)(sl:Fr)(E:Rs)(H:R):St:=⟨nl,nt,E,tsF sl,[],H⟩
def lk(sl:Fr)(E:Rs)(t:Nat):C:=@Fr.rec (λ_=>C) (look E t) (λi v _ r=>b_ (aB i t) v r) sl
def hs(sl:Fr)(t:Nat):Bool:=@Fr.rec (λ_=>Bool) aA (λi _ _ r=>b_ (aB i t) f r) sl
def up(sl:Fr)(t:Nat)(v:C):Fr:=@Fr.rec (λ_=>Fr) .n (λi w l r=>b_ (aB i t) (.c i v l)<|.c i w r) sl
def Tw(nl nt:Nat)(sl:Fr):Bool:=aD (dh nl) (Nat.pow 2 nt)&&@kD (λ_=>Bool) f (λt r=>b_ (hs sl t) (iP nl t) (!(iP nl t))&&r) nt&&@Fr.rec (λ_=>Bool) f (λi _ _ r=>aD (dh i) nt&&r) sl
def eq'(sl:Fr)(E:Rs)(x:cz):C:=@Operand.rec (λ_=>C) (λt=>lk sl E t) (λv=>v) (λg=>.pointer<|Z ⟨g,0,T⟩) (λay=>.func (.func ay) #[] #[]) x
def eqO(ρ:cz->C)(x:aC cz):aC C:=@aQ cz (λ_=>aC C) T (λx=>Z<|ρ x) x
def acN(ρ:cz->C)(ps:Array<|Nat×cz):Rs:=mp (λp=>(p.1,ρ p.2)) ps.toList
def agd(c:Callee):aX->(cz->C)->aC (FuncId×D C×D C):=
 @Callee.rec (λ_=>aX->(cz->C)->aC (FuncId×D C×D C))
  (λay _ ρ=>Oo<|ρ ay) (λ_ _ _ _=>T)
  (λ_ _ _=>T) c
def ak5(P:aX)(X:Xt)(c:Call)(ρ:cz->C)(H:R)(Kp:C->Prop)(Km:C->R->Prop):Prop:=
 @aQ Builtin (λ_=>Prop) (qh P X (agd c.callee P ρ) (mp ρ c.args.toList) H Km)
  (λb=>Aw b c.argTypes.toList (mp ρ c.args.toList) P H Kp Km) (isBuiltin c.callee)
def opG(o:Op):aX->Xt->(cz->C)->R->(C->Prop)->(C->R->Prop)->Prop:=
 @Op.rec (λ_=>aX->Xt->(cz->C)->R->(C->Prop)->(C->R->Prop)->Prop)
  (λx P X ρ H Kp Km=>Kp<|ρ x) (λx P X ρ H Kp Km=>Kp<|ρ x) (λc a b P X ρ H Kp Km=>PU (LP (ρ c) (ρ a)<|ρ b) Kp) (λe P X ρ H Kp Km=>ME (D4 P e H) Km) (λe x P X ρ H Kp Km=>ME (LU e (ρ x) H) Km) (λt ps P X ρ H Kp Km=>PU (CP P t<|acN ρ ps) Kp) (λt n ps P X ρ H Kp Km=>ME (vv P t n (acN ρ ps) H) Km) (λ_ _ _ _ _ _ _ _ _ _=>False) (λt x P X ρ H Kp Km=>ME (xP P t (ρ x) H) Km) (λt x v P X ρ H Kp Km=>ME (Ak P t (ρ x) (ρ v) H) Km) (λ_ _ _ _ _ _ _=>False) (λ_ _ _ _ _ _ _=>False) (λx P X ρ H Kp Km=>PU (Qc<|ρ x) Kp) (λop t x y _ P X ρ H Kp Km=>PU (mW P op t x y (ρ x)<|ρ y) Kp) (λop _ x P X ρ H Kp Km=>PU (lD<|Op.unary op<|ρ x) Kp) (λa b x P X ρ H Kp Km=>CV (DY P a b<|ρ x) (wo P a b (ρ x) H) Kp Km) (λ_ _ _ _ _ _ _ _=>False) (λ_ _ _ _ _ _ _ _=>False) (λay I B P X ρ H Kp Km=>Kp<|.func ay ⟨mp ρ I.toList⟩ ⟨mp ρ B.toList⟩) (λt r P X ρ H Kp Km=>ME (vw P t (eqO ρ r) H) Km) (λ_ _ _ _ _ _ _ _=>False) (λt l c P X ρ H Kp Km=>ME (sK P t (ρ l) (ρ c) H) Km) (λt x lo hi mx P X ρ H Kp Km=>PU (BI P t (ρ x) (eqO ρ lo) (eqO ρ hi)<|eqO ρ mx) Kp) (λt x ay P X ρ H Kp Km=>PU (ug P t (ρ x) ay) Kp) (λt x ay P X ρ H Kp Km=>PU (D3 P t (ρ x) ay) Kp) (λt x i P X ρ H Kp Km=>PU (uf P t (ρ x)<|ρ i) Kp) (λt x i P X ρ H Kp Km=>PU (DZ P t (ρ x)<|ρ i) Kp) (λt x k ok P X ρ H Kp Km=>ME (uM P t (ρ x) (ρ k) ok H) Km) (λt m k v P X ρ H Kp Km=>ME (wV P t (ρ m) (ρ k) (ρ v) H) Km) (λ_ _ _ _ _ _ _ _ _=>False) (λ_ _ _ _ _ _ _ _ _ _=>False) (λ_ _ _ _ _ _ _ _=>False) (λ_ _ _ _ _ _ _ _=>False) (λ_ _ _ _ _ _ _=>False) (λ_ _ _ _ _ _ _ _ _ _=>False) (λt i P X ρ H Kp Km=>PU (wI (ρ t) i) Kp) (λc P X ρ H Kp Km=>ak5 P X c ρ H Kp Km) (λ_ _ _ _ _ _ _=>False) (λ_ _ _ _ _ _ _=>False) (λ_ _ _ _ _ _ _=>False) (λ_ _ _ _ _ _ _ _=>False) (λ_ _ _ _ _ _ _ _ _=>False) (λ_ _ _ _ _ _ _ _=>False) o
def acO(P:aX)(o:Op)(ρ:cz->C):Cl:=
 (aN (I8 o) λp=>aN (sJ<|ρ p.2) λa=>aN (tLd P p.1) λl=>Z<|Cl.mk 4 a.block a.off (l.getD 1) hh0 hh0).getD (cl 1)
def IW(P:aX)(o:Op)(ρ:cz->C)(H Q:R):Cl:=
 @aQ (cz×cz) (λ_=>Cl) (b_ (aD H.bV Q.low) (b_ (Bj o) (cl 5)<|acO P o ρ) ⟨2,0,0,0,H,Q⟩)
  (λp=>@aQ Addr (λ_=>Cl) ⟨2,0,0,0,H,Q⟩ (λa=>⟨3,a.block,a.off,len<|cr<|ρ p.2,hh0,hh0⟩)<|sJ<|ρ p.1) (CU o)
inductive Kd where
 |norm
 |exit(i:Nat)
 |goto(l:Nat)
 |ret
def Kd.out(k:Kd)(s:St):Out:=@Kd.rec (λ_=>Out) (.norm s) (λi=>.exit i s) (λl=>.goto l s) (.ret s) k
def blQ(id:Nat)(k:Kd):Kd:=@Kd.rec (λ_=>Kd) .norm (λi=>b_ (aB i id) .norm<|.exit i) (λl=>.goto l) .ret k
inductive Fm where
 |sq(p:D Nat)(c:Code)
 |sj(p:D Nat)
 |bk(id:Nat)
inductive Md where
 |pl
 |dr(aj:Array Oper)(acc:D Cl)
def Gf(m:Md):Md:=@Md.rec (λ_=>Md) .pl (λaj acc=>.dr aj<|cl 0::acc) m
def R6(m:Md)(c:Cl):Md:=@Md.rec (λ_=>Md) .pl (λaj acc=>.dr aj<|c::acc) m
def hX(m:Md)(H:R):R:=@Md.rec (λ_=>R) H (λ_ _=>hN H) m
def hY(m:Md)(H Q:R):R:=@Md.rec (λ_=>R) Q (λ_ _=>hM H Q) m
inductive Ct where
 |co(c:Code)(p:D Nat)
 |cd(v:aC Bool)(a b:Code)(p:D Nat)
 |ou(k:Kd)
 |op(L l:D Oper)(m:Md)(sk:D Nat)
 |gu(L l:D Oper)(m:Md)(sk:D Nat)(d:aC Nat)(o:Op)(gb:Bool)(t:aC Nat)
 |gv(L l:D Oper)(m:Md)(sk:D Nat)(d:aC Nat)(o:Op)(gb:Bool)(t:Nat)(e:Bool)(v:aC Bool)
 |ge(L l:D Oper)(m:Md)(sk:D Nat)(d:aC Nat)(o:Op)(b:Bool)
 |ex(L l:D Oper)(m:Md)(sk:D Nat)(d:aC Nat)(o:Op)
 |pk(L l:D Oper)(m:Md)(sk:D Nat)(d:aC Nat)(c:aC Bool)(a b:C)
 |af(L l:D Oper)(m:Md)(sk:D Nat)(d:aC Nat)(v:C)
 |pt(h:Bool)(t:Nat)(v:C)(nx:Ct)
def AB(p:D Nat):D Nat->D Nat:=@dF Nat (λ_=>D Nat->D Nat) (λq=>q) (λi _ e q=>e<|i::q) p
def kO(P:aX)(X:Xt)(h2:Code)(st:D Fm)(rg:Out->Prop):Out->Prop:=
 @dF Fm (λ_=>Out->Prop) rg (λay _ r=>@Fm.rec (λ_=>Out->Prop) (λp _=>uQ P X (sub h2<|AB p []) r) (λp=>uQ P X (sub h2<|AB p []) r) (λid=>uk id r) ay) st
def gtN(l:D Oper)(j:Nat):aC Nat:=aN (nth l j) λo=>o.dst
def aad(sk:D Nat)(d:aC Nat):D Nat:=@aQ Nat (λ_=>D Nat) sk (λd=>d::sk) d
def az(P:aX)(X:Xt)(nl nt:Nat)(h2:Code):Nat->Ct->D Fm->Fr->Rs->R->(Out->Prop)->Prop
 |0,_,_,_,_,_,_=>False
 |n+1,.co .skip _,st,sl,E,H,rg=>az P X nl nt h2 n (.ou .norm) st sl E H rg
 |n+1,.co (.region _ ops aA) _,st,sl,_,H,rg=>az P X nl nt h2 n (.op ops.toList ops.toList .pl []) st sl [] H rg
 |n+1,.co (.region _ ops f) p,st,sl,_,H,rg=>(lT ops&&qN ops)=f/\az P X nl nt h2 n (.op ops.toList ops.toList (.dr (opsOf<|sub h2<|AB p []) []) []) st sl [] H rg
 |n+1,.co (.seq a b) p,st,sl,E,H,rg=>az P X nl nt h2 n (.co a<|0::p) (b_ (HY a b) (.sj<|1::p) (.sq (1::p) b)::st) sl E H rg
 |n+1,.co (.cond x a b) p,st,sl,E,H,rg=>az P X nl nt h2 n (.cd (kT<|eq' sl E x) a b p) st sl E H rg
 |n+1,.co (.block id a) p,st,sl,E,H,rg=>az P X nl nt h2 n (.co a<|0::p) (.bk id::st) sl E H rg
 |_+1,.co (.loop _) p,st,sl,E,H,rg=>iC P X (.loop<|sub h2<|AB (0::p) []) (S nl nt sl E H)<|kO P X h2 st rg
 |_+1,.co (.scope _) p,st,sl,E,H,rg=>iC P X (.scope<|sub h2<|AB (0::p) []) (S nl nt sl E H)<|kO P X h2 st rg
 |n+1,.co (.exit i) _,st,sl,E,H,rg=>az P X nl nt h2 n (.ou<|.exit i) st sl E H rg
 |n+1,.co (.goto i) _,st,sl,E,H,rg=>az P X nl nt h2 n (.ou<|.goto i) st sl E H rg
 |n+1,.co (.label _) _,st,sl,E,H,rg=>az P X nl nt h2 n (.ou .norm) st sl E H rg
 |n+1,.co .ret _,st,sl,E,H,rg=>az P X nl nt h2 n (.ou .ret) st sl E H rg
 |_+1,.co _ _,_,_,_,_,_=>False
 |n+1,.cd v a b p,st,sl,E,H,rg=>yN v (az P X nl nt h2 n (.co a<|0::p) st sl E H rg)<|az P X nl nt h2 n (.co b<|1::p) st sl E H rg
 |_+1,.ou k,[],sl,E,H,rg=>rg<|k.out<|S nl nt sl E H
 |n+1,.ou .norm,.sq p c::st,sl,E,H,rg=>az P X nl nt h2 n (.co c p) st sl E H rg
 |_+1,.ou .norm,.sj p::st,sl,E,H,rg=>iC P X (sub h2<|AB p []) (S nl nt sl E H)<|kO P X h2 st rg
 |n+1,.ou k,.bk id::st,sl,E,H,rg=>az P X nl nt h2 n (.ou<|blQ id k) st sl E H rg
 |n+1,.ou k,_::st,sl,E,H,rg=>az P X nl nt h2 n (.ou k) st sl E H rg
 |n+1,.op L [] m sk,st,sl,E,H,rg=>@Md.rec (λ_=>Prop) (az P X nl nt h2 n (.ou .norm) st sl E H rg) (λaj acc=>kY aj acc=f/\az P X nl nt h2 n (.ou .norm) st sl E H rg) m
 |n+1,.op L (o::l) m sk,st,sl,E,H,rg=>@aQ (Nat×Bool) (λ_=>Prop) (az P X nl nt h2 n (.ex L l m sk o.dst o.op) st sl E H rg)
   (λg=>az P X nl nt h2 n (.gu L l m sk o.dst o.op g.2<|gtN L g.1) st sl E H rg) o.guard
 |_+1,.gu _ _ _ _ _ _ _ T,_,_,_,_,_=>False
 |n+1,.gu L l m sk d o gb<|Z t,st,sl,E,H,rg=>az P X nl nt h2 n (.gv L l m sk d o gb t (Cf sk t)<|kT<|lk sl E t) st sl E H rg
 |n+1,.gv L l m sk d o gb t e v,st,sl,E,H,rg=>@ik (λ_=>Prop)
   (yN v (az P X nl nt h2 n (.pt (hs sl t) t (.bool f)<|.ge L l m (sw sk t) d o<|CE f gb) st sl E H rg)<|az P X nl nt h2 n (.pt (hs sl t) t (.bool aA)<|.ge L l m (sw sk t) d o<|CE aA gb) st sl E H rg)
   (az P X nl nt h2 n (.ge L l m sk d o aA) st sl E H rg) e
 |n+1,.ge L l m sk d o b,st,sl,E,H,rg=>@ik (λ_=>Prop) (az P X nl nt h2 n (.af L l (Gf m) (aad sk d) d undef) st sl E H rg) (az P X nl nt h2 n (.ex L l m sk d o) st sl E H rg) b
 |n+1,.ex L l m sk d<|.move x,st,sl,E,H,rg=>az P X nl nt h2 n (.af L l (Gf m) (nN sk d) d<|eq' sl E x) st sl E H rg
 |n+1,.ex L l m sk d<|.assign x,st,sl,E,H,rg=>az P X nl nt h2 n (.af L l (Gf m) (nN sk d) d<|eq' sl E x) st sl E H rg
 |n+1,.ex L l m sk d<|.makeFunc ay ps1 ps2,st,sl,E,H,rg=>az P X nl nt h2 n (.af L l (Gf m) (nN sk d) d<|.func ay ⟨mp (eq' sl E) ps1.toList⟩ ⟨mp (eq' sl E) ps2.toList⟩) st sl E H rg
 |n+1,.ex L l m sk d<|.pick c a b,st,sl,E,H,rg=>az P X nl nt h2 n (.pk L l (Gf m) (nN sk d) d (kT<|eq' sl E c) (eq' sl E a)<|eq' sl E b) st sl E H rg
 |n+1,.ex L l m sk d o,st,sl,E,H,rg=>opG o P X (eq' sl E) (hX m H) (λv=>az P X nl nt h2 n (.af L l (Gf m) (nN sk d) d v) st sl E H rg) λv Q=>az P X nl nt h2 n (.af L l (R6 m<|IW P o (eq' sl E) H Q) (nN sk d) d v) st sl E (hY m H Q) rg
 |n+1,.pk L l m sk d c a b,st,sl,E,H,rg=>PU (aN c λt=>Z<|b_ t a b) λv=>az P X nl nt h2 n (.af L l m sk d v) st sl E H rg
 |n+1,.af L l m sk T v,st,sl,E,H,rg=>az P X nl nt h2 n (.op L l m sk) st sl E H rg
 |n+1,.af L l m sk (Z t) v,st,sl,E,H,rg=>az P X nl nt h2 n (.pt (hs sl t) t v<|.op L l m sk) st sl E H rg
 |n+1,.pt f t v nx,st,sl,E,H,rg=>az P X nl nt h2 n nx st (up sl t v) E H rg
 |n+1,.pt aA t v nx,st,sl,E,H,rg=>az P X nl nt h2 n nx st sl ((t,v)::E) H rg
variable{st:D Fm}{E:Rs}
section eqs
variable{P:aX}{X:Xt}{a b:Code}{q sk:D Nat}{sl:Fr}{rg:Out->Prop}{L l:D Oper}{m:Md}{d:aC Nat}{aa:Nat}{x y z:cz}{k:Kd}{aj:Array Oper}{acc:D Cl}{F:Cl}{pos:String}{acP:Array Edge}{nx:Ct}
def nr{α:Sort _}{a b:α}(h:a=b):a=b:=h
def ak6{α:Type}{x y:α}:b_ f x y=x:=nr O
def ak7{α:Type}{x y:α}:b_ aA x y=y:=nr O
def nb:aB i j=(i==j):=nr (by
 by_cases h:i=j
 .subst h;rw[show aB i i=f from dW i];simp
 .rw[show(i==j)=aA by simp[h]];rw[<-dw];intro e;exact h<|bA e)
def ct{b:Bool}{x y:α}:b_ b x y=if b=f then x else y:=by cases b<;>rfl
def cb{x y:α}:b_ (aB j i) x y=if(j==i)=f then x else y:=by rw[ct,nb]
def ak8:lk .n E i=Ci E i:=nr O
def ak9:lk (.c j v sl) E i=if(j==i)=f then v else lk sl E i:=cb
def ala:Ci [] i=top:=nr O
def alb:Ci ((j,v)::E) i=if(j==i)=f then v else Ci E i:=cb
def alc:hs .n i=aA:=nr O
def ald:hs (.c j v sl) i=if(j==i)=f then f else hs sl i:=cb
def Jn:up .n i v=.n:=nr O
def Jo:up (.c j w sl) i v=if(j==i)=f then .c j v sl else .c j w (up sl i v):=cb
def ahw:eq' sl E (.tmp i)=lk sl E i:=nr O
def Yk:eq' sl E (.const v)=v:=by cases v<;>rfl
def Tx:eq' sl E (.global i)=.pointer (Z ⟨i,0,T⟩):=nr O
def acQ:eq' sl E (.func i)=.func (.func i) #[] #[]:=nr O
def acR:eqO ρ T=T:=nr O
def acS:eqO ρ (Z x)=Z (ρ x):=nr O
def ale:kT (.bool f)=Z f:=nr O
def alf:kT (.bool aA)=Z aA:=nr O
def acT{α β:Type}{ay:α->β}:mp ay []=[]:=nr O
def Yl{α β:Type}{ay:α->β}{x:α}{l:D α}:mp ay (x::l)=ay x::mp ay l:=nr O
def ahx{ps:Array (Nat×cz)}:acN ρ ps=mp (λp=>(p.1,ρ p.2)) ps.toList:=nr O
def acU(l:D α):app l []=l:=by rw[uH,bF]
def alg:blQ i .norm=.norm:=nr O
def alh:blQ i (.exit j)=if(j==i)=f then .norm else .exit j:=cb
def ali:blQ i (.goto j)=.goto j:=nr O
def alj:blQ i .ret=.ret:=nr O
def alk:Kd.out .norm s=.norm s:=nr O
def alm:Kd.out (.exit i) s=.exit i s:=nr O
def aln:Kd.out (.goto i) s=.goto i s:=nr O
def alo:Kd.out .ret s=.ret s:=nr O
def ahy:Gf .pl=.pl:=nr O
def ahz:Gf (.dr aj acc)=.dr aj (cl 0::acc):=nr O
def ahA:R6 .pl F=.pl:=nr O
def ahB:R6 (.dr aj acc) F=.dr aj (F::acc):=nr O
def ahC:hX .pl H=H:=nr O
def ahD:hX (.dr aj acc) H=hN H:=nr O
def ahE:hY .pl H Q=Q:=nr O
def ahF:hY (.dr aj acc) H Q=hM H Q:=nr O
def alp:AB [] q=q:=nr O
def alq:AB (i::p) q=AB p (i::q):=nr O
def alr:kO P X h2 [] rg=rg:=nr O
def als:kO P X h2 (.sq p c::st) rg=uQ P X (sub h2<|AB p []) (kO P X h2 st rg):=nr O
def alu:kO P X h2 (.sj p::st) rg=uQ P X (sub h2<|AB p []) (kO P X h2 st rg):=nr O
def alv:kO P X h2 (.bk i::st) rg=uk i (kO P X h2 st rg):=nr O
def alx{g:aC (Nat×Bool)}:gtN (⟨d,o,ty,pos,acP,g⟩::l) 0=d:=nr O
def aly{o:Oper}:gtN (o::l) (j+1)=gtN l j:=nr O
def ahG:Cf [] i=aA:=nr O
def acV:Cf (j::sk) i=if(j==i)=f then f else Cf sk i:=cb
def acW:aad sk T=sk:=nr O
def acX:aad sk (Z i)=i::sk:=nr O
def ahH:sw [] i=[]:=nr O
def acY:sw (j::sk) i=if(j==i)=f then sw sk i else j::sw sk i:=cb
def acZ:nN sk (Z i)=sw sk i:=nr O
def ac0:nN sk T=sk:=nr O
def ahI:CE f f=f:=nr O
def ahJ:CE f aA=aA:=nr O
def ahK:CE aA f=aA:=nr O
def ahL:CE aA aA=f:=nr O
def ac1:az P X nl nt h2 (n+1) (.co .skip p) st sl E H rg=az P X nl nt h2 n (.ou .norm) st sl E H rg:=rfl
def ahM:az P X nl nt h2 (n+1) (.co (.region i (jm l) aA) p) st sl E H rg=az P X nl nt h2 n (.op l l .pl []) st sl [] H rg:=rfl
def VT(h:(lT (jm l)&&qN (jm l))=f):az P X nl nt h2 (n+1) (.co (.region i (jm l) f) p) st sl E H rg=az P X nl nt h2 n (.op l l (.dr (opsOf<|sub h2<|AB p []) []) []) st sl [] H rg:=by
 show((lT (jm l)&&qN (jm l))=f/\az P X nl nt h2 n (.op l l (.dr (opsOf<|sub h2<|AB p []) []) []) st sl [] H rg)=_;rw[h];simp
def VU(h:HY a b=f):az P X nl nt h2 (n+1) (.co (.seq a b) p) st sl E H rg=az P X nl nt h2 n (.co a<|0::p) (.sj (1::p)::st) sl E H rg:=by
 show az P X nl nt h2 n (.co a<|0::p) (b_ (HY a b) _ _::st) sl E H rg=_;rw[h];rfl
def VV(h:HY a b=aA):az P X nl nt h2 (n+1) (.co (.seq a b) p) st sl E H rg=az P X nl nt h2 n (.co a<|0::p) (.sq (1::p) b::st) sl E H rg:=by
 show az P X nl nt h2 n (.co a<|0::p) (b_ (HY a b) _ _::st) sl E H rg=_;rw[h];rfl
def ac2:az P X nl nt h2 (n+1) (.co (.cond x a b) p) st sl E H rg=az P X nl nt h2 n (.cd (kT<|eq' sl E x) a b p) st sl E H rg:=rfl
def Ym:az P X nl nt h2 (n+1) (.co (.block i a) p) st sl E H rg=az P X nl nt h2 n (.co a<|0::p) (.bk i::st) sl E H rg:=rfl
def ac3:az P X nl nt h2 (n+1) (.co (.loop a) p) st sl E H rg=iC P X (.loop<|sub h2<|AB (0::p) []) (S nl nt sl E H) (kO P X h2 st rg):=rfl
def Yn:az P X nl nt h2 (n+1) (.co (.scope a) p) st sl E H rg=iC P X (.scope<|sub h2<|AB (0::p) []) (S nl nt sl E H) (kO P X h2 st rg):=rfl
def ac4:az P X nl nt h2 (n+1) (.co (.exit i) p) st sl E H rg=az P X nl nt h2 n (.ou<|.exit i) st sl E H rg:=rfl
def ac5:az P X nl nt h2 (n+1) (.co (.goto i) p) st sl E H rg=az P X nl nt h2 n (.ou<|.goto i) st sl E H rg:=rfl
def Yo:az P X nl nt h2 (n+1) (.co (.label i) p) st sl E H rg=az P X nl nt h2 n (.ou .norm) st sl E H rg:=rfl
def ahN:az P X nl nt h2 (n+1) (.co .ret p) st sl E H rg=az P X nl nt h2 n (.ou .ret) st sl E H rg:=rfl
def ahO:az P X nl nt h2 (n+1) (.cd (Z f) a b p) st sl E H rg=az P X nl nt h2 n (.co a<|0::p) st sl E H rg:=rfl
def ahP:az P X nl nt h2 (n+1) (.cd (Z aA) a b p) st sl E H rg=az P X nl nt h2 n (.co b<|1::p) st sl E H rg:=rfl
def ahQ:az P X nl nt h2 (n+1) (.cd (kT v) a b p) st sl E H rg=yN (kT v) (az P X nl nt h2 n (.co a<|0::p) st sl E H rg) (az P X nl nt h2 n (.co b<|1::p) st sl E H rg):=rfl
def aji:az P X nl nt h2 (n+1) (.ou k) [] sl E H rg=rg (k.out<|S nl nt sl E H):=by cases k<;>rfl
def ac6:az P X nl nt h2 (n+1) (.ou .norm) (.sq p c::st) sl E H rg=az P X nl nt h2 n (.co c p) st sl E H rg:=rfl
def ac7:az P X nl nt h2 (n+1) (.ou .norm) (.sj p::st) sl E H rg=iC P X (sub h2<|AB p []) (S nl nt sl E H) (kO P X h2 st rg):=rfl
def VW:az P X nl nt h2 (n+1) (.ou k) (.bk i::st) sl E H rg=az P X nl nt h2 n (.ou<|blQ i k) st sl E H rg:=by cases k<;>rfl
def ac8:az P X nl nt h2 (n+1) (.ou<|.exit i) (.sq p c::st) sl E H rg=az P X nl nt h2 n (.ou<|.exit i) st sl E H rg:=rfl
def ac9:az P X nl nt h2 (n+1) (.ou<|.exit i) (.sj p::st) sl E H rg=az P X nl nt h2 n (.ou<|.exit i) st sl E H rg:=rfl
def ada:az P X nl nt h2 (n+1) (.ou<|.goto i) (.sq p c::st) sl E H rg=az P X nl nt h2 n (.ou<|.goto i) st sl E H rg:=rfl
def adb:az P X nl nt h2 (n+1) (.ou<|.goto i) (.sj p::st) sl E H rg=az P X nl nt h2 n (.ou<|.goto i) st sl E H rg:=rfl
def ade:az P X nl nt h2 (n+1) (.ou .ret) (.sq p c::st) sl E H rg=az P X nl nt h2 n (.ou .ret) st sl E H rg:=rfl
def adf:az P X nl nt h2 (n+1) (.ou .ret) (.sj p::st) sl E H rg=az P X nl nt h2 n (.ou .ret) st sl E H rg:=rfl
def ahR:az P X nl nt h2 (n+1) (.op L [] .pl sk) st sl E H rg=az P X nl nt h2 n (.ou .norm) st sl E H rg:=rfl
def ahS:az P X nl nt h2 (n+1) (.op L [] (.dr aj acc) sk) st sl E H rg=(kY aj acc=f/\az P X nl nt h2 n (.ou .norm) st sl E H rg):=rfl
def alz:az P X nl nt h2 (n+1) (.op L (⟨d,o,ty,pos,acP,T⟩::l) m sk) st sl E H rg=az P X nl nt h2 n (.ex L l m sk d o) st sl E H rg:=rfl
def ahT:az P X nl nt h2 (n+1) (.op L (⟨d,o,ty,pos,acP,Z (j,gb)⟩::l) m sk) st sl E H rg=az P X nl nt h2 n (.gu L l m sk d o gb<|gtN L j) st sl E H rg:=rfl
def alA:az P X nl nt h2 (n+1) (.gu L l m sk d o gb<|Z t) st sl E H rg=az P X nl nt h2 n (.gv L l m sk d o gb t (Cf sk t)<|kT<|lk sl E t) st sl E H rg:=rfl
def ahU{v:aC Bool}:az P X nl nt h2 (n+1) (.gv L l m sk d o gb t f v) st sl E H rg=az P X nl nt h2 n (.ge L l m sk d o aA) st sl E H rg:=rfl
def ahV:az P X nl nt h2 (n+1) (.gv L l m sk d o gb t aA<|Z f) st sl E H rg=az P X nl nt h2 n (.pt (hs sl t) t (.bool f)<|.ge L l m (sw sk t) d o<|CE f gb) st sl E H rg:=rfl
def ahW:az P X nl nt h2 (n+1) (.gv L l m sk d o gb t aA<|Z aA) st sl E H rg=az P X nl nt h2 n (.pt (hs sl t) t (.bool aA)<|.ge L l m (sw sk t) d o<|CE aA gb) st sl E H rg:=rfl
def ahX:az P X nl nt h2 (n+1) (.gv L l m sk d o gb t aA<|kT v) st sl E H rg=yN (kT v) (az P X nl nt h2 n (.pt (hs sl t) t (.bool f)<|.ge L l m (sw sk t) d o<|CE f gb) st sl E H rg) (az P X nl nt h2 n (.pt (hs sl t) t (.bool aA)<|.ge L l m (sw sk t) d o<|CE aA gb) st sl E H rg):=rfl
def ahY:az P X nl nt h2 (n+1) (.ge L l m sk d o f) st sl E H rg=az P X nl nt h2 n (.ex L l m sk d o) st sl E H rg:=rfl
def ahZ:az P X nl nt h2 (n+1) (.ge L l m sk d o aA) st sl E H rg=az P X nl nt h2 n (.af L l (Gf m) (aad sk d) d undef) st sl E H rg:=rfl
def adg:az P X nl nt h2 (n+1) (.ex L l m sk d<|.move x) st sl E H rg=az P X nl nt h2 n (.af L l (Gf m) (nN sk d) d<|eq' sl E x) st sl E H rg:=rfl
def Ty:az P X nl nt h2 (n+1) (.ex L l m sk d<|.assign x) st sl E H rg=az P X nl nt h2 n (.af L l (Gf m) (nN sk d) d<|eq' sl E x) st sl E H rg:=rfl
def alB{ay:Fn}{ps1 ps2:Array cz}:az P X nl nt h2 (n+1) (.ex L l m sk d<|.makeFunc ay ps1 ps2) st sl E H rg=az P X nl nt h2 n (.af L l (Gf m) (nN sk d) d<|.func ay ⟨mp (eq' sl E) ps1.toList⟩ ⟨mp (eq' sl E) ps2.toList⟩) st sl E H rg:=rfl
def adh:az P X nl nt h2 (n+1) (.ex L l m sk d<|.pick x y z) st sl E H rg=az P X nl nt h2 n (.pk L l (Gf m) (nN sk d) d (kT<|eq' sl E x) (eq' sl E y)<|eq' sl E z) st sl E H rg:=rfl
def ah0:az P X nl nt h2 (n+1) (.pk L l m sk d (Z f) v w) st sl E H rg=az P X nl nt h2 n (.af L l m sk d v) st sl E H rg:=rfl
def ah1:az P X nl nt h2 (n+1) (.pk L l m sk d (Z aA) v w) st sl E H rg=az P X nl nt h2 n (.af L l m sk d w) st sl E H rg:=rfl
def ah2{aa:C}:az P X nl nt h2 (n+1) (.pk L l m sk d (kT aa) v w) st sl E H rg=PU (LP aa v w) λv=>az P X nl nt h2 n (.af L l m sk d v) st sl E H rg:=rfl
def ah3:az P X nl nt h2 (n+1) (.af L l m sk T v) st sl E H rg=az P X nl nt h2 n (.op L l m sk) st sl E H rg:=rfl
def ah4:az P X nl nt h2 (n+1) (.af L l m sk (Z t) v) st sl E H rg=az P X nl nt h2 n (.pt (hs sl t) t v<|.op L l m sk) st sl E H rg:=rfl
def ah5:az P X nl nt h2 (n+1) (.pt f t v nx) st sl E H rg=az P X nl nt h2 n nx st (up sl t v) E H rg:=rfl
def ah6:az P X nl nt h2 (n+1) (.pt aA t v nx) st sl E H rg=az P X nl nt h2 n nx st sl ((t,v)::E) H rg:=rfl
def l_call{c:Call}:IW P (.call c) ρ H Q=CG H Q:=nr O
def Yp:IW P (.store t x y) ρ H Q=clS (ρ x) (ρ y) H Q:=nr O
def Yq:IW P (.alloc t) ρ H Q=N9 H Q:=nr O
def ah7:IW P (.box t x) ρ H Q=N9 H Q:=nr O
def alC{ps:Array (Nat×cz)}:IW P (.buildSlice t i ps) ρ H Q=N9 H Q:=nr O
def alD:IW P (.makeSlice t x y) ρ H Q=N9 H Q:=nr O
def alE{r:aC cz}:IW P (.makeMap t r) ρ H Q=N9 H Q:=nr O
def Tz{ok:Bool}:IW P (.lookup t x y ok) ρ H Q=CG H Q:=nr O
def l_conv:IW P (.convert t aa x) ρ H Q=CG H Q:=nr O
def alF:IW P (.mapUpdate t x y z) ρ H Q=CG H Q:=nr O
def Yr:az P X nl nt h2 (n+1) (.ex L l m sk d<|.alloc t) st sl E H rg=ME (D4 P t<|hX m H) (λv Q=>az P X nl nt h2 n (.af L l (R6 m<|IW P (.alloc t) (eq' sl E) H Q) (nN sk d) d v) st sl E (hY m H Q) rg):=rfl
def ah8:az P X nl nt h2 (n+1) (.ex L l m sk d<|.box t x) st sl E H rg=ME (LU t (eq' sl E x)<|hX m H) (λv Q=>az P X nl nt h2 n (.af L l (R6 m<|IW P (.box t x) (eq' sl E) H Q) (nN sk d) d v) st sl E (hY m H Q) rg):=rfl
def Yt{ps:Array (Nat×cz)}:az P X nl nt h2 (n+1) (.ex L l m sk d<|.build t ps) st sl E H rg=PU (CP P t<|acN (eq' sl E) ps) (λv=>az P X nl nt h2 n (.af L l (Gf m) (nN sk d) d v) st sl E H rg):=rfl
def Ig{ps:Array (Nat×cz)}:az P X nl nt h2 (n+1) (.ex L l m sk d<|.buildSlice t i ps) st sl E H rg=ME (vv P t i (acN (eq' sl E) ps)<|hX m H) (λv Q=>az P X nl nt h2 n (.af L l (R6 m<|IW P (.buildSlice t i ps) (eq' sl E) H Q) (nN sk d) d v) st sl E (hY m H Q) rg):=rfl
def adi:az P X nl nt h2 (n+1) (.ex L l m sk d<|.load t x) st sl E H rg=ME (xP P t (eq' sl E x)<|hX m H) (λv Q=>az P X nl nt h2 n (.af L l (R6 m<|IW P (.load t x) (eq' sl E) H Q) (nN sk d) d v) st sl E (hY m H Q) rg):=rfl
def Yu:az P X nl nt h2 (n+1) (.ex L l m sk d<|.store t x y) st sl E H rg=ME (Ak P t (eq' sl E x) (eq' sl E y)<|hX m H) (λv Q=>az P X nl nt h2 n (.af L l (R6 m<|IW P (.store t x y) (eq' sl E) H Q) (nN sk d) d v) st sl E (hY m H Q) rg):=rfl
def MV:az P X nl nt h2 (n+1) (.ex L l m sk d<|.nilCheck x) st sl E H rg=PU (Qc<|eq' sl E x) (λv=>az P X nl nt h2 n (.af L l (Gf m) (nN sk d) d v) st sl E H rg):=rfl
def Yv{e:tH}{aa:aI}:az P X nl nt h2 (n+1) (.ex L l m sk d<|.binOp e t x y aa) st sl E H rg=PU (mW P e t x y (eq' sl E x)<|eq' sl E y) (λv=>az P X nl nt h2 n (.af L l (Gf m) (nN sk d) d v) st sl E H rg):=rfl
def adj{e:UnOp}:az P X nl nt h2 (n+1) (.ex L l m sk d<|.unOp e t x) st sl E H rg=PU (lD<|Op.unary e<|eq' sl E x) (λv=>az P X nl nt h2 n (.af L l (Gf m) (nN sk d) d v) st sl E H rg):=rfl
def PG{aa:aI}:az P X nl nt h2 (n+1) (.ex L l m sk d<|.convert t aa x) st sl E H rg=CV (DY P t aa<|eq' sl E x) (wo P t aa (eq' sl E x)<|hX m H) (λv=>az P X nl nt h2 n (.af L l (Gf m) (nN sk d) d v) st sl E H rg) (λv Q=>az P X nl nt h2 n (.af L l (R6 m<|IW P (.convert t aa x) (eq' sl E) H Q) (nN sk d) d v) st sl E (hY m H Q) rg):=rfl
def PI{r:aC cz}:az P X nl nt h2 (n+1) (.ex L l m sk d<|.makeMap t r) st sl E H rg=ME (vw P t (eqO (eq' sl E) r)<|hX m H) (λv Q=>az P X nl nt h2 n (.af L l (R6 m<|IW P (.makeMap t r) (eq' sl E) H Q) (nN sk d) d v) st sl E (hY m H Q) rg):=rfl
def J6:az P X nl nt h2 (n+1) (.ex L l m sk d<|.makeSlice t x y) st sl E H rg=ME (sK P t (eq' sl E x) (eq' sl E y)<|hX m H) (λv Q=>az P X nl nt h2 n (.af L l (R6 m<|IW P (.makeSlice t x y) (eq' sl E) H Q) (nN sk d) d v) st sl E (hY m H Q) rg):=rfl
def Yw{lo:aC cz}{hi:aC cz}{mx:aC cz}:az P X nl nt h2 (n+1) (.ex L l m sk d<|.slice t x lo hi mx) st sl E H rg=PU (BI P t (eq' sl E x) (eqO (eq' sl E) lo) (eqO (eq' sl E) hi)<|eqO (eq' sl E) mx) (λv=>az P X nl nt h2 n (.af L l (Gf m) (nN sk d) d v) st sl E H rg):=rfl
def J7:az P X nl nt h2 (n+1) (.ex L l m sk d<|.fieldAddr t x i) st sl E H rg=PU (ug P t (eq' sl E x) i) (λv=>az P X nl nt h2 n (.af L l (Gf m) (nN sk d) d v) st sl E H rg):=rfl
def Yx:az P X nl nt h2 (n+1) (.ex L l m sk d<|.field t x i) st sl E H rg=PU (D3 P t (eq' sl E x) i) (λv=>az P X nl nt h2 n (.af L l (Gf m) (nN sk d) d v) st sl E H rg):=rfl
def J8:az P X nl nt h2 (n+1) (.ex L l m sk d<|.indexAddr t x y) st sl E H rg=PU (uf P t (eq' sl E x)<|eq' sl E y) (λv=>az P X nl nt h2 n (.af L l (Gf m) (nN sk d) d v) st sl E H rg):=rfl
def Yy:az P X nl nt h2 (n+1) (.ex L l m sk d<|.index t x y) st sl E H rg=PU (DZ P t (eq' sl E x)<|eq' sl E y) (λv=>az P X nl nt h2 n (.af L l (Gf m) (nN sk d) d v) st sl E H rg):=rfl
def TA{ok:Bool}:az P X nl nt h2 (n+1) (.ex L l m sk d<|.lookup t x y ok) st sl E H rg=ME (uM P t (eq' sl E x) (eq' sl E y) ok<|hX m H) (λv Q=>az P X nl nt h2 n (.af L l (R6 m<|IW P (.lookup t x y ok) (eq' sl E) H Q) (nN sk d) d v) st sl E (hY m H Q) rg):=rfl
def J9:az P X nl nt h2 (n+1) (.ex L l m sk d<|.mapUpdate t x y z) st sl E H rg=ME (wV P t (eq' sl E x) (eq' sl E y) (eq' sl E z)<|hX m H) (λv Q=>az P X nl nt h2 n (.af L l (R6 m<|IW P (.mapUpdate t x y z) (eq' sl E) H Q) (nN sk d) d v) st sl E (hY m H Q) rg):=rfl
def PK:az P X nl nt h2 (n+1) (.ex L l m sk d<|.extract x i) st sl E H rg=PU (wI (eq' sl E x) i) (λv=>az P X nl nt h2 n (.af L l (Gf m) (nN sk d) d v) st sl E H rg):=rfl
def adk{args:Array cz}{ats:Array aI}:az P X nl nt h2 (n+1) (.ex L l m sk d<|.call ⟨.value<|.func i,args,ats⟩) st sl E H rg=bM P X i (mp (eq' sl E) args.toList) (hX m H) (λv Q=>az P X nl nt h2 n (.af L l (R6 m<|IW P (.call ⟨.value<|.func i,args,ats⟩) (eq' sl E) H Q) (nN sk d) d v) st sl E (hY m H Q) rg):=by
 show bM P X i (app []<|app (mp (eq' sl E) args.toList) []) (hX m H) _=_;rw[acU];rfl
def ah9{args:Array cz}{ats:Array aI}:az P X nl nt h2 (n+1) (.ex L l m sk d<|.call ⟨.value<|.tmp i,args,ats⟩) st sl E H rg=qh P X (Oo<|lk sl E i) (mp (eq' sl E) args.toList) (hX m H) (λv Q=>az P X nl nt h2 n (.af L l (R6 m<|IW P (.call ⟨.value<|.tmp i,args,ats⟩) (eq' sl E) H Q) (nN sk d) d v) st sl E (hY m H Q) rg):=rfl
def Yz{args:Array cz}{ats:Array aI}:az P X nl nt h2 (n+1) (.ex L l m sk d<|.call ⟨.value<|.const w,args,ats⟩) st sl E H rg=qh P X (Oo w) (mp (eq' sl E) args.toList) (hX m H) (λv Q=>az P X nl nt h2 n (.af L l (R6 m<|IW P (.call ⟨.value<|.const w,args,ats⟩) (eq' sl E) H Q) (nN sk d) d v) st sl E (hY m H Q) rg):=rfl
def alG{e:Builtin}{args:Array cz}{ats:Array aI}:az P X nl nt h2 (n+1) (.ex L l m sk d<|.call ⟨.builtin e,args,ats⟩) st sl E H rg=Aw e ats.toList (mp (eq' sl E) args.toList) P (hX m H) (λv=>az P X nl nt h2 n (.af L l (Gf m) (nN sk d) d v) st sl E H rg) (λv Q=>az P X nl nt h2 n (.af L l (R6 m<|IW P (.call ⟨.builtin e,args,ats⟩) (eq' sl E) H Q) (nN sk d) d v) st sl E (hY m H Q) rg):=rfl
end eqs
def EE:=ah @ak8<|ah @ak9<|ah @ala<|ah @alb<|ah @alc<|ah @ald<|ah @Jn<|ah @Jo<|ah @ahw<|ah @Yk<|ah @Tx<|ah @acQ<|ah @acR<|ah @acS<|ah @ale<|ah @alf<|ah @acT<|ah @Yl<|ah @ahx<|ah @alg<|ah @alh<|ah @ali<|ah @alj<|ah @alk<|ah @alm<|ah @aln<|ah @alo<|ah @ahy<|ah @ahz<|ah @ahB<|ah @ahC<|ah @ahD<|ah @ahE<|ah @ahF<|ah @alp<|ah @alq<|ah @alr<|ah @als<|ah @alu<|ah @alv<|ah @alx<|ah @aly<|ah @ahG<|ah @acV<|ah @acW<|ah @acX<|ah @ahH<|ah @acY<|ah @acZ<|ah @ac0<|ah @ahI<|ah @ahJ<|ah @ahK<|ah @ahL<|ah @ahO<|ah @ahP<|ah @ahQ<|ah @aji<|ah @ac6<|ah @ac7<|ah @VW<|ah @ac8<|ah @ac9<|ah @ada<|ah @adb<|ah @ade<|ah @adf<|ah @ahR<|ah @ahS<|ah @alz<|ah @ahT<|ah @alA<|ah @ahU<|ah @ahV<|ah @ahW<|ah @ahX<|ah @ahY<|ah @ahZ<|ah @adg<|ah @Ty<|ah @alB<|ah @adh<|ah @ah0<|ah @ah1<|ah @ah2<|ah @ah3<|ah @ah4<|ah @ah5<|ah @ah6<|ah @l_call<|ah @Yp<|ah @Yq<|ah @ah7<|ah @alC<|ah @alD<|ah @alE<|ah @Tz<|ah @l_conv<|ah @alF<|ah @Yr<|ah @ah8<|ah @Yt<|ah @Ig<|ah @adi<|ah @Yu<|ah @MV<|ah @Yv<|ah @adj<|ah @PG<|ah @PI<|ah @J6<|ah @Yw<|ah @J7<|ah @Yx<|ah @J8<|ah @Yy<|ah @TA<|ah @J9<|ah @PK<|ah @adk<|ah @ah9<|ah @Yz @alG
def ED:=ah @ak6<|ah @ak7<|ah @ahA<|ah @ac1<|ah @ahM<|ah @ac2<|ah @Ym<|ah @ac3<|ah @Yn<|ah @ac4<|ah @ac5<|ah @Yo @ahN
section sound
variable{P:aX}{X:Xt}{sl:Fr}{rg:Out->Prop}{d aa:Nat}
def KO(nl nt:Nat)(sl:Fr):Prop:=(∀t,hs sl t=iP nl t)/\∀t,iP nl t=f->t<nt
def MW(h:i≠t):aB i t=aA:=by
 rw[<-dw];exactλg=>h<|bA g
def aia:hs (up sl t v) aa=hs sl aa:=by
 induction sl with
 |n=>rfl
 |c i w l e=>
  show hs (b_ (aB i t) (.c i v l)<|.c i w<|up l t v) aa=b_ (aB i aa) f (hs l aa);cases aB i t
  .show b_ (aB i aa) f (hs (up l t v) aa)=_;rw[e]
  .rfl
theorem KO.up(h:KO nl nt sl):KO nl nt (up sl t v):=⟨λaa=>by rw[aia];exact h.1 aa,h.2⟩
def MX:lk sl E t=b_ (hs sl t) ((tsF sl).get top t) (look E t):=by
 induction sl with
 |n=>rfl
 |c i v l B=>
  show b_ (aB i t) v (lk l E t)=b_ (b_ (aB i t) f<|hs l t) (((tsF l).set top i v).get top t) (look E t);rw[Tr.wU]
  by_cases e:i=t
  .subst e;rw[show aB i i=f from dW i,jj O];rfl
  .rw[MW e,jx λh=>e h.symm,B];rfl
def Df(h:KO nl nt sl)(t:Nat):jd (S nl nt sl E H) t=lk sl E t:=by
 rw[MX,h.1];rfl
def alH:lk (up sl d v) E t=b_ (hs sl d&&aB d t) v (lk sl E t):=by
 induction sl with
 |n=>rfl
 |c i w l B=>
  show lk (b_ (aB i d) (.c i v l)<|.c i w<|up l d v) E t=b_ (b_ (aB i d) f (hs l d)&&aB d t) v (b_ (aB i t) w<|lk l E t)
  by_cases e:i=d
  .subst e;rw[show aB i i=f from dW i];show b_ (aB i t) v (lk l E t)=b_ (aB i t) v (b_ (aB i t) w<|lk l E t);cases aB i t<;>rfl
  .rw[MW e];show b_ (aB i t) w (lk (up l d v) E t)=b_ (hs l d&&aB d t) v (b_ (aB i t) w<|lk l E t);rw[B]
   by_cases e2:i=t
   .subst e2;rw[MW (λh=>e h.symm),pK];rfl
   .rw[MW e2];rfl
theorem alI(hk:KO nl nt sl)(U:qg s<|S nl nt sl E H)(d:Nat)(v:C)(Q:R):qg (sM s d v Q) (S nl nt (b_ (hs sl d) (up sl d v) sl) (b_ (hs sl d) E<|(d,v)::E) Q):=by
 refine(U.sM d v Q).trans ?_;obtain⟨B,I,M,N⟩:=Lf (S nl nt sl E H) d v Q;refine⟨B,I,M,N,λt=>?_⟩
 have V:wr (S nl nt sl E H) d=f:=by
  show b_ (iP nl d) (aD (dh d) nt) f=f;cases hb:iP nl d with
  |true=>exact aH<|hk.2 d hb
  |false=>rfl
 rw[Ad,V,Df hk];cases hh:hs sl d with
 |true=>
  show _=jd (S nl nt (up sl d v) E Q) t;rw[Df hk.up,alH,hh]
  by_cases e:d=t
  .subst e;rw[jj ⟨rfl,rfl⟩,show aB d d=f from dW d];rfl
  .rw[jx (λh=>e h.1),MW e];rfl
 |false=>
  show _=jd (S nl nt sl ((d,v)::E) Q) t;rw[Df hk,MX,MX,Ff]
  by_cases e:d=t
  .subst e;rw[jj ⟨rfl,rfl⟩,jj O,hh];rfl
  .rw[jx (λh=>e h.1),jx e]
def anX(hk:KO nl nt sl)(e:qg s<|S nl nt sl E H):wr s d=f:=by
 show b_ (iP s.nl d) (aD (dh d) s.nt) f=f;rw[e.nl,e.nt];show b_ (iP nl d) (aD (dh d) nt) f=f;cases hb:iP nl d with
 |true=>exact aH<|hk.2 d hb
 |false=>rfl
def KO.of(h:Tw nl nt sl=f):KO nl nt sl:=by
 unfold Tw at h;rw[bE,bE]at h;obtain⟨⟨I,B⟩,M⟩:=h;have U:nl<2^nt:=aF I
 have S:∀t,nt<=t->iP nl t=aA:=λt O=>by
  show aB (Nat.mod (Nat.shiftRight nl t) 2) 1=aA
  have:Nat.shiftRight nl t=0:=by
   show nl>>>t=0;rw[uA];exact vY<|aP U<|lW N O
  rw[this];rfl
 have W:∀t,t<nt->hs sl t=iP nl t:=by
  intro t O;clear I M U S
  induction nt with
  |zero=>omega
  |succ n V=>
   replace B:(b_ (hs sl n) (iP nl n) (!(iP nl n))&&_)=f:=B;rw[bE]at B
   by_cases e:t=n
   .subst e;have:=B.1;cases h5:hs sl t with
    |true=>rw[h5]at this;exact this.symm
    |false=>rw[h5,lK]at this;rw[nQ]at this;exact this.symm
   .exact V B.2 N
 have Y:∀t,nt<=t->hs sl t=aA:=by
  intro t O;clear I B U S W
  induction sl with
  |n=>rfl
  |c i w l V=>
   replace M:(aD (dh i) nt&&_)=f:=M;rw[bE]at M;have:=aF M.1;show b_ (aB i t) f (hs l t)=aA;rw[MW N];exact V M.2
 refine⟨λt=>?_,λt O=>?_⟩
 .by_cases h:t<nt
  .exact W t h
  .rw[Y t N,S t N]
 .by_cases h:t<nt
  .exact h
  .rw[S t N]at O;cases O
def adl:opK o P X s Kp Km=opG o P X (ev s) s.H Kp Km:=by
 cases o with
 |call c=>
  obtain⟨e,args,ats⟩:=c;cases e with
  |builtin b=>cases b<;>rfl
  |_=>rfl
 |_=>rfl
def PUm{q:aC C}{K K':C->Prop}(e:∀v,K v->K' v)(h:PU q K):PU q K':=by
 cases q with
 |none=>exact h.elim
 |some v=>exact e v h
def MEm{q:aC (C×R)}(e:∀v H,K v H->K' v H)(h:ME q K):ME q K':=by
 cases q with
 |none=>exact h.elim
 |some v=>exact e _ _ h
def CVm{q:aC C}{r:aC (C×R)}(B:∀v,Kp v->Kp' v)(e:∀v H,K v H->K' v H)(h:CV q r Kp K):CV q r Kp' K':=by
 cases q with
 |none=>exact MEm e h
 |some v=>exact B _ h
def ajj{q:aC (FuncId×D C×D C)}{args:D C}(e:∀v H,K v H->K' v H)(h:qh P X q args H K):qh P X q args H K':=by
 cases q with
 |none=>exact h.elim
 |some v=>exact dn (K:=K) h e
theorem TB(I:∀v,Kp v->Kp' v)(B:∀v H,Km v H->Km' v H)(h:opG o P X ρ H Kp Km):opG o P X ρ H Kp' Km':=by
 cases o with
 |call c=>
  obtain⟨e,args,ats⟩:=c;cases e with
  |builtin b=>cases b<;>first|exact CVm I B h|exact PUm I h|exact MEm B h|exact False.elim h
  |value ay=>exact ajj B h
  |invoke r n=>exact False.elim h
 |_=>first|exact I _ h|exact CVm I B h|exact PUm I h|exact MEm B h|exact False.elim h
def KK(P:aX)(X:Xt)(h2:Code)(st:D Fm)(rg:Out->Prop)(o:Out):Prop:=∃e,CF o e/\kO P X h2 st rg e
def iC.kk(h:iC P X c s<|KK P X h2 st rg):iC P X c s (kO P X h2 st rg):=by
 obtain⟨o,O,I,B,N,e,M⟩:=h;exact⟨o,N,I,B.trans e,M⟩
def WM(P:aX)(X:Xt)(h2:Code)(st:D Fm)(rg:Out->Prop)(L l:D Oper)(m:Md)(s:St)(sk:D Nat):Prop:=
 @Md.rec (λ_=>Prop) (Cg P X ⟨L⟩ l s sk λs=>KK P X h2 st rg<|.norm s) (λaj acc=>VK P X ⟨L⟩ l s sk acc λs e=>kY aj e=f/\KK P X h2 st rg (.norm s)) m
def KG(P:aX)(X:Xt)(h2:Code)(st:D Fm)(rg:Out->Prop)(L l:D Oper)(m:Md)(d:aC Nat)(o:Op)(b:Bool)(s:St)(sk:D Nat):Prop:=
 @Md.rec (λ_=>Prop)
  (@ik (λ_=>Prop) (Cg P X ⟨L⟩ l (kF s d undef s.H) (On s sk d) λs=>KK P X h2 st rg<|.norm s)
    (@aQ Call (λ_=>Prop) (opK o P X s (λv=>Cg P X ⟨L⟩ l (kF s d v s.H) (nN sk d) λs=>KK P X h2 st rg<|.norm s) λv H=>Cg P X ⟨L⟩ l (kF s d v H) (nN sk d) λs=>KK P X h2 st rg<|.norm s) (λ_=>False)<|vz o) b)
  (λaj acc=>@ik (λ_=>Prop) (VK P X ⟨L⟩ l (kF s d undef s.H) (On s sk d) (cl 0::acc) λs e=>kY aj e=f/\KK P X h2 st rg (.norm s))
   (opK o P X (iW s) (λv=>VK P X ⟨L⟩ l (kF s d v s.H) (nN sk d) (cl 0::acc) λs e=>kY aj e=f/\KK P X h2 st rg (.norm s)) λv H=>VK P X ⟨L⟩ l (kF s d v ⟨H.xI,H.bV,pV s.H.low H.low⟩) (nN sk d) (uB P o s H::acc) λs e=>kY aj e=f/\KK P X h2 st rg (.norm s)) b) m
def Sem(P:aX)(X:Xt)(h2:Code)(st:D Fm)(rg:Out->Prop):Ct->St->Prop
 |.co c _,s=>iC P X c s<|kO P X h2 st rg
 |.cd v a b _,s=>yN v (iC P X a s<|kO P X h2 st rg)<|iC P X b s<|kO P X h2 st rg
 |.ou k,s=>∃s',qg s s'/\kO P X h2 st rg (k.out s')
 |.op L l m sk,s=>WM P X h2 st rg L l m s sk
 |.gu L l m sk d o gb t,s=>@aQ Nat (λ_=>Prop) False (λt=>@ik (λ_=>Prop)
  (yN (kT<|jd s t) (KG P X h2 st rg L l m d o (CE f gb) (sM s t (.bool f) s.H)<|sw sk t)<|KG P X h2 st rg L l m d o (CE aA gb) (sM s t (.bool aA) s.H)<|sw sk t)
  (KG P X h2 st rg L l m d o aA s sk) (Cf sk t)) t
 |.gv L l m sk d o gb t e v,s=>@ik (λ_=>Prop)
  (yN v (KG P X h2 st rg L l m d o (CE f gb) (sM s t (.bool f) s.H)<|sw sk t)<|KG P X h2 st rg L l m d o (CE aA gb) (sM s t (.bool aA) s.H)<|sw sk t)
  (KG P X h2 st rg L l m d o aA s sk) e
 |.ge L l m sk d o b,s=>KG P X h2 st rg L l m d o b s sk
 |.ex L l m sk d o,s=>KG P X h2 st rg L l m d o f s sk
 |.pk L l m sk d c a b,s=>PU (aN c λt=>Z<|b_ t a b) λv=>WM P X h2 st rg L l m (kF s d v s.H) sk
 |.af L l m sk d v,s=>WM P X h2 st rg L l m (kF s d v s.H) sk
 |.pt _ t v nx,s=>Sem P X h2 st rg nx<|sM s t v s.H
def FOk(h2:Code)(st:D Fm):Prop:=∀p c,Fm.sq p c∈st->sub h2 (AB p [])=c
def COk(h2:Code)(g:Nat->Bool):Ct->Prop
 |.co c p=>sub h2 (AB p [])=c
 |.cd _ a b p=>∃x,sub h2 (AB p [])=.cond x a b
 |.pt h t _ nx=>h=g t/\COk h2 g nx
 |_=>True
def ajk:∀{p q:D Nat},sub h2 (AB p q)=sub (sub h2<|AB p []) q:=by
 intro p
 induction p with
 |nil=>intro q;rfl
 |cons i p e=>
  intro q;show sub h2 (AB p<|i::q)=sub (sub h2<|AB p [i]) q;rw[e (q:=i::q),e (q:=[i])];rfl
def MY(h:sub h2 (AB p [])=c):sub h2 (AB (i::p) [])=kid c i:=by
 show sub h2 (AB p [i])=_;rw[ajk,h];rfl
def anY(hk:KO nl nt sl)(e:qg s<|S nl nt sl E H):ev s=eq' sl E:=by
 rw[e.ev];funext x;cases x with
 |tmp t=>exact Df hk t
 |_=>rfl
theorem snd:∀n ct st sl E H s,FOk h2 st->KO nl nt sl->COk h2 (hs sl) ct->qg s (S nl nt sl E H)->az P X nl nt h2 n ct st sl E H rg->Sem P X h2 st rg ct s:=by
 intro n
 induction n with
 |zero=>intro ct st sl E H s _ _ _ _ h;exact False.elim (by simp only[az]at h)
 |succ n U=>
  intro ct st sl E H s V N Y M h;have hH:s.H=H:=M.H;have ac:=anY N M;cases ct with
  |co c p=>
   replace Y:sub h2 (AB p [])=c:=Y;cases c with
   |skip=>
    obtain⟨s',e,h⟩:=U (.ou .norm) st sl E H s V N trivial M h;exact⟨_,_,Ev.skip,.norm e,h⟩
   |region id W dr=>
    have an:qg (clear s) (S nl nt sl [] H):=by
     refine⟨M.nl,M.nt,M.df,M.H,λt=>?_⟩;rw[F9,M.lk,Df N,Df N,MX,MX,M.nl];show b_ (iP nl t) _ top=_;rw[<-N.1];show b_ (hs sl t) (b_ (hs sl t) _ _) top=b_ (hs sl t) _ top;cases hs sl t<;>rfl
    refine iC.kk<|af7 ?_;cases dr with
    |false=>exact U (.op W.toList W.toList .pl []) st sl [] H (clear s) V N trivial an h
    |true=>
     obtain⟨I,h⟩:(lT W&&qN W)=f/\az P X nl nt h2 n (.op W.toList W.toList (.dr (opsOf<|sub h2<|AB p []) []) []) st sl [] H rg:=h;have B:=U (.op W.toList W.toList (.dr (opsOf<|sub h2<|AB p []) []) []) st sl [] H (clear s) V N trivial an h;rw[Y]at B;show @ik (λ_=>Prop) False (VK P X W W.toList (clear s) [] [] λs al=>kY W al=f/\KK P X h2 st rg (.norm s))<|lT W&&qN W;rw[I];exact B
   |seq a b=>
    refine iC.seq ?_;have I:=MY (i:=1) Y
    have am:∀ay:Fm,ay=.sj (1::p)\/ay=.sq (1::p) b->kO P X h2 (ay::st) rg=uQ P X b (kO P X h2 st rg)/\FOk h2 (ay::st):=by
     intro ay ao;refine⟨?_,λq c hq=>?_⟩
     .rcases ao with rfl|rfl<;>(show uQ P X (sub h2<|AB (1::p) []) _=_;rw[I];rfl)
     .rcases bW.1 hq with e|hq
      .rcases ao with rfl|rfl
       .cases e
       .cases e;exact I
      .exact V q c hq
    replace h:az P X nl nt h2 n (.co a<|0::p) (b_ (HY a b) (.sj<|1::p) (.sq (1::p) b)::st) sl E H rg:=h;obtain⟨k1,k2⟩:=am (b_ (HY a b) (.sj<|1::p)<|.sq (1::p) b) (by cases HY a b;exact .inr O;exact .inl O);have:=U (.co a<|0::p) _ sl E H s k2 N (MY (i:=0) Y) M h;replace this:iC P X a s (kO P X h2 (b_ (HY a b) (.sj<|1::p) (.sq (1::p) b)::st) rg):=this;rw[k1]at this;exact this
   |cond x a b=>
    have:=U (.cd (kT<|eq' sl E x) a b p) st sl E H s V N ⟨x,Y⟩ M h;replace this:yN (kT<|eq' sl E x) (iC P X a s<|kO P X h2 st rg) (iC P X b s<|kO P X h2 st rg):=this;rw[<-ac]at this;rcases QF this with⟨hv,h⟩|⟨hv,h⟩
    .obtain⟨o,o',I,B,h3⟩:=h;exact⟨o,o',Ev.cond hv I,B,h3⟩
    .obtain⟨o,o',I,B,h3⟩:=h;exact⟨o,o',Ev.cond hv I,B,h3⟩
   |block id a=>
    exact iC.block<|U (.co a<|0::p) (.bk id::st) sl E H s (λq c hq=>by
     rcases bW.1 hq with e|hq
     .cases e
     .exact V q c hq) N (MY (i:=0) Y) M h
   |loop a=>
    replace h:iC P X (.loop<|sub h2<|AB (0::p) []) (S nl nt sl E H) (kO P X h2 st rg):=h;rw[MY Y]at h;exact iC.alike M h
   |scope a=>
    replace h:iC P X (.scope<|sub h2<|AB (0::p) []) (S nl nt sl E H) (kO P X h2 st rg):=h;rw[MY Y]at h;exact iC.alike M h
   |exit i=>
    obtain⟨s',e,h⟩:=U (.ou<|.exit i) st sl E H s V N trivial M h;exact⟨_,_,Ev.exit,.exit i e,h⟩
   |goto i=>
    obtain⟨s',e,h⟩:=U (.ou<|.goto i) st sl E H s V N trivial M h;exact⟨.goto i s,_,⟨gB,0,O⟩,.goto i e,h⟩
   |label i=>
    obtain⟨s',e,h⟩:=U (.ou .norm) st sl E H s V N trivial M h;exact⟨_,_,Ev.label,.norm e,h⟩
   |ret=>
    obtain⟨s',e,h⟩:=U (.ou .ret) st sl E H s V N trivial M h;exact⟨_,_,Ev.ret,.ret e,h⟩
   |_=>exact False.elim h
  |cd v a b p=>
   obtain⟨x,Y⟩:=Y;replace h:yN v (az P X nl nt h2 n (.co a<|0::p) st sl E H rg) (az P X nl nt h2 n (.co b<|1::p) st sl E H rg):=h;show yN v (iC P X a s<|kO P X h2 st rg)<|iC P X b s<|kO P X h2 st rg;rcases QF h with⟨rfl,h⟩|⟨rfl,h⟩
   .exact U (.co a<|0::p) st sl E H s V N (MY (i:=0) Y) M h
   .exact U (.co b<|1::p) st sl E H s V N (MY (i:=1) Y) M h
  |ou k=>
   show∃s',qg s s'/\kO P X h2 st rg (k.out s');cases st with
   |nil=>
    rw[aji]at h;exact⟨_,M,h⟩
   |cons ay st=>
    have ab:FOk h2 st:=λq c hq=>V q c<|bJ _ hq;cases ay with
    |sq p c=>
     cases k with
     |norm=>
      have I:iC P X c s (kO P X h2 st rg):=U (.co c p) st sl E H s ab N (V p c<|aK ..) M h;refine⟨s,qg.refl s,?_⟩;show iC P X (sub h2<|AB p []) s<|kO P X h2 st rg;rw[V p c (aK ..)];exact I
     |exit i=>exact U (.ou<|.exit i) st sl E H s ab N trivial M h
     |goto i=>exact U (.ou<|.goto i) st sl E H s ab N trivial M h
     |ret=>exact U (.ou .ret) st sl E H s ab N trivial M h
    |sj p=>
     cases k with
     |norm=>exact⟨_,M,h⟩
     |exit i=>exact U (.ou<|.exit i) st sl E H s ab N trivial M h
     |goto i=>exact U (.ou<|.goto i) st sl E H s ab N trivial M h
     |ret=>exact U (.ou .ret) st sl E H s ab N trivial M h
    |bk id=>
     rw[VW]at h;obtain⟨s',e,h⟩:=U (.ou<|blQ id k) st sl E H s ab N trivial M h;refine⟨s',e,?_⟩;show kO P X h2 st rg<|zF id<|k.out s'
     have:zF id (k.out s')=(blQ id k).out s':=by
      cases k with
      |exit i=>
       show b_ (aB i id) _ _=Kd.out (b_ (aB i id) _ _) s';cases aB i id<;>rfl
      |_=>rfl
     rw[this];exact h
  |op L l m sk=>
   cases l with
   |nil=>
    cases m with
    |pl=>
     obtain⟨s',e,h⟩:=U (.ou .norm) st sl E H s V N trivial M h;exact⟨_,.norm e,h⟩
    |dr aj acc=>
     obtain⟨I,h⟩:kY aj acc=f/\az P X nl nt h2 n (.ou .norm) st sl E H rg:=h;obtain⟨s',e,h⟩:=U (.ou .norm) st sl E H s V N trivial M h;exact⟨I,_,.norm e,h⟩
   |cons o l=>
    obtain⟨d,op,ty,pos,af,g⟩:=o;cases g with
    |none=>
     have:=U (.ex L l m sk d op) st sl E H s V N trivial M h;cases m<;>exact this
    |some g=>
     have:=U (.gu L l m sk d op g.2<|gtN L g.1) st sl E H s V N trivial M h;replace this:@aQ Nat (λ_=>Prop) False _ (aN (nth L g.1) λo=>o.dst):=this
     have am:GuW ⟨L⟩ s sk (Z g) (KG P X h2 st rg L l m d op):=by
      show @aQ Oper (λ_=>Prop) False _<|nth L g.1;cases hn:nth L g.1 with
      |none=>rw[hn]at this;exact this
      |some o=>
       rw[hn]at this;replace this:@aQ Nat (λ_=>Prop) False _ o.dst:=this;show @aQ Nat (λ_=>Prop) False _ o.dst;cases ho:o.dst with
       |none=>rw[ho]at this;exact this
       |some t=>rw[ho]at this;exact this
     cases m<;>exact am
  |gu L l m sk d o gb t=>
   cases t with
   |none=>exact False.elim h
   |some t=>
    have:=U (.gv L l m sk d o gb t (Cf sk t)<|kT<|lk sl E t) st sl E H s V N trivial M h;have hl:jd s t=lk sl E t:=by rw[M.lk,Df N]
    rw[<-hl]at this;exact this
  |gv L l m sk d o gb t e v=>
   cases e with
   |true=>exact U (.ge L l m sk d o aA) st sl E H s V N trivial M h
   |false=>
    replace h:yN v (az P X nl nt h2 n (.pt (hs sl t) t (.bool f)<|.ge L l m (sw sk t) d o<|CE f gb) st sl E H rg) (az P X nl nt h2 n (.pt (hs sl t) t (.bool aA)<|.ge L l m (sw sk t) d o<|CE aA gb) st sl E H rg):=h;show yN v (KG P X h2 st rg L l m d o (CE f gb) (sM s t (.bool f) s.H)<|sw sk t)<|KG P X h2 st rg L l m d o (CE aA gb) (sM s t (.bool aA) s.H)<|sw sk t;rcases QF h with⟨rfl,h⟩|⟨rfl,h⟩
    .exact U (.pt (hs sl t) t (.bool f)<|.ge L l m (sw sk t) d o<|CE f gb) st sl E H s V N ⟨O,trivial⟩ M h
    .exact U (.pt (hs sl t) t (.bool aA)<|.ge L l m (sw sk t) d o<|CE aA gb) st sl E H s V N ⟨O,trivial⟩ M h
  |ge L l m sk d o b=>
   cases b with
   |true=>exact U (.ex L l m sk d o) st sl E H s V N trivial M h
   |false=>
    have:=U (.af L l (Gf m) (aad sk d) d undef) st sl E H s V N trivial M h
    have ha:On s sk d=aad sk d:=by
     cases d with
     |none=>rfl
     |some d=>show b_ (wr s d) _ _=_;rw[anX N M];rfl
    cases m with
    |pl=>show Cg P X ⟨L⟩ l (kF s d undef s.H) (On s sk d) _;rw[ha];exact this
    |dr aj acc=>show VK P X ⟨L⟩ l (kF s d undef s.H) (On s sk d) (cl 0::acc) _;rw[ha];exact this
  |ex L l m sk d o=>
   show KG P X h2 st rg L l m d o f s sk;have ap:∀v,az P X nl nt h2 n (.af L l (Gf m) (nN sk d) d v) st sl E H rg->WM P X h2 st rg L l (Gf m) (kF s d v s.H) (nN sk d):=λv hv=>U (.af L l (Gf m) (nN sk d) d v) st sl E H s V N trivial M hv
   have aq:vz o=T->opG o P X (eq' sl E) (hX m H) (λv=>az P X nl nt h2 n (.af L l (Gf m) (nN sk d) d v) st sl E H rg) (λv Q=>az P X nl nt h2 n (.af L l (R6 m<|IW P o (eq' sl E) H Q) (nN sk d) d v) st sl E (hY m H Q) rg)->KG P X h2 st rg L l m d o f s sk:=by
    intro hd h
    have ad:∀v H2 m2,az P X nl nt h2 n (.af L l m2 (nN sk d) d v) st sl E H2 rg->WM P X h2 st rg L l m2 (kF s d v H2) (nN sk d):=by
     intro v H2 m2 hv;have:=U (.af L l m2 (nN sk d) d v) st sl E H2 ⟨s.nl,s.nt,s.reg,s.tm,s.df,H2⟩ V N trivial ⟨M.nl,M.nt,M.df,O,M.lk⟩ hv;cases d<;>exact this
    cases m with
    |pl=>
     show @aQ Call (λ_=>Prop) _ (λ_=>False)<|vz o;rw[hd];show opK o P X s _ _;rw[adl,ac,hH];refine TB (λv hv=>?_) (λv Q hv=>ad v Q .pl hv) h;have:=ap v hv;rw[hH]at this;exact this
    |dr aj acc=>
     show opK o P X (iW s) _ _;rw[adl];have I:ev (iW s)=ev s:=by funext x;cases x<;>rfl
     rw[I,ac];have B:(iW s).H=hN H:=by rw[<-hH];rfl
     rw[B];refine TB (λv hv=>ap v hv) (λv Q hv=>?_) h;have h3:uB P o s Q=IW P o (eq' sl E) H Q:=by rw[<-ac,<-hH];rfl
     rw[h3,hH];exact ad v _ _ hv
   cases o with
   |pick x y z=>
    have:=U (.pk L l (Gf m) (nN sk d) d (kT<|eq' sl E x) (eq' sl E y)<|eq' sl E z) st sl E H s V N trivial M h;rw[<-ac]at this;cases m with
    |pl=>exact this
    |dr aj acc=>
     show opK (.pick x y z) P X (iW s) (λv=>VK P X ⟨L⟩ l (kF s d v s.H) (nN sk d) (cl 0::acc) λs al=>kY aj al=f/\KK P X h2 st rg (.norm s)) λ_ _=>True;rw[adl,show ev (iW s)=ev s from by funext x;cases x<;>rfl];exact this
   |_=>first|exact aq O h|exact False.elim h
  |pk L l m sk d c a b=>
   exact PUm (λv hv=>U (.af L l m sk d v) st sl E H s V N trivial M hv) h
  |af L l m sk d v=>
   cases d with
   |none=>exact U (.op L l m sk) st sl E H s V N trivial M h
   |some t=>exact U (.pt (hs sl t) t v<|.op L l m sk) st sl E H s V N ⟨O,trivial⟩ M h
  |pt b t v nx=>
   obtain⟨rfl,Y⟩:=Y;have I:=alI N M t v s.H;rw[hH]at I;show Sem P X h2 st rg nx<|sM s t v s.H;rw[hH];cases hb:hs sl t with
   |true=>
    rw[hb]at h I;exact U nx st (up sl t v) E H _ V N.up (by rw[show hs (up sl t v)=hs sl from funext λaa=>aia];exact Y) I h
   |false=>
    rw[hb]at h I;exact U nx st sl ((t,v)::E) H _ V N Y I h
def iC.go(hk:Tw nl nt sl=f)(e:sub h2 (AB p [])=c)(h:az P X nl nt h2 n (.co c p) [] sl E H rg):iC P X c (S nl nt sl E H) rg:=
 snd n (.co c p) [] sl E H _ (λp c h=>nomatch h) (KO.of hk) e (qg.refl _) h
end sound
def BG(P:aX)(g:Nat):Code:=@aQ Func (λ_=>Code) .skip (λay=>QG ay)<|nth P.funcs.toList g
def TC(P:aX)(g:Nat):Nat:=@aQ Func (λ_=>Nat) 0 (λay=>ay.ntmps)<|nth P.funcs.toList g
def rsG(P:aX)(g:Nat):D ResultVar:=@aQ Func (λ_=>D ResultVar) [] (λay=>ay.results.toList)<|nth P.funcs.toList g
abbrev cs(P:aX)(g:Nat)(sl:Fr)(E:Rs)(H:R):St:=S (jZ P g) (TC P g) sl E H
def MZ(l:D C)(i:Nat):C:=@aQ C (λ_=>C) top (λv=>v)<|nth l i
def mkS(l:D Nat)(args:D C):Fr:=@dF Nat (λ_=>Fr) .n (λi _ r=>.c i (MZ args i) r) l
def okF(P:aX)(g:Nat)(l:D Nat)(n:Nat):Bool:=
 @aQ Func (λ_=>Bool) aA (λay=>@aQ Code (λ_=>Bool) aA (λ_=>f) ay.body&&aD n ay.ntmps) (nth P.funcs.toList g)&&Tw (jZ P g) (TC P g) (mkS l [])
def Ou(P:aX)(rs:D ResultVar)(sl:Fr)(E:Rs)(H:R):(D C->Prop)->Prop:=
 @dF ResultVar (λ_=>(D C->Prop)->Prop) (λk=>k []) (λr _ e k=>
  @ResultVar.rec (λ_=>Prop) (λt=>e λvs=>k<|lk sl E t::vs) (λa t=>ME (xP P t (lk sl E a) H) λv _=>e λvs=>k<|v::vs) r) rs
section gen
variable{P:aX}{X:Xt}{g:Nat}{q l:D Nat}{sl:Fr}{K:Out->Prop}{rs:D ResultVar}{args:D C}{k:D C->Prop}
def alJ:MZ [] i=top:=nr (by cases i<;>rfl)
def alK:MZ (v::vs) 0=v:=nr O
def alL:MZ (v::vs) (i+1)=MZ vs i:=nr O
def alM:mkS [] args=.n:=nr O
def alN:mkS (i::l) args=.c i (MZ args i) (mkS l args):=nr O
def alO:Ou P [] sl E H k=k []:=nr O
def alP:Ou P (.tmp t::rs) sl E H k=Ou P rs sl E H (λvs=>k<|lk sl E t::vs):=nr O
def alQ:Ou P (.cell i t::rs) sl E H k=ME (xP P t (lk sl E i) H) λv _=>Ou P rs sl E H (λvs=>k<|v::vs):=nr O
def alR:uI [v]=v:=nr O
def alS:uI (v::w::vs)=.tuple ⟨v::w::vs⟩:=nr O
def alU:uI []=.tuple ⟨[]⟩:=nr O
def EV:=ah @alJ<|ah @alK<|ah @alL<|ah @alM<|ah @alN<|ah @alO<|ah @alP<|ah @alQ<|ah @alR<|ah @alS @alU
def alV:AB (AB q []) []=q:=by
 have:∀(q r:D Nat),AB (AB q r) []=AB r q:=by
  intro q
  induction q with
  |nil=>intro r;rfl
  |cons i q e=>intro r;show AB (AB q<|i::r) []=_;rw[e];rfl
 exact this q []
def goF(h:az P X (jZ P g) (TC P g) (BG P g) n (.co c<|AB q []) [] sl E H K)(e:sub (BG P g) q=c)(hk:Tw (jZ P g) (TC P g) sl=f):iC P X (sub (BG P g) q) (cs P g sl E H) K:=by
 have I:sub (BG P g) (AB (AB q []) [])=c:=by rw[alV];exact e
 rw[e];exact iC.go hk I h
def alW(h:hs (mkS l args) t=f):lk (mkS l args) E t=MZ args t:=by
 induction l with
 |nil=>cases h
 |cons i l B=>
  replace h:b_ (aB i t) f (hs (mkS l args) t)=f:=h;show b_ (aB i t) (MZ args i) (lk (mkS l args) E t)=_
  by_cases e:i=t
  .subst e;rw[show aB i i=f from dW i];rfl
  .rw[MW e]at h|-;exact B h
def alX{b:D C}:hs (mkS l a) t=hs (mkS l b) t:=by
 induction l with
 |nil=>rfl
 |cons i l e=>
  show b_ (aB i t) f (hs (mkS l a) t)=b_ (aB i t) f (hs (mkS l b) t);rw[e]
def adm:MZ args t=(Tr.uS top args 0 .nil).get top t:=by
 rw[Tr.oh]
 have:∀(a:D C)(k:Nat),MZ a k=a.getD k top:=by
  intro a
  induction a with
  |nil=>intro k;cases k<;>rfl
  |cons x a e=>intro k;cases k with
   |zero=>rfl
   |succ k=>exact e k
 rw[this];split
 .rfl
 .rename_i h;rw[aW,dB N];rw[Tr.get_nil];rfl
def ceF{K:C->R->Prop}(h:iC P X (sub (BG P g) []) (cs P g sl [] H)<|jO P rs K)(U:mkS l args=sl)(N:rsG P g=rs)(W:X.o g args H=T)(Y:okF P g l (len args)=f):bM P X g args H K:=by
 unfold okF at Y;rw[bE]at Y;have⟨I,B⟩:=Y;unfold BG cs TC at h;unfold rsG at N;unfold TC at B;cases hg:nth P.funcs.toList g with
 |none=>rw[hg]at I;cases I
 |some e=>
  rw[hg]at h I B N;replace I:(@aQ Code (λ_=>Bool) aA (λ_=>f) e.body&&aD (len args) e.ntmps)=f:=I;rw[bE]at I;replace h:iC P X (QG e) (S (jZ P g) e.ntmps sl [] H) (jO P rs K):=h;replace B:Tw (jZ P g) e.ntmps (mkS l [])=f:=B;cases hb:e.body with
  |none=>rw[hb]at I;cases I.1
  |some c=>
   have V:QG e=c:=by unfold QG;rw[hb]
   rw[V]at h;replace N:e.results.toList=rs:=N;subst N;refine bM.body W hg hb I.2 O<|iC.alike ?_ h;have hk:=KO.of B;have M:KO (jZ P g) e.ntmps sl:=⟨λt=>by rw[<-U,<-hk.1 t];exact alX,hk.2⟩;refine⟨O,O,O,O,λt=>?_⟩;rw[Df M];show b_ (iP (jZ P g) t) ((Fg args e.ntmps).get top t) top=_;rw[<-SX,<-adm,MX,M.1];cases hbit:iP (jZ P g) t with
   |false=>rfl
   |true=>
    have h3:hs sl t=f:=by rw[M.1];exact hbit
    have h4:lk sl [] t=MZ args t:=by subst U;exact alW h3
    rw[MX,h3]at h4;exact h4.symm
def adn(hk:Tw (jZ P g) (TC P g) sl=f):∀{rs:D ResultVar}{k:D C->Prop},Ou P rs sl E H k->VL P (cs P g sl E H) rs k:=by
 have hk:=KO.of hk;have e:∀t,jd (cs P g sl E H) t=lk sl E t:=Df hk;intro rs
 induction rs with
 |nil=>intro k h;exact h
 |cons r rs B=>
  intro k h;cases r with
  |tmp t=>
   show VL P _ rs λvs=>k<|jd _ t::vs;rw[e];exact B h
  |cell a t=>
   show ME (xP P t (jd _ a) H) λv _=>VL P _ rs λvs=>k<|v::vs;rw[e];exact MEm (λv Q I=>B I) h
def rrF{K:C->R->Prop}(h:Ou P rs sl E H λvs=>K (uI vs) H)(hk:Tw (jZ P g) (TC P g) sl=f):jO P rs K (.ret<|cs P g sl E H):=acn O<|adn hk h
def rnF{K:C->R->Prop}(h:Ou P rs sl E H λvs=>K (uI vs) H)(hk:Tw (jZ P g) (TC P g) sl=f):jO P rs K (.norm<|cs P g sl E H):=Z6 O<|adn hk h
def VX{e:C->Fr}(B:Nat){h1:Nat->C->R->Prop}(h:∀n(x0:C)(E:Rs)(H:R),h1 n x0 H->iC P X (sub (BG P g) p) (cs P g (e x0) E H) (IU (λm s=>∃(x0:C)(E:Rs)(H:R),s=cs P g (e x0) E H/\h1 m x0 H) n K))(n:Nat)(I:h1 n (lk sl [] B) H)(O:∀x0,up sl B x0=e x0:=by intros;conv=>lhs;simp only[Jn,Jo,↓reduceIte,dG,Nat.reduceBEq])(N:e (lk sl [] B)=sl:=by rfl):iC P X (.loop<|sub (BG P g) p) (cs P g sl E H) K:=
 iC.Ei (az:=λm s=>∃(x0:C)(E:Rs)(H:R),s=cs P g (e x0) E H/\h1 m x0 H) (λn s hs=>by obtain⟨x0,E,H,rfl,M⟩:=hs;exact h n x0 E H M) n _ ⟨_,E,H,by rw[N],I⟩
def lp2{e:C->C->Fr}(B I:Nat){h1:Nat->C->C->R->Prop}(h:∀n(x0 x1:C)(E:Rs)(H:R),h1 n x0 x1 H->iC P X (sub (BG P g) p) (cs P g (e x0 x1) E H) (IU (λm s=>∃(x0 x1:C)(E:Rs)(H:R),s=cs P g (e x0 x1) E H/\h1 m x0 x1 H) n K))(n:Nat)(M:h1 n (lk sl [] B) (lk sl [] I) H)(S:∀x0 x1,up (up sl B x0) I x1=e x0 x1:=by intros;conv=>lhs;simp only[Jn,Jo,↓reduceIte,dG,Nat.reduceBEq])(O:e (lk sl [] B) (lk sl [] I)=sl:=by rfl):iC P X (.loop<|sub (BG P g) p) (cs P g sl E H) K:=
 iC.Ei (az:=λm s=>∃(x0 x1:C)(E:Rs)(H:R),s=cs P g (e x0 x1) E H/\h1 m x0 x1 H) (λn s hs=>by obtain⟨x0,x1,E,H,rfl,N⟩:=hs;exact h n x0 x1 E H N) n _ ⟨_,_,E,H,by rw[O],M⟩
def Gg{e:C->C->C->Fr}(B I M:Nat){h1:Nat->C->C->C->R->Prop}(h:∀n(x0 x1 x2:C)(E:Rs)(H:R),h1 n x0 x1 x2 H->iC P X (sub (BG P g) p) (cs P g (e x0 x1 x2) E H) (IU (λm s=>∃(x0 x1 x2:C)(E:Rs)(H:R),s=cs P g (e x0 x1 x2) E H/\h1 m x0 x1 x2 H) n K))(n:Nat)(N:h1 n (lk sl [] B) (lk sl [] I) (lk sl [] M) H)(U:∀x0 x1 x2,up (up (up sl B x0) I x1) M x2=e x0 x1 x2:=by intros;conv=>lhs;simp only[Jn,Jo,↓reduceIte,dG,Nat.reduceBEq])(S:e (lk sl [] B) (lk sl [] I) (lk sl [] M)=sl:=by rfl):iC P X (.loop<|sub (BG P g) p) (cs P g sl E H) K:=
 iC.Ei (az:=λm s=>∃(x0 x1 x2:C)(E:Rs)(H:R),s=cs P g (e x0 x1 x2) E H/\h1 m x0 x1 x2 H) (λn s hs=>by obtain⟨x0,x1,x2,E,H,rfl,O⟩:=hs;exact h n x0 x1 x2 E H O) n _ ⟨_,_,_,E,H,by rw[S],N⟩
def Ov{e:C->C->C->C->Fr}(B I M N:Nat){h1:Nat->C->C->C->C->R->Prop}(h:∀n(x0 x1 x2 x3:C)(E:Rs)(H:R),h1 n x0 x1 x2 x3 H->iC P X (sub (BG P g) p) (cs P g (e x0 x1 x2 x3) E H) (IU (λm s=>∃(x0 x1 x2 x3:C)(E:Rs)(H:R),s=cs P g (e x0 x1 x2 x3) E H/\h1 m x0 x1 x2 x3 H) n K))(n:Nat)(O:h1 n (lk sl [] B) (lk sl [] I) (lk sl [] M) (lk sl [] N) H)(V:∀x0 x1 x2 x3,up (up (up (up sl B x0) I x1) M x2) N x3=e x0 x1 x2 x3:=by intros;conv=>lhs;simp only[Jn,Jo,↓reduceIte,dG,Nat.reduceBEq])(U:e (lk sl [] B) (lk sl [] I) (lk sl [] M) (lk sl [] N)=sl:=by rfl):iC P X (.loop<|sub (BG P g) p) (cs P g sl E H) K:=
 iC.Ei (az:=λm s=>∃(x0 x1 x2 x3:C)(E:Rs)(H:R),s=cs P g (e x0 x1 x2 x3) E H/\h1 m x0 x1 x2 x3 H) (λn s hs=>by obtain⟨x0,x1,x2,x3,E,H,rfl,S⟩:=hs;exact h n x0 x1 x2 x3 E H S) n _ ⟨_,_,_,_,E,H,by rw[U],O⟩
def YA{e:C->C->C->C->C->Fr}(B I M N O:Nat){h1:Nat->C->C->C->C->C->R->Prop}(h:∀n(x0 x1 x2 x3 x4:C)(E:Rs)(H:R),h1 n x0 x1 x2 x3 x4 H->iC P X (sub (BG P g) p) (cs P g (e x0 x1 x2 x3 x4) E H) (IU (λm s=>∃(x0 x1 x2 x3 x4:C)(E:Rs)(H:R),s=cs P g (e x0 x1 x2 x3 x4) E H/\h1 m x0 x1 x2 x3 x4 H) n K))(n:Nat)(S:h1 n (lk sl [] B) (lk sl [] I) (lk sl [] M) (lk sl [] N) (lk sl [] O) H)(W:∀x0 x1 x2 x3 x4,up (up (up (up (up sl B x0) I x1) M x2) N x3) O x4=e x0 x1 x2 x3 x4:=by intros;conv=>lhs;simp only[Jn,Jo,↓reduceIte,dG,Nat.reduceBEq])(V:e (lk sl [] B) (lk sl [] I) (lk sl [] M) (lk sl [] N) (lk sl [] O)=sl:=by rfl):iC P X (.loop<|sub (BG P g) p) (cs P g sl E H) K:=
 iC.Ei (az:=λm s=>∃(x0 x1 x2 x3 x4:C)(E:Rs)(H:R),s=cs P g (e x0 x1 x2 x3 x4) E H/\h1 m x0 x1 x2 x3 x4 H) (λn s hs=>by obtain⟨x0,x1,x2,x3,x4,E,H,rfl,U⟩:=hs;exact h n x0 x1 x2 x3 x4 E H U) n _ ⟨_,_,_,_,_,E,H,by rw[V],S⟩
def lp6{e:C->C->C->C->C->C->Fr}(B I M N O S:Nat){h1:Nat->C->C->C->C->C->C->R->Prop}(h:∀n(x0 x1 x2 x3 x4 x5:C)(E:Rs)(H:R),h1 n x0 x1 x2 x3 x4 x5 H->iC P X (sub (BG P g) p) (cs P g (e x0 x1 x2 x3 x4 x5) E H) (IU (λm s=>∃(x0 x1 x2 x3 x4 x5:C)(E:Rs)(H:R),s=cs P g (e x0 x1 x2 x3 x4 x5) E H/\h1 m x0 x1 x2 x3 x4 x5 H) n K))(n:Nat)(U:h1 n (lk sl [] B) (lk sl [] I) (lk sl [] M) (lk sl [] N) (lk sl [] O) (lk sl [] S) H)(Y:∀x0 x1 x2 x3 x4 x5,up (up (up (up (up (up sl B x0) I x1) M x2) N x3) O x4) S x5=e x0 x1 x2 x3 x4 x5:=by intros;conv=>lhs;simp only[Jn,Jo,↓reduceIte,dG,Nat.reduceBEq])(W:e (lk sl [] B) (lk sl [] I) (lk sl [] M) (lk sl [] N) (lk sl [] O) (lk sl [] S)=sl:=by rfl):iC P X (.loop<|sub (BG P g) p) (cs P g sl E H) K:=
 iC.Ei (az:=λm s=>∃(x0 x1 x2 x3 x4 x5:C)(E:Rs)(H:R),s=cs P g (e x0 x1 x2 x3 x4 x5) E H/\h1 m x0 x1 x2 x3 x4 x5 H) (λn s hs=>by obtain⟨x0,x1,x2,x3,x4,x5,E,H,rfl,V⟩:=hs;exact h n x0 x1 x2 x3 x4 x5 E H V) n _ ⟨_,_,_,_,_,_,E,H,by rw[W],U⟩
def lp7{e:C->C->C->C->C->C->C->Fr}(B I M N O S U:Nat){h1:Nat->C->C->C->C->C->C->C->R->Prop}(h:∀n(x0 x1 x2 x3 x4 x5 x6:C)(E:Rs)(H:R),h1 n x0 x1 x2 x3 x4 x5 x6 H->iC P X (sub (BG P g) p) (cs P g (e x0 x1 x2 x3 x4 x5 x6) E H) (IU (λm s=>∃(x0 x1 x2 x3 x4 x5 x6:C)(E:Rs)(H:R),s=cs P g (e x0 x1 x2 x3 x4 x5 x6) E H/\h1 m x0 x1 x2 x3 x4 x5 x6 H) n K))(n:Nat)(V:h1 n (lk sl [] B) (lk sl [] I) (lk sl [] M) (lk sl [] N) (lk sl [] O) (lk sl [] S) (lk sl [] U) H)(hu:∀x0 x1 x2 x3 x4 x5 x6,up (up (up (up (up (up (up sl B x0) I x1) M x2) N x3) O x4) S x5) U x6=e x0 x1 x2 x3 x4 x5 x6:=by intros;conv=>lhs;simp only[Jn,Jo,↓reduceIte,dG,Nat.reduceBEq])(Y:e (lk sl [] B) (lk sl [] I) (lk sl [] M) (lk sl [] N) (lk sl [] O) (lk sl [] S) (lk sl [] U)=sl:=by rfl):iC P X (.loop<|sub (BG P g) p) (cs P g sl E H) K:=
 iC.Ei (az:=λm s=>∃(x0 x1 x2 x3 x4 x5 x6:C)(E:Rs)(H:R),s=cs P g (e x0 x1 x2 x3 x4 x5 x6) E H/\h1 m x0 x1 x2 x3 x4 x5 x6 H) (λn s hs=>by obtain⟨x0,x1,x2,x3,x4,x5,x6,E,H,rfl,W⟩:=hs;exact h n x0 x1 x2 x3 x4 x5 x6 E H W) n _ ⟨_,_,_,_,_,_,_,E,H,by rw[Y],V⟩
def lp8{e:C->C->C->C->C->C->C->C->Fr}(B I M N O S U V:Nat){h1:Nat->C->C->C->C->C->C->C->C->R->Prop}(h:∀n(x0 x1 x2 x3 x4 x5 x6 x7:C)(E:Rs)(H:R),h1 n x0 x1 x2 x3 x4 x5 x6 x7 H->iC P X (sub (BG P g) p) (cs P g (e x0 x1 x2 x3 x4 x5 x6 x7) E H) (IU (λm s=>∃(x0 x1 x2 x3 x4 x5 x6 x7:C)(E:Rs)(H:R),s=cs P g (e x0 x1 x2 x3 x4 x5 x6 x7) E H/\h1 m x0 x1 x2 x3 x4 x5 x6 x7 H) n K))(n:Nat)(W:h1 n (lk sl [] B) (lk sl [] I) (lk sl [] M) (lk sl [] N) (lk sl [] O) (lk sl [] S) (lk sl [] U) (lk sl [] V) H)(hu:∀x0 x1 x2 x3 x4 x5 x6 x7,up (up (up (up (up (up (up (up sl B x0) I x1) M x2) N x3) O x4) S x5) U x6) V x7=e x0 x1 x2 x3 x4 x5 x6 x7:=by intros;conv=>lhs;simp only[Jn,Jo,↓reduceIte,dG,Nat.reduceBEq])(he:e (lk sl [] B) (lk sl [] I) (lk sl [] M) (lk sl [] N) (lk sl [] O) (lk sl [] S) (lk sl [] U) (lk sl [] V)=sl:=by rfl):iC P X (.loop<|sub (BG P g) p) (cs P g sl E H) K:=
 iC.Ei (az:=λm s=>∃(x0 x1 x2 x3 x4 x5 x6 x7:C)(E:Rs)(H:R),s=cs P g (e x0 x1 x2 x3 x4 x5 x6 x7) E H/\h1 m x0 x1 x2 x3 x4 x5 x6 x7 H) (λn s hs=>by obtain⟨x0,x1,x2,x3,x4,x5,x6,x7,E,H,rfl,Y⟩:=hs;exact h n x0 x1 x2 x3 x4 x5 x6 x7 E H Y) n _ ⟨_,_,_,_,_,_,_,_,E,H,by rw[he],W⟩
def lp9{e:C->C->C->C->C->C->C->C->C->Fr}(B I M N O S U V W:Nat){h1:Nat->C->C->C->C->C->C->C->C->C->R->Prop}(h:∀n(x0 x1 x2 x3 x4 x5 x6 x7 x8:C)(E:Rs)(H:R),h1 n x0 x1 x2 x3 x4 x5 x6 x7 x8 H->iC P X (sub (BG P g) p) (cs P g (e x0 x1 x2 x3 x4 x5 x6 x7 x8) E H) (IU (λm s=>∃(x0 x1 x2 x3 x4 x5 x6 x7 x8:C)(E:Rs)(H:R),s=cs P g (e x0 x1 x2 x3 x4 x5 x6 x7 x8) E H/\h1 m x0 x1 x2 x3 x4 x5 x6 x7 x8 H) n K))(n:Nat)(Y:h1 n (lk sl [] B) (lk sl [] I) (lk sl [] M) (lk sl [] N) (lk sl [] O) (lk sl [] S) (lk sl [] U) (lk sl [] V) (lk sl [] W) H)(hu:∀x0 x1 x2 x3 x4 x5 x6 x7 x8,up (up (up (up (up (up (up (up (up sl B x0) I x1) M x2) N x3) O x4) S x5) U x6) V x7) W x8=e x0 x1 x2 x3 x4 x5 x6 x7 x8:=by intros;conv=>lhs;simp only[Jn,Jo,↓reduceIte,dG,Nat.reduceBEq])(he:e (lk sl [] B) (lk sl [] I) (lk sl [] M) (lk sl [] N) (lk sl [] O) (lk sl [] S) (lk sl [] U) (lk sl [] V) (lk sl [] W)=sl:=by rfl):iC P X (.loop<|sub (BG P g) p) (cs P g sl E H) K:=
 iC.Ei (az:=λm s=>∃(x0 x1 x2 x3 x4 x5 x6 x7 x8:C)(E:Rs)(H:R),s=cs P g (e x0 x1 x2 x3 x4 x5 x6 x7 x8) E H/\h1 m x0 x1 x2 x3 x4 x5 x6 x7 x8 H) (λn s hs=>by obtain⟨x0,x1,x2,x3,x4,x5,x6,x7,x8,E,H,rfl,hI⟩:=hs;exact h n x0 x1 x2 x3 x4 x5 x6 x7 x8 E H hI) n _ ⟨_,_,_,_,_,_,_,_,_,E,H,by rw[he],Y⟩
def ajl{e:C->C->C->C->C->C->C->C->C->C->Fr}(B I M N O S U V W Y:Nat){h1:Nat->C->C->C->C->C->C->C->C->C->C->R->Prop}(h:∀n(x0 x1 x2 x3 x4 x5 x6 x7 x8 x9:C)(E:Rs)(H:R),h1 n x0 x1 x2 x3 x4 x5 x6 x7 x8 x9 H->iC P X (sub (BG P g) p) (cs P g (e x0 x1 x2 x3 x4 x5 x6 x7 x8 x9) E H) (IU (λm s=>∃(x0 x1 x2 x3 x4 x5 x6 x7 x8 x9:C)(E:Rs)(H:R),s=cs P g (e x0 x1 x2 x3 x4 x5 x6 x7 x8 x9) E H/\h1 m x0 x1 x2 x3 x4 x5 x6 x7 x8 x9 H) n K))(n:Nat)(h0:h1 n (lk sl [] B) (lk sl [] I) (lk sl [] M) (lk sl [] N) (lk sl [] O) (lk sl [] S) (lk sl [] U) (lk sl [] V) (lk sl [] W) (lk sl [] Y) H)(hu:∀x0 x1 x2 x3 x4 x5 x6 x7 x8 x9,up (up (up (up (up (up (up (up (up (up sl B x0) I x1) M x2) N x3) O x4) S x5) U x6) V x7) W x8) Y x9=e x0 x1 x2 x3 x4 x5 x6 x7 x8 x9:=by intros;conv=>lhs;simp only[Jn,Jo,↓reduceIte,dG,Nat.reduceBEq])(he:e (lk sl [] B) (lk sl [] I) (lk sl [] M) (lk sl [] N) (lk sl [] O) (lk sl [] S) (lk sl [] U) (lk sl [] V) (lk sl [] W) (lk sl [] Y)=sl:=by rfl):iC P X (.loop<|sub (BG P g) p) (cs P g sl E H) K:=
 iC.Ei (az:=λm s=>∃(x0 x1 x2 x3 x4 x5 x6 x7 x8 x9:C)(E:Rs)(H:R),s=cs P g (e x0 x1 x2 x3 x4 x5 x6 x7 x8 x9) E H/\h1 m x0 x1 x2 x3 x4 x5 x6 x7 x8 x9 H) (λn s hs=>by obtain⟨x0,x1,x2,x3,x4,x5,x6,x7,x8,x9,E,H,rfl,hI⟩:=hs;exact h n x0 x1 x2 x3 x4 x5 x6 x7 x8 x9 E H hI) n _ ⟨_,_,_,_,_,_,_,_,_,_,E,H,by rw[he],h0⟩
def alY{M:C->C->C->C->C->C->C->C->C->C->C->C->C->C->Fr}(V W Y a3 a4 a5 a6 a7 a8 a9 N O S U:Nat){h1:Nat->C->C->C->C->C->C->C->C->C->C->C->C->C->C->R->Prop}(h:∀n(x0 x1 x2 x3 x4 x5 x6 x7 x8 x9 e B I jY:C)(E:Rs)(H:R),h1 n x0 x1 x2 x3 x4 x5 x6 x7 x8 x9 e B I jY H->iC P X (sub (BG P g) p) (cs P g (M x0 x1 x2 x3 x4 x5 x6 x7 x8 x9 e B I jY) E H) (IU (λm s=>∃(x0 x1 x2 x3 x4 x5 x6 x7 x8 x9 e B I jY:C)(E:Rs)(H:R),s=cs P g (M x0 x1 x2 x3 x4 x5 x6 x7 x8 x9 e B I jY) E H/\h1 m x0 x1 x2 x3 x4 x5 x6 x7 x8 x9 e B I jY H) n K))(n:Nat)(h0:h1 n (lk sl [] V) (lk sl [] W) (lk sl [] Y) (lk sl [] a3) (lk sl [] a4) (lk sl [] a5) (lk sl [] a6) (lk sl [] a7) (lk sl [] a8) (lk sl [] a9) (lk sl [] N) (lk sl [] O) (lk sl [] S) (lk sl [] U) H)(hu:∀x0 x1 x2 x3 x4 x5 x6 x7 x8 x9 e B I jY,up (up (up (up (up (up (up (up (up (up (up (up (up (up sl V x0) W x1) Y x2) a3 x3) a4 x4) a5 x5) a6 x6) a7 x7) a8 x8) a9 x9) N e) O B) S I) U jY=M x0 x1 x2 x3 x4 x5 x6 x7 x8 x9 e B I jY:=by intros;conv=>lhs;simp only[Jn,Jo,↓reduceIte,dG,Nat.reduceBEq])(he:M (lk sl [] V) (lk sl [] W) (lk sl [] Y) (lk sl [] a3) (lk sl [] a4) (lk sl [] a5) (lk sl [] a6) (lk sl [] a7) (lk sl [] a8) (lk sl [] a9) (lk sl [] N) (lk sl [] O) (lk sl [] S) (lk sl [] U)=sl:=by rfl):iC P X (.loop<|sub (BG P g) p) (cs P g sl E H) K:=
 iC.Ei (az:=λm s=>∃(x0 x1 x2 x3 x4 x5 x6 x7 x8 x9 e B I jY:C)(E:Rs)(H:R),s=cs P g (M x0 x1 x2 x3 x4 x5 x6 x7 x8 x9 e B I jY) E H/\h1 m x0 x1 x2 x3 x4 x5 x6 x7 x8 x9 e B I jY H) (λn s hs=>by obtain⟨x0,x1,x2,x3,x4,x5,x6,x7,x8,x9,e,B,I,jY,E,H,rfl,hI⟩:=hs;exact h n x0 x1 x2 x3 x4 x5 x6 x7 x8 x9 e B I jY E H hI) n _ ⟨_,_,_,_,_,_,_,_,_,_,_,_,_,_,E,H,by rw[he],h0⟩
end gen
end Go.Ae.hx
namespace Go.Ae
variable{H Q H0:R}{args rest vs:D C}{m:Mp}{g:FuncId}{w:cZ}{c es n r:Nat}{ty:aI}{L:D eF}{v:C}
def hpT(n:Nat)(e t2:aI):R:=⟨Tr.set .dead (Tr.set .dead .nil 1<|xm e .u8 Fu) 2<|xm t2 .u8 KC,n,n⟩
def age(n:Nat)(e t2:aI)(r:Nat):(hpT n e t2).obj r=if r=2 then xm t2 .u8 KC else if r=1 then xm e .u8 Fu else .dead:=by
 show(Tr.set .dead (Tr.set .dead .nil 1<|xm e .u8 Fu) 2<|xm t2 .u8 KC).get .dead r=_;rw[Tr.wU,Tr.wU,Tr.get_nil]
def TE(Y:RH m H w)(V:Gl n m)(W:r<n){k:f_}{l:D Nat}(h:H.obj r=xm ty k l):TabAt w (xm ty k l) r:=by
 have⟨lc,I,B,h3,h4⟩:=V r W;have⟨o,h5,h6⟩:=Y.ok r lc I;rw[B]at h5;rw[h]at h6;cases o with
 |cells F e fr=>
  have⟨⟨M,_⟩,e2,e3,e4,e5,e6,e7⟩:=h6;have M:e=ty:=M;subst M;refine .inr ⟨e,k,l,F,fr,O,h5,λi z U=>?_⟩;have hi:i<u l:=(bK.1 U).1;have S:i<(len l):=by rw[h_];exact hi
  have⟨v,g1,g2⟩:=e7 i N S;rw[h4,h3,bB,mD]at g1;have:VR m ((Tr.uS top (mp (λn=>a_ k<|Int.ofNat n) l) 0 .nil).get top i) v:=g2;rw[Tr.oh,G5,jj N7,aW,mD,bL,U]at this;rw[g1,this.of_int];rfl
 |_=>exact absurd h6 id
def agf(M:RH m H w)(e:Gl n m):n<=w.heap.size:=by
 cases n with
 |zero=>exact bD _
 |succ n=>
  have⟨lc,I,B,_⟩:=e n<|dI n;have⟨o,h5,_⟩:=M.ok n lc I;have:=qC h5;omega
def RH.below{w':cZ}(N:RH m H w)(e:Go.RowKit.Below w.heap.size w w'):RH m H w'/\Ex m m H H w w':=by
 refine⟨⟨N.dom,λr l S=>?_,N.sep⟩,?_⟩
 .have⟨o,I,B⟩:=N.ok r l S;exact⟨o,by rw[e.block _ (qC I)];exact I,B⟩
 .exact⟨λ_ _ h=>h,λr l h M=>(by rw[h]at M;cases M),λr l h M=>(by rw[h]at M;cases M),e.os,e.tape,e.output,e.size,λc O _=>e.block c O,ax _,ax _,λ_ _ _=>rfl,λ_ _ _=>rfl⟩
section mem
variable{P:aX}
def agh{X:Xt}{k:Nat}(hn:3<=n)(Y:P.follows .mixedOrders=f)(hP:Ec P n)(hX:XOk P X)(hO:Ml P X n){M:Func}(hg:P.funcs[g]?=Z M)(hb:M.body.isSome=f)(h:∀U t2,acd n f (nX P X k g []<|hpT n U t2)=f)(ho:orT args H=Z (v,Q)):
 (∃M,P.funcs[g]?=Z M/\M.body.isSome=f)/\∀m w args',RH m H w->Gl n m->mX m args args'->
  Calls P g ⟨args'⟩ w λe w'=>∃m' v',e=.returned v'/\VR m' v v'/\RH m' Q w'/\Ex m m' H Q w w':=by
 obtain⟨rfl,hT,rfl,rfl⟩:=ajf ho;refine⟨⟨M,hg,hb⟩,λm w args' S V ha=>?_⟩;cases ha;have⟨h0,U,t2,e1,e2⟩:=hT;have⟨H1,I,B⟩:=ace<|h U t2;refine(VJ (H:=hpT n U t2) Y hP hX hO hg hb I B O O (agf S V) ?_).mono ?_
 .intro r hr;rw[age]
  by_cases r2:r=2
  .subst r2;rw[jj O];exact TE S V N e2
  .rw[jx r2]
   by_cases r1:r=1
   .subst r1;rw[jj O];exact TE S V N e1
   .rw[jx r1];exact .inl O
 .rintro e w' ⟨rfl,W⟩;have⟨g1,g2⟩:=S.below W;exact⟨m,.bool f,O,.sc _ O,g1,g2⟩
end mem
section
open Go.Sort
section turn
def RH.grown(N:RH m H w)(n:Nat)(os:Array Obj):RH m H (grow (Sort.ahead w n) os)/\Ex m m H H w (grow (Sort.ahead w n) os):=by
 have O:∀c,c<w.heap.size->(grow (Sort.ahead w n) os).heap[c]?=w.heap[c]?:=λc M=>by
  show(w.heap++os)[c]?=_;rw[tL M]
 refine⟨⟨N.dom,λr l S=>?_,N.sep⟩,?_⟩
 .have⟨o,I,B⟩:=N.ok r l S;exact⟨o,by rw[O _ (qC I)];exact I,B⟩
 .exact⟨λ_ _ h=>h,λr l h e=>(by rw[h]at e;cases e),λr l h e=>(by rw[h]at e;cases e),rfl,rfl,rfl,by show w.heap.size<=(w.heap++os).size;simp,λc M _=>O c M,ax _,ax _,λ_ _ _=>rfl,λ_ _ _=>rfl⟩
theorem RH.turn(W:RH m H w){off:Nat}{l:Loc}(h:H.write r off vs=Z Q)(hv:mX m vs vs)(hn:vs≠[])(V:m r=Z l)(hl:l.lo<=off)(n:Nat)(os:Array Obj):
 (RH m Q (grow (putRow id (Sort.ahead w n) l.c (l.base+(off-l.lo)) vs.toArray) os)/\Ex m m H Q w (grow (putRow id (Sort.ahead w n) l.c (l.base+(off-l.lo)) vs.toArray) os))/\
 l.c<w.heap.size/\∀j,w.frozen? ⟨l.c,l.base+(off-l.lo)+j,T⟩=aA:=by
 cases vs with
 |nil=>exact absurd O hn
 |cons v x=>
  replace h:(aN (xH<|H.obj r) λw=>
   gd (!w.mR&&aD (bq off<|len<|v::x) w.n&&aD w.fz off&&all' gI (v::x))
   (Z<|H.put r<|.row ⟨w.ty,Tr.uS top (v::x) off w.cells,w.n,aA,w.fz⟩))=Z Q:=h
  have⟨az,hR,h⟩:=aL h;have⟨e,h⟩:=gJ h;cases h;have I:=vK hR;simp only[bE,h_,all_eq]at e;have⟨⟨⟨g0,Y⟩,g2⟩,g3⟩:=e;have Y:off+(v::x).length<=az.n:=aF Y;have g2:=aF g2;have⟨F,fr,hb,hnn,B,h3,h4,h5,h6⟩:=row_of W V I;have M:=h5<|om g0;have hc:=qC hb
  have e1:(putRow id (Sort.ahead w n) l.c (l.base+(off-l.lo)) (v::x).toArray).heap[l.c]?=Z (.cells (putCells id (l.base+(off-l.lo)) (v::x).toArray F) az.ty fr):=by
   show(w.heap.modify l.c<|onCells _)[l.c]?=_;rw[jA,jj O,hb];rfl
  have hu:=RH.update W r l (.row ⟨az.ty,Tr.uS top (v::x) off az.cells,az.n,aA,az.fz⟩) (.cells (putCells id (l.base+(off-l.lo)) (v::x).toArray F) az.ty fr) V (by rw[I];simp) ?_ e1 gB (λc h=>by
   show(w.heap.modify l.c<|onCells _)[c]?=_;rw[jA,jx<|qI h]) O O O
  .have e:=hu.1.grown 0 os;refine⟨⟨e.1,hu.2.trans e.2⟩,hc,λj=>?_⟩;show(match w.heap[l.c]? with|some (.cells _ _ (lo,hi))=>lo<=l.base+(off-l.lo)+j&&l.base+(off-l.lo)+j<hi|_=>aA)=aA;rw[hb];show(decide (fr.1<=_)&&decide (_<fr.2))=aA;rw[Bool.and_eq_false_iff];exact .inr<|dQ N
  .refine⟨⟨O,base_of W V I⟩,hnn,by simp[putCells,B],h3,h4,λ_=>M,?_⟩;intro i a b;rw[Tr.oh];have⟨aa,hu1,hu2⟩:=h6 i a b
   have e2:(putCells id (l.base+(off-l.lo)) (v::x).toArray F)[l.base+(i-l.lo)]?=Z (if l.base+(off-l.lo)<=l.base+(i-l.lo)/\l.base+(i-l.lo)<l.base+(off-l.lo)+(v::x).length then(v::x).toArray[l.base+(i-l.lo)-(l.base+(off-l.lo))]! else aa):=by
    unfold putCells;rw[wC,hu1];rfl
   rw[e2]
   by_cases hin:off<=i/\i<off+(v::x).length
   .rw[jj N,jj hin,show l.base+(i-l.lo)-(l.base+(off-l.lo))=i-off from N];have U:i-off<(v::x).length:=N
    have S:(v::x)[i-off]?=Z ((v::x).getD (i-off) top):=by
     rw[aW,av U];rfl
    have⟨aa,hu1,hu2⟩:=hv.get (i-off) S;refine⟨_,O,?_⟩
    have:(v::x).toArray[i-off]! =aa:=by
     rw[rM,List.getElem!_eq_getElem?_getD,hu1];rfl
    rw[this];exact hu2
   .rw[jx N,jx hin];exact⟨aa,O,hu2⟩
def mX.row(h:mX m (J (Z ⟨r,0,T⟩) (n+1) c::rest) args):∃l c' rest',m r=Z l/\l.lo<=0/\mX m rest rest'/\args=J (Z ⟨l.c,l.base+(0-l.lo),T⟩) (n+1) c'::rest':=by
 cases h with
 |cons _ Y _ x' B M=>
  cases B with
  |sc _ h=>exact Bool.noConfusion h
  |slice _ _ _ _ l h e U V=>exact⟨l,_,_,h,e,M,O⟩
  |uJ _ _ _ _ I l h e S W N hN=>exact⟨l,_,_,h,e,M,O⟩
end turn
section rows
variable{α:Type}(enc:α->D C)(ay:D α->D α)
open Classical in
def orW(es:Nat)(rest:D C):D C->R->aC (C×R)
 |.slice (Z ⟨r,0,T⟩) (n+1) _::l,H=>
  if h:l=rest/\n<1000000/\∃zs:D α,u zs=n+1/\H.read r 0 ((n+1)*es)=Z (zs.flatMap enc)then
   (H.write r 0<|(ay h.2.2.choose).flatMap enc).map λQ=>(.tuple ⟨[]⟩,Q)else T
 |_,_=>T
structure Put(es:Nat):Prop where
 len:∀x,u (enc x)=es
 pos:0<es
 sc:∀x,∀v∈enc x,oZ v=f/\gI v=f
 perm:∀zs,(ay zs).Perm zs
variable{enc ay}
def Put.flat(e:Put enc ay es):∀zs:D α,u (zs.flatMap enc)=u zs*es
 |[]=>(jq _).symm
 |z::zs=>by rw[lY,aU,e.len,e.flat zs,cO,jN];omega
theorem Put.scs(e:Put enc ay es)(zs:D α):(zs.flatMap enc).all oZ=f:=fD.2 λv B=>by
 have⟨x,_,M⟩:=sV.1 B;exact(e.sc x v M).1
def Put.el(e:Put enc ay es):∀(zs:D α)(k:Nat)(hk:k<u zs)(fE:D C),El (zs.flatMap enc++fE) es k=enc zs[k]
 |z::zs,0,_,fE=>by
  unfold El;rw[jq,jQ,lY,cK,<-e.len z,xM];rfl
 |z::zs,k+1,hk,fE=>by
  have:=e.el zs k (Nat.lt_of_succ_lt_succ hk) fE;unfold El at this|-;rw[jN,Nat.add_comm,<-pM,lY,cK,<-e.len z,List.drop_left,e.len z];exact this
def ado{P:aX}(U:Put enc ay es){args':D C}(ho:orW enc ay es rest args H=Z (v,Q))(rh:RH m H w)(ha:mX m args args')(hc:∀(M off cap:Nat)(zs:D α)(rest':D C),(∃r c,args=J (Z ⟨r,0,T⟩) (u zs) c::rest)->mX m rest rest'->0<u zs->u zs<=1000000->M<w.heap.size->(∀j v,(zs.flatMap enc)[j]?=Z v->w.cell? ⟨M,off+j,T⟩=Z v/\w.frozen? ⟨M,off+j,T⟩=aA)->
  Calls P g ⟨J (Z ⟨M,off,T⟩) (u zs) cap::rest'⟩ w λe w'=>e=.returned (.tuple #[])/\∃n os,w'=grow (putRow id (Sort.ahead w n) M off ((ay zs).flatMap enc).toArray) os):
 Calls P g ⟨args'⟩ w λe w'=>∃m' v',e=.returned v'/\VR m' v v'/\RH m' Q w'/\Ex m m' H Q w w':=by
 unfold orW at ho;split at ho
 .next r n c l=>
  split at ho
  .next h=>
   have⟨H1,h3,ho⟩:=Option.map_eq_some_iff.1 ho;cases ho;have⟨B,I⟩:=h.2.2.choose_spec;generalize h.2.2.choose=zs at I B h3;obtain⟨rfl,hn,_⟩:=h;obtain⟨S,c',rest',hm,hl,hr,rfl⟩:=ha.row;have⟨vs',V,g2,g3⟩:=Hl rh I hm hl;have V:=V.xR<|U.scs _;subst V;have Y:u (ay zs)=n+1:=(U.perm zs).length_eq.trans B
   have W:(ay zs).flatMap enc≠[]:=λe=>by
    have h:=U.flat<|ay zs;rw[e,Y]at h;exact absurd h<|Nat.ne_of_lt<|uX (wS n) U.pos
   have ht:=λk os=>RH.turn rh h3 (mX.oZ<|U.scs _) W hm hl k os
   have:=hc S.c (S.base+(0-S.lo)) c' zs rest' ⟨r,c,by rw[B]⟩ hr N N (ht 0 #[]).2.1 λj v hj=>by
    refine⟨?_,(ht 0 #[]).2.2 j⟩;have:=g3 j v hj
    have e:(⟨S.c,S.base+(0-S.lo),T⟩:Addr).add j=⟨S.c,S.base+(0-S.lo)+j,T⟩:=by
     unfold Addr.add;split
     .next h=>subst h;rfl
     .rfl
    rw[e]at this;exact this
   rw[B]at this;apply this.mono;rintro e w' ⟨rfl,k,os,rfl⟩;exact⟨m,_,O,.tuple _ _ .nil,(ht k os).1⟩
  .cases ho
 .cases ho
def SB.put(U:Put enc ay es){H':D C->Prop}(hQ:∀l,H' l->∃x,l=enc x)(hn:n<1000000)(hB:SB H' r ty es (n+1) H0 H L):
 ∃Q,orW enc ay es rest (J (Z ⟨r,0,T⟩) (n+1) c::rest) H=Z (.tuple ⟨[]⟩,Q)/\SB H' r ty es (n+1) H0 Q L:=by
 have⟨F,I,B,G⟩:=hB
 have Y:∀k,k<=n+1->∃S:D α,u S=k/\F.take (k*es)=S.flatMap enc:=by
  intro k
  induction k with
  |zero=>exactλ_=>⟨[],rfl,by rw[jq];rfl⟩
  |succ k ih=>
   intro hk;have⟨S,g1,g2⟩:=ih N;have⟨x,M⟩:=hQ _<|B k N;refine⟨S++[x],by simp[g1],?_⟩;rw[jN,List.take_add,g2,List.flatMap_append,lY,List.flatMap_nil,bF,<-M];rfl
 have⟨zs0,g1,g2⟩:=Y (n+1)<|ax _
 have hr:H.read r 0 ((n+1)*es)=Z (zs0.flatMap enc):=by
  rw[(G.get 0 O).read N,jQ,g2]
 have M:∃S:D α,u S=n+1/\H.read r 0 ((n+1)*es)=Z (S.flatMap enc):=⟨zs0,g1,hr⟩;have⟨z1,W⟩:=M.choose_spec
 have e0:orW enc ay es rest (J (Z ⟨r,0,T⟩) (n+1) c::rest) H=(H.write r 0<|(ay M.choose).flatMap enc).map λQ=>(.tuple ⟨[]⟩,Q):=by
  unfold orW;exact dif_pos ⟨O,hn,M⟩
 generalize M.choose=S at z1 W e0;rw[hr]at W;have W:=eO W;have hl:u ((ay S).flatMap enc)=(n+1)*es:=by rw[U.flat,(U.perm S).length_eq,z1]
 have⟨Q,e1,e2,e3⟩:=G.zV 0 (o:=0) (vs:=(ay S).flatMap enc) O N (by
  rw[all_eq,fD];intro v hv;have⟨x,_,M⟩:=sV.1 hv;exact(U.sc x v M).2)
 refine⟨Q,by rw[e0,e1];rfl,_,?_,?_,e2⟩
 .rw[o_ N];exact I
 .intro k hk;have V:k<u (ay S):=by rw[(U.perm S).length_eq,z1];exact hk
  show H'<|El (splice F 0 _) es k;have e:splice F 0 ((ay S).flatMap enc)=(ay S).flatMap enc++F.drop (0+u ((ay S).flatMap enc)):=by unfold splice;rw[kR,bX]
  rw[e,U.el _ _ V];have⟨j,hj,ej⟩:=kL.1<|(U.perm S).mem_iff.1<|bH V;have:=U.el S j hj<|F.drop<|(n+1)*es;rw[<-W,<-g2,jb]at this;rw[<-ej,<-this];exact B j N
end rows
def enI(z:Int):D C:=[.int .i64 z]
def srt(zs:D Int):D Int:=zs.mergeSort λx y=>decide<|x<=y
def alZ:Put enI srt 1:=⟨λ_=>rfl,Nat.one_pos,λx v h=>by rw[aS.1 h];exact⟨O,O⟩,λe=>List.mergeSort_perm e _⟩
def enR(x:Int×Int):D C:=[.int .i32 x.1,.int .i32 x.2]
def ltR(x y:Int×Int):Bool:=decide<|x.1<y.1
def al0:SWO ltR where
 irrefl x:=by simp[ltR]
 trans x y z I B:=by simp[ltR]at*;omega
 ntrans x y z I B:=by simp[ltR]at*;omega
def fR(l:Nat)(zs:D<|Int×Int):D (Int×Int):=(pdq ltR zs.toArray 0 (u zs) l f f).toList
def agi(l:Nat):Put enR (fR l) 2:=⟨λ_=>rfl,Nat.zero_lt_two,λx v h=>by simp[enR]at h;rcases h with rfl|rfl<;>exact⟨O,O⟩,λM=>by
 have⟨I,_,B⟩:=(pdq_sorts ltR al0 M.toArray 0 (u M) l f f (bD _) (ax _)<|.inl O).1;have e:∀d:Array<|Int×Int,d.size=u M->(d.extract 0<|u M).toList=d.toList:=λd N=>by rw[<-N,Array.extract_size]
 rw[e _ I,e _ O]at B;exact B⟩
def agj:D C->Nat
 |_::_::_::.int _ l::_=>l.toNat
 |_=>0
def orR(cv:C):D C->R->aC (C×R)
 |.slice a (n+1) c::l,H=>if agj (J a (n+1) c::l)<=64 then orW enR (fR<|agj<|J a (n+1) c::l) 2 [.int .i64 0,.int .i64 ((n+1:Nat):Int),.int .i64 (agj (J a (n+1) c::l):Nat),cv] (J a (n+1) c::l) H else T
 |_,_=>T
def SB.al1{cv:C}{l:Nat}(I:n<1000000)(hl:l<=64)(B:SB Tu r ty 2 (n+1) H0 H L):
 ∃Q,orR cv [J (Z ⟨r,0,T⟩) (n+1) c,.int .i64 0,.int .i64 ((n+1:Nat):Int),.int .i64 (l:Nat),cv] H=Z (.tuple ⟨[]⟩,Q)/\SB Tu r ty 2 (n+1) H0 Q L:=by
 have⟨Q,e,h⟩:=SB.put (agi l) (λx ⟨a,b,h⟩=>⟨(a,b),h⟩) (rest:=[.int .i64 0,.int .i64 ((n+1:Nat):Int),.int .i64 (l:Nat),cv]) (c:=c) I B;exact⟨Q,(jj hl).trans e,h⟩
def bM.orc{P:aX}{X:Xt}{K:C->R->Prop}(h:X.o g args H=Z (v,Q))(k:K v Q):bM P X g args H K:=⟨v,Q,⟨1,Ee h⟩,k⟩
end
end Go.Ae
namespace Go.Proofs.Lu
open Go.Ae Go.Ae.hx
variable{K:C->R->Prop}{h2 p:Prop}{A:(Out->Prop)->Prop}{b:Bool}
abbrev Pg:aX:=Tryz.prog
def X:Xt:=⟨λg=>b_ (aB g 239) 1<|b_ (aB g 220) 3 0,λg args H=>b_ (aB g 33) (orT args H)<|b_ (aB g 160) (orW enI srt 1 [] args H)<|b_ (aB g 249) (orR (.func (.func 242) ⟨[]⟩ ⟨[]⟩) args H) T⟩
abbrev DI:Code:=BG Pg 43
abbrev KH:Code:=BG Pg 49
abbrev Ow:Code:=BG Pg 52
abbrev zu:Code:=BG Pg 57
abbrev jf:Code:=BG Pg 70
abbrev fZ:Code:=BG Pg 72
abbrev Fv:Code:=BG Pg 73
abbrev xX:Code:=BG Pg 74
abbrev qT:Code:=BG Pg 77
abbrev Et:Code:=BG Pg 89
abbrev Ih:Code:=BG Pg 92
abbrev J':Code:=BG Pg 93
abbrev adp:Code:=BG Pg 94
abbrev yR:Code:=BG Pg 95
abbrev wO:Code:=BG Pg 102
abbrev Dg:Code:=BG Pg 103
abbrev oG:Code:=BG Pg 106
abbrev q8:Code:=BG Pg 109
abbrev Ii:Code:=BG Pg 115
abbrev nP:Code:=BG Pg 120
abbrev zG:Code:=BG Pg 123
abbrev pI:Code:=BG Pg 124
abbrev Eu:Code:=BG Pg 125
abbrev nZ:Code:=BG Pg 134
abbrev Cq:Code:=BG Pg 135
abbrev DJ:Code:=BG Pg 136
abbrev lJ:Code:=BG Pg 137
abbrev oH:Code:=BG Pg 140
abbrev Fw:Code:=BG Pg 147
abbrev Ew:Code:=BG Pg 148
abbrev nG:Code:=BG Pg 157
abbrev iK:Code:=BG Pg 165
abbrev M0:Code:=BG Pg 170
abbrev y_:Code:=BG Pg 171
abbrev Ij:Code:=BG Pg 175
abbrev QS:Code:=BG Pg 185
abbrev oI:Code:=BG Pg 186
abbrev mJ:Code:=BG Pg 194
abbrev adq:Code:=BG Pg 199
abbrev Ey:Code:=BG Pg 201
abbrev Dh:Code:=BG Pg 203
abbrev DK:Code:=BG Pg 205
abbrev Ik:Code:=BG Pg 218
abbrev yx:Code:=BG Pg 219
abbrev M_:Code:=BG Pg 222
abbrev pO:Code:=BG Pg 226
abbrev AF:Code:=BG Pg 227
abbrev Ez:Code:=BG Pg 228
abbrev rC:Code:=BG Pg 240
abbrev Dw:Code:=BG Pg 246
abbrev xY(x0 x2 x3 x4 x5 x6 x7:C)(E:Rs)(H:R):St:=cs Pg 43 (.c 0 x0<|.c 2 x2<|.c 3 x3<|.c 4 x4<|.c 5 x5<|.c 6 x6<|.c 7 x7<|.n) E H
abbrev Jp(x0 x2 x3:C)(E:Rs)(H:R):St:=cs Pg 49 (.c 0 x0<|.c 2 x2<|.c 3 x3<|.n) E H
abbrev EA(x0 x1 x2 x3 x4 x5 x6 x7 x8 S e B I O M N:C)(E:Rs)(H:R):St:=cs Pg 52 (.c 0 x0<|.c 1 x1<|.c 2 x2<|.c 3 x3<|.c 4 x4<|.c 5 x5<|.c 6 x6<|.c 7 x7<|.c 8 x8<|.c 10 S<|.c 26 e<|.c 27 B<|.c 28 I<|.c 37 O<|.c 38 M<|.c 39 N<|.n) E H
abbrev DL(x0 x1 x2 x3 x4 x5 mQ jY Y rT zX wB I yS zK M U N O S V e B W:C)(E:Rs)(H:R):St:=cs Pg 57 (.c 0 x0<|.c 1 x1<|.c 2 x2<|.c 3 x3<|.c 4 x4<|.c 5 x5<|.c 12 mQ<|.c 13 jY<|.c 15 Y<|.c 16 rT<|.c 18 zX<|.c 19 wB<|.c 20 I<|.c 21 yS<|.c 23 zK<|.c 32 M<|.c 33 U<|.c 34 N<|.c 65 O<|.c 66 S<|.c 67 V<|.c 119 e<|.c 120 B<|.c 121 W<|.n) E H
abbrev q9(x0 x2 x3 x4 x5 x6 x7 x8 x9 e:C)(E:Rs)(H:R):St:=cs Pg 70 (.c 0 x0<|.c 2 x2<|.c 3 x3<|.c 4 x4<|.c 5 x5<|.c 6 x6<|.c 7 x7<|.c 8 x8<|.c 9 x9<|.c 10 e<|.n) E H
abbrev gD(x0 x1 x2 x3 x4 x5 e:C)(E:Rs)(H:R):St:=cs Pg 72 (.c 0 x0<|.c 1 x1<|.c 2 x2<|.c 3 x3<|.c 4 x4<|.c 5 x5<|.c 153 e<|.n) E H
abbrev zw(x0 x1 x2 x3 x4 x5 x6 x7 x8 x9:C)(E:Rs)(H:R):St:=cs Pg 73 (.c 0 x0<|.c 1 x1<|.c 2 x2<|.c 3 x3<|.c 4 x4<|.c 5 x5<|.c 6 x6<|.c 7 x7<|.c 8 x8<|.c 9 x9<|.n) E H
abbrev tC(x0 x1 x2 x3 x4 x5 x6 x7 x8 x9:C)(E:Rs)(H:R):St:=cs Pg 74 (.c 0 x0<|.c 1 x1<|.c 2 x2<|.c 3 x3<|.c 4 x4<|.c 5 x5<|.c 6 x6<|.c 7 x7<|.c 8 x8<|.c 9 x9<|.n) E H
abbrev nJ(x0 x1 x2 x4 x5 x6 x7 x8 jW jh mQ jY mO rT zX wB yS N O S BU U V W Y ab e Gh Cr B I M:C)(E:Rs)(H:R):St:=cs Pg 77 (.c 0 x0<|.c 1 x1<|.c 2 x2<|.c 4 x4<|.c 5 x5<|.c 6 x6<|.c 7 x7<|.c 8 x8<|.c 10 jW<|.c 11 jh<|.c 12 mQ<|.c 13 jY<|.c 15 mO<|.c 16 rT<|.c 18 zX<|.c 19 wB<|.c 21 yS<|.c 30 N<|.c 31 O<|.c 32 S<|.c 37 BU<|.c 38 U<|.c 39 V<|.c 88 W<|.c 89 Y<|.c 90 ab<|.c 115 e<|.c 116 Gh<|.c 117 Cr<|.c 157 B<|.c 158 I<|.c 159 M<|.n) E H
abbrev DN(x0 x1 x2 x3 x4 x5 x6 e B N I M U O S:C)(E:Rs)(H:R):St:=cs Pg 89 (.c 0 x0<|.c 1 x1<|.c 2 x2<|.c 3 x3<|.c 4 x4<|.c 5 x5<|.c 6 x6<|.c 10 e<|.c 11 B<|.c 14 N<|.c 15 I<|.c 16 M<|.c 18 U<|.c 19 O<|.c 21 S<|.n) E H
abbrev Gi(x0 x1 x2 x3 x8 x9 B I N jY O M e:C)(E:Rs)(H:R):St:=cs Pg 92 (.c 0 x0<|.c 1 x1<|.c 2 x2<|.c 3 x3<|.c 8 x8<|.c 9 x9<|.c 10 B<|.c 11 I<|.c 12 N<|.c 13 jY<|.c 14 O<|.c 15 M<|.c 17 e<|.n) E H
abbrev QU(x0 x2 x3 x4 x5 x6 x7 x8 x9 e:C)(E:Rs)(H:R):St:=cs Pg 93 (.c 0 x0<|.c 2 x2<|.c 3 x3<|.c 4 x4<|.c 5 x5<|.c 6 x6<|.c 7 x7<|.c 8 x8<|.c 9 x9<|.c 10 e<|.n) E H
abbrev aag(x0 x1 x2 x3 x4 x5 x6 x7 x8 x9 M e B I:C)(E:Rs)(H:R):St:=cs Pg 94 (.c 0 x0<|.c 1 x1<|.c 2 x2<|.c 3 x3<|.c 4 x4<|.c 5 x5<|.c 6 x6<|.c 7 x7<|.c 8 x8<|.c 9 x9<|.c 11 M<|.c 34 e<|.c 35 B<|.c 36 I<|.n) E H
abbrev xF(x0 x1 x2 x3 x4 x5 x7 x9 U V jY W O Y M e N B I S:C)(E:Rs)(H:R):St:=cs Pg 95 (.c 0 x0<|.c 1 x1<|.c 2 x2<|.c 3 x3<|.c 4 x4<|.c 5 x5<|.c 7 x7<|.c 9 x9<|.c 11 U<|.c 12 V<|.c 13 jY<|.c 21 W<|.c 22 O<|.c 23 Y<|.c 33 M<|.c 34 e<|.c 35 N<|.c 74 B<|.c 75 I<|.c 76 S<|.n) E H
abbrev vS(x0 x1 x4 x5 x6 x7 x8 x9 e B I jY:C)(E:Rs)(H:R):St:=cs Pg 102 (.c 0 x0<|.c 1 x1<|.c 4 x4<|.c 5 x5<|.c 6 x6<|.c 7 x7<|.c 8 x8<|.c 9 x9<|.c 10 e<|.c 11 B<|.c 12 I<|.c 13 jY<|.n) E H
abbrev Cs(x0 x1 x4 x5 x6 x7 x8 x9 e B:C)(E:Rs)(H:R):St:=cs Pg 103 (.c 0 x0<|.c 1 x1<|.c 4 x4<|.c 5 x5<|.c 6 x6<|.c 7 x7<|.c 8 x8<|.c 9 x9<|.c 10 e<|.c 11 B<|.n) E H
abbrev yo(x0 x1 x2 x4:C)(E:Rs)(H:R):St:=cs Pg 105 (.c 0 x0<|.c 1 x1<|.c 2 x2<|.c 4 x4<|.n) E H
abbrev rD(x0 x1 x2 x4 x5 x6 x7 x8:C)(E:Rs)(H:R):St:=cs Pg 106 (.c 0 x0<|.c 1 x1<|.c 2 x2<|.c 4 x4<|.c 5 x5<|.c 6 x6<|.c 7 x7<|.c 8 x8<|.n) E H
abbrev xZ(x0 x1 x2 x3 x4 x6 x7 x8 x9 I M O jY U N S B V e:C)(E:Rs)(H:R):St:=cs Pg 109 (.c 0 x0<|.c 1 x1<|.c 2 x2<|.c 3 x3<|.c 4 x4<|.c 6 x6<|.c 7 x7<|.c 8 x8<|.c 9 x9<|.c 10 I<|.c 11 M<|.c 12 O<|.c 13 jY<|.c 14 U<|.c 15 N<|.c 16 S<|.c 17 B<|.c 18 V<|.c 25 e<|.n) E H
abbrev Gj(x0 x1 x3 x4:C)(E:Rs)(H:R):St:=cs Pg 115 (.c 0 x0<|.c 1 x1<|.c 3 x3<|.c 4 x4<|.n) E H
abbrev qi(x0 x2 x3 x4 x5 x6 x7:C)(E:Rs)(H:R):St:=cs Pg 120 (.c 0 x0<|.c 2 x2<|.c 3 x3<|.c 4 x4<|.c 5 x5<|.c 6 x6<|.c 7 x7<|.n) E H
abbrev qF(x0 x1 x2 x3 x4 x5 x6 x7 x8 x9 O U jY V S Y W e M N B I:C)(E:Rs)(H:R):St:=cs Pg 123 (.c 0 x0<|.c 1 x1<|.c 2 x2<|.c 3 x3<|.c 4 x4<|.c 5 x5<|.c 6 x6<|.c 7 x7<|.c 8 x8<|.c 9 x9<|.c 11 O<|.c 12 U<|.c 13 jY<|.c 14 V<|.c 15 S<|.c 18 Y<|.c 19 W<|.c 20 e<|.c 59 M<|.c 60 N<|.c 61 B<|.c 67 I<|.n) E H
abbrev um(x0 x1 x2 x4 x5 x6 x7 x8 x9 S U jY V e B I O N M:C)(E:Rs)(H:R):St:=cs Pg 124 (.c 0 x0<|.c 1 x1<|.c 2 x2<|.c 4 x4<|.c 5 x5<|.c 6 x6<|.c 7 x7<|.c 8 x8<|.c 9 x9<|.c 10 S<|.c 11 U<|.c 13 jY<|.c 23 V<|.c 24 e<|.c 25 B<|.c 31 I<|.c 49 O<|.c 50 N<|.c 51 M<|.n) E H
abbrev QV(x0 x1 x2 x3 x4 x5 x8 x9 M N S V O U e B I:C)(E:Rs)(H:R):St:=cs Pg 125 (.c 0 x0<|.c 1 x1<|.c 2 x2<|.c 3 x3<|.c 4 x4<|.c 5 x5<|.c 8 x8<|.c 9 x9<|.c 10 M<|.c 11 N<|.c 12 S<|.c 14 V<|.c 15 O<|.c 16 U<|.c 29 e<|.c 30 B<|.c 31 I<|.n) E H
abbrev sO(x0 x2 x3 x4 x5 x9:C)(E:Rs)(H:R):St:=cs Pg 134 (.c 0 x0<|.c 2 x2<|.c 3 x3<|.c 4 x4<|.c 5 x5<|.c 9 x9<|.n) E H
abbrev BQ(x0 x2:C)(E:Rs)(H:R):St:=cs Pg 135 (.c 0 x0<|.c 2 x2<|.n) E H
abbrev Di(x0 x2 x3 x4 x5 x6 x7 x8 x9 e B I jY M:C)(E:Rs)(H:R):St:=cs Pg 136 (.c 0 x0<|.c 2 x2<|.c 3 x3<|.c 4 x4<|.c 5 x5<|.c 6 x6<|.c 7 x7<|.c 8 x8<|.c 9 x9<|.c 10 e<|.c 11 B<|.c 12 I<|.c 13 jY<|.c 14 M<|.n) E H
abbrev kZ(x0 x1 x2 x4 x5 x6 x7 x8 x9:C)(E:Rs)(H:R):St:=cs Pg 137 (.c 0 x0<|.c 1 x1<|.c 2 x2<|.c 4 x4<|.c 5 x5<|.c 6 x6<|.c 7 x7<|.c 8 x8<|.c 9 x9<|.n) E H
abbrev uq(x0 x1 x4 x5:C)(E:Rs)(H:R):St:=cs Pg 140 (.c 0 x0<|.c 1 x1<|.c 4 x4<|.c 5 x5<|.n) E H
abbrev EB(x0 x1 x4 x5 e:C)(E:Rs)(H:R):St:=cs Pg 147 (.c 0 x0<|.c 1 x1<|.c 4 x4<|.c 5 x5<|.c 40 e<|.n) E H
abbrev Dj(x0 x1 x2 x3 x4 x5 x6 x7 x8 x9 W Y mQ e B I U S V M N O:C)(E:Rs)(H:R):St:=cs Pg 148 (.c 0 x0<|.c 1 x1<|.c 2 x2<|.c 3 x3<|.c 4 x4<|.c 5 x5<|.c 6 x6<|.c 7 x7<|.c 8 x8<|.c 9 x9<|.c 10 W<|.c 11 Y<|.c 12 mQ<|.c 30 e<|.c 31 B<|.c 32 I<|.c 50 U<|.c 51 S<|.c 52 V<|.c 88 M<|.c 89 N<|.c 90 O<|.n) E H
abbrev mE(x0 x2 x3 x4 x5 x6 x7 x8 x9 I M O jY U N S e B:C)(E:Rs)(H:R):St:=cs Pg 157 (.c 0 x0<|.c 2 x2<|.c 3 x3<|.c 4 x4<|.c 5 x5<|.c 6 x6<|.c 7 x7<|.c 8 x8<|.c 9 x9<|.c 10 I<|.c 11 M<|.c 12 O<|.c 13 jY<|.c 14 U<|.c 15 N<|.c 16 S<|.c 32 e<|.c 33 B<|.n) E H
abbrev mK(x0 x1 x2 x4 x5 x6 x7 x8 x9 e B I:C)(E:Rs)(H:R):St:=cs Pg 165 (.c 0 x0<|.c 1 x1<|.c 2 x2<|.c 4 x4<|.c 5 x5<|.c 6 x6<|.c 7 x7<|.c 8 x8<|.c 9 x9<|.c 10 e<|.c 11 B<|.c 19 I<|.n) E H
abbrev Ka(x0 x1 x4 x5 x6 x7:C)(E:Rs)(H:R):St:=cs Pg 170 (.c 0 x0<|.c 1 x1<|.c 4 x4<|.c 5 x5<|.c 6 x6<|.c 7 x7<|.n) E H
abbrev AJ(x0 x1 x4 x5 x6 x7 x8 x9 e B:C)(E:Rs)(H:R):St:=cs Pg 171 (.c 0 x0<|.c 1 x1<|.c 4 x4<|.c 5 x5<|.c 6 x6<|.c 7 x7<|.c 8 x8<|.c 9 x9<|.c 10 e<|.c 11 B<|.n) E H
abbrev EC(x0 x1 x2 x3 x4 x5 x7 jY B e:C)(E:Rs)(H:R):St:=cs Pg 177 (.c 0 x0<|.c 1 x1<|.c 2 x2<|.c 3 x3<|.c 4 x4<|.c 5 x5<|.c 7 x7<|.c 13 jY<|.c 14 B<|.c 15 e<|.n) E H
abbrev Dx(x0 x1 x2 x4 x5 x6 x7 x9 N O M e B I:C)(E:Rs)(H:R):St:=cs Pg 180 (.c 0 x0<|.c 1 x1<|.c 2 x2<|.c 4 x4<|.c 5 x5<|.c 6 x6<|.c 7 x7<|.c 9 x9<|.c 15 N<|.c 16 O<|.c 17 M<|.c 28 e<|.c 29 B<|.c 30 I<|.n) E H
abbrev Oz(x0 x1 x2 x3 x4 x5 x7 x8 x9 e B:C)(E:Rs)(H:R):St:=cs Pg 185 (.c 0 x0<|.c 1 x1<|.c 2 x2<|.c 3 x3<|.c 4 x4<|.c 5 x5<|.c 7 x7<|.c 8 x8<|.c 9 x9<|.c 10 e<|.c 11 B<|.n) E H
abbrev wP(x0 x1 x2 x3 x4 x5 x6 x7 x8 x9 mQ jY mO rT V wB e yS W zK B I M Y U N R7 O S:C)(E:Rs)(H:R):St:=cs Pg 186 (.c 0 x0<|.c 1 x1<|.c 2 x2<|.c 3 x3<|.c 4 x4<|.c 5 x5<|.c 6 x6<|.c 7 x7<|.c 8 x8<|.c 9 x9<|.c 12 mQ<|.c 13 jY<|.c 15 mO<|.c 16 rT<|.c 17 V<|.c 19 wB<|.c 20 e<|.c 21 yS<|.c 22 W<|.c 23 zK<|.c 24 B<|.c 25 I<|.c 32 M<|.c 36 Y<|.c 37 U<|.c 38 N<|.c 64 R7<|.c 65 O<|.c 66 S<|.n) E H
abbrev yz(x0 x1 x4 x5:C)(E:Rs)(H:R):St:=cs Pg 193 (.c 0 x0<|.c 1 x1<|.c 4 x4<|.c 5 x5<|.n) E H
abbrev pP(x0 x1 x4 x5 x6 x7:C)(E:Rs)(H:R):St:=cs Pg 194 (.c 0 x0<|.c 1 x1<|.c 4 x4<|.c 5 x5<|.c 6 x6<|.c 7 x7<|.n) E H
abbrev aah(x0 x1 x4 x5 x6:C)(E:Rs)(H:R):St:=cs Pg 199 (.c 0 x0<|.c 1 x1<|.c 4 x4<|.c 5 x5<|.c 6 x6<|.n) E H
abbrev KJ(x0 x2 x3 x4 x8:C)(E:Rs)(H:R):St:=cs Pg 201 (.c 0 x0<|.c 2 x2<|.c 3 x3<|.c 4 x4<|.c 8 x8<|.n) E H
abbrev FT(x0 x2 x3 x4 x5 x6 x7 x8 x9 e:C)(E:Rs)(H:R):St:=cs Pg 203 (.c 0 x0<|.c 2 x2<|.c 3 x3<|.c 4 x4<|.c 5 x5<|.c 6 x6<|.c 7 x7<|.c 8 x8<|.c 9 x9<|.c 10 e<|.n) E H
abbrev Dk(x0 x1 x4 x5 x6 x7 x8 e:C)(E:Rs)(H:R):St:=cs Pg 205 (.c 0 x0<|.c 1 x1<|.c 4 x4<|.c 5 x5<|.c 6 x6<|.c 7 x7<|.c 8 x8<|.c 22 e<|.n) E H
abbrev FU(x0 x1 x2 x3 x6 x7 x8 x9 e B:C)(E:Rs)(H:R):St:=cs Pg 207 (.c 0 x0<|.c 1 x1<|.c 2 x2<|.c 3 x3<|.c 6 x6<|.c 7 x7<|.c 8 x8<|.c 9 x9<|.c 10 e<|.c 11 B<|.n) E H
abbrev Gm(x0 x2:C)(E:Rs)(H:R):St:=cs Pg 218 (.c 0 x0<|.c 2 x2<|.n) E H
abbrev x_(x0 x1 x4 x5:C)(E:Rs)(H:R):St:=cs Pg 219 (.c 0 x0<|.c 1 x1<|.c 4 x4<|.c 5 x5<|.n) E H
abbrev KL(x0 x2 x3 x4 x5 x6 x7 x8 e:C)(E:Rs)(H:R):St:=cs Pg 222 (.c 0 x0<|.c 2 x2<|.c 3 x3<|.c 4 x4<|.c 5 x5<|.c 6 x6<|.c 7 x7<|.c 8 x8<|.c 10 e<|.n) E H
abbrev xw(x0 x2 x3 x5 x6 x8 x9 M N B I e:C)(E:Rs)(H:R):St:=cs Pg 226 (.c 0 x0<|.c 2 x2<|.c 3 x3<|.c 5 x5<|.c 6 x6<|.c 8 x8<|.c 9 x9<|.c 10 M<|.c 11 N<|.c 35 B<|.c 36 I<|.c 37 e<|.n) E H
abbrev Fy(x0 x1 x4 x5 x6 x7 x8 x9 e:C)(E:Rs)(H:R):St:=cs Pg 227 (.c 0 x0<|.c 1 x1<|.c 4 x4<|.c 5 x5<|.c 6 x6<|.c 7 x7<|.c 8 x8<|.c 9 x9<|.c 16 e<|.n) E H
abbrev Il(x0 x1 x4 x5:C)(E:Rs)(H:R):St:=cs Pg 228 (.c 0 x0<|.c 1 x1<|.c 4 x4<|.c 5 x5<|.n) E H
abbrev qU(x0 x1 x4 x5:C)(E:Rs)(H:R):St:=cs Pg 240 (.c 0 x0<|.c 1 x1<|.c 4 x4<|.c 5 x5<|.n) E H
abbrev Jr(x0 x2 x3 x4 x6 x8 x9 e:C)(E:Rs)(H:R):St:=cs Pg 246 (.c 0 x0<|.c 2 x2<|.c 3 x3<|.c 4 x4<|.c 6 x6<|.c 8 x8<|.c 9 x9<|.c 10 e<|.n) E H
abbrev AL(x0 x1 x2 x4 x5 x6 x7 x8 jW jh mQ jY mO N O S BU U V W Y ab:C)(h1:Nat->C->C->C->C->C->C->C->C->C->C->R->Prop)(m:Nat)(s:St):Prop:=∃(rT zX wB yS e Gh Cr B I M:C)(E:Rs)(H:R),s=nJ x0 x1 x2 x4 x5 x6 x7 x8 jW jh mQ jY mO rT zX wB yS N O S BU U V W Y ab e Gh Cr B I M E H/\h1 m rT zX wB yS e Gh Cr B I M H
abbrev xy(x0 x1 x2 x4 x5 x6 x7 x8 jW jh mQ jY mO rT wB yS N O S BU U V W Y ab e Gh B I M:C)(h1:Nat->C->C->R->Prop)(m:Nat)(s:St):Prop:=∃(zX Cr:C)(E:Rs)(H:R),s=nJ x0 x1 x2 x4 x5 x6 x7 x8 jW jh mQ jY mO rT zX wB yS N O S BU U V W Y ab e Gh Cr B I M E H/\h1 m zX Cr H
abbrev zx(x0 x1 x2 x4 x5 x7 Y jY yS V zK U e B I W:C)(h1:Nat->C->C->C->C->R->Prop)(m:Nat)(s:St):Prop:=∃(O S N M:C)(E:Rs)(H:R),s=xF x0 x1 x2 O x4 x5 x7 S N Y jY yS V zK U e M B I W E H/\h1 m O S N M H
abbrev yA(x0 x1 x2 x4 x5 x7 x9 Y yS W zK U e V B I:C)(h1:Nat->C->C->C->C->R->Prop)(m:Nat)(s:St):Prop:=∃(S O N M:C)(E:Rs)(H:R),s=xF x0 x1 x2 S x4 x5 x7 x9 Y O N yS W zK U e V B I M E H/\h1 m S O N M H
abbrev Bc(x0 x1 x2 x3 x4 x5 x6 x7 x8 x9 V W zX Y e S U:C)(h1:Nat->C->C->C->C->C->R->Prop)(m:Nat)(s:St):Prop:=∃(M O N B I:C)(E:Rs)(H:R),s=qF x0 x1 x2 x3 x4 x5 x6 x7 x8 x9 V W M O N zX Y e S U B I E H/\h1 m M O N B I H
abbrev zL(x0 x1 x2 x4 x5 x6 x7 zK I:C)(h1:Nat->C->C->C->C->C->C->C->C->C->C->R->Prop)(m:Nat)(s:St):Prop:=∃(W Y S V U e B O N M:C)(E:Rs)(H:R),s=um x0 x1 x2 x4 x5 x6 x7 W Y S V U zK I e B O N M E H/\h1 m W Y S V U e B O N M H
abbrev yT(x0 x1 x2 x4 x5 x6 x7 x8 x9 W e B I V U:C)(h1:Nat->C->C->C->C->R->Prop)(m:Nat)(s:St):Prop:=∃(N S O M:C)(E:Rs)(H:R),s=um x0 x1 x2 x4 x5 x6 x7 x8 x9 N S O W e B I V U M E H/\h1 m N S O M H
abbrev zY(x0 x2 x3 x4 x5 x6 x7 x8 x9 U V e:C)(h1:Nat->C->C->C->C->C->C->R->Prop)(m:Nat)(s:St):Prop:=∃(N I S M O B:C)(E:Rs)(H:R),s=mE x0 x2 x3 x4 x5 x6 x7 x8 x9 U V N I S M O e B E H/\h1 m N I S M O B H
abbrev pQ(x0 x2 x3 x4 x5 x6 x7 x8 x9 S U V e O:C)(h1:Nat->C->C->C->C->R->Prop)(m:Nat)(s:St):Prop:=∃(B N I M:C)(E:Rs)(H:R),s=mE x0 x2 x3 x4 x5 x6 x7 x8 x9 S U V B N I M e O E H/\h1 m B N I M H
abbrev n_(x0 x2 x3 x4 x5 x6 x7 x8 x9 M N O jY U S e I:C)(h1:Nat->C->R->Prop)(m:Nat)(s:St):Prop:=∃(B:C)(E:Rs)(H:R),s=mE x0 x2 x3 x4 x5 x6 x7 x8 x9 M N O jY U B S e I E H/\h1 m B H
abbrev zy(x0 x1 x4 x5 x6:C)(h1:Nat->C->C->C->C->C->R->Prop)(m:Nat)(s:St):Prop:=∃(I M N e B:C)(E:Rs)(H:R),s=AJ x0 x1 x4 x5 x6 I M N e B E H/\h1 m I M N e B H
abbrev EF(x0 x1 x2 x3 jY N:C)(h1:Nat->C->C->C->C->R->Prop)(m:Nat)(s:St):Prop:=∃(B I M e:C)(E:Rs)(H:R),s=EC x0 x1 x2 x3 B I M jY N e E H/\h1 m B I M e H
abbrev DR(x0 x1 x2 x4 x5 U V:C)(h1:Nat->C->C->C->C->C->C->C->R->Prop)(m:Nat)(s:St):Prop:=∃(N O S M e B I:C)(E:Rs)(H:R),s=Dx x0 x1 x2 x4 x5 N O S U V M e B I E H/\h1 m N O S M e B I H
abbrev Fz(x0 x1 x2 x3 x6:C)(h1:Nat->C->C->C->C->C->R->Prop)(m:Nat)(s:St):Prop:=∃(I M N e B:C)(E:Rs)(H:R),s=FU x0 x1 x2 x3 x6 I M N e B E H/\h1 m I M N e B H
abbrev Dy(e:Nat)(B:D C):Prop:=∀(H:R),D4 Pg e H=jM e B H
abbrev Na(e:D Nat)(B:Nat)(I:Nat):Prop:=∀(x y:C)(H:R),EW Pg e [x,y] H=Ch B I x y H
abbrev KN(B:Nat)(e:Nat)(I:Nat)(M:D C)(N:Nat):Prop:=∀(ps:Rs)(H:R),vv Pg B e ps H=bS I M N e ps H
abbrev sh3(B:Nat)(e:Nat)(I:Nat)(M:D C):Prop:=∀(ps:Rs)(H:R),vv Pg B e ps H=bS I M e e ps H
abbrev FB(e:Nat)(B:D<|Nat×Nat)(I:D C):Prop:=∀(ps:Rs),CP Pg e ps=bld B I ps
abbrev sh5(e:Nat)(B:D C):Prop:=∀(ps:Rs),CP Pg e ps=bld List.nil B ps
abbrev vT(e:Nat)(B:Nat):Prop:=∀(x:cz)(ρ:cz->C)(H Q:R),IW Pg (.load e x) ρ H Q=clL B (ρ x) H Q
abbrev sh7(e:D Nat)(B:Nat):Prop:=∀(x y:C)(H:R),OV Pg e [x,y] H=cpA B x y H
abbrev sh8(e:D Nat)(B:D C):Prop:=∀(x:C)(H:R),I7 Pg e [x] H=clA B x H
abbrev sh9(e:Nat)(B:Nat)(I:f_):Prop:=∀(x:C)(H:R)(Kp:C->Prop)(Km:C->R->Prop),CV (DY Pg e B x) (wo Pg e B x H) Kp Km=PU (cvI I x) Kp
abbrev anZ(e:Nat)(B:Nat):Prop:=∀(x:C)(H:R)(Kp:C->Prop)(Km:C->R->Prop),CV (DY Pg e B x) (wo Pg e B x H) Kp Km=PU (cvT x) Kp
abbrev jv(B:Nat)(e:Nat):Prop:=∀(x:C),ug Pg B x e=fld e x
abbrev OA(e:Nat)(B:Nat)(I:Nat):Prop:=∀(x:C),ug Pg e x B=fld I x
abbrev ajm(B:Nat)(e:Nat)(I:aC Nat):Prop:=∀(x:C),D3 Pg B x e=ajb I e x
abbrev zz(e:Nat)(B:Nat):Prop:=∀(x y:C),uf Pg e x y=BS B x y
abbrev al2(e:Nat)(B:Nat)(I:Nat):Prop:=∀(x y:C),uf Pg e x y=idR B I x y
abbrev an0(e:Nat):Prop:=∀(x y:C),DZ Pg e x y=idS x y
abbrev mP(e:Nat)(B:aC Nat):Prop:=∀(x:C)(H:R),xP Pg e x H=yh B x H
abbrev zZ(e:D Nat):Prop:=∀(ρ:cz->C)(x:cz)(H:R)(Kp:C->Prop)(Km:C->R->Prop),CV (one (LQ Pg) (Array.toList<|jm e)<|mp ρ<|Array.toList<|jm [x]) (LX Pg (Array.toList<|jm e) (mp ρ<|Array.toList<|jm [x]) H) Kp Km=PU (ak1<|ρ x) Kp
abbrev an1(e:D Nat):Prop:=∀(ρ:cz->C)(x:cz)(H:R)(Kp:C->Prop)(Km:C->R->Prop),CV (one (LQ Pg) (Array.toList<|jm e)<|mp ρ<|Array.toList<|jm [x]) (LX Pg (Array.toList<|jm e) (mp ρ<|Array.toList<|jm [x]) H) Kp Km=PU (ak2<|ρ x) Kp
abbrev V2(e:Nat)(B:Nat)(I:D C):Prop:=∀(x y:C)(H:R),sK Pg e x y H=mkS B I x y H
abbrev V3(e:Nat)(B:Nat):Prop:=∀(x:C)(a b c:aC C),BI Pg e x a b c=Tc B x a b c
abbrev an2(e:Nat):Prop:=∀(x:C)(a b c:aC C),BI Pg e x a b c=slT x a b c
abbrev oO(e:Nat)(B:Nat):Prop:=∀(x v:C)(H:R),Ak Pg e x v H=GU B x v H
def TD:sh9 105 3 .i64/\sh9 105 5 .u8/\sh9 164 323 .u32/\sh9 21 323 .u32/\sh9 21 5 .u8/\anZ 21 9/\sh9 3 164 .u64/\sh9 3 5 .u8/\sh9 323 5 .u8/\sh9 5 21 .i32/\sh9 5 3 .i64/\zZ [119]/\zZ [123]/\zZ [124]/\zZ [168]/\zZ [169]/\zZ [178]/\zZ [184]/\zZ [207]/\zZ [215]/\zZ [219]/\zZ [22]/\zZ [24]/\zZ [25]/\zZ [260]/\zZ [271]/\zZ [28]/\zZ [29]/\zZ [290]/\zZ [30]/\zZ [33]/\zZ [34]/\zZ [51]/\zZ [65]/\zZ [66]/\an1 [9]:=by
 repeat' apply iZ
 all_goals((repeat intro _);kernel_rfl)
def TF:Dy 104 [Value.nilFunc]/\Dy 121 [a_ .i64 0,a_ .i64 0,a_ .i64 0]/\Dy 124 [J T 0 0]/\Dy 133 []/\Dy 161 [a_ .i64 0,a_ .i64 0]/\Dy 163 [a_ .i64 0,a_ .i64 0]/\Dy 171 [J T 0 0,J T 0 0]/\Dy 173 [a_ .i64 0,a_ .i64 0]/\Dy 180 [J T 0 0]/\Dy 186 [a_ .i64 0,a_ .i64 0,a_ .i64 0,(aJ<|dJ #[]),J T 0 0]/\Dy 194 [(aJ<|dJ #[]),aO aA,aO aA,aO aA,a_ .i64 0,a_ .i64 0,a_ .i64 0]/\Dy 200 [a_ .i64 0,J T 0 0,(aJ<|dJ #[]),J T 0 0,a_ .i64 0]/\Dy 209 [a_ .i64 0,a_ .i64 0,a_ .i64 0,a_ .i64 0]/\Dy 215 [J T 0 0]/\Dy 22 [J T 0 0]/\Dy 221 [a_ .i64 0,a_ .i64 0,a_ .i64 0,(aJ<|dJ #[]),J T 0 0]/\Dy 222 [Value.nilFunc]/\Dy 228 [a_ .i64 0,a_ .i64 0,a_ .i64 0]/\Dy 234 [(aJ<|dJ #[]),aO aA,aO aA,aO aA,a_ .i64 0,a_ .i64 0,a_ .i64 0]/\Dy 238 [a_ .i64 0,J T 0 0,(aJ<|dJ #[]),J T 0 0,a_ .i64 0]/\Dy 240 [(aJ<|dJ #[]),a_ .i64 0,a_ .i64 0,aO aA]/\Dy 27 [J T 0 0,J T 0 0,J T 0 0,J T 0 0,J T 0 0,a_ .i64 0]/\Dy 287 [Value.nilFunc]/\Dy 288 [Value.nilFunc]/\Dy 290 [J T 0 0]/\Dy 3 [a_ .i64 0]/\Dy 301 [bG T,J T 0 0]/\Dy 303 [a_ .i64 0,a_ .i64 0,a_ .i32 0,aO aA]/\Dy 32 [J T 0 0,J T 0 0,J T 0 0,a_ .i64 0,a_ .i64 0,a_ .i64 0]/\Dy 331 [a_ .i32 0,a_ .i32 0]/\Dy 34 [J T 0 0]/\Dy 353 [a_ .u8 0,a_ .u8 0]/\Dy 36 [J T 0 0,J T 0 0]/\Dy 38 [J T 0 0,J T 0 0,J T 0 0,a_ .i64 0,a_ .i64 0,a_ .i64 0,J T 0 0,J T 0 0,J T 0 0]/\Dy 68 [J T 0 0,aO aA,J T 0 0,a_ .i64 0]/\Dy 82 [J T 0 0,aO aA,J T 0 0,J T 0 0,bG T]/\Dy 86 [a_ .i64 0,a_ .i64 0]/\Dy 88 [a_ .i64 0,a_ .i64 0,a_ .i64 0]/\Na [119,119] 121 3/\Na [123,123] 161 2/\Na [124,124] 22 1/\Na [168,168] 234 7/\Na [169,169] 238 5/\Na [178,178] 240 4/\Na [184,184] 275 2/\Na [207,207] 209 4/\Na [215,215] 221 5/\Na [219,219] 331 2/\Na [22,22] 3 1/\Na [24,24] 9 1/\Na [25,25] 119 1/\Na [260,260] 228 3/\Na [271,271] 5 1/\Na [28,28] 194 7/\Na [29,29] 200 5/\Na [290,290] 292 2/\Na [30,30] 186 5/\Na [33,33] 202 4/\Na [34,34] 4 1/\Na [65,65] 86 2/\Na [66,66] 88 3/\KN 119 1 121 [a_ .i64 0,a_ .i64 0,a_ .i64 0] 3/\KN 123 1 161 [a_ .i64 0,a_ .i64 0] 2/\sh3 124 1 22 [J T 0 0]/\KN 168 1 234 [(aJ<|dJ #[]),aO aA,aO aA,aO aA,a_ .i64 0,a_ .i64 0,a_ .i64 0] 7/\KN 169 1 238 [a_ .i64 0,J T 0 0,(aJ<|dJ #[]),J T 0 0,a_ .i64 0] 5/\KN 178 0 240 [(aJ<|dJ #[]),a_ .i64 0,a_ .i64 0,aO aA] 4/\KN 178 1 240 [(aJ<|dJ #[]),a_ .i64 0,a_ .i64 0,aO aA] 4/\KN 184 1 275 [a_ .i64 0,a_ .i64 0] 2/\KN 207 1 209 [a_ .i64 0,a_ .i64 0,a_ .i64 0,a_ .i64 0] 4/\KN 215 1 221 [a_ .i64 0,a_ .i64 0,a_ .i64 0,(aJ<|dJ #[]),J T 0 0] 5/\KN 219 0 331 [a_ .i32 0,a_ .i32 0] 2/\KN 219 1 331 [a_ .i32 0,a_ .i32 0] 2/\KN 22 0 3 [a_ .i64 0] 1/\sh3 22 1 3 [a_ .i64 0]/\sh3 24 1 9 [(aJ<|dJ #[])]/\sh3 25 1 119 [J T 0 0]/\KN 260 1 228 [a_ .i64 0,a_ .i64 0,a_ .i64 0] 3/\sh3 271 1 5 [a_ .u8 0]/\KN 271 2 5 [a_ .u8 0] 1/\KN 271 3 5 [a_ .u8 0] 1/\KN 271 4 5 [a_ .u8 0] 1/\KN 28 0 194 [(aJ<|dJ #[]),aO aA,aO aA,aO aA,a_ .i64 0,a_ .i64 0,a_ .i64 0] 7/\KN 28 1 194 [(aJ<|dJ #[]),aO aA,aO aA,aO aA,a_ .i64 0,a_ .i64 0,a_ .i64 0] 7/\KN 29 0 200 [a_ .i64 0,J T 0 0,(aJ<|dJ #[]),J T 0 0,a_ .i64 0] 5/\KN 29 1 200 [a_ .i64 0,J T 0 0,(aJ<|dJ #[]),J T 0 0,a_ .i64 0] 5/\KN 290 1 292 [a_ .i64 0,a_ .i64 0] 2/\KN 30 1 186 [a_ .i64 0,a_ .i64 0,a_ .i64 0,(aJ<|dJ #[]),J T 0 0] 5/\KN 33 1 202 [(aJ<|dJ #[]),a_ .i64 0,a_ .i64 0,aO aA] 4/\sh3 34 1 4 [aO aA]/\KN 65 1 86 [a_ .i64 0,a_ .i64 0] 2/\KN 66 1 88 [a_ .i64 0,a_ .i64 0,a_ .i64 0] 3/\FB 114 [(0,6),(6,1),(7,1)] [J T 0 0,J T 0 0,J T 0 0,J T 0 0,J T 0 0,a_ .i64 0,J T 0 0,J T 0 0]/\FB 121 [(0,1),(1,1),(2,1)] [a_ .i64 0,a_ .i64 0,a_ .i64 0]/\FB 128 [(0,1),(1,1),(2,1),(3,1)] [J T 0 0,J T 0 0,gz T,gz T]/\sh5 133 []/\FB 156 [(0,4),(4,1),(5,1),(6,1)] [J T 0 0,aO aA,J T 0 0,a_ .i64 0,gz T,gz T,a_ .i64 0]/\FB 161 [(0,1),(1,1)] [a_ .i64 0,a_ .i64 0]/\FB 163 [(0,1),(1,1)] [a_ .i64 0,a_ .i64 0]/\FB 171 [(0,1),(1,1)] [J T 0 0,J T 0 0]/\FB 173 [(0,1),(1,1)] [a_ .i64 0,a_ .i64 0]/\FB 180 [(0,1)] [J T 0 0]/\FB 186 [(0,1),(1,1),(2,1),(3,1),(4,1)] [a_ .i64 0,a_ .i64 0,a_ .i64 0,(aJ<|dJ #[]),J T 0 0]/\FB 194 [(0,1),(1,1),(2,1),(3,1),(4,1),(5,1),(6,1)] [(aJ<|dJ #[]),aO aA,aO aA,aO aA,a_ .i64 0,a_ .i64 0,a_ .i64 0]/\FB 200 [(0,1),(1,1),(2,1),(3,1),(4,1)] [a_ .i64 0,J T 0 0,(aJ<|dJ #[]),J T 0 0,a_ .i64 0]/\FB 202 [(0,1),(1,1),(2,1),(3,1)] [(aJ<|dJ #[]),a_ .i64 0,a_ .i64 0,aO aA]/\FB 209 [(0,1),(1,3)] [a_ .i64 0,a_ .i64 0,a_ .i64 0,a_ .i64 0]/\FB 221 [(0,1),(1,1),(2,1),(3,1),(4,1)] [a_ .i64 0,a_ .i64 0,a_ .i64 0,(aJ<|dJ #[]),J T 0 0]/\FB 226 [(0,1),(1,1),(2,2),(4,2)] [Value.nilFunc,Value.nilFunc,J T 0 0,J T 0 0,a_ .i64 0,a_ .i64 0]/\FB 228 [(0,1),(1,1),(2,1)] [a_ .i64 0,a_ .i64 0,a_ .i64 0]/\FB 238 [(0,1),(1,1),(2,1),(3,1),(4,1)] [a_ .i64 0,J T 0 0,(aJ<|dJ #[]),J T 0 0,a_ .i64 0]/\FB 240 [(0,1),(1,1),(2,1),(3,1)] [(aJ<|dJ #[]),a_ .i64 0,a_ .i64 0,aO aA]/\FB 27 [(0,1),(1,1),(2,1),(3,1),(4,1),(5,1)] [J T 0 0,J T 0 0,J T 0 0,J T 0 0,J T 0 0,a_ .i64 0]/\FB 275 [(0,1),(1,1)] [a_ .i64 0,a_ .i64 0]/\FB 292 [(0,1),(1,1)] [a_ .i64 0,a_ .i64 0]/\FB 303 [(0,1),(1,1),(2,1),(3,1)] [a_ .i64 0,a_ .i64 0,a_ .i32 0,aO aA]/\FB 32 [(0,1),(1,1),(2,1),(3,1),(4,1),(5,1)] [J T 0 0,J T 0 0,J T 0 0,a_ .i64 0,a_ .i64 0,a_ .i64 0]/\FB 331 [(0,1),(1,1)] [a_ .i32 0,a_ .i32 0]/\FB 36 [(0,1),(1,1)] [J T 0 0,J T 0 0]/\FB 38 [(0,6),(6,1),(7,2)] [J T 0 0,J T 0 0,J T 0 0,a_ .i64 0,a_ .i64 0,a_ .i64 0,J T 0 0,J T 0 0,J T 0 0]/\FB 68 [(0,1),(1,1),(2,1),(3,1)] [J T 0 0,aO aA,J T 0 0,a_ .i64 0]/\FB 80 [(0,1),(1,1),(2,1)] [J T 0 0,J T 0 0,aO aA]/\FB 82 [(0,1),(1,1),(2,1),(3,1),(4,1)] [J T 0 0,aO aA,J T 0 0,J T 0 0,bG T]/\FB 86 [(0,1),(1,1)] [a_ .i64 0,a_ .i64 0]/\FB 88 [(0,1),(1,2)] [a_ .i64 0,a_ .i64 0,a_ .i64 0]/\FB 92 [(0,1),(1,1),(2,1),(3,1),(4,4),(8,1),(9,1),(10,1),(11,1)] [bG T,bG T,J T 0 0,a_ .i64 0,J T 0 0,aO aA,J T 0 0,a_ .i64 0,a_ .i64 0,a_ .i64 0,a_ .i64 0,aO aA]/\vT 104 1/\vT 105 1/\vT 119 1/\vT 121 3/\vT 123 1/\vT 124 1/\vT 125 1/\vT 126 1/\vT 151 1/\vT 154 1/\vT 161 2/\vT 163 2/\vT 168 1/\vT 169 1/\vT 171 2/\vT 173 2/\vT 178 1/\vT 180 1/\vT 184 1/\vT 186 5/\vT 194 7/\vT 200 5/\vT 207 1/\vT 209 4/\vT 21 1/\vT 215 1/\vT 219 1/\vT 22 1/\vT 221 5/\vT 222 1/\vT 223 1/\vT 228 3/\vT 23 1/\vT 234 7/\vT 238 5/\vT 24 1/\vT 240 4/\vT 25 1/\vT 265 1/\vT 27 6/\vT 271 1/\vT 28 1/\vT 287 1/\vT 288 1/\vT 29 1/\vT 290 1/\vT 299 1/\vT 3 1/\vT 30 1/\vT 32 6/\vT 331 2/\vT 34 1/\vT 353 2/\vT 36 2/\vT 4 1/\vT 45 1/\vT 5 1/\vT 51 1/\vT 58 1/\vT 65 1/\vT 66 1/\vT 68 4/\vT 69 1/\vT 80 3/\vT 82 5/\vT 86 2/\vT 88 3/\vT 9 1/\sh7 [271,9] 1/\sh7 [51,51] 1/\sh8 [22] [a_ .i64 0]/\jv 114 0/\OA 114 1 6/\OA 114 2 7/\jv 121 0/\jv 121 1/\jv 121 2/\jv 128 0/\jv 128 1/\jv 128 2/\jv 128 3/\jv 156 0/\OA 156 1 4/\OA 156 2 5/\OA 156 3 6/\jv 161 0/\jv 171 0/\jv 171 1/\jv 173 0/\jv 173 1/\jv 180 0/\jv 186 0/\jv 186 1/\jv 186 2/\jv 186 3/\jv 186 4/\jv 194 0/\jv 194 1/\jv 194 2/\jv 194 3/\jv 194 4/\jv 194 5/\jv 194 6/\jv 200 0/\jv 200 1/\jv 200 2/\jv 202 0/\jv 209 0/\jv 209 1/\jv 221 0/\jv 221 1/\jv 221 2/\jv 221 3/\jv 221 4/\jv 226 0/\jv 226 1/\jv 226 2/\OA 226 3 4/\jv 234 0/\jv 234 1/\jv 234 2/\jv 234 3/\jv 234 4/\jv 234 5/\jv 234 6/\jv 238 0/\jv 238 1/\jv 238 2/\jv 240 0/\jv 240 1/\jv 27 0/\jv 27 1/\jv 27 2/\jv 27 3/\jv 27 4/\jv 27 5/\jv 275 0/\jv 275 1/\jv 292 0/\jv 292 1/\jv 301 0/\jv 301 1/\jv 303 1/\jv 303 2/\jv 303 3/\jv 32 0/\jv 32 1/\jv 32 2/\jv 32 3/\jv 32 4/\jv 32 5/\jv 331 0/\jv 331 1/\jv 353 0/\jv 353 1/\jv 36 0/\jv 36 1/\jv 68 0/\jv 68 1/\jv 68 2/\jv 68 3/\jv 80 0/\jv 80 1/\jv 80 2/\jv 82 0/\jv 82 1/\jv 82 2/\jv 82 3/\jv 82 4/\jv 86 0/\jv 86 1/\jv 88 0/\jv 88 1/\jv 92 0/\jv 92 1/\jv 92 2/\jv 92 3/\jv 92 4/\OA 92 5 8/\OA 92 6 9/\OA 92 7 10/\OA 92 8 11/\ajm 221 0 T/\ajm 221 1 T/\ajm 228 0 T/\zz 119 3/\zz 123 2/\zz 124 1/\zz 168 7/\zz 169 5/\zz 178 4/\zz 184 2/\zz 206 1/\zz 207 4/\zz 215 5/\zz 218 2/\zz 219 2/\zz 22 1/\zz 24 1/\zz 25 1/\zz 260 3/\zz 271 1/\zz 28 7/\zz 29 5/\zz 290 2/\zz 30 5/\zz 33 4/\zz 34 1/\al2 351 256 1/\al2 354 16 2/\zz 51 1/\zz 65 2/\zz 66 3/\an0 9/\mP 104 T/\mP 105 T/\mP 119 T/\mP 121 (Z 3)/\mP 123 T/\mP 124 T/\mP 125 T/\mP 126 T/\mP 151 T/\mP 154 T/\mP 161 (Z 2)/\mP 163 (Z 2)/\mP 168 T/\mP 169 T/\mP 171 (Z 2)/\mP 173 (Z 2)/\mP 178 T/\mP 180 (Z 1)/\mP 184 T/\mP 186 (Z 5)/\mP 194 (Z 7)/\mP 200 (Z 5)/\mP 207 T/\mP 209 (Z 4)/\mP 21 T/\mP 215 T/\mP 219 T/\mP 22 T/\mP 221 (Z 5)/\mP 222 T/\mP 223 T/\mP 228 (Z 3)/\mP 23 T/\mP 234 (Z 7)/\mP 238 (Z 5)/\mP 24 T/\mP 240 (Z 4)/\mP 25 T/\mP 265 T/\mP 27 (Z 6)/\mP 271 T/\mP 28 T/\mP 287 T/\mP 288 T/\mP 29 T/\mP 290 T/\mP 299 T/\mP 3 T/\mP 30 T/\mP 32 (Z 6)/\mP 331 (Z 2)/\mP 34 T/\mP 353 (Z 2)/\mP 36 (Z 2)/\mP 4 T/\mP 45 T/\mP 5 T/\mP 51 T/\mP 58 T/\mP 65 T/\mP 66 T/\mP 68 (Z 4)/\mP 69 T/\mP 80 (Z 3)/\mP 82 (Z 5)/\mP 86 (Z 2)/\mP 88 (Z 3)/\mP 9 T/\V2 119 121 [a_ .i64 0,a_ .i64 0,a_ .i64 0]/\V2 124 22 [J T 0 0]/\V2 206 207 [J T 0 0]/\V2 22 3 [a_ .i64 0]/\V2 271 5 [a_ .u8 0]/\V2 34 4 [aO aA]/\V2 51 105 [a_ .u64 0]/\V3 123 2/\V3 169 5/\V3 219 2/\V3 22 1/\V3 290 2/\V3 51 1/\V3 65 2/\an2 9/\oO 104 1/\oO 105 1/\oO 119 1/\oO 121 3/\oO 123 1/\oO 124 1/\oO 133 0/\oO 161 2/\oO 163 2/\oO 168 1/\oO 169 1/\oO 171 2/\oO 173 2/\oO 180 1/\oO 184 1/\oO 186 5/\oO 194 7/\oO 200 5/\oO 207 1/\oO 209 4/\oO 21 1/\oO 215 1/\oO 22 1/\oO 221 5/\oO 222 1/\oO 228 3/\oO 234 7/\oO 238 5/\oO 24 1/\oO 240 4/\oO 25 1/\oO 27 6/\oO 271 1/\oO 28 1/\oO 287 1/\oO 288 1/\oO 29 1/\oO 290 1/\oO 299 1/\oO 3 1/\oO 303 4/\oO 32 6/\oO 331 2/\oO 34 1/\oO 353 2/\oO 36 2/\oO 38 9/\oO 4 1/\oO 51 1/\oO 65 1/\oO 66 1/\oO 68 4/\oO 69 1/\oO 82 5/\oO 86 2/\oO 88 3/\oO 9 1:=by
 repeat' apply iZ
 all_goals((repeat intro _);kernel_rfl)
def TFq:type_of%TF:=TF
def TDq:type_of%TD:=TD
section steps
variable{g:Nat}{q l:D Nat}{c:Code}{sl:Fr}{E:Rs}{H:R}{rs:D ResultVar}{args:D C}
def tl{K:Out->Prop}(h:A K)(e:sub (BG Pg g) q=c:=by conv=>lhs;whnf)(B:∀K,az Pg X (jZ Pg g) (TC Pg g) (BG Pg g) 9999 (.co c<|AB q []) [] sl E H K=A K:=by intro K;conv=>lhs;simp(config:={maxSteps:=4000000}) (disch:=decide)only[↓VU,↓VV,↓VT,↓Aw,↓ED,EE,TFq,↓TDq,↓reduceIte,dG,Nat.reduceBEq,↓xK,↓bQ,↓bX])(hk:Tw (jZ Pg g) (TC Pg g) sl=f:=by kernel_rfl):iC Pg X (sub (BG Pg g) q) (cs Pg g sl E H) K:=
 goF (n:=9999) (by rw[B];exact h) e hk
def tm{K:Out->Prop}(h:h2)(e:sub (BG Pg g) q=c:=by conv=>lhs;whnf)(B:∀K,az Pg X (jZ Pg g) (TC Pg g) (BG Pg g) 9999 (.co c<|AB q []) [] sl E H K=A K:=by intro K;conv=>lhs;simp(config:={maxSteps:=4000000}) (disch:=decide)only[↓VU,↓VV,↓VT,↓Aw,↓ED,EE,TFq,↓TDq,↓reduceIte,dG,Nat.reduceBEq,↓xK,↓bQ,↓bX])(hk:Tw (jZ Pg g) (TC Pg g) sl=f:=by kernel_rfl)(ay:h2->A K:=by intro h;(repeat(first|(simp only[PP,Nat.reduceBEq,iU G.wf])|(refine PU.b1 O ?_)|(refine PU.b2 O ?_)|(refine PU.b3 O ?_)|(refine PU.b4 O ?_)|(refine PU.b5 O ?_)|(refine PU.b6 O ?_)|(refine PU.b7 O ?_)|(refine PU.b8 O ?_)|(refine PU.b9 O ?_)|(refine G.qE ?_)|(refine G.jl ?_)|(refine G.VM ?_)|(refine G.Py ?_)|(refine iY (by simp only[eZ,fP<|Ext.refl<|hN _];rfl) ?_)));exact h):iC Pg X (sub (BG Pg g) q) (cs Pg g sl E H) K:=tl (ay h) e B hk
def tp{K:Out->Prop}(h:h2)(e:sub (BG Pg g) q=c:=by conv=>lhs;whnf)(B:∀K,az Pg X (jZ Pg g) (TC Pg g) (BG Pg g) 9999 (.co c<|AB q []) [] sl E H K=A K:=by intro K;conv=>lhs;simp(config:={maxSteps:=4000000}) (disch:=decide)only[↓VU,↓VV,↓VT,↓Aw,↓ED,EE,TFq,↓TDq,↓reduceIte,dG,Nat.reduceBEq,↓xK,↓bQ,↓bX])(hk:Tw (jZ Pg g) (TC Pg g) sl=f:=by kernel_rfl)(ay:h2->A K:=by intro h;simp only[PP,Nat.reduceBEq];exact h):iC Pg X (sub (BG Pg g) q) (cs Pg g sl E H) K:=tl (ay h) e B hk
def ce(l:D Nat)(h:iC Pg X (sub (BG Pg g) []) (cs Pg g sl [] H)<|jO Pg rs K)(hs:mkS l args=sl:=by conv=>lhs;simp only[EV,EE,TFq,↓reduceIte,dG,Nat.reduceBEq])(B:rsG Pg g=rs:=by conv=>lhs;whnf)(ho:X.o g args H=T:=by kernel_rfl)(e:okF Pg g l (len args)=f:=by kernel_rfl):bM Pg X g args H K:=ceF h hs B ho e
def rr{A:(C->R->Prop)->Prop}(h:A K)(e:∀K:C->R->Prop,Ou Pg rs sl E H (λvs=>K (uI vs) H)=A K:=by intro K;conv=>lhs;simp only[EV,EE,TFq,↓reduceIte,dG,Nat.reduceBEq])(hk:Tw (jZ Pg g) (TC Pg g) sl=f:=by kernel_rfl):jO Pg rs K (.ret<|cs Pg g sl E H):=rrF (by rw[e];exact h) hk
def rn{A:(C->R->Prop)->Prop}(h:A K)(e:∀K:C->R->Prop,Ou Pg rs sl E H (λvs=>K (uI vs) H)=A K:=by intro K;conv=>lhs;simp only[EV,EE,TFq,↓reduceIte,dG,Nat.reduceBEq])(hk:Tw (jZ Pg g) (TC Pg g) sl=f:=by kernel_rfl):jO Pg rs K (.norm<|cs Pg g sl E H):=rnF (by rw[e];exact h) hk
def tK{A ai:Prop}{d:Decidable p}(I:p->A)(B:¬p->h2)(ay:yN (Z<|decide p) A h2->ai:=by intro h;refine tp ?_;exact h):ai:=ay<|aV I B
def mG{A ai:Prop}{d:Decidable p}(B:¬p->h2)(I:p->A)(ay:yN (Z<|decide p) A h2->ai:=by intro h;refine tp ?_;exact h):ai:=ay<|aV I B
def al3{A ai:Prop}{d:Decidable p}(I:¬p->A)(B:p->h2)(ay:yN (Z<|!decide p) A h2->ai:=by intro h;refine tp ?_;exact h):ai:=ay<|eU I B
def an3{A ai:Prop}(I:b=f->A)(B:b=aA->h2)(ay:yN (Z b) A h2->ai:=by intro h;refine tp ?_;exact h):ai:=ay<|ig I B
def aai{A ai:Prop}{d:Decidable p}(I:p->A)(B:¬p->h2)(ay:yN (Z<|decide p) A h2->ai:=by intro h;refine tm ?_;exact h):ai:=ay<|aV I B
def agk{A ai:Prop}{d:Decidable p}(B:¬p->h2)(I:p->A)(ay:yN (Z<|decide p) A h2->ai:=by intro h;refine tm ?_;exact h):ai:=ay<|aV I B
def al4{A ai:Prop}{d:Decidable p}(I:¬p->A)(B:p->h2)(ay:yN (Z<|!decide p) A h2->ai:=by intro h;refine tm ?_;exact h):ai:=ay<|eU I B
def al5{A ai:Prop}(I:b=f->A)(B:b=aA->h2)(ay:yN (Z b) A h2->ai:=by intro h;refine tm ?_;exact h):ai:=ay<|ig I B
def lF(l:D Nat)(h:h2)(hs:mkS l args=sl:=by conv=>lhs;simp only[EV,EE,TFq,↓reduceIte,dG,Nat.reduceBEq])(B:rsG Pg g=rs:=by conv=>lhs;whnf)(ho:X.o g args H=T:=by kernel_rfl)(e:okF Pg g l (len args)=f:=by kernel_rfl)(ay:h2->iC Pg X (sub (BG Pg g) []) (cs Pg g sl [] H) (jO Pg rs K):=by intro h;refine tl ?_;exact h):bM Pg X g args H K:=ceF (ay h) hs B ho e
def GV(l:D Nat)(h:h2)(hs:mkS l args=sl:=by conv=>lhs;simp only[EV,EE,TFq,↓reduceIte,dG,Nat.reduceBEq])(B:rsG Pg g=rs:=by conv=>lhs;whnf)(ho:X.o g args H=T:=by kernel_rfl)(e:okF Pg g l (len args)=f:=by kernel_rfl)(ay:h2->iC Pg X (sub (BG Pg g) []) (cs Pg g sl [] H) (jO Pg rs K):=by intro h;refine tp ?_;exact h):bM Pg X g args H K:=ceF (ay h) hs B ho e
def cem(l:D Nat)(h:h2)(hs:mkS l args=sl:=by conv=>lhs;simp only[EV,EE,TFq,↓reduceIte,dG,Nat.reduceBEq])(B:rsG Pg g=rs:=by conv=>lhs;whnf)(ho:X.o g args H=T:=by kernel_rfl)(e:okF Pg g l (len args)=f:=by kernel_rfl)(ay:h2->iC Pg X (sub (BG Pg g) []) (cs Pg g sl [] H) (jO Pg rs K):=by intro h;refine tm ?_;exact h):bM Pg X g args H K:=ceF (ay h) hs B ho e
end steps
end Go.Proofs.Lu
