/-
  Part 04 of the proof. No condition.
-/
import Derived.Test.YtpngmpbmokhmiaaGreatDoorZ03
set_option linter.unusedVariables false
set_option linter.unusedSimpArgs false
set_option maxRecDepth 100000
set_option maxHeartbeats 4000000
set_option linter.defProp false
open Option renaming some->Z,none->T,rec->aP
open Bool renaming true->F,false->aA,rec->iA
open Go renaming Value->D,TypeId->aH,Program->aX,World->cZ,Operand->cB,IntKind->gm,BinOp->tN
open Go.Value renaming int->bq,slice->u,bool->aR,string->aJ,pointer->bG,map->fK
open Nat renaming rec->kH,beq->aB,succ->dh,ble->aD,add->a_
open List renaming rec->dF,length->J,toArray->jk
open ByteArray renaming mk->dJ
open And renaming intro->iZ
noncomputable section
namespace Go.Ae.hx
variable{ps:Array (Nat×cB)}{K K' Km Km':D->R->Prop}{args ps1 ps2:Array cB}{α β:Type}{ats:Array aH}{vn c:Code}{Kp Kp':D->Prop}{p:C Nat}{i j n nl nt t:Nat}{ρ:cB->D}{o:Op}{hi lo mx r:aC cB}{b gb ok:Bool}{ty ai:aH}{H Q:R}{v w:D}{s:St}{a vs:C D}
inductive Fr where
 |n
 |c(i:Nat)(v:D)(l:Fr)
abbrev Rs:=C<|Nat×D
def tsF(l:Fr):Tr D:=@Fr.rec (λ_=>Tr D) .nil (λi v _ r=>r.set top i v) l
def S(nl nt:Nat)(sl:Fr)(E:Rs)(H:R):St:=⟨nl,nt,E,tsF sl,[],H⟩
def lk(sl:Fr)(E:Rs)(t:Nat):D:=@Fr.rec (λ_=>D) (look E t) (λi v _ r=>cr (aB i t) v r) sl
def hs(sl:Fr)(t:Nat):Bool:=@Fr.rec (λ_=>Bool) aA (λi _ _ r=>cr (aB i t) F r) sl
def up(sl:Fr)(t:Nat)(v:D):Fr:=@Fr.rec (λ_=>Fr) .n (λi w l r=>cr (aB i t) (.c i v l)<|.c i w r) sl
def Tw(nl nt:Nat)(sl:Fr):Bool:=aD (dh nl) (Nat.pow 2 nt)&&@kH (λ_=>Bool) F (λt r=>cr (hs sl t) (iR nl t) (!(iR nl t))&&r) nt&&@Fr.rec (λ_=>Bool) F (λi _ _ r=>aD (dh i) nt&&r) sl
def eq'(sl:Fr)(E:Rs)(x:cB):D:=@Operand.rec (λ_=>D) (λt=>lk sl E t) (λv=>v) (λg=>.pointer<|Z ⟨g,0,T⟩) (λcs=>.func (.func cs) #[] #[]) x
def eqO(ρ:cB->D)(x:aC cB):aC D:=@aP cB (λ_=>aC D) T (λx=>Z<|ρ x) x
def acG(ρ:cB->D)(ps:Array<|Nat×cB):Rs:=mp (λp=>(p.1,ρ p.2)) ps.toList
def agd(c:Callee):aX->(cB->D)->aC (FuncId×C D×C D):=
 @Callee.rec (λ_=>aX->(cB->D)->aC (FuncId×C D×C D))
  (λcs _ ρ=>Ou<|ρ cs) (λ_ _ _ _=>T)
  (λ_ _ _=>T) c
def ak5(P:aX)(X:Xt)(c:Call)(ρ:cB->D)(H:R)(Kp:D->Prop)(Km:D->R->Prop):Prop:=
 @aP Builtin (λ_=>Prop) (qh P X (agd c.callee P ρ) (mp ρ c.args.toList) H Km)
  (λb=>AM b c.argTypes.toList (mp ρ c.args.toList) P H Kp Km) (isBuiltin c.callee)
def opG(o:Op):aX->Xt->(cB->D)->R->(D->Prop)->(D->R->Prop)->Prop:=
 @Op.rec (λ_=>aX->Xt->(cB->D)->R->(D->Prop)->(D->R->Prop)->Prop)
  (λx P X ρ H Kp Km=>Kp<|ρ x) (λx P X ρ H Kp Km=>Kp<|ρ x) (λc a b P X ρ H Kp Km=>PU (LM (ρ c) (ρ a)<|ρ b) Kp) (λe P X ρ H Kp Km=>ME (D_ P e H) Km) (λe x P X ρ H Kp Km=>ME (LQ e (ρ x) H) Km) (λt ps P X ρ H Kp Km=>PU (CS P t<|acG ρ ps) Kp) (λt n ps P X ρ H Kp Km=>ME (vC P t n (acG ρ ps) H) Km) (λ_ _ _ _ _ _ _ _ _ _=>False) (λt x P X ρ H Kp Km=>ME (xV P t (ρ x) H) Km) (λt x v P X ρ H Kp Km=>ME (Aw P t (ρ x) (ρ v) H) Km) (λ_ _ _ _ _ _ _=>False) (λ_ _ _ _ _ _ _=>False) (λx P X ρ H Kp Km=>PU (Qj<|ρ x) Kp) (λop t x y _ P X ρ H Kp Km=>PU (mW P op t x y (ρ x)<|ρ y) Kp) (λop _ x P X ρ H Kp Km=>PU (lH<|Op.unary op<|ρ x) Kp) (λa b x P X ρ H Kp Km=>CV (D7 P a b<|ρ x) (wC P a b (ρ x) H) Kp Km) (λ_ _ _ _ _ _ _ _=>False) (λ_ _ _ _ _ _ _ _=>False) (λcs I B P X ρ H Kp Km=>Kp<|.func cs ⟨mp ρ I.toList⟩ ⟨mp ρ B.toList⟩) (λt r P X ρ H Kp Km=>ME (vD P t (eqO ρ r) H) Km) (λ_ _ _ _ _ _ _ _=>False) (λt l c P X ρ H Kp Km=>ME (sK P t (ρ l) (ρ c) H) Km) (λt x lo hi mx P X ρ H Kp Km=>PU (BQ P t (ρ x) (eqO ρ lo) (eqO ρ hi)<|eqO ρ mx) Kp) (λt x cs P X ρ H Kp Km=>PU (uy P t (ρ x) cs) Kp) (λt x cs P X ρ H Kp Km=>PU (D9 P t (ρ x) cs) Kp) (λt x i P X ρ H Kp Km=>PU (uw P t (ρ x)<|ρ i) Kp) (λt x i P X ρ H Kp Km=>PU (D8 P t (ρ x)<|ρ i) Kp) (λt x k ok P X ρ H Kp Km=>ME (uT P t (ρ x) (ρ k) ok H) Km) (λt m k v P X ρ H Kp Km=>ME (w_ P t (ρ m) (ρ k) (ρ v) H) Km) (λ_ _ _ _ _ _ _ _ _=>False) (λ_ _ _ _ _ _ _ _ _ _=>False) (λ_ _ _ _ _ _ _ _=>False) (λ_ _ _ _ _ _ _ _=>False) (λ_ _ _ _ _ _ _=>False) (λ_ _ _ _ _ _ _ _ _ _=>False) (λt i P X ρ H Kp Km=>PU (wN (ρ t) i) Kp) (λc P X ρ H Kp Km=>ak5 P X c ρ H Kp Km) (λ_ _ _ _ _ _ _=>False) (λ_ _ _ _ _ _ _=>False) (λ_ _ _ _ _ _ _=>False) (λ_ _ _ _ _ _ _ _=>False) (λ_ _ _ _ _ _ _ _ _=>False) (λ_ _ _ _ _ _ _ _=>False) o
def acH(P:aX)(o:Op)(ρ:cB->D):Cl:=
 (aN (Jc o) λp=>aN (sJ<|ρ p.2) λa=>aN (tLd P p.1) λl=>Z<|Cl.mk 4 a.block a.off (l.getD 1) hh0 hh0).getD (cl 1)
def IZ(P:aX)(o:Op)(ρ:cB->D)(H Q:R):Cl:=
 @aP (cB×cB) (λ_=>Cl) (cr (aD H.bU Q.low) (cr (Bz o) (cl 5)<|acH P o ρ) ⟨2,0,0,0,H,Q⟩)
  (λp=>@aP Addr (λ_=>Cl) ⟨2,0,0,0,H,Q⟩ (λa=>⟨3,a.block,a.off,len<|bY<|ρ p.2,hh0,hh0⟩)<|sJ<|ρ p.1) (CZ o)
inductive Kd where
 |norm
 |exit(i:Nat)
 |goto(l:Nat)
 |ret
def Kd.out(k:Kd)(s:St):Out:=@Kd.rec (λ_=>Out) (.norm s) (λi=>.exit i s) (λl=>.goto l s) (.ret s) k
def blQ(id:Nat)(k:Kd):Kd:=@Kd.rec (λ_=>Kd) .norm (λi=>cr (aB i id) .norm<|.exit i) (λl=>.goto l) .ret k
inductive Fm where
 |sq(p:C Nat)(c:Code)
 |sj(p:C Nat)
 |bk(id:Nat)
inductive Md where
 |pl
 |dr(aj:Array Oper)(acc:C Cl)
def Gg(m:Md):Md:=@Md.rec (λ_=>Md) .pl (λaj acc=>.dr aj<|cl 0::acc) m
def R5(m:Md)(c:Cl):Md:=@Md.rec (λ_=>Md) .pl (λaj acc=>.dr aj<|c::acc) m
def hX(m:Md)(H:R):R:=@Md.rec (λ_=>R) H (λ_ _=>hN H) m
def hY(m:Md)(H Q:R):R:=@Md.rec (λ_=>R) Q (λ_ _=>hM H Q) m
inductive Ct where
 |co(c:Code)(p:C Nat)
 |cd(v:aC Bool)(a b:Code)(p:C Nat)
 |ou(k:Kd)
 |op(L l:C Oper)(m:Md)(sk:C Nat)
 |gu(L l:C Oper)(m:Md)(sk:C Nat)(d:aC Nat)(o:Op)(gb:Bool)(t:aC Nat)
 |gv(L l:C Oper)(m:Md)(sk:C Nat)(d:aC Nat)(o:Op)(gb:Bool)(t:Nat)(e:Bool)(v:aC Bool)
 |ge(L l:C Oper)(m:Md)(sk:C Nat)(d:aC Nat)(o:Op)(b:Bool)
 |ex(L l:C Oper)(m:Md)(sk:C Nat)(d:aC Nat)(o:Op)
 |pk(L l:C Oper)(m:Md)(sk:C Nat)(d:aC Nat)(c:aC Bool)(a b:D)
 |af(L l:C Oper)(m:Md)(sk:C Nat)(d:aC Nat)(v:D)
 |pt(h:Bool)(t:Nat)(v:D)(nx:Ct)
def AP(p:C Nat):C Nat->C Nat:=@dF Nat (λ_=>C Nat->C Nat) (λq=>q) (λi _ e q=>e<|i::q) p
def kO(P:aX)(X:Xt)(vn:Code)(st:C Fm)(rg:Out->Prop):Out->Prop:=
 @dF Fm (λ_=>Out->Prop) rg (λcs _ r=>@Fm.rec (λ_=>Out->Prop) (λp _=>uW P X (sub vn<|AP p []) r) (λp=>uW P X (sub vn<|AP p []) r) (λid=>uB id r) cs) st
def gtN(l:C Oper)(j:Nat):aC Nat:=aN (nth l j) λo=>o.dst
def Z8(sk:C Nat)(d:aC Nat):C Nat:=@aP Nat (λ_=>C Nat) sk (λd=>d::sk) d
def az(P:aX)(X:Xt)(nl nt:Nat)(vn:Code):Nat->Ct->C Fm->Fr->Rs->R->(Out->Prop)->Prop
 |0,_,_,_,_,_,_=>False
 |n+1,.co .skip _,st,sl,E,H,rg=>az P X nl nt vn n (.ou .norm) st sl E H rg
 |n+1,.co (.region _ ops aA) _,st,sl,_,H,rg=>az P X nl nt vn n (.op ops.toList ops.toList .pl []) st sl [] H rg
 |n+1,.co (.region _ ops F) p,st,sl,_,H,rg=>(lT ops&&qM ops)=F/\az P X nl nt vn n (.op ops.toList ops.toList (.dr (opsOf<|sub vn<|AP p []) []) []) st sl [] H rg
 |n+1,.co (.seq a b) p,st,sl,E,H,rg=>az P X nl nt vn n (.co a<|0::p) (cr (H_ a b) (.sj<|1::p) (.sq (1::p) b)::st) sl E H rg
 |n+1,.co (.cond x a b) p,st,sl,E,H,rg=>az P X nl nt vn n (.cd (kV<|eq' sl E x) a b p) st sl E H rg
 |n+1,.co (.block id a) p,st,sl,E,H,rg=>az P X nl nt vn n (.co a<|0::p) (.bk id::st) sl E H rg
 |_+1,.co (.loop _) p,st,sl,E,H,rg=>iG P X (.loop<|sub vn<|AP (0::p) []) (S nl nt sl E H)<|kO P X vn st rg
 |_+1,.co (.scope _) p,st,sl,E,H,rg=>iG P X (.scope<|sub vn<|AP (0::p) []) (S nl nt sl E H)<|kO P X vn st rg
 |n+1,.co (.exit i) _,st,sl,E,H,rg=>az P X nl nt vn n (.ou<|.exit i) st sl E H rg
 |n+1,.co (.goto i) _,st,sl,E,H,rg=>az P X nl nt vn n (.ou<|.goto i) st sl E H rg
 |n+1,.co (.label _) _,st,sl,E,H,rg=>az P X nl nt vn n (.ou .norm) st sl E H rg
 |n+1,.co .ret _,st,sl,E,H,rg=>az P X nl nt vn n (.ou .ret) st sl E H rg
 |_+1,.co _ _,_,_,_,_,_=>False
 |n+1,.cd v a b p,st,sl,E,H,rg=>yU v (az P X nl nt vn n (.co a<|0::p) st sl E H rg)<|az P X nl nt vn n (.co b<|1::p) st sl E H rg
 |_+1,.ou k,[],sl,E,H,rg=>rg<|k.out<|S nl nt sl E H
 |n+1,.ou .norm,.sq p c::st,sl,E,H,rg=>az P X nl nt vn n (.co c p) st sl E H rg
 |_+1,.ou .norm,.sj p::st,sl,E,H,rg=>iG P X (sub vn<|AP p []) (S nl nt sl E H)<|kO P X vn st rg
 |n+1,.ou k,.bk id::st,sl,E,H,rg=>az P X nl nt vn n (.ou<|blQ id k) st sl E H rg
 |n+1,.ou k,_::st,sl,E,H,rg=>az P X nl nt vn n (.ou k) st sl E H rg
 |n+1,.op L [] m sk,st,sl,E,H,rg=>@Md.rec (λ_=>Prop) (az P X nl nt vn n (.ou .norm) st sl E H rg) (λaj acc=>kZ aj acc=F/\az P X nl nt vn n (.ou .norm) st sl E H rg) m
 |n+1,.op L (o::l) m sk,st,sl,E,H,rg=>@aP (Nat×Bool) (λ_=>Prop) (az P X nl nt vn n (.ex L l m sk o.dst o.op) st sl E H rg)
   (λg=>az P X nl nt vn n (.gu L l m sk o.dst o.op g.2<|gtN L g.1) st sl E H rg) o.guard
 |_+1,.gu _ _ _ _ _ _ _ T,_,_,_,_,_=>False
 |n+1,.gu L l m sk d o gb<|Z t,st,sl,E,H,rg=>az P X nl nt vn n (.gv L l m sk d o gb t (Cm sk t)<|kV<|lk sl E t) st sl E H rg
 |n+1,.gv L l m sk d o gb t e v,st,sl,E,H,rg=>@iA (λ_=>Prop)
   (yU v (az P X nl nt vn n (.pt (hs sl t) t (.bool F)<|.ge L l m (sw sk t) d o<|CK F gb) st sl E H rg)<|az P X nl nt vn n (.pt (hs sl t) t (.bool aA)<|.ge L l m (sw sk t) d o<|CK aA gb) st sl E H rg)
   (az P X nl nt vn n (.ge L l m sk d o aA) st sl E H rg) e
 |n+1,.ge L l m sk d o b,st,sl,E,H,rg=>@iA (λ_=>Prop) (az P X nl nt vn n (.af L l (Gg m) (Z8 sk d) d undef) st sl E H rg) (az P X nl nt vn n (.ex L l m sk d o) st sl E H rg) b
 |n+1,.ex L l m sk d<|.move x,st,sl,E,H,rg=>az P X nl nt vn n (.af L l (Gg m) (nM sk d) d<|eq' sl E x) st sl E H rg
 |n+1,.ex L l m sk d<|.assign x,st,sl,E,H,rg=>az P X nl nt vn n (.af L l (Gg m) (nM sk d) d<|eq' sl E x) st sl E H rg
 |n+1,.ex L l m sk d<|.makeFunc cs ps1 ps2,st,sl,E,H,rg=>az P X nl nt vn n (.af L l (Gg m) (nM sk d) d<|.func cs ⟨mp (eq' sl E) ps1.toList⟩ ⟨mp (eq' sl E) ps2.toList⟩) st sl E H rg
 |n+1,.ex L l m sk d<|.pick c a b,st,sl,E,H,rg=>az P X nl nt vn n (.pk L l (Gg m) (nM sk d) d (kV<|eq' sl E c) (eq' sl E a)<|eq' sl E b) st sl E H rg
 |n+1,.ex L l m sk d o,st,sl,E,H,rg=>opG o P X (eq' sl E) (hX m H) (λv=>az P X nl nt vn n (.af L l (Gg m) (nM sk d) d v) st sl E H rg) λv Q=>az P X nl nt vn n (.af L l (R5 m<|IZ P o (eq' sl E) H Q) (nM sk d) d v) st sl E (hY m H Q) rg
 |n+1,.pk L l m sk d c a b,st,sl,E,H,rg=>PU (aN c λt=>Z<|cr t a b) λv=>az P X nl nt vn n (.af L l m sk d v) st sl E H rg
 |n+1,.af L l m sk T v,st,sl,E,H,rg=>az P X nl nt vn n (.op L l m sk) st sl E H rg
 |n+1,.af L l m sk (Z t) v,st,sl,E,H,rg=>az P X nl nt vn n (.pt (hs sl t) t v<|.op L l m sk) st sl E H rg
 |n+1,.pt F t v nx,st,sl,E,H,rg=>az P X nl nt vn n nx st (up sl t v) E H rg
 |n+1,.pt aA t v nx,st,sl,E,H,rg=>az P X nl nt vn n nx st sl ((t,v)::E) H rg
variable{st:C Fm}{E:Rs}
section eqs
variable{P:aX}{X:Xt}{a b:Code}{q sk:C Nat}{sl:Fr}{rg:Out->Prop}{L l:C Oper}{m:Md}{d:aC Nat}{ai:Nat}{x y z:cB}{k:Kd}{aj:Array Oper}{acc:C Cl}{f:Cl}{pos:String}{acI:Array Edge}{nx:Ct}
def nr{α:Sort _}{a b:α}(h:a=b):a=b:=h
def ak6{α:Type}{x y:α}:cr F x y=x:=nr O
def ak7{α:Type}{x y:α}:cr aA x y=y:=nr O
def nb:aB i j=(i==j):=nr (by
 by_cases h:i=j
 .subst h;rw[show aB i i=F from dW i];simp
 .rw[show(i==j)=aA by simp[h]];rw[<-dn];intro e;exact h<|bA e)
def ct{b:Bool}{x y:α}:cr b x y=if b=F then x else y:=by cases b<;>rfl
def cb{x y:α}:cr (aB j i) x y=if(j==i)=F then x else y:=by rw[ct,nb]
def ak8:lk .n E i=Co E i:=nr O
def ak9:lk (.c j v sl) E i=if(j==i)=F then v else lk sl E i:=cb
def ala:Co [] i=top:=nr O
def alb:Co ((j,v)::E) i=if(j==i)=F then v else Co E i:=cb
def alc:hs .n i=aA:=nr O
def ald:hs (.c j v sl) i=if(j==i)=F then F else hs sl i:=cb
def Jt:up .n i v=.n:=nr O
def Ju:up (.c j w sl) i v=if(j==i)=F then .c j v sl else .c j w (up sl i v):=cb
def ahw:eq' sl E (.tmp i)=lk sl E i:=nr O
def Yd:eq' sl E (.const v)=v:=by cases v<;>rfl
def Tx:eq' sl E (.global i)=.pointer (Z ⟨i,0,T⟩):=nr O
def acJ:eq' sl E (.func i)=.func (.func i) #[] #[]:=nr O
def acK:eqO ρ T=T:=nr O
def acL:eqO ρ (Z x)=Z (ρ x):=nr O
def ale:kV (.bool F)=Z F:=nr O
def alf:kV (.bool aA)=Z aA:=nr O
def acM{α β:Type}{cs:α->β}:mp cs []=[]:=nr O
def Ye{α β:Type}{cs:α->β}{x:α}{l:C α}:mp cs (x::l)=cs x::mp cs l:=nr O
def ahx{ps:Array (Nat×cB)}:acG ρ ps=mp (λp=>(p.1,ρ p.2)) ps.toList:=nr O
def acN(l:C α):app l []=l:=by rw[uq,bF]
def alg:blQ i .norm=.norm:=nr O
def alh:blQ i (.exit j)=if(j==i)=F then .norm else .exit j:=cb
def ali:blQ i (.goto j)=.goto j:=nr O
def alj:blQ i .ret=.ret:=nr O
def alk:Kd.out .norm s=.norm s:=nr O
def alm:Kd.out (.exit i) s=.exit i s:=nr O
def aln:Kd.out (.goto i) s=.goto i s:=nr O
def alo:Kd.out .ret s=.ret s:=nr O
def ahy:Gg .pl=.pl:=nr O
def ahz:Gg (.dr aj acc)=.dr aj (cl 0::acc):=nr O
def ahA:R5 .pl f=.pl:=nr O
def ahB:R5 (.dr aj acc) f=.dr aj (f::acc):=nr O
def ahC:hX .pl H=H:=nr O
def ahD:hX (.dr aj acc) H=hN H:=nr O
def ahE:hY .pl H Q=Q:=nr O
def ahF:hY (.dr aj acc) H Q=hM H Q:=nr O
def alp:AP [] q=q:=nr O
def alq:AP (i::p) q=AP p (i::q):=nr O
def alr:kO P X vn [] rg=rg:=nr O
def als:kO P X vn (.sq p c::st) rg=uW P X (sub vn<|AP p []) (kO P X vn st rg):=nr O
def alu:kO P X vn (.sj p::st) rg=uW P X (sub vn<|AP p []) (kO P X vn st rg):=nr O
def alv:kO P X vn (.bk i::st) rg=uB i (kO P X vn st rg):=nr O
def alx{g:aC (Nat×Bool)}:gtN (⟨d,o,ty,pos,acI,g⟩::l) 0=d:=nr O
def aly{o:Oper}:gtN (o::l) (j+1)=gtN l j:=nr O
def ahG:Cm [] i=aA:=nr O
def acO:Cm (j::sk) i=if(j==i)=F then F else Cm sk i:=cb
def acP:Z8 sk T=sk:=nr O
def acQ:Z8 sk (Z i)=i::sk:=nr O
def ahH:sw [] i=[]:=nr O
def acR:sw (j::sk) i=if(j==i)=F then sw sk i else j::sw sk i:=cb
def acS:nM sk (Z i)=sw sk i:=nr O
def acT:nM sk T=sk:=nr O
def ahI:CK F F=F:=nr O
def ahJ:CK F aA=aA:=nr O
def ahK:CK aA F=aA:=nr O
def ahL:CK aA aA=F:=nr O
def acU:az P X nl nt vn (n+1) (.co .skip p) st sl E H rg=az P X nl nt vn n (.ou .norm) st sl E H rg:=rfl
def ahM:az P X nl nt vn (n+1) (.co (.region i (jk l) aA) p) st sl E H rg=az P X nl nt vn n (.op l l .pl []) st sl [] H rg:=rfl
def VM(h:(lT (jk l)&&qM (jk l))=F):az P X nl nt vn (n+1) (.co (.region i (jk l) F) p) st sl E H rg=az P X nl nt vn n (.op l l (.dr (opsOf<|sub vn<|AP p []) []) []) st sl [] H rg:=by
 show((lT (jk l)&&qM (jk l))=F/\az P X nl nt vn n (.op l l (.dr (opsOf<|sub vn<|AP p []) []) []) st sl [] H rg)=_;rw[h];simp
def VN(h:H_ a b=F):az P X nl nt vn (n+1) (.co (.seq a b) p) st sl E H rg=az P X nl nt vn n (.co a<|0::p) (.sj (1::p)::st) sl E H rg:=by
 show az P X nl nt vn n (.co a<|0::p) (cr (H_ a b) _ _::st) sl E H rg=_;rw[h];rfl
def VO(h:H_ a b=aA):az P X nl nt vn (n+1) (.co (.seq a b) p) st sl E H rg=az P X nl nt vn n (.co a<|0::p) (.sq (1::p) b::st) sl E H rg:=by
 show az P X nl nt vn n (.co a<|0::p) (cr (H_ a b) _ _::st) sl E H rg=_;rw[h];rfl
def acV:az P X nl nt vn (n+1) (.co (.cond x a b) p) st sl E H rg=az P X nl nt vn n (.cd (kV<|eq' sl E x) a b p) st sl E H rg:=rfl
def Yf:az P X nl nt vn (n+1) (.co (.block i a) p) st sl E H rg=az P X nl nt vn n (.co a<|0::p) (.bk i::st) sl E H rg:=rfl
def acW:az P X nl nt vn (n+1) (.co (.loop a) p) st sl E H rg=iG P X (.loop<|sub vn<|AP (0::p) []) (S nl nt sl E H) (kO P X vn st rg):=rfl
def Yg:az P X nl nt vn (n+1) (.co (.scope a) p) st sl E H rg=iG P X (.scope<|sub vn<|AP (0::p) []) (S nl nt sl E H) (kO P X vn st rg):=rfl
def acX:az P X nl nt vn (n+1) (.co (.exit i) p) st sl E H rg=az P X nl nt vn n (.ou<|.exit i) st sl E H rg:=rfl
def acY:az P X nl nt vn (n+1) (.co (.goto i) p) st sl E H rg=az P X nl nt vn n (.ou<|.goto i) st sl E H rg:=rfl
def Yh:az P X nl nt vn (n+1) (.co (.label i) p) st sl E H rg=az P X nl nt vn n (.ou .norm) st sl E H rg:=rfl
def ahN:az P X nl nt vn (n+1) (.co .ret p) st sl E H rg=az P X nl nt vn n (.ou .ret) st sl E H rg:=rfl
def ahO:az P X nl nt vn (n+1) (.cd (Z F) a b p) st sl E H rg=az P X nl nt vn n (.co a<|0::p) st sl E H rg:=rfl
def ahP:az P X nl nt vn (n+1) (.cd (Z aA) a b p) st sl E H rg=az P X nl nt vn n (.co b<|1::p) st sl E H rg:=rfl
def ahQ:az P X nl nt vn (n+1) (.cd (kV v) a b p) st sl E H rg=yU (kV v) (az P X nl nt vn n (.co a<|0::p) st sl E H rg) (az P X nl nt vn n (.co b<|1::p) st sl E H rg):=rfl
def ajj:az P X nl nt vn (n+1) (.ou k) [] sl E H rg=rg (k.out<|S nl nt sl E H):=by cases k<;>rfl
def acZ:az P X nl nt vn (n+1) (.ou .norm) (.sq p c::st) sl E H rg=az P X nl nt vn n (.co c p) st sl E H rg:=rfl
def ac0:az P X nl nt vn (n+1) (.ou .norm) (.sj p::st) sl E H rg=iG P X (sub vn<|AP p []) (S nl nt sl E H) (kO P X vn st rg):=rfl
def VP:az P X nl nt vn (n+1) (.ou k) (.bk i::st) sl E H rg=az P X nl nt vn n (.ou<|blQ i k) st sl E H rg:=by cases k<;>rfl
def ac1:az P X nl nt vn (n+1) (.ou<|.exit i) (.sq p c::st) sl E H rg=az P X nl nt vn n (.ou<|.exit i) st sl E H rg:=rfl
def ac2:az P X nl nt vn (n+1) (.ou<|.exit i) (.sj p::st) sl E H rg=az P X nl nt vn n (.ou<|.exit i) st sl E H rg:=rfl
def ac3:az P X nl nt vn (n+1) (.ou<|.goto i) (.sq p c::st) sl E H rg=az P X nl nt vn n (.ou<|.goto i) st sl E H rg:=rfl
def ac4:az P X nl nt vn (n+1) (.ou<|.goto i) (.sj p::st) sl E H rg=az P X nl nt vn n (.ou<|.goto i) st sl E H rg:=rfl
def ac5:az P X nl nt vn (n+1) (.ou .ret) (.sq p c::st) sl E H rg=az P X nl nt vn n (.ou .ret) st sl E H rg:=rfl
def ac6:az P X nl nt vn (n+1) (.ou .ret) (.sj p::st) sl E H rg=az P X nl nt vn n (.ou .ret) st sl E H rg:=rfl
def ahR:az P X nl nt vn (n+1) (.op L [] .pl sk) st sl E H rg=az P X nl nt vn n (.ou .norm) st sl E H rg:=rfl
def ahS:az P X nl nt vn (n+1) (.op L [] (.dr aj acc) sk) st sl E H rg=(kZ aj acc=F/\az P X nl nt vn n (.ou .norm) st sl E H rg):=rfl
def alz:az P X nl nt vn (n+1) (.op L (⟨d,o,ty,pos,acI,T⟩::l) m sk) st sl E H rg=az P X nl nt vn n (.ex L l m sk d o) st sl E H rg:=rfl
def ahT:az P X nl nt vn (n+1) (.op L (⟨d,o,ty,pos,acI,Z (j,gb)⟩::l) m sk) st sl E H rg=az P X nl nt vn n (.gu L l m sk d o gb<|gtN L j) st sl E H rg:=rfl
def alA:az P X nl nt vn (n+1) (.gu L l m sk d o gb<|Z t) st sl E H rg=az P X nl nt vn n (.gv L l m sk d o gb t (Cm sk t)<|kV<|lk sl E t) st sl E H rg:=rfl
def ahU{v:aC Bool}:az P X nl nt vn (n+1) (.gv L l m sk d o gb t F v) st sl E H rg=az P X nl nt vn n (.ge L l m sk d o aA) st sl E H rg:=rfl
def ahV:az P X nl nt vn (n+1) (.gv L l m sk d o gb t aA<|Z F) st sl E H rg=az P X nl nt vn n (.pt (hs sl t) t (.bool F)<|.ge L l m (sw sk t) d o<|CK F gb) st sl E H rg:=rfl
def ahW:az P X nl nt vn (n+1) (.gv L l m sk d o gb t aA<|Z aA) st sl E H rg=az P X nl nt vn n (.pt (hs sl t) t (.bool aA)<|.ge L l m (sw sk t) d o<|CK aA gb) st sl E H rg:=rfl
def ahX:az P X nl nt vn (n+1) (.gv L l m sk d o gb t aA<|kV v) st sl E H rg=yU (kV v) (az P X nl nt vn n (.pt (hs sl t) t (.bool F)<|.ge L l m (sw sk t) d o<|CK F gb) st sl E H rg) (az P X nl nt vn n (.pt (hs sl t) t (.bool aA)<|.ge L l m (sw sk t) d o<|CK aA gb) st sl E H rg):=rfl
def ahY:az P X nl nt vn (n+1) (.ge L l m sk d o F) st sl E H rg=az P X nl nt vn n (.ex L l m sk d o) st sl E H rg:=rfl
def ahZ:az P X nl nt vn (n+1) (.ge L l m sk d o aA) st sl E H rg=az P X nl nt vn n (.af L l (Gg m) (Z8 sk d) d undef) st sl E H rg:=rfl
def ac7:az P X nl nt vn (n+1) (.ex L l m sk d<|.move x) st sl E H rg=az P X nl nt vn n (.af L l (Gg m) (nM sk d) d<|eq' sl E x) st sl E H rg:=rfl
def Ty:az P X nl nt vn (n+1) (.ex L l m sk d<|.assign x) st sl E H rg=az P X nl nt vn n (.af L l (Gg m) (nM sk d) d<|eq' sl E x) st sl E H rg:=rfl
def alB{cs:Fn}{ps1 ps2:Array cB}:az P X nl nt vn (n+1) (.ex L l m sk d<|.makeFunc cs ps1 ps2) st sl E H rg=az P X nl nt vn n (.af L l (Gg m) (nM sk d) d<|.func cs ⟨mp (eq' sl E) ps1.toList⟩ ⟨mp (eq' sl E) ps2.toList⟩) st sl E H rg:=rfl
def ac8:az P X nl nt vn (n+1) (.ex L l m sk d<|.pick x y z) st sl E H rg=az P X nl nt vn n (.pk L l (Gg m) (nM sk d) d (kV<|eq' sl E x) (eq' sl E y)<|eq' sl E z) st sl E H rg:=rfl
def ah0:az P X nl nt vn (n+1) (.pk L l m sk d (Z F) v w) st sl E H rg=az P X nl nt vn n (.af L l m sk d v) st sl E H rg:=rfl
def ah1:az P X nl nt vn (n+1) (.pk L l m sk d (Z aA) v w) st sl E H rg=az P X nl nt vn n (.af L l m sk d w) st sl E H rg:=rfl
def ah2{ai:D}:az P X nl nt vn (n+1) (.pk L l m sk d (kV ai) v w) st sl E H rg=PU (LM ai v w) λv=>az P X nl nt vn n (.af L l m sk d v) st sl E H rg:=rfl
def ah3:az P X nl nt vn (n+1) (.af L l m sk T v) st sl E H rg=az P X nl nt vn n (.op L l m sk) st sl E H rg:=rfl
def ah4:az P X nl nt vn (n+1) (.af L l m sk (Z t) v) st sl E H rg=az P X nl nt vn n (.pt (hs sl t) t v<|.op L l m sk) st sl E H rg:=rfl
def ah5:az P X nl nt vn (n+1) (.pt F t v nx) st sl E H rg=az P X nl nt vn n nx st (up sl t v) E H rg:=rfl
def ah6:az P X nl nt vn (n+1) (.pt aA t v nx) st sl E H rg=az P X nl nt vn n nx st sl ((t,v)::E) H rg:=rfl
def l_call{c:Call}:IZ P (.call c) ρ H Q=Df H Q:=nr O
def Yi:IZ P (.store t x y) ρ H Q=clS (ρ x) (ρ y) H Q:=nr O
def Yj:IZ P (.alloc t) ρ H Q=N_ H Q:=nr O
def ah7:IZ P (.box t x) ρ H Q=N_ H Q:=nr O
def alC{ps:Array (Nat×cB)}:IZ P (.buildSlice t i ps) ρ H Q=N_ H Q:=nr O
def alD:IZ P (.makeSlice t x y) ρ H Q=N_ H Q:=nr O
def alE{r:aC cB}:IZ P (.makeMap t r) ρ H Q=N_ H Q:=nr O
def Tz{ok:Bool}:IZ P (.lookup t x y ok) ρ H Q=Df H Q:=nr O
def l_conv:IZ P (.convert t ai x) ρ H Q=Df H Q:=nr O
def alF:IZ P (.mapUpdate t x y z) ρ H Q=Df H Q:=nr O
def Yk:az P X nl nt vn (n+1) (.ex L l m sk d<|.alloc t) st sl E H rg=ME (D_ P t<|hX m H) (λv Q=>az P X nl nt vn n (.af L l (R5 m<|IZ P (.alloc t) (eq' sl E) H Q) (nM sk d) d v) st sl E (hY m H Q) rg):=rfl
def ah8:az P X nl nt vn (n+1) (.ex L l m sk d<|.box t x) st sl E H rg=ME (LQ t (eq' sl E x)<|hX m H) (λv Q=>az P X nl nt vn n (.af L l (R5 m<|IZ P (.box t x) (eq' sl E) H Q) (nM sk d) d v) st sl E (hY m H Q) rg):=rfl
def Yl{ps:Array (Nat×cB)}:az P X nl nt vn (n+1) (.ex L l m sk d<|.build t ps) st sl E H rg=PU (CS P t<|acG (eq' sl E) ps) (λv=>az P X nl nt vn n (.af L l (Gg m) (nM sk d) d v) st sl E H rg):=rfl
def Ij{ps:Array (Nat×cB)}:az P X nl nt vn (n+1) (.ex L l m sk d<|.buildSlice t i ps) st sl E H rg=ME (vC P t i (acG (eq' sl E) ps)<|hX m H) (λv Q=>az P X nl nt vn n (.af L l (R5 m<|IZ P (.buildSlice t i ps) (eq' sl E) H Q) (nM sk d) d v) st sl E (hY m H Q) rg):=rfl
def ac9:az P X nl nt vn (n+1) (.ex L l m sk d<|.load t x) st sl E H rg=ME (xV P t (eq' sl E x)<|hX m H) (λv Q=>az P X nl nt vn n (.af L l (R5 m<|IZ P (.load t x) (eq' sl E) H Q) (nM sk d) d v) st sl E (hY m H Q) rg):=rfl
def Ym:az P X nl nt vn (n+1) (.ex L l m sk d<|.store t x y) st sl E H rg=ME (Aw P t (eq' sl E x) (eq' sl E y)<|hX m H) (λv Q=>az P X nl nt vn n (.af L l (R5 m<|IZ P (.store t x y) (eq' sl E) H Q) (nM sk d) d v) st sl E (hY m H Q) rg):=rfl
def MS:az P X nl nt vn (n+1) (.ex L l m sk d<|.nilCheck x) st sl E H rg=PU (Qj<|eq' sl E x) (λv=>az P X nl nt vn n (.af L l (Gg m) (nM sk d) d v) st sl E H rg):=rfl
def Yn{e:tN}{ai:aH}:az P X nl nt vn (n+1) (.ex L l m sk d<|.binOp e t x y ai) st sl E H rg=PU (mW P e t x y (eq' sl E x)<|eq' sl E y) (λv=>az P X nl nt vn n (.af L l (Gg m) (nM sk d) d v) st sl E H rg):=rfl
def ada{e:UnOp}:az P X nl nt vn (n+1) (.ex L l m sk d<|.unOp e t x) st sl E H rg=PU (lH<|Op.unary e<|eq' sl E x) (λv=>az P X nl nt vn n (.af L l (Gg m) (nM sk d) d v) st sl E H rg):=rfl
def PL{ai:aH}:az P X nl nt vn (n+1) (.ex L l m sk d<|.convert t ai x) st sl E H rg=CV (D7 P t ai<|eq' sl E x) (wC P t ai (eq' sl E x)<|hX m H) (λv=>az P X nl nt vn n (.af L l (Gg m) (nM sk d) d v) st sl E H rg) (λv Q=>az P X nl nt vn n (.af L l (R5 m<|IZ P (.convert t ai x) (eq' sl E) H Q) (nM sk d) d v) st sl E (hY m H Q) rg):=rfl
def PM{r:aC cB}:az P X nl nt vn (n+1) (.ex L l m sk d<|.makeMap t r) st sl E H rg=ME (vD P t (eqO (eq' sl E) r)<|hX m H) (λv Q=>az P X nl nt vn n (.af L l (R5 m<|IZ P (.makeMap t r) (eq' sl E) H Q) (nM sk d) d v) st sl E (hY m H Q) rg):=rfl
def J9:az P X nl nt vn (n+1) (.ex L l m sk d<|.makeSlice t x y) st sl E H rg=ME (sK P t (eq' sl E x) (eq' sl E y)<|hX m H) (λv Q=>az P X nl nt vn n (.af L l (R5 m<|IZ P (.makeSlice t x y) (eq' sl E) H Q) (nM sk d) d v) st sl E (hY m H Q) rg):=rfl
def Yo{lo:aC cB}{hi:aC cB}{mx:aC cB}:az P X nl nt vn (n+1) (.ex L l m sk d<|.slice t x lo hi mx) st sl E H rg=PU (BQ P t (eq' sl E x) (eqO (eq' sl E) lo) (eqO (eq' sl E) hi)<|eqO (eq' sl E) mx) (λv=>az P X nl nt vn n (.af L l (Gg m) (nM sk d) d v) st sl E H rg):=rfl
def J':az P X nl nt vn (n+1) (.ex L l m sk d<|.fieldAddr t x i) st sl E H rg=PU (uy P t (eq' sl E x) i) (λv=>az P X nl nt vn n (.af L l (Gg m) (nM sk d) d v) st sl E H rg):=rfl
def Yp:az P X nl nt vn (n+1) (.ex L l m sk d<|.field t x i) st sl E H rg=PU (D9 P t (eq' sl E x) i) (λv=>az P X nl nt vn n (.af L l (Gg m) (nM sk d) d v) st sl E H rg):=rfl
def J_:az P X nl nt vn (n+1) (.ex L l m sk d<|.indexAddr t x y) st sl E H rg=PU (uw P t (eq' sl E x)<|eq' sl E y) (λv=>az P X nl nt vn n (.af L l (Gg m) (nM sk d) d v) st sl E H rg):=rfl
def Yq:az P X nl nt vn (n+1) (.ex L l m sk d<|.index t x y) st sl E H rg=PU (D8 P t (eq' sl E x)<|eq' sl E y) (λv=>az P X nl nt vn n (.af L l (Gg m) (nM sk d) d v) st sl E H rg):=rfl
def TA{ok:Bool}:az P X nl nt vn (n+1) (.ex L l m sk d<|.lookup t x y ok) st sl E H rg=ME (uT P t (eq' sl E x) (eq' sl E y) ok<|hX m H) (λv Q=>az P X nl nt vn n (.af L l (R5 m<|IZ P (.lookup t x y ok) (eq' sl E) H Q) (nM sk d) d v) st sl E (hY m H Q) rg):=rfl
def Ka:az P X nl nt vn (n+1) (.ex L l m sk d<|.mapUpdate t x y z) st sl E H rg=ME (w_ P t (eq' sl E x) (eq' sl E y) (eq' sl E z)<|hX m H) (λv Q=>az P X nl nt vn n (.af L l (R5 m<|IZ P (.mapUpdate t x y z) (eq' sl E) H Q) (nM sk d) d v) st sl E (hY m H Q) rg):=rfl
def PN:az P X nl nt vn (n+1) (.ex L l m sk d<|.extract x i) st sl E H rg=PU (wN (eq' sl E x) i) (λv=>az P X nl nt vn n (.af L l (Gg m) (nM sk d) d v) st sl E H rg):=rfl
def adb{args:Array cB}{ats:Array aH}:az P X nl nt vn (n+1) (.ex L l m sk d<|.call ⟨.value<|.func i,args,ats⟩) st sl E H rg=bQ P X i (mp (eq' sl E) args.toList) (hX m H) (λv Q=>az P X nl nt vn n (.af L l (R5 m<|IZ P (.call ⟨.value<|.func i,args,ats⟩) (eq' sl E) H Q) (nM sk d) d v) st sl E (hY m H Q) rg):=by
 show bQ P X i (app []<|app (mp (eq' sl E) args.toList) []) (hX m H) _=_;rw[acN];rfl
def ah9{args:Array cB}{ats:Array aH}:az P X nl nt vn (n+1) (.ex L l m sk d<|.call ⟨.value<|.tmp i,args,ats⟩) st sl E H rg=qh P X (Ou<|lk sl E i) (mp (eq' sl E) args.toList) (hX m H) (λv Q=>az P X nl nt vn n (.af L l (R5 m<|IZ P (.call ⟨.value<|.tmp i,args,ats⟩) (eq' sl E) H Q) (nM sk d) d v) st sl E (hY m H Q) rg):=rfl
def Yr{args:Array cB}{ats:Array aH}:az P X nl nt vn (n+1) (.ex L l m sk d<|.call ⟨.value<|.const w,args,ats⟩) st sl E H rg=qh P X (Ou w) (mp (eq' sl E) args.toList) (hX m H) (λv Q=>az P X nl nt vn n (.af L l (R5 m<|IZ P (.call ⟨.value<|.const w,args,ats⟩) (eq' sl E) H Q) (nM sk d) d v) st sl E (hY m H Q) rg):=rfl
def alG{e:Builtin}{args:Array cB}{ats:Array aH}:az P X nl nt vn (n+1) (.ex L l m sk d<|.call ⟨.builtin e,args,ats⟩) st sl E H rg=AM e ats.toList (mp (eq' sl E) args.toList) P (hX m H) (λv=>az P X nl nt vn n (.af L l (Gg m) (nM sk d) d v) st sl E H rg) (λv Q=>az P X nl nt vn n (.af L l (R5 m<|IZ P (.call ⟨.builtin e,args,ats⟩) (eq' sl E) H Q) (nM sk d) d v) st sl E (hY m H Q) rg):=rfl
end eqs
def EE:=aa @ak8<|aa @ak9<|aa @ala<|aa @alb<|aa @alc<|aa @ald<|aa @Jt<|aa @Ju<|aa @ahw<|aa @Yd<|aa @Tx<|aa @acJ<|aa @acK<|aa @acL<|aa @ale<|aa @alf<|aa @acM<|aa @Ye<|aa @ahx<|aa @alg<|aa @alh<|aa @ali<|aa @alj<|aa @alk<|aa @alm<|aa @aln<|aa @alo<|aa @ahy<|aa @ahz<|aa @ahB<|aa @ahC<|aa @ahD<|aa @ahE<|aa @ahF<|aa @alp<|aa @alq<|aa @alr<|aa @als<|aa @alu<|aa @alv<|aa @alx<|aa @aly<|aa @ahG<|aa @acO<|aa @acP<|aa @acQ<|aa @ahH<|aa @acR<|aa @acS<|aa @acT<|aa @ahI<|aa @ahJ<|aa @ahK<|aa @ahL<|aa @ahO<|aa @ahP<|aa @ahQ<|aa @ajj<|aa @acZ<|aa @ac0<|aa @VP<|aa @ac1<|aa @ac2<|aa @ac3<|aa @ac4<|aa @ac5<|aa @ac6<|aa @ahR<|aa @ahS<|aa @alz<|aa @ahT<|aa @alA<|aa @ahU<|aa @ahV<|aa @ahW<|aa @ahX<|aa @ahY<|aa @ahZ<|aa @ac7<|aa @Ty<|aa @alB<|aa @ac8<|aa @ah0<|aa @ah1<|aa @ah2<|aa @ah3<|aa @ah4<|aa @ah5<|aa @ah6<|aa @l_call<|aa @Yi<|aa @Yj<|aa @ah7<|aa @alC<|aa @alD<|aa @alE<|aa @Tz<|aa @l_conv<|aa @alF<|aa @Yk<|aa @ah8<|aa @Yl<|aa @Ij<|aa @ac9<|aa @Ym<|aa @MS<|aa @Yn<|aa @ada<|aa @PL<|aa @PM<|aa @J9<|aa @Yo<|aa @J'<|aa @Yp<|aa @J_<|aa @Yq<|aa @TA<|aa @Ka<|aa @PN<|aa @adb<|aa @ah9<|aa @Yr @alG
def ED:=aa @ak6<|aa @ak7<|aa @ahA<|aa @acU<|aa @ahM<|aa @acV<|aa @Yf<|aa @acW<|aa @Yg<|aa @acX<|aa @acY<|aa @Yh @ahN
section sound
variable{P:aX}{X:Xt}{sl:Fr}{rg:Out->Prop}{d ai:Nat}
def KO(nl nt:Nat)(sl:Fr):Prop:=(∀t,hs sl t=iR nl t)/\∀t,iR nl t=F->t<nt
def MU(h:i≠t):aB i t=aA:=by
 rw[<-dn];exactλg=>h<|bA g
def aia:hs (up sl t v) ai=hs sl ai:=by
 induction sl with
 |n=>rfl
 |c i w l e=>
  show hs (cr (aB i t) (.c i v l)<|.c i w<|up l t v) ai=cr (aB i ai) F (hs l ai);cases aB i t
  .show cr (aB i ai) F (hs (up l t v) ai)=_;rw[e]
  .rfl
theorem KO.up(h:KO nl nt sl):KO nl nt (up sl t v):=⟨λai=>by rw[aia];exact h.1 ai,h.2⟩
def MV:lk sl E t=cr (hs sl t) ((tsF sl).get top t) (look E t):=by
 induction sl with
 |n=>rfl
 |c i v l B=>
  show cr (aB i t) v (lk l E t)=cr (cr (aB i t) F<|hs l t) (((tsF l).set top i v).get top t) (look E t);rw[Tr.w9]
  by_cases e:i=t
  .subst e;rw[show aB i i=F from dW i,if_pos O];rfl
  .rw[MU e,if_neg λh=>e h.symm,B];rfl
def Dk(h:KO nl nt sl)(t:Nat):jc (S nl nt sl E H) t=lk sl E t:=by
 rw[MV,h.1];rfl
def alI:lk (up sl d v) E t=cr (hs sl d&&aB d t) v (lk sl E t):=by
 induction sl with
 |n=>rfl
 |c i w l B=>
  show lk (cr (aB i d) (.c i v l)<|.c i w<|up l d v) E t=cr (cr (aB i d) F (hs l d)&&aB d t) v (cr (aB i t) w<|lk l E t)
  by_cases e:i=d
  .subst e;rw[show aB i i=F from dW i];show cr (aB i t) v (lk l E t)=cr (aB i t) v (cr (aB i t) w<|lk l E t);cases aB i t<;>rfl
  .rw[MU e];show cr (aB i t) w (lk (up l d v) E t)=cr (hs l d&&aB d t) v (cr (aB i t) w<|lk l E t);rw[B]
   by_cases e2:i=t
   .subst e2;rw[MU (λh=>e h.symm),pM];rfl
   .rw[MU e2];rfl
theorem alJ(hk:KO nl nt sl)(U:qg s<|S nl nt sl E H)(d:Nat)(v:D)(Q:R):qg (sM s d v Q) (S nl nt (cr (hs sl d) (up sl d v) sl) (cr (hs sl d) E<|(d,v)::E) Q):=by
 refine(U.sM d v Q).trans ?_;obtain⟨B,I,M,N⟩:=Lc (S nl nt sl E H) d v Q;refine⟨B,I,M,N,λt=>?_⟩
 have V:wr (S nl nt sl E H) d=F:=by
  show cr (iR nl d) (aD (dh d) nt) F=F;cases hb:iR nl d with
  |true=>exact aG<|hk.2 d hb
  |false=>rfl
 rw[Ap,V,Dk hk];cases hh:hs sl d with
 |true=>
  show _=jc (S nl nt (up sl d v) E Q) t;rw[Dk hk.up,alI,hh]
  by_cases e:d=t
  .subst e;rw[if_pos ⟨rfl,rfl⟩,show aB d d=F from dW d];rfl
  .rw[if_neg (λh=>e h.1),MU e];rfl
 |false=>
  show _=jc (S nl nt sl ((d,v)::E) Q) t;rw[Dk hk,MV,MV,Fj]
  by_cases e:d=t
  .subst e;rw[if_pos ⟨rfl,rfl⟩,if_pos O,hh];rfl
  .rw[if_neg (λh=>e h.1),if_neg e]
def anW(hk:KO nl nt sl)(e:qg s<|S nl nt sl E H):wr s d=F:=by
 show cr (iR s.nl d) (aD (dh d) s.nt) F=F;rw[e.nl,e.nt];show cr (iR nl d) (aD (dh d) nt) F=F;cases hb:iR nl d with
 |true=>exact aG<|hk.2 d hb
 |false=>rfl
def KO.of(h:Tw nl nt sl=F):KO nl nt sl:=by
 unfold Tw at h;rw[bE,bE]at h;obtain⟨⟨I,W⟩,B⟩:=h;have S:nl<2^nt:=aF I
 have O:∀t,nt<=t->iR nl t=aA:=λt M=>by
  show aB (Nat.mod (Nat.shiftRight nl t) 2) 1=aA
  have:Nat.shiftRight nl t=0:=by
   show nl>>>t=0;rw[uI];exact wm<|aO S<|pO N M
  rw[this];rfl
 have V:∀t,t<nt->hs sl t=iR nl t:=by
  intro t M;clear I B S O
  induction nt with
  |zero=>omega
  |succ n U=>
   replace W:(cr (hs sl n) (iR nl n) (!(iR nl n))&&_)=F:=W;rw[bE]at W
   by_cases e:t=n
   .subst e;have:=W.1;cases h5:hs sl t with
    |true=>rw[h5]at this;exact this.symm
    |false=>rw[h5,lz]at this;rw[pq]at this;exact this.symm
   .exact U W.2 N
 have Y:∀t,nt<=t->hs sl t=aA:=by
  intro t M;clear I W S O V
  induction sl with
  |n=>rfl
  |c i w l U=>
   replace B:(aD (dh i) nt&&_)=F:=B;rw[bE]at B;have:=aF B.1;show cr (aB i t) F (hs l t)=aA;rw[MU N];exact U B.2
 refine⟨λt=>?_,λt M=>?_⟩
 .by_cases h:t<nt
  .exact V t h
  .rw[Y t N,O t N]
 .by_cases h:t<nt
  .exact h
  .rw[O t N]at M;cases M
def ade:opK o P X s Kp Km=opG o P X (ev s) s.H Kp Km:=by
 cases o with
 |call c=>
  obtain⟨e,args,ats⟩:=c;cases e with
  |builtin b=>cases b<;>rfl
  |_=>rfl
 |_=>rfl
def PUm{q:aC D}{K K':D->Prop}(e:∀v,K v->K' v)(h:PU q K):PU q K':=by
 cases q with
 |none=>exact h.elim
 |some v=>exact e v h
def MEm{q:aC (D×R)}(e:∀v H,K v H->K' v H)(h:ME q K):ME q K':=by
 cases q with
 |none=>exact h.elim
 |some v=>exact e _ _ h
def CVm{q:aC D}{r:aC (D×R)}(B:∀v,Kp v->Kp' v)(e:∀v H,K v H->K' v H)(h:CV q r Kp K):CV q r Kp' K':=by
 cases q with
 |none=>exact MEm e h
 |some v=>exact B _ h
def adf{q:aC (FuncId×C D×C D)}{args:C D}(e:∀v H,K v H->K' v H)(h:qh P X q args H K):qh P X q args H K':=by
 cases q with
 |none=>exact h.elim
 |some v=>exact dD (K:=K) h e
theorem TB(I:∀v,Kp v->Kp' v)(B:∀v H,Km v H->Km' v H)(h:opG o P X ρ H Kp Km):opG o P X ρ H Kp' Km':=by
 cases o with
 |call c=>
  obtain⟨e,args,ats⟩:=c;cases e with
  |builtin b=>cases b<;>first|exact CVm I B h|exact PUm I h|exact MEm B h|exact False.elim h
  |value cs=>exact adf B h
  |invoke r n=>exact False.elim h
 |_=>first|exact I _ h|exact CVm I B h|exact PUm I h|exact MEm B h|exact False.elim h
def KK(P:aX)(X:Xt)(vn:Code)(st:C Fm)(rg:Out->Prop)(o:Out):Prop:=∃e,CL o e/\kO P X vn st rg e
def iG.kk(h:iG P X c s<|KK P X vn st rg):iG P X c s (kO P X vn st rg):=by
 obtain⟨o,N,I,W,M,e,B⟩:=h;exact⟨o,M,I,W.trans e,B⟩
def WM(P:aX)(X:Xt)(vn:Code)(st:C Fm)(rg:Out->Prop)(L l:C Oper)(m:Md)(s:St)(sk:C Nat):Prop:=
 @Md.rec (λ_=>Prop) (Cn P X ⟨L⟩ l s sk λs=>KK P X vn st rg<|.norm s) (λaj acc=>VG P X ⟨L⟩ l s sk acc λs e=>kZ aj e=F/\KK P X vn st rg (.norm s)) m
def KG(P:aX)(X:Xt)(vn:Code)(st:C Fm)(rg:Out->Prop)(L l:C Oper)(m:Md)(d:aC Nat)(o:Op)(b:Bool)(s:St)(sk:C Nat):Prop:=
 @Md.rec (λ_=>Prop)
  (@iA (λ_=>Prop) (Cn P X ⟨L⟩ l (jY s d undef s.H) (Oq s sk d) λs=>KK P X vn st rg<|.norm s)
    (@aP Call (λ_=>Prop) (opK o P X s (λv=>Cn P X ⟨L⟩ l (jY s d v s.H) (nM sk d) λs=>KK P X vn st rg<|.norm s) λv H=>Cn P X ⟨L⟩ l (jY s d v H) (nM sk d) λs=>KK P X vn st rg<|.norm s) (λ_=>False)<|tJ o) b)
  (λaj acc=>@iA (λ_=>Prop) (VG P X ⟨L⟩ l (jY s d undef s.H) (Oq s sk d) (cl 0::acc) λs e=>kZ aj e=F/\KK P X vn st rg (.norm s))
   (opK o P X (iU s) (λv=>VG P X ⟨L⟩ l (jY s d v s.H) (nM sk d) (cl 0::acc) λs e=>kZ aj e=F/\KK P X vn st rg (.norm s)) λv H=>VG P X ⟨L⟩ l (jY s d v ⟨H.xO,H.bU,pW s.H.low H.low⟩) (nM sk d) (uJ P o s H::acc) λs e=>kZ aj e=F/\KK P X vn st rg (.norm s)) b) m
def Sem(P:aX)(X:Xt)(vn:Code)(st:C Fm)(rg:Out->Prop):Ct->St->Prop
 |.co c _,s=>iG P X c s<|kO P X vn st rg
 |.cd v a b _,s=>yU v (iG P X a s<|kO P X vn st rg)<|iG P X b s<|kO P X vn st rg
 |.ou k,s=>∃s',qg s s'/\kO P X vn st rg (k.out s')
 |.op L l m sk,s=>WM P X vn st rg L l m s sk
 |.gu L l m sk d o gb t,s=>@aP Nat (λ_=>Prop) False (λt=>@iA (λ_=>Prop)
  (yU (kV<|jc s t) (KG P X vn st rg L l m d o (CK F gb) (sM s t (.bool F) s.H)<|sw sk t)<|KG P X vn st rg L l m d o (CK aA gb) (sM s t (.bool aA) s.H)<|sw sk t)
  (KG P X vn st rg L l m d o aA s sk) (Cm sk t)) t
 |.gv L l m sk d o gb t e v,s=>@iA (λ_=>Prop)
  (yU v (KG P X vn st rg L l m d o (CK F gb) (sM s t (.bool F) s.H)<|sw sk t)<|KG P X vn st rg L l m d o (CK aA gb) (sM s t (.bool aA) s.H)<|sw sk t)
  (KG P X vn st rg L l m d o aA s sk) e
 |.ge L l m sk d o b,s=>KG P X vn st rg L l m d o b s sk
 |.ex L l m sk d o,s=>KG P X vn st rg L l m d o F s sk
 |.pk L l m sk d c a b,s=>PU (aN c λt=>Z<|cr t a b) λv=>WM P X vn st rg L l m (jY s d v s.H) sk
 |.af L l m sk d v,s=>WM P X vn st rg L l m (jY s d v s.H) sk
 |.pt _ t v nx,s=>Sem P X vn st rg nx<|sM s t v s.H
def FOk(vn:Code)(st:C Fm):Prop:=∀p c,Fm.sq p c∈st->sub vn (AP p [])=c
def COk(vn:Code)(g:Nat->Bool):Ct->Prop
 |.co c p=>sub vn (AP p [])=c
 |.cd _ a b p=>∃x,sub vn (AP p [])=.cond x a b
 |.pt h t _ nx=>h=g t/\COk vn g nx
 |_=>True
def ajk:∀{p q:C Nat},sub vn (AP p q)=sub (sub vn<|AP p []) q:=by
 intro p
 induction p with
 |nil=>intro q;rfl
 |cons i p e=>
  intro q;show sub vn (AP p<|i::q)=sub (sub vn<|AP p [i]) q;rw[e (q:=i::q),e (q:=[i])];rfl
def MW(h:sub vn (AP p [])=c):sub vn (AP (i::p) [])=kid c i:=by
 show sub vn (AP p [i])=_;rw[ajk,h];rfl
def anX(hk:KO nl nt sl)(e:qg s<|S nl nt sl E H):ev s=eq' sl E:=by
 rw[e.ev];funext x;cases x with
 |tmp t=>exact Dk hk t
 |_=>rfl
theorem snd:∀n ct st sl E H s,FOk vn st->KO nl nt sl->COk vn (hs sl) ct->qg s (S nl nt sl E H)->az P X nl nt vn n ct st sl E H rg->Sem P X vn st rg ct s:=by
 intro n
 induction n with
 |zero=>intro ct st sl E H s _ _ _ _ h;exact False.elim (by simp only[az]at h)
 |succ n N=>
  intro ct st sl E H s U M Y B h;have hH:s.H=H:=B.H;have ac:=anX M B;cases ct with
  |co c p=>
   replace Y:sub vn (AP p [])=c:=Y;cases c with
   |skip=>
    obtain⟨s',e,h⟩:=N (.ou .norm) st sl E H s U M trivial B h;exact⟨_,_,Ev.skip,.norm e,h⟩
   |region id V dr=>
    have am:qg (clear s) (S nl nt sl [] H):=by
     refine⟨B.nl,B.nt,B.df,B.H,λt=>?_⟩;rw[F9,B.lk,Dk M,Dk M,MV,MV,B.nl];show cr (iR nl t) _ top=_;rw[<-M.1];show cr (hs sl t) (cr (hs sl t) _ _) top=cr (hs sl t) _ top;cases hs sl t<;>rfl
    refine iG.kk<|af8 ?_;cases dr with
    |false=>exact N (.op V.toList V.toList .pl []) st sl [] H (clear s) U M trivial am h
    |true=>
     obtain⟨I,h⟩:(lT V&&qM V)=F/\az P X nl nt vn n (.op V.toList V.toList (.dr (opsOf<|sub vn<|AP p []) []) []) st sl [] H rg:=h;have W:=N (.op V.toList V.toList (.dr (opsOf<|sub vn<|AP p []) []) []) st sl [] H (clear s) U M trivial am h;rw[Y]at W;show @iA (λ_=>Prop) False (VG P X V V.toList (clear s) [] [] λs ag=>kZ V ag=F/\KK P X vn st rg (.norm s))<|lT V&&qM V;rw[I];exact W
   |seq a b=>
    refine iG.seq ?_;have I:=MW (i:=1) Y
    have al:∀cs:Fm,cs=.sj (1::p)\/cs=.sq (1::p) b->kO P X vn (cs::st) rg=uW P X b (kO P X vn st rg)/\FOk vn (cs::st):=by
     intro cs an;refine⟨?_,λq c hq=>?_⟩
     .rcases an with rfl|rfl<;>(show uW P X (sub vn<|AP (1::p) []) _=_;rw[I];rfl)
     .rcases bW.1 hq with e|hq
      .rcases an with rfl|rfl
       .cases e
       .cases e;exact I
      .exact U q c hq
    replace h:az P X nl nt vn n (.co a<|0::p) (cr (H_ a b) (.sj<|1::p) (.sq (1::p) b)::st) sl E H rg:=h;obtain⟨k1,k2⟩:=al (cr (H_ a b) (.sj<|1::p)<|.sq (1::p) b) (by cases H_ a b;exact .inr O;exact .inl O);have:=N (.co a<|0::p) _ sl E H s k2 M (MW (i:=0) Y) B h;replace this:iG P X a s (kO P X vn (cr (H_ a b) (.sj<|1::p) (.sq (1::p) b)::st) rg):=this;rw[k1]at this;exact this
   |cond x a b=>
    have:=N (.cd (kV<|eq' sl E x) a b p) st sl E H s U M ⟨x,Y⟩ B h;replace this:yU (kV<|eq' sl E x) (iG P X a s<|kO P X vn st rg) (iG P X b s<|kO P X vn st rg):=this;rw[<-ac]at this;rcases QL this with⟨hv,h⟩|⟨hv,h⟩
    .obtain⟨o,o',I,W,h3⟩:=h;exact⟨o,o',Ev.cond hv I,W,h3⟩
    .obtain⟨o,o',I,W,h3⟩:=h;exact⟨o,o',Ev.cond hv I,W,h3⟩
   |block id a=>
    exact iG.block<|N (.co a<|0::p) (.bk id::st) sl E H s (λq c hq=>by
     rcases bW.1 hq with e|hq
     .cases e
     .exact U q c hq) M (MW (i:=0) Y) B h
   |loop a=>
    replace h:iG P X (.loop<|sub vn<|AP (0::p) []) (S nl nt sl E H) (kO P X vn st rg):=h;rw[MW Y]at h;exact iG.alike B h
   |scope a=>
    replace h:iG P X (.scope<|sub vn<|AP (0::p) []) (S nl nt sl E H) (kO P X vn st rg):=h;rw[MW Y]at h;exact iG.alike B h
   |exit i=>
    obtain⟨s',e,h⟩:=N (.ou<|.exit i) st sl E H s U M trivial B h;exact⟨_,_,Ev.exit,.exit i e,h⟩
   |goto i=>
    obtain⟨s',e,h⟩:=N (.ou<|.goto i) st sl E H s U M trivial B h;exact⟨.goto i s,_,⟨gD,0,O⟩,.goto i e,h⟩
   |label i=>
    obtain⟨s',e,h⟩:=N (.ou .norm) st sl E H s U M trivial B h;exact⟨_,_,Ev.label,.norm e,h⟩
   |ret=>
    obtain⟨s',e,h⟩:=N (.ou .ret) st sl E H s U M trivial B h;exact⟨_,_,Ev.ret,.ret e,h⟩
   |_=>exact False.elim h
  |cd v a b p=>
   obtain⟨x,Y⟩:=Y;replace h:yU v (az P X nl nt vn n (.co a<|0::p) st sl E H rg) (az P X nl nt vn n (.co b<|1::p) st sl E H rg):=h;show yU v (iG P X a s<|kO P X vn st rg)<|iG P X b s<|kO P X vn st rg;rcases QL h with⟨rfl,h⟩|⟨rfl,h⟩
   .exact N (.co a<|0::p) st sl E H s U M (MW (i:=0) Y) B h
   .exact N (.co b<|1::p) st sl E H s U M (MW (i:=1) Y) B h
  |ou k=>
   show∃s',qg s s'/\kO P X vn st rg (k.out s');cases st with
   |nil=>
    rw[ajj]at h;exact⟨_,B,h⟩
   |cons cs st=>
    have ab:FOk vn st:=λq c hq=>U q c<|bL _ hq;cases cs with
    |sq p c=>
     cases k with
     |norm=>
      have I:iG P X c s (kO P X vn st rg):=N (.co c p) st sl E H s ab M (U p c<|aL ..) B h;refine⟨s,qg.refl s,?_⟩;show iG P X (sub vn<|AP p []) s<|kO P X vn st rg;rw[U p c (aL ..)];exact I
     |exit i=>exact N (.ou<|.exit i) st sl E H s ab M trivial B h
     |goto i=>exact N (.ou<|.goto i) st sl E H s ab M trivial B h
     |ret=>exact N (.ou .ret) st sl E H s ab M trivial B h
    |sj p=>
     cases k with
     |norm=>exact⟨_,B,h⟩
     |exit i=>exact N (.ou<|.exit i) st sl E H s ab M trivial B h
     |goto i=>exact N (.ou<|.goto i) st sl E H s ab M trivial B h
     |ret=>exact N (.ou .ret) st sl E H s ab M trivial B h
    |bk id=>
     rw[VP]at h;obtain⟨s',e,h⟩:=N (.ou<|blQ id k) st sl E H s ab M trivial B h;refine⟨s',e,?_⟩;show kO P X vn st rg<|yN id<|k.out s'
     have:yN id (k.out s')=(blQ id k).out s':=by
      cases k with
      |exit i=>
       show cr (aB i id) _ _=Kd.out (cr (aB i id) _ _) s';cases aB i id<;>rfl
      |_=>rfl
     rw[this];exact h
  |op L l m sk=>
   cases l with
   |nil=>
    cases m with
    |pl=>
     obtain⟨s',e,h⟩:=N (.ou .norm) st sl E H s U M trivial B h;exact⟨_,.norm e,h⟩
    |dr aj acc=>
     obtain⟨I,h⟩:kZ aj acc=F/\az P X nl nt vn n (.ou .norm) st sl E H rg:=h;obtain⟨s',e,h⟩:=N (.ou .norm) st sl E H s U M trivial B h;exact⟨I,_,.norm e,h⟩
   |cons o l=>
    obtain⟨d,op,ty,pos,af,g⟩:=o;cases g with
    |none=>
     have:=N (.ex L l m sk d op) st sl E H s U M trivial B h;cases m<;>exact this
    |some g=>
     have:=N (.gu L l m sk d op g.2<|gtN L g.1) st sl E H s U M trivial B h;replace this:@aP Nat (λ_=>Prop) False _ (aN (nth L g.1) λo=>o.dst):=this
     have al:GuW ⟨L⟩ s sk (Z g) (KG P X vn st rg L l m d op):=by
      show @aP Oper (λ_=>Prop) False _<|nth L g.1;cases hn:nth L g.1 with
      |none=>rw[hn]at this;exact this
      |some o=>
       rw[hn]at this;replace this:@aP Nat (λ_=>Prop) False _ o.dst:=this;show @aP Nat (λ_=>Prop) False _ o.dst;cases ho:o.dst with
       |none=>rw[ho]at this;exact this
       |some t=>rw[ho]at this;exact this
     cases m<;>exact al
  |gu L l m sk d o gb t=>
   cases t with
   |none=>exact False.elim h
   |some t=>
    have:=N (.gv L l m sk d o gb t (Cm sk t)<|kV<|lk sl E t) st sl E H s U M trivial B h;have hl:jc s t=lk sl E t:=by rw[B.lk,Dk M]
    rw[<-hl]at this;exact this
  |gv L l m sk d o gb t e v=>
   cases e with
   |true=>exact N (.ge L l m sk d o aA) st sl E H s U M trivial B h
   |false=>
    replace h:yU v (az P X nl nt vn n (.pt (hs sl t) t (.bool F)<|.ge L l m (sw sk t) d o<|CK F gb) st sl E H rg) (az P X nl nt vn n (.pt (hs sl t) t (.bool aA)<|.ge L l m (sw sk t) d o<|CK aA gb) st sl E H rg):=h;show yU v (KG P X vn st rg L l m d o (CK F gb) (sM s t (.bool F) s.H)<|sw sk t)<|KG P X vn st rg L l m d o (CK aA gb) (sM s t (.bool aA) s.H)<|sw sk t;rcases QL h with⟨rfl,h⟩|⟨rfl,h⟩
    .exact N (.pt (hs sl t) t (.bool F)<|.ge L l m (sw sk t) d o<|CK F gb) st sl E H s U M ⟨O,trivial⟩ B h
    .exact N (.pt (hs sl t) t (.bool aA)<|.ge L l m (sw sk t) d o<|CK aA gb) st sl E H s U M ⟨O,trivial⟩ B h
  |ge L l m sk d o b=>
   cases b with
   |true=>exact N (.ex L l m sk d o) st sl E H s U M trivial B h
   |false=>
    have:=N (.af L l (Gg m) (Z8 sk d) d undef) st sl E H s U M trivial B h
    have ha:Oq s sk d=Z8 sk d:=by
     cases d with
     |none=>rfl
     |some d=>show cr (wr s d) _ _=_;rw[anW M B];rfl
    cases m with
    |pl=>show Cn P X ⟨L⟩ l (jY s d undef s.H) (Oq s sk d) _;rw[ha];exact this
    |dr aj acc=>show VG P X ⟨L⟩ l (jY s d undef s.H) (Oq s sk d) (cl 0::acc) _;rw[ha];exact this
  |ex L l m sk d o=>
   show KG P X vn st rg L l m d o F s sk;have ao:∀v,az P X nl nt vn n (.af L l (Gg m) (nM sk d) d v) st sl E H rg->WM P X vn st rg L l (Gg m) (jY s d v s.H) (nM sk d):=λv hv=>N (.af L l (Gg m) (nM sk d) d v) st sl E H s U M trivial B hv
   have ap:tJ o=T->opG o P X (eq' sl E) (hX m H) (λv=>az P X nl nt vn n (.af L l (Gg m) (nM sk d) d v) st sl E H rg) (λv Q=>az P X nl nt vn n (.af L l (R5 m<|IZ P o (eq' sl E) H Q) (nM sk d) d v) st sl E (hY m H Q) rg)->KG P X vn st rg L l m d o F s sk:=by
    intro hd h
    have ad:∀v H2 m2,az P X nl nt vn n (.af L l m2 (nM sk d) d v) st sl E H2 rg->WM P X vn st rg L l m2 (jY s d v H2) (nM sk d):=by
     intro v H2 m2 hv;have:=N (.af L l m2 (nM sk d) d v) st sl E H2 ⟨s.nl,s.nt,s.reg,s.tm,s.df,H2⟩ U M trivial ⟨B.nl,B.nt,B.df,O,B.lk⟩ hv;cases d<;>exact this
    cases m with
    |pl=>
     show @aP Call (λ_=>Prop) _ (λ_=>False)<|tJ o;rw[hd];show opK o P X s _ _;rw[ade,ac,hH];refine TB (λv hv=>?_) (λv Q hv=>ad v Q .pl hv) h;have:=ao v hv;rw[hH]at this;exact this
    |dr aj acc=>
     show opK o P X (iU s) _ _;rw[ade];have I:ev (iU s)=ev s:=by funext x;cases x<;>rfl
     rw[I,ac];have W:(iU s).H=hN H:=by rw[<-hH];rfl
     rw[W];refine TB (λv hv=>ao v hv) (λv Q hv=>?_) h;have h3:uJ P o s Q=IZ P o (eq' sl E) H Q:=by rw[<-ac,<-hH];rfl
     rw[h3,hH];exact ad v _ _ hv
   cases o with
   |pick x y z=>
    have:=N (.pk L l (Gg m) (nM sk d) d (kV<|eq' sl E x) (eq' sl E y)<|eq' sl E z) st sl E H s U M trivial B h;rw[<-ac]at this;cases m with
    |pl=>exact this
    |dr aj acc=>
     show opK (.pick x y z) P X (iU s) (λv=>VG P X ⟨L⟩ l (jY s d v s.H) (nM sk d) (cl 0::acc) λs ag=>kZ aj ag=F/\KK P X vn st rg (.norm s)) λ_ _=>True;rw[ade,show ev (iU s)=ev s from by funext x;cases x<;>rfl];exact this
   |_=>first|exact ap O h|exact False.elim h
  |pk L l m sk d c a b=>
   exact PUm (λv hv=>N (.af L l m sk d v) st sl E H s U M trivial B hv) h
  |af L l m sk d v=>
   cases d with
   |none=>exact N (.op L l m sk) st sl E H s U M trivial B h
   |some t=>exact N (.pt (hs sl t) t v<|.op L l m sk) st sl E H s U M ⟨O,trivial⟩ B h
  |pt b t v nx=>
   obtain⟨rfl,Y⟩:=Y;have I:=alJ M B t v s.H;rw[hH]at I;show Sem P X vn st rg nx<|sM s t v s.H;rw[hH];cases hb:hs sl t with
   |true=>
    rw[hb]at h I;exact N nx st (up sl t v) E H _ U M.up (by rw[show hs (up sl t v)=hs sl from funext λai=>aia];exact Y) I h
   |false=>
    rw[hb]at h I;exact N nx st sl ((t,v)::E) H _ U M Y I h
def iG.go(hk:Tw nl nt sl=F)(e:sub vn (AP p [])=c)(h:az P X nl nt vn n (.co c p) [] sl E H rg):iG P X c (S nl nt sl E H) rg:=
 snd n (.co c p) [] sl E H _ (λp c h=>nomatch h) (KO.of hk) e (qg.refl _) h
end sound
def BG(P:aX)(g:Nat):Code:=@aP Func (λ_=>Code) .skip (λcs=>QM cs)<|nth P.funcs.toList g
def TC(P:aX)(g:Nat):Nat:=@aP Func (λ_=>Nat) 0 (λcs=>cs.ntmps)<|nth P.funcs.toList g
def rsG(P:aX)(g:Nat):C ResultVar:=@aP Func (λ_=>C ResultVar) [] (λcs=>cs.results.toList)<|nth P.funcs.toList g
abbrev ay(P:aX)(g:Nat)(sl:Fr)(E:Rs)(H:R):St:=S (kC P g) (TC P g) sl E H
def MX(l:C D)(i:Nat):D:=@aP D (λ_=>D) top (λv=>v)<|nth l i
def mkS(l:C Nat)(args:C D):Fr:=@dF Nat (λ_=>Fr) .n (λi _ r=>.c i (MX args i) r) l
def okF(P:aX)(g:Nat)(l:C Nat)(n:Nat):Bool:=
 @aP Func (λ_=>Bool) aA (λcs=>@aP Code (λ_=>Bool) aA (λ_=>F) cs.body&&aD n cs.ntmps) (nth P.funcs.toList g)&&Tw (kC P g) (TC P g) (mkS l [])
def Ox(P:aX)(rs:C ResultVar)(sl:Fr)(E:Rs)(H:R):(C D->Prop)->Prop:=
 @dF ResultVar (λ_=>(C D->Prop)->Prop) (λk=>k []) (λr _ e k=>
  @ResultVar.rec (λ_=>Prop) (λt=>e λvs=>k<|lk sl E t::vs) (λa t=>ME (xV P t (lk sl E a) H) λv _=>e λvs=>k<|v::vs) r) rs
section gen
variable{P:aX}{X:Xt}{g:Nat}{q l:C Nat}{sl:Fr}{K:Out->Prop}{rs:C ResultVar}{args:C D}{k:C D->Prop}
def alK:MX [] i=top:=nr (by cases i<;>rfl)
def alL:MX (v::vs) 0=v:=nr O
def alM:MX (v::vs) (i+1)=MX vs i:=nr O
def alN:mkS [] args=.n:=nr O
def alO:mkS (i::l) args=.c i (MX args i) (mkS l args):=nr O
def alP:Ox P [] sl E H k=k []:=nr O
def alQ:Ox P (.tmp t::rs) sl E H k=Ox P rs sl E H (λvs=>k<|lk sl E t::vs):=nr O
def alR:Ox P (.cell i t::rs) sl E H k=ME (xV P t (lk sl E i) H) λv _=>Ox P rs sl E H (λvs=>k<|v::vs):=nr O
def alS:uO [v]=v:=nr O
def alU:uO (v::w::vs)=.tuple ⟨v::w::vs⟩:=nr O
def alV:uO []=.tuple ⟨[]⟩:=nr O
def EV:=aa @alK<|aa @alL<|aa @alM<|aa @alN<|aa @alO<|aa @alP<|aa @alQ<|aa @alR<|aa @alS<|aa @alU @alV
def alW:AP (AP q []) []=q:=by
 have:∀(q r:C Nat),AP (AP q r) []=AP r q:=by
  intro q
  induction q with
  |nil=>intro r;rfl
  |cons i q e=>intro r;show AP (AP q<|i::r) []=_;rw[e];rfl
 exact this q []
def goF(h:az P X (kC P g) (TC P g) (BG P g) n (.co c<|AP q []) [] sl E H K)(e:sub (BG P g) q=c)(hk:Tw (kC P g) (TC P g) sl=F):iG P X (sub (BG P g) q) (ay P g sl E H) K:=by
 have I:sub (BG P g) (AP (AP q []) [])=c:=by rw[alW];exact e
 rw[e];exact iG.go hk I h
def alX(h:hs (mkS l args) t=F):lk (mkS l args) E t=MX args t:=by
 induction l with
 |nil=>cases h
 |cons i l B=>
  replace h:cr (aB i t) F (hs (mkS l args) t)=F:=h;show cr (aB i t) (MX args i) (lk (mkS l args) E t)=_
  by_cases e:i=t
  .subst e;rw[show aB i i=F from dW i];rfl
  .rw[MU e]at h|-;exact B h
def alY{b:C D}:hs (mkS l a) t=hs (mkS l b) t:=by
 induction l with
 |nil=>rfl
 |cons i l e=>
  show cr (aB i t) F (hs (mkS l a) t)=cr (aB i t) F (hs (mkS l b) t);rw[e]
def adg:MX args t=(Tr.uY top args 0 .nil).get top t:=by
 rw[Tr.nY]
 have:∀(a:C D)(k:Nat),MX a k=a.getD k top:=by
  intro a
  induction a with
  |nil=>intro k;cases k<;>rfl
  |cons x a e=>intro k;cases k with
   |zero=>rfl
   |succ k=>exact e k
 rw[this];split
 .rfl
 .rename_i h;rw[aU,dw N];rw[Tr.get_nil];rfl
def ceF{K:D->R->Prop}(h:iG P X (sub (BG P g) []) (ay P g sl [] H)<|jZ P rs K)(N:mkS l args=sl)(M:rsG P g=rs)(V:X.o g args H=T)(Y:okF P g l (len args)=F):bQ P X g args H K:=by
 unfold okF at Y;rw[bE]at Y;have⟨I,W⟩:=Y;unfold BG ay TC at h;unfold rsG at M;unfold TC at W;cases hg:nth P.funcs.toList g with
 |none=>rw[hg]at I;cases I
 |some e=>
  rw[hg]at h I W M;replace I:(@aP Code (λ_=>Bool) aA (λ_=>F) e.body&&aD (len args) e.ntmps)=F:=I;rw[bE]at I;replace h:iG P X (QM e) (S (kC P g) e.ntmps sl [] H) (jZ P rs K):=h;replace W:Tw (kC P g) e.ntmps (mkS l [])=F:=W;cases hb:e.body with
  |none=>rw[hb]at I;cases I.1
  |some c=>
   have U:QM e=c:=by unfold QM;rw[hb]
   rw[U]at h;replace M:e.results.toList=rs:=M;subst M;refine bQ.body V hg hb I.2 O<|iG.alike ?_ h;have hk:=KO.of W;have B:KO (kC P g) e.ntmps sl:=⟨λt=>by rw[<-N,<-hk.1 t];exact alY,hk.2⟩;refine⟨O,O,O,O,λt=>?_⟩;rw[Dk B];show cr (iR (kC P g) t) ((Fp args e.ntmps).get top t) top=_;rw[<-SX,<-adg,MV,B.1];cases hbit:iR (kC P g) t with
   |false=>rfl
   |true=>
    have h3:hs sl t=F:=by rw[B.1];exact hbit
    have h4:lk sl [] t=MX args t:=by subst N;exact alX h3
    rw[MV,h3]at h4;exact h4.symm
def adh(hk:Tw (kC P g) (TC P g) sl=F):∀{rs:C ResultVar}{k:C D->Prop},Ox P rs sl E H k->VH P (ay P g sl E H) rs k:=by
 have hk:=KO.of hk;have e:∀t,jc (ay P g sl E H) t=lk sl E t:=Dk hk;intro rs
 induction rs with
 |nil=>intro k h;exact h
 |cons r rs B=>
  intro k h;cases r with
  |tmp t=>
   show VH P _ rs λvs=>k<|jc _ t::vs;rw[e];exact B h
  |cell a t=>
   show ME (xV P t (jc _ a) H) λv _=>VH P _ rs λvs=>k<|v::vs;rw[e];exact MEm (λv Q I=>B I) h
def rrF{K:D->R->Prop}(h:Ox P rs sl E H λvs=>K (uO vs) H)(hk:Tw (kC P g) (TC P g) sl=F):jZ P rs K (.ret<|ay P g sl E H):=ace O<|adh hk h
def rnF{K:D->R->Prop}(h:Ox P rs sl E H λvs=>K (uO vs) H)(hk:Tw (kC P g) (TC P g) sl=F):jZ P rs K (.norm<|ay P g sl E H):=ZW O<|adh hk h
def VQ{e:D->Fr}(B:Nat){h1:Nat->D->R->Prop}(h:∀n(x0:D)(E:Rs)(H:R),h1 n x0 H->iG P X (sub (BG P g) p) (ay P g (e x0) E H) (IW (λm s=>∃(x0:D)(E:Rs)(H:R),s=ay P g (e x0) E H/\h1 m x0 H) n K))(n:Nat)(I:h1 n (lk sl [] B) H)(O:∀x0,up sl B x0=e x0:=by intros;conv=>lhs;simp only[Jt,Ju,↓reduceIte,dG,Nat.reduceBEq])(N:e (lk sl [] B)=sl:=by rfl):iG P X (.loop<|sub (BG P g) p) (ay P g sl E H) K:=
 iG.Et (az:=λm s=>∃(x0:D)(E:Rs)(H:R),s=ay P g (e x0) E H/\h1 m x0 H) (λn s hs=>by obtain⟨x0,E,H,rfl,M⟩:=hs;exact h n x0 E H M) n _ ⟨_,E,H,by rw[N],I⟩
def lp2{e:D->D->Fr}(B I:Nat){h1:Nat->D->D->R->Prop}(h:∀n(x0 x1:D)(E:Rs)(H:R),h1 n x0 x1 H->iG P X (sub (BG P g) p) (ay P g (e x0 x1) E H) (IW (λm s=>∃(x0 x1:D)(E:Rs)(H:R),s=ay P g (e x0 x1) E H/\h1 m x0 x1 H) n K))(n:Nat)(M:h1 n (lk sl [] B) (lk sl [] I) H)(S:∀x0 x1,up (up sl B x0) I x1=e x0 x1:=by intros;conv=>lhs;simp only[Jt,Ju,↓reduceIte,dG,Nat.reduceBEq])(O:e (lk sl [] B) (lk sl [] I)=sl:=by rfl):iG P X (.loop<|sub (BG P g) p) (ay P g sl E H) K:=
 iG.Et (az:=λm s=>∃(x0 x1:D)(E:Rs)(H:R),s=ay P g (e x0 x1) E H/\h1 m x0 x1 H) (λn s hs=>by obtain⟨x0,x1,E,H,rfl,N⟩:=hs;exact h n x0 x1 E H N) n _ ⟨_,_,E,H,by rw[O],M⟩
def Ik{e:D->D->D->Fr}(B I M:Nat){h1:Nat->D->D->D->R->Prop}(h:∀n(x0 x1 x2:D)(E:Rs)(H:R),h1 n x0 x1 x2 H->iG P X (sub (BG P g) p) (ay P g (e x0 x1 x2) E H) (IW (λm s=>∃(x0 x1 x2:D)(E:Rs)(H:R),s=ay P g (e x0 x1 x2) E H/\h1 m x0 x1 x2 H) n K))(n:Nat)(N:h1 n (lk sl [] B) (lk sl [] I) (lk sl [] M) H)(U:∀x0 x1 x2,up (up (up sl B x0) I x1) M x2=e x0 x1 x2:=by intros;conv=>lhs;simp only[Jt,Ju,↓reduceIte,dG,Nat.reduceBEq])(S:e (lk sl [] B) (lk sl [] I) (lk sl [] M)=sl:=by rfl):iG P X (.loop<|sub (BG P g) p) (ay P g sl E H) K:=
 iG.Et (az:=λm s=>∃(x0 x1 x2:D)(E:Rs)(H:R),s=ay P g (e x0 x1 x2) E H/\h1 m x0 x1 x2 H) (λn s hs=>by obtain⟨x0,x1,x2,E,H,rfl,O⟩:=hs;exact h n x0 x1 x2 E H O) n _ ⟨_,_,_,E,H,by rw[S],N⟩
def PO{e:D->D->D->D->Fr}(B I M N:Nat){h1:Nat->D->D->D->D->R->Prop}(h:∀n(x0 x1 x2 x3:D)(E:Rs)(H:R),h1 n x0 x1 x2 x3 H->iG P X (sub (BG P g) p) (ay P g (e x0 x1 x2 x3) E H) (IW (λm s=>∃(x0 x1 x2 x3:D)(E:Rs)(H:R),s=ay P g (e x0 x1 x2 x3) E H/\h1 m x0 x1 x2 x3 H) n K))(n:Nat)(O:h1 n (lk sl [] B) (lk sl [] I) (lk sl [] M) (lk sl [] N) H)(V:∀x0 x1 x2 x3,up (up (up (up sl B x0) I x1) M x2) N x3=e x0 x1 x2 x3:=by intros;conv=>lhs;simp only[Jt,Ju,↓reduceIte,dG,Nat.reduceBEq])(U:e (lk sl [] B) (lk sl [] I) (lk sl [] M) (lk sl [] N)=sl:=by rfl):iG P X (.loop<|sub (BG P g) p) (ay P g sl E H) K:=
 iG.Et (az:=λm s=>∃(x0 x1 x2 x3:D)(E:Rs)(H:R),s=ay P g (e x0 x1 x2 x3) E H/\h1 m x0 x1 x2 x3 H) (λn s hs=>by obtain⟨x0,x1,x2,x3,E,H,rfl,S⟩:=hs;exact h n x0 x1 x2 x3 E H S) n _ ⟨_,_,_,_,E,H,by rw[U],O⟩
def Yt{e:D->D->D->D->D->Fr}(B I M N O:Nat){h1:Nat->D->D->D->D->D->R->Prop}(h:∀n(x0 x1 x2 x3 x4:D)(E:Rs)(H:R),h1 n x0 x1 x2 x3 x4 H->iG P X (sub (BG P g) p) (ay P g (e x0 x1 x2 x3 x4) E H) (IW (λm s=>∃(x0 x1 x2 x3 x4:D)(E:Rs)(H:R),s=ay P g (e x0 x1 x2 x3 x4) E H/\h1 m x0 x1 x2 x3 x4 H) n K))(n:Nat)(S:h1 n (lk sl [] B) (lk sl [] I) (lk sl [] M) (lk sl [] N) (lk sl [] O) H)(W:∀x0 x1 x2 x3 x4,up (up (up (up (up sl B x0) I x1) M x2) N x3) O x4=e x0 x1 x2 x3 x4:=by intros;conv=>lhs;simp only[Jt,Ju,↓reduceIte,dG,Nat.reduceBEq])(V:e (lk sl [] B) (lk sl [] I) (lk sl [] M) (lk sl [] N) (lk sl [] O)=sl:=by rfl):iG P X (.loop<|sub (BG P g) p) (ay P g sl E H) K:=
 iG.Et (az:=λm s=>∃(x0 x1 x2 x3 x4:D)(E:Rs)(H:R),s=ay P g (e x0 x1 x2 x3 x4) E H/\h1 m x0 x1 x2 x3 x4 H) (λn s hs=>by obtain⟨x0,x1,x2,x3,x4,E,H,rfl,U⟩:=hs;exact h n x0 x1 x2 x3 x4 E H U) n _ ⟨_,_,_,_,_,E,H,by rw[V],S⟩
def lp6{e:D->D->D->D->D->D->Fr}(B I M N O S:Nat){h1:Nat->D->D->D->D->D->D->R->Prop}(h:∀n(x0 x1 x2 x3 x4 x5:D)(E:Rs)(H:R),h1 n x0 x1 x2 x3 x4 x5 H->iG P X (sub (BG P g) p) (ay P g (e x0 x1 x2 x3 x4 x5) E H) (IW (λm s=>∃(x0 x1 x2 x3 x4 x5:D)(E:Rs)(H:R),s=ay P g (e x0 x1 x2 x3 x4 x5) E H/\h1 m x0 x1 x2 x3 x4 x5 H) n K))(n:Nat)(U:h1 n (lk sl [] B) (lk sl [] I) (lk sl [] M) (lk sl [] N) (lk sl [] O) (lk sl [] S) H)(Y:∀x0 x1 x2 x3 x4 x5,up (up (up (up (up (up sl B x0) I x1) M x2) N x3) O x4) S x5=e x0 x1 x2 x3 x4 x5:=by intros;conv=>lhs;simp only[Jt,Ju,↓reduceIte,dG,Nat.reduceBEq])(W:e (lk sl [] B) (lk sl [] I) (lk sl [] M) (lk sl [] N) (lk sl [] O) (lk sl [] S)=sl:=by rfl):iG P X (.loop<|sub (BG P g) p) (ay P g sl E H) K:=
 iG.Et (az:=λm s=>∃(x0 x1 x2 x3 x4 x5:D)(E:Rs)(H:R),s=ay P g (e x0 x1 x2 x3 x4 x5) E H/\h1 m x0 x1 x2 x3 x4 x5 H) (λn s hs=>by obtain⟨x0,x1,x2,x3,x4,x5,E,H,rfl,V⟩:=hs;exact h n x0 x1 x2 x3 x4 x5 E H V) n _ ⟨_,_,_,_,_,_,E,H,by rw[W],U⟩
def lp7{e:D->D->D->D->D->D->D->Fr}(B I M N O S U:Nat){h1:Nat->D->D->D->D->D->D->D->R->Prop}(h:∀n(x0 x1 x2 x3 x4 x5 x6:D)(E:Rs)(H:R),h1 n x0 x1 x2 x3 x4 x5 x6 H->iG P X (sub (BG P g) p) (ay P g (e x0 x1 x2 x3 x4 x5 x6) E H) (IW (λm s=>∃(x0 x1 x2 x3 x4 x5 x6:D)(E:Rs)(H:R),s=ay P g (e x0 x1 x2 x3 x4 x5 x6) E H/\h1 m x0 x1 x2 x3 x4 x5 x6 H) n K))(n:Nat)(V:h1 n (lk sl [] B) (lk sl [] I) (lk sl [] M) (lk sl [] N) (lk sl [] O) (lk sl [] S) (lk sl [] U) H)(hu:∀x0 x1 x2 x3 x4 x5 x6,up (up (up (up (up (up (up sl B x0) I x1) M x2) N x3) O x4) S x5) U x6=e x0 x1 x2 x3 x4 x5 x6:=by intros;conv=>lhs;simp only[Jt,Ju,↓reduceIte,dG,Nat.reduceBEq])(Y:e (lk sl [] B) (lk sl [] I) (lk sl [] M) (lk sl [] N) (lk sl [] O) (lk sl [] S) (lk sl [] U)=sl:=by rfl):iG P X (.loop<|sub (BG P g) p) (ay P g sl E H) K:=
 iG.Et (az:=λm s=>∃(x0 x1 x2 x3 x4 x5 x6:D)(E:Rs)(H:R),s=ay P g (e x0 x1 x2 x3 x4 x5 x6) E H/\h1 m x0 x1 x2 x3 x4 x5 x6 H) (λn s hs=>by obtain⟨x0,x1,x2,x3,x4,x5,x6,E,H,rfl,W⟩:=hs;exact h n x0 x1 x2 x3 x4 x5 x6 E H W) n _ ⟨_,_,_,_,_,_,_,E,H,by rw[Y],V⟩
def lp8{e:D->D->D->D->D->D->D->D->Fr}(B I M N O S U V:Nat){h1:Nat->D->D->D->D->D->D->D->D->R->Prop}(h:∀n(x0 x1 x2 x3 x4 x5 x6 x7:D)(E:Rs)(H:R),h1 n x0 x1 x2 x3 x4 x5 x6 x7 H->iG P X (sub (BG P g) p) (ay P g (e x0 x1 x2 x3 x4 x5 x6 x7) E H) (IW (λm s=>∃(x0 x1 x2 x3 x4 x5 x6 x7:D)(E:Rs)(H:R),s=ay P g (e x0 x1 x2 x3 x4 x5 x6 x7) E H/\h1 m x0 x1 x2 x3 x4 x5 x6 x7 H) n K))(n:Nat)(W:h1 n (lk sl [] B) (lk sl [] I) (lk sl [] M) (lk sl [] N) (lk sl [] O) (lk sl [] S) (lk sl [] U) (lk sl [] V) H)(hu:∀x0 x1 x2 x3 x4 x5 x6 x7,up (up (up (up (up (up (up (up sl B x0) I x1) M x2) N x3) O x4) S x5) U x6) V x7=e x0 x1 x2 x3 x4 x5 x6 x7:=by intros;conv=>lhs;simp only[Jt,Ju,↓reduceIte,dG,Nat.reduceBEq])(he:e (lk sl [] B) (lk sl [] I) (lk sl [] M) (lk sl [] N) (lk sl [] O) (lk sl [] S) (lk sl [] U) (lk sl [] V)=sl:=by rfl):iG P X (.loop<|sub (BG P g) p) (ay P g sl E H) K:=
 iG.Et (az:=λm s=>∃(x0 x1 x2 x3 x4 x5 x6 x7:D)(E:Rs)(H:R),s=ay P g (e x0 x1 x2 x3 x4 x5 x6 x7) E H/\h1 m x0 x1 x2 x3 x4 x5 x6 x7 H) (λn s hs=>by obtain⟨x0,x1,x2,x3,x4,x5,x6,x7,E,H,rfl,Y⟩:=hs;exact h n x0 x1 x2 x3 x4 x5 x6 x7 E H Y) n _ ⟨_,_,_,_,_,_,_,_,E,H,by rw[he],W⟩
def lp9{e:D->D->D->D->D->D->D->D->D->Fr}(B I M N O S U V W:Nat){h1:Nat->D->D->D->D->D->D->D->D->D->R->Prop}(h:∀n(x0 x1 x2 x3 x4 x5 x6 x7 x8:D)(E:Rs)(H:R),h1 n x0 x1 x2 x3 x4 x5 x6 x7 x8 H->iG P X (sub (BG P g) p) (ay P g (e x0 x1 x2 x3 x4 x5 x6 x7 x8) E H) (IW (λm s=>∃(x0 x1 x2 x3 x4 x5 x6 x7 x8:D)(E:Rs)(H:R),s=ay P g (e x0 x1 x2 x3 x4 x5 x6 x7 x8) E H/\h1 m x0 x1 x2 x3 x4 x5 x6 x7 x8 H) n K))(n:Nat)(Y:h1 n (lk sl [] B) (lk sl [] I) (lk sl [] M) (lk sl [] N) (lk sl [] O) (lk sl [] S) (lk sl [] U) (lk sl [] V) (lk sl [] W) H)(hu:∀x0 x1 x2 x3 x4 x5 x6 x7 x8,up (up (up (up (up (up (up (up (up sl B x0) I x1) M x2) N x3) O x4) S x5) U x6) V x7) W x8=e x0 x1 x2 x3 x4 x5 x6 x7 x8:=by intros;conv=>lhs;simp only[Jt,Ju,↓reduceIte,dG,Nat.reduceBEq])(he:e (lk sl [] B) (lk sl [] I) (lk sl [] M) (lk sl [] N) (lk sl [] O) (lk sl [] S) (lk sl [] U) (lk sl [] V) (lk sl [] W)=sl:=by rfl):iG P X (.loop<|sub (BG P g) p) (ay P g sl E H) K:=
 iG.Et (az:=λm s=>∃(x0 x1 x2 x3 x4 x5 x6 x7 x8:D)(E:Rs)(H:R),s=ay P g (e x0 x1 x2 x3 x4 x5 x6 x7 x8) E H/\h1 m x0 x1 x2 x3 x4 x5 x6 x7 x8 H) (λn s hs=>by obtain⟨x0,x1,x2,x3,x4,x5,x6,x7,x8,E,H,rfl,hI⟩:=hs;exact h n x0 x1 x2 x3 x4 x5 x6 x7 x8 E H hI) n _ ⟨_,_,_,_,_,_,_,_,_,E,H,by rw[he],Y⟩
def ajl{e:D->D->D->D->D->D->D->D->D->D->Fr}(B I M N O S U V W Y:Nat){h1:Nat->D->D->D->D->D->D->D->D->D->D->R->Prop}(h:∀n(x0 x1 x2 x3 x4 x5 x6 x7 x8 x9:D)(E:Rs)(H:R),h1 n x0 x1 x2 x3 x4 x5 x6 x7 x8 x9 H->iG P X (sub (BG P g) p) (ay P g (e x0 x1 x2 x3 x4 x5 x6 x7 x8 x9) E H) (IW (λm s=>∃(x0 x1 x2 x3 x4 x5 x6 x7 x8 x9:D)(E:Rs)(H:R),s=ay P g (e x0 x1 x2 x3 x4 x5 x6 x7 x8 x9) E H/\h1 m x0 x1 x2 x3 x4 x5 x6 x7 x8 x9 H) n K))(n:Nat)(h0:h1 n (lk sl [] B) (lk sl [] I) (lk sl [] M) (lk sl [] N) (lk sl [] O) (lk sl [] S) (lk sl [] U) (lk sl [] V) (lk sl [] W) (lk sl [] Y) H)(hu:∀x0 x1 x2 x3 x4 x5 x6 x7 x8 x9,up (up (up (up (up (up (up (up (up (up sl B x0) I x1) M x2) N x3) O x4) S x5) U x6) V x7) W x8) Y x9=e x0 x1 x2 x3 x4 x5 x6 x7 x8 x9:=by intros;conv=>lhs;simp only[Jt,Ju,↓reduceIte,dG,Nat.reduceBEq])(he:e (lk sl [] B) (lk sl [] I) (lk sl [] M) (lk sl [] N) (lk sl [] O) (lk sl [] S) (lk sl [] U) (lk sl [] V) (lk sl [] W) (lk sl [] Y)=sl:=by rfl):iG P X (.loop<|sub (BG P g) p) (ay P g sl E H) K:=
 iG.Et (az:=λm s=>∃(x0 x1 x2 x3 x4 x5 x6 x7 x8 x9:D)(E:Rs)(H:R),s=ay P g (e x0 x1 x2 x3 x4 x5 x6 x7 x8 x9) E H/\h1 m x0 x1 x2 x3 x4 x5 x6 x7 x8 x9 H) (λn s hs=>by obtain⟨x0,x1,x2,x3,x4,x5,x6,x7,x8,x9,E,H,rfl,hI⟩:=hs;exact h n x0 x1 x2 x3 x4 x5 x6 x7 x8 x9 E H hI) n _ ⟨_,_,_,_,_,_,_,_,_,_,E,H,by rw[he],h0⟩
def alZ{M:D->D->D->D->D->D->D->D->D->D->D->D->D->D->Fr}(V W Y a3 a4 a5 a6 a7 a8 a9 N O S U:Nat){h1:Nat->D->D->D->D->D->D->D->D->D->D->D->D->D->D->R->Prop}(h:∀n(x0 x1 x2 x3 x4 x5 x6 x7 x8 x9 e B I ko:D)(E:Rs)(H:R),h1 n x0 x1 x2 x3 x4 x5 x6 x7 x8 x9 e B I ko H->iG P X (sub (BG P g) p) (ay P g (M x0 x1 x2 x3 x4 x5 x6 x7 x8 x9 e B I ko) E H) (IW (λm s=>∃(x0 x1 x2 x3 x4 x5 x6 x7 x8 x9 e B I ko:D)(E:Rs)(H:R),s=ay P g (M x0 x1 x2 x3 x4 x5 x6 x7 x8 x9 e B I ko) E H/\h1 m x0 x1 x2 x3 x4 x5 x6 x7 x8 x9 e B I ko H) n K))(n:Nat)(h0:h1 n (lk sl [] V) (lk sl [] W) (lk sl [] Y) (lk sl [] a3) (lk sl [] a4) (lk sl [] a5) (lk sl [] a6) (lk sl [] a7) (lk sl [] a8) (lk sl [] a9) (lk sl [] N) (lk sl [] O) (lk sl [] S) (lk sl [] U) H)(hu:∀x0 x1 x2 x3 x4 x5 x6 x7 x8 x9 e B I ko,up (up (up (up (up (up (up (up (up (up (up (up (up (up sl V x0) W x1) Y x2) a3 x3) a4 x4) a5 x5) a6 x6) a7 x7) a8 x8) a9 x9) N e) O B) S I) U ko=M x0 x1 x2 x3 x4 x5 x6 x7 x8 x9 e B I ko:=by intros;conv=>lhs;simp only[Jt,Ju,↓reduceIte,dG,Nat.reduceBEq])(he:M (lk sl [] V) (lk sl [] W) (lk sl [] Y) (lk sl [] a3) (lk sl [] a4) (lk sl [] a5) (lk sl [] a6) (lk sl [] a7) (lk sl [] a8) (lk sl [] a9) (lk sl [] N) (lk sl [] O) (lk sl [] S) (lk sl [] U)=sl:=by rfl):iG P X (.loop<|sub (BG P g) p) (ay P g sl E H) K:=
 iG.Et (az:=λm s=>∃(x0 x1 x2 x3 x4 x5 x6 x7 x8 x9 e B I ko:D)(E:Rs)(H:R),s=ay P g (M x0 x1 x2 x3 x4 x5 x6 x7 x8 x9 e B I ko) E H/\h1 m x0 x1 x2 x3 x4 x5 x6 x7 x8 x9 e B I ko H) (λn s hs=>by obtain⟨x0,x1,x2,x3,x4,x5,x6,x7,x8,x9,e,B,I,ko,E,H,rfl,hI⟩:=hs;exact h n x0 x1 x2 x3 x4 x5 x6 x7 x8 x9 e B I ko E H hI) n _ ⟨_,_,_,_,_,_,_,_,_,_,_,_,_,_,E,H,by rw[he],h0⟩
end gen
end Go.Ae.hx
namespace Go.Ae
variable{H Q H0:R}{args rest vs:C D}{m:Mp}{g:FuncId}{w:cZ}{c es n r:Nat}{ty:aH}{L:C eB}{v:D}
def hpT(n:Nat)(e t2:aH):R:=⟨Tr.set .dead (Tr.set .dead .nil 1<|xz e .u8 Fu) 2<|xz t2 .u8 KE,n,n⟩
def age(n:Nat)(e t2:aH)(r:Nat):(hpT n e t2).obj r=if r=2 then xz t2 .u8 KE else if r=1 then xz e .u8 Fu else .dead:=by
 show(Tr.set .dead (Tr.set .dead .nil 1<|xz e .u8 Fu) 2<|xz t2 .u8 KE).get .dead r=_;rw[Tr.w9,Tr.w9,Tr.get_nil]
def TE(Y:RH m H w)(U:Gl n m)(V:r<n){k:gm}{l:C Nat}(h:H.obj r=xz ty k l):TabAt w (xz ty k l) r:=by
 have⟨lc,I,W,h3,h4⟩:=U r V;have⟨o,h5,h6⟩:=Y.ok r lc I;rw[W]at h5;rw[h]at h6;cases o with
 |cells f e fr=>
  have⟨⟨B,_⟩,e2,e3,e4,e5,e6,e7⟩:=h6;have B:e=ty:=B;subst B;refine .inr ⟨e,k,l,f,fr,O,h5,λi z S=>?_⟩;have hi:i<J l:=(bI.1 S).1;have M:i<(len l):=by rw[ig];exact hi
  have⟨v,g1,g2⟩:=e7 i N M;rw[h4,h3,bB,mD]at g1;have:VR m ((Tr.uY top (mp (λn=>bq k<|Int.ofNat n) l) 0 .nil).get top i) v:=g2;rw[Tr.nY,G6,if_pos K4,aU,mD,bK,S]at this;rw[g1,this.of_int];rfl
 |_=>exact absurd h6 id
def agf(B:RH m H w)(e:Gl n m):n<=w.heap.size:=by
 cases n with
 |zero=>exact bD _
 |succ n=>
  have⟨lc,I,W,_⟩:=e n<|dI n;have⟨o,h5,_⟩:=B.ok n lc I;have:=qD h5;omega
def RH.below{w':cZ}(M:RH m H w)(e:Go.RowKit.Below w.heap.size w w'):RH m H w'/\Ex m m H H w w':=by
 refine⟨⟨M.dom,λr l O=>?_,M.sep⟩,?_⟩
 .have⟨o,I,W⟩:=M.ok r l O;exact⟨o,by rw[e.block _ (qD I)];exact I,W⟩
 .exact⟨λ_ _ h=>h,λr l h B=>(by rw[h]at B;cases B),λr l h B=>(by rw[h]at B;cases B),e.os,e.tape,e.output,e.size,λc N _=>e.block c N,ax _,ax _,λ_ _ _=>rfl,λ_ _ _=>rfl⟩
section mem
variable{P:aX}
def agh{X:Xt}{k:Nat}(hn:3<=n)(Y:P.follows .mixedOrders=F)(hP:Ei P n)(hX:XOk P X)(hO:Mj P X n){B:Func}(hg:P.funcs[g]?=Z B)(hb:B.body.isSome=F)(h:∀S t2,ab2 n F (lW P X k g []<|hpT n S t2)=F)(ho:orT args H=Z (v,Q)):
 (∃B,P.funcs[g]?=Z B/\B.body.isSome=F)/\∀m w args',RH m H w->Gl n m->mX m args args'->
  Calls P g ⟨args'⟩ w λe w'=>∃m' v',e=.returned v'/\VR m' v v'/\RH m' Q w'/\Ex m m' H Q w w':=by
 obtain⟨rfl,hT,rfl,rfl⟩:=ajg ho;refine⟨⟨B,hg,hb⟩,λm w args' M U ha=>?_⟩;cases ha;have⟨h0,S,t2,e1,e2⟩:=hT;have⟨H1,I,W⟩:=ab3<|h S t2;refine(VF (H:=hpT n S t2) Y hP hX hO hg hb I W O O (agf M U) ?_).mono ?_
 .intro r hr;rw[age]
  by_cases r2:r=2
  .subst r2;rw[if_pos O];exact TE M U N e2
  .rw[if_neg r2]
   by_cases r1:r=1
   .subst r1;rw[if_pos O];exact TE M U N e1
   .rw[if_neg r1];exact .inl O
 .rintro e w' ⟨rfl,V⟩;have⟨g1,g2⟩:=M.below V;exact⟨m,.bool F,O,.sc _ O,g1,g2⟩
end mem
section
open Go.Sort
section turn
def RH.grown(M:RH m H w)(n:Nat)(os:Array Obj):RH m H (grow (Sort.ahead w n) os)/\Ex m m H H w (grow (Sort.ahead w n) os):=by
 have N:∀c,c<w.heap.size->(grow (Sort.ahead w n) os).heap[c]?=w.heap[c]?:=λc B=>by
  show(w.heap++os)[c]?=_;rw[tV B]
 refine⟨⟨M.dom,λr l O=>?_,M.sep⟩,?_⟩
 .have⟨o,I,W⟩:=M.ok r l O;exact⟨o,by rw[N _ (qD I)];exact I,W⟩
 .exact⟨λ_ _ h=>h,λr l h e=>(by rw[h]at e;cases e),λr l h e=>(by rw[h]at e;cases e),rfl,rfl,rfl,by show w.heap.size<=(w.heap++os).size;simp,λc B _=>N c B,ax _,ax _,λ_ _ _=>rfl,λ_ _ _=>rfl⟩
theorem RH.turn(V:RH m H w){off:Nat}{l:Loc}(h:H.write r off vs=Z Q)(hv:mX m vs vs)(hn:vs≠[])(U:m r=Z l)(hl:l.lo<=off)(n:Nat)(os:Array Obj):
 (RH m Q (grow (putRow id (Sort.ahead w n) l.c (l.base+(off-l.lo)) vs.toArray) os)/\Ex m m H Q w (grow (putRow id (Sort.ahead w n) l.c (l.base+(off-l.lo)) vs.toArray) os))/\
 l.c<w.heap.size/\∀j,w.frozen? ⟨l.c,l.base+(off-l.lo)+j,T⟩=aA:=by
 cases vs with
 |nil=>exact absurd O hn
 |cons v x=>
  replace h:(aN (xN<|H.obj r) λw=>
   gd (!w.mR&&aD (a_ off<|len<|v::x) w.n&&aD w.fz off&&all' fZ (v::x))
   (Z<|H.put r<|.row ⟨w.ty,Tr.uY top (v::x) off w.cells,w.n,aA,w.fz⟩))=Z Q:=h
  have⟨az,hR,h⟩:=aM h;have⟨e,h⟩:=gN h;cases h;have B:=vN hR;simp only[bE,ig,all_eq]at e;have⟨⟨⟨g0,Y⟩,g2⟩,g3⟩:=e;have Y:off+(v::x).length<=az.n:=aF Y;have g2:=aF g2;have⟨f,fr,hb,hnn,W,h3,h4,h5,h6⟩:=row_of V U B;have I:=h5<|nZ g0;have hc:=qD hb
  have e1:(putRow id (Sort.ahead w n) l.c (l.base+(off-l.lo)) (v::x).toArray).heap[l.c]?=Z (.cells (putCells id (l.base+(off-l.lo)) (v::x).toArray f) az.ty fr):=by
   show(w.heap.modify l.c<|onCells _)[l.c]?=_;rw[jD,if_pos O,hb];rfl
  have hu:=RH.update V r l (.row ⟨az.ty,Tr.uY top (v::x) off az.cells,az.n,aA,az.fz⟩) (.cells (putCells id (l.base+(off-l.lo)) (v::x).toArray f) az.ty fr) U (by rw[B];simp) ?_ e1 gD (λc h=>by
   show(w.heap.modify l.c<|onCells _)[c]?=_;rw[jD,if_neg<|qJ h]) O O O
  .have e:=hu.1.grown 0 os;refine⟨⟨e.1,hu.2.trans e.2⟩,hc,λj=>?_⟩;show(match w.heap[l.c]? with|some (.cells _ _ (lo,hi))=>lo<=l.base+(off-l.lo)+j&&l.base+(off-l.lo)+j<hi|_=>aA)=aA;rw[hb];show(decide (fr.1<=_)&&decide (_<fr.2))=aA;rw[Bool.and_eq_false_iff];exact .inr<|dR N
  .refine⟨⟨O,base_of V U B⟩,hnn,by simp[putCells,W],h3,h4,λ_=>I,?_⟩;intro i a b;rw[Tr.nY];have⟨ai,hu1,hu2⟩:=h6 i a b
   have e2:(putCells id (l.base+(off-l.lo)) (v::x).toArray f)[l.base+(i-l.lo)]?=Z (if l.base+(off-l.lo)<=l.base+(i-l.lo)/\l.base+(i-l.lo)<l.base+(off-l.lo)+(v::x).length then(v::x).toArray[l.base+(i-l.lo)-(l.base+(off-l.lo))]! else ai):=by
    unfold putCells;rw[wG,hu1];rfl
   rw[e2]
   by_cases hin:off<=i/\i<off+(v::x).length
   .rw[if_pos N,if_pos hin,show l.base+(i-l.lo)-(l.base+(off-l.lo))=i-off from N];have S:i-off<(v::x).length:=N
    have M:(v::x)[i-off]?=Z ((v::x).getD (i-off) top):=by
     rw[aU,av S];rfl
    have⟨ai,hu1,hu2⟩:=hv.get (i-off) M;refine⟨_,O,?_⟩
    have:(v::x).toArray[i-off]! =ai:=by
     rw[rG,List.getElem!_eq_getElem?_getD,hu1];rfl
    rw[this];exact hu2
   .rw[if_neg N,if_neg hin];exact⟨ai,O,hu2⟩
def mX.row(h:mX m (u (Z ⟨r,0,T⟩) (n+1) c::rest) args):∃l c' rest',m r=Z l/\l.lo<=0/\mX m rest rest'/\args=u (Z ⟨l.c,l.base+(0-l.lo),T⟩) (n+1) c'::rest':=by
 cases h with
 |cons _ Y _ x' B M=>
  cases B with
  |sc _ h=>exact Bool.noConfusion h
  |slice _ _ _ _ l h e U V=>exact⟨l,_,_,h,e,M,O⟩
  |uP _ _ _ _ I l h e S W N hN=>exact⟨l,_,_,h,e,M,O⟩
end turn
section rows
variable{α:Type}(enc:α->C D)(cs:C α->C α)
open Classical in
def orW(es:Nat)(rest:C D):C D->R->aC (D×R)
 |.slice (Z ⟨r,0,T⟩) (n+1) _::l,H=>
  if h:l=rest/\n<1000000/\∃zs:C α,J zs=n+1/\H.read r 0 ((n+1)*es)=Z (zs.flatMap enc)then
   (H.write r 0<|(cs h.2.2.choose).flatMap enc).map λQ=>(.tuple ⟨[]⟩,Q)else T
 |_,_=>T
structure Put(es:Nat):Prop where
 len:∀x,J (enc x)=es
 pos:0<es
 sc:∀x,∀v∈enc x,o7 v=F/\fZ v=F
 perm:∀zs,(cs zs).Perm zs
variable{enc cs}
def Put.flat(e:Put enc cs es):∀zs:C α,J (zs.flatMap enc)=J zs*es
 |[]=>(jm _).symm
 |z::zs=>by rw[lZ,aS,e.len,e.flat zs,cO,jR];omega
theorem Put.scs(e:Put enc cs es)(zs:C α):(zs.flatMap enc).all o7=F:=fE.2 λv B=>by
 have⟨x,_,M⟩:=sZ.1 B;exact(e.sc x v M).1
def Put.el(e:Put enc cs es):∀(zs:C α)(k:Nat)(hk:k<J zs)(eY:C D),El (zs.flatMap enc++eY) es k=enc zs[k]
 |z::zs,0,_,eY=>by
  unfold El;rw[jm,jE,lZ,cz,<-e.len z,rV];rfl
 |z::zs,k+1,hk,eY=>by
  have:=e.el zs k (Nat.lt_of_succ_lt_succ hk) eY;unfold El at this|-;rw[jR,Nat.add_comm,<-pN,lZ,cz,<-e.len z,List.drop_left,e.len z];exact this
def adi{P:aX}(S:Put enc cs es){args':C D}(ho:orW enc cs es rest args H=Z (v,Q))(rh:RH m H w)(ha:mX m args args')(hc:∀(B off cap:Nat)(zs:C α)(rest':C D),(∃r c,args=u (Z ⟨r,0,T⟩) (J zs) c::rest)->mX m rest rest'->0<J zs->J zs<=1000000->B<w.heap.size->(∀j v,(zs.flatMap enc)[j]?=Z v->w.cell? ⟨B,off+j,T⟩=Z v/\w.frozen? ⟨B,off+j,T⟩=aA)->
  Calls P g ⟨u (Z ⟨B,off,T⟩) (J zs) cap::rest'⟩ w λe w'=>e=.returned (.tuple #[])/\∃n os,w'=grow (putRow id (Sort.ahead w n) B off ((cs zs).flatMap enc).toArray) os):
 Calls P g ⟨args'⟩ w λe w'=>∃m' v',e=.returned v'/\VR m' v v'/\RH m' Q w'/\Ex m m' H Q w w':=by
 unfold orW at ho;split at ho
 .next r n c l=>
  split at ho
  .next h=>
   have⟨H1,h3,ho⟩:=Option.map_eq_some_iff.1 ho;cases ho;have⟨W,I⟩:=h.2.2.choose_spec;generalize h.2.2.choose=zs at I W h3;obtain⟨rfl,hn,_⟩:=h;obtain⟨M,c',rest',hm,hl,hr,rfl⟩:=ha.row;have⟨vs',U,g2,g3⟩:=Hq rh I hm hl;have U:=U.xY<|S.scs _;subst U;have Y:J (cs zs)=n+1:=(S.perm zs).length_eq.trans W
   have V:(cs zs).flatMap enc≠[]:=λe=>by
    have h:=S.flat<|cs zs;rw[e,Y]at h;exact absurd h<|Nat.ne_of_lt<|tF (wY n) S.pos
   have ht:=λk os=>RH.turn rh h3 (mX.o7<|S.scs _) V hm hl k os
   have:=hc M.c (M.base+(0-M.lo)) c' zs rest' ⟨r,c,by rw[W]⟩ hr N N (ht 0 #[]).2.1 λj v hj=>by
    refine⟨?_,(ht 0 #[]).2.2 j⟩;have:=g3 j v hj
    have e:(⟨M.c,M.base+(0-M.lo),T⟩:Addr).add j=⟨M.c,M.base+(0-M.lo)+j,T⟩:=by
     unfold Addr.add;split
     .next h=>subst h;rfl
     .rfl
    rw[e]at this;exact this
   rw[W]at this;apply this.mono;rintro e w' ⟨rfl,k,os,rfl⟩;exact⟨m,_,O,.tuple _ _ .nil,(ht k os).1⟩
  .cases ho
 .cases ho
def SB.put(S:Put enc cs es){H':C D->Prop}(hQ:∀l,H' l->∃x,l=enc x)(hn:n<1000000)(hB:SB H' r ty es (n+1) H0 H L):
 ∃Q,orW enc cs es rest (u (Z ⟨r,0,T⟩) (n+1) c::rest) H=Z (.tuple ⟨[]⟩,Q)/\SB H' r ty es (n+1) H0 Q L:=by
 have⟨f,I,W,G⟩:=hB
 have Y:∀k,k<=n+1->∃B:C α,J B=k/\f.take (k*es)=B.flatMap enc:=by
  intro k
  induction k with
  |zero=>exactλ_=>⟨[],rfl,by rw[jm];rfl⟩
  |succ k ih=>
   intro hk;have⟨B,g1,g2⟩:=ih N;have⟨x,M⟩:=hQ _<|W k N;refine⟨B++[x],by simp[g1],?_⟩;rw[jR,List.take_add,g2,List.flatMap_append,lZ,List.flatMap_nil,bF,<-M];rfl
 have⟨zs0,g1,g2⟩:=Y (n+1)<|ax _
 have hr:H.read r 0 ((n+1)*es)=Z (zs0.flatMap enc):=by
  rw[(G.get 0 O).read N,jE,g2]
 have M:∃B:C α,J B=n+1/\H.read r 0 ((n+1)*es)=Z (B.flatMap enc):=⟨zs0,g1,hr⟩;have⟨z1,V⟩:=M.choose_spec
 have e0:orW enc cs es rest (u (Z ⟨r,0,T⟩) (n+1) c::rest) H=(H.write r 0<|(cs M.choose).flatMap enc).map λQ=>(.tuple ⟨[]⟩,Q):=by
  unfold orW;exact dif_pos ⟨O,hn,M⟩
 generalize M.choose=B at z1 V e0;rw[hr]at V;have V:=eF V;have hl:J ((cs B).flatMap enc)=(n+1)*es:=by rw[S.flat,(S.perm B).length_eq,z1]
 have⟨Q,e1,e2,e3⟩:=G.zl 0 (o:=0) (vs:=(cs B).flatMap enc) O N (by
  rw[all_eq,fE];intro v hv;have⟨x,_,M⟩:=sZ.1 hv;exact(S.sc x v M).2)
 refine⟨Q,by rw[e0,e1];rfl,_,?_,?_,e2⟩
 .rw[og N];exact I
 .intro k hk;have U:k<J (cs B):=by rw[(S.perm B).length_eq,z1];exact hk
  show H'<|El (splice f 0 _) es k;have e:splice f 0 ((cs B).flatMap enc)=(cs B).flatMap enc++f.drop (0+J ((cs B).flatMap enc)):=by unfold splice;rw[kT,bZ]
  rw[e,S.el _ _ U];have⟨j,hj,ej⟩:=kQ.1<|(S.perm B).mem_iff.1<|bH U;have:=S.el B j hj<|f.drop<|(n+1)*es;rw[<-V,<-g2,iM]at this;rw[<-ej,<-this];exact W j N
end rows
def enI(z:Int):C D:=[.int .i64 z]
def srt(zs:C Int):C Int:=zs.mergeSort λx y=>decide<|x<=y
def al0:Put enI srt 1:=⟨λ_=>rfl,Nat.one_pos,λx v h=>by rw[aT.1 h];exact⟨O,O⟩,λe=>List.mergeSort_perm e _⟩
def enR(x:Int×Int):C D:=[.int .i32 x.1,.int .i32 x.2]
def ltR(x y:Int×Int):Bool:=decide<|x.1<y.1
def al1:SWO ltR where
 irrefl x:=by simp[ltR]
 trans x y z I W:=by simp[ltR]at*;omega
 ntrans x y z I W:=by simp[ltR]at*;omega
def fR(l:Nat)(zs:C<|Int×Int):C (Int×Int):=(pdq ltR zs.toArray 0 (J zs) l F F).toList
def agi(l:Nat):Put enR (fR l) 2:=⟨λ_=>rfl,Nat.zero_lt_two,λx v h=>by simp[enR]at h;rcases h with rfl|rfl<;>exact⟨O,O⟩,λB=>by
 have⟨I,_,W⟩:=(pdq_sorts ltR al1 B.toArray 0 (J B) l F F (bD _) (ax _)<|.inl O).1;have e:∀d:Array<|Int×Int,d.size=J B->(d.extract 0<|J B).toList=d.toList:=λd M=>by rw[<-M,Array.extract_size]
 rw[e _ I,e _ O]at W;exact W⟩
def agj:C D->Nat
 |_::_::_::.int _ l::_=>l.toNat
 |_=>0
def orR(cv:D):C D->R->aC (D×R)
 |.slice a (n+1) c::l,H=>if agj (u a (n+1) c::l)<=64 then orW enR (fR<|agj<|u a (n+1) c::l) 2 [.int .i64 0,.int .i64 ((n+1:Nat):Int),.int .i64 (agj (u a (n+1) c::l):Nat),cv] (u a (n+1) c::l) H else T
 |_,_=>T
def SB.al2{cv:D}{l:Nat}(I:n<1000000)(hl:l<=64)(B:SB Tu r ty 2 (n+1) H0 H L):
 ∃Q,orR cv [u (Z ⟨r,0,T⟩) (n+1) c,.int .i64 0,.int .i64 ((n+1:Nat):Int),.int .i64 (l:Nat),cv] H=Z (.tuple ⟨[]⟩,Q)/\SB Tu r ty 2 (n+1) H0 Q L:=by
 have⟨Q,e,h⟩:=SB.put (agi l) (λx ⟨a,b,h⟩=>⟨(a,b),h⟩) (rest:=[.int .i64 0,.int .i64 ((n+1:Nat):Int),.int .i64 (l:Nat),cv]) (c:=c) I B;exact⟨Q,(if_pos hl).trans e,h⟩
def bQ.orc{P:aX}{X:Xt}{K:D->R->Prop}(h:X.o g args H=Z (v,Q))(k:K v Q):bQ P X g args H K:=⟨v,Q,⟨1,Ej h⟩,k⟩
end
end Go.Ae
namespace Go.Proofs.Lu
open Go.Ae Go.Ae.hx
variable{K:D->R->Prop}{vn p:Prop}{A:(Out->Prop)->Prop}{b:Bool}
abbrev Pg:aX:=Tryz.prog
def X:Xt:=⟨λg=>cr (aB g 239) 1<|cr (aB g 220) 3 0,λg args H=>cr (aB g 33) (orT args H)<|cr (aB g 160) (orW enI srt 1 [] args H)<|cr (aB g 249) (orR (.func (.func 242) ⟨[]⟩ ⟨[]⟩) args H) T⟩
abbrev DT:Code:=BG Pg 43
abbrev KH:Code:=BG Pg 49
abbrev Oy:Code:=BG Pg 52
abbrev zF:Code:=BG Pg 57
abbrev jd:Code:=BG Pg 70
abbrev f_:Code:=BG Pg 72
abbrev Fv:Code:=BG Pg 73
abbrev yh:Code:=BG Pg 74
abbrev qR:Code:=BG Pg 77
abbrev EB:Code:=BG Pg 89
abbrev Il:Code:=BG Pg 92
abbrev Kb:Code:=BG Pg 93
abbrev adj:Code:=BG Pg 94
abbrev y_:Code:=BG Pg 95
abbrev wU:Code:=BG Pg 102
abbrev Dl:Code:=BG Pg 103
abbrev oC:Code:=BG Pg 106
abbrev qZ:Code:=BG Pg 109
abbrev Im:Code:=BG Pg 115
abbrev nO:Code:=BG Pg 120
abbrev zQ:Code:=BG Pg 123
abbrev pK:Code:=BG Pg 124
abbrev EC:Code:=BG Pg 125
abbrev nW:Code:=BG Pg 134
abbrev Cw:Code:=BG Pg 135
abbrev DU:Code:=BG Pg 136
abbrev lK:Code:=BG Pg 137
abbrev oD:Code:=BG Pg 140
abbrev Fw:Code:=BG Pg 147
abbrev EF:Code:=BG Pg 148
abbrev nC:Code:=BG Pg 157
abbrev iL:Code:=BG Pg 165
abbrev MY:Code:=BG Pg 170
abbrev zm:Code:=BG Pg 171
abbrev Io:Code:=BG Pg 175
abbrev QZ:Code:=BG Pg 185
abbrev oF:Code:=BG Pg 186
abbrev mH:Code:=BG Pg 194
abbrev adk:Code:=BG Pg 199
abbrev EG:Code:=BG Pg 201
abbrev Dm:Code:=BG Pg 203
abbrev DV:Code:=BG Pg 205
abbrev Ip:Code:=BG Pg 218
abbrev yE:Code:=BG Pg 219
abbrev MZ:Code:=BG Pg 222
abbrev pP:Code:=BG Pg 226
abbrev AQ:Code:=BG Pg 227
abbrev EH:Code:=BG Pg 228
abbrev rA:Code:=BG Pg 240
abbrev DC:Code:=BG Pg 246
abbrev yj(x0 x2 x3 x4 x5 x6 x7:D)(E:Rs)(H:R):St:=ay Pg 43 (.c 0 x0<|.c 2 x2<|.c 3 x3<|.c 4 x4<|.c 5 x5<|.c 6 x6<|.c 7 x7<|.n) E H
abbrev Jv(x0 x2 x3:D)(E:Rs)(H:R):St:=ay Pg 49 (.c 0 x0<|.c 2 x2<|.c 3 x3<|.n) E H
abbrev EI(x0 x1 x2 x3 x4 x5 x6 x7 x8 S e B I O M N:D)(E:Rs)(H:R):St:=ay Pg 52 (.c 0 x0<|.c 1 x1<|.c 2 x2<|.c 3 x3<|.c 4 x4<|.c 5 x5<|.c 6 x6<|.c 7 x7<|.c 8 x8<|.c 10 S<|.c 26 e<|.c 27 B<|.c 28 I<|.c 37 O<|.c 38 M<|.c 39 N<|.n) E H
abbrev DW(x0 x1 x2 x3 x4 x5 mP ko mM rP O xC e yu zV B S I M N U Y W V:D)(E:Rs)(H:R):St:=ay Pg 57 (.c 0 x0<|.c 1 x1<|.c 2 x2<|.c 3 x3<|.c 4 x4<|.c 5 x5<|.c 12 mP<|.c 13 ko<|.c 15 mM<|.c 16 rP<|.c 18 O<|.c 19 xC<|.c 20 e<|.c 21 yu<|.c 23 zV<|.c 32 B<|.c 33 S<|.c 34 I<|.c 65 M<|.c 66 N<|.c 67 U<|.c 119 Y<|.c 120 W<|.c 121 V<|.n) E H
abbrev q8(x0 x2 x3 x4 x5 x6 x7 x8 x9 e:D)(E:Rs)(H:R):St:=ay Pg 70 (.c 0 x0<|.c 2 x2<|.c 3 x3<|.c 4 x4<|.c 5 x5<|.c 6 x6<|.c 7 x7<|.c 8 x8<|.c 9 x9<|.c 10 e<|.n) E H
abbrev gF(x0 x1 x2 x3 x4 x5 e:D)(E:Rs)(H:R):St:=ay Pg 72 (.c 0 x0<|.c 1 x1<|.c 2 x2<|.c 3 x3<|.c 4 x4<|.c 5 x5<|.c 153 e<|.n) E H
abbrev zG(x0 x1 x2 x3 x4 x5 x6 x7 x8 x9:D)(E:Rs)(H:R):St:=ay Pg 73 (.c 0 x0<|.c 1 x1<|.c 2 x2<|.c 3 x3<|.c 4 x4<|.c 5 x5<|.c 6 x6<|.c 7 x7<|.c 8 x8<|.c 9 x9<|.n) E H
abbrev tK(x0 x1 x2 x3 x4 x5 x6 x7 x8 x9:D)(E:Rs)(H:R):St:=ay Pg 74 (.c 0 x0<|.c 1 x1<|.c 2 x2<|.c 3 x3<|.c 4 x4<|.c 5 x5<|.c 6 x6<|.c 7 x7<|.c 8 x8<|.c 9 x9<|.n) E H
abbrev nG(x0 x1 x2 x4 x5 x6 x7 x8 j_ je mP ko mM rP Bc xC yu N O S Cb U V W Y ab e Gh Cx B I M:D)(E:Rs)(H:R):St:=ay Pg 77 (.c 0 x0<|.c 1 x1<|.c 2 x2<|.c 4 x4<|.c 5 x5<|.c 6 x6<|.c 7 x7<|.c 8 x8<|.c 10 j_<|.c 11 je<|.c 12 mP<|.c 13 ko<|.c 15 mM<|.c 16 rP<|.c 18 Bc<|.c 19 xC<|.c 21 yu<|.c 30 N<|.c 31 O<|.c 32 S<|.c 37 Cb<|.c 38 U<|.c 39 V<|.c 88 W<|.c 89 Y<|.c 90 ab<|.c 115 e<|.c 116 Gh<|.c 117 Cx<|.c 157 B<|.c 158 I<|.c 159 M<|.n) E H
abbrev DX(x0 x1 x2 x3 x4 x5 x6 B I O M N e S U:D)(E:Rs)(H:R):St:=ay Pg 89 (.c 0 x0<|.c 1 x1<|.c 2 x2<|.c 3 x3<|.c 4 x4<|.c 5 x5<|.c 6 x6<|.c 10 B<|.c 11 I<|.c 14 O<|.c 15 M<|.c 16 N<|.c 18 e<|.c 19 S<|.c 21 U<|.n) E H
abbrev Gi(x0 x1 x2 x3 x8 x9 B I N ko O M e:D)(E:Rs)(H:R):St:=ay Pg 92 (.c 0 x0<|.c 1 x1<|.c 2 x2<|.c 3 x3<|.c 8 x8<|.c 9 x9<|.c 10 B<|.c 11 I<|.c 12 N<|.c 13 ko<|.c 14 O<|.c 15 M<|.c 17 e<|.n) E H
abbrev Q4(x0 x2 x3 x4 x5 x6 x7 x8 x9 e:D)(E:Rs)(H:R):St:=ay Pg 93 (.c 0 x0<|.c 2 x2<|.c 3 x3<|.c 4 x4<|.c 5 x5<|.c 6 x6<|.c 7 x7<|.c 8 x8<|.c 9 x9<|.c 10 e<|.n) E H
abbrev Z_(x0 x1 x2 x3 x4 x5 x6 x7 x8 x9 M e B I:D)(E:Rs)(H:R):St:=ay Pg 94 (.c 0 x0<|.c 1 x1<|.c 2 x2<|.c 3 x3<|.c 4 x4<|.c 5 x5<|.c 6 x6<|.c 7 x7<|.c 8 x8<|.c 9 x9<|.c 11 M<|.c 34 e<|.c 35 B<|.c 36 I<|.n) E H
abbrev xL(x0 x1 x2 x3 x4 x5 x7 x9 U V ko W O Y M e N B I S:D)(E:Rs)(H:R):St:=ay Pg 95 (.c 0 x0<|.c 1 x1<|.c 2 x2<|.c 3 x3<|.c 4 x4<|.c 5 x5<|.c 7 x7<|.c 9 x9<|.c 11 U<|.c 12 V<|.c 13 ko<|.c 21 W<|.c 22 O<|.c 23 Y<|.c 33 M<|.c 34 e<|.c 35 N<|.c 74 B<|.c 75 I<|.c 76 S<|.n) E H
abbrev vY(x0 x1 x4 x5 x6 x7 x8 x9 e B I ko:D)(E:Rs)(H:R):St:=ay Pg 102 (.c 0 x0<|.c 1 x1<|.c 4 x4<|.c 5 x5<|.c 6 x6<|.c 7 x7<|.c 8 x8<|.c 9 x9<|.c 10 e<|.c 11 B<|.c 12 I<|.c 13 ko<|.n) E H
abbrev Cz(x0 x1 x4 x5 x6 x7 x8 x9 e B:D)(E:Rs)(H:R):St:=ay Pg 103 (.c 0 x0<|.c 1 x1<|.c 4 x4<|.c 5 x5<|.c 6 x6<|.c 7 x7<|.c 8 x8<|.c 9 x9<|.c 10 e<|.c 11 B<|.n) E H
abbrev yA(x0 x1 x2 x4:D)(E:Rs)(H:R):St:=ay Pg 105 (.c 0 x0<|.c 1 x1<|.c 2 x2<|.c 4 x4<|.n) E H
abbrev rC(x0 x1 x2 x4 x5 x6 x7 x8:D)(E:Rs)(H:R):St:=ay Pg 106 (.c 0 x0<|.c 1 x1<|.c 2 x2<|.c 4 x4<|.c 5 x5<|.c 6 x6<|.c 7 x7<|.c 8 x8<|.n) E H
abbrev yl(x0 x1 x2 x3 x4 x6 x7 x8 x9 M N S ko V O U I B e:D)(E:Rs)(H:R):St:=ay Pg 109 (.c 0 x0<|.c 1 x1<|.c 2 x2<|.c 3 x3<|.c 4 x4<|.c 6 x6<|.c 7 x7<|.c 8 x8<|.c 9 x9<|.c 10 M<|.c 11 N<|.c 12 S<|.c 13 ko<|.c 14 V<|.c 15 O<|.c 16 U<|.c 17 I<|.c 18 B<|.c 25 e<|.n) E H
abbrev Gj(x0 x1 x3 x4:D)(E:Rs)(H:R):St:=ay Pg 115 (.c 0 x0<|.c 1 x1<|.c 3 x3<|.c 4 x4<|.n) E H
abbrev qi(x0 x2 x3 x4 x5 x6 x7:D)(E:Rs)(H:R):St:=ay Pg 120 (.c 0 x0<|.c 2 x2<|.c 3 x3<|.c 4 x4<|.c 5 x5<|.c 6 x6<|.c 7 x7<|.n) E H
abbrev qG(x0 x1 x2 x3 x4 x5 x6 x7 x8 x9 S V ko W U B Y e N O I M:D)(E:Rs)(H:R):St:=ay Pg 123 (.c 0 x0<|.c 1 x1<|.c 2 x2<|.c 3 x3<|.c 4 x4<|.c 5 x5<|.c 6 x6<|.c 7 x7<|.c 8 x8<|.c 9 x9<|.c 11 S<|.c 12 V<|.c 13 ko<|.c 14 W<|.c 15 U<|.c 18 B<|.c 19 Y<|.c 20 e<|.c 59 N<|.c 60 O<|.c 61 I<|.c 67 M<|.n) E H
abbrev uC(x0 x1 x2 x4 x5 x6 x7 x8 x9 S U ko V e B I O N M:D)(E:Rs)(H:R):St:=ay Pg 124 (.c 0 x0<|.c 1 x1<|.c 2 x2<|.c 4 x4<|.c 5 x5<|.c 6 x6<|.c 7 x7<|.c 8 x8<|.c 9 x9<|.c 10 S<|.c 11 U<|.c 13 ko<|.c 23 V<|.c 24 e<|.c 25 B<|.c 31 I<|.c 49 O<|.c 50 N<|.c 51 M<|.n) E H
abbrev Q5(x0 x1 x2 x3 x4 x5 x8 x9 M N S V O U e B I:D)(E:Rs)(H:R):St:=ay Pg 125 (.c 0 x0<|.c 1 x1<|.c 2 x2<|.c 3 x3<|.c 4 x4<|.c 5 x5<|.c 8 x8<|.c 9 x9<|.c 10 M<|.c 11 N<|.c 12 S<|.c 14 V<|.c 15 O<|.c 16 U<|.c 29 e<|.c 30 B<|.c 31 I<|.n) E H
abbrev sO(x0 x2 x3 x4 x5 x9:D)(E:Rs)(H:R):St:=ay Pg 134 (.c 0 x0<|.c 2 x2<|.c 3 x3<|.c 4 x4<|.c 5 x5<|.c 9 x9<|.n) E H
abbrev B5(x0 x2:D)(E:Rs)(H:R):St:=ay Pg 135 (.c 0 x0<|.c 2 x2<|.n) E H
abbrev Dn(x0 x2 x3 x4 x5 x6 x7 x8 x9 e B I ko M:D)(E:Rs)(H:R):St:=ay Pg 136 (.c 0 x0<|.c 2 x2<|.c 3 x3<|.c 4 x4<|.c 5 x5<|.c 6 x6<|.c 7 x7<|.c 8 x8<|.c 9 x9<|.c 10 e<|.c 11 B<|.c 12 I<|.c 13 ko<|.c 14 M<|.n) E H
abbrev k_(x0 x1 x2 x4 x5 x6 x7 x8 x9:D)(E:Rs)(H:R):St:=ay Pg 137 (.c 0 x0<|.c 1 x1<|.c 2 x2<|.c 4 x4<|.c 5 x5<|.c 6 x6<|.c 7 x7<|.c 8 x8<|.c 9 x9<|.n) E H
abbrev uD(x0 x1 x4 x5:D)(E:Rs)(H:R):St:=ay Pg 140 (.c 0 x0<|.c 1 x1<|.c 4 x4<|.c 5 x5<|.n) E H
abbrev EJ(x0 x1 x4 x5 e:D)(E:Rs)(H:R):St:=ay Pg 147 (.c 0 x0<|.c 1 x1<|.c 4 x4<|.c 5 x5<|.c 40 e<|.n) E H
abbrev Dp(x0 x1 x2 x3 x4 x5 x6 x7 x8 x9 W Y mP e B I U S V M N O:D)(E:Rs)(H:R):St:=ay Pg 148 (.c 0 x0<|.c 1 x1<|.c 2 x2<|.c 3 x3<|.c 4 x4<|.c 5 x5<|.c 6 x6<|.c 7 x7<|.c 8 x8<|.c 9 x9<|.c 10 W<|.c 11 Y<|.c 12 mP<|.c 30 e<|.c 31 B<|.c 32 I<|.c 50 U<|.c 51 S<|.c 52 V<|.c 88 M<|.c 89 N<|.c 90 O<|.n) E H
abbrev mE(x0 x2 x3 x4 x5 x6 x7 x8 x9 I M O ko U N S e B:D)(E:Rs)(H:R):St:=ay Pg 157 (.c 0 x0<|.c 2 x2<|.c 3 x3<|.c 4 x4<|.c 5 x5<|.c 6 x6<|.c 7 x7<|.c 8 x8<|.c 9 x9<|.c 10 I<|.c 11 M<|.c 12 O<|.c 13 ko<|.c 14 U<|.c 15 N<|.c 16 S<|.c 32 e<|.c 33 B<|.n) E H
abbrev mI(x0 x1 x2 x4 x5 x6 x7 x8 x9 e B I:D)(E:Rs)(H:R):St:=ay Pg 165 (.c 0 x0<|.c 1 x1<|.c 2 x2<|.c 4 x4<|.c 5 x5<|.c 6 x6<|.c 7 x7<|.c 8 x8<|.c 9 x9<|.c 10 e<|.c 11 B<|.c 19 I<|.n) E H
abbrev Kg(x0 x1 x4 x5 x6 x7:D)(E:Rs)(H:R):St:=ay Pg 170 (.c 0 x0<|.c 1 x1<|.c 4 x4<|.c 5 x5<|.c 6 x6<|.c 7 x7<|.n) E H
abbrev AR(x0 x1 x4 x5 x6 x7 x8 x9 e B:D)(E:Rs)(H:R):St:=ay Pg 171 (.c 0 x0<|.c 1 x1<|.c 4 x4<|.c 5 x5<|.c 6 x6<|.c 7 x7<|.c 8 x8<|.c 9 x9<|.c 10 e<|.c 11 B<|.n) E H
abbrev EK(x0 x1 x2 x3 x4 x5 x7 ko B e:D)(E:Rs)(H:R):St:=ay Pg 177 (.c 0 x0<|.c 1 x1<|.c 2 x2<|.c 3 x3<|.c 4 x4<|.c 5 x5<|.c 7 x7<|.c 13 ko<|.c 14 B<|.c 15 e<|.n) E H
abbrev DD(x0 x1 x2 x4 x5 x6 x7 x9 N O M e B I:D)(E:Rs)(H:R):St:=ay Pg 180 (.c 0 x0<|.c 1 x1<|.c 2 x2<|.c 4 x4<|.c 5 x5<|.c 6 x6<|.c 7 x7<|.c 9 x9<|.c 15 N<|.c 16 O<|.c 17 M<|.c 28 e<|.c 29 B<|.c 30 I<|.n) E H
abbrev OB(x0 x1 x2 x3 x4 x5 x7 x8 x9 e B:D)(E:Rs)(H:R):St:=ay Pg 185 (.c 0 x0<|.c 1 x1<|.c 2 x2<|.c 3 x3<|.c 4 x4<|.c 5 x5<|.c 7 x7<|.c 8 x8<|.c 9 x9<|.c 10 e<|.c 11 B<|.n) E H
abbrev wV(x0 x1 x2 x3 x4 x5 x6 x7 x8 x9 mP ko mM rP V xC e yu W zV B I M Y U N R6 O S:D)(E:Rs)(H:R):St:=ay Pg 186 (.c 0 x0<|.c 1 x1<|.c 2 x2<|.c 3 x3<|.c 4 x4<|.c 5 x5<|.c 6 x6<|.c 7 x7<|.c 8 x8<|.c 9 x9<|.c 12 mP<|.c 13 ko<|.c 15 mM<|.c 16 rP<|.c 17 V<|.c 19 xC<|.c 20 e<|.c 21 yu<|.c 22 W<|.c 23 zV<|.c 24 B<|.c 25 I<|.c 32 M<|.c 36 Y<|.c 37 U<|.c 38 N<|.c 64 R6<|.c 65 O<|.c 66 S<|.n) E H
abbrev yF(x0 x1 x4 x5:D)(E:Rs)(H:R):St:=ay Pg 193 (.c 0 x0<|.c 1 x1<|.c 4 x4<|.c 5 x5<|.n) E H
abbrev pQ(x0 x1 x4 x5 x6 x7:D)(E:Rs)(H:R):St:=ay Pg 194 (.c 0 x0<|.c 1 x1<|.c 4 x4<|.c 5 x5<|.c 6 x6<|.c 7 x7<|.n) E H
abbrev aaa(x0 x1 x4 x5 x6:D)(E:Rs)(H:R):St:=ay Pg 199 (.c 0 x0<|.c 1 x1<|.c 4 x4<|.c 5 x5<|.c 6 x6<|.n) E H
abbrev KJ(x0 x2 x3 x4 x8:D)(E:Rs)(H:R):St:=ay Pg 201 (.c 0 x0<|.c 2 x2<|.c 3 x3<|.c 4 x4<|.c 8 x8<|.n) E H
abbrev FQ(x0 x2 x3 x4 x5 x6 x7 x8 x9 e:D)(E:Rs)(H:R):St:=ay Pg 203 (.c 0 x0<|.c 2 x2<|.c 3 x3<|.c 4 x4<|.c 5 x5<|.c 6 x6<|.c 7 x7<|.c 8 x8<|.c 9 x9<|.c 10 e<|.n) E H
abbrev Dq(x0 x1 x4 x5 x6 x7 x8 e:D)(E:Rs)(H:R):St:=ay Pg 205 (.c 0 x0<|.c 1 x1<|.c 4 x4<|.c 5 x5<|.c 6 x6<|.c 7 x7<|.c 8 x8<|.c 22 e<|.n) E H
abbrev FT(x0 x1 x2 x3 x6 x7 x8 x9 e B:D)(E:Rs)(H:R):St:=ay Pg 207 (.c 0 x0<|.c 1 x1<|.c 2 x2<|.c 3 x3<|.c 6 x6<|.c 7 x7<|.c 8 x8<|.c 9 x9<|.c 10 e<|.c 11 B<|.n) E H
abbrev Gm(x0 x2:D)(E:Rs)(H:R):St:=ay Pg 218 (.c 0 x0<|.c 2 x2<|.n) E H
abbrev ym(x0 x1 x4 x5:D)(E:Rs)(H:R):St:=ay Pg 219 (.c 0 x0<|.c 1 x1<|.c 4 x4<|.c 5 x5<|.n) E H
abbrev KL(x0 x2 x3 x4 x5 x6 x7 x8 e:D)(E:Rs)(H:R):St:=ay Pg 222 (.c 0 x0<|.c 2 x2<|.c 3 x3<|.c 4 x4<|.c 5 x5<|.c 6 x6<|.c 7 x7<|.c 8 x8<|.c 10 e<|.n) E H
abbrev xD(x0 x2 x3 x5 x6 x8 x9 M N B I e:D)(E:Rs)(H:R):St:=ay Pg 226 (.c 0 x0<|.c 2 x2<|.c 3 x3<|.c 5 x5<|.c 6 x6<|.c 8 x8<|.c 9 x9<|.c 10 M<|.c 11 N<|.c 35 B<|.c 36 I<|.c 37 e<|.n) E H
abbrev Fy(x0 x1 x4 x5 x6 x7 x8 x9 e:D)(E:Rs)(H:R):St:=ay Pg 227 (.c 0 x0<|.c 1 x1<|.c 4 x4<|.c 5 x5<|.c 6 x6<|.c 7 x7<|.c 8 x8<|.c 9 x9<|.c 16 e<|.n) E H
abbrev Iq(x0 x1 x4 x5:D)(E:Rs)(H:R):St:=ay Pg 228 (.c 0 x0<|.c 1 x1<|.c 4 x4<|.c 5 x5<|.n) E H
abbrev qT(x0 x1 x4 x5:D)(E:Rs)(H:R):St:=ay Pg 240 (.c 0 x0<|.c 1 x1<|.c 4 x4<|.c 5 x5<|.n) E H
abbrev Jy(x0 x2 x3 x4 x6 x8 x9 e:D)(E:Rs)(H:R):St:=ay Pg 246 (.c 0 x0<|.c 2 x2<|.c 3 x3<|.c 4 x4<|.c 6 x6<|.c 8 x8<|.c 9 x9<|.c 10 e<|.n) E H
abbrev AU(x0 x1 x2 x4 x5 x6 x7 x8 j_ je mP ko mM N O S Cb U V W Y ab:D)(h1:Nat->D->D->D->D->D->D->D->D->D->D->R->Prop)(m:Nat)(s:St):Prop:=∃(rP Bc xC yu e Gh Cx B I M:D)(E:Rs)(H:R),s=nG x0 x1 x2 x4 x5 x6 x7 x8 j_ je mP ko mM rP Bc xC yu N O S Cb U V W Y ab e Gh Cx B I M E H/\h1 m rP Bc xC yu e Gh Cx B I M H
abbrev xE(x0 x1 x2 x4 x5 x6 x7 x8 j_ je mP ko mM rP xC yu N O S Cb U V W Y ab e Gh B I M:D)(h1:Nat->D->D->R->Prop)(m:Nat)(s:St):Prop:=∃(Bc Cx:D)(E:Rs)(H:R),s=nG x0 x1 x2 x4 x5 x6 x7 x8 j_ je mP ko mM rP Bc xC yu N O S Cb U V W Y ab e Gh Cx B I M E H/\h1 m Bc Cx H
abbrev zH(x0 x1 x2 x4 x5 x7 Y ko yu V zV U e B I W:D)(h1:Nat->D->D->D->D->R->Prop)(m:Nat)(s:St):Prop:=∃(O S N M:D)(E:Rs)(H:R),s=xL x0 x1 x2 O x4 x5 x7 S N Y ko yu V zV U e M B I W E H/\h1 m O S N M H
abbrev yG(x0 x1 x2 x4 x5 x7 x9 Y yu W zV U e V B I:D)(h1:Nat->D->D->D->D->R->Prop)(m:Nat)(s:St):Prop:=∃(S O N M:D)(E:Rs)(H:R),s=xL x0 x1 x2 S x4 x5 x7 x9 Y O N yu W zV U e V B I M E H/\h1 m S O N M H
abbrev Bq(x0 x1 x2 x3 x4 x5 x6 x7 x8 x9 W Y S xC e U V:D)(h1:Nat->D->D->D->D->D->R->Prop)(m:Nat)(s:St):Prop:=∃(M O N B I:D)(E:Rs)(H:R),s=qG x0 x1 x2 x3 x4 x5 x6 x7 x8 x9 W Y M O N S xC e U V B I E H/\h1 m M O N B I H
abbrev zW(x0 x1 x2 x4 x5 x6 x7 zV I:D)(h1:Nat->D->D->D->D->D->D->D->D->D->D->R->Prop)(m:Nat)(s:St):Prop:=∃(W Y S U V e B O N M:D)(E:Rs)(H:R),s=uC x0 x1 x2 x4 x5 x6 x7 W Y S U V zV I e B O N M E H/\h1 m W Y S U V e B O N M H
abbrev ze(x0 x1 x2 x4 x5 x6 x7 x8 x9 W e B I V U:D)(h1:Nat->D->D->D->D->R->Prop)(m:Nat)(s:St):Prop:=∃(N O S M:D)(E:Rs)(H:R),s=uC x0 x1 x2 x4 x5 x6 x7 x8 x9 N O S W e B I V U M E H/\h1 m N O S M H
abbrev Ai(x0 x2 x3 x4 x5 x6 x7 x8 x9 U V e:D)(h1:Nat->D->D->D->D->D->D->R->Prop)(m:Nat)(s:St):Prop:=∃(N I S M O B:D)(E:Rs)(H:R),s=mE x0 x2 x3 x4 x5 x6 x7 x8 x9 U V N I S M O e B E H/\h1 m N I S M O B H
abbrev pR(x0 x2 x3 x4 x5 x6 x7 x8 x9 S U V e O:D)(h1:Nat->D->D->D->D->R->Prop)(m:Nat)(s:St):Prop:=∃(B N I M:D)(E:Rs)(H:R),s=mE x0 x2 x3 x4 x5 x6 x7 x8 x9 S U V B N I M e O E H/\h1 m B N I M H
abbrev nX(x0 x2 x3 x4 x5 x6 x7 x8 x9 M N O ko U S e I:D)(h1:Nat->D->R->Prop)(m:Nat)(s:St):Prop:=∃(B:D)(E:Rs)(H:R),s=mE x0 x2 x3 x4 x5 x6 x7 x8 x9 M N O ko U B S e I E H/\h1 m B H
abbrev zI(x0 x1 x4 x5 x6:D)(h1:Nat->D->D->D->D->D->R->Prop)(m:Nat)(s:St):Prop:=∃(I M N e B:D)(E:Rs)(H:R),s=AR x0 x1 x4 x5 x6 I M N e B E H/\h1 m I M N e B H
abbrev EL(x0 x1 x2 x3 ko N:D)(h1:Nat->D->D->D->D->R->Prop)(m:Nat)(s:St):Prop:=∃(B I M e:D)(E:Rs)(H:R),s=EK x0 x1 x2 x3 B I M ko N e E H/\h1 m B I M e H
abbrev DY(x0 x1 x2 x4 x5 U V:D)(h1:Nat->D->D->D->D->D->D->D->R->Prop)(m:Nat)(s:St):Prop:=∃(N O S M e B I:D)(E:Rs)(H:R),s=DD x0 x1 x2 x4 x5 N O S U V M e B I E H/\h1 m N O S M e B I H
abbrev Fz(x0 x1 x2 x3 x6:D)(h1:Nat->D->D->D->D->D->R->Prop)(m:Nat)(s:St):Prop:=∃(I M N e B:D)(E:Rs)(H:R),s=FT x0 x1 x2 x3 x6 I M N e B E H/\h1 m I M N e B H
abbrev DF(e:Nat)(B:C D):Prop:=∀(H:R),D_ Pg e H=jP e B H
abbrev M0(e:C Nat)(B:Nat)(I:Nat):Prop:=∀(x y:D)(H:R),EZ Pg e [x,y] H=Bo B I x y H
abbrev KN(B:Nat)(e:Nat)(I:Nat)(M:C D)(N:Nat):Prop:=∀(ps:Rs)(H:R),vC Pg B e ps H=bS I M N e ps H
abbrev sh3(B:Nat)(e:Nat)(I:Nat)(M:C D):Prop:=∀(ps:Rs)(H:R),vC Pg B e ps H=bS I M e e ps H
abbrev FB(e:Nat)(B:C<|Nat×Nat)(I:C D):Prop:=∀(ps:Rs),CS Pg e ps=bld B I ps
abbrev sh5(e:Nat)(B:C D):Prop:=∀(ps:Rs),CS Pg e ps=bld List.nil B ps
abbrev wE(e:Nat)(B:Nat):Prop:=∀(x:cB)(ρ:cB->D)(H Q:R),IZ Pg (.load e x) ρ H Q=clL B (ρ x) H Q
abbrev sh7(e:C Nat)(B:Nat):Prop:=∀(x y:D)(H:R),OX Pg e [x,y] H=cpA B x y H
abbrev sh8(e:C Nat)(B:C D):Prop:=∀(x:D)(H:R),Jb Pg e [x] H=clA B x H
abbrev sh9(e:Nat)(B:Nat)(I:gm):Prop:=∀(x:D)(H:R)(Kp:D->Prop)(Km:D->R->Prop),CV (D7 Pg e B x) (wC Pg e B x H) Kp Km=PU (cvI I x) Kp
abbrev anY(e:Nat)(B:Nat):Prop:=∀(x:D)(H:R)(Kp:D->Prop)(Km:D->R->Prop),CV (D7 Pg e B x) (wC Pg e B x H) Kp Km=PU (cvT x) Kp
abbrev jy(B:Nat)(e:Nat):Prop:=∀(x:D),uy Pg B x e=fld e x
abbrev OC(e:Nat)(B:Nat)(I:Nat):Prop:=∀(x:D),uy Pg e x B=fld I x
abbrev ajm(B:Nat)(e:Nat)(I:aC Nat):Prop:=∀(x:D),D9 Pg B x e=ajb I e x
abbrev zR(e:Nat)(B:Nat):Prop:=∀(x y:D),uw Pg e x y=B_ B x y
abbrev ajn(e:Nat)(B:Nat)(I:Nat):Prop:=∀(x y:D),uw Pg e x y=idR B I x y
abbrev anZ(e:Nat):Prop:=∀(x y:D),D8 Pg e x y=idS x y
abbrev mQ(e:Nat)(B:aC Nat):Prop:=∀(x:D)(H:R),xV Pg e x H=wR B x H
abbrev Aj(e:C Nat):Prop:=∀(ρ:cB->D)(x:cB)(H:R)(Kp:D->Prop)(Km:D->R->Prop),CV (one (LP Pg) (Array.toList<|jk e)<|mp ρ<|Array.toList<|jk [x]) (LW Pg (Array.toList<|jk e) (mp ρ<|Array.toList<|jk [x]) H) Kp Km=PU (ak1<|ρ x) Kp
abbrev an0(e:C Nat):Prop:=∀(ρ:cB->D)(x:cB)(H:R)(Kp:D->Prop)(Km:D->R->Prop),CV (one (LP Pg) (Array.toList<|jk e)<|mp ρ<|Array.toList<|jk [x]) (LW Pg (Array.toList<|jk e) (mp ρ<|Array.toList<|jk [x]) H) Kp Km=PU (ak2<|ρ x) Kp
abbrev VU(e:Nat)(B:Nat)(I:C D):Prop:=∀(x y:D)(H:R),sK Pg e x y H=mkS B I x y H
abbrev VV(e:Nat)(B:Nat):Prop:=∀(x:D)(a b c:aC D),BQ Pg e x a b c=R4 B x a b c
abbrev an1(e:Nat):Prop:=∀(x:D)(a b c:aC D),BQ Pg e x a b c=slT x a b c
abbrev oM(e:Nat)(B:Nat):Prop:=∀(x v:D)(H:R),Aw Pg e x v H=Es B x v H
def TD:sh9 105 3 .i64/\sh9 105 5 .u8/\sh9 164 323 .u32/\sh9 21 323 .u32/\sh9 21 5 .u8/\anY 21 9/\sh9 3 164 .u64/\sh9 3 5 .u8/\sh9 323 5 .u8/\sh9 5 21 .i32/\sh9 5 3 .i64/\Aj [119]/\Aj [123]/\Aj [124]/\Aj [168]/\Aj [169]/\Aj [178]/\Aj [184]/\Aj [207]/\Aj [215]/\Aj [219]/\Aj [22]/\Aj [24]/\Aj [25]/\Aj [260]/\Aj [271]/\Aj [28]/\Aj [29]/\Aj [290]/\Aj [30]/\Aj [33]/\Aj [34]/\Aj [51]/\Aj [65]/\Aj [66]/\an0 [9]:=by
 repeat' apply iZ
 all_goals((repeat intro _);kernel_rfl)
def TF:DF 104 [Value.nilFunc]/\DF 121 [bq .i64 0,bq .i64 0,bq .i64 0]/\DF 124 [u T 0 0]/\DF 133 []/\DF 161 [bq .i64 0,bq .i64 0]/\DF 163 [bq .i64 0,bq .i64 0]/\DF 171 [u T 0 0,u T 0 0]/\DF 173 [bq .i64 0,bq .i64 0]/\DF 180 [u T 0 0]/\DF 186 [bq .i64 0,bq .i64 0,bq .i64 0,(aJ<|dJ #[]),u T 0 0]/\DF 194 [(aJ<|dJ #[]),aR aA,aR aA,aR aA,bq .i64 0,bq .i64 0,bq .i64 0]/\DF 200 [bq .i64 0,u T 0 0,(aJ<|dJ #[]),u T 0 0,bq .i64 0]/\DF 209 [bq .i64 0,bq .i64 0,bq .i64 0,bq .i64 0]/\DF 215 [u T 0 0]/\DF 22 [u T 0 0]/\DF 221 [bq .i64 0,bq .i64 0,bq .i64 0,(aJ<|dJ #[]),u T 0 0]/\DF 222 [Value.nilFunc]/\DF 228 [bq .i64 0,bq .i64 0,bq .i64 0]/\DF 234 [(aJ<|dJ #[]),aR aA,aR aA,aR aA,bq .i64 0,bq .i64 0,bq .i64 0]/\DF 238 [bq .i64 0,u T 0 0,(aJ<|dJ #[]),u T 0 0,bq .i64 0]/\DF 240 [(aJ<|dJ #[]),bq .i64 0,bq .i64 0,aR aA]/\DF 27 [u T 0 0,u T 0 0,u T 0 0,u T 0 0,u T 0 0,bq .i64 0]/\DF 287 [Value.nilFunc]/\DF 288 [Value.nilFunc]/\DF 290 [u T 0 0]/\DF 3 [bq .i64 0]/\DF 301 [bG T,u T 0 0]/\DF 303 [bq .i64 0,bq .i64 0,bq .i32 0,aR aA]/\DF 32 [u T 0 0,u T 0 0,u T 0 0,bq .i64 0,bq .i64 0,bq .i64 0]/\DF 331 [bq .i32 0,bq .i32 0]/\DF 34 [u T 0 0]/\DF 353 [bq .u8 0,bq .u8 0]/\DF 36 [u T 0 0,u T 0 0]/\DF 38 [u T 0 0,u T 0 0,u T 0 0,bq .i64 0,bq .i64 0,bq .i64 0,u T 0 0,u T 0 0,u T 0 0]/\DF 68 [u T 0 0,aR aA,u T 0 0,bq .i64 0]/\DF 82 [u T 0 0,aR aA,u T 0 0,u T 0 0,bG T]/\DF 86 [bq .i64 0,bq .i64 0]/\DF 88 [bq .i64 0,bq .i64 0,bq .i64 0]/\M0 [119,119] 121 3/\M0 [123,123] 161 2/\M0 [124,124] 22 1/\M0 [168,168] 234 7/\M0 [169,169] 238 5/\M0 [178,178] 240 4/\M0 [184,184] 275 2/\M0 [207,207] 209 4/\M0 [215,215] 221 5/\M0 [219,219] 331 2/\M0 [22,22] 3 1/\M0 [24,24] 9 1/\M0 [25,25] 119 1/\M0 [260,260] 228 3/\M0 [271,271] 5 1/\M0 [28,28] 194 7/\M0 [29,29] 200 5/\M0 [290,290] 292 2/\M0 [30,30] 186 5/\M0 [33,33] 202 4/\M0 [34,34] 4 1/\M0 [65,65] 86 2/\M0 [66,66] 88 3/\KN 119 1 121 [bq .i64 0,bq .i64 0,bq .i64 0] 3/\KN 123 1 161 [bq .i64 0,bq .i64 0] 2/\sh3 124 1 22 [u T 0 0]/\KN 168 1 234 [(aJ<|dJ #[]),aR aA,aR aA,aR aA,bq .i64 0,bq .i64 0,bq .i64 0] 7/\KN 169 1 238 [bq .i64 0,u T 0 0,(aJ<|dJ #[]),u T 0 0,bq .i64 0] 5/\KN 178 0 240 [(aJ<|dJ #[]),bq .i64 0,bq .i64 0,aR aA] 4/\KN 178 1 240 [(aJ<|dJ #[]),bq .i64 0,bq .i64 0,aR aA] 4/\KN 184 1 275 [bq .i64 0,bq .i64 0] 2/\KN 207 1 209 [bq .i64 0,bq .i64 0,bq .i64 0,bq .i64 0] 4/\KN 215 1 221 [bq .i64 0,bq .i64 0,bq .i64 0,(aJ<|dJ #[]),u T 0 0] 5/\KN 219 0 331 [bq .i32 0,bq .i32 0] 2/\KN 219 1 331 [bq .i32 0,bq .i32 0] 2/\KN 22 0 3 [bq .i64 0] 1/\sh3 22 1 3 [bq .i64 0]/\sh3 24 1 9 [(aJ<|dJ #[])]/\sh3 25 1 119 [u T 0 0]/\KN 260 1 228 [bq .i64 0,bq .i64 0,bq .i64 0] 3/\sh3 271 1 5 [bq .u8 0]/\KN 271 2 5 [bq .u8 0] 1/\KN 271 3 5 [bq .u8 0] 1/\KN 271 4 5 [bq .u8 0] 1/\KN 28 0 194 [(aJ<|dJ #[]),aR aA,aR aA,aR aA,bq .i64 0,bq .i64 0,bq .i64 0] 7/\KN 28 1 194 [(aJ<|dJ #[]),aR aA,aR aA,aR aA,bq .i64 0,bq .i64 0,bq .i64 0] 7/\KN 29 0 200 [bq .i64 0,u T 0 0,(aJ<|dJ #[]),u T 0 0,bq .i64 0] 5/\KN 29 1 200 [bq .i64 0,u T 0 0,(aJ<|dJ #[]),u T 0 0,bq .i64 0] 5/\KN 290 1 292 [bq .i64 0,bq .i64 0] 2/\KN 30 1 186 [bq .i64 0,bq .i64 0,bq .i64 0,(aJ<|dJ #[]),u T 0 0] 5/\KN 33 1 202 [(aJ<|dJ #[]),bq .i64 0,bq .i64 0,aR aA] 4/\sh3 34 1 4 [aR aA]/\KN 65 1 86 [bq .i64 0,bq .i64 0] 2/\KN 66 1 88 [bq .i64 0,bq .i64 0,bq .i64 0] 3/\FB 114 [(0,6),(6,1),(7,1)] [u T 0 0,u T 0 0,u T 0 0,u T 0 0,u T 0 0,bq .i64 0,u T 0 0,u T 0 0]/\FB 121 [(0,1),(1,1),(2,1)] [bq .i64 0,bq .i64 0,bq .i64 0]/\FB 128 [(0,1),(1,1),(2,1),(3,1)] [u T 0 0,u T 0 0,fK T,fK T]/\sh5 133 []/\FB 156 [(0,4),(4,1),(5,1),(6,1)] [u T 0 0,aR aA,u T 0 0,bq .i64 0,fK T,fK T,bq .i64 0]/\FB 161 [(0,1),(1,1)] [bq .i64 0,bq .i64 0]/\FB 163 [(0,1),(1,1)] [bq .i64 0,bq .i64 0]/\FB 171 [(0,1),(1,1)] [u T 0 0,u T 0 0]/\FB 173 [(0,1),(1,1)] [bq .i64 0,bq .i64 0]/\FB 180 [(0,1)] [u T 0 0]/\FB 186 [(0,1),(1,1),(2,1),(3,1),(4,1)] [bq .i64 0,bq .i64 0,bq .i64 0,(aJ<|dJ #[]),u T 0 0]/\FB 194 [(0,1),(1,1),(2,1),(3,1),(4,1),(5,1),(6,1)] [(aJ<|dJ #[]),aR aA,aR aA,aR aA,bq .i64 0,bq .i64 0,bq .i64 0]/\FB 200 [(0,1),(1,1),(2,1),(3,1),(4,1)] [bq .i64 0,u T 0 0,(aJ<|dJ #[]),u T 0 0,bq .i64 0]/\FB 202 [(0,1),(1,1),(2,1),(3,1)] [(aJ<|dJ #[]),bq .i64 0,bq .i64 0,aR aA]/\FB 209 [(0,1),(1,3)] [bq .i64 0,bq .i64 0,bq .i64 0,bq .i64 0]/\FB 221 [(0,1),(1,1),(2,1),(3,1),(4,1)] [bq .i64 0,bq .i64 0,bq .i64 0,(aJ<|dJ #[]),u T 0 0]/\FB 226 [(0,1),(1,1),(2,2),(4,2)] [Value.nilFunc,Value.nilFunc,u T 0 0,u T 0 0,bq .i64 0,bq .i64 0]/\FB 228 [(0,1),(1,1),(2,1)] [bq .i64 0,bq .i64 0,bq .i64 0]/\FB 238 [(0,1),(1,1),(2,1),(3,1),(4,1)] [bq .i64 0,u T 0 0,(aJ<|dJ #[]),u T 0 0,bq .i64 0]/\FB 240 [(0,1),(1,1),(2,1),(3,1)] [(aJ<|dJ #[]),bq .i64 0,bq .i64 0,aR aA]/\FB 27 [(0,1),(1,1),(2,1),(3,1),(4,1),(5,1)] [u T 0 0,u T 0 0,u T 0 0,u T 0 0,u T 0 0,bq .i64 0]/\FB 275 [(0,1),(1,1)] [bq .i64 0,bq .i64 0]/\FB 292 [(0,1),(1,1)] [bq .i64 0,bq .i64 0]/\FB 303 [(0,1),(1,1),(2,1),(3,1)] [bq .i64 0,bq .i64 0,bq .i32 0,aR aA]/\FB 32 [(0,1),(1,1),(2,1),(3,1),(4,1),(5,1)] [u T 0 0,u T 0 0,u T 0 0,bq .i64 0,bq .i64 0,bq .i64 0]/\FB 331 [(0,1),(1,1)] [bq .i32 0,bq .i32 0]/\FB 36 [(0,1),(1,1)] [u T 0 0,u T 0 0]/\FB 38 [(0,6),(6,1),(7,2)] [u T 0 0,u T 0 0,u T 0 0,bq .i64 0,bq .i64 0,bq .i64 0,u T 0 0,u T 0 0,u T 0 0]/\FB 68 [(0,1),(1,1),(2,1),(3,1)] [u T 0 0,aR aA,u T 0 0,bq .i64 0]/\FB 80 [(0,1),(1,1),(2,1)] [u T 0 0,u T 0 0,aR aA]/\FB 82 [(0,1),(1,1),(2,1),(3,1),(4,1)] [u T 0 0,aR aA,u T 0 0,u T 0 0,bG T]/\FB 86 [(0,1),(1,1)] [bq .i64 0,bq .i64 0]/\FB 88 [(0,1),(1,2)] [bq .i64 0,bq .i64 0,bq .i64 0]/\FB 92 [(0,1),(1,1),(2,1),(3,1),(4,4),(8,1),(9,1),(10,1),(11,1)] [bG T,bG T,u T 0 0,bq .i64 0,u T 0 0,aR aA,u T 0 0,bq .i64 0,bq .i64 0,bq .i64 0,bq .i64 0,aR aA]/\wE 104 1/\wE 105 1/\wE 119 1/\wE 121 3/\wE 123 1/\wE 124 1/\wE 125 1/\wE 126 1/\wE 151 1/\wE 154 1/\wE 161 2/\wE 163 2/\wE 168 1/\wE 169 1/\wE 171 2/\wE 173 2/\wE 178 1/\wE 180 1/\wE 184 1/\wE 186 5/\wE 194 7/\wE 200 5/\wE 207 1/\wE 209 4/\wE 21 1/\wE 215 1/\wE 219 1/\wE 22 1/\wE 221 5/\wE 222 1/\wE 223 1/\wE 228 3/\wE 23 1/\wE 234 7/\wE 238 5/\wE 24 1/\wE 240 4/\wE 25 1/\wE 265 1/\wE 27 6/\wE 271 1/\wE 28 1/\wE 287 1/\wE 288 1/\wE 29 1/\wE 290 1/\wE 299 1/\wE 3 1/\wE 30 1/\wE 32 6/\wE 331 2/\wE 34 1/\wE 353 2/\wE 36 2/\wE 4 1/\wE 45 1/\wE 5 1/\wE 51 1/\wE 58 1/\wE 65 1/\wE 66 1/\wE 68 4/\wE 69 1/\wE 82 5/\wE 86 2/\wE 88 3/\wE 9 1/\sh7 [271,9] 1/\sh7 [51,51] 1/\sh8 [22] [bq .i64 0]/\jy 114 0/\OC 114 1 6/\OC 114 2 7/\jy 121 0/\jy 121 1/\jy 121 2/\jy 128 0/\jy 128 1/\jy 128 2/\jy 128 3/\jy 156 0/\OC 156 1 4/\OC 156 2 5/\OC 156 3 6/\jy 161 0/\jy 171 0/\jy 171 1/\jy 173 0/\jy 173 1/\jy 180 0/\jy 186 0/\jy 186 1/\jy 186 2/\jy 186 3/\jy 186 4/\jy 194 0/\jy 194 1/\jy 194 2/\jy 194 3/\jy 194 4/\jy 194 5/\jy 194 6/\jy 200 0/\jy 200 1/\jy 200 2/\jy 202 0/\jy 209 0/\jy 209 1/\jy 221 0/\jy 221 1/\jy 221 2/\jy 221 3/\jy 221 4/\jy 226 0/\jy 226 1/\jy 226 2/\OC 226 3 4/\jy 234 0/\jy 234 1/\jy 234 2/\jy 234 3/\jy 234 4/\jy 234 5/\jy 234 6/\jy 238 0/\jy 238 1/\jy 238 2/\jy 240 0/\jy 240 1/\jy 27 0/\jy 27 1/\jy 27 2/\jy 27 3/\jy 27 4/\jy 27 5/\jy 275 0/\jy 275 1/\jy 292 0/\jy 292 1/\jy 301 0/\jy 301 1/\jy 303 1/\jy 303 2/\jy 303 3/\jy 32 0/\jy 32 1/\jy 32 2/\jy 32 3/\jy 32 4/\jy 32 5/\jy 331 0/\jy 331 1/\jy 353 0/\jy 353 1/\jy 36 0/\jy 36 1/\jy 68 0/\jy 68 1/\jy 68 2/\jy 68 3/\jy 80 0/\jy 80 1/\jy 80 2/\jy 82 0/\jy 82 1/\jy 82 2/\jy 82 3/\jy 82 4/\jy 86 0/\jy 86 1/\jy 88 0/\jy 88 1/\jy 92 0/\jy 92 1/\jy 92 2/\jy 92 3/\jy 92 4/\OC 92 5 8/\OC 92 6 9/\OC 92 7 10/\OC 92 8 11/\ajm 221 0 T/\ajm 221 1 T/\ajm 228 0 T/\zR 119 3/\zR 123 2/\zR 124 1/\zR 168 7/\zR 169 5/\zR 178 4/\zR 184 2/\zR 206 1/\zR 207 4/\zR 215 5/\zR 218 2/\zR 219 2/\zR 22 1/\zR 24 1/\zR 25 1/\zR 260 3/\zR 271 1/\zR 28 7/\zR 29 5/\zR 290 2/\zR 30 5/\zR 33 4/\zR 34 1/\ajn 351 256 1/\ajn 354 16 2/\zR 51 1/\zR 65 2/\zR 66 3/\ajn 95 2 1/\anZ 9/\mQ 104 T/\mQ 105 T/\mQ 119 T/\mQ 121 (Z 3)/\mQ 123 T/\mQ 124 T/\mQ 125 T/\mQ 126 T/\mQ 151 T/\mQ 154 T/\mQ 161 (Z 2)/\mQ 163 (Z 2)/\mQ 168 T/\mQ 169 T/\mQ 171 (Z 2)/\mQ 173 (Z 2)/\mQ 178 T/\mQ 180 (Z 1)/\mQ 184 T/\mQ 186 (Z 5)/\mQ 194 (Z 7)/\mQ 200 (Z 5)/\mQ 207 T/\mQ 209 (Z 4)/\mQ 21 T/\mQ 215 T/\mQ 219 T/\mQ 22 T/\mQ 221 (Z 5)/\mQ 222 T/\mQ 223 T/\mQ 228 (Z 3)/\mQ 23 T/\mQ 234 (Z 7)/\mQ 238 (Z 5)/\mQ 24 T/\mQ 240 (Z 4)/\mQ 25 T/\mQ 265 T/\mQ 27 (Z 6)/\mQ 271 T/\mQ 28 T/\mQ 287 T/\mQ 288 T/\mQ 29 T/\mQ 290 T/\mQ 299 T/\mQ 3 T/\mQ 30 T/\mQ 32 (Z 6)/\mQ 331 (Z 2)/\mQ 34 T/\mQ 353 (Z 2)/\mQ 36 (Z 2)/\mQ 4 T/\mQ 45 T/\mQ 5 T/\mQ 51 T/\mQ 58 T/\mQ 65 T/\mQ 66 T/\mQ 68 (Z 4)/\mQ 69 T/\mQ 82 (Z 5)/\mQ 86 (Z 2)/\mQ 88 (Z 3)/\mQ 9 T/\VU 119 121 [bq .i64 0,bq .i64 0,bq .i64 0]/\VU 124 22 [u T 0 0]/\VU 206 207 [u T 0 0]/\VU 22 3 [bq .i64 0]/\VU 271 5 [bq .u8 0]/\VU 34 4 [aR aA]/\VU 51 105 [bq .u64 0]/\VV 123 2/\VV 169 5/\VV 219 2/\VV 22 1/\VV 290 2/\VV 51 1/\VV 65 2/\an1 9/\oM 104 1/\oM 105 1/\oM 119 1/\oM 121 3/\oM 123 1/\oM 124 1/\oM 133 0/\oM 161 2/\oM 163 2/\oM 168 1/\oM 169 1/\oM 171 2/\oM 173 2/\oM 180 1/\oM 184 1/\oM 186 5/\oM 194 7/\oM 200 5/\oM 207 1/\oM 209 4/\oM 21 1/\oM 215 1/\oM 22 1/\oM 221 5/\oM 222 1/\oM 228 3/\oM 234 7/\oM 238 5/\oM 24 1/\oM 240 4/\oM 25 1/\oM 27 6/\oM 271 1/\oM 28 1/\oM 287 1/\oM 288 1/\oM 29 1/\oM 290 1/\oM 299 1/\oM 3 1/\oM 303 4/\oM 32 6/\oM 331 2/\oM 34 1/\oM 353 2/\oM 36 2/\oM 38 9/\oM 4 1/\oM 51 1/\oM 65 1/\oM 66 1/\oM 68 4/\oM 69 1/\oM 82 5/\oM 86 2/\oM 88 3/\oM 9 1:=by
 repeat' apply iZ
 all_goals((repeat intro _);kernel_rfl)
def TFq:type_of%TF:=TF
def TDq:type_of%TD:=TD
section steps
variable{g:Nat}{q l:C Nat}{c:Code}{sl:Fr}{E:Rs}{H:R}{rs:C ResultVar}{args:C D}
def tl{K:Out->Prop}(h:A K)(e:sub (BG Pg g) q=c:=by conv=>lhs;whnf)(B:∀K,az Pg X (kC Pg g) (TC Pg g) (BG Pg g) 9999 (.co c<|AP q []) [] sl E H K=A K:=by intro K;conv=>lhs;simp(config:={maxSteps:=4000000}) (disch:=decide)only[↓VN,↓VO,↓VM,↓AM,↓ED,EE,TFq,↓TDq,↓reduceIte,dG,Nat.reduceBEq])(hk:Tw (kC Pg g) (TC Pg g) sl=F:=by kernel_rfl):iG Pg X (sub (BG Pg g) q) (ay Pg g sl E H) K:=
 goF (n:=9999) (by rw[B];exact h) e hk
def tm{K:Out->Prop}(h:vn)(e:sub (BG Pg g) q=c:=by conv=>lhs;whnf)(B:∀K,az Pg X (kC Pg g) (TC Pg g) (BG Pg g) 9999 (.co c<|AP q []) [] sl E H K=A K:=by intro K;conv=>lhs;simp(config:={maxSteps:=4000000}) (disch:=decide)only[↓VN,↓VO,↓VM,↓AM,↓ED,EE,TFq,↓TDq,↓reduceIte,dG,Nat.reduceBEq])(hk:Tw (kC Pg g) (TC Pg g) sl=F:=by kernel_rfl)(cs:vn->A K:=by intro h;(repeat(first|(simp only[PP,Nat.reduceBEq,iT G.wf])|(refine PU.b1 O ?_)|(refine PU.b2 O ?_)|(refine PU.b3 O ?_)|(refine PU.b4 O ?_)|(refine PU.b5 O ?_)|(refine PU.b6 O ?_)|(refine PU.b7 O ?_)|(refine PU.b8 O ?_)|(refine PU.b9 O ?_)|(refine G.qF ?_)|(refine G.jC ?_)|(refine G.VI ?_)|(refine G.PD ?_)|(refine ji (by simp only[fu,gJ<|Ext.refl<|hN _];rfl) ?_)));exact h):iG Pg X (sub (BG Pg g) q) (ay Pg g sl E H) K:=tl (cs h) e B hk
def tp{K:Out->Prop}(h:vn)(e:sub (BG Pg g) q=c:=by conv=>lhs;whnf)(B:∀K,az Pg X (kC Pg g) (TC Pg g) (BG Pg g) 9999 (.co c<|AP q []) [] sl E H K=A K:=by intro K;conv=>lhs;simp(config:={maxSteps:=4000000}) (disch:=decide)only[↓VN,↓VO,↓VM,↓AM,↓ED,EE,TFq,↓TDq,↓reduceIte,dG,Nat.reduceBEq])(hk:Tw (kC Pg g) (TC Pg g) sl=F:=by kernel_rfl)(cs:vn->A K:=by intro h;simp only[PP,Nat.reduceBEq];exact h):iG Pg X (sub (BG Pg g) q) (ay Pg g sl E H) K:=tl (cs h) e B hk
def ce(l:C Nat)(h:iG Pg X (sub (BG Pg g) []) (ay Pg g sl [] H)<|jZ Pg rs K)(hs:mkS l args=sl:=by conv=>lhs;simp only[EV,EE,TFq,↓reduceIte,dG,Nat.reduceBEq])(B:rsG Pg g=rs:=by conv=>lhs;whnf)(ho:X.o g args H=T:=by kernel_rfl)(e:okF Pg g l (len args)=F:=by kernel_rfl):bQ Pg X g args H K:=ceF h hs B ho e
def rr{A:(D->R->Prop)->Prop}(h:A K)(e:∀K:D->R->Prop,Ox Pg rs sl E H (λvs=>K (uO vs) H)=A K:=by intro K;conv=>lhs;simp only[EV,EE,TFq,↓reduceIte,dG,Nat.reduceBEq])(hk:Tw (kC Pg g) (TC Pg g) sl=F:=by kernel_rfl):jZ Pg rs K (.ret<|ay Pg g sl E H):=rrF (by rw[e];exact h) hk
def rn{A:(D->R->Prop)->Prop}(h:A K)(e:∀K:D->R->Prop,Ox Pg rs sl E H (λvs=>K (uO vs) H)=A K:=by intro K;conv=>lhs;simp only[EV,EE,TFq,↓reduceIte,dG,Nat.reduceBEq])(hk:Tw (kC Pg g) (TC Pg g) sl=F:=by kernel_rfl):jZ Pg rs K (.norm<|ay Pg g sl E H):=rnF (by rw[e];exact h) hk
def tQ{A ah:Prop}{d:Decidable p}(I:p->A)(W:¬p->vn)(cs:yU (Z<|decide p) A vn->ah:=by intro h;refine tp ?_;exact h):ah:=cs<|aW I W
def lX{A ah:Prop}{d:Decidable p}(W:¬p->vn)(I:p->A)(cs:yU (Z<|decide p) A vn->ah:=by intro h;refine tp ?_;exact h):ah:=cs<|aW I W
def al3{A ah:Prop}{d:Decidable p}(I:¬p->A)(W:p->vn)(cs:yU (Z<|!decide p) A vn->ah:=by intro h;refine tp ?_;exact h):ah:=cs<|fP I W
def an2{A ah:Prop}(I:b=F->A)(W:b=aA->vn)(cs:yU (Z b) A vn->ah:=by intro h;refine tp ?_;exact h):ah:=cs<|iI I W
def aab{A ah:Prop}{d:Decidable p}(I:p->A)(W:¬p->vn)(cs:yU (Z<|decide p) A vn->ah:=by intro h;refine tm ?_;exact h):ah:=cs<|aW I W
def agk{A ah:Prop}{d:Decidable p}(W:¬p->vn)(I:p->A)(cs:yU (Z<|decide p) A vn->ah:=by intro h;refine tm ?_;exact h):ah:=cs<|aW I W
def al4{A ah:Prop}{d:Decidable p}(I:¬p->A)(W:p->vn)(cs:yU (Z<|!decide p) A vn->ah:=by intro h;refine tm ?_;exact h):ah:=cs<|fP I W
def al5{A ah:Prop}(I:b=F->A)(W:b=aA->vn)(cs:yU (Z b) A vn->ah:=by intro h;refine tm ?_;exact h):ah:=cs<|iI I W
def lq(l:C Nat)(h:vn)(hs:mkS l args=sl:=by conv=>lhs;simp only[EV,EE,TFq,↓reduceIte,dG,Nat.reduceBEq])(B:rsG Pg g=rs:=by conv=>lhs;whnf)(ho:X.o g args H=T:=by kernel_rfl)(e:okF Pg g l (len args)=F:=by kernel_rfl)(cs:vn->iG Pg X (sub (BG Pg g) []) (ay Pg g sl [] H) (jZ Pg rs K):=by intro h;refine tl ?_;exact h):bQ Pg X g args H K:=ceF (cs h) hs B ho e
def GY(l:C Nat)(h:vn)(hs:mkS l args=sl:=by conv=>lhs;simp only[EV,EE,TFq,↓reduceIte,dG,Nat.reduceBEq])(B:rsG Pg g=rs:=by conv=>lhs;whnf)(ho:X.o g args H=T:=by kernel_rfl)(e:okF Pg g l (len args)=F:=by kernel_rfl)(cs:vn->iG Pg X (sub (BG Pg g) []) (ay Pg g sl [] H) (jZ Pg rs K):=by intro h;refine tp ?_;exact h):bQ Pg X g args H K:=ceF (cs h) hs B ho e
def cem(l:C Nat)(h:vn)(hs:mkS l args=sl:=by conv=>lhs;simp only[EV,EE,TFq,↓reduceIte,dG,Nat.reduceBEq])(B:rsG Pg g=rs:=by conv=>lhs;whnf)(ho:X.o g args H=T:=by kernel_rfl)(e:okF Pg g l (len args)=F:=by kernel_rfl)(cs:vn->iG Pg X (sub (BG Pg g) []) (ay Pg g sl [] H) (jZ Pg rs K):=by intro h;refine tm ?_;exact h):bQ Pg X g args H K:=ceF (cs h) hs B ho e
end steps
end Go.Proofs.Lu
