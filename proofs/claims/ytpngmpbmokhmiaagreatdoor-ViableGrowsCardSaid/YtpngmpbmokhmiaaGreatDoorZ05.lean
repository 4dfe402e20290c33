/-
  Part 05 of the proof. No condition.
-/
import Derived.Test.YtpngmpbmokhmiaaGreatDoorZ04
set_option linter.unusedVariables false
set_option linter.unusedSimpArgs false
set_option maxRecDepth 100000
set_option maxHeartbeats 4000000
set_option linter.defProp false
open Option renaming some->D,none->Q,rec->aM
open Bool renaming true->f,false->aC,rec->gz
open Go renaming Value->Z,TypeId->aH,Program->aU,World->bY,Operand->bT,IntKind->fB,BinOp->rA
open Go.Value renaming int->bX,slice->I,bool->gI,string->fT,pointer->uy,map->WZ
open Nat renaming rec->jA,beq->aA,succ->bW,ble->aD,add->aZ
open List renaming rec->cz,toArray->iE
open ByteArray renaming mk->dh
open And renaming intro->ik
noncomputable section
namespace Go.Ae.cs
variable{ps:Array (Nat×bT)}{args ps1 ps2:Array bT}{ats:Array aH}{K K' Km Km':Z->R->Prop}{α β:Type}{vn c:Code}{p:C Nat}{i j n nl nt t:Nat}{ρ:bT->Z}{o:Op}{hi lo mx r:aB bT}{b gb ok:Bool}{Kp':Z->Prop}{ty rg:aH}{H T:R}{v w:Z}{s:St}{a vs:C Z}
inductive Fr where
 |n
 |c(i:Nat)(v:Z)(l:Fr)
abbrev Rs:=C<|Nat×Z
def tsF(l:Fr):Tr Z:=@Fr.rec (λ_=>Tr Z) .nil (λi v _ r=>r.set top i v) l
def S(nl nt:Nat)(sl:Fr)(u:Rs)(H:R):St:=⟨nl,nt,u,tsF sl,[],H⟩
def lk(sl:Fr)(u:Rs)(t:Nat):Z:=@Fr.rec (λ_=>Z) (look u t) (λi v _ r=>bV (aA i t) v r) sl
def hs(sl:Fr)(t:Nat):Bool:=@Fr.rec (λ_=>Bool) aC (λi _ _ r=>bV (aA i t) f r) sl
def up(sl:Fr)(t:Nat)(v:Z):Fr:=@Fr.rec (λ_=>Fr) .n (λi w l r=>bV (aA i t) (.c i v l)<|.c i w r) sl
def QS(nl nt:Nat)(sl:Fr):Bool:=aD (bW nl) (Nat.pow 2 nt)&&@jA (λ_=>Bool) f (λt r=>bV (hs sl t) (gZ nl t) (!(gZ nl t))&&r) nt&&@Fr.rec (λ_=>Bool) f (λi _ _ r=>aD (bW i) nt&&r) sl
def eq'(sl:Fr)(u:Rs)(x:bT):Z:=@Operand.rec (λ_=>Z) (λt=>lk sl u t) (λv=>v) (λg=>.pointer<|D ⟨g,0,Q⟩) (λay=>.func (.func ay) #[] #[]) x
def eqO(ρ:bT->Z)(x:aB bT):aB Z:=@aM bT (λ_=>aB Z) Q (λx=>D<|ρ x) x
def aa0(ρ:bT->Z)(ps:Array<|Nat×bT):Rs:=mp (λp=>(p.1,ρ p.2)) ps.toList
def aer(c:Callee):aU->(bT->Z)->aB (FuncId×C Z×C Z):=
 @Callee.rec (λ_=>aU->(bT->Z)->aB (FuncId×C Z×C Z))
  (λay _ ρ=>Mj<|ρ ay) (λr name P ρ=>aL (Er<|ρ r) λp=>aL (methodOf P p.1 name) λq=>D (q.1,[p.2],[]))
  (λ_ _ _=>Q) c
def ajb(P:aU)(X:Xt)(c:Call)(ρ:bT->Z)(H:R)(Kp:Z->Prop)(Km:Z->R->Prop):Prop:=
 @aM Builtin (λ_=>Prop) (nU P X (aer c.callee P ρ) (mp ρ c.args.toList) H Km)
  (λb=>zy b c.argTypes.toList (mp ρ c.args.toList) P H Kp Km) (isBuiltin c.callee)
def opG(o:Op):aU->Xt->(bT->Z)->R->(Z->Prop)->(Z->R->Prop)->Prop:=
 @Op.rec (λ_=>aU->Xt->(bT->Z)->R->(Z->Prop)->(Z->R->Prop)->Prop)
  (λx P X ρ H Kp Km=>Kp<|ρ x) (λx P X ρ H Kp Km=>Kp<|ρ x) (λc a b P X ρ H Kp Km=>PU (JX (ρ c) (ρ a)<|ρ b) Kp) (λe P X ρ H Kp Km=>ME (CJ P e H) Km) (λe x P X ρ H Kp Km=>ME (JZ e (ρ x) H) Km) (λt ps P X ρ H Kp Km=>PU (Bj P t<|aa0 ρ ps) Kp) (λt n ps P X ρ H Kp Km=>ME (tO P t n (aa0 ρ ps) H) Km) (λ_ _ _ _ _ _ _ _ _ _=>False) (λt x P X ρ H Kp Km=>ME (wu P t (ρ x) H) Km) (λt x v P X ρ H Kp Km=>ME (zi P t (ρ x) (ρ v) H) Km) (λ_ _ _ _ _ _ _=>False) (λ_ _ _ _ _ _ _=>False) (λx P X ρ H Kp Km=>PU (Oa<|ρ x) Kp) (λop t x hr _ P X ρ H Kp Km=>PU (lY P op t x hr (ρ x)<|ρ hr) Kp) (λop _ x P X ρ H Kp Km=>PU (j3<|Op.unary op<|ρ x) Kp) (λa b x P X ρ H Kp Km=>CV (CE P a b<|ρ x) (uL P a b (ρ x) H) Kp Km) (λ_ _ _ _ _ _ _ _=>False) (λ_ _ _ _ _ _ _ _=>False) (λay fi ca P X ρ H Kp Km=>Kp<|.func ay ⟨mp ρ fi.toList⟩ ⟨mp ρ ca.toList⟩) (λt r P X ρ H Kp Km=>ME (uV P t (eqO ρ r) H) Km) (λ_ _ _ _ _ _ _ _=>False) (λt l c P X ρ H Kp Km=>ME (qD P t (ρ l) (ρ c) H) Km) (λt x lo hi mx P X ρ H Kp Km=>PU (Ag P t (ρ x) (eqO ρ lo) (eqO ρ hi)<|eqO ρ mx) Kp) (λt x ay P X ρ H Kp Km=>PU (rR P t (ρ x) ay) Kp) (λt x ay P X ρ H Kp Km=>PU (CG P t (ρ x) ay) Kp) (λt x i P X ρ H Kp Km=>PU (rQ P t (ρ x)<|ρ i) Kp) (λt x i P X ρ H Kp Km=>PU (CF P t (ρ x)<|ρ i) Kp) (λt x k ok P X ρ H Kp Km=>ME (sV P t (ρ x) (ρ k) ok H) Km) (λt m k v P X ρ H Kp Km=>ME (vF P t (ρ m) (ρ k) (ρ v) H) Km) (λ_ _ _ _ _ _ _ _ _=>False) (λ_ _ _ _ _ _ _ _ _ _=>False) (λ_ _ _ _ _ _ _ _=>False) (λ_ _ _ _ _ _ _ _=>False) (λ_ _ _ _ _ _ _=>False) (λ_ _ _ _ _ _ _ _ _ _=>False) (λt i P X ρ H Kp Km=>PU (uU (ρ t) i) Kp) (λc P X ρ H Kp Km=>ajb P X c ρ H Kp Km) (λ_ _ _ _ _ _ _=>False) (λ_ _ _ _ _ _ _=>False) (λ_ _ _ _ _ _ _=>False) (λ_ _ _ _ _ _ _ _=>False) (λ_ _ _ _ _ _ _ _ _=>False) (λ_ _ _ _ _ _ _ _=>False) o
def aa1(P:aU)(o:Op)(ρ:bT->Z):Cl:=
 (aL (Gz o) λp=>aL (qC<|ρ p.2) λa=>aL (Za P p.1) λl=>D<|Cl.mk 4 a.block a.off (l.getD 1) hh0 hh0).getD (cl 1)
def FW(P:aU)(o:Op)(ρ:bT->Z)(H T:R):Cl:=
 @aM (bT×bT) (λ_=>Cl) (bV (aD H.next T.low) (bV (zT o) (cl 5)<|aa1 P o ρ) ⟨2,0,0,0,H,T⟩)
  (λp=>@aM Addr (λ_=>Cl) ⟨2,0,0,0,H,T⟩ (λa=>⟨3,a.block,a.off,len<|bK<|ρ p.2,hh0,hh0⟩)<|qC<|ρ p.1) (Bq o)
inductive Kd where
 |norm
 |exit(i:Nat)
 |goto(l:Nat)
 |ret
def Kd.out(k:Kd)(s:St):Out:=@Kd.rec (λ_=>Out) (.norm s) (λi=>.exit i s) (λl=>.goto l s) (.ret s) k
def blQ(id:Nat)(k:Kd):Kd:=@Kd.rec (λ_=>Kd) .norm (λi=>bV (aA i id) .norm<|.exit i) (λl=>.goto l) .ret k
inductive Fm where
 |sq(p:C Nat)(c:Code)
 |sj(p:C Nat)
 |bk(id:Nat)
inductive Md where
 |pl
 |dr(aj:Array Oper)(acc:C Cl)
def EN(m:Md):Md:=@Md.rec (λ_=>Md) .pl (λaj acc=>.dr aj<|cl 0::acc) m
def OT(m:Md)(c:Cl):Md:=@Md.rec (λ_=>Md) .pl (λaj acc=>.dr aj<|c::acc) m
def hX(m:Md)(H:R):R:=@Md.rec (λ_=>R) H (λ_ _=>hN H) m
def hY(m:Md)(H T:R):R:=@Md.rec (λ_=>R) T (λ_ _=>hM H T) m
inductive Ct where
 |co(c:Code)(p:C Nat)
 |cd(v:aB Bool)(a b:Code)(p:C Nat)
 |ou(k:Kd)
 |op(L l:C Oper)(m:Md)(sk:C Nat)
 |gu(L l:C Oper)(m:Md)(sk:C Nat)(d:aB Nat)(o:Op)(gb:Bool)(t:aB Nat)
 |gv(L l:C Oper)(m:Md)(sk:C Nat)(d:aB Nat)(o:Op)(gb:Bool)(t:Nat)(e:Bool)(v:aB Bool)
 |ge(L l:C Oper)(m:Md)(sk:C Nat)(d:aB Nat)(o:Op)(b:Bool)
 |ex(L l:C Oper)(m:Md)(sk:C Nat)(d:aB Nat)(o:Op)
 |pk(L l:C Oper)(m:Md)(sk:C Nat)(d:aB Nat)(c:aB Bool)(a b:Z)
 |af(L l:C Oper)(m:Md)(sk:C Nat)(d:aB Nat)(v:Z)
 |pt(h:Bool)(t:Nat)(v:Z)(nx:Ct)
def zz(p:C Nat):C Nat->C Nat:=@cz Nat (λ_=>C Nat->C Nat) (λq=>q) (λi _ ih q=>ih<|i::q) p
def kO(P:aU)(X:Xt)(vn:Code)(st:C Fm)(hx:Out->Prop):Out->Prop:=
 @cz Fm (λ_=>Out->Prop) hx (λay _ r=>@Fm.rec (λ_=>Out->Prop) (λp _=>t_ P X (sub vn<|zz p []) r) (λp=>t_ P X (sub vn<|zz p []) r) (λid=>sw id r) ay) st
def gtN(l:C Oper)(j:Nat):aB Nat:=aL (nth l j) λo=>o.dst
def Ya(sk:C Nat)(d:aB Nat):C Nat:=@aM Nat (λ_=>C Nat) sk (λd=>d::sk) d
def az(P:aU)(X:Xt)(nl nt:Nat)(vn:Code):Nat->Ct->C Fm->Fr->Rs->R->(Out->Prop)->Prop
 |0,_,_,_,_,_,_=>False
 |n+1,.co .skip _,st,sl,u,H,hx=>az P X nl nt vn n (.ou .norm) st sl u H hx
 |n+1,.co (.region _ ops aC) _,st,sl,_,H,hx=>az P X nl nt vn n (.op ops.toList ops.toList .pl []) st sl [] H hx
 |n+1,.co (.region _ ops f) p,st,sl,_,H,hx=>(kD ops&&o9 ops)=f/\az P X nl nt vn n (.op ops.toList ops.toList (.dr (opsOf<|sub vn<|zz p []) []) []) st sl [] H hx
 |n+1,.co (.seq a b) p,st,sl,u,H,hx=>az P X nl nt vn n (.co a<|0::p) (bV (FL a b) (.sj<|1::p) (.sq (1::p) b)::st) sl u H hx
 |n+1,.co (.cond x a b) p,st,sl,u,H,hx=>az P X nl nt vn n (.cd (jQ<|eq' sl u x) a b p) st sl u H hx
 |n+1,.co (.block id a) p,st,sl,u,H,hx=>az P X nl nt vn n (.co a<|0::p) (.bk id::st) sl u H hx
 |_+1,.co (.loop _) p,st,sl,u,H,hx=>gK P X (.loop<|sub vn<|zz (0::p) []) (S nl nt sl u H)<|kO P X vn st hx
 |_+1,.co (.scope _) p,st,sl,u,H,hx=>gK P X (.scope<|sub vn<|zz (0::p) []) (S nl nt sl u H)<|kO P X vn st hx
 |n+1,.co (.exit i) _,st,sl,u,H,hx=>az P X nl nt vn n (.ou<|.exit i) st sl u H hx
 |n+1,.co (.goto i) _,st,sl,u,H,hx=>az P X nl nt vn n (.ou<|.goto i) st sl u H hx
 |n+1,.co (.label _) _,st,sl,u,H,hx=>az P X nl nt vn n (.ou .norm) st sl u H hx
 |n+1,.co .ret _,st,sl,u,H,hx=>az P X nl nt vn n (.ou .ret) st sl u H hx
 |_+1,.co _ _,_,_,_,_,_=>False
 |n+1,.cd v a b p,st,sl,u,H,hx=>xD v (az P X nl nt vn n (.co a<|0::p) st sl u H hx)<|az P X nl nt vn n (.co b<|1::p) st sl u H hx
 |_+1,.ou k,[],sl,u,H,hx=>hx<|k.out<|S nl nt sl u H
 |n+1,.ou .norm,.sq p c::st,sl,u,H,hx=>az P X nl nt vn n (.co c p) st sl u H hx
 |_+1,.ou .norm,.sj p::st,sl,u,H,hx=>gK P X (sub vn<|zz p []) (S nl nt sl u H)<|kO P X vn st hx
 |n+1,.ou k,.bk id::st,sl,u,H,hx=>az P X nl nt vn n (.ou<|blQ id k) st sl u H hx
 |n+1,.ou k,_::st,sl,u,H,hx=>az P X nl nt vn n (.ou k) st sl u H hx
 |n+1,.op L [] m sk,st,sl,u,H,hx=>@Md.rec (λ_=>Prop) (az P X nl nt vn n (.ou .norm) st sl u H hx) (λaj acc=>jT aj acc=f/\az P X nl nt vn n (.ou .norm) st sl u H hx) m
 |n+1,.op L (o::l) m sk,st,sl,u,H,hx=>@aM (Nat×Bool) (λ_=>Prop) (az P X nl nt vn n (.ex L l m sk o.dst o.op) st sl u H hx)
   (λg=>az P X nl nt vn n (.gu L l m sk o.dst o.op g.2<|gtN L g.1) st sl u H hx) o.guard
 |_+1,.gu _ _ _ _ _ _ _ Q,_,_,_,_,_=>False
 |n+1,.gu L l m sk d o gb<|D t,st,sl,u,H,hx=>az P X nl nt vn n (.gv L l m sk d o gb t (AB sk t)<|jQ<|lk sl u t) st sl u H hx
 |n+1,.gv L l m sk d o gb t e v,st,sl,u,H,hx=>@gz (λ_=>Prop)
   (xD v (az P X nl nt vn n (.pt (hs sl t) t (.bool f)<|.ge L l m (qF sk t) d o<|Ba f gb) st sl u H hx)<|az P X nl nt vn n (.pt (hs sl t) t (.bool aC)<|.ge L l m (qF sk t) d o<|Ba aC gb) st sl u H hx)
   (az P X nl nt vn n (.ge L l m sk d o aC) st sl u H hx) e
 |n+1,.ge L l m sk d o b,st,sl,u,H,hx=>@gz (λ_=>Prop) (az P X nl nt vn n (.af L l (EN m) (Ya sk d) d undef) st sl u H hx) (az P X nl nt vn n (.ex L l m sk d o) st sl u H hx) b
 |n+1,.ex L l m sk d<|.move x,st,sl,u,H,hx=>az P X nl nt vn n (.af L l (EN m) (lJ sk d) d<|eq' sl u x) st sl u H hx
 |n+1,.ex L l m sk d<|.assign x,st,sl,u,H,hx=>az P X nl nt vn n (.af L l (EN m) (lJ sk d) d<|eq' sl u x) st sl u H hx
 |n+1,.ex L l m sk d<|.makeFunc ay ps1 ps2,st,sl,u,H,hx=>az P X nl nt vn n (.af L l (EN m) (lJ sk d) d<|.func ay ⟨mp (eq' sl u) ps1.toList⟩ ⟨mp (eq' sl u) ps2.toList⟩) st sl u H hx
 |n+1,.ex L l m sk d<|.pick c a b,st,sl,u,H,hx=>az P X nl nt vn n (.pk L l (EN m) (lJ sk d) d (jQ<|eq' sl u c) (eq' sl u a)<|eq' sl u b) st sl u H hx
 |n+1,.ex L l m sk d o,st,sl,u,H,hx=>opG o P X (eq' sl u) (hX m H) (λv=>az P X nl nt vn n (.af L l (EN m) (lJ sk d) d v) st sl u H hx) λv T=>az P X nl nt vn n (.af L l (OT m<|FW P o (eq' sl u) H T) (lJ sk d) d v) st sl u (hY m H T) hx
 |n+1,.pk L l m sk d c a b,st,sl,u,H,hx=>PU (aL c λt=>D<|bV t a b) λv=>az P X nl nt vn n (.af L l m sk d v) st sl u H hx
 |n+1,.af L l m sk Q v,st,sl,u,H,hx=>az P X nl nt vn n (.op L l m sk) st sl u H hx
 |n+1,.af L l m sk (D t) v,st,sl,u,H,hx=>az P X nl nt vn n (.pt (hs sl t) t v<|.op L l m sk) st sl u H hx
 |n+1,.pt f t v nx,st,sl,u,H,hx=>az P X nl nt vn n nx st (up sl t v) u H hx
 |n+1,.pt aC t v nx,st,sl,u,H,hx=>az P X nl nt vn n nx st sl ((t,v)::u) H hx
variable{st:C Fm}{u:Rs}
section eqs
variable{P:aU}{X:Xt}{a b:Code}{q sk:C Nat}{sl:Fr}{hx:Out->Prop}{L l:C Oper}{m:Md}{d:aB Nat}{rg:Nat}{x hr z:bT}{k:Kd}{aj:Array Oper}{acc:C Cl}{M:Cl}{pos:String}{aa2:Array Edge}{nx:Ct}
def nr{α:Sort _}{a b:α}(h:a=b):a=b:=h
def ajc{α:Type}{x hr:α}:bV f x hr=x:=nr O
def ajd{α:Type}{x hr:α}:bV aC x hr=hr:=nr O
def nb:aA i j=(i==j):=nr (by
 by_cases h:i=j
 .subst h;rw[show aA i i=f from dD i];simp
 .rw[show(i==j)=aC by simp[h]];rw[<-b_];intro e;exact h<|aW e)
def ct{b:Bool}{x hr:α}:bV b x hr=if b=f then x else hr:=by cases b<;>rfl
def cb{x hr:α}:bV (aA j i) x hr=if(j==i)=f then x else hr:=by rw[ct,nb]
def aje:lk .n u i=Bc u i:=nr O
def ajf:lk (.c j v sl) u i=if(j==i)=f then v else lk sl u i:=cb
def ajg:Bc [] i=top:=nr O
def ajh:Bc ((j,v)::u) i=if(j==i)=f then v else Bc u i:=cb
def aji:hs .n i=aC:=nr O
def ajj:hs (.c j v sl) i=if(j==i)=f then f else hs sl i:=cb
def GZ:up .n i v=.n:=nr O
def G4:up (.c j w sl) i v=if(j==i)=f then .c j v sl else .c j w (up sl i v):=cb
def afJ:eq' sl u (.tmp i)=lk sl u i:=nr O
def VT:eq' sl u (.const v)=v:=by cases v<;>rfl
def QT:eq' sl u (.global i)=.pointer (D ⟨i,0,Q⟩):=nr O
def aa3:eq' sl u (.func i)=.func (.func i) #[] #[]:=nr O
def aa4:eqO ρ Q=Q:=nr O
def aa5:eqO ρ (D x)=D (ρ x):=nr O
def ajk:jQ (.bool f)=D f:=nr O
def ajl:jQ (.bool aC)=D aC:=nr O
def aa6{α β:Type}{ay:α->β}:mp ay []=[]:=nr O
def VU{α β:Type}{ay:α->β}{x:α}{l:C α}:mp ay (x::l)=ay x::mp ay l:=nr O
def afK{ps:Array (Nat×bT)}:aa0 ρ ps=mp (λp=>(p.1,ρ p.2)) ps.toList:=nr O
def aa7(l:C α):app l []=l:=by rw[qB,bq]
def ajm:blQ i .norm=.norm:=nr O
def ajn:blQ i (.exit j)=if(j==i)=f then .norm else .exit j:=cb
def ajo:blQ i (.goto j)=.goto j:=nr O
def ajp:blQ i .ret=.ret:=nr O
def ajq:Kd.out .norm s=.norm s:=nr O
def ajr:Kd.out (.exit i) s=.exit i s:=nr O
def ajs:Kd.out (.goto i) s=.goto i s:=nr O
def ajt:Kd.out .ret s=.ret s:=nr O
def afL:EN .pl=.pl:=nr O
def afM:EN (.dr aj acc)=.dr aj (cl 0::acc):=nr O
def afN:OT .pl M=.pl:=nr O
def afO:OT (.dr aj acc) M=.dr aj (M::acc):=nr O
def afP:hX .pl H=H:=nr O
def afQ:hX (.dr aj acc) H=hN H:=nr O
def afR:hY .pl H T=T:=nr O
def afS:hY (.dr aj acc) H T=hM H T:=nr O
def aju:zz [] q=q:=nr O
def ajv:zz (i::p) q=zz p (i::q):=nr O
def ajw:kO P X vn [] hx=hx:=nr O
def ajx:kO P X vn (.sq p c::st) hx=t_ P X (sub vn<|zz p []) (kO P X vn st hx):=nr O
def ajy:kO P X vn (.sj p::st) hx=t_ P X (sub vn<|zz p []) (kO P X vn st hx):=nr O
def ajz:kO P X vn (.bk i::st) hx=sw i (kO P X vn st hx):=nr O
def ajA{g:aB (Nat×Bool)}:gtN (⟨d,o,ty,pos,aa2,g⟩::l) 0=d:=nr O
def ajB{o:Oper}:gtN (o::l) (j+1)=gtN l j:=nr O
def afT:AB [] i=aC:=nr O
def aa8:AB (j::sk) i=if(j==i)=f then f else AB sk i:=cb
def aa9:Ya sk Q=sk:=nr O
def aba:Ya sk (D i)=i::sk:=nr O
def afU:qF [] i=[]:=nr O
def abb:qF (j::sk) i=if(j==i)=f then qF sk i else j::qF sk i:=cb
def abd:lJ sk (D i)=qF sk i:=nr O
def abe:lJ sk Q=sk:=nr O
def afV:Ba f f=f:=nr O
def afW:Ba f aC=aC:=nr O
def afX:Ba aC f=aC:=nr O
def afY:Ba aC aC=f:=nr O
def abf:az P X nl nt vn (n+1) (.co .skip p) st sl u H hx=az P X nl nt vn n (.ou .norm) st sl u H hx:=rfl
def afZ:az P X nl nt vn (n+1) (.co (.region i (iE l) aC) p) st sl u H hx=az P X nl nt vn n (.op l l .pl []) st sl [] H hx:=rfl
def TN(h:(kD (iE l)&&o9 (iE l))=f):az P X nl nt vn (n+1) (.co (.region i (iE l) f) p) st sl u H hx=az P X nl nt vn n (.op l l (.dr (opsOf<|sub vn<|zz p []) []) []) st sl [] H hx:=by
 show((kD (iE l)&&o9 (iE l))=f/\az P X nl nt vn n (.op l l (.dr (opsOf<|sub vn<|zz p []) []) []) st sl [] H hx)=_;rw[h];simp
def TP(h:FL a b=f):az P X nl nt vn (n+1) (.co (.seq a b) p) st sl u H hx=az P X nl nt vn n (.co a<|0::p) (.sj (1::p)::st) sl u H hx:=by
 show az P X nl nt vn n (.co a<|0::p) (bV (FL a b) _ _::st) sl u H hx=_;rw[h];rfl
def TQ(h:FL a b=aC):az P X nl nt vn (n+1) (.co (.seq a b) p) st sl u H hx=az P X nl nt vn n (.co a<|0::p) (.sq (1::p) b::st) sl u H hx:=by
 show az P X nl nt vn n (.co a<|0::p) (bV (FL a b) _ _::st) sl u H hx=_;rw[h];rfl
def abg:az P X nl nt vn (n+1) (.co (.cond x a b) p) st sl u H hx=az P X nl nt vn n (.cd (jQ<|eq' sl u x) a b p) st sl u H hx:=rfl
def VV:az P X nl nt vn (n+1) (.co (.block i a) p) st sl u H hx=az P X nl nt vn n (.co a<|0::p) (.bk i::st) sl u H hx:=rfl
def abh:az P X nl nt vn (n+1) (.co (.loop a) p) st sl u H hx=gK P X (.loop<|sub vn<|zz (0::p) []) (S nl nt sl u H) (kO P X vn st hx):=rfl
def VW:az P X nl nt vn (n+1) (.co (.scope a) p) st sl u H hx=gK P X (.scope<|sub vn<|zz (0::p) []) (S nl nt sl u H) (kO P X vn st hx):=rfl
def abj:az P X nl nt vn (n+1) (.co (.exit i) p) st sl u H hx=az P X nl nt vn n (.ou<|.exit i) st sl u H hx:=rfl
def abk:az P X nl nt vn (n+1) (.co (.goto i) p) st sl u H hx=az P X nl nt vn n (.ou<|.goto i) st sl u H hx:=rfl
def VX:az P X nl nt vn (n+1) (.co (.label i) p) st sl u H hx=az P X nl nt vn n (.ou .norm) st sl u H hx:=rfl
def af0:az P X nl nt vn (n+1) (.co .ret p) st sl u H hx=az P X nl nt vn n (.ou .ret) st sl u H hx:=rfl
def af1:az P X nl nt vn (n+1) (.cd (D f) a b p) st sl u H hx=az P X nl nt vn n (.co a<|0::p) st sl u H hx:=rfl
def af2:az P X nl nt vn (n+1) (.cd (D aC) a b p) st sl u H hx=az P X nl nt vn n (.co b<|1::p) st sl u H hx:=rfl
def af3:az P X nl nt vn (n+1) (.cd (jQ v) a b p) st sl u H hx=xD (jQ v) (az P X nl nt vn n (.co a<|0::p) st sl u H hx) (az P X nl nt vn n (.co b<|1::p) st sl u H hx):=rfl
def ahw:az P X nl nt vn (n+1) (.ou k) [] sl u H hx=hx (k.out<|S nl nt sl u H):=by cases k<;>rfl
def abl:az P X nl nt vn (n+1) (.ou .norm) (.sq p c::st) sl u H hx=az P X nl nt vn n (.co c p) st sl u H hx:=rfl
def abm:az P X nl nt vn (n+1) (.ou .norm) (.sj p::st) sl u H hx=gK P X (sub vn<|zz p []) (S nl nt sl u H) (kO P X vn st hx):=rfl
def TR:az P X nl nt vn (n+1) (.ou k) (.bk i::st) sl u H hx=az P X nl nt vn n (.ou<|blQ i k) st sl u H hx:=by cases k<;>rfl
def abn:az P X nl nt vn (n+1) (.ou<|.exit i) (.sq p c::st) sl u H hx=az P X nl nt vn n (.ou<|.exit i) st sl u H hx:=rfl
def abo:az P X nl nt vn (n+1) (.ou<|.exit i) (.sj p::st) sl u H hx=az P X nl nt vn n (.ou<|.exit i) st sl u H hx:=rfl
def abp:az P X nl nt vn (n+1) (.ou<|.goto i) (.sq p c::st) sl u H hx=az P X nl nt vn n (.ou<|.goto i) st sl u H hx:=rfl
def abq:az P X nl nt vn (n+1) (.ou<|.goto i) (.sj p::st) sl u H hx=az P X nl nt vn n (.ou<|.goto i) st sl u H hx:=rfl
def abr:az P X nl nt vn (n+1) (.ou .ret) (.sq p c::st) sl u H hx=az P X nl nt vn n (.ou .ret) st sl u H hx:=rfl
def abt:az P X nl nt vn (n+1) (.ou .ret) (.sj p::st) sl u H hx=az P X nl nt vn n (.ou .ret) st sl u H hx:=rfl
def af4:az P X nl nt vn (n+1) (.op L [] .pl sk) st sl u H hx=az P X nl nt vn n (.ou .norm) st sl u H hx:=rfl
def af5:az P X nl nt vn (n+1) (.op L [] (.dr aj acc) sk) st sl u H hx=(jT aj acc=f/\az P X nl nt vn n (.ou .norm) st sl u H hx):=rfl
def ajC:az P X nl nt vn (n+1) (.op L (⟨d,o,ty,pos,aa2,Q⟩::l) m sk) st sl u H hx=az P X nl nt vn n (.ex L l m sk d o) st sl u H hx:=rfl
def af6:az P X nl nt vn (n+1) (.op L (⟨d,o,ty,pos,aa2,D (j,gb)⟩::l) m sk) st sl u H hx=az P X nl nt vn n (.gu L l m sk d o gb<|gtN L j) st sl u H hx:=rfl
def ajD:az P X nl nt vn (n+1) (.gu L l m sk d o gb<|D t) st sl u H hx=az P X nl nt vn n (.gv L l m sk d o gb t (AB sk t)<|jQ<|lk sl u t) st sl u H hx:=rfl
def af7{v:aB Bool}:az P X nl nt vn (n+1) (.gv L l m sk d o gb t f v) st sl u H hx=az P X nl nt vn n (.ge L l m sk d o aC) st sl u H hx:=rfl
def af8:az P X nl nt vn (n+1) (.gv L l m sk d o gb t aC<|D f) st sl u H hx=az P X nl nt vn n (.pt (hs sl t) t (.bool f)<|.ge L l m (qF sk t) d o<|Ba f gb) st sl u H hx:=rfl
def af9:az P X nl nt vn (n+1) (.gv L l m sk d o gb t aC<|D aC) st sl u H hx=az P X nl nt vn n (.pt (hs sl t) t (.bool aC)<|.ge L l m (qF sk t) d o<|Ba aC gb) st sl u H hx:=rfl
def aga:az P X nl nt vn (n+1) (.gv L l m sk d o gb t aC<|jQ v) st sl u H hx=xD (jQ v) (az P X nl nt vn n (.pt (hs sl t) t (.bool f)<|.ge L l m (qF sk t) d o<|Ba f gb) st sl u H hx) (az P X nl nt vn n (.pt (hs sl t) t (.bool aC)<|.ge L l m (qF sk t) d o<|Ba aC gb) st sl u H hx):=rfl
def agb:az P X nl nt vn (n+1) (.ge L l m sk d o f) st sl u H hx=az P X nl nt vn n (.ex L l m sk d o) st sl u H hx:=rfl
def agc:az P X nl nt vn (n+1) (.ge L l m sk d o aC) st sl u H hx=az P X nl nt vn n (.af L l (EN m) (Ya sk d) d undef) st sl u H hx:=rfl
def abu:az P X nl nt vn (n+1) (.ex L l m sk d<|.move x) st sl u H hx=az P X nl nt vn n (.af L l (EN m) (lJ sk d) d<|eq' sl u x) st sl u H hx:=rfl
def QU:az P X nl nt vn (n+1) (.ex L l m sk d<|.assign x) st sl u H hx=az P X nl nt vn n (.af L l (EN m) (lJ sk d) d<|eq' sl u x) st sl u H hx:=rfl
def ajE{ay:Fn}{ps1 ps2:Array bT}:az P X nl nt vn (n+1) (.ex L l m sk d<|.makeFunc ay ps1 ps2) st sl u H hx=az P X nl nt vn n (.af L l (EN m) (lJ sk d) d<|.func ay ⟨mp (eq' sl u) ps1.toList⟩ ⟨mp (eq' sl u) ps2.toList⟩) st sl u H hx:=rfl
def abv:az P X nl nt vn (n+1) (.ex L l m sk d<|.pick x hr z) st sl u H hx=az P X nl nt vn n (.pk L l (EN m) (lJ sk d) d (jQ<|eq' sl u x) (eq' sl u hr)<|eq' sl u z) st sl u H hx:=rfl
def agd:az P X nl nt vn (n+1) (.pk L l m sk d (D f) v w) st sl u H hx=az P X nl nt vn n (.af L l m sk d v) st sl u H hx:=rfl
def age:az P X nl nt vn (n+1) (.pk L l m sk d (D aC) v w) st sl u H hx=az P X nl nt vn n (.af L l m sk d w) st sl u H hx:=rfl
def agf{rg:Z}:az P X nl nt vn (n+1) (.pk L l m sk d (jQ rg) v w) st sl u H hx=PU (JX rg v w) λv=>az P X nl nt vn n (.af L l m sk d v) st sl u H hx:=rfl
def agh:az P X nl nt vn (n+1) (.af L l m sk Q v) st sl u H hx=az P X nl nt vn n (.op L l m sk) st sl u H hx:=rfl
def agi:az P X nl nt vn (n+1) (.af L l m sk (D t) v) st sl u H hx=az P X nl nt vn n (.pt (hs sl t) t v<|.op L l m sk) st sl u H hx:=rfl
def agj:az P X nl nt vn (n+1) (.pt f t v nx) st sl u H hx=az P X nl nt vn n nx st (up sl t v) u H hx:=rfl
def agk:az P X nl nt vn (n+1) (.pt aC t v nx) st sl u H hx=az P X nl nt vn n nx st sl ((t,v)::u) H hx:=rfl
def l_call{c:Call}:FW P (.call c) ρ H T=DY H T:=nr O
def VY:FW P (.store t x hr) ρ H T=clS (ρ x) (ρ hr) H T:=nr O
def VZ:FW P (.alloc t) ρ H T=Ml H T:=nr O
def agl:FW P (.box t x) ρ H T=Ml H T:=nr O
def ajF{ps:Array (Nat×bT)}:FW P (.buildSlice t i ps) ρ H T=Ml H T:=nr O
def ajG:FW P (.makeSlice t x hr) ρ H T=Ml H T:=nr O
def ajH{r:aB bT}:FW P (.makeMap t r) ρ H T=Ml H T:=nr O
def QV{ok:Bool}:FW P (.lookup t x hr ok) ρ H T=DY H T:=nr O
def l_conv:FW P (.convert t rg x) ρ H T=DY H T:=nr O
def ajI:FW P (.mapUpdate t x hr z) ρ H T=DY H T:=nr O
def V2:az P X nl nt vn (n+1) (.ex L l m sk d<|.alloc t) st sl u H hx=ME (CJ P t<|hX m H) (λv T=>az P X nl nt vn n (.af L l (OT m<|FW P (.alloc t) (eq' sl u) H T) (lJ sk d) d v) st sl u (hY m H T) hx):=rfl
def agm:az P X nl nt vn (n+1) (.ex L l m sk d<|.box t x) st sl u H hx=ME (JZ t (eq' sl u x)<|hX m H) (λv T=>az P X nl nt vn n (.af L l (OT m<|FW P (.box t x) (eq' sl u) H T) (lJ sk d) d v) st sl u (hY m H T) hx):=rfl
def V3{ps:Array (Nat×bT)}:az P X nl nt vn (n+1) (.ex L l m sk d<|.build t ps) st sl u H hx=PU (Bj P t<|aa0 (eq' sl u) ps) (λv=>az P X nl nt vn n (.af L l (EN m) (lJ sk d) d v) st sl u H hx):=rfl
def FX{ps:Array (Nat×bT)}:az P X nl nt vn (n+1) (.ex L l m sk d<|.buildSlice t i ps) st sl u H hx=ME (tO P t i (aa0 (eq' sl u) ps)<|hX m H) (λv T=>az P X nl nt vn n (.af L l (OT m<|FW P (.buildSlice t i ps) (eq' sl u) H T) (lJ sk d) d v) st sl u (hY m H T) hx):=rfl
def abw:az P X nl nt vn (n+1) (.ex L l m sk d<|.load t x) st sl u H hx=ME (wu P t (eq' sl u x)<|hX m H) (λv T=>az P X nl nt vn n (.af L l (OT m<|FW P (.load t x) (eq' sl u) H T) (lJ sk d) d v) st sl u (hY m H T) hx):=rfl
def V4:az P X nl nt vn (n+1) (.ex L l m sk d<|.store t x hr) st sl u H hx=ME (zi P t (eq' sl u x) (eq' sl u hr)<|hX m H) (λv T=>az P X nl nt vn n (.af L l (OT m<|FW P (.store t x hr) (eq' sl u) H T) (lJ sk d) d v) st sl u (hY m H T) hx):=rfl
def KT:az P X nl nt vn (n+1) (.ex L l m sk d<|.nilCheck x) st sl u H hx=PU (Oa<|eq' sl u x) (λv=>az P X nl nt vn n (.af L l (EN m) (lJ sk d) d v) st sl u H hx):=rfl
def V5{bo:rA}{rg:aH}:az P X nl nt vn (n+1) (.ex L l m sk d<|.binOp bo t x hr rg) st sl u H hx=PU (lY P bo t x hr (eq' sl u x)<|eq' sl u hr) (λv=>az P X nl nt vn n (.af L l (EN m) (lJ sk d) d v) st sl u H hx):=rfl
def abx{uo:UnOp}:az P X nl nt vn (n+1) (.ex L l m sk d<|.unOp uo t x) st sl u H hx=PU (j3<|Op.unary uo<|eq' sl u x) (λv=>az P X nl nt vn n (.af L l (EN m) (lJ sk d) d v) st sl u H hx):=rfl
def NC{rg:aH}:az P X nl nt vn (n+1) (.ex L l m sk d<|.convert t rg x) st sl u H hx=CV (CE P t rg<|eq' sl u x) (uL P t rg (eq' sl u x)<|hX m H) (λv=>az P X nl nt vn n (.af L l (EN m) (lJ sk d) d v) st sl u H hx) (λv T=>az P X nl nt vn n (.af L l (OT m<|FW P (.convert t rg x) (eq' sl u) H T) (lJ sk d) d v) st sl u (hY m H T) hx):=rfl
def ND{r:aB bT}:az P X nl nt vn (n+1) (.ex L l m sk d<|.makeMap t r) st sl u H hx=ME (uV P t (eqO (eq' sl u) r)<|hX m H) (λv T=>az P X nl nt vn n (.af L l (OT m<|FW P (.makeMap t r) (eq' sl u) H T) (lJ sk d) d v) st sl u (hY m H T) hx):=rfl
def IC:az P X nl nt vn (n+1) (.ex L l m sk d<|.makeSlice t x hr) st sl u H hx=ME (qD P t (eq' sl u x) (eq' sl u hr)<|hX m H) (λv T=>az P X nl nt vn n (.af L l (OT m<|FW P (.makeSlice t x hr) (eq' sl u) H T) (lJ sk d) d v) st sl u (hY m H T) hx):=rfl
def V6{lo:aB bT}{hi:aB bT}{mx:aB bT}:az P X nl nt vn (n+1) (.ex L l m sk d<|.slice t x lo hi mx) st sl u H hx=PU (Ag P t (eq' sl u x) (eqO (eq' sl u) lo) (eqO (eq' sl u) hi)<|eqO (eq' sl u) mx) (λv=>az P X nl nt vn n (.af L l (EN m) (lJ sk d) d v) st sl u H hx):=rfl
def ID:az P X nl nt vn (n+1) (.ex L l m sk d<|.fieldAddr t x i) st sl u H hx=PU (rR P t (eq' sl u x) i) (λv=>az P X nl nt vn n (.af L l (EN m) (lJ sk d) d v) st sl u H hx):=rfl
def V7:az P X nl nt vn (n+1) (.ex L l m sk d<|.field t x i) st sl u H hx=PU (CG P t (eq' sl u x) i) (λv=>az P X nl nt vn n (.af L l (EN m) (lJ sk d) d v) st sl u H hx):=rfl
def IE:az P X nl nt vn (n+1) (.ex L l m sk d<|.indexAddr t x hr) st sl u H hx=PU (rQ P t (eq' sl u x)<|eq' sl u hr) (λv=>az P X nl nt vn n (.af L l (EN m) (lJ sk d) d v) st sl u H hx):=rfl
def V8:az P X nl nt vn (n+1) (.ex L l m sk d<|.index t x hr) st sl u H hx=PU (CF P t (eq' sl u x)<|eq' sl u hr) (λv=>az P X nl nt vn n (.af L l (EN m) (lJ sk d) d v) st sl u H hx):=rfl
def QW{ok:Bool}:az P X nl nt vn (n+1) (.ex L l m sk d<|.lookup t x hr ok) st sl u H hx=ME (sV P t (eq' sl u x) (eq' sl u hr) ok<|hX m H) (λv T=>az P X nl nt vn n (.af L l (OT m<|FW P (.lookup t x hr ok) (eq' sl u) H T) (lJ sk d) d v) st sl u (hY m H T) hx):=rfl
def IG:az P X nl nt vn (n+1) (.ex L l m sk d<|.mapUpdate t x hr z) st sl u H hx=ME (vF P t (eq' sl u x) (eq' sl u hr) (eq' sl u z)<|hX m H) (λv T=>az P X nl nt vn n (.af L l (OT m<|FW P (.mapUpdate t x hr z) (eq' sl u) H T) (lJ sk d) d v) st sl u (hY m H T) hx):=rfl
def NF:az P X nl nt vn (n+1) (.ex L l m sk d<|.extract x i) st sl u H hx=PU (uU (eq' sl u x) i) (λv=>az P X nl nt vn n (.af L l (EN m) (lJ sk d) d v) st sl u H hx):=rfl
def aby{args:Array bT}{ats:Array aH}:az P X nl nt vn (n+1) (.ex L l m sk d<|.call ⟨.value<|.func i,args,ats⟩) st sl u H hx=aO P X i (mp (eq' sl u) args.toList) (hX m H) (λv T=>az P X nl nt vn n (.af L l (OT m<|FW P (.call ⟨.value<|.func i,args,ats⟩) (eq' sl u) H T) (lJ sk d) d v) st sl u (hY m H T) hx):=by
 show aO P X i (app []<|app (mp (eq' sl u) args.toList) []) (hX m H) _=_;rw[aa7];rfl
def agn{args:Array bT}{ats:Array aH}:az P X nl nt vn (n+1) (.ex L l m sk d<|.call ⟨.value<|.tmp i,args,ats⟩) st sl u H hx=nU P X (Mj<|lk sl u i) (mp (eq' sl u) args.toList) (hX m H) (λv T=>az P X nl nt vn n (.af L l (OT m<|FW P (.call ⟨.value<|.tmp i,args,ats⟩) (eq' sl u) H T) (lJ sk d) d v) st sl u (hY m H T) hx):=rfl
def V9{args:Array bT}{ats:Array aH}:az P X nl nt vn (n+1) (.ex L l m sk d<|.call ⟨.value<|.const w,args,ats⟩) st sl u H hx=nU P X (Mj w) (mp (eq' sl u) args.toList) (hX m H) (λv T=>az P X nl nt vn n (.af L l (OT m<|FW P (.call ⟨.value<|.const w,args,ats⟩) (eq' sl u) H T) (lJ sk d) d v) st sl u (hY m H T) hx):=rfl
def agp{nm:String}{args:Array bT}{ats:Array aH}:az P X nl nt vn (n+1) (.ex L l m sk d<|.call ⟨.invoke x nm,args,ats⟩) st sl u H hx=nU P X (aL (Er<|eq' sl u x) λp=>aL (methodOf P p.1 nm) λq=>D (q.1,[p.2],[])) (mp (eq' sl u) args.toList) (hX m H) (λv T=>az P X nl nt vn n (.af L l (OT m<|FW P (.call ⟨.invoke x nm,args,ats⟩) (eq' sl u) H T) (lJ sk d) d v) st sl u (hY m H T) hx):=rfl
def ajJ{bi:Builtin}{args:Array bT}{ats:Array aH}:az P X nl nt vn (n+1) (.ex L l m sk d<|.call ⟨.builtin bi,args,ats⟩) st sl u H hx=zy bi ats.toList (mp (eq' sl u) args.toList) P (hX m H) (λv=>az P X nl nt vn n (.af L l (EN m) (lJ sk d) d v) st sl u H hx) (λv T=>az P X nl nt vn n (.af L l (OT m<|FW P (.call ⟨.builtin bi,args,ats⟩) (eq' sl u) H T) (lJ sk d) d v) st sl u (hY m H T) hx):=rfl
end eqs
def EE:type_of%(h2 @aje<|h2 @ajf<|h2 @ajg<|h2 @ajh<|h2 @aji<|h2 @ajj<|h2 @GZ<|h2 @G4<|h2 @afJ<|h2 @VT<|h2 @QT<|h2 @aa3<|h2 @aa4<|h2 @aa5<|h2 @ajk<|h2 @ajl<|h2 @aa6<|h2 @VU<|h2 @afK<|h2 @ajm<|h2 @ajn<|h2 @ajo<|h2 @ajp<|h2 @ajq<|h2 @ajr<|h2 @ajs<|h2 @ajt<|h2 @afL<|h2 @afM<|h2 @afO<|h2 @afP<|h2 @afQ<|h2 @afR<|h2 @afS<|h2 @aju<|h2 @ajv<|h2 @ajw<|h2 @ajx<|h2 @ajy<|h2 @ajz<|h2 @ajA<|h2 @ajB<|h2 @afT<|h2 @aa8<|h2 @aa9<|h2 @aba<|h2 @afU<|h2 @abb<|h2 @abd<|h2 @abe<|h2 @afV<|h2 @afW<|h2 @afX<|h2 @afY<|h2 @af1<|h2 @af2<|h2 @af3<|h2 @ahw<|h2 @abl<|h2 @abm<|h2 @TR<|h2 @abn<|h2 @abo<|h2 @abp<|h2 @abq<|h2 @abr<|h2 @abt<|h2 @af4<|h2 @af5<|h2 @ajC<|h2 @af6<|h2 @ajD<|h2 @af7<|h2 @af8<|h2 @af9<|h2 @aga<|h2 @agb<|h2 @agc<|h2 @abu<|h2 @QU<|h2 @ajE<|h2 @abv<|h2 @agd<|h2 @age<|h2 @agf<|h2 @agh<|h2 @agi<|h2 @agj<|h2 @agk<|h2 @l_call<|h2 @VY<|h2 @VZ<|h2 @agl<|h2 @ajF<|h2 @ajG<|h2 @ajH<|h2 @QV<|h2 @l_conv<|h2 @ajI<|h2 @V2<|h2 @agm<|h2 @V3<|h2 @FX<|h2 @abw<|h2 @V4<|h2 @KT<|h2 @V5<|h2 @abx<|h2 @NC<|h2 @ND<|h2 @IC<|h2 @V6<|h2 @ID<|h2 @V7<|h2 @IE<|h2 @V8<|h2 @QW<|h2 @IG<|h2 @NF<|h2 @aby<|h2 @agn<|h2 @V9<|h2 @agp @ajJ):=h2 @aje<|h2 @ajf<|h2 @ajg<|h2 @ajh<|h2 @aji<|h2 @ajj<|h2 @GZ<|h2 @G4<|h2 @afJ<|h2 @VT<|h2 @QT<|h2 @aa3<|h2 @aa4<|h2 @aa5<|h2 @ajk<|h2 @ajl<|h2 @aa6<|h2 @VU<|h2 @afK<|h2 @ajm<|h2 @ajn<|h2 @ajo<|h2 @ajp<|h2 @ajq<|h2 @ajr<|h2 @ajs<|h2 @ajt<|h2 @afL<|h2 @afM<|h2 @afO<|h2 @afP<|h2 @afQ<|h2 @afR<|h2 @afS<|h2 @aju<|h2 @ajv<|h2 @ajw<|h2 @ajx<|h2 @ajy<|h2 @ajz<|h2 @ajA<|h2 @ajB<|h2 @afT<|h2 @aa8<|h2 @aa9<|h2 @aba<|h2 @afU<|h2 @abb<|h2 @abd<|h2 @abe<|h2 @afV<|h2 @afW<|h2 @afX<|h2 @afY<|h2 @af1<|h2 @af2<|h2 @af3<|h2 @ahw<|h2 @abl<|h2 @abm<|h2 @TR<|h2 @abn<|h2 @abo<|h2 @abp<|h2 @abq<|h2 @abr<|h2 @abt<|h2 @af4<|h2 @af5<|h2 @ajC<|h2 @af6<|h2 @ajD<|h2 @af7<|h2 @af8<|h2 @af9<|h2 @aga<|h2 @agb<|h2 @agc<|h2 @abu<|h2 @QU<|h2 @ajE<|h2 @abv<|h2 @agd<|h2 @age<|h2 @agf<|h2 @agh<|h2 @agi<|h2 @agj<|h2 @agk<|h2 @l_call<|h2 @VY<|h2 @VZ<|h2 @agl<|h2 @ajF<|h2 @ajG<|h2 @ajH<|h2 @QV<|h2 @l_conv<|h2 @ajI<|h2 @V2<|h2 @agm<|h2 @V3<|h2 @FX<|h2 @abw<|h2 @V4<|h2 @KT<|h2 @V5<|h2 @abx<|h2 @NC<|h2 @ND<|h2 @IC<|h2 @V6<|h2 @ID<|h2 @V7<|h2 @IE<|h2 @V8<|h2 @QW<|h2 @IG<|h2 @NF<|h2 @aby<|h2 @agn<|h2 @V9<|h2 @agp @ajJ
def ED:type_of%(h2 @ajc<|h2 @ajd<|h2 @afN<|h2 @abf<|h2 @afZ<|h2 @abg<|h2 @VV<|h2 @abh<|h2 @VW<|h2 @abj<|h2 @abk<|h2 @VX @af0):=h2 @ajc<|h2 @ajd<|h2 @afN<|h2 @abf<|h2 @afZ<|h2 @abg<|h2 @VV<|h2 @abh<|h2 @VW<|h2 @abj<|h2 @abk<|h2 @VX @af0
section sound
variable{P:aU}{X:Xt}{sl:Fr}{hx:Out->Prop}{d rg:Nat}
def KO(nl nt:Nat)(sl:Fr):Prop:=(∀t,hs sl t=gZ nl t)/\∀t,gZ nl t=f->t<nt
def KU(h:i≠t):aA i t=aC:=by
 rw[<-b_];exactλg=>h<|aW g
def agq:hs (up sl t v) rg=hs sl rg:=by
 induction sl with
 |n=>rfl
 |c i w l ih=>
  show hs (bV (aA i t) (.c i v l)<|.c i w<|up l t v) rg=bV (aA i rg) f (hs l rg);cases aA i t
  .show bV (aA i rg) f (hs (up l t v) rg)=_;rw[ih]
  .rfl
theorem KO.up(h:KO nl nt sl):KO nl nt (up sl t v):=⟨λrg=>by rw[agq];exact h.1 rg,h.2⟩
def KV:lk sl u t=bV (hs sl t) ((tsF sl).get top t) (look u t):=by
 induction sl with
 |n=>rfl
 |c i v l ih=>
  show bV (aA i t) v (lk l u t)=bV (bV (aA i t) f<|hs l t) (((tsF l).set top i v).get top t) (look u t);rw[Tr.vE]
  by_cases e:i=t
  .subst e;rw[show aA i i=f from dD i,if_pos O];rfl
  .rw[KU e,if_neg λh=>e h.symm,ih];rfl
def BN(h:KO nl nt sl)(t:Nat):iA (S nl nt sl u H) t=lk sl u t:=by
 rw[KV,h.1];rfl
def ajK:lk (up sl d v) u t=bV (hs sl d&&aA d t) v (lk sl u t):=by
 induction sl with
 |n=>rfl
 |c i w l ih=>
  show lk (bV (aA i d) (.c i v l)<|.c i w<|up l d v) u t=bV (bV (aA i d) f (hs l d)&&aA d t) v (bV (aA i t) w<|lk l u t)
  by_cases e:i=d
  .subst e;rw[show aA i i=f from dD i];show bV (aA i t) v (lk l u t)=bV (aA i t) v (bV (aA i t) w<|lk l u t);cases aA i t<;>rfl
  .rw[KU e];show bV (aA i t) w (lk (up l d v) u t)=bV (hs l d&&aA d t) v (bV (aA i t) w<|lk l u t);rw[ih]
   by_cases e2:i=t
   .subst e2;rw[KU (λh=>e h.symm),sS];rfl
   .rw[KU e2];rfl
theorem ajL(hk:KO nl nt sl)(he:oD s<|S nl nt sl u H)(d:Nat)(v:Z)(T:R):oD (qE s d v T) (S nl nt (bV (hs sl d) (up sl d v) sl) (bV (hs sl d) u<|(d,v)::u) T):=by
 refine(he.qE d v T).trans ?_;obtain⟨a1,a2,a3,a4⟩:=JA (S nl nt sl u H) d v T;refine⟨a1,a2,a3,a4,λt=>?_⟩
 have hw:wr (S nl nt sl u H) d=f:=by
  show bV (gZ nl d) (aD (bW d) nt) f=f;cases hb:gZ nl d with
  |true=>exact aI<|hk.2 d hb
  |false=>rfl
 rw[yZ,hw,BN hk];cases hh:hs sl d with
 |true=>
  show _=iA (S nl nt (up sl d v) u T) t;rw[BN hk.up,ajK,hh]
  by_cases e:d=t
  .subst e;rw[if_pos ⟨rfl,rfl⟩,show aA d d=f from dD d];rfl
  .rw[if_neg (λh=>e h.1),KU e];rfl
 |false=>
  show _=iA (S nl nt sl ((d,v)::u) T) t;rw[BN hk,KV,KV,DR]
  by_cases e:d=t
  .subst e;rw[if_pos ⟨rfl,rfl⟩,if_pos O,hh];rfl
  .rw[if_neg (λh=>e h.1),if_neg e]
def alM(hk:KO nl nt sl)(he:oD s<|S nl nt sl u H):wr s d=f:=by
 show bV (gZ s.nl d) (aD (bW d) s.nt) f=f;rw[he.nl,he.nt];show bV (gZ nl d) (aD (bW d) nt) f=f;cases hb:gZ nl d with
 |true=>exact aI<|hk.2 d hb
 |false=>rfl
def KO.of(h:QS nl nt sl=f):KO nl nt sl:=by
 unfold QS at h;rw[bg,bg]at h;obtain⟨⟨W,J⟩,h3⟩:=h;have hn:nl<2^nt:=aF W
 have hb:∀t,nt<=t->gZ nl t=aC:=λt ht=>by
  show aA (Nat.mod (Nat.shiftRight nl t) 2) 1=aC
  have:Nat.shiftRight nl t=0:=by
   show nl>>>t=0;rw[si];exact uI<|aR hn<|qX N ht
  rw[this];rfl
 have hq:∀t,t<nt->hs sl t=gZ nl t:=by
  intro t ht;clear W h3 hn hb
  induction nt with
  |zero=>omega
  |succ n ih=>
   replace J:(bV (hs sl n) (gZ nl n) (!(gZ nl n))&&_)=f:=J;rw[bg]at J
   by_cases e:t=n
   .subst e;have:=J.1;cases h5:hs sl t with
    |true=>rw[h5]at this;exact this.symm
    |false=>rw[h5,jW]at this;rw[tC]at this;exact this.symm
   .exact ih J.2 N
 have hz:∀t,nt<=t->hs sl t=aC:=by
  intro t ht;clear W J hn hb hq
  induction sl with
  |n=>rfl
  |c i w l ih=>
   replace h3:(aD (bW i) nt&&_)=f:=h3;rw[bg]at h3;have:=aF h3.1;show bV (aA i t) f (hs l t)=aC;rw[KU N];exact ih h3.2
 refine⟨λt=>?_,λt ht=>?_⟩
 .by_cases h:t<nt
  .exact hq t h
  .rw[hz t N,hb t N]
 .by_cases h:t<nt
  .exact h
  .rw[hb t N]at ht;cases ht
def abz{Kp:Z->Prop}:Ze o P X s Kp Km=opG o P X (ev s) s.H Kp Km:=by
 cases o with
 |call c=>
  obtain⟨callee,args,ats⟩:=c;cases callee with
  |builtin b=>cases b<;>rfl
  |_=>rfl
 |_=>rfl
def PUm{q:aB Z}{K K':Z->Prop}(hp:∀v,K v->K' v)(h:PU q K):PU q K':=by
 cases q with
 |none=>exact h.elim
 |some v=>exact hp v h
def MEm{q:aB (Z×R)}(hp:∀v H,K v H->K' v H)(h:ME q K):ME q K':=by
 cases q with
 |none=>exact h.elim
 |some v=>exact hp _ _ h
def CVm{q:aB Z}{r:aB (Z×R)}{Kp:Z->Prop}(hp:∀v,Kp v->Kp' v)(hm:∀v H,K v H->K' v H)(h:CV q r Kp K):CV q r Kp' K':=by
 cases q with
 |none=>exact MEm hm h
 |some v=>exact hp _ h
def abA{q:aB (FuncId×C Z×C Z)}{args:C Z}(hm:∀v H,K v H->K' v H)(h:nU P X q args H K):nU P X q args H K':=by
 cases q with
 |none=>exact h.elim
 |some v=>exact aO.mono (K:=K) h hm
theorem QX{Kp:Z->Prop}(hp:∀v,Kp v->Kp' v)(hm:∀v H,Km v H->Km' v H)(h:opG o P X ρ H Kp Km):opG o P X ρ H Kp' Km':=by
 cases o with
 |call c=>
  obtain⟨callee,args,ats⟩:=c;cases callee with
  |builtin b=>cases b<;>first|exact CVm hp hm h|exact PUm hp h|exact MEm hm h|exact False.elim h
  |value ay=>exact abA hm h
  |invoke r n=>exact abA hm h
 |_=>first|exact hp _ h|exact CVm hp hm h|exact PUm hp h|exact MEm hm h|exact False.elim h
def KK(P:aU)(X:Xt)(vn:Code)(st:C Fm)(hx:Out->Prop)(o:Out):Prop:=∃o',Bb o o'/\kO P X vn st hx o'
def gK.kk(h:gK P X c s<|KK P X vn st hx):gK P X c s (kO P X vn st hx):=by
 obtain⟨o,o',W,J,o2,h3,h4⟩:=h;exact⟨o,o2,W,J.trans h3,h4⟩
def WM(P:aU)(X:Xt)(vn:Code)(st:C Fm)(hx:Out->Prop)(L l:C Oper)(m:Md)(s:St)(sk:C Nat):Prop:=
 @Md.rec (λ_=>Prop) (AF P X ⟨L⟩ l s sk λs=>KK P X vn st hx<|.norm s) (λaj acc=>TJ P X ⟨L⟩ l s sk acc λs cls=>jT aj cls=f/\KK P X vn st hx (.norm s)) m
def KG(P:aU)(X:Xt)(vn:Code)(st:C Fm)(hx:Out->Prop)(L l:C Oper)(m:Md)(d:aB Nat)(o:Op)(b:Bool)(s:St)(sk:C Nat):Prop:=
 @Md.rec (λ_=>Prop)
  (@gz (λ_=>Prop) (AF P X ⟨L⟩ l (jk s d undef s.H) (Mi s sk d) λs=>KK P X vn st hx<|.norm s)
    (@aM Call (λ_=>Prop) (Ze o P X s (λv=>AF P X ⟨L⟩ l (jk s d v s.H) (lJ sk d) λs=>KK P X vn st hx<|.norm s) λv H=>AF P X ⟨L⟩ l (jk s d v H) (lJ sk d) λs=>KK P X vn st hx<|.norm s) (λ_=>False)<|qZ o) b)
  (λaj acc=>@gz (λ_=>Prop) (TJ P X ⟨L⟩ l (jk s d undef s.H) (Mi s sk d) (cl 0::acc) λs cls=>jT aj cls=f/\KK P X vn st hx (.norm s))
   (Ze o P X (g_ s) (λv=>TJ P X ⟨L⟩ l (jk s d v s.H) (lJ sk d) (cl 0::acc) λs cls=>jT aj cls=f/\KK P X vn st hx (.norm s)) λv H=>TJ P X ⟨L⟩ l (jk s d v ⟨H.v_,H.next,nY s.H.low H.low⟩) (lJ sk d) (su P o s H::acc) λs cls=>jT aj cls=f/\KK P X vn st hx (.norm s)) b) m
def Sem(P:aU)(X:Xt)(vn:Code)(st:C Fm)(hx:Out->Prop):Ct->St->Prop
 |.co c _,s=>gK P X c s<|kO P X vn st hx
 |.cd v a b _,s=>xD v (gK P X a s<|kO P X vn st hx)<|gK P X b s<|kO P X vn st hx
 |.ou k,s=>∃s',oD s s'/\kO P X vn st hx (k.out s')
 |.op L l m sk,s=>WM P X vn st hx L l m s sk
 |.gu L l m sk d o gb t,s=>@aM Nat (λ_=>Prop) False (λt=>@gz (λ_=>Prop)
  (xD (jQ<|iA s t) (KG P X vn st hx L l m d o (Ba f gb) (qE s t (.bool f) s.H)<|qF sk t)<|KG P X vn st hx L l m d o (Ba aC gb) (qE s t (.bool aC) s.H)<|qF sk t)
  (KG P X vn st hx L l m d o aC s sk) (AB sk t)) t
 |.gv L l m sk d o gb t e v,s=>@gz (λ_=>Prop)
  (xD v (KG P X vn st hx L l m d o (Ba f gb) (qE s t (.bool f) s.H)<|qF sk t)<|KG P X vn st hx L l m d o (Ba aC gb) (qE s t (.bool aC) s.H)<|qF sk t)
  (KG P X vn st hx L l m d o aC s sk) e
 |.ge L l m sk d o b,s=>KG P X vn st hx L l m d o b s sk
 |.ex L l m sk d o,s=>KG P X vn st hx L l m d o f s sk
 |.pk L l m sk d c a b,s=>PU (aL c λt=>D<|bV t a b) λv=>WM P X vn st hx L l m (jk s d v s.H) sk
 |.af L l m sk d v,s=>WM P X vn st hx L l m (jk s d v s.H) sk
 |.pt _ t v nx,s=>Sem P X vn st hx nx<|qE s t v s.H
def FOk(vn:Code)(st:C Fm):Prop:=∀p c,Fm.sq p c∈st->sub vn (zz p [])=c
def COk(vn:Code)(g:Nat->Bool):Ct->Prop
 |.co c p=>sub vn (zz p [])=c
 |.cd _ a b p=>∃x,sub vn (zz p [])=.cond x a b
 |.pt h t _ nx=>h=g t/\COk vn g nx
 |_=>True
def ahx:∀{p q:C Nat},sub vn (zz p q)=sub (sub vn<|zz p []) q:=by
 intro p
 induction p with
 |nil=>intro q;rfl
 |cons i p ih=>
  intro q;show sub vn (zz p<|i::q)=sub (sub vn<|zz p [i]) q;rw[ih (q:=i::q),ih (q:=[i])];rfl
def KX(h:sub vn (zz p [])=c):sub vn (zz (i::p) [])=kid c i:=by
 show sub vn (zz p [i])=_;rw[ahx,h];rfl
def alN(hk:KO nl nt sl)(he:oD s<|S nl nt sl u H):ev s=eq' sl u:=by
 rw[he.ev];funext x;cases x with
 |tmp t=>exact BN hk t
 |_=>rfl
theorem snd:∀n ct st sl u H s,FOk vn st->KO nl nt sl->COk vn (hs sl) ct->oD s (S nl nt sl u H)->az P X nl nt vn n ct st sl u H hx->Sem P X vn st hx ct s:=by
 intro n
 induction n with
 |zero=>intro ct st sl u H s _ _ _ _ h;exact False.elim (by simp only[az]at h)
 |succ n ih=>
  intro ct st sl u H s hf hk hc he h;have hH:s.H=H:=he.H;have hev:=alN hk he;cases ct with
  |co c p=>
   replace hc:sub vn (zz p [])=c:=hc;cases c with
   |skip=>
    obtain⟨s',e,h⟩:=ih (.ou .norm) st sl u H s hf hk trivial he h;exact⟨_,_,Ev.skip,.norm e,h⟩
   |region id ops dr=>
    have hcl:oD (clear s) (S nl nt sl [] H):=by
     refine⟨he.nl,he.nt,he.df,he.H,λt=>?_⟩;rw[EH,he.lk,BN hk,BN hk,KV,KV,he.nl];show bV (gZ nl t) _ top=_;rw[<-hk.1];show bV (hs sl t) (bV (hs sl t) _ _) top=bV (hs sl t) _ top;cases hs sl t<;>rfl
    refine gK.kk<|aei ?_;cases dr with
    |false=>exact ih (.op ops.toList ops.toList .pl []) st sl [] H (clear s) hf hk trivial hcl h
    |true=>
     obtain⟨W,h⟩:(kD ops&&o9 ops)=f/\az P X nl nt vn n (.op ops.toList ops.toList (.dr (opsOf<|sub vn<|zz p []) []) []) st sl [] H hx:=h;have J:=ih (.op ops.toList ops.toList (.dr (opsOf<|sub vn<|zz p []) []) []) st sl [] H (clear s) hf hk trivial hcl h;rw[hc]at J;show @gz (λ_=>Prop) False (TJ P X ops ops.toList (clear s) [] [] λs cls=>jT ops cls=f/\KK P X vn st hx (.norm s))<|kD ops&&o9 ops;rw[W];exact J
   |seq a b=>
    refine gK.seq ?_;have W:=KX (i:=1) hc
    have key:∀ay:Fm,ay=.sj (1::p)\/ay=.sq (1::p) b->kO P X vn (ay::st) hx=t_ P X b (kO P X vn st hx)/\FOk vn (ay::st):=by
     intro ay hff;refine⟨?_,λq c hq=>?_⟩
     .rcases hff with rfl|rfl<;>(show t_ P X (sub vn<|zz (1::p) []) _=_;rw[W];rfl)
     .rcases bP.1 hq with e|hq
      .rcases hff with rfl|rfl
       .cases e
       .cases e;exact W
      .exact hf q c hq
    replace h:az P X nl nt vn n (.co a<|0::p) (bV (FL a b) (.sj<|1::p) (.sq (1::p) b)::st) sl u H hx:=h;obtain⟨k1,k2⟩:=key (bV (FL a b) (.sj<|1::p)<|.sq (1::p) b) (by cases FL a b;exact .inr O;exact .inl O);have:=ih (.co a<|0::p) _ sl u H s k2 hk (KX (i:=0) hc) he h;replace this:gK P X a s (kO P X vn (bV (FL a b) (.sj<|1::p) (.sq (1::p) b)::st) hx):=this;rw[k1]at this;exact this
   |cond x a b=>
    have:=ih (.cd (jQ<|eq' sl u x) a b p) st sl u H s hf hk ⟨x,hc⟩ he h;replace this:xD (jQ<|eq' sl u x) (gK P X a s<|kO P X vn st hx) (gK P X b s<|kO P X vn st hx):=this;rw[<-hev]at this;rcases OI this with⟨hv,h⟩|⟨hv,h⟩
    .obtain⟨o,o',W,J,h3⟩:=h;exact⟨o,o',Ev.cond hv W,J,h3⟩
    .obtain⟨o,o',W,J,h3⟩:=h;exact⟨o,o',Ev.cond hv W,J,h3⟩
   |block id a=>
    exact gK.block<|ih (.co a<|0::p) (.bk id::st) sl u H s (λq c hq=>by
     rcases bP.1 hq with e|hq
     .cases e
     .exact hf q c hq) hk (KX (i:=0) hc) he h
   |loop a=>
    replace h:gK P X (.loop<|sub vn<|zz (0::p) []) (S nl nt sl u H) (kO P X vn st hx):=h;rw[KX hc]at h;exact gK.alike he h
   |scope a=>
    replace h:gK P X (.scope<|sub vn<|zz (0::p) []) (S nl nt sl u H) (kO P X vn st hx):=h;rw[KX hc]at h;exact gK.alike he h
   |exit i=>
    obtain⟨s',e,h⟩:=ih (.ou<|.exit i) st sl u H s hf hk trivial he h;exact⟨_,_,Ev.exit,.exit i e,h⟩
   |goto i=>
    obtain⟨s',e,h⟩:=ih (.ou<|.goto i) st sl u H s hf hk trivial he h;exact⟨.goto i s,_,⟨by simp,0,rfl⟩,.goto i e,h⟩
   |label i=>
    obtain⟨s',e,h⟩:=ih (.ou .norm) st sl u H s hf hk trivial he h;exact⟨_,_,Ev.label,.norm e,h⟩
   |ret=>
    obtain⟨s',e,h⟩:=ih (.ou .ret) st sl u H s hf hk trivial he h;exact⟨_,_,Ev.ret,.ret e,h⟩
   |_=>exact False.elim h
  |cd v a b p=>
   obtain⟨x,hc⟩:=hc;replace h:xD v (az P X nl nt vn n (.co a<|0::p) st sl u H hx) (az P X nl nt vn n (.co b<|1::p) st sl u H hx):=h;show xD v (gK P X a s<|kO P X vn st hx)<|gK P X b s<|kO P X vn st hx;rcases OI h with⟨rfl,h⟩|⟨rfl,h⟩
   .exact ih (.co a<|0::p) st sl u H s hf hk (KX (i:=0) hc) he h
   .exact ih (.co b<|1::p) st sl u H s hf hk (KX (i:=1) hc) he h
  |ou k=>
   show∃s',oD s s'/\kO P X vn st hx (k.out s');cases st with
   |nil=>
    rw[ahw]at h;exact⟨_,he,h⟩
   |cons ay st=>
    have hf':FOk vn st:=λq c hq=>hf q c<|bH _ hq;cases ay with
    |sq p c=>
     cases k with
     |norm=>
      have W:gK P X c s (kO P X vn st hx):=ih (.co c p) st sl u H s hf' hk (hf p c<|aN ..) he h;refine⟨s,oD.refl s,?_⟩;show gK P X (sub vn<|zz p []) s<|kO P X vn st hx;rw[hf p c (aN ..)];exact W
     |exit i=>exact ih (.ou<|.exit i) st sl u H s hf' hk trivial he h
     |goto i=>exact ih (.ou<|.goto i) st sl u H s hf' hk trivial he h
     |ret=>exact ih (.ou .ret) st sl u H s hf' hk trivial he h
    |sj p=>
     cases k with
     |norm=>exact⟨_,he,h⟩
     |exit i=>exact ih (.ou<|.exit i) st sl u H s hf' hk trivial he h
     |goto i=>exact ih (.ou<|.goto i) st sl u H s hf' hk trivial he h
     |ret=>exact ih (.ou .ret) st sl u H s hf' hk trivial he h
    |bk id=>
     rw[TR]at h;obtain⟨s',e,h⟩:=ih (.ou<|blQ id k) st sl u H s hf' hk trivial he h;refine⟨s',e,?_⟩;show kO P X vn st hx<|xq id<|k.out s'
     have:xq id (k.out s')=(blQ id k).out s':=by
      cases k with
      |exit i=>
       show bV (aA i id) _ _=Kd.out (bV (aA i id) _ _) s';cases aA i id<;>rfl
      |_=>rfl
     rw[this];exact h
  |op L l m sk=>
   cases l with
   |nil=>
    cases m with
    |pl=>
     obtain⟨s',e,h⟩:=ih (.ou .norm) st sl u H s hf hk trivial he h;exact⟨_,.norm e,h⟩
    |dr aj acc=>
     obtain⟨W,h⟩:jT aj acc=f/\az P X nl nt vn n (.ou .norm) st sl u H hx:=h;obtain⟨s',e,h⟩:=ih (.ou .norm) st sl u H s hf hk trivial he h;exact⟨W,_,.norm e,h⟩
   |cons o l=>
    obtain⟨d,op,ty,pos,af,g⟩:=o;cases g with
    |none=>
     have:=ih (.ex L l m sk d op) st sl u H s hf hk trivial he h;cases m<;>exact this
    |some g=>
     have:=ih (.gu L l m sk d op g.2<|gtN L g.1) st sl u H s hf hk trivial he h;replace this:@aM Nat (λ_=>Prop) False _ (aL (nth L g.1) λo=>o.dst):=this
     have key:GuW ⟨L⟩ s sk (D g) (KG P X vn st hx L l m d op):=by
      show @aM Oper (λ_=>Prop) False _<|nth L g.1;cases hn:nth L g.1 with
      |none=>rw[hn]at this;exact this
      |some o=>
       rw[hn]at this;replace this:@aM Nat (λ_=>Prop) False _ o.dst:=this;show @aM Nat (λ_=>Prop) False _ o.dst;cases ho:o.dst with
       |none=>rw[ho]at this;exact this
       |some t=>rw[ho]at this;exact this
     cases m<;>exact key
  |gu L l m sk d o gb t=>
   cases t with
   |none=>exact False.elim h
   |some t=>
    have:=ih (.gv L l m sk d o gb t (AB sk t)<|jQ<|lk sl u t) st sl u H s hf hk trivial he h;have hl:iA s t=lk sl u t:=by rw[he.lk,BN hk]
    rw[<-hl]at this;exact this
  |gv L l m sk d o gb t e v=>
   cases e with
   |true=>exact ih (.ge L l m sk d o aC) st sl u H s hf hk trivial he h
   |false=>
    replace h:xD v (az P X nl nt vn n (.pt (hs sl t) t (.bool f)<|.ge L l m (qF sk t) d o<|Ba f gb) st sl u H hx) (az P X nl nt vn n (.pt (hs sl t) t (.bool aC)<|.ge L l m (qF sk t) d o<|Ba aC gb) st sl u H hx):=h;show xD v (KG P X vn st hx L l m d o (Ba f gb) (qE s t (.bool f) s.H)<|qF sk t)<|KG P X vn st hx L l m d o (Ba aC gb) (qE s t (.bool aC) s.H)<|qF sk t;rcases OI h with⟨rfl,h⟩|⟨rfl,h⟩
    .exact ih (.pt (hs sl t) t (.bool f)<|.ge L l m (qF sk t) d o<|Ba f gb) st sl u H s hf hk ⟨O,trivial⟩ he h
    .exact ih (.pt (hs sl t) t (.bool aC)<|.ge L l m (qF sk t) d o<|Ba aC gb) st sl u H s hf hk ⟨O,trivial⟩ he h
  |ge L l m sk d o b=>
   cases b with
   |true=>exact ih (.ex L l m sk d o) st sl u H s hf hk trivial he h
   |false=>
    have:=ih (.af L l (EN m) (Ya sk d) d undef) st sl u H s hf hk trivial he h
    have ha:Mi s sk d=Ya sk d:=by
     cases d with
     |none=>rfl
     |some d=>show bV (wr s d) _ _=_;rw[alM hk he];rfl
    cases m with
    |pl=>show AF P X ⟨L⟩ l (jk s d undef s.H) (Mi s sk d) _;rw[ha];exact this
    |dr aj acc=>show TJ P X ⟨L⟩ l (jk s d undef s.H) (Mi s sk d) (cl 0::acc) _;rw[ha];exact this
  |ex L l m sk d o=>
   show KG P X vn st hx L l m d o f s sk;have val:∀v,az P X nl nt vn n (.af L l (EN m) (lJ sk d) d v) st sl u H hx->WM P X vn st hx L l (EN m) (jk s d v s.H) (lJ sk d):=λv hv=>ih (.af L l (EN m) (lJ sk d) d v) st sl u H s hf hk trivial he hv
   have gen:qZ o=Q->opG o P X (eq' sl u) (hX m H) (λv=>az P X nl nt vn n (.af L l (EN m) (lJ sk d) d v) st sl u H hx) (λv T=>az P X nl nt vn n (.af L l (OT m<|FW P o (eq' sl u) H T) (lJ sk d) d v) st sl u (hY m H T) hx)->KG P X vn st hx L l m d o f s sk:=by
    intro hd h
    have hmem:∀v H2 m2,az P X nl nt vn n (.af L l m2 (lJ sk d) d v) st sl u H2 hx->WM P X vn st hx L l m2 (jk s d v H2) (lJ sk d):=by
     intro v H2 m2 hv;have:=ih (.af L l m2 (lJ sk d) d v) st sl u H2 ⟨s.nl,s.nt,s.reg,s.tm,s.df,H2⟩ hf hk trivial ⟨he.nl,he.nt,he.df,O,he.lk⟩ hv;cases d<;>exact this
    cases m with
    |pl=>
     show @aM Call (λ_=>Prop) _ (λ_=>False)<|qZ o;rw[hd];show Ze o P X s _ _;rw[abz,hev,hH];refine QX (λv hv=>?_) (λv T hv=>hmem v T .pl hv) h;have:=val v hv;rw[hH]at this;exact this
    |dr aj acc=>
     show Ze o P X (g_ s) _ _;rw[abz];have W:ev (g_ s)=ev s:=by funext x;cases x<;>rfl
     rw[W,hev];have J:(g_ s).H=hN H:=by rw[<-hH];rfl
     rw[J];refine QX (λv hv=>val v hv) (λv T hv=>?_) h;have h3:su P o s T=FW P o (eq' sl u) H T:=by rw[<-hev,<-hH];rfl
     rw[h3,hH];exact hmem v _ _ hv
   cases o with
   |pick x hr z=>
    have:=ih (.pk L l (EN m) (lJ sk d) d (jQ<|eq' sl u x) (eq' sl u hr)<|eq' sl u z) st sl u H s hf hk trivial he h;rw[<-hev]at this;cases m with
    |pl=>exact this
    |dr aj acc=>
     show Ze (.pick x hr z) P X (g_ s) (λv=>TJ P X ⟨L⟩ l (jk s d v s.H) (lJ sk d) (cl 0::acc) λs cls=>jT aj cls=f/\KK P X vn st hx (.norm s)) λ_ _=>True;rw[abz,show ev (g_ s)=ev s from by funext x;cases x<;>rfl];exact this
   |_=>first|exact gen O h|exact False.elim h
  |pk L l m sk d c a b=>
   exact PUm (λv hv=>ih (.af L l m sk d v) st sl u H s hf hk trivial he hv) h
  |af L l m sk d v=>
   cases d with
   |none=>exact ih (.op L l m sk) st sl u H s hf hk trivial he h
   |some t=>exact ih (.pt (hs sl t) t v<|.op L l m sk) st sl u H s hf hk ⟨O,trivial⟩ he h
  |pt b t v nx=>
   obtain⟨rfl,hc⟩:=hc;have W:=ajL hk he t v s.H;rw[hH]at W;show Sem P X vn st hx nx<|qE s t v s.H;rw[hH];cases hb:hs sl t with
   |true=>
    rw[hb]at h W;exact ih nx st (up sl t v) u H _ hf hk.up (by rw[show hs (up sl t v)=hs sl from funext λrg=>agq];exact hc) W h
   |false=>
    rw[hb]at h W;exact ih nx st sl ((t,v)::u) H _ hf hk hc W h
def gK.go(hk:QS nl nt sl=f)(hc:sub vn (zz p [])=c)(h:az P X nl nt vn n (.co c p) [] sl u H hx):gK P X c (S nl nt sl u H) hx:=
 snd n (.co c p) [] sl u H _ (λp c h=>nomatch h) (KO.of hk) hc (oD.refl _) h
end sound
def BG(P:aU)(g:Nat):Code:=@aM Func (λ_=>Code) .skip (λay=>OJ ay)<|nth P.funcs.toList g
def QY(P:aU)(g:Nat):Nat:=@aM Func (λ_=>Nat) 0 (λay=>ay.ntmps)<|nth P.funcs.toList g
def rsG(P:aU)(g:Nat):C ResultVar:=@aM Func (λ_=>C ResultVar) [] (λay=>ay.results.toList)<|nth P.funcs.toList g
abbrev SH(P:aU)(g:Nat)(sl:Fr)(u:Rs)(H:R):St:=S (jv P g) (QY P g) sl u H
def KY(l:C Z)(i:Nat):Z:=@aM Z (λ_=>Z) top (λv=>v)<|nth l i
def mkS(l:C Nat)(args:C Z):Fr:=@cz Nat (λ_=>Fr) .n (λi _ r=>.c i (KY args i) r) l
def okF(P:aU)(g:Nat)(l:C Nat)(n:Nat):Bool:=
 @aM Func (λ_=>Bool) aC (λay=>@aM Code (λ_=>Bool) aC (λ_=>f) ay.body&&aD n ay.ntmps) (nth P.funcs.toList g)&&QS (jv P g) (QY P g) (mkS l [])
def Mr(P:aU)(rs:C ResultVar)(sl:Fr)(u:Rs)(H:R):(C Z->Prop)->Prop:=
 @cz ResultVar (λ_=>(C Z->Prop)->Prop) (λk=>k []) (λr _ ih k=>
  @ResultVar.rec (λ_=>Prop) (λt=>ih λvs=>k<|lk sl u t::vs) (λa t=>ME (wu P t (lk sl u a) H) λv _=>ih λvs=>k<|v::vs) r) rs
section gen
variable{P:aU}{X:Xt}{g:Nat}{q l:C Nat}{sl:Fr}{K:Out->Prop}{rs:C ResultVar}{args:C Z}{k:C Z->Prop}
def ajM:KY [] i=top:=nr (by cases i<;>rfl)
def ajN:KY (v::vs) 0=v:=nr O
def ajO:KY (v::vs) (i+1)=KY vs i:=nr O
def ajP:mkS [] args=.n:=nr O
def ajQ:mkS (i::l) args=.c i (KY args i) (mkS l args):=nr O
def ajR:Mr P [] sl u H k=k []:=nr O
def ajS:Mr P (.tmp t::rs) sl u H k=Mr P rs sl u H (λvs=>k<|lk sl u t::vs):=nr O
def ajT:Mr P (.cell i t::rs) sl u H k=ME (wu P t (lk sl u i) H) λv _=>Mr P rs sl u H (λvs=>k<|v::vs):=nr O
def ajU:sN [v]=v:=nr O
def ajV:sN (v::w::vs)=.tuple ⟨v::w::vs⟩:=nr O
def ajW:sN []=.tuple ⟨[]⟩:=nr O
def EV:type_of%(h2 @ajM<|h2 @ajN<|h2 @ajO<|h2 @ajP<|h2 @ajQ<|h2 @ajR<|h2 @ajS<|h2 @ajT<|h2 @ajU<|h2 @ajV @ajW):=h2 @ajM<|h2 @ajN<|h2 @ajO<|h2 @ajP<|h2 @ajQ<|h2 @ajR<|h2 @ajS<|h2 @ajT<|h2 @ajU<|h2 @ajV @ajW
def ajX:zz (zz q []) []=q:=by
 have:∀(q r:C Nat),zz (zz q r) []=zz r q:=by
  intro q
  induction q with
  |nil=>intro r;rfl
  |cons i q ih=>intro r;show zz (zz q<|i::r) []=_;rw[ih];rfl
 exact this q []
def goF(h:az P X (jv P g) (QY P g) (BG P g) n (.co c<|zz q []) [] sl u H K)(hc:sub (BG P g) q=c)(hk:QS (jv P g) (QY P g) sl=f):gK P X (sub (BG P g) q) (SH P g sl u H) K:=by
 have W:sub (BG P g) (zz (zz q []) [])=c:=by rw[ajX];exact hc
 rw[hc];exact gK.go hk W h
def ajY(h:hs (mkS l args) t=f):lk (mkS l args) u t=KY args t:=by
 induction l with
 |nil=>cases h
 |cons i l ih=>
  replace h:bV (aA i t) f (hs (mkS l args) t)=f:=h;show bV (aA i t) (KY args i) (lk (mkS l args) u t)=_
  by_cases e:i=t
  .subst e;rw[show aA i i=f from dD i];rfl
  .rw[KU e]at h|-;exact ih h
def ajZ{b:C Z}:hs (mkS l a) t=hs (mkS l b) t:=by
 induction l with
 |nil=>rfl
 |cons i l ih=>
  show bV (aA i t) f (hs (mkS l a) t)=bV (aA i t) f (hs (mkS l b) t);rw[ih]
def abB:KY args t=(Tr.tu top args 0 .nil).get top t:=by
 rw[Tr.l_]
 have:∀(a:C Z)(k:Nat),KY a k=a.getD k top:=by
  intro a
  induction a with
  |nil=>intro k;cases k<;>rfl
  |cons x a ih=>intro k;cases k with
   |zero=>rfl
   |succ k=>exact ih k
 rw[this];split
 .rfl
 .rename_i h;rw[bD,fE N];rw[Tr.get_nil];rfl
def ceF{K:Z->R->Prop}(h:gK P X (sub (BG P g) []) (SH P g sl [] H)<|jL P rs K)(hs':mkS l args=sl)(y:rsG P g=rs)(hor:X.o g args H=Q)(hq:okF P g l (len args)=f):aO P X g args H K:=by
 unfold okF at hq;rw[bg]at hq;have⟨W,J⟩:=hq;unfold BG SH QY at h;unfold rsG at y;unfold QY at J;cases hg:nth P.funcs.toList g with
 |none=>rw[hg]at W;cases W
 |some fn=>
  rw[hg]at h W J y;replace W:(@aM Code (λ_=>Bool) aC (λ_=>f) fn.body&&aD (len args) fn.ntmps)=f:=W;rw[bg]at W;replace h:gK P X (OJ fn) (S (jv P g) fn.ntmps sl [] H) (jL P rs K):=h;replace J:QS (jv P g) fn.ntmps (mkS l [])=f:=J;cases hb:fn.body with
  |none=>rw[hb]at W;cases W.1
  |some c=>
   have hbo:OJ fn=c:=by unfold OJ;rw[hb]
   rw[hbo]at h;replace y:fn.results.toList=rs:=y;subst y;refine aO.body hor hg hb W.2 O<|gK.alike ?_ h;have hk:=KO.of J;have hk':KO (jv P g) fn.ntmps sl:=⟨λt=>by rw[<-hs',<-hk.1 t];exact ajZ,hk.2⟩;refine⟨O,O,O,O,λt=>?_⟩;rw[BN hk'];show bV (gZ (jv P g) t) ((DT args fn.ntmps).get top t) top=_;rw[<-Qs,<-abB,KV,hk'.1];cases hbit:gZ (jv P g) t with
   |false=>rfl
   |true=>
    have h3:hs sl t=f:=by rw[hk'.1];exact hbit
    have h4:lk sl [] t=KY args t:=by subst hs';exact ajY h3
    rw[KV,h3]at h4;exact h4.symm
def abC(hk:QS (jv P g) (QY P g) sl=f):∀{rs:C ResultVar}{k:C Z->Prop},Mr P rs sl u H k->TK P (SH P g sl u H) rs k:=by
 have hk:=KO.of hk;have hl:∀t,iA (SH P g sl u H) t=lk sl u t:=BN hk;intro rs
 induction rs with
 |nil=>intro k h;exact h
 |cons r rs ih=>
  intro k h;cases r with
  |tmp t=>
   show TK P _ rs λvs=>k<|iA _ t::vs;rw[hl];exact ih h
  |cell a t=>
   show ME (wu P t (iA _ a) H) λv _=>TK P _ rs λvs=>k<|v::vs;rw[hl];exact MEm (λv T hv=>ih hv) h
def rrF{K:Z->R->Prop}(h:Mr P rs sl u H λvs=>K (sN vs) H)(hk:QS (jv P g) (QY P g) sl=f):jL P rs K (.ret<|SH P g sl u H):=aaC O<|abC hk h
def rnF{K:Z->R->Prop}(h:Mr P rs sl u H λvs=>K (sN vs) H)(hk:QS (jv P g) (QY P g) sl=f):jL P rs K (.norm<|SH P g sl u H):=XZ O<|abC hk h
def Yb{sl':Z->Fr}(a0:Nat){ai:Nat->Z->R->Prop}(h:∀n(x0:Z)(u:Rs)(H:R),ai n x0 H->gK P X (sub (BG P g) p) (SH P g (sl' x0) u H) (Gm (λm s=>∃(x0:Z)(u:Rs)(H:R),s=SH P g (sl' x0) u H/\ai m x0 H) n K))(n:Nat)(h0:ai n (lk sl [] a0) H)(hu:∀x0,up sl a0 x0=sl' x0:=by intros;conv=>lhs;simp only[GZ,G4,↓reduceIte,cB,Nat.reduceBEq])(he:sl' (lk sl [] a0)=sl:=by rfl):gK P X (.loop<|sub (BG P g) p) (SH P g sl u H) K:=
 gK.CX (az:=λm s=>∃(x0:Z)(u:Rs)(H:R),s=SH P g (sl' x0) u H/\ai m x0 H) (λn s hs=>by obtain⟨x0,u,H,rfl,hI⟩:=hs;exact h n x0 u H hI) n _ ⟨_,u,H,by rw[he],h0⟩
def lp2{sl':Z->Z->Fr}(a0 a1:Nat){ai:Nat->Z->Z->R->Prop}(h:∀n(x0 x1:Z)(u:Rs)(H:R),ai n x0 x1 H->gK P X (sub (BG P g) p) (SH P g (sl' x0 x1) u H) (Gm (λm s=>∃(x0 x1:Z)(u:Rs)(H:R),s=SH P g (sl' x0 x1) u H/\ai m x0 x1 H) n K))(n:Nat)(h0:ai n (lk sl [] a0) (lk sl [] a1) H)(hu:∀x0 x1,up (up sl a0 x0) a1 x1=sl' x0 x1:=by intros;conv=>lhs;simp only[GZ,G4,↓reduceIte,cB,Nat.reduceBEq])(he:sl' (lk sl [] a0) (lk sl [] a1)=sl:=by rfl):gK P X (.loop<|sub (BG P g) p) (SH P g sl u H) K:=
 gK.CX (az:=λm s=>∃(x0 x1:Z)(u:Rs)(H:R),s=SH P g (sl' x0 x1) u H/\ai m x0 x1 H) (λn s hs=>by obtain⟨x0,x1,u,H,rfl,hI⟩:=hs;exact h n x0 x1 u H hI) n _ ⟨_,_,u,H,by rw[he],h0⟩
def FY{sl':Z->Z->Z->Fr}(a0 a1 a2:Nat){ai:Nat->Z->Z->Z->R->Prop}(h:∀n(x0 x1 x2:Z)(u:Rs)(H:R),ai n x0 x1 x2 H->gK P X (sub (BG P g) p) (SH P g (sl' x0 x1 x2) u H) (Gm (λm s=>∃(x0 x1 x2:Z)(u:Rs)(H:R),s=SH P g (sl' x0 x1 x2) u H/\ai m x0 x1 x2 H) n K))(n:Nat)(h0:ai n (lk sl [] a0) (lk sl [] a1) (lk sl [] a2) H)(hu:∀x0 x1 x2,up (up (up sl a0 x0) a1 x1) a2 x2=sl' x0 x1 x2:=by intros;conv=>lhs;simp only[GZ,G4,↓reduceIte,cB,Nat.reduceBEq])(he:sl' (lk sl [] a0) (lk sl [] a1) (lk sl [] a2)=sl:=by rfl):gK P X (.loop<|sub (BG P g) p) (SH P g sl u H) K:=
 gK.CX (az:=λm s=>∃(x0 x1 x2:Z)(u:Rs)(H:R),s=SH P g (sl' x0 x1 x2) u H/\ai m x0 x1 x2 H) (λn s hs=>by obtain⟨x0,x1,x2,u,H,rfl,hI⟩:=hs;exact h n x0 x1 x2 u H hI) n _ ⟨_,_,_,u,H,by rw[he],h0⟩
def NG{sl':Z->Z->Z->Z->Fr}(a0 a1 a2 a3:Nat){ai:Nat->Z->Z->Z->Z->R->Prop}(h:∀n(x0 x1 x2 x3:Z)(u:Rs)(H:R),ai n x0 x1 x2 x3 H->gK P X (sub (BG P g) p) (SH P g (sl' x0 x1 x2 x3) u H) (Gm (λm s=>∃(x0 x1 x2 x3:Z)(u:Rs)(H:R),s=SH P g (sl' x0 x1 x2 x3) u H/\ai m x0 x1 x2 x3 H) n K))(n:Nat)(h0:ai n (lk sl [] a0) (lk sl [] a1) (lk sl [] a2) (lk sl [] a3) H)(hu:∀x0 x1 x2 x3,up (up (up (up sl a0 x0) a1 x1) a2 x2) a3 x3=sl' x0 x1 x2 x3:=by intros;conv=>lhs;simp only[GZ,G4,↓reduceIte,cB,Nat.reduceBEq])(he:sl' (lk sl [] a0) (lk sl [] a1) (lk sl [] a2) (lk sl [] a3)=sl:=by rfl):gK P X (.loop<|sub (BG P g) p) (SH P g sl u H) K:=
 gK.CX (az:=λm s=>∃(x0 x1 x2 x3:Z)(u:Rs)(H:R),s=SH P g (sl' x0 x1 x2 x3) u H/\ai m x0 x1 x2 x3 H) (λn s hs=>by obtain⟨x0,x1,x2,x3,u,H,rfl,hI⟩:=hs;exact h n x0 x1 x2 x3 u H hI) n _ ⟨_,_,_,_,u,H,by rw[he],h0⟩
def V'{sl':Z->Z->Z->Z->Z->Fr}(a0 a1 a2 a3 a4:Nat){ai:Nat->Z->Z->Z->Z->Z->R->Prop}(h:∀n(x0 x1 x2 x3 x4:Z)(u:Rs)(H:R),ai n x0 x1 x2 x3 x4 H->gK P X (sub (BG P g) p) (SH P g (sl' x0 x1 x2 x3 x4) u H) (Gm (λm s=>∃(x0 x1 x2 x3 x4:Z)(u:Rs)(H:R),s=SH P g (sl' x0 x1 x2 x3 x4) u H/\ai m x0 x1 x2 x3 x4 H) n K))(n:Nat)(h0:ai n (lk sl [] a0) (lk sl [] a1) (lk sl [] a2) (lk sl [] a3) (lk sl [] a4) H)(hu:∀x0 x1 x2 x3 x4,up (up (up (up (up sl a0 x0) a1 x1) a2 x2) a3 x3) a4 x4=sl' x0 x1 x2 x3 x4:=by intros;conv=>lhs;simp only[GZ,G4,↓reduceIte,cB,Nat.reduceBEq])(he:sl' (lk sl [] a0) (lk sl [] a1) (lk sl [] a2) (lk sl [] a3) (lk sl [] a4)=sl:=by rfl):gK P X (.loop<|sub (BG P g) p) (SH P g sl u H) K:=
 gK.CX (az:=λm s=>∃(x0 x1 x2 x3 x4:Z)(u:Rs)(H:R),s=SH P g (sl' x0 x1 x2 x3 x4) u H/\ai m x0 x1 x2 x3 x4 H) (λn s hs=>by obtain⟨x0,x1,x2,x3,x4,u,H,rfl,hI⟩:=hs;exact h n x0 x1 x2 x3 x4 u H hI) n _ ⟨_,_,_,_,_,u,H,by rw[he],h0⟩
def lp6{sl':Z->Z->Z->Z->Z->Z->Fr}(a0 a1 a2 a3 a4 a5:Nat){ai:Nat->Z->Z->Z->Z->Z->Z->R->Prop}(h:∀n(x0 x1 x2 x3 x4 x5:Z)(u:Rs)(H:R),ai n x0 x1 x2 x3 x4 x5 H->gK P X (sub (BG P g) p) (SH P g (sl' x0 x1 x2 x3 x4 x5) u H) (Gm (λm s=>∃(x0 x1 x2 x3 x4 x5:Z)(u:Rs)(H:R),s=SH P g (sl' x0 x1 x2 x3 x4 x5) u H/\ai m x0 x1 x2 x3 x4 x5 H) n K))(n:Nat)(h0:ai n (lk sl [] a0) (lk sl [] a1) (lk sl [] a2) (lk sl [] a3) (lk sl [] a4) (lk sl [] a5) H)(hu:∀x0 x1 x2 x3 x4 x5,up (up (up (up (up (up sl a0 x0) a1 x1) a2 x2) a3 x3) a4 x4) a5 x5=sl' x0 x1 x2 x3 x4 x5:=by intros;conv=>lhs;simp only[GZ,G4,↓reduceIte,cB,Nat.reduceBEq])(he:sl' (lk sl [] a0) (lk sl [] a1) (lk sl [] a2) (lk sl [] a3) (lk sl [] a4) (lk sl [] a5)=sl:=by rfl):gK P X (.loop<|sub (BG P g) p) (SH P g sl u H) K:=
 gK.CX (az:=λm s=>∃(x0 x1 x2 x3 x4 x5:Z)(u:Rs)(H:R),s=SH P g (sl' x0 x1 x2 x3 x4 x5) u H/\ai m x0 x1 x2 x3 x4 x5 H) (λn s hs=>by obtain⟨x0,x1,x2,x3,x4,x5,u,H,rfl,hI⟩:=hs;exact h n x0 x1 x2 x3 x4 x5 u H hI) n _ ⟨_,_,_,_,_,_,u,H,by rw[he],h0⟩
def lp7{sl':Z->Z->Z->Z->Z->Z->Z->Fr}(a0 a1 a2 a3 a4 a5 a6:Nat){ai:Nat->Z->Z->Z->Z->Z->Z->Z->R->Prop}(h:∀n(x0 x1 x2 x3 x4 x5 x6:Z)(u:Rs)(H:R),ai n x0 x1 x2 x3 x4 x5 x6 H->gK P X (sub (BG P g) p) (SH P g (sl' x0 x1 x2 x3 x4 x5 x6) u H) (Gm (λm s=>∃(x0 x1 x2 x3 x4 x5 x6:Z)(u:Rs)(H:R),s=SH P g (sl' x0 x1 x2 x3 x4 x5 x6) u H/\ai m x0 x1 x2 x3 x4 x5 x6 H) n K))(n:Nat)(h0:ai n (lk sl [] a0) (lk sl [] a1) (lk sl [] a2) (lk sl [] a3) (lk sl [] a4) (lk sl [] a5) (lk sl [] a6) H)(hu:∀x0 x1 x2 x3 x4 x5 x6,up (up (up (up (up (up (up sl a0 x0) a1 x1) a2 x2) a3 x3) a4 x4) a5 x5) a6 x6=sl' x0 x1 x2 x3 x4 x5 x6:=by intros;conv=>lhs;simp only[GZ,G4,↓reduceIte,cB,Nat.reduceBEq])(he:sl' (lk sl [] a0) (lk sl [] a1) (lk sl [] a2) (lk sl [] a3) (lk sl [] a4) (lk sl [] a5) (lk sl [] a6)=sl:=by rfl):gK P X (.loop<|sub (BG P g) p) (SH P g sl u H) K:=
 gK.CX (az:=λm s=>∃(x0 x1 x2 x3 x4 x5 x6:Z)(u:Rs)(H:R),s=SH P g (sl' x0 x1 x2 x3 x4 x5 x6) u H/\ai m x0 x1 x2 x3 x4 x5 x6 H) (λn s hs=>by obtain⟨x0,x1,x2,x3,x4,x5,x6,u,H,rfl,hI⟩:=hs;exact h n x0 x1 x2 x3 x4 x5 x6 u H hI) n _ ⟨_,_,_,_,_,_,_,u,H,by rw[he],h0⟩
def lp8{sl':Z->Z->Z->Z->Z->Z->Z->Z->Fr}(a0 a1 a2 a3 a4 a5 a6 a7:Nat){ai:Nat->Z->Z->Z->Z->Z->Z->Z->Z->R->Prop}(h:∀n(x0 x1 x2 x3 x4 x5 x6 x7:Z)(u:Rs)(H:R),ai n x0 x1 x2 x3 x4 x5 x6 x7 H->gK P X (sub (BG P g) p) (SH P g (sl' x0 x1 x2 x3 x4 x5 x6 x7) u H) (Gm (λm s=>∃(x0 x1 x2 x3 x4 x5 x6 x7:Z)(u:Rs)(H:R),s=SH P g (sl' x0 x1 x2 x3 x4 x5 x6 x7) u H/\ai m x0 x1 x2 x3 x4 x5 x6 x7 H) n K))(n:Nat)(h0:ai n (lk sl [] a0) (lk sl [] a1) (lk sl [] a2) (lk sl [] a3) (lk sl [] a4) (lk sl [] a5) (lk sl [] a6) (lk sl [] a7) H)(hu:∀x0 x1 x2 x3 x4 x5 x6 x7,up (up (up (up (up (up (up (up sl a0 x0) a1 x1) a2 x2) a3 x3) a4 x4) a5 x5) a6 x6) a7 x7=sl' x0 x1 x2 x3 x4 x5 x6 x7:=by intros;conv=>lhs;simp only[GZ,G4,↓reduceIte,cB,Nat.reduceBEq])(he:sl' (lk sl [] a0) (lk sl [] a1) (lk sl [] a2) (lk sl [] a3) (lk sl [] a4) (lk sl [] a5) (lk sl [] a6) (lk sl [] a7)=sl:=by rfl):gK P X (.loop<|sub (BG P g) p) (SH P g sl u H) K:=
 gK.CX (az:=λm s=>∃(x0 x1 x2 x3 x4 x5 x6 x7:Z)(u:Rs)(H:R),s=SH P g (sl' x0 x1 x2 x3 x4 x5 x6 x7) u H/\ai m x0 x1 x2 x3 x4 x5 x6 x7 H) (λn s hs=>by obtain⟨x0,x1,x2,x3,x4,x5,x6,x7,u,H,rfl,hI⟩:=hs;exact h n x0 x1 x2 x3 x4 x5 x6 x7 u H hI) n _ ⟨_,_,_,_,_,_,_,_,u,H,by rw[he],h0⟩
def lp9{sl':Z->Z->Z->Z->Z->Z->Z->Z->Z->Fr}(a0 a1 a2 a3 a4 a5 a6 a7 a8:Nat){ai:Nat->Z->Z->Z->Z->Z->Z->Z->Z->Z->R->Prop}(h:∀n(x0 x1 x2 x3 x4 x5 x6 x7 x8:Z)(u:Rs)(H:R),ai n x0 x1 x2 x3 x4 x5 x6 x7 x8 H->gK P X (sub (BG P g) p) (SH P g (sl' x0 x1 x2 x3 x4 x5 x6 x7 x8) u H) (Gm (λm s=>∃(x0 x1 x2 x3 x4 x5 x6 x7 x8:Z)(u:Rs)(H:R),s=SH P g (sl' x0 x1 x2 x3 x4 x5 x6 x7 x8) u H/\ai m x0 x1 x2 x3 x4 x5 x6 x7 x8 H) n K))(n:Nat)(h0:ai n (lk sl [] a0) (lk sl [] a1) (lk sl [] a2) (lk sl [] a3) (lk sl [] a4) (lk sl [] a5) (lk sl [] a6) (lk sl [] a7) (lk sl [] a8) H)(hu:∀x0 x1 x2 x3 x4 x5 x6 x7 x8,up (up (up (up (up (up (up (up (up sl a0 x0) a1 x1) a2 x2) a3 x3) a4 x4) a5 x5) a6 x6) a7 x7) a8 x8=sl' x0 x1 x2 x3 x4 x5 x6 x7 x8:=by intros;conv=>lhs;simp only[GZ,G4,↓reduceIte,cB,Nat.reduceBEq])(he:sl' (lk sl [] a0) (lk sl [] a1) (lk sl [] a2) (lk sl [] a3) (lk sl [] a4) (lk sl [] a5) (lk sl [] a6) (lk sl [] a7) (lk sl [] a8)=sl:=by rfl):gK P X (.loop<|sub (BG P g) p) (SH P g sl u H) K:=
 gK.CX (az:=λm s=>∃(x0 x1 x2 x3 x4 x5 x6 x7 x8:Z)(u:Rs)(H:R),s=SH P g (sl' x0 x1 x2 x3 x4 x5 x6 x7 x8) u H/\ai m x0 x1 x2 x3 x4 x5 x6 x7 x8 H) (λn s hs=>by obtain⟨x0,x1,x2,x3,x4,x5,x6,x7,x8,u,H,rfl,hI⟩:=hs;exact h n x0 x1 x2 x3 x4 x5 x6 x7 x8 u H hI) n _ ⟨_,_,_,_,_,_,_,_,_,u,H,by rw[he],h0⟩
def ahy{sl':Z->Z->Z->Z->Z->Z->Z->Z->Z->Z->Fr}(a0 a1 a2 a3 a4 a5 a6 a7 a8 a9:Nat){ai:Nat->Z->Z->Z->Z->Z->Z->Z->Z->Z->Z->R->Prop}(h:∀n(x0 x1 x2 x3 x4 x5 x6 x7 x8 x9:Z)(u:Rs)(H:R),ai n x0 x1 x2 x3 x4 x5 x6 x7 x8 x9 H->gK P X (sub (BG P g) p) (SH P g (sl' x0 x1 x2 x3 x4 x5 x6 x7 x8 x9) u H) (Gm (λm s=>∃(x0 x1 x2 x3 x4 x5 x6 x7 x8 x9:Z)(u:Rs)(H:R),s=SH P g (sl' x0 x1 x2 x3 x4 x5 x6 x7 x8 x9) u H/\ai m x0 x1 x2 x3 x4 x5 x6 x7 x8 x9 H) n K))(n:Nat)(h0:ai n (lk sl [] a0) (lk sl [] a1) (lk sl [] a2) (lk sl [] a3) (lk sl [] a4) (lk sl [] a5) (lk sl [] a6) (lk sl [] a7) (lk sl [] a8) (lk sl [] a9) H)(hu:∀x0 x1 x2 x3 x4 x5 x6 x7 x8 x9,up (up (up (up (up (up (up (up (up (up sl a0 x0) a1 x1) a2 x2) a3 x3) a4 x4) a5 x5) a6 x6) a7 x7) a8 x8) a9 x9=sl' x0 x1 x2 x3 x4 x5 x6 x7 x8 x9:=by intros;conv=>lhs;simp only[GZ,G4,↓reduceIte,cB,Nat.reduceBEq])(he:sl' (lk sl [] a0) (lk sl [] a1) (lk sl [] a2) (lk sl [] a3) (lk sl [] a4) (lk sl [] a5) (lk sl [] a6) (lk sl [] a7) (lk sl [] a8) (lk sl [] a9)=sl:=by rfl):gK P X (.loop<|sub (BG P g) p) (SH P g sl u H) K:=
 gK.CX (az:=λm s=>∃(x0 x1 x2 x3 x4 x5 x6 x7 x8 x9:Z)(u:Rs)(H:R),s=SH P g (sl' x0 x1 x2 x3 x4 x5 x6 x7 x8 x9) u H/\ai m x0 x1 x2 x3 x4 x5 x6 x7 x8 x9 H) (λn s hs=>by obtain⟨x0,x1,x2,x3,x4,x5,x6,x7,x8,x9,u,H,rfl,hI⟩:=hs;exact h n x0 x1 x2 x3 x4 x5 x6 x7 x8 x9 u H hI) n _ ⟨_,_,_,_,_,_,_,_,_,_,u,H,by rw[he],h0⟩
def aj0{sl':Z->Z->Z->Z->Z->Z->Z->Z->Z->Z->Z->Z->Z->Z->Fr}(a0 a1 a2 a3 a4 a5 a6 a7 a8 a9 a10 a11 a12 a13:Nat){ai:Nat->Z->Z->Z->Z->Z->Z->Z->Z->Z->Z->Z->Z->Z->Z->R->Prop}(h:∀n(x0 x1 x2 x3 x4 x5 x6 x7 x8 x9 jo iJ kW jI:Z)(u:Rs)(H:R),ai n x0 x1 x2 x3 x4 x5 x6 x7 x8 x9 jo iJ kW jI H->gK P X (sub (BG P g) p) (SH P g (sl' x0 x1 x2 x3 x4 x5 x6 x7 x8 x9 jo iJ kW jI) u H) (Gm (λm s=>∃(x0 x1 x2 x3 x4 x5 x6 x7 x8 x9 jo iJ kW jI:Z)(u:Rs)(H:R),s=SH P g (sl' x0 x1 x2 x3 x4 x5 x6 x7 x8 x9 jo iJ kW jI) u H/\ai m x0 x1 x2 x3 x4 x5 x6 x7 x8 x9 jo iJ kW jI H) n K))(n:Nat)(h0:ai n (lk sl [] a0) (lk sl [] a1) (lk sl [] a2) (lk sl [] a3) (lk sl [] a4) (lk sl [] a5) (lk sl [] a6) (lk sl [] a7) (lk sl [] a8) (lk sl [] a9) (lk sl [] a10) (lk sl [] a11) (lk sl [] a12) (lk sl [] a13) H)(hu:∀x0 x1 x2 x3 x4 x5 x6 x7 x8 x9 jo iJ kW jI,up (up (up (up (up (up (up (up (up (up (up (up (up (up sl a0 x0) a1 x1) a2 x2) a3 x3) a4 x4) a5 x5) a6 x6) a7 x7) a8 x8) a9 x9) a10 jo) a11 iJ) a12 kW) a13 jI=sl' x0 x1 x2 x3 x4 x5 x6 x7 x8 x9 jo iJ kW jI:=by intros;conv=>lhs;simp only[GZ,G4,↓reduceIte,cB,Nat.reduceBEq])(he:sl' (lk sl [] a0) (lk sl [] a1) (lk sl [] a2) (lk sl [] a3) (lk sl [] a4) (lk sl [] a5) (lk sl [] a6) (lk sl [] a7) (lk sl [] a8) (lk sl [] a9) (lk sl [] a10) (lk sl [] a11) (lk sl [] a12) (lk sl [] a13)=sl:=by rfl):gK P X (.loop<|sub (BG P g) p) (SH P g sl u H) K:=
 gK.CX (az:=λm s=>∃(x0 x1 x2 x3 x4 x5 x6 x7 x8 x9 jo iJ kW jI:Z)(u:Rs)(H:R),s=SH P g (sl' x0 x1 x2 x3 x4 x5 x6 x7 x8 x9 jo iJ kW jI) u H/\ai m x0 x1 x2 x3 x4 x5 x6 x7 x8 x9 jo iJ kW jI H) (λn s hs=>by obtain⟨x0,x1,x2,x3,x4,x5,x6,x7,x8,x9,jo,iJ,kW,jI,u,H,rfl,hI⟩:=hs;exact h n x0 x1 x2 x3 x4 x5 x6 x7 x8 x9 jo iJ kW jI u H hI) n _ ⟨_,_,_,_,_,_,_,_,_,_,_,_,_,_,u,H,by rw[he],h0⟩
end gen
end Go.Ae.cs
namespace Go.Ae
variable{H T H0:R}{args rest vs:C Z}{m:Mp}{g:FuncId}{w:bY}{c es n r:Nat}{ty:aH}{L:C dL}{v:Z}
def hpT(n:Nat)(t1 t2:aH):R:=⟨Tr.set .dead (Tr.set .dead .nil 1<|vO t1 .u8 DZ) 2<|vO t2 .u8 Jb,n,n⟩
def aes(n:Nat)(t1 t2:aH)(r:Nat):(hpT n t1 t2).obj r=if r=2 then vO t2 .u8 Jb else if r=1 then vO t1 .u8 DZ else .dead:=by
 show(Tr.set .dead (Tr.set .dead .nil 1<|vO t1 .u8 DZ) 2<|vO t2 .u8 Jb).get .dead r=_;rw[Tr.vE,Tr.vE,Tr.get_nil]
def QZ(rh:RH m H w)(gl:Gl n m)(y:r<n){k:fB}{l:C Nat}(h:H.obj r=vO ty k l):TabAt w (vO ty k l) r:=by
 have⟨lc,W,J,h3,h4⟩:=gl r y;have⟨o,h5,h6⟩:=rh.ok r lc W;rw[J]at h5;rw[h]at h6;cases o with
 |cells M ty' fr=>
  have⟨⟨e1,_⟩,e2,e3,e4,e5,e6,e7⟩:=h6;have e1:ty'=ty:=e1;subst e1;refine .inr ⟨ty',k,l,M,fr,O,h5,λi z hz=>?_⟩;have hi:i<l.length:=(bE.1 hz).1;have hi':i<(len l):=by rw[fU];exact hi
  have⟨v,g1,g2⟩:=e7 i N hi';rw[h4,h3,aY,jG]at g1;have:VR m ((Tr.tu top (mp (λn=>bX k<|Int.ofNat n) l) 0 .nil).get top i) v:=g2;rw[Tr.l_,Fs,if_pos I6,bD,jG,bF,hz]at this;rw[g1,this.of_int];rfl
 |_=>exact absurd h6 id
def aet(rh:RH m H w)(gl:Gl n m):n<=w.heap.size:=by
 cases n with
 |zero=>exact bA _
 |succ n=>
  have⟨lc,W,J,_⟩:=gl n<|dM n;have⟨o,h5,_⟩:=rh.ok n lc W;have:=oQ h5;omega
def RH.below{w':bY}(rh:RH m H w)(hb:Go.RowKit.Below w.heap.size w w'):RH m H w'/\Ex m m H H w w':=by
 refine⟨⟨rh.dom,λr l y=>?_,rh.sep⟩,?_⟩
 .have⟨o,W,J⟩:=rh.ok r l y;exact⟨o,by rw[hb.block _ (oQ W)];exact W,J⟩
 .exact⟨λ_ _ h=>h,λr l h h'=>(by rw[h]at h';cases h'),λr l h h'=>(by rw[h]at h';cases h'),hb.os,hb.tape,hb.output,hb.size,λc hc _=>hb.block c hc,ax _,ax _,λ_ _ _=>rfl,λ_ _ _=>rfl⟩
section mem
variable{P:aU}
def V_{X:Xt}{k:Nat}(hn:3<=n)(hmo:P.follows .mixedOrders=f)(hP:Ce P n)(hX:Zc P X)(hO:I_ P X n){fn:Func}(hg:P.funcs[g]?=D fn)(hb:fn.body.isSome=f)(h:∀t1 t2,Vz n f (kE P X k g []<|hpT n t1 t2)=f)(ho:orT args H=D (v,T)):
 (∃fn,P.funcs[g]?=D fn/\fn.body.isSome=f)/\∀m w args',RH m H w->Gl n m->k_ m args args'->
  Calls P g ⟨args'⟩ w λe w'=>∃m' v',e=.returned v'/\VR m' v v'/\RH m' T w'/\Ex m m' H T w w':=by
 obtain⟨rfl,hT,rfl,rfl⟩:=aht ho;refine⟨⟨fn,hg,hb⟩,λm w args' rh gl ha=>?_⟩;cases ha;have⟨h0,t1,t2,e1,e2⟩:=hT;have⟨H1,W,J⟩:=aau<|h t1 t2;refine(TI (H:=hpT n t1 t2) hmo hP hX hO hg hb W J O O (aet rh gl) ?_).mono ?_
 .intro r y;rw[aes]
  by_cases r2:r=2
  .subst r2;rw[if_pos O];exact QZ rh gl N e2
  .rw[if_neg r2]
   by_cases r1:r=1
   .subst r1;rw[if_pos O];exact QZ rh gl N e1
   .rw[if_neg r1];exact .inl O
 .rintro e w' ⟨rfl,hbw⟩;have⟨g1,g2⟩:=rh.below hbw;exact⟨m,.bool f,O,.sc _ O,g1,g2⟩
end mem
section
open Go.Sort
section turn
def RH.grown(rh:RH m H w)(n:Nat)(os:Array Obj):RH m H (grow (Sort.ahead w n) os)/\Ex m m H H w (grow (Sort.ahead w n) os):=by
 have hk:∀c,c<w.heap.size->(grow (Sort.ahead w n) os).heap[c]?=w.heap[c]?:=λc hc=>by
  show(w.heap++os)[c]?=_;rw[rC hc]
 refine⟨⟨rh.dom,λr l y=>?_,rh.sep⟩,?_⟩
 .have⟨o,W,J⟩:=rh.ok r l y;exact⟨o,by rw[hk _ (oQ W)];exact W,J⟩
 .exact⟨λ_ _ h=>h,λr l h h'=>(by rw[h]at h';cases h'),λr l h h'=>(by rw[h]at h';cases h'),rfl,rfl,rfl,by show w.heap.size<=(w.heap++os).size;simp,λc hc _=>hk c hc,ax _,ax _,λ_ _ _=>rfl,λ_ _ _=>rfl⟩
theorem RH.turn(rh:RH m H w){off:Nat}{l:Loc}(h:H.write r off vs=D T)(hv:k_ m vs vs)(hn:vs≠[])(hm:m r=D l)(hl:l.lo<=off)(n:Nat)(os:Array Obj):
 (RH m T (grow (putRow id (Sort.ahead w n) l.c (l.base+(off-l.lo)) vs.toArray) os)/\Ex m m H T w (grow (putRow id (Sort.ahead w n) l.c (l.base+(off-l.lo)) vs.toArray) os))/\
 l.c<w.heap.size/\∀j,w.frozen? ⟨l.c,l.base+(off-l.lo)+j,Q⟩=aC:=by
 cases vs with
 |nil=>exact absurd O hn
 |cons v x=>
  replace h:(aL (vZ<|H.obj r) λw=>
   gd (!w.kY&&aD (aZ off<|len<|v::x) w.n&&aD w.fz off&&all' fC (v::x))
   (D<|H.put r<|.row ⟨w.ty,Tr.tu top (v::x) off w.cells,w.n,aC,w.fz⟩))=D T:=h
  have⟨az,hR,h⟩:=aJ h;have⟨hg,h⟩:=fI h;cases h;have Ie:=uh hR;simp only[bg,fU,all_eq]at hg;have⟨⟨⟨g0,g1⟩,g2⟩,g3⟩:=hg;have g1:off+(v::x).length<=az.n:=aF g1;have g2:=aF g2;have⟨M,fr,hb,hnn,J,h3,h4,h5,h6⟩:=row_of rh hm Ie;have hfr:=h5<|mg g0;have hc:=oQ hb
  have e1:(putRow id (Sort.ahead w n) l.c (l.base+(off-l.lo)) (v::x).toArray).heap[l.c]?=D (.cells (putCells id (l.base+(off-l.lo)) (v::x).toArray M) az.ty fr):=by
   show(w.heap.modify l.c<|onCells _)[l.c]?=_;rw[iN,if_pos O,hb];rfl
  have hu:=RH.update rh r l (.row ⟨az.ty,Tr.tu top (v::x) off az.cells,az.n,aC,az.fz⟩) (.cells (putCells id (l.base+(off-l.lo)) (v::x).toArray M) az.ty fr) hm (by rw[Ie];simp) ?_ e1 kg (λc h=>by
   show(w.heap.modify l.c<|onCells _)[c]?=_;rw[iN,if_neg<|oW h]) O O O
  .have hg:=hu.1.grown 0 os;refine⟨⟨hg.1,hu.2.trans hg.2⟩,hc,λj=>?_⟩;show(match w.heap[l.c]? with|some (.cells _ _ (lo,hi))=>lo<=l.base+(off-l.lo)+j&&l.base+(off-l.lo)+j<hi|_=>aC)=aC;rw[hb];show(decide (fr.1<=_)&&decide (_<fr.2))=aC;rw[Bool.and_eq_false_iff];exact .inr<|dB N
  .refine⟨⟨O,base_of rh hm Ie⟩,hnn,by simp[putCells,J],h3,h4,λ_=>hfr,?_⟩;intro i a b;rw[Tr.l_];have⟨rg,hu1,hu2⟩:=h6 i a b
   have e2:(putCells id (l.base+(off-l.lo)) (v::x).toArray M)[l.base+(i-l.lo)]?=D (if l.base+(off-l.lo)<=l.base+(i-l.lo)/\l.base+(i-l.lo)<l.base+(off-l.lo)+(v::x).length then(v::x).toArray[l.base+(i-l.lo)-(l.base+(off-l.lo))]! else rg):=by
    unfold putCells;rw[uO,hu1];rfl
   rw[e2]
   by_cases hin:off<=i/\i<off+(v::x).length
   .rw[if_pos N,if_pos hin,show l.base+(i-l.lo)-(l.base+(off-l.lo))=i-off from by omega];have hlt:i-off<(v::x).length:=N
    have hgi:(v::x)[i-off]?=D ((v::x).getD (i-off) top):=by
     rw[bD,av hlt];rfl
    have⟨rg,hu1,hu2⟩:=hv.get (i-off) hgi;refine⟨_,O,?_⟩
    have:(v::x).toArray[i-off]! =rg:=by
     rw[pY,List.getElem!_eq_getElem?_getD,hu1];rfl
    rw[this];exact hu2
   .rw[if_neg N,if_neg hin];exact⟨rg,O,hu2⟩
def k_.row(h:k_ m (I (D ⟨r,0,Q⟩) (n+1) c::rest) args):∃l c' rest',m r=D l/\l.lo<=0/\k_ m rest rest'/\args=I (D ⟨l.c,l.base+(0-l.lo),Q⟩) (n+1) c'::rest':=by
 cases h with
 |cons _ v' _ x' hv E=>
  cases hv with
  |sc _ h=>exact Bool.noConfusion h
  |slice _ _ _ _ l h hl hk hn=>exact⟨l,_,_,h,hl,E,O⟩
  |sO _ _ _ _ cc l h hl he ht hc hN=>exact⟨l,_,_,h,hl,E,O⟩
end turn
section rows
variable{α:Type}(enc:α->C Z)(ay:C α->C α)
open Classical in
def orW(es:Nat)(rest:C Z):C Z->R->aB (Z×R)
 |.slice (D ⟨r,0,Q⟩) (n+1) _::l,H=>
  if h:l=rest/\n<1000000/\∃zs:C α,zs.length=n+1/\H.read r 0 ((n+1)*es)=D (zs.flatMap enc)then
   (H.write r 0<|(ay h.2.2.choose).flatMap enc).map λT=>(.tuple ⟨[]⟩,T)else Q
 |_,_=>Q
structure Put(es:Nat):Prop where
 len:∀x,(enc x).length=es
 pos:0<es
 sc:∀x,∀v∈enc x,nE v=f/\fC v=f
 perm:∀zs,(ay zs).Perm zs
variable{enc ay}
def Put.flat(hp:Put enc ay es):∀zs:C α,(zs.flatMap enc).length=zs.length*es
 |[]=>(iQ _).symm
 |z::zs=>by rw[nN,aQ,hp.len,hp.flat zs,cK,kR];omega
theorem Put.scs(hp:Put enc ay es)(zs:C α):(zs.flatMap enc).all nE=f:=eG.2 λv hv=>by
 have⟨x,_,E⟩:=uH.1 hv;exact(hp.sc x v E).1
def Put.el(hp:Put enc ay es):∀(zs:C α)(k:Nat)(hk:k<zs.length)(eB:C Z),El (zs.flatMap enc++eB) es k=enc zs[k]
 |z::zs,0,_,eB=>by
  unfold El;rw[iQ,jf,nN,bU,<-hp.len z,qi];rfl
 |z::zs,k+1,hk,eB=>by
  have:=hp.el zs k (uA hk) eB;unfold El at this|-;rw[kR,Nat.add_comm,<-qd,nN,bU,<-hp.len z,List.drop_left,hp.len z];exact this
def abD{P:aU}(hp:Put enc ay es){args':C Z}(ho:orW enc ay es rest args H=D (v,T))(rh:RH m H w)(ha:k_ m args args')(hc:∀(blk off cap:Nat)(zs:C α)(rest':C Z),(∃r c,args=I (D ⟨r,0,Q⟩) zs.length c::rest)->k_ m rest rest'->0<zs.length->zs.length<=1000000->blk<w.heap.size->(∀j v,(zs.flatMap enc)[j]?=D v->w.cell? ⟨blk,off+j,Q⟩=D v/\w.frozen? ⟨blk,off+j,Q⟩=aC)->
  Calls P g ⟨I (D ⟨blk,off,Q⟩) zs.length cap::rest'⟩ w λe w'=>e=.returned (.tuple #[])/\∃n os,w'=grow (putRow id (Sort.ahead w n) blk off ((ay zs).flatMap enc).toArray) os):
 Calls P g ⟨args'⟩ w λe w'=>∃m' v',e=.returned v'/\VR m' v v'/\RH m' T w'/\Ex m m' H T w w':=by
 unfold orW at ho;split at ho
 .next r n c l=>
  split at ho
  .next h=>
   have⟨H1,h3,ho⟩:=Option.map_eq_some_iff.1 ho;cases ho;have⟨J,W⟩:=h.2.2.choose_spec;generalize h.2.2.choose=zs at W J h3;obtain⟨rfl,hn,_⟩:=h;obtain⟨lc,c',rest',hm,hl,y,rfl⟩:=ha.row;have⟨vs',g1,g2,g3⟩:=Fz rh W hm hl;have g1:=g1.wC<|hp.scs _;subst g1;have hsl:(ay zs).length=n+1:=(hp.perm zs).length_eq.trans J
   have hne:(ay zs).flatMap enc≠[]:=λe=>by
    have h:=hp.flat<|ay zs;rw[e,hsl]at h;exact absurd h<|Nat.ne_of_lt<|qW (vC n) hp.pos
   have ht:=λk os=>RH.turn rh h3 (k_.nE<|hp.scs _) hne hm hl k os
   have:=hc lc.c (lc.base+(0-lc.lo)) c' zs rest' ⟨r,c,by rw[J]⟩ y N N (ht 0 #[]).2.1 λj v hj=>by
    refine⟨?_,(ht 0 #[]).2.2 j⟩;have:=g3 j v hj
    have e:(⟨lc.c,lc.base+(0-lc.lo),Q⟩:Addr).add j=⟨lc.c,lc.base+(0-lc.lo)+j,Q⟩:=by
     unfold Addr.add;split
     .next h=>subst h;rfl
     .rfl
    rw[e]at this;exact this
   rw[J]at this;apply this.mono;rintro e w' ⟨rfl,k,os,rfl⟩;exact⟨m,_,O,.tuple _ _ .nil,(ht k os).1⟩
  .cases ho
 .cases ho
def SB.put(hp:Put enc ay es){au:C Z->Prop}(hQ:∀l,au l->∃x,l=enc x)(hn:n<1000000)(hB:SB au r ty es (n+1) H0 H L):
 ∃T,orW enc ay es rest (I (D ⟨r,0,Q⟩) (n+1) c::rest) H=D (.tuple ⟨[]⟩,T)/\SB au r ty es (n+1) H0 T L:=by
 have⟨M,W,J,G⟩:=hB
 have key:∀k,k<=n+1->∃zs:C α,zs.length=k/\M.take (k*es)=zs.flatMap enc:=by
  intro k
  induction k with
  |zero=>exactλ_=>⟨[],rfl,by rw[iQ];rfl⟩
  |succ k ih=>
   intro hk;have⟨zs,g1,g2⟩:=ih N;have⟨x,E⟩:=hQ _<|J k N;refine⟨zs++[x],by simp[g1],?_⟩;rw[kR,List.take_add,g2,List.flatMap_append,nN,List.flatMap_nil,bq,<-E];rfl
 have⟨zs0,g1,g2⟩:=key (n+1)<|ax _
 have y:H.read r 0 ((n+1)*es)=D (zs0.flatMap enc):=by
  rw[(G.get 0 O).read N,jf,g2]
 have E:∃zs:C α,zs.length=n+1/\H.read r 0 ((n+1)*es)=D (zs.flatMap enc):=⟨zs0,g1,y⟩;have⟨z1,z2⟩:=E.choose_spec
 have e0:orW enc ay es rest (I (D ⟨r,0,Q⟩) (n+1) c::rest) H=(H.write r 0<|(ay E.choose).flatMap enc).map λT=>(.tuple ⟨[]⟩,T):=by
  unfold orW;exact dif_pos ⟨O,hn,E⟩
 generalize E.choose=zs at z1 z2 e0;rw[y]at z2;have z2:=dK z2;have hl:((ay zs).flatMap enc).length=(n+1)*es:=by rw[hp.flat,(hp.perm zs).length_eq,z1]
 have⟨T,e1,e2,e3⟩:=G.zZ 0 (o:=0) (vs:=(ay zs).flatMap enc) O N (by
  rw[all_eq,eG];intro v hv;have⟨x,_,E⟩:=uH.1 hv;exact(hp.sc x v E).2)
 refine⟨T,by rw[e0,e1];rfl,_,?_,?_,e2⟩
 .rw[mq N];exact W
 .intro k hk;have hk':k<(ay zs).length:=by rw[(hp.perm zs).length_eq,z1];exact hk
  show au<|El (splice M 0 _) es k;have e:splice M 0 ((ay zs).flatMap enc)=(ay zs).flatMap enc++M.drop (0+((ay zs).flatMap enc).length):=by unfold splice;rw[kC,bN]
  rw[e,hp.el _ _ hk'];have⟨j,hj,ej⟩:=kG.1<|(hp.perm zs).mem_iff.1<|bB hk';have:=hp.el zs j hj<|M.drop<|(n+1)*es;rw[<-z2,<-g2,iP]at this;rw[<-ej,<-this];exact J j N
end rows
def enI(z:Int):C Z:=[.int .i64 z]
def srt(zs:C Int):C Int:=zs.mergeSort λx hr=>decide<|x<=hr
def aj1:Put enI srt 1:=⟨λ_=>rfl,Nat.one_pos,λx v h=>by rw[aP.1 h];exact⟨O,O⟩,λzs=>List.mergeSort_perm zs _⟩
def enR(x:Int×Int):C Z:=[.int .i32 x.1,.int .i32 x.2]
def ltR(x hr:Int×Int):Bool:=decide<|x.1<hr.1
def aj2:SWO ltR where
 irrefl x:=by simp[ltR]
 trans x hr z W J:=by simp[ltR]at*;omega
 ntrans x hr z W J:=by simp[ltR]at*;omega
def fR(l:Nat)(zs:C<|Int×Int):C (Int×Int):=(pdq ltR zs.toArray 0 zs.length l f f).toList
def aeu(l:Nat):Put enR (fR l) 2:=⟨λ_=>rfl,Nat.zero_lt_two,λx v h=>by simp[enR]at h;rcases h with rfl|rfl<;>exact⟨O,O⟩,λzs=>by
 have⟨W,_,J⟩:=(pdq_sorts ltR aj2 zs.toArray 0 zs.length l f f (bA _) (ax _)<|.inl O).1;have e:∀d:Array<|Int×Int,d.size=zs.length->(d.extract 0 zs.length).toList=d.toList:=λd hd=>by rw[<-hd,Array.extract_size]
 rw[e _ W,e _ O]at J;exact J⟩
def aev:C Z->Nat
 |_::_::_::.int _ l::_=>l.toNat
 |_=>0
def orR(cv:Z):C Z->R->aB (Z×R)
 |.slice a (n+1) c::l,H=>if aev (I a (n+1) c::l)<=64 then orW enR (fR<|aev<|I a (n+1) c::l) 2 [.int .i64 0,.int .i64 ((n+1:Nat):Int),.int .i64 (aev (I a (n+1) c::l):Nat),cv] (I a (n+1) c::l) H else Q
 |_,_=>Q
def SB.aj3{cv:Z}{l:Nat}(hn:n<1000000)(hl:l<=64)(hB:SB QL r ty 2 (n+1) H0 H L):
 ∃T,orR cv [I (D ⟨r,0,Q⟩) (n+1) c,.int .i64 0,.int .i64 ((n+1:Nat):Int),.int .i64 (l:Nat),cv] H=D (.tuple ⟨[]⟩,T)/\SB QL r ty 2 (n+1) H0 T L:=by
 have⟨T,e,h⟩:=SB.put (aeu l) (λx ⟨a,b,h⟩=>⟨(a,b),h⟩) (rest:=[.int .i64 0,.int .i64 ((n+1:Nat):Int),.int .i64 (l:Nat),cv]) (c:=c) hn hB;exact⟨T,(if_pos hl).trans e,h⟩
def aO.orc{P:aU}{X:Xt}{K:Z->R->Prop}(h:X.o g args H=D (v,T))(k:K v T):aO P X g args H K:=⟨v,T,⟨1,CQ h⟩,k⟩
end
end Go.Ae
namespace Go.Proofs.Lu
open Go.Ae Go.Ae.cs
variable{K:Z->R->Prop}{vn p:Prop}{A:(Out->Prop)->Prop}{b:Bool}
abbrev Pg:aU:=Tryz.prog
def X:Xt:=⟨λg=>bV (aA g 239) 1<|bV (aA g 220) 3 0,λg args H=>bV (aA g 10||aA g 30) (orT args H)<|bV (aA g 160) (orW enI srt 1 [] args H)<|bV (aA g 249) (orR (.func (.func 242) ⟨[]⟩ ⟨[]⟩) args H) Q⟩
abbrev wE:Code:=BG Pg 9
abbrev Co:Code:=BG Pg 43
abbrev Jd:Code:=BG Pg 49
abbrev Mt:Code:=BG Pg 52
abbrev yl:Code:=BG Pg 57
abbrev iB:Code:=BG Pg 70
abbrev fA:Code:=BG Pg 72
abbrev D3:Code:=BG Pg 73
abbrev wF:Code:=BG Pg 74
abbrev pF:Code:=BG Pg 77
abbrev Da:Code:=BG Pg 89
abbrev FZ:Code:=BG Pg 92
abbrev II:Code:=BG Pg 93
abbrev abE:Code:=BG Pg 94
abbrev xI:Code:=BG Pg 95
abbrev vk:Code:=BG Pg 102
abbrev BO:Code:=BG Pg 103
abbrev mG:Code:=BG Pg 106
abbrev pQ:Code:=BG Pg 109
abbrev lS:Code:=BG Pg 120
abbrev yC:Code:=BG Pg 123
abbrev nT:Code:=BG Pg 124
abbrev Db:Code:=BG Pg 125
abbrev l7:Code:=BG Pg 134
abbrev AO:Code:=BG Pg 135
abbrev Cq:Code:=BG Pg 136
abbrev j_:Code:=BG Pg 137
abbrev mH:Code:=BG Pg 140
abbrev D4:Code:=BG Pg 147
abbrev Dc:Code:=BG Pg 148
abbrev lG:Code:=BG Pg 157
abbrev gT:Code:=BG Pg 165
abbrev KZ:Code:=BG Pg 170
abbrev xR:Code:=BG Pg 171
abbrev F3:Code:=BG Pg 175
abbrev OU:Code:=BG Pg 185
abbrev mI:Code:=BG Pg 186
abbrev kU:Code:=BG Pg 194
abbrev abF:Code:=BG Pg 199
abbrev De:Code:=BG Pg 201
abbrev BP:Code:=BG Pg 203
abbrev Cr:Code:=BG Pg 205
abbrev F4:Code:=BG Pg 218
abbrev wW:Code:=BG Pg 219
abbrev K4:Code:=BG Pg 222
abbrev nV:Code:=BG Pg 226
abbrev zA:Code:=BG Pg 227
abbrev Df:Code:=BG Pg 228
abbrev pU:Code:=BG Pg 240
abbrev Cf:Code:=BG Pg 246
abbrev AP(x0 x2 x3 x4 x5 x6 x7 x8 x9 jo:Z)(u:Rs)(H:R):St:=SH Pg 9 (.c 0 x0<|.c 2 x2<|.c 3 x3<|.c 4 x4<|.c 5 x5<|.c 6 x6<|.c 7 x7<|.c 8 x8<|.c 9 x9<|.c 10 jo<|.n) u H
abbrev wG(x0 x2 x3 x4 x5 x6 x7:Z)(u:Rs)(H:R):St:=SH Pg 43 (.c 0 x0<|.c 2 x2<|.c 3 x3<|.c 4 x4<|.c 5 x5<|.c 6 x6<|.c 7 x7<|.n) u H
abbrev G5(x0 x2 x3:Z)(u:Rs)(H:R):St:=SH Pg 49 (.c 0 x0<|.c 2 x2<|.c 3 x3<|.n) u H
abbrev Dg(x0 x1 x2 x3 x4 x5 x6 x7 x8 jo Yc x27 x28 Aq x38 x39:Z)(u:Rs)(H:R):St:=SH Pg 52 (.c 0 x0<|.c 1 x1<|.c 2 x2<|.c 3 x3<|.c 4 x4<|.c 5 x5<|.c 6 x6<|.c 7 x7<|.c 8 x8<|.c 10 jo<|.c 26 Yc<|.c 27 x27<|.c 28 x28<|.c 37 Aq<|.c 38 x38<|.c 39 x39<|.n) u H
abbrev Cs(x0 x1 x2 x3 x4 x5 kW jI lH pG wN uC x20 xJ yx x32 Bf x34 Zh x66 JF Yd Ye OV:Z)(u:Rs)(H:R):St:=SH Pg 57 (.c 0 x0<|.c 1 x1<|.c 2 x2<|.c 3 x3<|.c 4 x4<|.c 5 x5<|.c 12 kW<|.c 13 jI<|.c 15 lH<|.c 16 pG<|.c 18 wN<|.c 19 uC<|.c 20 x20<|.c 21 xJ<|.c 23 yx<|.c 32 x32<|.c 33 Bf<|.c 34 x34<|.c 65 Zh<|.c 66 x66<|.c 67 JF<|.c 119 Yd<|.c 120 Ye<|.c 121 OV<|.n) u H
abbrev pR(x0 x2 x3 x4 x5 x6 x7 x8 x9 jo:Z)(u:Rs)(H:R):St:=SH Pg 70 (.c 0 x0<|.c 2 x2<|.c 3 x3<|.c 4 x4<|.c 5 x5<|.c 6 x6<|.c 7 x7<|.c 8 x8<|.c 9 x9<|.c 10 jo<|.n) u H
abbrev fG(x0 x1 x2 x3 x4 x5 x153:Z)(u:Rs)(H:R):St:=SH Pg 72 (.c 0 x0<|.c 1 x1<|.c 2 x2<|.c 3 x3<|.c 4 x4<|.c 5 x5<|.c 153 x153<|.n) u H
abbrev yt(x0 x1 x2 x3 x4 x5 x6 x7 x8 x9:Z)(u:Rs)(H:R):St:=SH Pg 73 (.c 0 x0<|.c 1 x1<|.c 2 x2<|.c 3 x3<|.c 4 x4<|.c 5 x5<|.c 6 x6<|.c 7 x7<|.c 8 x8<|.c 9 x9<|.n) u H
abbrev q9(x0 x1 x2 x3 x4 x5 x6 x7 x8 x9:Z)(u:Rs)(H:R):St:=SH Pg 74 (.c 0 x0<|.c 1 x1<|.c 2 x2<|.c 3 x3<|.c 4 x4<|.c 5 x5<|.c 6 x6<|.c 7 x7<|.c 8 x8<|.c 9 x9<|.n) u H
abbrev lK(x0 x1 x2 x4 x5 x6 x7 x8 jo iJ kW jI lH pG wN uC xJ x30 x31 x32 Aq x38 x39 x88 x89 x90 x115 EO AQ x157 x158 x159:Z)(u:Rs)(H:R):St:=SH Pg 77 (.c 0 x0<|.c 1 x1<|.c 2 x2<|.c 4 x4<|.c 5 x5<|.c 6 x6<|.c 7 x7<|.c 8 x8<|.c 10 jo<|.c 11 iJ<|.c 12 kW<|.c 13 jI<|.c 15 lH<|.c 16 pG<|.c 18 wN<|.c 19 uC<|.c 21 xJ<|.c 30 x30<|.c 31 x31<|.c 32 x32<|.c 37 Aq<|.c 38 x38<|.c 39 x39<|.c 88 x88<|.c 89 x89<|.c 90 x90<|.c 115 x115<|.c 116 EO<|.c 117 AQ<|.c 157 x157<|.c 158 x158<|.c 159 x159<|.n) u H
abbrev Cu(x0 x1 x2 x3 x4 x5 x6 jo iJ sP lH pG wN uC xJ:Z)(u:Rs)(H:R):St:=SH Pg 89 (.c 0 x0<|.c 1 x1<|.c 2 x2<|.c 3 x3<|.c 4 x4<|.c 5 x5<|.c 6 x6<|.c 10 jo<|.c 11 iJ<|.c 14 sP<|.c 15 lH<|.c 16 pG<|.c 18 wN<|.c 19 uC<|.c 21 xJ<|.n) u H
abbrev EP(x0 x1 x2 x3 x8 x9 jo iJ kW jI sP lH yo:Z)(u:Rs)(H:R):St:=SH Pg 92 (.c 0 x0<|.c 1 x1<|.c 2 x2<|.c 3 x3<|.c 8 x8<|.c 9 x9<|.c 10 jo<|.c 11 iJ<|.c 12 kW<|.c 13 jI<|.c 14 sP<|.c 15 lH<|.c 17 yo<|.n) u H
abbrev OW(x0 x2 x3 x4 x5 x6 x7 x8 x9 jo:Z)(u:Rs)(H:R):St:=SH Pg 93 (.c 0 x0<|.c 2 x2<|.c 3 x3<|.c 4 x4<|.c 5 x5<|.c 6 x6<|.c 7 x7<|.c 8 x8<|.c 9 x9<|.c 10 jo<|.n) u H
abbrev Yf(x0 x1 x2 x3 x4 x5 x6 x7 x8 x9 iJ x34 Eh LW:Z)(u:Rs)(H:R):St:=SH Pg 94 (.c 0 x0<|.c 1 x1<|.c 2 x2<|.c 3 x3<|.c 4 x4<|.c 5 x5<|.c 6 x6<|.c 7 x7<|.c 8 x8<|.c 9 x9<|.c 11 iJ<|.c 34 x34<|.c 35 Eh<|.c 36 LW<|.n) u H
abbrev vY(x0 x1 x2 x3 x4 x5 x7 x9 iJ kW jI xJ DV yx Bf x34 Eh x74 x75 TS:Z)(u:Rs)(H:R):St:=SH Pg 95 (.c 0 x0<|.c 1 x1<|.c 2 x2<|.c 3 x3<|.c 4 x4<|.c 5 x5<|.c 7 x7<|.c 9 x9<|.c 11 iJ<|.c 12 kW<|.c 13 jI<|.c 21 xJ<|.c 22 DV<|.c 23 yx<|.c 33 Bf<|.c 34 x34<|.c 35 Eh<|.c 74 x74<|.c 75 x75<|.c 76 TS<|.n) u H
abbrev uD(x0 x1 x4 x5 x6 x7 x8 x9 jo iJ kW jI:Z)(u:Rs)(H:R):St:=SH Pg 102 (.c 0 x0<|.c 1 x1<|.c 4 x4<|.c 5 x5<|.c 6 x6<|.c 7 x7<|.c 8 x8<|.c 9 x9<|.c 10 jo<|.c 11 iJ<|.c 12 kW<|.c 13 jI<|.n) u H
abbrev AR(x0 x1 x4 x5 x6 x7 x8 x9 jo iJ:Z)(u:Rs)(H:R):St:=SH Pg 103 (.c 0 x0<|.c 1 x1<|.c 4 x4<|.c 5 x5<|.c 6 x6<|.c 7 x7<|.c 8 x8<|.c 9 x9<|.c 10 jo<|.c 11 iJ<|.n) u H
abbrev wT(x0 x1 x2 x4:Z)(u:Rs)(H:R):St:=SH Pg 105 (.c 0 x0<|.c 1 x1<|.c 2 x2<|.c 4 x4<|.n) u H
abbrev pV(x0 x1 x2 x4 x5 x6 x7 x8:Z)(u:Rs)(H:R):St:=SH Pg 106 (.c 0 x0<|.c 1 x1<|.c 2 x2<|.c 4 x4<|.c 5 x5<|.c 6 x6<|.c 7 x7<|.c 8 x8<|.n) u H
abbrev wH(x0 x1 x2 x3 x4 x6 x7 x8 x9 jo iJ kW jI sP lH pG yo wN x25:Z)(u:Rs)(H:R):St:=SH Pg 109 (.c 0 x0<|.c 1 x1<|.c 2 x2<|.c 3 x3<|.c 4 x4<|.c 6 x6<|.c 7 x7<|.c 8 x8<|.c 9 x9<|.c 10 jo<|.c 11 iJ<|.c 12 kW<|.c 13 jI<|.c 14 sP<|.c 15 lH<|.c 16 pG<|.c 17 yo<|.c 18 wN<|.c 25 x25<|.n) u H
abbrev oG(x0 x2 x3 x4 x5 x6 x7:Z)(u:Rs)(H:R):St:=SH Pg 120 (.c 0 x0<|.c 2 x2<|.c 3 x3<|.c 4 x4<|.c 5 x5<|.c 6 x6<|.c 7 x7<|.n) u H
abbrev oV(x0 x1 x2 x3 x4 x5 x6 x7 x8 x9 iJ kW jI sP lH wN uC x20 x59 x60 TU JF:Z)(u:Rs)(H:R):St:=SH Pg 123 (.c 0 x0<|.c 1 x1<|.c 2 x2<|.c 3 x3<|.c 4 x4<|.c 5 x5<|.c 6 x6<|.c 7 x7<|.c 8 x8<|.c 9 x9<|.c 11 iJ<|.c 12 kW<|.c 13 jI<|.c 14 sP<|.c 15 lH<|.c 18 wN<|.c 19 uC<|.c 20 x20<|.c 59 x59<|.c 60 x60<|.c 61 TU<|.c 67 JF<|.n) u H
abbrev rW(x0 x1 x2 x4 x5 x6 x7 x8 x9 jo iJ jI yx x24 x25 x31 Mv G6 D5:Z)(u:Rs)(H:R):St:=SH Pg 124 (.c 0 x0<|.c 1 x1<|.c 2 x2<|.c 4 x4<|.c 5 x5<|.c 6 x6<|.c 7 x7<|.c 8 x8<|.c 9 x9<|.c 10 jo<|.c 11 iJ<|.c 13 jI<|.c 23 yx<|.c 24 x24<|.c 25 x25<|.c 31 x31<|.c 49 Mv<|.c 50 G6<|.c 51 D5<|.n) u H
abbrev OX(x0 x1 x2 x3 x4 x5 x8 x9 jo iJ kW sP lH pG x29 x30 x31:Z)(u:Rs)(H:R):St:=SH Pg 125 (.c 0 x0<|.c 1 x1<|.c 2 x2<|.c 3 x3<|.c 4 x4<|.c 5 x5<|.c 8 x8<|.c 9 x9<|.c 10 jo<|.c 11 iJ<|.c 12 kW<|.c 14 sP<|.c 15 lH<|.c 16 pG<|.c 29 x29<|.c 30 x30<|.c 31 x31<|.n) u H
abbrev qH(x0 x2 x3 x4 x5 x9:Z)(u:Rs)(H:R):St:=SH Pg 134 (.c 0 x0<|.c 2 x2<|.c 3 x3<|.c 4 x4<|.c 5 x5<|.c 9 x9<|.n) u H
abbrev Am(x0 x2:Z)(u:Rs)(H:R):St:=SH Pg 135 (.c 0 x0<|.c 2 x2<|.n) u H
abbrev BQ(x0 x2 x3 x4 x5 x6 x7 x8 x9 jo iJ kW jI sP:Z)(u:Rs)(H:R):St:=SH Pg 136 (.c 0 x0<|.c 2 x2<|.c 3 x3<|.c 4 x4<|.c 5 x5<|.c 6 x6<|.c 7 x7<|.c 8 x8<|.c 9 x9<|.c 10 jo<|.c 11 iJ<|.c 12 kW<|.c 13 jI<|.c 14 sP<|.n) u H
abbrev jV(x0 x1 x2 x4 x5 x6 x7 x8 x9:Z)(u:Rs)(H:R):St:=SH Pg 137 (.c 0 x0<|.c 1 x1<|.c 2 x2<|.c 4 x4<|.c 5 x5<|.c 6 x6<|.c 7 x7<|.c 8 x8<|.c 9 x9<|.n) u H
abbrev rX(x0 x1 x4 x5:Z)(u:Rs)(H:R):St:=SH Pg 140 (.c 0 x0<|.c 1 x1<|.c 4 x4<|.c 5 x5<|.n) u H
abbrev Dh(x0 x1 x4 x5 x40:Z)(u:Rs)(H:R):St:=SH Pg 147 (.c 0 x0<|.c 1 x1<|.c 4 x4<|.c 5 x5<|.c 40 x40<|.n) u H
abbrev BR(x0 x1 x2 x3 x4 x5 x6 x7 x8 x9 jo iJ kW x30 x31 x32 G6 D5 TV x88 x89 x90:Z)(u:Rs)(H:R):St:=SH Pg 148 (.c 0 x0<|.c 1 x1<|.c 2 x2<|.c 3 x3<|.c 4 x4<|.c 5 x5<|.c 6 x6<|.c 7 x7<|.c 8 x8<|.c 9 x9<|.c 10 jo<|.c 11 iJ<|.c 12 kW<|.c 30 x30<|.c 31 x31<|.c 32 x32<|.c 50 G6<|.c 51 D5<|.c 52 TV<|.c 88 x88<|.c 89 x89<|.c 90 x90<|.n) u H
abbrev kS(x0 x2 x3 x4 x5 x6 x7 x8 x9 jo iJ kW jI sP lH pG x32 Bf:Z)(u:Rs)(H:R):St:=SH Pg 157 (.c 0 x0<|.c 2 x2<|.c 3 x3<|.c 4 x4<|.c 5 x5<|.c 6 x6<|.c 7 x7<|.c 8 x8<|.c 9 x9<|.c 10 jo<|.c 11 iJ<|.c 12 kW<|.c 13 jI<|.c 14 sP<|.c 15 lH<|.c 16 pG<|.c 32 x32<|.c 33 Bf<|.n) u H
abbrev kV(x0 x1 x2 x4 x5 x6 x7 x8 x9 jo iJ uC:Z)(u:Rs)(H:R):St:=SH Pg 165 (.c 0 x0<|.c 1 x1<|.c 2 x2<|.c 4 x4<|.c 5 x5<|.c 6 x6<|.c 7 x7<|.c 8 x8<|.c 9 x9<|.c 10 jo<|.c 11 iJ<|.c 19 uC<|.n) u H
abbrev IJ(x0 x1 x4 x5 x6 x7:Z)(u:Rs)(H:R):St:=SH Pg 170 (.c 0 x0<|.c 1 x1<|.c 4 x4<|.c 5 x5<|.c 6 x6<|.c 7 x7<|.n) u H
abbrev zB(x0 x1 x4 x5 x6 x7 x8 x9 jo iJ:Z)(u:Rs)(H:R):St:=SH Pg 171 (.c 0 x0<|.c 1 x1<|.c 4 x4<|.c 5 x5<|.c 6 x6<|.c 7 x7<|.c 8 x8<|.c 9 x9<|.c 10 jo<|.c 11 iJ<|.n) u H
abbrev Di(x0 x1 x2 x3 x4 x5 x7 jI sP lH:Z)(u:Rs)(H:R):St:=SH Pg 177 (.c 0 x0<|.c 1 x1<|.c 2 x2<|.c 3 x3<|.c 4 x4<|.c 5 x5<|.c 7 x7<|.c 13 jI<|.c 14 sP<|.c 15 lH<|.n) u H
abbrev Cg(x0 x1 x2 x4 x5 x6 x7 x9 lH pG yo x28 x29 x30:Z)(u:Rs)(H:R):St:=SH Pg 180 (.c 0 x0<|.c 1 x1<|.c 2 x2<|.c 4 x4<|.c 5 x5<|.c 6 x6<|.c 7 x7<|.c 9 x9<|.c 15 lH<|.c 16 pG<|.c 17 yo<|.c 28 x28<|.c 29 x29<|.c 30 x30<|.n) u H
abbrev Mw(x0 x1 x2 x3 x4 x5 x7 x8 x9 jo iJ:Z)(u:Rs)(H:R):St:=SH Pg 185 (.c 0 x0<|.c 1 x1<|.c 2 x2<|.c 3 x3<|.c 4 x4<|.c 5 x5<|.c 7 x7<|.c 8 x8<|.c 9 x9<|.c 10 jo<|.c 11 iJ<|.n) u H
abbrev vo(x0 x1 x2 x3 x4 x5 x6 x7 x8 x9 kW jI lH pG yo uC x20 xJ DV yx x24 x25 x32 LW Aq x38 x64 Zh x66:Z)(u:Rs)(H:R):St:=SH Pg 186 (.c 0 x0<|.c 1 x1<|.c 2 x2<|.c 3 x3<|.c 4 x4<|.c 5 x5<|.c 6 x6<|.c 7 x7<|.c 8 x8<|.c 9 x9<|.c 12 kW<|.c 13 jI<|.c 15 lH<|.c 16 pG<|.c 17 yo<|.c 19 uC<|.c 20 x20<|.c 21 xJ<|.c 22 DV<|.c 23 yx<|.c 24 x24<|.c 25 x25<|.c 32 x32<|.c 36 LW<|.c 37 Aq<|.c 38 x38<|.c 64 x64<|.c 65 Zh<|.c 66 x66<|.n) u H
abbrev wX(x0 x1 x4 x5:Z)(u:Rs)(H:R):St:=SH Pg 193 (.c 0 x0<|.c 1 x1<|.c 4 x4<|.c 5 x5<|.n) u H
abbrev nW(x0 x1 x4 x5 x6 x7:Z)(u:Rs)(H:R):St:=SH Pg 194 (.c 0 x0<|.c 1 x1<|.c 4 x4<|.c 5 x5<|.c 6 x6<|.c 7 x7<|.n) u H
abbrev Yg(x0 x1 x4 x5 x6:Z)(u:Rs)(H:R):St:=SH Pg 199 (.c 0 x0<|.c 1 x1<|.c 4 x4<|.c 5 x5<|.c 6 x6<|.n) u H
abbrev Je(x0 x2 x3 x4 x8:Z)(u:Rs)(H:R):St:=SH Pg 201 (.c 0 x0<|.c 2 x2<|.c 3 x3<|.c 4 x4<|.c 8 x8<|.n) u H
abbrev Ei(x0 x2 x3 x4 x5 x6 x7 x8 x9 jo:Z)(u:Rs)(H:R):St:=SH Pg 203 (.c 0 x0<|.c 2 x2<|.c 3 x3<|.c 4 x4<|.c 5 x5<|.c 6 x6<|.c 7 x7<|.c 8 x8<|.c 9 x9<|.c 10 jo<|.n) u H
abbrev BS(x0 x1 x4 x5 x6 x7 x8 DV:Z)(u:Rs)(H:R):St:=SH Pg 205 (.c 0 x0<|.c 1 x1<|.c 4 x4<|.c 5 x5<|.c 6 x6<|.c 7 x7<|.c 8 x8<|.c 22 DV<|.n) u H
abbrev Ej(x0 x1 x2 x3 x6 x7 x8 x9 jo iJ:Z)(u:Rs)(H:R):St:=SH Pg 207 (.c 0 x0<|.c 1 x1<|.c 2 x2<|.c 3 x3<|.c 6 x6<|.c 7 x7<|.c 8 x8<|.c 9 x9<|.c 10 jo<|.c 11 iJ<|.n) u H
abbrev ER(x0 x2:Z)(u:Rs)(H:R):St:=SH Pg 218 (.c 0 x0<|.c 2 x2<|.n) u H
abbrev wI(x0 x1 x4 x5:Z)(u:Rs)(H:R):St:=SH Pg 219 (.c 0 x0<|.c 1 x1<|.c 4 x4<|.c 5 x5<|.n) u H
abbrev Jf(x0 x2 x3 x4 x5 x6 x7 x8 jo:Z)(u:Rs)(H:R):St:=SH Pg 222 (.c 0 x0<|.c 2 x2<|.c 3 x3<|.c 4 x4<|.c 5 x5<|.c 6 x6<|.c 7 x7<|.c 8 x8<|.c 10 jo<|.n) u H
abbrev vR(x0 x2 x3 x5 x6 x8 x9 jo iJ Eh LW Aq:Z)(u:Rs)(H:R):St:=SH Pg 226 (.c 0 x0<|.c 2 x2<|.c 3 x3<|.c 5 x5<|.c 6 x6<|.c 8 x8<|.c 9 x9<|.c 10 jo<|.c 11 iJ<|.c 35 Eh<|.c 36 LW<|.c 37 Aq<|.n) u H
abbrev D6(x0 x1 x4 x5 x6 x7 x8 x9 pG:Z)(u:Rs)(H:R):St:=SH Pg 227 (.c 0 x0<|.c 1 x1<|.c 4 x4<|.c 5 x5<|.c 6 x6<|.c 7 x7<|.c 8 x8<|.c 9 x9<|.c 16 pG<|.n) u H
abbrev F5(x0 x1 x4 x5:Z)(u:Rs)(H:R):St:=SH Pg 228 (.c 0 x0<|.c 1 x1<|.c 4 x4<|.c 5 x5<|.n) u H
abbrev pI(x0 x1 x4 x5:Z)(u:Rs)(H:R):St:=SH Pg 240 (.c 0 x0<|.c 1 x1<|.c 4 x4<|.c 5 x5<|.n) u H
abbrev G7(x0 x2 x3 x4 x6 x8 x9 jo:Z)(u:Rs)(H:R):St:=SH Pg 246 (.c 0 x0<|.c 2 x2<|.c 3 x3<|.c 4 x4<|.c 6 x6<|.c 8 x8<|.c 9 x9<|.c 10 jo<|.n) u H
abbrev zC(x0 x1 x2 x4 x5 x6 x7 x8 jo iJ kW jI lH x30 x31 x32 Aq x38 x39 x88 x89 x90:Z)(ai:Nat->Z->Z->Z->Z->Z->Z->Z->Z->Z->Z->R->Prop)(m:Nat)(s:St):Prop:=∃(pG wN uC xJ x115 EO AQ x157 x158 x159:Z)(u:Rs)(H:R),s=lK x0 x1 x2 x4 x5 x6 x7 x8 jo iJ kW jI lH pG wN uC xJ x30 x31 x32 Aq x38 x39 x88 x89 x90 x115 EO AQ x157 x158 x159 u H/\ai m pG wN uC xJ x115 EO AQ x157 x158 x159 H
abbrev vS(x0 x1 x2 x4 x5 x6 x7 x8 jo iJ kW jI lH pG uC xJ x30 x31 x32 Aq x38 x39 x88 x89 x90 x115 EO x157 x158 x159:Z)(ai:Nat->Z->Z->R->Prop)(m:Nat)(s:St):Prop:=∃(wN AQ:Z)(u:Rs)(H:R),s=lK x0 x1 x2 x4 x5 x6 x7 x8 jo iJ kW jI lH pG wN uC xJ x30 x31 x32 Aq x38 x39 x88 x89 x90 x115 EO AQ x157 x158 x159 u H/\ai m wN AQ H
abbrev yu(x0 x1 x2 x4 x5 x7 kW jI xJ DV yx Bf x34 x74 x75 TS:Z)(ai:Nat->Z->Z->Z->Z->R->Prop)(m:Nat)(s:St):Prop:=∃(x3 x9 iJ Eh:Z)(u:Rs)(H:R),s=vY x0 x1 x2 x3 x4 x5 x7 x9 iJ kW jI xJ DV yx Bf x34 Eh x74 x75 TS u H/\ai m x3 x9 iJ Eh H
abbrev wY(x0 x1 x2 x4 x5 x7 x9 iJ xJ DV yx Bf x34 Eh x74 x75:Z)(ai:Nat->Z->Z->Z->Z->R->Prop)(m:Nat)(s:St):Prop:=∃(x3 kW jI TS:Z)(u:Rs)(H:R),s=vY x0 x1 x2 x3 x4 x5 x7 x9 iJ kW jI xJ DV yx Bf x34 Eh x74 x75 TS u H/\ai m x3 kW jI TS H
abbrev zO(x0 x1 x2 x3 x4 x5 x6 x7 x8 x9 iJ kW wN uC x20 x59 x60:Z)(ai:Nat->Z->Z->Z->Z->Z->R->Prop)(m:Nat)(s:St):Prop:=∃(jI sP lH TU JF:Z)(u:Rs)(H:R),s=oV x0 x1 x2 x3 x4 x5 x6 x7 x8 x9 iJ kW jI sP lH wN uC x20 x59 x60 TU JF u H/\ai m jI sP lH TU JF H
abbrev yH(x0 x1 x2 x4 x5 x6 x7 yx x24:Z)(ai:Nat->Z->Z->Z->Z->Z->Z->Z->Z->Z->Z->R->Prop)(m:Nat)(s:St):Prop:=∃(x8 x9 jo iJ jI x25 x31 Mv G6 D5:Z)(u:Rs)(H:R),s=rW x0 x1 x2 x4 x5 x6 x7 x8 x9 jo iJ jI yx x24 x25 x31 Mv G6 D5 u H/\ai m x8 x9 jo iJ jI x25 x31 Mv G6 D5 H
abbrev xK(x0 x1 x2 x4 x5 x6 x7 x8 x9 yx x24 x25 x31 Mv G6:Z)(ai:Nat->Z->Z->Z->Z->R->Prop)(m:Nat)(s:St):Prop:=∃(jo iJ jI D5:Z)(u:Rs)(H:R),s=rW x0 x1 x2 x4 x5 x6 x7 x8 x9 jo iJ jI yx x24 x25 x31 Mv G6 D5 u H/\ai m jo iJ jI D5 H
abbrev yT(x0 x2 x3 x4 x5 x6 x7 x8 x9 jo iJ x32:Z)(ai:Nat->Z->Z->Z->Z->Z->Z->R->Prop)(m:Nat)(s:St):Prop:=∃(kW jI sP lH pG Bf:Z)(u:Rs)(H:R),s=kS x0 x2 x3 x4 x5 x6 x7 x8 x9 jo iJ kW jI sP lH pG x32 Bf u H/\ai m kW jI sP lH pG Bf H
abbrev nX(x0 x2 x3 x4 x5 x6 x7 x8 x9 jo iJ kW x32 Bf:Z)(ai:Nat->Z->Z->Z->Z->R->Prop)(m:Nat)(s:St):Prop:=∃(jI sP lH pG:Z)(u:Rs)(H:R),s=kS x0 x2 x3 x4 x5 x6 x7 x8 x9 jo iJ kW jI sP lH pG x32 Bf u H/\ai m jI sP lH pG H
abbrev l8(x0 x2 x3 x4 x5 x6 x7 x8 x9 jo iJ kW jI sP pG x32 Bf:Z)(ai:Nat->Z->R->Prop)(m:Nat)(s:St):Prop:=∃(lH:Z)(u:Rs)(H:R),s=kS x0 x2 x3 x4 x5 x6 x7 x8 x9 jo iJ kW jI sP lH pG x32 Bf u H/\ai m lH H
abbrev yw(x0 x1 x4 x5 x6:Z)(ai:Nat->Z->Z->Z->Z->Z->R->Prop)(m:Nat)(s:St):Prop:=∃(x7 x8 x9 jo iJ:Z)(u:Rs)(H:R),s=zB x0 x1 x4 x5 x6 x7 x8 x9 jo iJ u H/\ai m x7 x8 x9 jo iJ H
abbrev Dj(x0 x1 x2 x3 jI sP:Z)(ai:Nat->Z->Z->Z->Z->R->Prop)(m:Nat)(s:St):Prop:=∃(x4 x5 x7 lH:Z)(u:Rs)(H:R),s=Di x0 x1 x2 x3 x4 x5 x7 jI sP lH u H/\ai m x4 x5 x7 lH H
abbrev Cv(x0 x1 x2 x4 x5 lH pG:Z)(ai:Nat->Z->Z->Z->Z->Z->Z->Z->R->Prop)(m:Nat)(s:St):Prop:=∃(x6 x7 x9 yo x28 x29 x30:Z)(u:Rs)(H:R),s=Cg x0 x1 x2 x4 x5 x6 x7 x9 lH pG yo x28 x29 x30 u H/\ai m x6 x7 x9 yo x28 x29 x30 H
abbrev D7(x0 x1 x2 x3 x6:Z)(ai:Nat->Z->Z->Z->Z->Z->R->Prop)(m:Nat)(s:St):Prop:=∃(x7 x8 x9 jo iJ:Z)(u:Rs)(H:R),s=Ej x0 x1 x2 x3 x6 x7 x8 x9 jo iJ u H/\ai m x7 x8 x9 jo iJ H
abbrev BU(p0:Nat)(p2:C Z):Prop:=∀(H:R),CJ Pg p0 H=iX p0 p2 H
abbrev LX(p0:C Nat)(p1:Nat)(p2:Nat):Prop:=∀(x hr:Z)(H:R),Dx Pg p0 [x,hr] H=zY p1 p2 x hr H
abbrev JG(p0:Nat)(p1:Nat)(p2:Nat)(p3:C Z)(p4:Nat):Prop:=∀(ps:Rs)(H:R),tO Pg p0 p1 ps H=bS p2 p3 p4 p1 ps H
abbrev sh3(p0:Nat)(p1:Nat)(p2:Nat)(p3:C Z):Prop:=∀(ps:Rs)(H:R),tO Pg p0 p1 ps H=bS p2 p3 p1 p1 ps H
abbrev D8(p0:Nat)(p1:C<|Nat×Nat)(p2:C Z):Prop:=∀(ps:Rs),Bj Pg p0 ps=bld p1 p2 ps
abbrev sh5(p0:Nat)(p1:C Z):Prop:=∀(ps:Rs),Bj Pg p0 ps=bld List.nil p1 ps
abbrev uN(p0:Nat)(p1:Nat):Prop:=∀(x:bT)(ρ:bT->Z)(H T:R),FW Pg (.load p0 x) ρ H T=clL p1 (ρ x) H T
abbrev sh7(p0:C Nat)(p1:Nat):Prop:=∀(x hr:Z)(H:R),MP Pg p0 [x,hr] H=cpA p1 x hr H
abbrev sh8(p0:C Nat)(p1:C Z):Prop:=∀(x:Z)(H:R),Gy Pg p0 [x] H=clA p1 x H
abbrev sh9(p0:Nat)(p1:Nat)(p4:fB):Prop:=∀(x:Z)(H:R)(Kp:Z->Prop)(Km:Z->R->Prop),CV (CE Pg p0 p1 x) (uL Pg p0 p1 x H) Kp Km=PU (cvI p4 x) Kp
abbrev alO(p0:Nat)(p1:Nat):Prop:=∀(x:Z)(H:R)(Kp:Z->Prop)(Km:Z->R->Prop),CV (CE Pg p0 p1 x) (uL Pg p0 p1 x H) Kp Km=PU (cvT x) Kp
abbrev iY(p0:Nat)(p1:Nat):Prop:=∀(x:Z),rR Pg p0 x p1=fld p1 x
abbrev Mx(p0:Nat)(p1:Nat)(p2:Nat):Prop:=∀(x:Z),rR Pg p0 x p1=fld p2 x
abbrev ahz(p0:Nat)(p1:Nat)(p2:aB Nat):Prop:=∀(x:Z),CG Pg p0 x p1=aho p2 p1 x
abbrev yD(p0:Nat)(p1:Nat):Prop:=∀(x hr:Z),rQ Pg p0 x hr=zN p1 x hr
abbrev ahA(p0:Nat)(p1:Nat)(p2:Nat):Prop:=∀(x hr:Z),rQ Pg p0 x hr=idR p1 p2 x hr
abbrev alP(p0:Nat):Prop:=∀(x hr:Z),CF Pg p0 x hr=idS x hr
abbrev lu(p0:Nat)(p1:aB Nat):Prop:=∀(x:Z)(H:R),wu Pg p0 x H=vH p1 x H
abbrev zD(p0:C Nat):Prop:=∀(ρ:bT->Z)(x:bT)(H:R)(Kp:Z->Prop)(Km:Z->R->Prop),CV (one (JY Pg) (Array.toList<|iE p0)<|mp ρ<|Array.toList<|iE [x]) (J4 Pg (Array.toList<|iE p0) (mp ρ<|Array.toList<|iE [x]) H) Kp Km=PU (ai7<|ρ x) Kp
abbrev alQ(p0:C Nat):Prop:=∀(ρ:bT->Z)(x:bT)(H:R)(Kp:Z->Prop)(Km:Z->R->Prop),CV (one (JY Pg) (Array.toList<|iE p0)<|mp ρ<|Array.toList<|iE [x]) (J4 Pg (Array.toList<|iE p0) (mp ρ<|Array.toList<|iE [x]) H) Kp Km=PU (ai8<|ρ x) Kp
abbrev TW(p0:Nat)(p1:Nat)(p2:C Z):Prop:=∀(x hr:Z)(H:R),qD Pg p0 x hr H=mkS p1 p2 x hr H
abbrev Yh(p0:Nat)(p1:Nat):Prop:=∀(x:Z)(a b c:aB Z),Ag Pg p0 x a b c=XY p1 x a b c
abbrev alR(p0:Nat):Prop:=∀(x:Z)(a b c:aB Z),Ag Pg p0 x a b c=slT x a b c
abbrev m_(p0:Nat)(p1:Nat):Prop:=∀(x v:Z)(H:R),zi Pg p0 x v H=CW p1 x v H
def TD:sh9 105 5 .u8/\sh9 164 323 .u32/\sh9 21 323 .u32/\sh9 21 5 .u8/\alO 21 9/\sh9 3 164 .u64/\sh9 3 5 .u8/\sh9 323 5 .u8/\sh9 5 21 .i32/\sh9 5 3 .i64/\zD [119]/\zD [123]/\zD [124]/\zD [168]/\zD [169]/\zD [178]/\zD [184]/\zD [207]/\zD [215]/\zD [219]/\zD [22]/\zD [24]/\zD [25]/\zD [260]/\zD [271]/\zD [28]/\zD [29]/\zD [290]/\zD [30]/\zD [33]/\zD [34]/\zD [51]/\zD [65]/\alQ [9]:=by
 repeat' apply ik
 all_goals((repeat intro _);kernel_rfl)
def TF:BU 104 [Value.nilFunc]/\BU 121 [(bX .i64 0),(bX .i64 0),(bX .i64 0)]/\BU 124 [(I Q 0 0)]/\BU 133 []/\BU 161 [(bX .i64 0),(bX .i64 0)]/\BU 163 [(bX .i64 0),(bX .i64 0)]/\BU 171 [(I Q 0 0),(I Q 0 0)]/\BU 173 [(bX .i64 0),(bX .i64 0)]/\BU 180 [(I Q 0 0)]/\BU 186 [(bX .i64 0),(bX .i64 0),(bX .i64 0),(fT<|dh #[]),(I Q 0 0)]/\BU 194 [(fT<|dh #[]),(gI aC),(gI aC),(gI aC),(bX .i64 0),(bX .i64 0),(bX .i64 0)]/\BU 200 [(bX .i64 0),(I Q 0 0),(fT<|dh #[]),(I Q 0 0),(bX .i64 0)]/\BU 209 [(bX .i64 0),(bX .i64 0),(bX .i64 0),(bX .i64 0)]/\BU 215 [(I Q 0 0)]/\BU 22 [(I Q 0 0)]/\BU 221 [(bX .i64 0),(bX .i64 0),(bX .i64 0),(fT<|dh #[]),(I Q 0 0)]/\BU 222 [Value.nilFunc]/\BU 228 [(bX .i64 0),(bX .i64 0),(bX .i64 0)]/\BU 234 [(fT<|dh #[]),(gI aC),(gI aC),(gI aC),(bX .i64 0),(bX .i64 0),(bX .i64 0)]/\BU 238 [(bX .i64 0),(I Q 0 0),(fT<|dh #[]),(I Q 0 0),(bX .i64 0)]/\BU 240 [(fT<|dh #[]),(bX .i64 0),(bX .i64 0),(gI aC)]/\BU 27 [(I Q 0 0),(I Q 0 0),(I Q 0 0),(I Q 0 0),(I Q 0 0),(bX .i64 0)]/\BU 287 [Value.nilFunc]/\BU 288 [Value.nilFunc]/\BU 290 [(I Q 0 0)]/\BU 3 [(bX .i64 0)]/\BU 301 [(uy Q),(I Q 0 0)]/\BU 303 [(bX .i64 0),(bX .i64 0),(bX .i32 0),(gI aC)]/\BU 32 [(I Q 0 0),(I Q 0 0),(I Q 0 0),(bX .i64 0),(bX .i64 0),(bX .i64 0)]/\BU 331 [(bX .i32 0),(bX .i32 0)]/\BU 34 [(I Q 0 0)]/\BU 353 [(bX .u8 0),(bX .u8 0)]/\BU 36 [(I Q 0 0),(I Q 0 0)]/\BU 38 [(I Q 0 0),(I Q 0 0),(I Q 0 0),(bX .i64 0),(bX .i64 0),(bX .i64 0),(I Q 0 0),(I Q 0 0),(I Q 0 0)]/\BU 43 [(I Q 0 0),(I Q 0 0)]/\BU 44 [(uy Q)]/\BU 68 [(I Q 0 0),(gI aC),(I Q 0 0),(bX .i64 0)]/\BU 76 [(bX .i64 0),(I Q 0 0)]/\BU 86 [(bX .i64 0),(bX .i64 0)]/\LX [119,119] 121 3/\LX [123,123] 161 2/\LX [124,124] 22 1/\LX [168,168] 234 7/\LX [169,169] 238 5/\LX [178,178] 240 4/\LX [184,184] 275 2/\LX [207,207] 209 4/\LX [215,215] 221 5/\LX [219,219] 331 2/\LX [22,22] 3 1/\LX [24,24] 9 1/\LX [25,25] 119 1/\LX [260,260] 228 3/\LX [271,271] 5 1/\LX [28,28] 194 7/\LX [29,29] 200 5/\LX [290,290] 292 2/\LX [30,30] 186 5/\LX [33,33] 202 4/\LX [34,34] 4 1/\LX [65,65] 86 2/\JG 119 1 121 [(bX .i64 0),(bX .i64 0),(bX .i64 0)] 3/\JG 123 1 161 [(bX .i64 0),(bX .i64 0)] 2/\sh3 124 1 22 [(I Q 0 0)]/\JG 168 1 234 [(fT<|dh #[]),(gI aC),(gI aC),(gI aC),(bX .i64 0),(bX .i64 0),(bX .i64 0)] 7/\JG 169 1 238 [(bX .i64 0),(I Q 0 0),(fT<|dh #[]),(I Q 0 0),(bX .i64 0)] 5/\JG 178 0 240 [(fT<|dh #[]),(bX .i64 0),(bX .i64 0),(gI aC)] 4/\JG 178 1 240 [(fT<|dh #[]),(bX .i64 0),(bX .i64 0),(gI aC)] 4/\JG 184 1 275 [(bX .i64 0),(bX .i64 0)] 2/\JG 207 1 209 [(bX .i64 0),(bX .i64 0),(bX .i64 0),(bX .i64 0)] 4/\JG 215 1 221 [(bX .i64 0),(bX .i64 0),(bX .i64 0),(fT<|dh #[]),(I Q 0 0)] 5/\JG 219 0 331 [(bX .i32 0),(bX .i32 0)] 2/\JG 219 1 331 [(bX .i32 0),(bX .i32 0)] 2/\JG 22 0 3 [(bX .i64 0)] 1/\sh3 22 1 3 [(bX .i64 0)]/\sh3 24 1 9 [(fT<|dh #[])]/\sh3 25 1 119 [(I Q 0 0)]/\JG 260 1 228 [(bX .i64 0),(bX .i64 0),(bX .i64 0)] 3/\sh3 271 1 5 [(bX .u8 0)]/\JG 271 2 5 [(bX .u8 0)] 1/\JG 271 3 5 [(bX .u8 0)] 1/\JG 271 4 5 [(bX .u8 0)] 1/\JG 28 0 194 [(fT<|dh #[]),(gI aC),(gI aC),(gI aC),(bX .i64 0),(bX .i64 0),(bX .i64 0)] 7/\JG 28 1 194 [(fT<|dh #[]),(gI aC),(gI aC),(gI aC),(bX .i64 0),(bX .i64 0),(bX .i64 0)] 7/\JG 29 0 200 [(bX .i64 0),(I Q 0 0),(fT<|dh #[]),(I Q 0 0),(bX .i64 0)] 5/\JG 29 1 200 [(bX .i64 0),(I Q 0 0),(fT<|dh #[]),(I Q 0 0),(bX .i64 0)] 5/\JG 290 1 292 [(bX .i64 0),(bX .i64 0)] 2/\JG 30 1 186 [(bX .i64 0),(bX .i64 0),(bX .i64 0),(fT<|dh #[]),(I Q 0 0)] 5/\JG 33 1 202 [(fT<|dh #[]),(bX .i64 0),(bX .i64 0),(gI aC)] 4/\sh3 34 1 4 [(gI aC)]/\JG 65 1 86 [(bX .i64 0),(bX .i64 0)] 2/\D8 114 [(0,6),(6,1),(7,1)] [(I Q 0 0),(I Q 0 0),(I Q 0 0),(I Q 0 0),(I Q 0 0),(bX .i64 0),(I Q 0 0),(I Q 0 0)]/\D8 121 [(0,1),(1,1),(2,1)] [(bX .i64 0),(bX .i64 0),(bX .i64 0)]/\D8 128 [(0,1),(1,1),(2,1),(3,1)] [(I Q 0 0),(I Q 0 0),(WZ Q),(WZ Q)]/\sh5 133 []/\D8 156 [(0,4),(4,1),(5,1),(6,1)] [(I Q 0 0),(gI aC),(I Q 0 0),(bX .i64 0),(WZ Q),(WZ Q),(bX .i64 0)]/\D8 161 [(0,1),(1,1)] [(bX .i64 0),(bX .i64 0)]/\D8 163 [(0,1),(1,1)] [(bX .i64 0),(bX .i64 0)]/\D8 171 [(0,1),(1,1)] [(I Q 0 0),(I Q 0 0)]/\D8 173 [(0,1),(1,1)] [(bX .i64 0),(bX .i64 0)]/\D8 180 [(0,1)] [(I Q 0 0)]/\D8 186 [(0,1),(1,1),(2,1),(3,1),(4,1)] [(bX .i64 0),(bX .i64 0),(bX .i64 0),(fT<|dh #[]),(I Q 0 0)]/\D8 194 [(0,1),(1,1),(2,1),(3,1),(4,1),(5,1),(6,1)] [(fT<|dh #[]),(gI aC),(gI aC),(gI aC),(bX .i64 0),(bX .i64 0),(bX .i64 0)]/\D8 200 [(0,1),(1,1),(2,1),(3,1),(4,1)] [(bX .i64 0),(I Q 0 0),(fT<|dh #[]),(I Q 0 0),(bX .i64 0)]/\D8 202 [(0,1),(1,1),(2,1),(3,1)] [(fT<|dh #[]),(bX .i64 0),(bX .i64 0),(gI aC)]/\D8 209 [(0,1),(1,3)] [(bX .i64 0),(bX .i64 0),(bX .i64 0),(bX .i64 0)]/\D8 221 [(0,1),(1,1),(2,1),(3,1),(4,1)] [(bX .i64 0),(bX .i64 0),(bX .i64 0),(fT<|dh #[]),(I Q 0 0)]/\D8 226 [(0,1),(1,1),(2,2),(4,2)] [Value.nilFunc,Value.nilFunc,(I Q 0 0),(I Q 0 0),(bX .i64 0),(bX .i64 0)]/\D8 228 [(0,1),(1,1),(2,1)] [(bX .i64 0),(bX .i64 0),(bX .i64 0)]/\D8 238 [(0,1),(1,1),(2,1),(3,1),(4,1)] [(bX .i64 0),(I Q 0 0),(fT<|dh #[]),(I Q 0 0),(bX .i64 0)]/\D8 240 [(0,1),(1,1),(2,1),(3,1)] [(fT<|dh #[]),(bX .i64 0),(bX .i64 0),(gI aC)]/\D8 27 [(0,1),(1,1),(2,1),(3,1),(4,1),(5,1)] [(I Q 0 0),(I Q 0 0),(I Q 0 0),(I Q 0 0),(I Q 0 0),(bX .i64 0)]/\D8 275 [(0,1),(1,1)] [(bX .i64 0),(bX .i64 0)]/\D8 292 [(0,1),(1,1)] [(bX .i64 0),(bX .i64 0)]/\D8 303 [(0,1),(1,1),(2,1),(3,1)] [(bX .i64 0),(bX .i64 0),(bX .i32 0),(gI aC)]/\D8 32 [(0,1),(1,1),(2,1),(3,1),(4,1),(5,1)] [(I Q 0 0),(I Q 0 0),(I Q 0 0),(bX .i64 0),(bX .i64 0),(bX .i64 0)]/\D8 331 [(0,1),(1,1)] [(bX .i32 0),(bX .i32 0)]/\D8 36 [(0,1),(1,1)] [(I Q 0 0),(I Q 0 0)]/\D8 38 [(0,6),(6,1),(7,2)] [(I Q 0 0),(I Q 0 0),(I Q 0 0),(bX .i64 0),(bX .i64 0),(bX .i64 0),(I Q 0 0),(I Q 0 0),(I Q 0 0)]/\D8 43 [(0,1),(1,1)] [(I Q 0 0),(I Q 0 0)]/\D8 68 [(0,1),(1,1),(2,1),(3,1)] [(I Q 0 0),(gI aC),(I Q 0 0),(bX .i64 0)]/\D8 76 [(0,1),(1,1)] [(bX .i64 0),(I Q 0 0)]/\D8 86 [(0,1),(1,1)] [(bX .i64 0),(bX .i64 0)]/\D8 88 [(0,1),(1,2)] [(bX .i64 0),(bX .i64 0),(bX .i64 0)]/\D8 92 [(0,1),(1,1),(2,1),(3,1),(4,4),(8,1),(9,1),(10,1),(11,1)] [(uy Q),(uy Q),(I Q 0 0),(bX .i64 0),(I Q 0 0),(gI aC),(I Q 0 0),(bX .i64 0),(bX .i64 0),(bX .i64 0),(bX .i64 0),(gI aC)]/\uN 104 1/\uN 105 1/\uN 119 1/\uN 121 3/\uN 123 1/\uN 124 1/\uN 125 1/\uN 126 1/\uN 151 1/\uN 154 1/\uN 161 2/\uN 163 2/\uN 168 1/\uN 169 1/\uN 171 2/\uN 173 2/\uN 178 1/\uN 180 1/\uN 184 1/\uN 186 5/\uN 194 7/\uN 200 5/\uN 207 1/\uN 209 4/\uN 21 1/\uN 215 1/\uN 219 1/\uN 22 1/\uN 221 5/\uN 222 1/\uN 223 1/\uN 228 3/\uN 23 1/\uN 234 7/\uN 238 5/\uN 24 1/\uN 240 4/\uN 25 1/\uN 265 1/\uN 27 6/\uN 271 1/\uN 28 1/\uN 287 1/\uN 288 1/\uN 29 1/\uN 290 1/\uN 299 1/\uN 3 1/\uN 30 1/\uN 32 6/\uN 331 2/\uN 34 1/\uN 353 2/\uN 36 2/\uN 4 1/\uN 43 2/\uN 44 1/\uN 45 1/\uN 5 1/\uN 58 1/\uN 65 1/\uN 68 4/\uN 69 1/\uN 76 2/\uN 86 2/\uN 9 1/\sh7 [271,9] 1/\sh7 [51,51] 1/\sh8 [22] [(bX .i64 0)]/\iY 114 0/\Mx 114 1 6/\Mx 114 2 7/\iY 121 0/\iY 121 1/\iY 121 2/\iY 128 0/\iY 128 1/\iY 128 2/\iY 128 3/\iY 156 0/\Mx 156 1 4/\Mx 156 2 5/\Mx 156 3 6/\iY 161 0/\iY 171 0/\iY 171 1/\iY 173 0/\iY 173 1/\iY 180 0/\iY 186 0/\iY 186 1/\iY 186 2/\iY 186 3/\iY 186 4/\iY 194 0/\iY 194 1/\iY 194 2/\iY 194 3/\iY 194 4/\iY 194 5/\iY 194 6/\iY 200 0/\iY 200 1/\iY 200 2/\iY 202 0/\iY 209 0/\iY 209 1/\iY 221 0/\iY 221 1/\iY 221 2/\iY 221 3/\iY 221 4/\iY 226 0/\iY 226 1/\iY 226 2/\Mx 226 3 4/\iY 234 0/\iY 234 1/\iY 234 2/\iY 234 3/\iY 234 4/\iY 234 5/\iY 234 6/\iY 238 0/\iY 238 1/\iY 238 2/\iY 240 0/\iY 240 1/\iY 27 0/\iY 27 1/\iY 27 2/\iY 27 3/\iY 27 4/\iY 27 5/\iY 275 0/\iY 275 1/\iY 292 0/\iY 292 1/\iY 301 0/\iY 301 1/\iY 303 1/\iY 303 2/\iY 303 3/\iY 32 0/\iY 32 1/\iY 32 2/\iY 32 3/\iY 32 4/\iY 32 5/\iY 331 0/\iY 331 1/\iY 353 0/\iY 353 1/\iY 36 0/\iY 36 1/\iY 43 0/\iY 43 1/\iY 68 0/\iY 68 1/\iY 68 3/\iY 76 0/\iY 76 1/\iY 86 0/\iY 86 1/\iY 92 0/\iY 92 1/\iY 92 2/\iY 92 3/\iY 92 4/\Mx 92 5 8/\Mx 92 6 9/\Mx 92 7 10/\Mx 92 8 11/\ahz 221 0 Q/\ahz 221 1 Q/\ahz 228 0 Q/\yD 119 3/\yD 123 2/\yD 124 1/\yD 168 7/\yD 169 5/\yD 178 4/\yD 184 2/\yD 206 1/\yD 207 4/\yD 215 5/\yD 218 2/\yD 219 2/\yD 22 1/\yD 24 1/\yD 25 1/\yD 260 3/\yD 271 1/\yD 28 7/\yD 29 5/\yD 290 2/\yD 30 5/\yD 33 4/\yD 34 1/\ahA 351 256 1/\ahA 354 16 2/\yD 51 1/\ahA 57 2 1/\yD 65 2/\alP 9/\lu 104 Q/\lu 105 Q/\lu 119 Q/\lu 121 (D 3)/\lu 123 Q/\lu 124 Q/\lu 125 Q/\lu 126 Q/\lu 151 Q/\lu 154 Q/\lu 161 (D 2)/\lu 163 (D 2)/\lu 168 Q/\lu 169 Q/\lu 171 (D 2)/\lu 173 (D 2)/\lu 178 Q/\lu 180 (D 1)/\lu 184 Q/\lu 186 (D 5)/\lu 194 (D 7)/\lu 200 (D 5)/\lu 207 Q/\lu 209 (D 4)/\lu 21 Q/\lu 215 Q/\lu 219 Q/\lu 22 Q/\lu 221 (D 5)/\lu 222 Q/\lu 223 Q/\lu 228 (D 3)/\lu 23 Q/\lu 234 (D 7)/\lu 238 (D 5)/\lu 24 Q/\lu 240 (D 4)/\lu 25 Q/\lu 265 Q/\lu 27 (D 6)/\lu 271 Q/\lu 28 Q/\lu 287 Q/\lu 288 Q/\lu 29 Q/\lu 290 Q/\lu 299 Q/\lu 3 Q/\lu 30 Q/\lu 32 (D 6)/\lu 331 (D 2)/\lu 34 Q/\lu 353 (D 2)/\lu 36 (D 2)/\lu 4 Q/\lu 43 (D 2)/\lu 44 Q/\lu 45 Q/\lu 5 Q/\lu 58 Q/\lu 65 Q/\lu 68 (D 4)/\lu 69 Q/\lu 76 (D 2)/\lu 86 (D 2)/\lu 9 Q/\TW 119 121 [(bX .i64 0),(bX .i64 0),(bX .i64 0)]/\TW 124 22 [(I Q 0 0)]/\TW 206 207 [(I Q 0 0)]/\TW 22 3 [(bX .i64 0)]/\TW 271 5 [(bX .u8 0)]/\TW 34 4 [(gI aC)]/\TW 51 105 [(bX .u64 0)]/\Yh 169 5/\Yh 219 2/\Yh 22 1/\Yh 290 2/\Yh 51 1/\Yh 65 2/\alR 9/\m_ 104 1/\m_ 105 1/\m_ 119 1/\m_ 121 3/\m_ 123 1/\m_ 124 1/\m_ 133 0/\m_ 161 2/\m_ 163 2/\m_ 168 1/\m_ 169 1/\m_ 171 2/\m_ 173 2/\m_ 180 1/\m_ 184 1/\m_ 186 5/\m_ 194 7/\m_ 200 5/\m_ 207 1/\m_ 209 4/\m_ 21 1/\m_ 215 1/\m_ 22 1/\m_ 221 5/\m_ 222 1/\m_ 228 3/\m_ 234 7/\m_ 238 5/\m_ 24 1/\m_ 240 4/\m_ 25 1/\m_ 27 6/\m_ 271 1/\m_ 28 1/\m_ 287 1/\m_ 288 1/\m_ 29 1/\m_ 290 1/\m_ 299 1/\m_ 3 1/\m_ 303 4/\m_ 32 6/\m_ 331 2/\m_ 34 1/\m_ 353 2/\m_ 36 2/\m_ 38 9/\m_ 4 1/\m_ 43 2/\m_ 44 1/\m_ 65 1/\m_ 68 4/\m_ 69 1/\m_ 76 2/\m_ 86 2/\m_ 9 1:=by
 repeat' apply ik
 all_goals((repeat intro _);kernel_rfl)
def TFq:type_of%TF:=TF
def TDq:type_of%TD:=TD
section steps
variable{g:Nat}{q l:C Nat}{c:Code}{sl:Fr}{u:Rs}{H:R}{rs:C ResultVar}{args:C Z}
def tl{K:Out->Prop}(h:A K)(hc:sub (BG Pg g) q=c:=by conv=>lhs;whnf)(he:∀K,az Pg X (jv Pg g) (QY Pg g) (BG Pg g) 9999 (.co c<|zz q []) [] sl u H K=A K:=by intro K;conv=>lhs;simp(config:={maxSteps:=4000000}) (disch:=decide)only[↓TP,↓TQ,↓TN,↓zy,↓ED,EE,TFq,↓TDq,↓reduceIte,cB,Nat.reduceBEq])(hk:QS (jv Pg g) (QY Pg g) sl=f:=by kernel_rfl):gK Pg X (sub (BG Pg g) q) (SH Pg g sl u H) K:=
 goF (n:=9999) (by rw[he];exact h) hc hk
def tm{K:Out->Prop}(h:vn)(hc:sub (BG Pg g) q=c:=by conv=>lhs;whnf)(he:∀K,az Pg X (jv Pg g) (QY Pg g) (BG Pg g) 9999 (.co c<|zz q []) [] sl u H K=A K:=by intro K;conv=>lhs;simp(config:={maxSteps:=4000000}) (disch:=decide)only[↓TP,↓TQ,↓TN,↓zy,↓ED,EE,TFq,↓TDq,↓reduceIte,cB,Nat.reduceBEq])(hk:QS (jv Pg g) (QY Pg g) sl=f:=by kernel_rfl)(ay:vn->A K:=by intro h;(repeat(first|(simp only[PP,Nat.reduceBEq,gN G.wf])|(refine PU.b1 O ?_)|(refine PU.b2 O ?_)|(refine PU.b3 O ?_)|(refine PU.b4 O ?_)|(refine PU.b5 O ?_)|(refine PU.b6 O ?_)|(refine PU.b7 O ?_)|(refine PU.b8 O ?_)|(refine PU.b9 O ?_)|(refine G.pz ?_)|(refine G.iI ?_)|(refine G.QN ?_)|(refine G.VO ?_)|(refine iD (by simp only[d_,fP<|Ext.refl<|hN _];rfl) ?_)));exact h):gK Pg X (sub (BG Pg g) q) (SH Pg g sl u H) K:=tl (ay h) hc he hk
def tp{K:Out->Prop}(h:vn)(hc:sub (BG Pg g) q=c:=by conv=>lhs;whnf)(he:∀K,az Pg X (jv Pg g) (QY Pg g) (BG Pg g) 9999 (.co c<|zz q []) [] sl u H K=A K:=by intro K;conv=>lhs;simp(config:={maxSteps:=4000000}) (disch:=decide)only[↓TP,↓TQ,↓TN,↓zy,↓ED,EE,TFq,↓TDq,↓reduceIte,cB,Nat.reduceBEq])(hk:QS (jv Pg g) (QY Pg g) sl=f:=by kernel_rfl)(ay:vn->A K:=by intro h;simp only[PP,Nat.reduceBEq];exact h):gK Pg X (sub (BG Pg g) q) (SH Pg g sl u H) K:=tl (ay h) hc he hk
def ce(l:C Nat)(h:gK Pg X (sub (BG Pg g) []) (SH Pg g sl [] H)<|jL Pg rs K)(hs:mkS l args=sl:=by conv=>lhs;simp only[EV,EE,TFq,↓reduceIte,cB,Nat.reduceBEq])(y:rsG Pg g=rs:=by conv=>lhs;whnf)(ho:X.o g args H=Q:=by kernel_rfl)(hq:okF Pg g l (len args)=f:=by kernel_rfl):aO Pg X g args H K:=ceF h hs y ho hq
def rr{A:(Z->R->Prop)->Prop}(h:A K)(he:∀K:Z->R->Prop,Mr Pg rs sl u H (λvs=>K (sN vs) H)=A K:=by intro K;conv=>lhs;simp only[EV,EE,TFq,↓reduceIte,cB,Nat.reduceBEq])(hk:QS (jv Pg g) (QY Pg g) sl=f:=by kernel_rfl):jL Pg rs K (.ret<|SH Pg g sl u H):=rrF (by rw[he];exact h) hk
def rn{A:(Z->R->Prop)->Prop}(h:A K)(he:∀K:Z->R->Prop,Mr Pg rs sl u H (λvs=>K (sN vs) H)=A K:=by intro K;conv=>lhs;simp only[EV,EE,TFq,↓reduceIte,cB,Nat.reduceBEq])(hk:QS (jv Pg g) (QY Pg g) sl=f:=by kernel_rfl):jL Pg rs K (.norm<|SH Pg g sl u H):=rnF (by rw[he];exact h) hk
def q_{A ae:Prop}{d:Decidable p}(W:p->A)(J:¬p->vn)(ay:xD (D<|decide p) A vn->ae:=by intro h;refine tp ?_;exact h):ae:=ay<|aT W J
def kX{A ae:Prop}{d:Decidable p}(J:¬p->vn)(W:p->A)(ay:xD (D<|decide p) A vn->ae:=by intro h;refine tp ?_;exact h):ae:=ay<|aT W J
def aj4{A ae:Prop}{d:Decidable p}(W:¬p->A)(J:p->vn)(ay:xD (D<|!decide p) A vn->ae:=by intro h;refine tp ?_;exact h):ae:=ay<|dN W J
def alS{A ae:Prop}(W:b=f->A)(J:b=aC->vn)(ay:xD (D b) A vn->ae:=by intro h;refine tp ?_;exact h):ae:=ay<|gF W J
def Yi{A ae:Prop}{d:Decidable p}(W:p->A)(J:¬p->vn)(ay:xD (D<|decide p) A vn->ae:=by intro h;refine tm ?_;exact h):ae:=ay<|aT W J
def abG{A ae:Prop}{d:Decidable p}(J:¬p->vn)(W:p->A)(ay:xD (D<|decide p) A vn->ae:=by intro h;refine tm ?_;exact h):ae:=ay<|aT W J
def aj5{A ae:Prop}{d:Decidable p}(W:¬p->A)(J:p->vn)(ay:xD (D<|!decide p) A vn->ae:=by intro h;refine tm ?_;exact h):ae:=ay<|dN W J
def aj6{A ae:Prop}(W:b=f->A)(J:b=aC->vn)(ay:xD (D b) A vn->ae:=by intro h;refine tm ?_;exact h):ae:=ay<|gF W J
def jS(l:C Nat)(h:vn)(hs:mkS l args=sl:=by conv=>lhs;simp only[EV,EE,TFq,↓reduceIte,cB,Nat.reduceBEq])(y:rsG Pg g=rs:=by conv=>lhs;whnf)(ho:X.o g args H=Q:=by kernel_rfl)(hq:okF Pg g l (len args)=f:=by kernel_rfl)(ay:vn->gK Pg X (sub (BG Pg g) []) (SH Pg g sl [] H) (jL Pg rs K):=by intro h;refine tl ?_;exact h):aO Pg X g args H K:=ceF (ay h) hs y ho hq
def Fh(l:C Nat)(h:vn)(hs:mkS l args=sl:=by conv=>lhs;simp only[EV,EE,TFq,↓reduceIte,cB,Nat.reduceBEq])(y:rsG Pg g=rs:=by conv=>lhs;whnf)(ho:X.o g args H=Q:=by kernel_rfl)(hq:okF Pg g l (len args)=f:=by kernel_rfl)(ay:vn->gK Pg X (sub (BG Pg g) []) (SH Pg g sl [] H) (jL Pg rs K):=by intro h;refine tp ?_;exact h):aO Pg X g args H K:=ceF (ay h) hs y ho hq
def cem(l:C Nat)(h:vn)(hs:mkS l args=sl:=by conv=>lhs;simp only[EV,EE,TFq,↓reduceIte,cB,Nat.reduceBEq])(y:rsG Pg g=rs:=by conv=>lhs;whnf)(ho:X.o g args H=Q:=by kernel_rfl)(hq:okF Pg g l (len args)=f:=by kernel_rfl)(ay:vn->gK Pg X (sub (BG Pg g) []) (SH Pg g sl [] H) (jL Pg rs K):=by intro h;refine tm ?_;exact h):aO Pg X g args H K:=ceF (ay h) hs y ho hq
end steps
end Go.Proofs.Lu
