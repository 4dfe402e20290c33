/-
  Part 14 of the proof. No condition.
-/
import Derived.Test.YtdkcdlnfeodaaaaGreatDoorR13
set_option linter.unusedVariables false
set_option linter.unusedSimpArgs false
set_option maxRecDepth 100000
set_option maxHeartbeats 4000000
noncomputable section
namespace Go.Proofs.Lu
open Go.Ae Go.Ae.M Go.Ae.AM
variable{T:Nat->ByteArray}{K:Nat->Int}{N' nd zB:List PN}{R' Uf rl:List PR}{ar args cs gl ks l:List Value}{L L' L2 gb:List cz}{g v w x0 x6:Value}{H H' H0 H1 H2:ag}{N b i j k m n p p' p1 p2 q r rb rz:Nat}{t t':ByteArray}{y:Nat->PR}{x:PN}{F':Nat->Prop}{be bs mk:List Bool}{rg:Rs}{a ea na ra ta:Option Addr}{e tok:Bool}{c kz:Int}
section
def VQ(F:Nat->Prop)(H:ag)(l:List Value)(x:PN):Prop:=∃(a:Option Addr)(c:Nat)(t:ByteArray)(sa:Option Addr)(sn sc:Nat)(at':Int),l=[vi x.1,.slice a x.2.1.length c,.string t,.slice sa sn sc,vi at']/\jT F 3 H a x.2.1.length 1 (fG x.2.1)/\(x.1=5->t=x.2.2)
theorem VQ.st{F:Nat->Prop}{S:List Nat}(h:VQ F H l x)(hx:qU S H H')(hS:∀q∈S,¬F q):VQ F H' l x:=let⟨a,c,t,sa,sn,sc,at',h1,h2,h3⟩:=h;⟨a,c,t,sa,sn,sc,at',h1,h2.stay hx λq hq=>.inl<|hS q hq,h3⟩
theorem VQ.by{F:Nat->Prop}(h:VQ F H l x)(hF:∀r,r<H.next->F r->F' r):VQ F' H l x:=let⟨a,c,t,sa,sn,sc,at',h1,h2,h3⟩:=h;⟨a,c,t,sa,sn,sc,at',h1,h2.by hF,h3⟩
def RuY(l:List Value)(y:PR):Prop:=∃(f w:Bool)(ch at':Int),l=[.string y.1,.bool y.2.1,.bool f,.bool w,vi ch,vn y.2.2,vi at']
section
variable(n:Nat)(K:Nat->Int)(T:Nat->ByteArray)
def YG(F:Nat->Prop)(H:ag)(g:Value)(p:Nat)(nd:List PN)(rl:List PR):Prop:=∃(ra:Option Addr)(rc:Nat)(rcs:List Value)(na:Option Addr)(nc:Nat)(eG:List Value)(ta:Option Addr)(tc:Nat),g=.agg ⟨[.slice ra rl.length rc,.slice na nd.length nc,.slice ta n tc,vn p,vi 0,vi 0]⟩/\
 jT F 87 H ra rl.length 7 rcs/\(∀i y,rl[i]?=some y->RuY (El rcs 7 i) y)/\rl.length<=120/\jT F 108 H na nd.length 5 eG/\(∀i x,nd[i]?=some x->VQ F H (El eG 5 i) x)/\nd.length<=4000/\w9 F H (.slice ta n tc) n K T/\p<n/\n<=20001
end
variable{F:Nat->Prop}
theorem w9.st{S:List Nat}(h:w9 F H v n K T)(hx:qU S H H')(hS:∀q∈S,¬F q):w9 F H' v n K T:=let⟨a,c,cs,h1,h2,h3⟩:=h;⟨a,c,cs,h1,h2.stay hx λq hq=>.inl<|hS q hq,λi hi=>(h3 i hi).st hx λq hq=>.inl<|hS q hq⟩
theorem w9.by(h:w9 F H v n K T)(hF:∀r,r<H.next->F r->F' r):w9 F' H v n K T:=let⟨a,c,cs,h1,h2,h3⟩:=h;⟨a,c,cs,h1,h2.by hF,λi hi=>let⟨a,e,t',x,g1,g2,g3,g4⟩:=h3 i hi;⟨a,e,t',x,g1,g2,g3,g4.by hF⟩⟩
theorem YG.st{S:List Nat}(h:YG n K T F H g p nd rl)(hx:qU S H H')(hS:∀q∈S,¬F q):YG n K T F H' g p nd rl:=by
 obtain⟨ra,rc,rcs,na,nc,eG,ta,tc,h1,h2,h3,h4,h5,h6,h7,h8,h9⟩:=h;exact⟨ra,rc,rcs,na,nc,eG,ta,tc,h1,h2.stay hx λq hq=>.inl<|hS q hq,h3,h4,h5.stay hx λq hq=>.inl<|hS q hq,λi x hi=>(h6 i x hi).st hx hS,h7,h8.st hx hS,h9⟩
theorem YG.ex(h:YG n K T F H g p nd rl)(hx:Ext H H'):YG n K T F H' g p nd rl:=h.st hx λq h=>nomatch h
theorem YG.by(h:YG n K T F H g p nd rl)(hF:∀r,r<H.next->F r->F' r):YG n K T F' H g p nd rl:=by
 obtain⟨ra,rc,rcs,na,nc,eG,ta,tc,h1,h2,h3,h4,h5,h6,h7,h8,h9⟩:=h;exact⟨ra,rc,rcs,na,nc,eG,ta,tc,h1,h2.by hF,h3,h4,h5.by hF,λi x hi=>(h6 i x hi).by hF,h7,h8.by hF,h9⟩
theorem YG.bd(h:YG n K T F H g p nd rl):p<n/\n<=20001:=by
 obtain⟨ra,rc,rcs,na,nc,eG,ta,tc,h1,h2,h3,h4,h5,h6,h7,h8,h9⟩:=h;exact h9
theorem YG.to(h:YG n K T F H g p nd rl)(hq:q<n)(e:g=.agg ⟨l⟩):YG n K T F H (.agg ⟨l.set 3<|vn q⟩) q nd rl:=by
 obtain⟨ra,rc,rcs,na,nc,eG,ta,tc,h1,h2,h3,h4,h5,h6,h7,h8,h9⟩:=h;rw[e]at h1;cases h1;exact⟨ra,rc,rcs,na,nc,eG,ta,tc,rfl,h2,h3,h4,h5,h6,h7,h8,hq,h9.2⟩
abbrev Nw(F:Nat->Prop)(b:Nat):Nat->Prop:=λr=>F r\/b<=r
theorem zA(hw:Wf H)(hg:YG n K T F H g p nd rl):az Pg X 34 [g] H (Q1 (λv _=>v=vi (K p)) H):=by
 obtain⟨ra,rc,rcs,na,nc,eG,ta,tc,rfl,h2,h3,h4,h5,h6,h7,⟨a,c,cs,e,h8,h8'⟩,h9⟩:=hg;cases e;have hS:=SH.refl hw;refine ce [0,1,2] ?_;refine tl ?_;refine hS.box rfl λH1 rb hS=>?_;refine hS.aY ?_;refine hS.dQ ?_;refine hS.dQ ?_;obtain⟨r,o,e1,hr,hcl,_⟩:=h8.1.idx (c:=tc) aa h9.1;obtain⟨at',e,t,x,hk,_⟩:=h8' p h9.1;refine PU.of e1 ?_;refine aF ?_
 have h0:cs[p*5+0]?=some (vi<|K p):=by
  have:=bW (λl=>l[0]?) hk;simp only[j4]at this;simpa using this
 refine hS.E8 (hcl 0 _ aa h0) hr ?_;refine rr ?_;exact⟨rfl,hS.ext⟩
theorem aad(hw:Wf H)(hg:YG n K T F H g p nd rl)(hl:VQ F H l x)(hn:nd.length<4000):az Pg X 127 [g,.agg ⟨l⟩] H (Q1 (λv H'=>∃g',v=.tuple ⟨[g',vn nd.length]⟩/\YG n K T (Nw F H.next) H' g' p (nd++[x]) rl) H):=by
 obtain⟨ra,rc,rcs,na,nc,eG,ta,tc,rfl,h2,h3,h4,h5,h6,h7,h8,h9⟩:=hg;obtain⟨ka,kc,t,sa,sn,sc,at',rfl,k2,k3⟩:=id hl;have hS:=SH.refl hw;refine ce [0,1,2,3,4,5] ?_;refine tl ?_;refine hS.box rfl λH1 rb hS=>?_;refine hS.box rfl λH2 rx hS=>?_;refine hS.iI λH3 rz hS=>?_
 repeat(first|(refine hS.aY ?_)|(refine hS.dQ ?_))
 refine ah (λc=>absurd c aa) λ_=>?_;refine hS.aeU λH4 a hS hc1=>?_;refine hS.kI ?_;refine hS.aY ?_;refine hS.aeV (n:=nd.length) (xs:=eG) (Al (show Fl (hN<|hM H3 H4) na nd.length 5 eG from((h5.ex hS.ext).1:Fl (hM H3 H4) na nd.length 5 eG)) aa) h5.1.1 aa λv2 H5 g2 hg2 hS hc2=>?_;have hS:=hS.perm<|au (l₂:=[_,_,_]);simp only[a_,bB]at hS;refine hS.nN ?_;refine hS.aY ?_;refine hS.U8 rfl rfl rfl aa λH6 ry hS hc3=>?_;have hS:=hS.perm (L':=(ry,108,[vi x.1,.slice ka x.2.1.length kc,.string t,.slice sa sn sc,vi at'])::(g2++[(rz,34,[.slice none 0 0,.slice none 0 0,.slice none 0 0,vi 0,vi 0,vi 0]),(rx,108,[vi x.1,.slice ka x.2.1.length kc,.string t,.slice sa sn sc,vi at']),(rb,34,[.slice ra rl.length rc,.slice na nd.length nc,.slice ta n tc,vn p,vi 0,vi 0])]))<|(au (l₁:=[_,_,_]) (l₂:=g2)).cons _;refine hg2.aaa hS aa rfl rfl (by rw[h5.1.1];omega) λv3 H7 g3 hg3 hS hc4=>?_;have hS:=hS.perm<|au (l₂:=[_,_,_]);simp only[a_,bB]at hS;obtain⟨va,vl,vc,rfl⟩:=hg3.sl
 have hvl:vl=nd.length+1:=by
  obtain⟨_,_,_,e,h,_⟩:=hg3.Nn (F:=TT) (hS.perm<|au (l₁:=[_,_,_])) λ_ _=>trivial;cases e;rw[ay,h5.1.1]at h;simp at h;omega
 subst hvl;have n1:=hS.nq 1 2 rfl rfl aa;have n2:=hS.nq 0 2 rfl rfl aa;refine hS.qJ λHn hS=>?_;refine splitK (λK hK=>?_) ?_
 .simp only[hc1,hc2,hc3,cB,dn];rcases hc4 with e|e<;>rw[e]<;>apply q_ (a:=rx) (b:=rb) n1 (by intros;rfl) (by kernel_rfl) (by kernel_rfl) hK
 repeat(first|(refine hS.aY ?_)|(refine hS.kI ?_)|(refine hS.nN ?_))
 rw[nM aa aa];refine aF ?_;rw[show((nd.length+1:Nat):Int)-1=((nd.length:Nat):Int) by omega];refine hS.qJ λHn hS=>?_;refine splitK (λK hK=>?_) ?_
 .simp only[cB,dn];apply q_ (a:=rz) (b:=rb) n2 (by intros;rfl) (by kernel_rfl) (by kernel_rfl) hK
 have hS:=hS.to (cs':=[.slice ra rl.length rc,.slice va (nd.length+1) vc,.slice ta n tc,vn p,vi 0,vi 0]) rfl;have hx:=hS.ext;obtain⟨_,_,_,e,_,hf⟩:=hg3.Nn (F:=Nw F H.next) (hS.perm<|au (l₁:=[_,_,_])) λe he=>.inr<|hS.zN<|bD [_,_,_] he;cases e;have hE:=ze (es:=5) (n:=nd.length) h5.1.1 (xs:=[vi x.1,.slice ka x.2.1.length kc,.string t,.slice sa sn sc,vi at']) rfl;have nw:∀{H':ag} r,r<H'.next->F r->Nw F H.next r:=λr _ h=>.inl h
 have hll:(nd++[x]).length=nd.length+1:=by rw[ay];rfl
 refine rr ?_;refine hS.CU 0 rfl (aj 6) ?_;refine⟨⟨_,rfl,ra,rc,rcs,va,vc,_,ta,tc,by rw[hll];rfl,(h2.ex hx).by nw,h3,h4,by rw[hll];exact hf,λi y hi=>?_,aa,(h8.st hx λq h=>nomatch h).by nw,h9⟩,hx⟩;rcases aN i nd.length with h|h
 .rw[aP h]at hi;rw[show El (eG++_) 5 i=_ from hE.1 i h];exact((h6 i y hi).st hx λq h=>nomatch h).by nw
 .have hi2:=(aL.1 hi).1;obtain rfl:i=nd.length:=by omega
  rw[bf (aj _),dY]at hi;cases hi;rw[show El (eG++_) 5 nd.length=_ from hE.2];exact(hl.st hx λq h=>nomatch h).by nw
abbrev Ot(F:Nat->Prop)(b:Nat)(L:List cz):Nat->Prop:=λr=>Nw F b r/\r∉L.map (·.1)
theorem YG.own(hg:YG n K T F H0 g p nd rl)(hS:SH [] H0 H L):YG n K T (Ot F H0.next L) H g p nd rl:=
 (hg.by (F':=Ot F H0.next L) λr h1 h2=>⟨.inl h2,λhm=>by
  obtain⟨e,he,rfl⟩:=aZ.1 hm;exact jF (hS.zN he) h1⟩).ex hS.ext
theorem VQ.own(hg:VQ F H0 l x)(hS:SH [] H0 H L):VQ (Ot F H0.next L) H l x:=
 (hg.by (F':=Ot F H0.next L) λr h1 h2=>⟨.inl h2,λhm=>by
  obtain⟨e,he,rfl⟩:=aZ.1 hm;exact jF (hS.zN he) h1⟩).st hS.ext λq h=>nomatch h
theorem YG.re(hg:YG n K T (Ot F b L) H g p nd rl)(hx:Ext H H1)(hL:∀e∈L',e.1∈L.map (·.1)\/H.next<=e.1):YG n K T (Ot F b L') H1 g p nd rl:=
 (hg.by (F':=Ot F b L') λr h1 h2=>⟨h2.1,λhm=>by
  obtain⟨e,he,rfl⟩:=aZ.1 hm;rcases hL e he with h|h
  .exact h2.2 h
  .omega⟩).ex hx
theorem YG.call{Kp:Value->ag->Prop}(hg:YG n K T (Ot F b L) H g p nd rl)(hS:SH [] H0 H L)(hb:b<=H.next)(hc:∀F',(∀r,r<H.next->Ot F b L r->F' r)->YG n K T F' H g p nd rl->az Pg X N (g::ar) H (Q1 (λv H'=>∃g',v=.tuple ⟨[g',vn k]⟩/\YG n K T (Nw F' H.next) H' g' p' zB Uf) H))(kk:∀g' H2,YG n K T (Ot F b L) H2 g' p' zB Uf->SH [] H0 H2 L->Kp (.tuple ⟨[g',vn k]⟩) H2):az Pg X N (g::ar) H Kp:=by
 refine az.mono (hc (λr=>Ot F b L r/\r<H.next) (λr h1 h2=>⟨h2,h1⟩)<|hg.by λr h1 h2=>⟨h2,h1⟩) ?_;rintro v H2 ⟨⟨g',rfl,hg'⟩,hx⟩;refine kk g' H2 (hg'.by λr _ h=>?_)<|hS.call hx;rcases h with h|h
 .exact h.1
 .refine⟨.inr<|aW hb h,λhm=>?_⟩;obtain⟨e,he,rfl⟩:=aZ.1 hm;exact jF h (hS.lo e he).2
theorem VS(hw:Wf H)(hg:YG n K T F H g p nd rl)(hl:VQ F H l x)(hn:nd.length<4000)(hp:p+1<n):az Pg X 164 [g,.agg ⟨l⟩] H (Q1 (λv H'=>∃g',v=.tuple ⟨[g',vn nd.length]⟩/\YG n K T (Nw F H.next) H' g' (p+1) (nd++[x]) rl) H):=by
 obtain⟨ka,kc,t,sa,sn,sc,at',rfl,_⟩:=id hl;have hn2:=YG.bd hg;obtain⟨ra,rc,rcs,na,nc,eG,ta,tc,rfl,_⟩:=id hg;have hS:=SH.refl hw;refine ce [0,1,2,3,4,5,6] ?_;refine tl ?_;refine hS.box rfl λH1 rb hS=>?_;refine hS.box rfl λH2 rx hS=>?_;refine hS.iI λH3 rz hS=>?_;refine hS.aY ?_;refine hS.eU ?_;refine hS.eU ?_;have hb:=hS.ext.next
 refine(hg.own hS).call hS hb (λF' hF hg'=>aad hS.wf hg' ((hl.own hS).by hF) hn) λg' H4 hg hS=>?_;obtain⟨ra,rc,rcs,na,nc,eG,ta,tc,rfl,_⟩:=id hg;have hS1:=hS;have hS:=hS.base
 repeat(first|(refine hS.aY ?_)|(refine hS.dQ ?_)|(refine hS.kJ λHn hS=>?_))
 refine ah (λ_=>?_) λc=>absurd trivial c;refine hS.dQ ?_;refine PU.of (iN 1 rfl aa) ?_;refine hS.kJ λHn hS=>?_;refine tl ?_;refine hS.eU ?_;refine hS.kJ λHn hS=>?_;have hg:=(hg.st hS.ext λq hq h=>h.2 hq).to hp rfl;have hS:=hS1.over hS;refine rr ?_;refine hS.CU 0 rfl (aj 6) ?_;exact⟨⟨_,rfl,hg.by λr _ h=>h.1⟩,hS.ext⟩
end
section
abbrev YR(n:Nat)(K:Nat->Int)(T:Nat->ByteArray)(F:Nat->Prop)(H:ag)(p:Nat)(nd:List PN)(rl:List PR)(k:Nat):Value->ag->Prop:=Q1 (λv H'=>∃g',v=.tuple ⟨[g',vn k]⟩/\YG n K T (Nw F H.next) H' g' p nd rl) H
def PZ(N:FuncId)(o:Nat->Op)(n:Nat)(K:Nat->Int)(T:Nat->ByteArray)(p:Nat):Prop:=∀{d p' k:Nat}{nd zB:List PN},Ps K T (o d) p nd p' zB k->∀{F:Nat->Prop}{H:ag}{g:Value}{rl:List PR},Wf H->YG n K T F H g p nd rl->az Pg X N [g,vn d] H (YR n K T F H p' zB rl k)
variable{F:Nat->Prop}
theorem YG.ahi{Kp:Value->ag->Prop}(hg:YG n K T (Ot F b L) H g p nd rl)(hS:SH [] H0 H L)(hb:b<=H.next)(hc:∀F',(∀r,r<H.next->Ot F b L r->F' r)->YG n K T F' (hN H) g p nd rl->az Pg X N (g::ar) (hN H) (YR n K T F' (hN H) p' zB Uf k))(kk:∀g' H2,YG n K T (Ot F b L) (hM H H2) g' p' zB Uf->SH [] H0 (hM H H2) L->E7 H H2=cl 1->Kp (.tuple ⟨[g',vn k]⟩) H2):az Pg X N (g::ar) (hN H) Kp:=by
 have hg:YG n K T (Ot F b L) (hN H) g p nd rl:=hg;have hS':SH [] (hN H0) (hN H) L:=hS.uY;refine az.mono (hc (λr=>Ot F b L r/\r<H.next) (λr h1 h2=>⟨h2,h1⟩)<|hg.by λr h1 h2=>⟨h2,h1⟩) ?_;rintro v H2 ⟨⟨g',rfl,hg'⟩,hx⟩;refine kk g' H2 (hg'.by λr _ h=>?_) (hS.oV hx)<|dL hx;rcases h with h|h
 .exact h.1
 .have h:H.next<=r:=h
  refine⟨.inr<|aW hb h,λhm=>?_⟩;obtain⟨e,he,rfl⟩:=aZ.1 hm;exact jF h (hS.lo e he).2
theorem YG.ret{Kp:Value->Value->Value->Value->ag->Prop}(hg:YG n K T (Ot F H0.next L) H g p nd rl)(hS:SH [] H0 H L)(hi:L[i]?=some (rz,34,cs))(hl:cs.length=6)(hc:∀F',(∀r,r<H.next->Ot F H0.next L r->F' r)->YG n K T F' H g p nd rl->az Pg X N (g::ar) H (YR n K T F' H p' zB Uf k))(kk:∀v g' u H3,YG n K T (Nw F H0.next) H3 g' p' zB Uf->Ext H0 H3->(∀{Q:Value->ag->Prop},Q g' H3->ME (rQ (some 6) (.pointer<|some ⟨rz,0,none⟩) H3) Q)->Kp v g' (vn k) u H3):az Pg X N (g::ar) H λv H1=>PU (qD v 0) λa=>PU (qD v 1) λc=>ME (CS 6 (.pointer<|some ⟨rz,0,none⟩) a H1) λu H2=>Kp v a c u H2:=by
 refine hg.call hS hS.ext.next hc λg' H2 hg hS=>?_
 obtain⟨ra,rc,rcs,na,nc,eG,ta,tc,rfl,_⟩:=id hg;refine aF ?_;have hO:=hS.base;refine hO.st i hi rfl aa rfl λH3 hO=>?_;rw[sF _ _ (by exact hl)]at hO;have hg:=hg.st hO.ext λq hq h=>h.2 hq;refine kk _ _ _ _ (hg.by λr _ h=>h.1) (hS.over hO).ext λ{Q} hQ=>?_;exact hO.CU i (o:=0) (n:=6) (cs:=aX<|.agg ⟨[.slice ra Uf.length rc,.slice na zB.length nc,.slice ta n tc,vn p',vi 0,vi 0]⟩) (by rw[bV,if_pos rfl,if_pos (aL.1 hi).1]) (aj 6) hQ
theorem YG.turn(hg:YG n K T (Ot F b L) H g p nd rl)(hO:SH (L.map (·.1)) H H2 L2):YG n K T (Ot F b L2) H2 g p nd rl:=
 ((hg.by (F':=λr=>Ot F b L r/\r∉L2.map (·.1)) λr h1 h2=>⟨h2,λhm=>by
   obtain⟨e,he,rfl⟩:=aZ.1 hm;rcases(hO.lo e he).1 with h|h
   .exact h2.2 h
   .omega⟩).st hO.ext λq hq h=>h.1.2 hq).by λr _ h=>⟨h.1.1,h.2⟩
theorem EA{sn sc:Nat}{at':Int}(h:c=5->t=t'):VQ F H [vi c,.slice none 0 0,.string t,.slice a sn sc,vi at'] (c,[],t'):=⟨none,0,t,a,sn,sc,at',rfl,jT.nil _ _ _ _ _,h⟩
theorem yno{d rt:Nat}{rc nc tc en ec:Nat}{xs:List Nat}{at':Nat}{ve sv dR fC vv:Value}(hg:YG n K T (Ot F H.next [(rt,153,[vi kz,vn at',ve,.string t,sv]),(rz,34,[.slice none 0 0,.slice none 0 0,.slice none 0 0,vi 0,vi 0,vi 0]),(rb,34,[.slice ra rl.length rc,.slice na nd.length nc,.slice ta n tc,vn<|p+1,vi 0,vi 0])]) H1 (.agg ⟨[.slice ra rl.length rc,.slice na nd.length nc,.slice ta n tc,vn<|p+1,vi 0,vi 0]⟩) (p+1) nd rl)(hS:SH [] H H1 [(rt,153,[vi kz,vn at',ve,.string t,sv]),(rz,34,[.slice none 0 0,.slice none 0 0,.slice none 0 0,vi 0,vi 0,vi 0]),(rb,34,[.slice ra rl.length rc,.slice na nd.length nc,.slice ta n tc,vn<|p+1,vi 0,vi 0])])(hp1:p+1<n)(hp2:p+2<n)(h4:nd.length<4000)(hf:jT (λ_=>True) 3 H1 ea en 1<|fG xs)(hen:en<=3000000)(hxl:xs.length=en)(hxs:∀x∈xs,x<=1114112):
 dJ Pg X (.loop<|sub gH [1,1,0,1,0,1,1,1,1,1,1,1,1,1,0,1,1,1,1,0,1,0,0]) (nQ x0 (vn d) (pr rb) (pr rz) (vi 0) (pr rt) (.slice ea en ec) (.slice none 0 0) (vi 0) dR fC vv rg H1) (j3 1<|nR Pg X (sub gH [1,1,0,1,0,1,1,1,1,1,1,1,1,1,0,1,1,1,1,1])<|j3 0<|nR Pg X (sub gH [1,1,1])<|f_ Pg [.cell 4 34,.tmp 5]<|YR n K T F H (p+2) (nd++[(7,[],e0)]) rl nd.length):=by
 refine lp2 8 9 (I:=λm x8 x9 H'=>∃i bs gb,x9=vn i/\GB 4 1 x8 (bools bs) gb/\bs.length=i/\i+m=en/\SH [] H H' ((rt,153,[vi kz,vn at',ve,.string t,sv])::(rz,34,[.slice none 0 0,.slice none 0 0,.slice none 0 0,vi 0,vi 0,vi 0])::(rb,34,[.slice ra rl.length rc,.slice na nd.length nc,.slice ta n tc,vn<|p+1,vi 0,vi 0])::gb)/\YG n K T (Ot F H.next<|(rt,153,[vi kz,vn at',ve,.string t,sv])::(rz,34,[.slice none 0 0,.slice none 0 0,.slice none 0 0,vi 0,vi 0,vi 0])::(rb,34,[.slice ra rl.length rc,.slice na nd.length nc,.slice ta n tc,vn<|p+1,vi 0,vi 0])::gb) H' (.agg ⟨[.slice ra rl.length rc,.slice na nd.length nc,.slice ta n tc,vn<|p+1,vi 0,vi 0]⟩) (p+1) nd rl/\jT (λ_=>True) 3 H' ea en 1 (fG xs)) ?_ en ⟨0,[],[],rfl,GB.nil _ _,rfl,aI en,hS,hg,hf⟩;clear hg hS hf;rintro m x8 x9 rg H2 ⟨i,bs,gb,rfl,hgb,hbl,him,hS,hg,hf⟩;have hbd:=hg.bd;refine tl ?_;refine aF ?_;refine ah (λhc=>?_) λhc=>?_;rotate_left
 .refine tl ?_;obtain⟨ga,gn,gc,rfl,hgl,hgf⟩:=hgb.Nn (F:=λ_=>True) (hS.perm<|au (l₁:=[_,_,_])) λ_ _=>trivial;obtain rfl:gn=bs.length:=by rw[aC]at hgl;omega
  have hS:SH [] H H2 [(rt,153,[vi kz,vn at',ve,.string t,sv]),(rz,34,[.slice none 0 0,.slice none 0 0,.slice none 0 0,vi 0,vi 0,vi 0]),(rb,34,[.slice ra rl.length rc,.slice na nd.length nc,.slice ta n tc,vn<|p+1,vi 0,vi 0])]:=hS.sub<|bR [_,_,_] gb;have hg:=hg.by (F':=Ot F H.next [(rt,153,[vi kz,vn at',ve,.string t,sv]),(rz,34,[.slice none 0 0,.slice none 0 0,.slice none 0 0,vi 0,vi 0,vi 0]),(rb,34,[.slice ra rl.length rc,.slice na nd.length nc,.slice ta n tc,vn<|p+1,vi 0,vi 0])]) λr _ h=>⟨h.1,λhm=>h.2 (by simp only[jR,bP,oG,kK,uP]at hm|-;rcases hm with h|h|h<;>simp[h])⟩
  have n1:=hS.nq 0 2 rfl rfl aa;have n2:=hS.nq 0 1 rfl rfl aa;have n3:=hS.nq 1 2 rfl rfl aa
  repeat(first|(refine hS.aY ?_)|(refine hS.nN ?_))
  refine az.mono (aeX (qH H2) (show jT (λ_=>True) 3 (hN H2) ea en 1 (fG xs)from hf) hen hxl hxs (show jT (λ_=>True) 4 (hN H2) ga bs.length 1 (bools bs)from hgf)) ?_;rintro v H3 ⟨⟨ca,cn,cc,rfl⟩,hx3⟩;have hg:=hg.ex (H':=hM H2 H3) hx3.draw;have hS:=hS.oV hx3
  repeat(first|(refine hS.aY ?_)|(refine PU.b5 rfl ?_)|(refine hS.kI ?_))
  refine hg.ahi hS hS.ext.next (λF' hF hg'=>VS (qH _) hg' (EA (t':=e0) λh=>by omega) h4 hp2) λg' H5 hg hS V6=>?_
  obtain⟨_,_,_,_,_,_,_,_,rfl,_⟩:=id hg;have hS1:=hS;have hS:=hS.base;refine hS.aY ?_;refine hS.qJ λHn hS=>?_;refine(show∀K:Prop,K->_/\K fromλKz hK=>?_) _ ?_
  .simp only[cB,dn,dL hx3,V6];apply Ar (a:=rt) (b:=rz) (c:=rb) n2 n1 n3 (by intros;rfl) (by kernel_rfl) (by kernel_rfl) hK
  have hg:=hg.turn hS;have hS:=hS1.over hS;refine rr ?_;refine hS.CU 1 rfl (aj 6) ?_;exact⟨⟨_,rfl,hg.by λr _ h=>h.1⟩,hS.ext⟩
 obtain⟨_,_,_,_,_,_,_,_,e,_,_,_,_,_,_,⟨_,_,cs5,e5,hf5,aae⟩,_⟩:=id hg;cases e;cases e5;obtain⟨r,o,ei,hr,hcl,o0,e6,ho⟩:=hf5.1.idx (c:=tc) aa hp1;obtain⟨at5,e5',t5,x5,hk5,_,_,Ug⟩:=aae (p+1) hp1
 have hc4:cs5[(p+1)*5+4]?=some x5:=by
  have:=bW (λl=>l[4]?) hk5;simp only[j4]at this;simpa using this
 obtain⟨r2,o2,e2,hr2,uI,o3,e7,ho2⟩:=hf.1.idx (c:=ec) aa (show i<en by omega);have hxi:(fG xs)[i]?=some (vn xs[i]):=oz _<|ae aa;have hS0:=hS;have hS:=hS.base
 repeat(first|(refine hS.aY ?_)|(refine hS.kI ?_))
 refine PU.of ei ?_;refine aF ?_;refine ME.ld (H:=hN H2) (hcl 4 _ aa hc4) ?_;simp only[eF hS.wf];refine PU.of e2 ?_;refine ME.ld (H:=hN H2) (uI 0 _ aa (by rw[bG,bn];exact hxi)) ?_;simp only[eF hS.wf];refine az.mono (aiz (F:=Ot F H.next<|(rt,153,[vi kz,vn at',ve,.string t,sv])::(rz,34,[.slice none 0 0,.slice none 0 0,.slice none 0 0,vi 0,vi 0,vi 0])::(rb,34,[.slice ra rl.length rc,.slice na nd.length nc,.slice ta n tc,vn<|p+1,vi 0,vi 0])::gb) (H:=hN H2) Ug) ?_;rintro v H3 ⟨⟨bh,rfl⟩,rfl⟩;simp only[eF hS.wf,PP];refine hS.U8 rfl rfl rfl aa λH4 ry hS hc1=>?_;have hSA:=hS;refine hgb.Ou (hS.perm<|(au (l₁:=[_,_,_])).cons _) aa rfl rfl (by rw[aC];omega) λv' H5 gY hgb' hS hx5 QI hc2=>?_;have hS:=hS.perm<|au (l₂:=[_,_,_]);simp only[a_,bB]at hS;have hty:=hS0.Gt (ty:=3) (by simp[hgb.all])
 have hno:r∉(((rt,153,[vi kz,vn at',ve,.string t,sv])::(rz,34,[.slice none 0 0,.slice none 0 0,.slice none 0 0,vi 0,vi 0,vi 0])::(rb,34,[.slice ra rl.length rc,.slice na nd.length nc,.slice ta n tc,vn<|p+1,vi 0,vi 0])::gb:List cz).map (·.1)):=by
  have:=hf5.2 r o0 e6 aa;exact this.1.2
 have aiA:r2∉(((rt,153,[vi kz,vn at',ve,.string t,sv])::(rz,34,[.slice none 0 0,.slice none 0 0,.slice none 0 0,vi 0,vi 0,vi 0])::(rb,34,[.slice ra rl.length rc,.slice na nd.length nc,.slice ta n tc,vn<|p+1,vi 0,vi 0])::gb:List cz).map (·.1)):=λh=>hty r2 h (hf.2 r2 o3 e7 aa).2.2
 have rd:∀{r o v},r<H2.next->r∉(((rt,153,[vi kz,vn at',ve,.string t,sv])::(rz,34,[.slice none 0 0,.slice none 0 0,.slice none 0 0,vi 0,vi 0,vi 0])::(rb,34,[.slice ra rl.length rc,.slice na nd.length nc,.slice ta n tc,vn<|p+1,vi 0,vi 0])::gb:List cz).map (·.1))->H2.cell r o=some v->lX v v=true->∀w:Cl,w=⟨2,0,0,0,hM H2 H4,H5⟩->ng w ⟨4,r,o,1,hh0,hh0⟩=true:=λ{r o v} hr hn hc hs w hw=>by
  subst hw;have e1:=hSA.ext.obj r hr hn;have e2:=QI r (aH hr hSA.ext.next) λh=>hn (by simp only[jR,bP];exact .inr<|.inr<|.inr h);exact x_ ((rH e1 o 1).trans<|Yl hc) ((rH (e2.trans e1) o 1).trans<|Yl hc) (wC λy hy=>by rw[aO]at hy;subst hy;exact hs)
 have r1:=rd hr2 aiA (uI 0 _ aa (by rw[bG,bn];exact hxi))<|uD _ _;obtain⟨xa,xn,xc,zs,ex5,_,_,_,hsp⟩:=id Ug;have r2':=rd hr hno (hcl 4 _ aa hc4) (by rw[ex5];exact qK _ _ _ hsp)
 have rb':∀{o v},(o=2/\v=.slice ta n tc\/o=3/\v=vn (p+1))->∀w:Cl,w=⟨2,0,0,0,hM H2 H4,H5⟩->ng w ⟨4,rb,o,1,hh0,hh0⟩=true:=λ{o v} ho w hw=>by
  subst hw;have b2:Bk H5 rb 34 _:=(hS.get 2 rfl).mR rfl;refine xB (hSA.get 3 rfl) b2 (by show o+1<=6;omega) λy hy=>?_;rcases ho with⟨rfl,rfl⟩|⟨rfl,rfl⟩
  .have hy:y∈[Value.slice ta n tc]:=hy;rw[aO]at hy;subst hy;exact qK _ _ _ λz hz=>by rw[e6]at hz;cases hz;rfl
  .have hy:y∈[vn (p+1)]:=hy;rw[aO]at hy;subst hy;exact uD _ _
 refine(show∀K:Prop,K->_/\K fromλKz hK=>?_) _ ?_
 .simp only[hc1,cB,dL<|Ext.refl<|hN _];rcases hc2 with e|e<;>rw[e]<;>apply C5 (T:=λw=>w=⟨2,0,0,0,hM H2 H4,H5⟩) (by kernel_rfl) (by kernel_rfl) hK<;>repeat' apply And.intro
  all_goals first|exact trivial|(intro h;cases h;done)|exactλ_=>rfl|exactλ_=>r1|exactλ_=>r2'|exactλ_=>rb' (.inl ⟨rfl,rfl⟩)|exactλ_=>rb'<|.inr ⟨rfl,rfl⟩
 have hf:=hf.stay hS.ext λq hq=>.inr<|hty q hq;have hg:=hg.turn hS;have hS:=hS0.over hS;refine PU.of (iN 1 rfl aa) ?_;exact⟨m-1,aa,_,_,_,_,rfl,i+1,bs++[!bh],gY,rfl,by rw[show bools (bs++[!bh])=bools bs++[.bool !bh]from dw];exact hgb',by simp;omega,aa,hS,hg,hf⟩
theorem ahj(hz:K (n-1)=0)(ih:∀q,p<q->PZ 88 (.ch · []) n K T q):PZ 163 .at n K T p:=by
 intro d p' k nd zB hP F H g rl hw hg;have hbd:=hg.bd
 have hpn:K p≠0->p+1<n:=λh=>by
  have:p≠n-1:=λe=>h<|e▸hz;omega
 obtain⟨ra,rc,rcs,na,nc,eG,ta,tc,rfl,_⟩:=id hg;have hS:=SH.refl hw;refine ce [0,1,2,4,5,6,7,8,9,10,11,19] ?_;refine tl ?_;refine hS.box rfl λH1 rb hS=>?_;refine hS.iI λH2 rz hS=>?_;refine hS.aY ?_;refine hS.dQ ?_;refine hS.dQ ?_;obtain⟨_,_,_,_,_,_,_,_,e,_,_,_,_,_,_,⟨_,_,cs,e2,hf,hrow⟩,_⟩:=hg.ex hS.ext;cases e;cases e2;obtain⟨at',e',t,x,hk,hT,_,hset⟩:=hrow p hbd.1;obtain⟨sa,sn,sc,zs,rfl,_⟩:=id hset;refine hf.ixN aa hbd.1 hk λq=>?_;refine hS.mO rfl rfl rfl λH3 rt hS hx3=>?_;have hS:SH [] H H3 [(rt,153,[vi (K p),vn at',vn e',.string t,.slice sa sn sc]),(rz,34,[.slice none 0 0,.slice none 0 0,.slice none 0 0,vi 0,vi 0,vi 0]),(rb,34,[.slice ra rl.length rc,.slice na nd.length nc,.slice ta n tc,vn p,vi 0,vi 0])]:=hS;have hb:=hS.ext.next
 have hgo:=hg.own hS
 repeat(first|(refine hS.aY ?_)|(refine hS.dQ ?_))
 cases hP with
 |nm _ _ _ h h4=>
  have go:∀{rg},BA rg 20=.bool true->dJ Pg X (sub gH [1,1,0,1,0,1]) (nQ (.agg ⟨[.slice ra rl.length rc,.slice na nd.length nc,.slice ta n tc,vn p,vi 0,vi 0]⟩) (vn d) (pr rb) (pr rz) (vi 0) (pr rt) top top top top top (vi<|K p) rg H3) (j3 0<|nR Pg X (sub gH [1,1,1])<|f_ Pg [.cell 4 34,.tmp 5]<|YR n K T F H (p+1) (nd++[(5,[],T p)]) rl nd.length):=by
   intro rg hlk;refine tl ?_;rw[hlk]
   repeat(first|(refine hS.aY ?_)|(refine PU.b5 rfl ?_)|(refine hS.dQ ?_)|(refine hS.eU ?_))
   refine YG.ret hgo hS (i:=1) rfl rfl (λF' hF hg'=>VS hS.wf hg' (EA λ_=>hT h) h4<|hpn aa) λv g' u H4 hg' hx hr=>?_;refine rr ?_;exact hr ⟨⟨_,rfl,hg'⟩,hx⟩
  refine ah (λc=>go (by rw[aS c];rfl)) λc=>go (by rw[aS (show K p=2 by omega)];rfl)
 |lf _ _ _ c h h4=>
  refine ah (λc=>absurd c aa) λ_=>?_;rw[bM (show¬K p=2 by omega)];refine tl ?_;refine aF ?_;refine ah (λe=>?_) λe=>?_
  .obtain rfl:c=6:=by omega
   refine hS.eU ?_;refine hS.dQ ?_;refine hS.dQ ?_;refine PU.b5 rfl ?_;refine hS.aY ?_;refine YG.ret hgo hS (i:=1) rfl rfl (λF' hF hg'=>VS hS.wf hg' (EA (t':=e0) λh=>by omega) h4<|hpn aa) λv g' u H4 hg' hx hr=>?_;refine rr ?_;exact hr ⟨⟨_,rfl,hg'⟩,hx⟩
  obtain rfl:c=7:=by omega
  refine ah (λe=>?_) λe=>?_
  .refine hS.eU ?_;refine hS.dQ ?_;refine hS.dQ ?_;refine PU.b5 rfl ?_;refine hS.aY ?_;refine YG.ret hgo hS (i:=1) rfl rfl (λF' hF hg'=>VS hS.wf hg' (EA (t':=e0) λh=>by omega) h4<|hpn aa) λv g' u H4 hg' hx hr=>?_;refine rr ?_;exact hr ⟨⟨_,rfl,hg'⟩,hx⟩
  refine ah (λe=>?_) λe'=>absurd aa e';refine hS.eU ?_;refine PU.b2 rfl ?_;refine hS.aY ?_;refine(SH.refl hS.wf).bS rfl rfl rfl aa λH4 ry vY=>?_;have hgo:=hgo.ex vY.ext;have hS:=hS.call vY.ext;refine hS.dQ ?_;refine PU.b5 rfl ?_;refine hS.aY ?_;refine YG.ret hgo hS (i:=1) rfl rfl (λF' hF hg'=>VS hS.wf hg' (EA (t':=e0) λh=>by omega) h4<|hpn aa) λv g' u H4 hg' hx hr=>?_;refine rr ?_;exact hr ⟨⟨_,rfl,hg'⟩,hx⟩
 |no _ _ _ h1 h2 h4=>
  refine ah (λc=>absurd c aa) λ_=>?_;rw[bM (show¬K p=2 by omega)];refine tl ?_;refine aF ?_;refine ah (λe=>absurd e aa) λ_=>?_;refine ah (λe=>absurd e aa) λ_=>?_;refine ah (λe=>absurd e aa) λ_=>?_;refine ah (λ_=>?_) λe=>absurd h1 e;have hS1:=hS;have hS:=hS.base;refine hS.dQ ?_;refine PU.of (iN 1 rfl aa) ?_;refine hS.kJ λHn hS=>?_;refine hS.eU ?_;have hp1:=hpn aa;have hgo:=(hgo.st hS.ext λq hq h=>h.2 hq).to hp1 rfl;have hS:=hS1.over hS;refine az.mono (zA hS.wf hgo) ?_;rintro v H5 ⟨rfl,hx⟩;have hgo:=hgo.ex hx;have hS:=hS.call hx;refine aF ?_;refine bq (λe=>absurd h2 e) λ_=>?_
  repeat(refine hS.dQ ?_)
  obtain⟨_,_,_,_,_,_,_,_,e,_,_,_,_,_,_,⟨_,_,cs5,e5,hf5,aae⟩,_⟩:=id hgo;cases e;cases e5;obtain⟨r,o,ei,hr,hcl,_⟩:=hf5.1.idx (c:=tc) aa hp1;obtain⟨at5,e5',t5,x5,hk5,_,_,Ug⟩:=aae (p+1) hp1
  have hc4:cs5[(p+1)*5+4]?=some x5:=by
   have:=bW (λl=>l[4]?) hk5;simp only[j4]at this;simpa using this
  refine PU.of ei ?_;refine aF ?_;refine ME.ld (hcl 4 _ aa hc4) ?_;refine az.mono (aeW hS.wf Ug) ?_;rintro v H6 ⟨hlist,hx⟩;have hgo:=hgo.ex hx;have hS:=hS.call hx;obtain⟨ea,en,ec,xs,rfl,hfl,hen,hxl,hxs⟩:=hlist.fl
  exact yno hgo hS hp1 (by
   have:p+1≠n-1:=λe=>by rw[e,hz]at h2;cases h2
   omega) h4 hfl hen hxl hxs
 |br _ _ _ p1 _ _ h1 h2 h3 h4=>
  refine ah (λc=>absurd c aa) λ_=>?_;rw[bM (show¬K p=2 by omega)];refine tl ?_;refine aF ?_;refine ah (λe=>absurd e aa) λ_=>?_;refine ah (λe=>absurd e aa) λ_=>?_;refine ah (λe=>absurd e aa) λ_=>?_;refine ah (λe=>absurd e aa) λ_=>?_;refine ah (λ_=>?_) λe=>absurd h1 e;refine ah (λe=>absurd e aa) λ_=>?_;have hS1:=hS;have hS:=hS.base;refine hS.dQ ?_;refine PU.of (iN 1 rfl aa) ?_;refine hS.kJ λHn hS=>?_;refine hS.eU ?_;refine PU.of (iN 1 rfl aa) ?_;have hgo:=(hgo.turn hS).to (hpn aa) rfl;have hS:=hS1.over hS;refine hgo.call hS hS.ext.next (λF' hF hg'=>ih (p+1) aa h3 hS.wf hg') λg' H4 hgo hS=>?_
  have hb1:=hgo.bd
  have hp1:p1+1<n:=by
   have:p1≠n-1:=λe=>by rw[e,hz]at h4;cases h4
   omega
  obtain⟨_,_,_,_,_,_,_,_,rfl,_⟩:=id hgo;refine aF ?_;have hS1:=hS;have hS:=hS.base;refine hS.abI λH5 r10 hS hx5=>?_
  repeat(first|(refine hS.aY ?_)|(refine hS.dQ ?_)|(refine hS.kJ λHn hS=>?_))
  refine ah (λ_=>?_) λc=>absurd trivial c;refine hS.eU ?_;have hgo:=hgo.turn hS;have hS:=hS1.over hS;refine az.mono (zA hS.wf hgo) ?_;rintro v H6 ⟨rfl,hx⟩;have hgo:=hgo.ex hx;have hS:=hS.call hx;refine aF ?_;rw[aS h4];refine tl ?_;refine aF ?_;refine tl ?_;have hS1:=hS;have hS:=hS.base
  repeat(first|(refine hS.aY ?_)|(refine hS.dQ ?_))
  refine ah (λ_=>?_) λc=>absurd trivial c;refine hS.dQ ?_;refine PU.of (iN 1 rfl aa) ?_;refine hS.kJ λHn hS=>?_;refine tl ?_;refine hS.aY ?_;refine hS.eU ?_;refine hS.kJ λHn hS=>?_;have hgo:=(hgo.turn hS).to hp1 rfl;have hS:=hS1.over hS;refine rr ?_;refine hS.CU 2 rfl (aj 6) ?_;exact⟨⟨_,rfl,hgo.by λr _ h=>h.1⟩,hS.ext⟩
end
section
variable{F:Nat->Prop}
abbrev Lz(rz rb:Nat)(gl:List Value)(gb:List cz):List cz:=(rz,34,[.slice none 0 0,.slice none 0 0,.slice none 0 0,vi 0,vi 0,vi 0])::(rb,34,gl)::gb
theorem adt(hg:GB 3 1 v ks gb)(hS:SH [] H H1<|Lz rz rb gl gb):∃a m c,v=.slice a m c/\ks.length=m/\jT (Ot F H.next<|Lz rz rb gl []) 3 H1 a m 1 ks:=by
 have hp:=hS.perm<|au (l₁:=[_,_])
 obtain⟨a,m,c,e,hn,hf⟩:=hg.Nn (F:=Ot F H.next<|Lz rz rb gl []) hp λe he=>⟨.inr<|hp.zN<|bI _ he,λhm=>by
  rcases hg with⟨_,_,rfl⟩|⟨r,n,dH,_,_,rfl⟩
  .cases he
  .rw[aO]at he;subst he;simp only[jR,oG,bP,kK,uP]at hm;rcases hm with h|h
   .exact absurd h (hS.nq 0 2 rfl rfl<|by decide).symm
   .exact absurd h (hS.nq 1 2 rfl rfl<|by decide).symm⟩
 exact⟨a,m,c,e,aa,hf⟩
theorem YG.less(hg:YG n K T (Ot F H.next<|Lz rz rb gl gb) H1 g p nd rl):YG n K T (Ot F H.next<|Lz rz rb gl []) H1 g p nd rl:=
 hg.by λr _ h=>⟨h.1,λhm=>h.2 (by simp only[jR,bP,oG,kK,uP]at hm|-;rcases hm with h|h<;>simp[h])⟩
theorem aiB(ih:∀q,p<=q->PZ 163 .at n K T q)(hz:K (n-1)=0):PZ 126 (.ro · []) n K T p:=by
 intro d p' k nd zB hP F H g rl hw hg;have hbd:=hg.bd;obtain⟨ra0,rc0,_,na0,nc0,_,ta0,tc0,rfl,_⟩:=id hg;have hS:=SH.refl hw;refine ce [0,1,2,4,5,6,7,8,9] ?_;refine tl ?_;refine hS.box rfl λH1 rb hS=>?_;refine hS.iI λH2 rz hS=>?_;refine PV 6 7 8 9 (I:=λm x6 x7 x8 x9 H'=>∃q N ks gb gl,GB 3 1 x6 (fG ks) gb/\p<=q/\ks.length<=q-p/\q+m=n/\Ps K T (.ro d ks) q N p' zB k/\SH [] H H' (Lz rz rb gl gb)/\YG n K T (Ot F H.next<|Lz rz rb gl gb) H' (.agg ⟨gl⟩) q N rl) ?_ (n-p) ⟨p,nd,[],[],_,GB.nil _ _,aj _,aM _,aa,hP,hS,hg.own hS⟩;clear hP hg hS;rintro m x6 x7 x8 x9 rg H3 ⟨q,N,ks,gb,gl,hgb,hpq,hkl,hqm,hP,hS,hg⟩;have hqb:=hg.bd;obtain⟨ra,rc,rcs,na,nc,eG,ta,tc,e,_⟩:=id hg;cases e;refine tl ?_
 repeat(first|(refine hS.aY ?_)|(refine hS.dQ ?_))
 refine ah (λ_=>?_) λc=>absurd trivial c;refine hS.eU ?_;refine az.mono (zA hS.wf hg) ?_;rintro v H4 ⟨rfl,hx⟩;have hg:=hg.ex hx;have hS:=hS.call hx;refine aF ?_
 have out:¬JE (K q)->∀{x7 x8 x9:Value}{rg},dJ Pg X (sub gT [1,1,1]) (gI (.agg ⟨[.slice ra0 rl.length rc0,.slice na0 nd.length nc0,.slice ta0 n tc0,vn p,vi 0,vi 0]⟩) (vn d) (pr rb) (pr rz) (vi 0) x6 x7 x8 x9 rg H4) (f_ Pg [.cell 4 34,.tmp 5]<|YR n K T F H p' zB rl k):=by
  intro hnb x7 x8 x9 rg;cases hP with
  |ro1 _ _ _ _ _ _ _ _ _ _ h=>exact absurd h hnb
  |ro0 _ _ _ _ h1 h2=>
   obtain⟨a,j,c,rfl,hj,hf⟩:=adt hgb hS;rw[aC]at hj;subst hj;have hg:=hg.less;have hS:SH [] H H4 (Lz rz rb _ []):=hS.sub<|bR [_,_] gb;refine tl ?_
   repeat(first|(refine hS.aY ?_)|(refine hS.dQ ?_))
   refine bq (λc=>absurd trivial c) λ_=>?_;refine hS.eU ?_;refine PU.b5 rfl ?_;refine hS.aY ?_;refine YG.ret hg hS (i:=0) rfl rfl (λF' hF hg'=>aad (x:=(1,ks,e0)) hS.wf hg' ⟨a,c,_,none,0,0,0,rfl,hf.by hF,λh=>absurd (show(1:Int)=5 from h)<|by decide⟩ h2) λv g' u H5 hg' hx hr=>?_;refine rr ?_;exact hr ⟨⟨_,rfl,hg'⟩,hx⟩
 have body:JE (K q)->∀(R:Out->Prop),(∀{q1 N1 c gl gb1 x6' x8 x9}{H5:ag}{rg:Rs},q<q1->Ps K T (.ro d<|ks++[c]) q1 N1 p' zB k->GB 3 1 x6' (fG<|ks++[c]) gb1->SH [] H H5 (Lz rz rb gl gb1)->YG n K T (Ot F H.next<|Lz rz rb gl gb1) H5 (.agg ⟨gl⟩) q1 N1 rl->R (.norm<|gI (.agg ⟨[.slice ra0 rl.length rc0,.slice na0 nd.length nc0,.slice ta0 n tc0,vn p,vi 0,vi 0]⟩) (vn d) (pr rb) (pr rz) (vi 0) x6' (vi<|K q) x8 x9 rg H5))->∀{rg},dJ Pg X (sub gT [1,1,0,0,0,1,0,1,1]) (gI (.agg ⟨[.slice ra0 rl.length rc0,.slice na0 nd.length nc0,.slice ta0 n tc0,vn p,vi 0,vi 0]⟩) (vn d) (pr rb) (pr rz) (vi 0) x6 (vi<|K q) x8 x9 rg H4) R:=by
  intro hbg R kk rg;cases hP with
  |ro0 _ _ _ _ h1 h2=>exact absurd hbg h1
  |ro1 _ _ _ q1 N1 c _ _ _ _ h1 h2 h3=>
   have ahk:q<q1:=h2.adv.2.1
   have hP2:∃q0 N0 k0,Ps K T (.at d) q N q0 N0 k0/\(¬(10<=K q0/\K q0<=12)/\q1=q0/\N1=N0/\c=k0\/(10<=K q0/\K q0<=12)/\N0.length<4000/\q1=q0+1/\N1=N0++[(K q0-8,[k0],e0)]/\c=N0.length):=by
    cases h2 with
    |el0 _ _ _ _ _ _ g1 g2=>exact⟨_,_,_,g1,.inl ⟨g2,rfl,rfl,rfl⟩⟩
    |el1 _ _ _ _ _ _ g1 g2 g3=>exact⟨_,_,_,g1,.inr ⟨g2,g3,rfl,rfl,rfl⟩⟩
   obtain⟨q0,N0,k0,hat,hel⟩:=hP2;refine tl ?_;refine hS.aY ?_;refine hS.eU ?_;refine hg.call hS hS.ext.next (λF' hF hg'=>ih q hpq hat hS.wf hg') λg' H5 hg hS=>?_
   have hqb:=hg.bd;obtain⟨ra,rc,rcs,na,nc,eG,ta,tc,rfl,_⟩:=id hg;refine aF ?_;have hS1:=hS;have hS:=hS.base;refine hS.abI λH6 r8 hS hx5=>?_
   repeat(first|(refine hS.aY ?_)|(refine hS.dQ ?_)|(refine hS.eU ?_)|(refine hS.kJ λHn hS=>?_))
   refine ah (λ_=>?_) λc=>absurd trivial c;refine hS.eU ?_;have hg:=hg.turn hS;have hS:=hS1.over hS;have hS:SH [] H Hn (Lz rz rb [.slice ra rl.length rc,.slice na N0.length nc,.slice ta n tc,vn q0,vi 0,vi 0] gb):=SH.drop (A:=[_]) hS;have hg:YG n K T (Ot F H.next<|Lz rz rb [.slice ra rl.length rc,.slice na N0.length nc,.slice ta n tc,vn q0,vi 0,vi 0] gb) Hn _ q0 N0 rl:=hg.by λr _ h=>⟨h.1,λhm=>h.2<|aT _ hm⟩
   have app:∀{H6:ag}{gl x8 rg},SH [] H H6 (Lz rz rb gl gb)->YG n K T (Ot F H.next<|Lz rz rb gl gb) H6 (.agg ⟨gl⟩) q1 N1 rl->dJ Pg X (sub gT [1,1,0,0,0,1,0,1,1,1,1,1]) (gI (.agg ⟨[.slice ra0 rl.length rc0,.slice na0 nd.length nc0,.slice ta0 n tc0,vn p,vi 0,vi 0]⟩) (vn d) (pr rb) (pr rz) (vi 0) x6 (vi<|K q) x8 (vn c) rg H6) R:=by
    intro H6 gl x8 rg hS hg;have hS1:=hS;have hS:=hS.base;refine tl ?_;refine hgb.push (hS.perm<|au (l₁:=[_,_])) aa rfl rfl rfl rfl rfl aa (by rw[aC];omega) λw v' H7 gY hgb' hS=>?_;have hS:=hS.perm<|au (l₂:=[_,_]);exact kk ahk h3 (by rw[A_];exact hgb') (hS1.over hS)<|hg.turn hS
   refine az.mono (zA hS.wf hg) ?_;rintro v H7 ⟨rfl,hx⟩;have hg:=hg.ex hx;have hS:=hS.call hx;refine aF ?_
   have no:¬(10<=K q0/\K q0<=12)->∀{H8:ag}{x8 rg},BA rg 52=.bool false->SH [] H H8 (Lz rz rb [.slice ra rl.length rc,.slice na N0.length nc,.slice ta n tc,vn q0,vi 0,vi 0] gb)->YG n K T (Ot F H.next<|Lz rz rb [.slice ra rl.length rc,.slice na N0.length nc,.slice ta n tc,vn q0,vi 0,vi 0] gb) H8 (.agg ⟨[.slice ra rl.length rc,.slice na N0.length nc,.slice ta n tc,vn q0,vi 0,vi 0]⟩) q0 N0 rl->dJ Pg X (sub gT [1,1,0,0,0,1,0,1,1,1,1,0,1]) (gI (.agg ⟨[.slice ra0 rl.length rc0,.slice na0 nd.length nc0,.slice ta0 n tc0,vn p,vi 0,vi 0]⟩) (vn d) (pr rb) (pr rz) (vi 0) x6 (vi<|K q) x8 (vn k0) rg H8) (nR Pg X (sub gT [1,1,0,0,0,1,0,1,1,1,1,1]) R):=by
    intro hnp H8 x8 rg hlk hS hg;rcases hel with⟨_,rfl,rfl,rfl⟩|⟨h,_⟩
    .refine tl ?_;rw[hlk];refine aF ?_;exact app hS hg
    .exact absurd h hnp
   refine ah (λc1=>?_) λc1=>no (λh=>c1 h.1) rfl hS hg;refine hS.eU ?_;refine az.mono (zA hS.wf hg) ?_;rintro v H8 ⟨rfl,hx⟩;have hg:=hg.ex hx;have hS:=hS.call hx;refine aF ?_
   by_cases c2:K q0<=12
   rotate_left
   .exact no (λh=>c2 h.2) (by rw[bM c2];rfl) hS hg
   rcases hel with⟨h,_⟩|⟨_,h4,rfl,rfl,rfl⟩
   .exact absurd ⟨c1,c2⟩ h
   have hq1:q0+1<n:=by
    have:q0≠n-1:=λe=>by rw[e,hz]at c1;exact absurd c1 (by decide)
    omega
   rw[aS c2];refine tl ?_
   repeat(first|(refine hS.aY ?_)|(refine hS.nN ?_))
   refine az.mono (zA (qH H8) (show YG n K T _ (hN H8) _ q0 N0 rl from hg)) ?_;rintro v H9 ⟨rfl,hx9⟩;have hg:=hg.ex (H':=hM H8 H9) hx9.draw;have hS:=hS.oV hx9;rw[nM aa aa];refine aF ?_;have hS1:=hS;have hS:=hS.base;refine hS.U8 rfl rfl rfl aa λH10 ry hS hc1=>?_;have hg:=hg.turn hS;have hg:YG n K T (Ot F H.next<|Lz rz rb [.slice ra rl.length rc,.slice na N0.length nc,.slice ta n tc,vn q0,vi 0,vi 0] gb) _ _ q0 N0 rl:=hg.by λr _ h=>⟨h.1,λhm=>h.2<|aT _ hm⟩
   have hS1:=hS1.over hS
   have hry:Ot F H.next (Lz rz rb [.slice ra rl.length rc,.slice na N0.length nc,.slice ta n tc,vn q0,vi 0,vi 0] gb) ry:=⟨.inr<|hS1.zN<|aD ..,λhm=>by
    obtain⟨e,he,e2⟩:=aZ.1 hm;exact SH.apart (A:=[(ry,3,aX<|vn k0)]) hS1 (aO.2 rfl) he e2.symm⟩
   have hk:=(hS1.get 0 rfl).PT (n:=1) (es:=1) (hS1.lo _<|aD ..).2 rfl hry;have hS:=SH.drop (A:=[_]) hS1;refine hg.ahi hS hS.ext.next (λF' hF hg'=>VS (x:=(K q0-8,[k0],e0)) (qH _) hg' ⟨some ⟨ry,0,none⟩,1,⟨#[]⟩,none,0,0,0,rfl,(show jT _ 3 (hN<|hM (hM H8 H9) H10) _ 1 1 (fG [k0])from hk).by hF,λh=>absurd (show K q0-8=5 from h) aa⟩ h4 hq1) λg' H11 hg hS V6=>?_
   obtain⟨_,_,_,_,_,_,_,_,rfl,_⟩:=id hg;have hS1:=hS;have hS:=hS.base;refine hS.aY ?_;refine hS.qJ λHn hS=>?_;refine(show∀K:Prop,K->_/\K fromλKz hK=>?_) _ ?_
   .simp only[cB,dn,dL hx9,hc1,V6];apply IW (a:=rb) (by intros;rfl) (by kernel_rfl) (by kernel_rfl) hK
   exact app (hS1.over hS)<|hg.turn hS
 refine ah (λc1=>out (by unfold JE;omega)) λc1=>?_;refine ah (λc2=>?_) λc2=>?_;refine bq (λc3=>?_) λc3=>?_;refine bq (λc4=>?_) λc4=>?_;refine bq (λc5=>out (by unfold JE;omega)) λc5=>?_
 all_goals
  refine body (by unfold JE;omega) _ λ{q1 N1 c gl gb1 x6' x8 x9 H5 rg} h1 h2 h3 h4 h5=>?_;have hq:=h5.bd
  try simp only[PP,Nat.reduceBEq]
  exact⟨n-q1,aa,_,_,_,_,_,_,rfl,q1,N1,ks++[c],gb1,gl,h3,aa,by rw[ay];show ks.length+1<=_;omega,aa,h2,h4,h5⟩
end
section
variable{F:Nat->Prop}
theorem aaf(ih:∀q,p<=q->PZ 126 (.ro · []) n K T q)(hz:K (n-1)=0):PZ 88 (.ch · []) n K T p:=by
 intro d p' k nd zB hP F H g rl hw hg;have hbd:=hg.bd;obtain⟨ra0,rc0,_,na0,nc0,_,ta0,tc0,rfl,_⟩:=id hg;have hS:=SH.refl hw;refine ce [0,1,2,4,5,6,7,8] ?_;refine tl ?_;refine hS.box rfl λH1 rb hS=>?_;refine hS.iI λH2 rz hS=>?_
 have out:∀{q N ks x6 x7 x8 rg gb gl}{H4:ag},GB 3 1 x6 (fG ks) gb->SH [] H H4 (Lz rz rb gl gb)->YG n K T (Ot F H.next<|Lz rz rb gl gb) H4 (.agg ⟨gl⟩) q N rl->p'=q->(∃c,ks=[c]/\zB=N/\k=c)\/(1<ks.length/\N.length<4000/\zB=N++[(0,ks,e0)]/\k=N.length)->dJ Pg X (sub sJ [1,1,1]) (rP (.agg ⟨[.slice ra0 rl.length rc0,.slice na0 nd.length nc0,.slice ta0 n tc0,vn p,vi 0,vi 0]⟩) (vn d) (pr rb) (pr rz) (vi 0) x6 x7 x8 rg H4) (f_ Pg [.cell 4 34,.tmp 5]<|YR n K T F H p' zB rl k):=by
  rintro q N ks x6 x7 x8 rg gb gl H4 hgb hS hg rfl hor;obtain⟨a,j,c,rfl,hj,hf⟩:=adt hgb hS;rw[aC]at hj;subst hj;have hg:=hg.less;have hS:SH [] H H4 (Lz rz rb _ []):=hS.sub<|bR [_,_] gb;obtain⟨ra,rc,_,na,nc,_,ta,tc,e,_⟩:=id hg;cases e;refine tl ?_
  repeat(first|(refine hS.aY ?_)|(refine hS.dQ ?_))
  refine ah (λc=>absurd trivial c) λ_=>?_;refine tl ?_;rcases hor with⟨c1,rfl,rfl,rfl⟩|⟨h1,h2,rfl,rfl⟩
  .obtain⟨r,o,e1,hr,hcl,o0,e6,ho⟩:=hf.1.idx (c:=c) aa (show 0<1 by omega);have hF:=hf.2 r o0 e6<|Nat.lt_add_one 0;have n1:rz≠r:=λe=>hF.1.2<|e▸aD ..
   have n2:r≠rb:=λe=>hF.1.2<|e▸aT _ (aD ..);have n3:=hS.nq 0 1 rfl rfl aa;rw[aS (show(([k]:List Nat).length:Int)=1 from rfl)];have hS1:=hS;have hS:=hS.base
   repeat(first|(refine hS.aY ?_)|(refine hS.nN ?_))
   refine PU.of e1 ?_;refine ME.ld (H:=hN H4) (hcl 0 _ aa rfl) ?_;refine hS.aY ?_;refine hS.qJ λHn hS=>?_;refine(show∀K:Prop,K->_/\K fromλKz hK=>?_) _ ?_
   .simp only[cB,dn];apply Ar (a:=rz) (b:=r) (c:=rb) n1 n3 n2 (by intros;rfl) (by kernel_rfl) (by kernel_rfl) hK
   have hg:=hg.turn hS;have hS:=hS1.over hS;refine rr ?_;refine hS.CU 0 rfl (aj 6) ?_;exact⟨⟨_,rfl,hg.by λr _ h=>h.1⟩,hS.ext⟩
  .rw[bM (show¬(ks.length:Int)=1 by omega)];refine hS.aY ?_;refine tl ?_;refine hS.eU ?_;refine PU.b5 rfl ?_;refine hS.aY ?_;refine YG.ret hg hS (i:=0) rfl rfl (λF' hF hg'=>aad (x:=(0,ks,e0)) hS.wf hg' ⟨a,c,_,none,0,0,0,rfl,hf.by hF,λh=>absurd (show(0:Int)=5 from h)<|by decide⟩ h2) λv g' u H5 hg' hx hr=>?_;refine rr ?_;exact hr ⟨⟨_,rfl,hg'⟩,hx⟩
 refine Vg 6 7 8 (I:=λm x6 x7 x8 H'=>∃q N ks gb gl,GB 3 1 x6 (fG ks) gb/\p<=q/\ks.length<=q-p/\q+m=n/\Ps K T (.ch d ks) q N p' zB k/\SH [] H H' (Lz rz rb gl gb)/\YG n K T (Ot F H.next<|Lz rz rb gl gb) H' (.agg ⟨gl⟩) q N rl) ?_ (n-p) ⟨p,nd,[],[],_,GB.nil _ _,aj _,aM _,aa,hP,hS,hg.own hS⟩;clear hP hg hS;rintro m x6 x7 x8 rg H3 ⟨q,N,ks,gb,gl,hgb,hpq,hkl,hqm,hP,hS,hg⟩;have hqb:=hg.bd
 have hP2:∃q1 N1 c,Ps K T (.ro d []) q N q1 N1 c/\(K q1=6/\Ps K T (.ch d<|ks++[c]) (q1+1) N1 p' zB k\/K q1≠6/\p'=q1/\((∃e,ks++[c]=[e]/\zB=N1/\k=e)\/(1<(ks++[c]).length/\N1.length<4000/\zB=N1++[(0,ks++[c],e0)]/\k=N1.length))):=by
  cases hP with
  |ch1 _ _ _ _ _ _ _ _ _ _ h1 h2 h3=>exact⟨_,_,_,h1,.inl ⟨h2,h3⟩⟩
  |ch0 _ _ _ _ _ _ h1 h2=>exact⟨_,_,_,h1,.inr ⟨h2,rfl,.inl ⟨_,rfl,rfl,rfl⟩⟩⟩
  |chA _ _ _ _ _ _ _ h1 h2 h3 h4=>exact⟨_,_,_,h1,.inr ⟨h2,rfl,.inr ⟨by rw[ay];have:=List.length_pos_iff.2 h3;show 1<_+1;omega,h4,rfl,rfl⟩⟩⟩
 clear hP;obtain⟨q1,N1,c,hro,hrest⟩:=hP2;have ahk:q<=q1:=hro.adv.1;obtain⟨ra,rc,rcs,na,nc,eG,ta,tc,e,_⟩:=id hg;cases e;refine tl ?_
 repeat(first|(refine hS.aY ?_)|(refine hS.dQ ?_))
 refine ah (λ_=>?_) λc=>absurd trivial c;refine hS.eU ?_;refine hg.call hS hS.ext.next (λF' hF hg'=>ih q hpq hro hS.wf hg') λg' H5 hg hS=>?_
 have hqb:=hg.bd;obtain⟨ra,rc,rcs,na,nc,eG,ta,tc,rfl,_⟩:=id hg;refine aF ?_;have hS1:=hS;have hS:=hS.base;refine hS.abI λH6 r8 hS hx5=>?_
 repeat(first|(refine hS.eU ?_)|(refine hS.kJ λHn hS=>?_))
 have hg:=hg.turn hS;have hS:=hS1.over hS;have hS:SH [] H Hn (Lz rz rb [.slice ra rl.length rc,.slice na N1.length nc,.slice ta n tc,vn q1,vi 0,vi 0] gb):=SH.drop (A:=[_]) hS;have hg:YG n K T (Ot F H.next<|Lz rz rb [.slice ra rl.length rc,.slice na N1.length nc,.slice ta n tc,vn q1,vi 0,vi 0] gb) Hn _ q1 N1 rl:=hg.by λr _ h=>⟨h.1,λhm=>h.2<|aT _ hm⟩
 have hS1:=hS;have hS:=hS.base;refine hgb.push (hS.perm<|au (l₁:=[_,_])) aa rfl rfl rfl rfl rfl aa (by rw[aC];omega) λw v' H7 gY hgb' hS=>?_;have hS:=hS.perm<|au (l₂:=[_,_]);have hgb':GB 3 1 v' (fG<|ks++[c]) gY:=by rw[A_];exact hgb'
 have hg:=hg.turn hS;have hS:SH [] H H7 (Lz rz rb [.slice ra rl.length rc,.slice na N1.length nc,.slice ta n tc,vn q1,vi 0,vi 0] gY):=hS1.over hS;refine hS.dQ ?_;refine hS.aY ?_;refine ah (λc=>absurd trivial c) λ_=>?_;refine hS.eU ?_;refine az.mono (zA hS.wf hg) ?_;rintro v H8 ⟨rfl,hx⟩;have hg:=hg.ex hx;have hS:=hS.call hx;refine aF ?_;refine bq (λc6=>?_) λc6=>?_
 .rcases hrest with⟨h,_⟩|⟨_,h1,h2⟩
  .exact absurd h c6
  .exact out hgb' hS hg h1 h2
 .rcases hrest with⟨h1,h2⟩|⟨h,_⟩;rotate_left
  .exact absurd c6 h
  have hp1:q1+1<n:=by
   have:q1≠n-1:=λe=>by rw[e,hz]at h1;exact absurd h1 (by decide)
   omega
  refine tl ?_;have hS1:=hS;have hS:=hS.base;refine hS.aY ?_;refine hS.dQ ?_;refine PU.of (iN 1 rfl aa) ?_;refine hS.kJ λHn hS=>?_;have hg:=(hg.turn hS).to hp1 rfl;have hS:=hS1.over hS;exact⟨n-(q1+1),aa,_,_,_,_,_,rfl,q1+1,N1,ks++[c],gY,_,hgb',aa,by rw[ay];show ks.length+1<=_;omega,aa,h2,hS,hg⟩
theorem abZ(hz:K (n-1)=0):∀m p,n<=p+m->PZ 88 (.ch · []) n K T p/\PZ 126 (.ro · []) n K T p/\PZ 163 .at n K T p:=by
 intro m
 induction m with
 |zero=>
  intro p hk
  have no:∀(N:FuncId)(o:Nat->Op),PZ N o n K T p:=by
   intro N o d p' k nd zB _ F H g rl _ hg;exact absurd hg.bd aa
  exact⟨no _ (.ch · []),no _ (.ro · []),no _ .at⟩
 |succ m ih=>
  intro p hk;have ha:∀q,p<=q->PZ 163 .at n K T q:=λq hq=>ahj hz λr hr=>(ih r aa).1;have hr:∀q,p<=q->PZ 126 (.ro · []) n K T q:=λq hq=>aiB (λr h=>ha r aa) hz;exact⟨aaf hr hz,hr p<|aj _,ha p<|aj _⟩
end
section
variable{F:Nat->Prop}{x4 x5:Value}{r3:Nat}{u f w:Bool}{ch at':Int}
abbrev Lr(rz r3 rb:Nat)(l gl:List Value):List cz:=[(rz,34,[.slice none 0 0,.slice none 0 0,.slice none 0 0,vi 0,vi 0,vi 0]),(r3,87,l),(rb,34,gl)]
abbrev lr(t:ByteArray)(u f w:Bool)(ch:Int)(k:Nat)(at':Int):List Value:=[.string t,.bool u,.bool f,.bool w,vi ch,vn k,vi at']
abbrev RK(n:Nat)(K:Nat->Int)(T:Nat->ByteArray)(F:Nat->Prop)(H:ag)(p:Nat)(nd:List PN)(rl:List PR):=f_ Pg [.cell 2 34]<|Q1 (λv H'=>YG n K T (Nw F H.next) H' v p nd rl) H
theorem aiC(hS:SH [] H H1<|Lr rz r3 rb (lr t u f w ch k at') gl)(hg:YG n K T (Ot F H.next<|Lr rz r3 rb (lr t u f w ch k at') gl) H1 (.agg ⟨gl⟩) p nd rl)(hp:p+1<n)(hl:rl.length<120):dJ Pg X (sub bQ [1,1,1,1,1,1,1,1,1,1,1,1,1,1]) (dF x0 (pr rb) (pr rz) (pr r3) x4 x5 x6 rg H1) (RK n K T F H (p+1) nd<|rl++[(t,u,k)]):=by
 obtain⟨ra,rc,rcs,na,nc,eG,ta,tc,e,h2,h3,h4,h5,h6,h7,h8,h9⟩:=id hg;cases e;have hbd:=hg.bd;refine tl ?_;have hS1:=hS;have hS:=hS.base;refine hS.aY ?_;refine hS.dQ ?_;refine PU.of (iN 1 rfl aa) ?_;refine hS.kJ λHn hS=>?_;have hg:=(hg.turn hS).to hp rfl;have hS:=hS1.over hS;obtain⟨ra,rc,rcs,na,nc,eG,ta,tc,e,h2,h3,h4,h5,h6,h7,h8,h9⟩:=id hg;cases e;have hS1:=hS;have hS:=hS.base;refine hS.aeU λH4 a hS hc1=>?_;refine hS.kI ?_;refine hS.aY ?_;refine hS.aeV (n:=rl.length) (xs:=rcs) (Al (show Fl (hN<|hM Hn H4) ra rl.length 7 rcs from((h2.stay hS.ext λq hq=>.inl λh=>h.2 hq).1:Fl (hN<|hM Hn H4) ra rl.length 7 rcs)) aa) h2.1.1 aa λv2 H5 g2 hg2 hS hc2=>?_;have hS:=hS.perm<|au (l₂:=[_,_,_]);simp only[a_,bB]at hS;refine hS.nN ?_;refine hS.aY ?_;refine hS.U8 rfl rfl rfl aa λH6 ry hS hc3=>?_;have hS:=hS.perm (L':=(ry,87,lr t u f w ch k at')::(g2++Lr rz r3 rb (lr t u f w ch k at') [.slice ra rl.length rc,.slice na nd.length nc,.slice ta n tc,vn<|p+1,vi 0,vi 0]))<|(au (l₁:=[_,_,_]) (l₂:=g2)).cons _;refine hg2.aaa hS aa rfl rfl (by rw[h2.1.1];omega) λv3 H7 g3 hg3 hS hc4=>?_;have hS:=hS.perm<|au (l₂:=[_,_,_]);simp only[a_,bB]at hS;obtain⟨va,vl,vc,rfl⟩:=hg3.sl
 have hvl:vl=rl.length+1:=by
  obtain⟨_,_,_,e,h,_⟩:=hg3.Nn (F:=TT) (hS.perm<|au (l₁:=[_,_,_])) λ_ _=>trivial;cases e;rw[ay,h2.1.1]at h;simp at h;omega
 subst hvl;have n1:=hS.nq 1 2 rfl rfl aa;refine hS.qJ λHn hS=>?_;refine splitK (λK hK=>?_) ?_
 .simp only[hc1,hc2,hc3,cB,dn];rcases hc4 with e|e<;>rw[e]<;>apply q_ (a:=r3) (b:=rb) n1 (by intros;rfl) (by kernel_rfl) (by kernel_rfl) hK
 refine hS.eU ?_;refine hS.kJ λHn hS=>?_;have hx:=hS.ext;have hSf:=hS1.over hS;obtain⟨_,_,_,e,_,hf⟩:=hg3.Nn (F:=Nw F H.next) (hSf.perm<|au (l₁:=[_,_,_])) λe he=>.inr<|hSf.zN<|bD [_,_,_] he;cases e;have hE:=ze (es:=7) (n:=rl.length) h2.1.1 (xs:=lr t u f w ch k at') rfl;have hll:(rl++[(t,u,k)]).length=rl.length+1:=by rw[ay];rfl
 have nw:∀{H':ag} r,r<H'.next->Ot F H.next (Lr rz r3 rb (lr t u f w ch k at') [.slice ra rl.length rc,.slice na nd.length nc,.slice ta n tc,vn<|p+1,vi 0,vi 0]) r->Nw F H.next r:=λr _ h=>h.1
 have no:∀q∈(Lr rz r3 rb (lr t u f w ch k at') [.slice ra rl.length rc,.slice na nd.length nc,.slice ta n tc,vn<|p+1,vi 0,vi 0]).map (·.1),¬Ot F H.next (Lr rz r3 rb (lr t u f w ch k at') [.slice ra rl.length rc,.slice na nd.length nc,.slice ta n tc,vn<|p+1,vi 0,vi 0]) q:=λq hq h=>h.2 hq
 refine rr ?_;refine hSf.CU 0 rfl (aj 6) ?_;refine⟨⟨va,vc,_,na,nc,eG,ta,tc,by rw[hll];rfl,by rw[hll];exact hf,λi y hi=>?_,aa,(h5.stay hx λq hq=>.inl<|no q hq).by nw,λi x hi=>((h6 i x hi).st hx no).by nw,h7,(h8.st hx no).by nw,h9⟩,hSf.ext⟩;rcases aN i rl.length with h|h
 .rw[aP h]at hi;rw[show El (rcs++_) 7 i=_ from hE.1 i h];exact h3 i y hi
 .have hi2:=(aL.1 hi).1;obtain rfl:i=rl.length:=by omega
  rw[bf (aj _),dY]at hi;cases hi;rw[show El (rcs++_) 7 rl.length=_ from hE.2];exact⟨f,w,ch,at',rfl⟩
theorem ahl(hS:SH [] H H1<|Lr rz r3 rb (lr t u f w ch k at') gl)(hg:YG n K T (Ot F H.next<|Lr rz r3 rb (lr t u f w ch k at') gl) H1 (.agg ⟨gl⟩) p nd rl)(hz:K (n-1)=0)(h7:K p=7)(hl:rl.length<120):dJ Pg X (sub bQ [1,1,1,1,1,1,1,1,1,1,1,1,1]) (dF x0 (pr rb) (pr rz) (pr r3) x4 x5 x6 rg H1) (RK n K T F H (p+1) nd<|rl++[(t,u,k)]):=by
 have hbd:=hg.bd
 have hp:p+1<n:=by
  have:p≠n-1:=λe=>by rw[e,hz]at h7;exact absurd h7 (by decide)
  omega
 obtain⟨ra,rc,rcs,na,nc,eG,ta,tc,e,_⟩:=id hg;cases e;refine tl ?_
 repeat(first|(refine hS.aY ?_)|(refine hS.dQ ?_))
 refine ah (λ_=>?_) λc=>absurd trivial c;refine hS.eU ?_;refine az.mono (zA hS.wf hg) ?_;rintro v H4 ⟨rfl,hx⟩;have hg:=hg.ex hx;have hS:=hS.call hx;refine aF ?_;refine bq (λc=>absurd h7 c) λ_=>?_;exact aiC hS hg hp hl
theorem aiD(hS:SH [] H H1<|Lr rz r3 rb (lr t u f w ch k at') gl)(hg:YG n K T (Ot F H.next<|Lr rz r3 rb (lr t u f w ch k at') gl) H1 (.agg ⟨gl⟩) p nd rl)(hz:K (n-1)=0)(hc:K p≠15/\p2=p\/K p=15/\p2=p+2/\u=true/\(K (p+1)=1\/K (p+1)=2)/\(T (p+1)=⟨#[115,107,105,112]⟩\/T (p+1)=⟨#[104,105,100,100,101,110]⟩\/T (p+1)=⟨#[119,111,114,100]⟩))(h7:K p2=7)(hl:rl.length<120)(hk:BA rg 123=.bool (decide<|K p=15)):
 dJ Pg X (sub bQ [1,1,1,1,1,1,1,1,1,1,1,1,0,1]) (dF x0 (pr rb) (pr rz) (pr r3) x4 x5 x6 rg H1) (nR Pg X (sub bQ [1,1,1,1,1,1,1,1,1,1,1,1,1])<|RK n K T F H (p2+1) nd<|rl++[(t,u,k)]):=by
 have hbd:=hg.bd;obtain⟨ra,rc,rcs,na,nc,eG,ta,tc,e,_⟩:=id hg;cases e;refine tl ?_;rw[hk];refine aF ?_;rcases hc with⟨h1,rfl⟩|⟨h1,rfl,rfl,h2,h3⟩
 .rw[bM h1];refine aF ?_;exact ahl hS hg hz h7 hl
 have hp:p+1<n:=by
  have:p≠n-1:=λe=>by rw[e,hz]at h1;exact absurd h1 (by decide)
  omega
 have hp2:p+2<n:=by
  have:p+1≠n-1:=λe=>by rw[e,hz]at h2;exact absurd h2 (by decide)
  omega
 rw[aS h1];have hS1:=hS;have hS:=hS.base;refine hS.aY ?_;refine hS.dQ ?_;refine PU.of (iN 1 rfl aa) ?_;refine hS.kJ λHn hS=>?_;refine hS.dQ ?_;refine hS.dQ ?_;have hg:=(hg.turn hS).to hp rfl;have hS:=hS1.over hS;obtain⟨_,_,_,_,_,_,_,_,e,_,_,_,_,_,_,⟨_,_,cs,e2,hf,hrow⟩,_⟩:=id hg;cases e;cases e2;obtain⟨Pe,e',t',x,hk,hT,_,hset⟩:=hrow (p+1) hp;obtain⟨sa,sn,sc,zs,rfl,_⟩:=id hset;obtain rfl:=hT h2;refine hf.ixN aa hp hk λq=>?_;have hS1:=hS;have hS:=hS.base;refine hS.mO rfl rfl rfl λH3 rt hS hx3=>?_
 repeat(first|(refine hS.aY ?_)|(refine hS.dQ ?_))
 have go:∀{rg},dJ Pg X (sub bQ [1,1,1,1,1,1,1,1,1,1,1,1,0,1,0,1,1,1]) (dF x0 (pr rb) (pr rz) (pr r3) x4 (pr rt) x6 rg H3) (nR Pg X (sub bQ [1,1,1,1,1,1,1,1,1,1,1,1,1])<|RK n K T F H (p+2+1) nd<|rl++[(t,true,k)]):=by
  intro rg
  have on:∀{H4:ag}{x6 rg w ch},SH ((Lr rz r3 rb (lr t true f w ch k at') [.slice ra rl.length rc,.slice na nd.length nc,.slice ta n tc,vn<|p+1,vi 0,vi 0]).map (·.1)) Hn H4 ((rt,153,[vi (K<|p+1),vn Pe,vn e',.string<|T<|p+1,.slice sa sn sc])::Lr rz r3 rb (lr t true f w ch k at') [.slice ra rl.length rc,.slice na nd.length nc,.slice ta n tc,vn<|p+1,vi 0,vi 0])->dJ Pg X (sub bQ [1,1,1,1,1,1,1,1,1,1,1,1,0,1,0,1,1,1,1,1]) (dF x0 (pr rb) (pr rz) (pr r3) x4 (pr rt) x6 rg H4) (nR Pg X (sub bQ [1,1,1,1,1,1,1,1,1,1,1,1,1])<|RK n K T F H (p+2+1) nd<|rl++[(t,true,k)]):=by
   intro H4 x6 rg w ch hS;refine tl ?_;refine hS.aY ?_;refine hS.dQ ?_;refine PU.of (iN 1 rfl aa) ?_;refine hS.kJ λHn hS=>?_;have hg:=(hg.turn hS).to hp2 rfl;have hS:SH [] H Hn (Lr rz r3 rb (lr t true f w ch k at') [.slice ra rl.length rc,.slice na nd.length nc,.slice ta n tc,vn<|p+1+1,vi 0,vi 0]):=SH.drop (A:=[_])<|hS1.over hS;exact ahl hS (hg.by λr _ h=>⟨h.1,λhm=>h.2<|aT _ hm⟩) hz h7 hl
  refine tl ?_
  repeat(first|(refine hS.aY ?_)|(refine hS.dQ ?_))
  refine(show∀{a b:Prop},b->zk (some !true) a b fromλh=>h) ?_;refine hS.dQ ?_;refine hS.aY ?_;refine ah (λc1=>?_) λc1=>?_
  .refine hS.kJ λHn hS=>?_;exact on (w:=w) (ch:=2) hS
  refine ah (λc2=>?_) λc2=>?_
  .refine hS.kJ λHn hS=>?_;exact on (w:=w) (ch:=1) hS
  refine ah (λc3=>?_) λc3=>?_
  .refine hS.kJ λHn hS=>?_;exact on (w:=true) (ch:=ch) hS
  .rcases h3 with h|h|h
   .exact absurd h c1
   .exact absurd h c2
   .exact absurd h c3
 refine bq (λc1=>?_) λc1=>go;refine hS.dQ ?_;refine hS.aY ?_;refine bq (λc2=>absurd (h2.resolve_left c1) c2) λ_=>go
theorem aiE(ih:∀p,PZ 88 (.ch · []) n K T p)(hS:SH [] H H1<|Lr rz r3 rb (lr t u f w ch 0 at') gl)(hg:YG n K T (Ot F H.next<|Lr rz r3 rb (lr t u f w ch 0 at') gl) H1 (.agg ⟨gl⟩) p nd rl)(hz:K (n-1)=0)(hp:p+1<n)(h5:K (p+1)=5)(hP:Ps K T (.ch 0 []) (p+2) nd p1 zB k)(hc:K p1≠15/\p2=p1\/K p1=15/\p2=p1+2/\u=true/\(K (p1+1)=1\/K (p1+1)=2)/\(T (p1+1)=⟨#[115,107,105,112]⟩\/T (p1+1)=⟨#[104,105,100,100,101,110]⟩\/T (p1+1)=⟨#[119,111,114,100]⟩))(h7:K p2=7)(hl:rl.length<120):
 dJ Pg X (sub bQ [1,1,1,1,1,1,1,1]) (dF x0 (pr rb) (pr rz) (pr r3) x4 x5 x6 rg H1) (RK n K T F H (p2+1) zB<|rl++[(t,u,k)]):=by
 have hbd:=hg.bd
 have hp2:p+2<n:=by
  have:p+1≠n-1:=λe=>by rw[e,hz]at h5;exact absurd h5 (by decide)
  omega
 obtain⟨ra,rc,rcs,na,nc,eG,ta,tc,e,_⟩:=id hg;cases e;refine tl ?_;have hS1:=hS;have hS:=hS.base;refine hS.aY ?_;refine hS.dQ ?_;refine PU.of (iN 1 rfl aa) ?_;refine hS.kJ λHn hS=>?_;refine hS.eU ?_;have hg:=(hg.turn hS).to hp rfl;have hS:=hS1.over hS;refine az.mono (zA hS.wf hg) ?_;rintro v H4 ⟨rfl,hx⟩;have hg:=hg.ex hx;have hS:=hS.call hx;refine aF ?_;refine bq (λc=>absurd h5 c) λ_=>?_;have hS1:=hS;have hS:=hS.base;refine hS.dQ ?_;refine PU.of (iN 1 rfl aa) ?_;refine hS.kJ λHn hS=>?_;refine hS.eU ?_;have hg:=(hg.turn hS).to hp2 rfl;have hS:=hS1.over hS;refine hg.call hS hS.ext.next (λF' hF hg'=>ih (p+2) hP hS.wf hg') λg' H5 hg hS=>?_
 have hqb:=hg.bd;obtain⟨ra,rc,rcs,na,nc,eG,ta,tc,rfl,_⟩:=id hg;refine aF ?_;have hS1:=hS;have hS:=hS.base
 repeat(first|(refine hS.aY ?_)|(refine hS.dQ ?_)|(refine hS.kJ λHn hS=>?_))
 refine ah (λ_=>?_) λc=>absurd trivial c;refine hS.eU ?_;have hg:=hg.turn hS;have hS:SH [] H Hn (Lr rz r3 rb (lr t u f w ch k at') [.slice ra rl.length rc,.slice na zB.length nc,.slice ta n tc,vn p1,vi 0,vi 0]):=hS1.over hS;refine az.mono (zA hS.wf hg) ?_;rintro v H6 ⟨rfl,hx⟩;have hg:=hg.ex hx;have hS:=hS.call hx;refine aF ?_;exact aiD hS hg hz hc h7 hl rfl
theorem ahm(ih:∀p,PZ 88 (.ch · []) n K T p)(hS:SH [] H H1<|Lr rz r3 rb (lr ⟨#[]⟩ false f false 0 0 0) gl)(hg:YG n K T (Ot F H.next<|Lr rz r3 rb (lr ⟨#[]⟩ false f false 0 0 0) gl) H1 (.agg ⟨gl⟩) p nd rl)(hz:K (n-1)=0)(hq:K p=1\/K p=2)(hf:¬(f=true/\K p=2))(h5:K (p+1)=5)(hP:Ps K T (.ch 0 []) (p+2) nd p1 zB k)(hc:K p1≠15/\p2=p1\/K p1=15/\p2=p1+2/\K p=1/\(K (p1+1)=1\/K (p1+1)=2)/\(T (p1+1)=⟨#[115,107,105,112]⟩\/T (p1+1)=⟨#[104,105,100,100,101,110]⟩\/T (p1+1)=⟨#[119,111,114,100]⟩))(h7:K p2=7)(hl:rl.length<120):
 dJ Pg X (sub bQ [1,1,1]) (dF x0 (pr rb) (pr rz) (pr r3) x4 x5 x6 rg H1) (RK n K T F H (p2+1) zB<|rl++[(T p,decide<|K p=1,k)]):=by
 have hbd:=hg.bd
 have hp:p+1<n:=by
  have:p≠n-1:=λe=>by rw[e,hz]at hq;exact absurd hq (by decide)
  omega
 obtain⟨ra,rc,_,na,nc,_,ta,tc,e,_,_,_,_,_,_,⟨_,_,cs,e2,hfl,hrow⟩,_⟩:=id hg;cases e;cases e2;obtain⟨Pe,e',t',x,hk,hT,_,hset⟩:=hrow p hbd.1;obtain⟨sa,sn,sc,zs,rfl,_⟩:=id hset;obtain rfl:=hT hq;refine tl ?_;refine hS.aY ?_;refine hS.dQ ?_;refine hS.dQ ?_;refine hfl.ixN aa hbd.1 hk λq=>?_;have hS1:=hS;have hS:=hS.base;refine hS.mO rfl rfl rfl λH3 rt hS hx3=>?_
 repeat(first|(refine hS.aY ?_)|(refine hS.dQ ?_))
 have go:∀{rg},dJ Pg X (sub bQ [1,1,1,1,1]) (dF x0 (pr rb) (pr rz) (pr r3) (pr rt) x5 x6 rg H3) (RK n K T F H (p2+1) zB<|rl++[(T p,decide<|K p=1,k)]):=by
  intro rg;refine tl ?_
  repeat(first|(refine hS.aY ?_)|(refine hS.dQ ?_))
  refine ah (λc=>absurd c aa) λ_=>?_;have n1:=hS.nq 0 2 rfl rfl aa
  repeat(first|(refine hS.aY ?_)|(refine hS.kI ?_)|(refine hS.qJ λHn hS=>?_))
  refine splitK (λK hK=>?_) ?_
  .simp only[cB,dn];apply q_ (a:=rt) (b:=r3) n1 (by intros;rfl) (by kernel_rfl) (by kernel_rfl) hK
  refine hS.dQ ?_;refine hS.aY ?_;have hg:=hg.turn hS;have hS:SH [] H _ (Lr rz r3 rb (lr (T p) (decide<|K p=1) f false 0 0 Pe) [.slice ra rl.length rc,.slice na nd.length nc,.slice ta n tc,vn p,vi 0,vi 0]):=SH.drop (A:=[_])<|hS1.over hS;have hg:YG n K T (Ot F H.next<|Lr rz r3 rb (lr (T p) (decide<|K p=1) f false 0 0 Pe) [.slice ra rl.length rc,.slice na nd.length nc,.slice ta n tc,vn p,vi 0,vi 0]) _ _ p nd rl:=hg.by λr _ h=>⟨h.1,λhm=>h.2<|aT _ hm⟩
  have go:=λ{rg:Rs}=>aiE (x0:=x0) (x4:=pr rt) (x5:=x5) (x6:=x6) (rg:=rg) ih hS hg hz hp h5 hP (hc.imp_right λ⟨h1,h2,h3,h4⟩=>⟨h1,h2,aS h3,h4⟩) h7 hl;cases f
  .exact go
  .repeat(first|(refine hS.aY ?_)|(refine hS.dQ ?_))
   refine bq (λc1=>absurd ⟨rfl,hq.resolve_left c1⟩ hf) λc1=>go
 refine bq (λc1=>?_) λc1=>go;refine hS.dQ ?_;refine hS.aY ?_;refine bq (λc2=>absurd (hq.resolve_left c1) c2) λ_=>go
theorem ahn(ih:∀p,PZ 88 (.ch · []) n K T p)(hz:K (n-1)=0)(hw:Wf H)(hg:YG n K T F H g p nd rl)(hR:RuP K T p nd rl p' zB Uf):az Pg X 35 [g] H (Q1 (λv H'=>YG n K T (Nw F H.next) H' v p' zB Uf) H):=by
 obtain⟨f,q,p1,p2,k,hf,rfl,hq,hl,hfq,h5,hP,hc,h7,rfl,rfl⟩:=hR;have hbd:=hg.bd
 have hpn:K p≠0->p+1<n:=λh=>by
  have:p≠n-1:=λe=>h<|e▸hz;omega
 obtain⟨ra,rc,_,na,nc,_,ta,tc,rfl,_,_,_,_,_,_,⟨_,_,cs,e2,hfl,hrow⟩,_⟩:=id hg;cases e2;have hS:=SH.refl hw;refine ce [0,1,2,3,4,5,153] ?_;refine tl ?_;refine hS.box rfl λH1 rb hS=>?_;refine hS.iI λH2 rz hS=>?_;refine hS.aY ?_;refine PU.b7 rfl ?_;refine hS.mO rfl rfl rfl λH3 r3 hS hx3=>?_;have hS:SH [] H H3 (Lr rz r3 rb (lr ⟨#[]⟩ false false false 0 0 0) [.slice ra rl.length rc,.slice na nd.length nc,.slice ta n tc,vn p,vi 0,vi 0]):=hS.perm<|.swap _ _ _
 have fr:∀{H4:ag}{rg:Rs}(b:Bool),BA rg 50=.bool b->(f=true<->b=true)->SH [] H H4 (Lr rz r3 rb (lr ⟨#[]⟩ false false false 0 0 0) [.slice ra rl.length rc,.slice na nd.length nc,.slice ta n tc,vn p,vi 0,vi 0])->dJ Pg X (sub bQ [1,1,0,1]) (dF (.agg ⟨[.slice ra rl.length rc,.slice na nd.length nc,.slice ta n tc,vn p,vi 0,vi 0]⟩) (pr rb) (pr rz) (pr r3) top top top rg H4) (nR Pg X (sub bQ [1,1,1])<|RK n K T F H (p2+1) zB<|rl++[(T (if f=true then p+1 else p),decide<|K (if f=true then p+1 else p)=1,k)]):=by
  intro H4 rg b hk hb hS;obtain rfl:f=b:=by cases f<;>cases b<;>simp_all
  have hg:=hg.own hS;refine tl ?_;rw[hk];cases f
  .refine hS.aY ?_;exact ahm (p:=p) ih hS hg hz hq hfq h5 hP hc h7 hl
  .have hS1:=hS;have hS:=hS.base;have hp:=hpn (by rw[(hf.1 rfl).1];decide);refine hS.aY ?_;refine hS.kJ λHn hS=>?_;refine hS.dQ ?_;refine PU.of (iN 1 rfl aa) ?_;refine hS.kJ λHn hS=>?_;exact ahm (p:=p+1) ih (hS1.over hS) ((hg.turn hS).to hp rfl) hz hq hfq h5 hP hc h7 hl
 obtain⟨r,o,e1,hr,hcl,_⟩:=hfl.1.idx (c:=tc) aa hbd.1;obtain⟨Pe,e',t',x,hk,hT,_,hset⟩:=hrow p hbd.1
 have h3:cs[p*5+3]?=some (.string t'):=by
  have:=bW (λl=>l[3]?) hk;simp only[j4]at this;simpa using this
 repeat(refine hS.dQ ?_)
 refine PU.of e1 ?_;refine aF ?_;refine hS.E8 (hcl 3 _ aa h3) hr ?_;refine hS.aY ?_;refine ah (λc1=>?_) λc1=>fr false rfl ⟨λh=>absurd ((hT<|.inr (hf.1 h).1).trans (hf.1 h).2.1) c1,λh=>nomatch h⟩ hS;refine hS.eU ?_;refine az.mono (zA hS.wf<|hg.own hS) ?_;rintro v H4 ⟨rfl,hx⟩;have hS:=hS.call hx;refine aF ?_;refine ah (λc2=>?_) λc2=>fr false rfl ⟨λh=>absurd (hf.1 h).1 c2,λh=>nomatch h⟩ hS;have hp:=hpn (by rw[c2];decide);refine hS.dQ ?_;refine PU.of (iN 1 rfl aa) ?_;refine hS.dQ ?_;refine hS.aY ?_;refine ah (λ_=>?_) λc=>absurd (show((p+1:Nat):Int)<(n:Int) by omega) c;obtain⟨r5,o5,e5,hr5,aho,_⟩:=hfl.1.idx (c:=tc) aa hp;obtain⟨_,_,_,_,hk5,_⟩:=hrow (p+1) hp
 have h0:cs[(p+1)*5+0]?=some (vi<|K<|p+1):=by
  have:=bW (λl=>l[0]?) hk5;simp only[j4]at this;simpa using this
 repeat(refine hS.dQ ?_)
 refine PU.of (iN 1 rfl aa) ?_;refine PU.of e5 ?_;refine aF ?_;refine hS.E8 (aho 0 _ aa h0) hr5 ?_;refine hS.aY ?_;have hn:K p=2/\T p=⟨#[102,114,97,103,109,101,110,116]⟩:=⟨c2,(hT<|.inr c2).symm.trans c1⟩;refine ah (λc3=>fr true rfl ⟨λ_=>rfl,λ_=>hf.2 ⟨hn.1,hn.2,.inl c3⟩⟩ hS) λc3=>?_
 repeat(refine hS.dQ ?_)
 refine PU.of (iN 1 rfl aa) ?_;refine PU.of e5 ?_;refine aF ?_;refine hS.E8 (aho 0 _ aa h0) hr5 ?_;refine hS.aY ?_;exact fr (decide<|K (p+1)=2) rfl ⟨λh=>aS<|(hf.1 h).2.2.resolve_left c3,λh=>hf.2 ⟨hn.1,hn.2,.inr<|cZ h⟩⟩ hS
end
section
variable{F:Nat->Prop}
theorem w9.ow(h:w9 F H v n K T)(hF:∀r,r<H.next->(wR H r 153\/wR H r 230)->F r->F' r):w9 F' H v n K T:=
 let⟨a,c,cs,h1,h2,h3⟩:=h
 ⟨a,c,cs,h1,⟨h2.1,λr o e hn=>let⟨g1,g2,g3⟩:=h2.2 r o e hn;⟨hF r g2 (.inl g3) g1,g2,g3⟩⟩,λi hi=>let⟨a,e,t',x,g1,g2,g3,⟨b,m,c,zs,f1,f2,f3⟩⟩:=h3 i hi;⟨a,e,t',x,g1,g2,g3,⟨b,m,c,zs,f1,⟨f2.1,λr o e hn=>let⟨g1,g2,g3⟩:=f2.2 r o e hn;⟨hF r g2 (.inr g3) g1,g2,g3⟩⟩,f3⟩⟩⟩
theorem RuP.lt(h:RuP K T p nd rl p' zB Uf):p<p':=by
 obtain⟨f,q,p1,p2,k,hf,rfl,hq,hl,hfq,h5,hP,hc,h7,rfl,rfl⟩:=h;have:=hP.adv.1;split at this<;>omega
theorem ahp(hw:Wf H)(s:ByteArray)(hs:s.size<=20000)(hn:n<=20001)(h:Lx s K T n 0 0)(hz:K (n-1)=0)(hG:O9 K T 0 [] [] nd rl):az Pg X 10 [.string s] H (Q1 (λv H'=>∃q,YG n K T TT H' v q nd rl) H):=by
 have h0:0<n:=by obtain⟨b,_,h⟩:=h.hd;exact h.2.1
 have ih:∀p,PZ 88 (.ch · []) n K T p:=λp=>(abZ hz n p aa).1;have hS:=SH.refl hw;refine ce [0,2,3,4,5,6,7] ?_;refine tl ?_;refine hS.iI λH1 rz hS=>?_;refine az.mono (aiy hS.wf s hs hn h) ?_;rintro v H2 ⟨⟨x,rfl,hT⟩,hx⟩;have hS:=hS.call hx;refine aF ?_;refine ah (λc=>absurd trivial c) λ_=>?_;obtain⟨ta,tc,cs,rfl,hT2⟩:=id hT;refine PU.b6 rfl ?_;refine hS.aY ?_;refine hS.mO rfl rfl rfl λH3 rb hS hx3=>?_;have hS:SH [] H H3 [(rb,34,[.slice none 0 0,.slice none 0 0,.slice ta n tc,vi 0,vi 0,vi 0]),(rz,34,[.slice none 0 0,.slice none 0 0,.slice none 0 0,vi 0,vi 0,vi 0])]:=hS;have hT:w9 (Ot TT H.next [(rb,34,[.slice none 0 0,.slice none 0 0,.slice ta n tc,vi 0,vi 0,vi 0]),(rz,34,[.slice none 0 0,.slice none 0 0,.slice none 0 0,vi 0,vi 0,vi 0])]) H3 (.slice ta n tc) n K T:=(hT.st hx3 λq h=>nomatch h).ow λr _ h _=>⟨.inl trivial,λhm=>h.elim (hS.Gt rfl r hm)<|hS.Gt rfl r hm⟩;have hg:YG n K T (Ot TT H.next [(rb,34,[.slice none 0 0,.slice none 0 0,.slice ta n tc,vi 0,vi 0,vi 0]),(rz,34,[.slice none 0 0,.slice none 0 0,.slice none 0 0,vi 0,vi 0,vi 0])]) H3 (.agg ⟨[.slice none 0 0,.slice none 0 0,.slice ta n tc,vi 0,vi 0,vi 0]⟩) 0 [] []:=⟨none,0,[],none,0,[],ta,tc,rfl,jT.nil _ _ _ _ _,(λ_ _ h=>nomatch h),by simp,jT.nil _ _ _ _ _,(λ_ _ h=>nomatch h),by simp,hT,h0,hn⟩;refine zm 7 (I:=λm x7 H'=>∃p N R b gl,x7=.bool b/\p+m=n/\(b=false/\K p=0/\N=nd/\R=rl\/(b=true\/K p≠0)/\O9 K T p N R nd rl)/\SH [] H H' [(rb,34,gl),(rz,34,[.slice none 0 0,.slice none 0 0,.slice none 0 0,vi 0,vi 0,vi 0])]/\YG n K T (Ot TT H.next [(rb,34,gl),(rz,34,[.slice none 0 0,.slice none 0 0,.slice none 0 0,vi 0,vi 0,vi 0])]) H' (.agg ⟨gl⟩) p N R) ?_ n ⟨0,[],[],true,_,rfl,aa,.inr ⟨.inl rfl,hG⟩,hS,hg⟩;clear hS hg hT hT2 hG;rintro m x7 rg H4 ⟨p,N,R,b,gl,rfl,hpm,hor,hS,hg⟩;have hqb:=hg.bd;obtain⟨ra,rc,rcs,na,nc,eG,ta',tc',e,_⟩:=id hg;cases e
 have more:O9 K T p N R nd rl->∀(Kp:Out->Prop),(∀{p1 N1 R1}{gl:List Value}{H5:ag}{rg:Rs},p<p1->(K p1=0/\N1=nd/\R1=rl\/K p1≠0/\O9 K T p1 N1 R1 nd rl)->SH [] H H5 [(rb,34,gl),(rz,34,[.slice none 0 0,.slice none 0 0,.slice none 0 0,vi 0,vi 0,vi 0])]->YG n K T (Ot TT H.next [(rb,34,gl),(rz,34,[.slice none 0 0,.slice none 0 0,.slice none 0 0,vi 0,vi 0,vi 0])]) H5 (.agg ⟨gl⟩) p1 N1 R1->Kp (.norm<|sK (.string s) (pr rz) (.slice ta n tc) (vi 0) (vi 0) (pr rb) (.bool false) rg H5))->∀{H5:ag}{x7:Value}{rg:Rs},SH [] H H5 [(rb,34,[.slice ra R.length rc,.slice na N.length nc,.slice ta' n tc',vn p,vi 0,vi 0]),(rz,34,[.slice none 0 0,.slice none 0 0,.slice none 0 0,vi 0,vi 0,vi 0])]->YG n K T (Ot TT H.next [(rb,34,[.slice ra R.length rc,.slice na N.length nc,.slice ta' n tc',vn p,vi 0,vi 0]),(rz,34,[.slice none 0 0,.slice none 0 0,.slice none 0 0,vi 0,vi 0,vi 0])]) H5 (.agg ⟨[.slice ra R.length rc,.slice na N.length nc,.slice ta' n tc',vn p,vi 0,vi 0]⟩) p N R->dJ Pg X (sub zI [1,1,1,1,0,1,0,0,1]) (sK (.string s) (pr rz) (.slice ta n tc) (vi 0) (vi 0) (pr rb) x7 rg H5) Kp:=by
  intro hG Kp kk H5 x7 rg hS hg
  have hG:∃p1 N1 R1,RuP K T p N R p1 N1 R1/\(K p1=0/\N1=nd/\R1=rl\/K p1≠0/\O9 K T p1 N1 R1 nd rl):=by
   cases hG with
   |one _ _ _ _ _ _ h1 h2=>exact⟨_,_,_,h1,.inl ⟨h2,rfl,rfl⟩⟩
   |more _ _ _ _ _ _ _ _ h1 h2 h3=>exact⟨_,_,_,h1,.inr ⟨h2,h3⟩⟩
  obtain⟨p1,N1,R1,hR,hG⟩:=hG;refine tl ?_;refine hS.eU ?_;refine az.mono (ahn ih hz hS.wf (hg.by (F':=λr=>Ot TT H.next [(rb,34,[.slice ra R.length rc,.slice na N.length nc,.slice ta' n tc',vn p,vi 0,vi 0]),(rz,34,[.slice none 0 0,.slice none 0 0,.slice none 0 0,vi 0,vi 0,vi 0])] r/\r<H5.next) λr h1 h2=>⟨h2,h1⟩) hR) ?_;rintro v H6 ⟨hg',hx⟩
  have hg:=hg'.by (F':=Ot TT H.next [(rb,34,[.slice ra R.length rc,.slice na N.length nc,.slice ta' n tc',vn p,vi 0,vi 0]),(rz,34,[.slice none 0 0,.slice none 0 0,.slice none 0 0,vi 0,vi 0,vi 0])]) λr _ h=>by
   rcases h with h|h
   .exact h.1
   .refine⟨.inl trivial,λhm=>?_⟩;obtain⟨e,he,rfl⟩:=aZ.1 hm;exact jF h (hS.lo e he).2
  have hS:=hS.call hx;obtain⟨ra,rc,rcs,na,nc,eG,ta',tc',rfl,_⟩:=id hg;have hS1:=hS;have hS:=hS.base;refine hS.kJ λHn hS=>?_;have hg:=hg.turn hS;exact kk hR.lt hG (hS1.over hS) hg
 refine tl ?_
 repeat(first|(refine hS.aY ?_)|(refine hS.dQ ?_))
 refine ah (λ_=>?_) λc=>absurd trivial c;cases b
 .refine hS.aY ?_;refine hS.eU ?_;refine az.mono (zA hS.wf hg) ?_;rintro v H5 ⟨rfl,hx⟩;have hg:=hg.ex hx;have hS:=hS.call hx;refine aF ?_;refine bq (λc1=>?_) λc1=>?_
  .refine more ?_ _ (λ{p1 N1 R1 gl H5 rg} h1 h2 h3 h4=>?_) hS hg
   .rcases hor with h|h
    .exact absurd h.2.1 c1
    .exact h.2
   have hb:=h4.bd;refine aF ?_;exact⟨n-p1,aa,_,_,_,rfl,p1,N1,R1,false,gl,rfl,aa,h2.imp (λh=>⟨rfl,h⟩) λh=>⟨.inr h.1,h.2⟩,h3,h4⟩
  rcases hor with⟨_,_,rfl,rfl⟩|h;rotate_left
  .exact absurd c1<|h.1.resolve_left λh=>nomatch h
  refine tl ?_
  repeat(first|(refine hS.aY ?_)|(refine hS.dQ ?_))
  refine bq (λc=>absurd trivial c) λ_=>?_;have hS1:=hS;have hS:=hS.base;refine hS.eU ?_;refine hS.kJ λHn hS=>?_;have hg:=hg.turn hS;have hS:=hS1.over hS;refine rr ?_;refine hS.CU 1 rfl (aj 6) ?_;exact⟨⟨_,hg.by λ_ _ _=>trivial⟩,hS.ext⟩
 .refine hS.aY ?_;refine more (hor.resolve_left λh=>nomatch h.1).2 _ (λ{p1 N1 R1 gl H5 rg} h1 h2 h3 h4=>?_) hS hg;have hb:=h4.bd;refine aF ?_;exact⟨n-p1,aa,_,_,_,rfl,p1,N1,R1,false,gl,rfl,aa,h2.imp (λh=>⟨rfl,h⟩) λh=>⟨.inr h.1,h.2⟩,h3,h4⟩
end
section
variable{F:Nat->Prop}{y:PR}
theorem RuY.at(h:RuY (El cs 7 i) y):cs[i*7+0]?=some (.string y.1)/\cs[i*7+1]?=some (.bool y.2.1)/\cs[i*7+5]?=some (vn y.2.2):=by
 obtain⟨f,w,ch,at',hk⟩:=h;refine⟨?_,?_,?_⟩
 .have:=bW (λl=>l[0]?) hk;simp only[j4]at this;simpa using this
 .have:=bW (λl=>l[1]?) hk;simp only[j4]at this;simpa using this
 .have:=bW (λl=>l[5]?) hk;simp only[j4]at this;simpa using this
theorem Dw(h:i<rl.length):rl[i]?=some (i_ rl i):=by
 show rl[i]?=some (rl[i]?.getD _);rw[ae h];rfl
theorem R_(hw:Wf H)(hg:YG n K T F H g p nd rl)(hi:i<=rl.length):az Pg X 36 [g,vn i] H (Q1 (λv _=>v=vn (fB (i_ rl) i)) H):=by
 obtain⟨ra,rc,rcs,na,nc,eG,ta,tc,rfl,h2,h3,h4,_⟩:=hg;have hS:=SH.refl hw;refine ce [0,1,2,4,5,6] ?_;refine tl ?_;refine hS.box rfl λH1 rb hS=>?_;refine lp2 5 6 (I:=λm x5 x6 H'=>∃j,x5=vn (fB (i_ rl) j)/\x6=vn j/\j+m=i/\SH [] H H' [(rb,34,[.slice ra rl.length rc,.slice na nd.length nc,.slice ta n tc,vn p,vi 0,vi 0])]) ?_ i ⟨0,rfl,rfl,aa,hS⟩;clear hS;rintro m x5 x6 rg H2 ⟨j,rfl,rfl,hj,hS⟩;refine tl ?_;refine hS.aY ?_;refine ah (λc=>?_) λc=>?_
 .have hjl:j<rl.length:=by omega
  obtain⟨_,g1,_⟩:=(h3 j _<|Dw hjl).at
  obtain⟨r,o,e1,hr,hcl,_⟩:=h2.1.idx (c:=rc) aa hjl;have:=G_ (y:=i_ rl) j;refine hS.dQ ?_;refine PU.of e1 ?_;refine aF ?_;refine hS.E8 (hcl 1 _ aa g1) hr ?_;refine hS.aY ?_;have hl:fB (i_ rl) (j+1)=fB (i_ rl) j+(if(i_ rl j).2.1=true then 0 else 1):=rfl;cases hu:(i_ rl j).2.1
  .rw[hu]at hl;refine(show∀{a b:Prop},a->zk (some !false) a b fromλh=>h) ?_;refine PU.of (iN 1 rfl aa) ?_;refine PU.of (iN 1 rfl aa) ?_;exact⟨m-1,aa,_,_,_,_,rfl,j+1,by rw[hl];rfl,rfl,aa,hS⟩
  .rw[hu]at hl;refine(show∀{a b:Prop},b->zk (some !true) a b fromλh=>h) ?_;refine PU.of (iN 1 rfl aa) ?_;exact⟨m-1,aa,_,_,_,_,rfl,j+1,by rw[hl];rfl,rfl,aa,hS⟩
 .obtain rfl:j=i:=by omega
  refine tl ?_;refine rr ?_;exact⟨rfl,hS.ext⟩
theorem ahq(hw:Wf H)(hg:YG n K T F H g p nd rl):az Pg X 59 [g,.string t] H (Q1 (λv _=>(∃j,v=vn j/\j<rl.length/\(i_ rl j).1=t/\∀i,i<j->(i_ rl i).1≠t)\/v=vi (-1)/\∀i,i<rl.length->(i_ rl i).1≠t) H):=by
 obtain⟨ra,rc,rcs,na,nc,eG,ta,tc,rfl,h2,h3,h4,_⟩:=hg;have hS:=SH.refl hw;refine ce [0,1,2,4,5] ?_;refine tl ?_;refine hS.box rfl λH1 rb hS=>?_;refine zm 5 (I:=λm x5 H'=>∃j,x5=vn j/\j+m=rl.length/\(∀i,i<j->(i_ rl i).1≠t)/\SH [] H H' [(rb,34,[.slice ra rl.length rc,.slice na nd.length nc,.slice ta n tc,vn p,vi 0,vi 0])]) ?_ rl.length ⟨0,rfl,aa,λi h=>absurd h<|fI i,hS⟩;clear hS;rintro m x5 rg H2 ⟨j,rfl,hj,hno,hS⟩;refine tl ?_
 repeat(first|(refine hS.aY ?_)|(refine hS.dQ ?_))
 refine ah (λc=>?_) λc=>?_
 .have hjl:j<rl.length:=by omega
  obtain⟨g1,_⟩:=(h3 j _<|Dw hjl).at
  obtain⟨r,o,e1,hr,hcl,_⟩:=h2.1.idx (c:=rc) aa hjl;refine hS.dQ ?_;refine PU.of e1 ?_;refine aF ?_;refine hS.E8 (hcl 0 _ aa g1) hr ?_;refine hS.aY ?_;refine ah (λe=>?_) λe=>?_
  .refine rr ?_;exact⟨.inl ⟨j,rfl,hjl,e,hno⟩,hS.ext⟩
  .refine PU.of (iN 1 rfl aa) ?_
   exact⟨m-1,aa,_,_,_,rfl,j+1,rfl,aa,λi hi=>by
    rcases aN i j with h|h
    .exact hno i h
    .obtain rfl:i=j:=by omega
     exact e,hS⟩
 .obtain rfl:j=rl.length:=by omega
  refine tl ?_;refine rr ?_;exact⟨.inr ⟨rfl,hno⟩,hS.ext⟩
theorem Hl{y:Nat->PR}:∀m,(∀i,i<m->(y i).1≠t\/(y i).2.1=true)->mV y t m=none
 |0,_=>rfl
 |m+1,h=>by rw[sV (.inr<|h m aa)];exact Hl m λi hi=>h i aa
theorem K_{y:Nat->PR}{x:Nat}(h:mV y t j=some x):∀m,j<=m->mV y t m=some x
 |0,hm=>by obtain rfl:j=0:=by omega
           exact h
 |m+1,hm=>by
  rcases lV hm with rfl|h1
  .exact h
  .have:=K_ h m aa;rw[sV (.inl (by rw[this];simp)),this]
theorem VT(hu:∀y∈rl,y.2.1=PY y.1)(hj:j<rl.length)(ht:(i_ rl j).1=t)(hno:∀i,i<j->(i_ rl i).1≠t):mV (i_ rl) t rl.length=if(i_ rl j).2.1=true then none else some (fB (i_ rl) j):=by
 have hu:∀i,i<rl.length->(i_ rl i).2.1=PY (i_ rl i).1:=λi hi=>hu _<|aA<|Dw hi;split
 .next h=>
  refine Hl _ λi hi=>?_;rcases fu ((i_ rl i).1=t)with e|e
  .exact .inr (by rw[hu i hi,e,<-ht,<-hu j hj];exact h)
  .exact .inl e
 .next h=>
  refine K_ (j:=j+1) ?_ _ hj;exact Ey (Hl _ λi hi=>.inl<|hno i hi) ht (by simpa using h)
theorem aag(hno:∀i,i<rl.length->(i_ rl i).1≠t):mV (i_ rl) t rl.length=none:=Hl _ λi hi=>.inl<|hno i hi
end
section
variable{F:Nat->Prop}
def KW(F:Nat->Prop)(H:ag)(w:Value)(be bs:List Bool)(m:Nat):Prop:=∃(ea:Option Addr)(ec:Nat)(sa:Option Addr)(sc:Nat),w=.agg ⟨[.slice ea m ec,.slice sa m sc]⟩/\jT F 4 H ea m 1 (bools be)/\jT F 4 H sa m 1 (bools bs)/\be.length=m/\bs.length=m
theorem KW.st{S:List Nat}(h:KW F H w be bs m)(hx:qU S H H')(hS:∀q∈S,¬F q\/¬wR H q 4):KW F H' w be bs m:=let⟨ea,ec,sa,sc,h1,h2,h3,h4⟩:=h;⟨ea,ec,sa,sc,h1,h2.stay hx hS,h3.stay hx hS,h4⟩
theorem KW.ex(h:KW F H w be bs m)(hx:Ext H H'):KW F H' w be bs m:=h.st hx λq h=>nomatch h
abbrev wA(bs:List Bool)(l:Nat):Bool:=bs[l]?.getD false
theorem PM(l:List Nat)(f:Nat->Bool)(j:Nat)(h:j<l.length):(l.take<|j+1).any f=((l.take j).any f||f l[j]):=by
 rw[k_ h,List.any_append];simp
theorem PO(l:List Nat)(f:Nat->Bool)(j:Nat)(h:j<l.length):(l.take<|j+1).all f=((l.take j).all f&&f l[j]):=by
 rw[k_ h,List.all_append];simp
def Sa(n:Nat)(K:Nat->Int)(T:Nat->ByteArray)(nd:List PN)(rl:List PR)(be bs:List Bool)(N k:Nat):Prop:=∀{F:Nat->Prop}{H:ag}{g w:Value}{p:Nat},Wf H->YG n K T F H g p nd rl->KW F H w be bs (fB (i_ rl) rl.length)->az Pg X 25 [g,w,vn k] H (Q1 (λv _=>v=.tuple ⟨[.bool ((tT nd rl).nv false (wA be) N k),.bool<|(tT nd rl).nv true (wA bs) N k]⟩) H)
theorem aah(h:i<nd.length):nd[i]?=some (l8 nd i):=by
 show nd[i]?=some (nd[i]?.getD _);rw[ae h];rfl
theorem ahr(hF:(tT nd rl).Fit nd.length)(hu:∀y∈rl,y.2.1=PY y.1)(hkl:∀i,i<nd.length->(l8 nd i).2.1.length<=20002)(hk:k<nd.length)(ih:∀z,z<k->Sa n K T nd rl be bs N z):Sa n K T nd rl be bs (N+1) k:=by
 intro F H g w p hw hg hKW;obtain⟨ra,rc,rcs,na,nc,eG,ta,tc,rfl,h2,h3,h4,h5,h6,h7,_⟩:=id hg;obtain⟨ea,ec,sa,sc,rfl,hE,hB,hel,hsl⟩:=id hKW;have hS:=SH.refl hw;refine ce [0,1,2,3,4,6,7,8,9,10,11,12,13,14,15,16,17,18,25] ?_;refine tl ?_;refine hS.box rfl λH1 rb hS=>?_;refine hS.box rfl λH2 rw hS=>?_;obtain⟨a,c,t,ua,un,uc,at',hkx,hkf,hkt⟩:=h6 k _<|aah hk;refine hS.aY ?_;refine hS.dQ ?_;refine(h5.ex hS.ext).ixN aa hk hkx λq=>?_;refine hS.mO rfl rfl rfl λH3 r8 hS hx3=>?_;obtain⟨LL,hLL⟩:∃LL:List cz,LL=[(r8,108,[vi (l8 nd k).1,.slice a (l8 nd k).2.1.length c,.string t,.slice ua un uc,vi at']),(rw,38,[.slice ea (fB (i_ rl) rl.length) ec,.slice sa (fB (i_ rl) rl.length) sc]),(rb,34,[.slice ra rl.length rc,.slice na nd.length nc,.slice ta n tc,vn p,vi 0,vi 0])]:=⟨_,rfl⟩
 have hcall:∀{H4:ag}{i:Nat}{Kp:Value->ag->Prop},SH [] H H4 LL->(hi:i<(l8 nd k).2.1.length)->(∀H5,SH [] H (hM H4 H5) LL->Ext (hN H4) H5->Kp (.tuple ⟨[.bool ((tT nd rl).nv false (wA be) N (l8 nd k).2.1[i]),.bool<|(tT nd rl).nv true (wA bs) N (l8 nd k).2.1[i]]⟩) H5)->az Pg X 25 [.agg ⟨[.slice ra rl.length rc,.slice na nd.length nc,.slice ta n tc,vn p,vi 0,vi 0]⟩,.agg ⟨[.slice ea (fB (i_ rl) rl.length) ec,.slice sa (fB (i_ rl) rl.length) sc]⟩,vn (l8 nd k).2.1[i]] (hN H4) Kp:=by
  intro H4 i Kp hS hi kk;refine az.mono (ih _ (hF.z k hk _<|bF hi) (F:=F) (qH H4) (show YG n K T F (hN H4) _ p nd rl from(hg.ex hS.ext:YG n K T F H4 _ p nd rl)) (show KW F (hN H4) _ be bs _ from(hKW.ex hS.ext:KW F H4 _ be bs _))) ?_;rintro v H5 ⟨rfl,hx⟩;exact kk H5 (hS.oV hx) hx
 have ld:∀{H4:ag}{i:Nat},SH [] H H4 LL->(hi:i<(l8 nd k).2.1.length)->∃r o,zH 1 (.slice a (l8 nd k).2.1.length c) (vn i)=some (.pointer<|some ⟨r,o,none⟩)/\H4.cell r o=some (vn (l8 nd k).2.1[i]):=by
  intro H4 i hS hi;obtain⟨r,o,e1,hr,hcl,_⟩:=(hkf.ex hS.ext).1.idx (c:=c) aa hi;exact⟨r,o,e1,hcl 0 _ aa (by rw[bG,bn];exact oz _<|ae hi)⟩
 have hS:SH [] H H3 LL:=by rw[hLL];exact hS
 have nvE:∀tok w,(tT nd rl).nv tok w (N+1) k=(if(l8 nd k).1=0 then((l8 nd k).2.1).any ((tT nd rl).nv tok w N)else if(l8 nd k).1=1 then((l8 nd k).2.1).all ((tT nd rl).nv tok w N)else if(l8 nd k).1=2\/(l8 nd k).1=3 then true else if(l8 nd k).1=4 then(tT nd rl).nv tok w N ((l8 nd k).2.1.headD 0)else match(if(l8 nd k).1=5 then mV (i_ rl) (l8 nd k).2.2 rl.length else none)with|some l=>w l|none=>tok):=λ_ _=>rfl;rw[nvE,nvE];have hfk:(l8 nd k).1=0\/(l8 nd k).1=1\/(((l8 nd k).1=2\/(l8 nd k).1=3\/(l8 nd k).1=4)/\∃z,(l8 nd k).2.1=[z])\/5<=(l8 nd k).1:=hF.k k hk;have La:=hS;rw[hLL]at hS
 repeat(first|(refine hS.aY ?_)|(refine hS.dQ ?_))
 have hlen:=hkl k hk;refine ah (λc0=>?_) λc0=>?_
 .rw[if_pos c0,if_pos c0];clear nvE hfk;refine V' 9 10 11 12 13 (I:=λm x9 dR fC gK gq H'=>∃j,x9=.bool (((l8 nd k).2.1.take j).any<|(tT nd rl).nv false (wA be) N)/\dR=.bool (((l8 nd k).2.1.take j).any<|(tT nd rl).nv true (wA bs) N)/\fC=vn j/\j+m=(l8 nd k).2.1.length/\SH [] H H' LL) ?_ (l8 nd k).2.1.length ⟨0,rfl,rfl,rfl,aa,La⟩;clear hS La;rintro m x9 dR fC gK gq rg H4 ⟨j,rfl,rfl,rfl,hj,La⟩;have hS:=La;rw[hLL]at hS;refine tl ?_
  repeat(first|(refine hS.aY ?_)|(refine hS.dQ ?_))
  refine ah (λc1=>?_) λc1=>?_
  .have hjl:j<(l8 nd k).2.1.length:=by omega
   obtain⟨r,o,e1,hr⟩:=ld La hjl
   repeat(first|(refine hS.aY ?_)|(refine hS.kI ?_)|(refine hS.nN ?_))
   refine PU.of e1 ?_;refine ME.ld (H:=hN H4) hr ?_;refine hS.aY ?_;refine hcall La hjl λH5 La hx=>?_;refine lN (by simp only[cB,dL hx];rfl) ?_;have hA:=PM _ ((tT nd rl).nv false (wA be) N) _ hjl;have hB:=PM _ ((tT nd rl).nv true (wA bs) N) _ hjl;cases h9:((l8 nd k).2.1.take j).any ((tT nd rl).nv false (wA be) N)<;>cases h10:((l8 nd k).2.1.take j).any ((tT nd rl).nv true (wA bs) N)<;>rw[h9]at hA<;>rw[h10]at hB
   all_goals
    try simp only[PP,Nat.reduceBEq]
    refine PU.of (iN 1 rfl aa) ?_;exact⟨m-1,aa,_,_,_,_,_,_,_,rfl,j+1,by rw[hA];simp,by rw[hB];simp,rfl,aa,La⟩
  .obtain rfl:j=(l8 nd k).2.1.length:=by omega
   rw[kL];refine tl ?_;refine rr ?_;exact⟨rfl,hS.ext⟩
 rw[if_neg c0,if_neg c0];refine ah (λc2=>?_) λc2=>?_
 .rw[if_pos c2,if_pos c2];clear nvE hfk;refine V' 9 10 14 15 16 (I:=λm x9 dR fC gK gq H'=>∃j,x9=.bool (((l8 nd k).2.1.take j).all<|(tT nd rl).nv false (wA be) N)/\dR=.bool (((l8 nd k).2.1.take j).all<|(tT nd rl).nv true (wA bs) N)/\fC=vn j/\j+m=(l8 nd k).2.1.length/\SH [] H H' LL) ?_ (l8 nd k).2.1.length ⟨0,rfl,rfl,rfl,aa,La⟩;clear hS La;rintro m x9 dR fC gK gq rg H4 ⟨j,rfl,rfl,rfl,hj,La⟩;have hS:=La;rw[hLL]at hS;refine tl ?_
  repeat(first|(refine hS.aY ?_)|(refine hS.dQ ?_))
  refine ah (λc1=>?_) λc1=>?_
  .have hjl:j<(l8 nd k).2.1.length:=by omega
   obtain⟨r,o,e1,hr⟩:=ld La hjl
   repeat(first|(refine hS.aY ?_)|(refine hS.kI ?_)|(refine hS.nN ?_))
   refine PU.of e1 ?_;refine ME.ld (H:=hN H4) hr ?_;refine hS.aY ?_;refine hcall La hjl λH5 La hx=>?_;refine lN (by simp only[cB,dL hx];rfl) ?_;have hA:=PO _ ((tT nd rl).nv false (wA be) N) _ hjl;have hB:=PO _ ((tT nd rl).nv true (wA bs) N) _ hjl;cases h9:((l8 nd k).2.1.take j).all ((tT nd rl).nv false (wA be) N)<;>cases h10:((l8 nd k).2.1.take j).all ((tT nd rl).nv true (wA bs) N)<;>rw[h9]at hA<;>rw[h10]at hB
   all_goals
    try simp only[PP,Nat.reduceBEq]
    refine PU.of (iN 1 rfl aa) ?_;exact⟨m-1,aa,_,_,_,_,_,_,_,rfl,j+1,by rw[hA];simp,by rw[hB];simp,rfl,aa,La⟩
  .obtain rfl:j=(l8 nd k).2.1.length:=by omega
   rw[kL];refine tl ?_;refine rr ?_;exact⟨rfl,hS.ext⟩
 rw[if_neg c2,if_neg c2];have hV1:=nvE false<|wA be;have hV2:=nvE true<|wA bs;rw[if_neg c0,if_neg c2]at hV1 hV2;rw[<-hV1,<-hV2]
 have go:∀{rg:Rs}(b:Bool),BA rg 82=.bool b->(b=true<->(l8 nd k).1=2\/(l8 nd k).1=3)->dJ Pg X (sub lW [1,1,1,0,1,0,1,1,1,1,1]) (sM (.agg ⟨[.slice ra rl.length rc,.slice na nd.length nc,.slice ta n tc,vn p,vi 0,vi 0]⟩) (.agg ⟨[.slice ea (fB (i_ rl) rl.length) ec,.slice sa (fB (i_ rl) rl.length) sc]⟩) (vn k) (pr rb) (pr rw) (.bool false) (.bool false) (pr r8) (.bool false) (.bool true) top top top top top top top top (vi (l8 nd k).1) rg H3) (j3 0<|nR Pg X (sub lW [1,1,1,1])<|f_ Pg [.tmp 6,.tmp 7]<|Q1 (λv _=>v=.tuple ⟨[.bool ((tT nd rl).nv false (wA be) (N+1) k),.bool<|(tT nd rl).nv true (wA bs) (N+1) k]⟩) H):=by
  intro rg b hb hb2;refine tl ?_;rw[hb];cases b;rotate_left
  .have h:=hb2.1 rfl;rw[if_pos h]at hV1 hV2;refine hS.aY ?_;refine rr ?_;exact⟨by rw[hV1,hV2],hS.ext⟩
  have h:¬((l8 nd k).1=2\/(l8 nd k).1=3):=λh=>nomatch hb2.2 h;rw[if_neg h]at hV1 hV2;refine hS.aY ?_;refine ah (λc4=>?_) λc4=>?_
  .rw[if_pos c4]at hV1 hV2
   obtain⟨z,hz⟩:∃z,(l8 nd k).2.1=[z]:=by
    rcases hfk with h|h|h|h
    .exact absurd h c0
    .exact absurd h c2
    .exact h.2
    .omega
   have hzl:0<(l8 nd k).2.1.length:=by rw[hz];exact Nat.one_pos
   have hzz:(l8 nd k).2.1.headD 0=(l8 nd k).2.1[0]:=by simp[hz]
   obtain⟨r,o,e1,hr⟩:=ld La hzl
   repeat(first|(refine hS.aY ?_)|(refine hS.kI ?_)|(refine hS.nN ?_))
   refine PU.of e1 ?_;refine ME.ld (H:=hN H3) hr ?_;refine hS.aY ?_;refine hcall La hzl λH5 La hx=>?_;refine aF ?_;refine lN (by simp only[cB,dL hx];rfl) ?_;refine rr ?_;exact⟨by rw[hV1,hV2,hzz],La.ext⟩
  rw[if_neg c4]at hV1 hV2;refine ah (λc5=>?_) λc5=>?_;rotate_left
  .rw[if_neg c5]at hV1 hV2;refine tl ?_;refine rr ?_;exact⟨by rw[hV1,hV2],hS.ext⟩
  rw[if_pos c5]at hV1 hV2;obtain rfl:=hkt c5;refine hS.eU ?_;refine hS.dQ ?_;refine az.mono (ahq hS.wf<|hg.ex hS.ext) ?_;rintro v H4 ⟨hv,hx⟩;have hS:=hS.call hx
  have no:∀{rg:Rs}{qV:Value},BA rg 112=.bool false->mV (i_ rl) (l8 nd k).2.2 rl.length=none->dJ Pg X (sub lW [1,1,1,0,1,0,1,1,1,1,1,1,1,1,1,0,1,1]) (sM (.agg ⟨[.slice ra rl.length rc,.slice na nd.length nc,.slice ta n tc,vn p,vi 0,vi 0]⟩) (.agg ⟨[.slice ea (fB (i_ rl) rl.length) ec,.slice sa (fB (i_ rl) rl.length) sc]⟩) (vn k) (pr rb) (pr rw) (.bool false) (.bool false) (pr r8) (.bool false) (.bool true) top top top top top top qV top (vi (l8 nd k).1) rg H4) (j3 0<|nR Pg X (sub lW [1,1,1,1])<|f_ Pg [.tmp 6,.tmp 7]<|Q1 (λv _=>v=.tuple ⟨[.bool ((tT nd rl).nv false (wA be) (N+1) k),.bool<|(tT nd rl).nv true (wA bs) (N+1) k]⟩) H):=by
   intro rg qV hk hc;rw[hc]at hV1 hV2;refine tl ?_;rw[hk];refine aF ?_;refine tl ?_;refine rr ?_;exact⟨by rw[hV1,hV2],hS.ext⟩
  rcases hv with⟨j,rfl,hj,ht,hno⟩|⟨rfl,hno⟩;rotate_left
  .refine hS.aY ?_;exact no rfl<|aag hno
  have Nf:=VT hu hj ht hno;refine hS.aY ?_;refine ah (λ_=>?_) λc=>absurd (show(0:Int)<=(j:Int) by omega) c;obtain⟨_,g1,_⟩:=(h3 j _<|Dw hj).at
  obtain⟨r,o,e1,hr,hcl,_⟩:=h2.1.idx (c:=rc) aa hj;refine hS.dQ ?_;refine PU.of e1 ?_;refine aF ?_;refine hS.E8 (hcl 1 _ aa g1) hr ?_;refine hS.aY ?_;cases hup:(i_ rl j).2.1;rotate_left
  .rw[hup]at Nf;exact no rfl Nf
  rw[hup]at Nf;have Nf:mV (i_ rl) (l8 nd k).2.2 rl.length=some (fB (i_ rl) j):=Nf;rw[Nf]at hV1 hV2;have hlt:=T4 Nf;refine tl ?_;refine hS.aY ?_;refine(show∀{a b:Prop},a->zk (some !false) a b fromλh=>h) ?_;refine hS.eU ?_;refine az.mono (R_ hS.wf (hg.ex hS.ext) (i:=j) aa) ?_;rintro v H5 ⟨rfl,hx⟩;have hS:=hS.call hx;obtain⟨r1,o1,e1,hr1,qP,_⟩:=(hE.ex hS.ext).1.idx (c:=ec) aa hlt;obtain⟨r2,o2,e2,hr2,uI,_⟩:=(hB.ex hS.ext).1.idx (c:=sc) aa hlt
  have b1:(bools be)[fB (i_ rl) j]?=some (.bool<|wA be<|fB (i_ rl) j):=by
   rw[show wA be (fB (i_ rl) j)=be[fB (i_ rl) j]'aa by show(be[fB (i_ rl) j]?).getD false=_;rw[ae (show fB (i_ rl) j<be.length by omega)];rfl];exact oz _<|ae aa
  have b2:(bools bs)[fB (i_ rl) j]?=some (.bool<|wA bs<|fB (i_ rl) j):=by
   rw[show wA bs (fB (i_ rl) j)=bs[fB (i_ rl) j]'aa by show(bs[fB (i_ rl) j]?).getD false=_;rw[ae (show fB (i_ rl) j<bs.length by omega)];rfl];exact oz _<|ae aa
  refine hS.kI ?_;refine hS.aY ?_;refine PU.of e1 ?_;refine ME.ld (H:=hN H5) (qP 0 _ aa (by rw[bG,bn];exact b1)) ?_
  repeat(first|(refine hS.aY ?_)|(refine hS.kI ?_))
  refine PU.of e2 ?_;refine ME.ld (H:=hN H5) (uI 0 _ aa (by rw[bG,bn];exact b2)) ?_;refine hS.aY ?_;refine wS ?_;refine rr ?_;exact⟨by rw[hV1,hV2],hS.ext⟩
 refine ah (λc3=>?_) λc3=>?_
 .exact go (decide<|(l8 nd k).1=2) rfl ⟨λh=>.inl c3,λh=>aS c3⟩
 .exact go (decide<|(l8 nd k).1=3) rfl ⟨λh=>.inr<|cZ h,λh=>aS<|h.resolve_left c3⟩
theorem aeY(hF:(tT nd rl).Fit nd.length)(hu:∀y∈rl,y.2.1=PY y.1)(hkl:∀i,i<nd.length->(l8 nd i).2.1.length<=20002):∀N k,k<N->k<nd.length->Sa n K T nd rl be bs N k:=by
 intro N
 induction N with
 |zero=>intro k h;omega
 |succ N ih=>exactλk _ h=>ahr hF hu hkl h λz hz=>ih z aa aa
end
namespace Gm
variable{g:Gm}{tok:Bool}{w:Nat->Bool}
theorem aeZ{N:Nat}(hF:Fit g N):∀n k n',k<N->k<n->k<n'->nv g tok w n k=nv g tok w n' k:=by
 intro n
 induction n with
 |zero=>intro k n' _ h;omega
 |succ n ih=>
  intro k n' hk h1 h2;cases n' with
  |zero=>omega
  |succ n'=>
   have hz:∀z∈g.zs k,nv g tok w n z=nv g tok w n' z:=λz h=>by
    have:=hF.z k hk z h;exact ih z n' aa aa aa
   unfold nv;split
   .rw[bZ,ni,ni];exact⟨λ⟨z,h,e⟩=>⟨z,h,hz z h▸e⟩,λ⟨z,h,e⟩=>⟨z,h,hz z h▸e⟩⟩
   split
   .rw[bZ,bU,bU];exact⟨λe z h=>hz z h▸e z h,λe z h=>hz z h▸e z h⟩
   split
   .rfl
   split
   .next h0 h1' h2' h4=>
    rcases hF.k k hk with h5|h5|⟨_,z,h5⟩|h5
    .omega
    .omega
    .rw[h5];exact hz z (by rw[h5];simp)
    .omega
   .rfl
end Gm
def opk:Op->List Nat
 |.ro _ ks=>ks
 |.ch _ ks=>ks
 |_=>[]
theorem Ps.few{o:Op}{N:List PN}(h:Ps K T o p N p' N' k):(opk o).length<=p->(∀x∈N,x.2.1.length<=p+1)->∀x∈N',x.2.1.length<=p'+1:=by
 have add:∀{N:List PN}{x:PN}{a b:Nat},(∀x∈N,x.2.1.length<=a)->a<=b->x.2.1.length<=b->∀y∈N++[x],y.2.1.length<=b:=λh hab hx y hy=>by
  rcases bX.1 hy with h'|h'
  .exact aW (h y h') hab
  .rw[aO]at h';subst h';exact hx
 induction h with
 |nm d p N=>exactλ_ h=>add h aa<|aM _
 |lf d p N c=>exactλ_ h=>add h aa<|aM _
 |no d p N=>exactλ_ h=>add h aa<|aM _
 |br d p N p' N' k _ _ hp _ ih=>exactλ_ h x hx=>aW (ih (aM _) (λx hx=>aW (h x hx) aa) x hx) aa
 |el0 d p N p' N' k _ _ ih=>exactλ_ h=>ih (aM _) h
 |el1 d p N p' N' k _ _ _ ih=>exactλ_ h=>add (ih (aM _) h) aa (by show 1<=_;omega)
 |ro0 d p N ks=>exactλhk h=>add h aa (by have hk:ks.length<=p:=hk;show ks.length<=_;omega)
 |ro1 d p N p1 N1 c p' N' k ks _ h1 _ i1 i2=>
  intro hk h;have hk:ks.length<=p:=hk;have ha:p<p1:=h1.adv.2.1;exact i2 (by show(ks++[c]).length<=p1;rw[ay];show ks.length+1<=p1;omega)<|i1 (aM _) h
 |ch1 d p N p1 N1 c p' N' k ks h1 _ _ i1 i2=>
  intro hk h;have hk:ks.length<=p:=hk;have ha:p<=p1:=h1.adv.1;exact i2 (by show(ks++[c]).length<=p1+1;rw[ay];show ks.length+1<=p1+1;omega) λx hx=>aW (i1 (aM _) h x hx) aa
 |ch0 d p N p1 N1 c _ _ ih=>exactλ_ h=>ih (aM _) h
 |chA d p N p1 N1 c ks h1 _ _ _ ih=>
  intro hk h;have hk:ks.length<=p:=hk;have ha:p<=p1:=h1.adv.1;exact add (ih (aM _) h) (aj _) (by show(ks++[c]).length<=_;rw[ay];show ks.length+1<=_;omega)
theorem O9.few{N:List PN}{R:List PR}(hn:∀i,n<=i->K i=0)(h:O9 K T p N R N' R'):(∀x∈N,x.2.1.length<=p+1)->∀x∈N',x.2.1.length<=n+1:=by
 have ru:∀{p p':Nat}{N N':List PN}{R R':List PR},RuP K T p N R p' N' R'->(∀x∈N,x.2.1.length<=p+1)->p'<=n/\∀x∈N',x.2.1.length<=p'+1:=by
  intro p p' N N' R R' h hN;obtain⟨f,q,p1,p2,k,hf,rfl,hq,hl,hfq,h5,hP,hc,h7,rfl,rfl⟩:=h
  have h2:p2<n:=by
   rcases aN p2 n with h|h
   .exact h
   .rw[hn _ h]at h7;exact absurd h7 (by decide)
  have ha:=hP.adv.1;have h3:=hP.few (aM _) λx hx=>aW (hN x hx) (by split<;>omega);have h12:p1<=p2:=by rcases hc with h|h<;>omega
  exact⟨h2,λx hx=>aW (h3 x hx) aa⟩
 induction h with
 |one p N R p' N' R' h1 h2=>exactλh x hx=>have:=ru h1 h;aW (this.2 x hx) aa
 |more p N R p' N1 R1 N' R' h1 h2 h3 ih=>exactλh=>ih (ru h1 h).2
def cf:List Bool->Nat
 |[]=>0
 |b::l=>cf l+(if b=true then 0 else 1)
theorem aai:∀(l:List Bool)(i:Nat)(x:Bool),cf (l.set i<|(l[i]?.getD false)||x)+(if i<l.length/\l[i]?.getD false=false/\x=true then 1 else 0)=cf l
 |[],i,x=>by simp[cf]
 |b::l,0,x=>by cases b<;>cases x<;>simp[cf]
 |b::l,i+1,x=>by
  have:=aai l i x;simp only[ik,cK,bH,cf,Nat.add_lt_add_iff_right];omega
theorem ae0(m:Nat):cf (List.replicate m false)=m:=by
 induction m with
 |zero=>rfl
 |succ m ih=>show cf (List.replicate m false)+1=_;rw[ih]
section
variable{F:Nat->Prop}
def Cl1(nd:List PN)(rl:List PR)(be bs:List Bool)(i:Nat):Prop:=(i_ rl i).2.1=false->((tT nd rl).nv false (wA be) nd.length (i_ rl i).2.2=true->wA be (fB (i_ rl) i)=true)/\((tT nd rl).nv true (wA bs) nd.length (i_ rl i).2.2=true->wA bs (fB (i_ rl) i)=true)
def Sd(nd:List PN)(rl:List PR)(be bs:List Bool):Prop:=(∀l,wA be l=true->Gm.Ok (tT nd rl) false ((tT nd rl).rt l))/\∀l,wA bs l=true->Gm.Ok (tT nd rl) true ((tT nd rl).rt l)
abbrev Lk(rb rz P4 P5 rw m:Nat)(be bs:List Bool)(gl:List Value):List cz:=[(rw,38,[.slice (some ⟨P4,0,none⟩) m m,.slice (some ⟨P5,0,none⟩) m m]),(P5,4,bools bs),(P4,4,bools be),(rz,38,[.slice none 0 0,.slice none 0 0]),(rb,34,gl)]
theorem VU(l:List Bool)(i:Nat)(x:Bool):(bools l).set i (.bool x)=bools (l.set i x):=by
 unfold bools;rw[jH]
theorem Jz{l:List Bool}:l.set i (wA l i)=l:=by
 refine eP λj=>?_;rw[bV];split
 .next h=>
  subst h;split
  .next h=>show some (l[i]?.getD false)=_;rw[ae h];rfl
  .next h=>rw[dS aa]
 .rfl
theorem Ng{l:List Bool}(h:i<l.length):(bools l)[i]?=some (.bool<|wA l i):=by
 show(l.map Value.bool)[i]?=some (Value.bool<|l[i]?.getD false);rw[aR,ae h];rfl
theorem aaj{l:List Bool}(h:i<l.length):cf (l.set i<|wA l i||e)<=cf l/\(e=true/\wA l i=false->cf (l.set i<|wA l i||e)<cf l)/\(¬(e=true/\wA l i=false)->l.set i (wA l i||e)=l):=by
 have c:cf (l.set i<|wA l i||e)+(if i<l.length/\wA l i=false/\e=true then 1 else 0)=cf l:=aai l i e;refine⟨aa,λh1=>?_,λh1=>?_⟩
 .rw[if_pos ⟨h,h1.2,h1.1⟩]at c;omega
 .rw[show(wA l i||e)=wA l i by cases e<;>cases h:wA l i<;>simp_all,Jz]
theorem Sd.set(h:Sd nd rl be bs)(hF:(tT nd rl).Fit nd.length)(hi:i<rl.length)(hu:(i_ rl i).2.1=false)(hr:(i_ rl i).2.2<nd.length):Sd nd rl (be.set (fB (i_ rl) i)<|wA be (fB (i_ rl) i)||(tT nd rl).nv false (wA be) nd.length (i_ rl i).2.2) (bs.set (fB (i_ rl) i)<|wA bs (fB (i_ rl) i)||(tT nd rl).nv true (wA bs) nd.length (i_ rl i).2.2):=by
 have key:∀{tok:Bool}{l:List Bool},(∀j,wA l j=true->Gm.Ok (tT nd rl) tok ((tT nd rl).rt j))->∀j,wA (l.set (fB (i_ rl) i)<|wA l (fB (i_ rl) i)||(tT nd rl).nv tok (wA l) nd.length (i_ rl i).2.2) j=true->Gm.Ok (tT nd rl) tok ((tT nd rl).rt j):=by
  intro tok l h j hj;unfold wA at hj;rw[bV]at hj;split at hj
  .next e=>
   subst e;split at hj
   .rcases Bool.or_eq_true_iff.1 hj with h1|h1
    .exact h _ h1
    .rw[show(tT nd rl).rt (fB (i_ rl) i)=(i_ rl i).2.2 from Jo hu _ hi];exact Gm.agU hF h _ _ hr h1
   .cases hj
  .exact h j hj
 exact⟨key h.1,key h.2⟩
theorem ahs{P4 P5 rw' l:Nat}{x3:Value}(hS:SH [] H H1<|Lk rb rz P4 P5 rw' m be bs gl)(hl:l<m)(hbl:be.length=m)(hsl:bs.length=m)(E S b c:Bool)(hk:BA rg 68=.bool c)(hc:c=true<->(E=true/\wA be l=false)\/(S=true/\wA bs l=false))(Kc:Out->Prop)(kk:∀{H2:ag}{rg:Rs},SH [] H H2 (Lk rb rz P4 P5 rw' m (be.set l<|wA be l||E) (bs.set l<|wA bs l||S) gl)->Kc (.norm<|nP x0 (pr rb) (pr rz) x3 (pr rw') (.bool<|b||c) x6 (vn l) (.bool E) (.bool S) rg H2)):dJ Pg X (sub sI [1,1,1,0,1,0,0,1,0,1,1,0,0,1,0,0,1,1,1,1]) (nP x0 (pr rb) (pr rz) x3 (pr rw') (.bool b) x6 (vn l) (.bool E) (.bool S) rg H1) Kc:=by
 refine tl ?_;rw[hk];cases c
 .refine aF ?_;have h1:(wA be l||E)=wA be l:=by cases E<;>cases h:wA be l<;>simp_all
  have h2:(wA bs l||S)=wA bs l:=by cases S<;>cases h:wA bs l<;>simp_all
  rw[h1,h2,Jz,Jz,pP]at kk;exact kk hS
 .repeat(first|(refine hS.aY ?_)|(refine hS.kI ?_))
  have c1:=Ng (show l<be.length by omega);have c2:=Ng (show l<bs.length by omega);refine PU.of (Ee hl) ?_;simp only[aI];refine ME.ld (H:=hN H1) ((hS.get 2 rfl).cell c1) ?_;have n1:=hS.nq 0 1 rfl rfl aa;have n2:=hS.nq 0 2 rfl rfl aa;have n3:=hS.nq 1 2 rfl rfl aa;rw[Bool.or_true]at kk;have e1:∀{l':List Bool}{z:Bool},l'.length=m->splice (bools l') l (aX<|.bool z)=bools (l'.set l z):=λh=>(Dp (by simp only[aC];omega)).trans<|VU ..
  have set2:∀{H2:ag}{x y:Bool},SH [] H H2 [(rw',38,[.slice (some ⟨P4,0,none⟩) m m,.slice (some ⟨P5,0,none⟩) m m]),(P5,4,splice (bools bs) l<|aX<|.bool y),(P4,4,splice (bools be) l<|aX<|.bool x),(rz,38,[.slice none 0 0,.slice none 0 0]),(rb,34,gl)]->SH [] H H2 (Lk rb rz P4 P5 rw' m (be.set l x) (bs.set l y) gl):=by
   intro H2 x y hS;rw[e1 hbl,e1 hsl]at hS;exact hS
  cases h1:wA be l<;>rw[h1]at kk
  .repeat(first|(refine hS.aY ?_)|(refine hS.kI ?_))
   refine PU.of (Ee hl) ?_;simp only[aI];refine ME.ld (H:=hN H1) ((hS.get 1 rfl).cell c2) ?_;cases h2:wA bs l<;>rw[h2]at kk
   all_goals
    repeat(refine hS.aY ?_)
    refine PU.of (Ee hl) ?_;simp only[aI];refine hS.qJ (λH3 hS=>?_) rfl (by simp only[aC];show l+1<=_;omega) rfl;refine PU.of (Ee hl) ?_;simp only[aI];refine hS.qJ (λH4 hS=>?_) rfl (by simp only[aC];show l+1<=_;omega) rfl;refine(show∀K:Prop,K->_/\K fromλKz hK=>?_) _ ?_
    .simp only[cB,dn];apply Ar (a:=rw') (b:=P5) (c:=P4) n1 n2 n3 (by intros;rfl) (by kernel_rfl) (by kernel_rfl) hK
    exact kk<|set2 hS
  .repeat(first|(refine hS.aY ?_)|(refine hS.kI ?_))
   refine PU.of (Ee hl) ?_;simp only[aI];refine ME.ld (H:=hN H1) ((hS.get 1 rfl).cell c2) ?_;cases h2:wA bs l<;>rw[h2]at kk
   all_goals
    repeat(refine hS.aY ?_)
    refine PU.of (Ee hl) ?_;simp only[aI];refine hS.qJ (λH3 hS=>?_) rfl (by simp only[aC];show l+1<=_;omega) rfl;refine PU.of (Ee hl) ?_;simp only[aI];refine hS.qJ (λH4 hS=>?_) rfl (by simp only[aC];show l+1<=_;omega) rfl;refine(show∀K:Prop,K->_/\K fromλKz hK=>?_) _ ?_
    .simp only[cB,dn];apply Ar (a:=rw') (b:=P5) (c:=P4) n1 n2 n3 (by intros;rfl) (by kernel_rfl) (by kernel_rfl) hK
    exact kk<|set2 hS
theorem ae1(hF:(tT nd rl).Fit nd.length)(hu:∀y∈rl,y.2.1=PY y.1/\y.2.2<nd.length)(hkl:∀i,i<nd.length->(l8 nd i).2.1.length<=20002)(hw:Wf H)(hg:YG n K T F H g p nd rl):az Pg X 11 [g] H (Q1 (λv H'=>∃be bs,KW (Nw F H.next) H' v be bs (fB (i_ rl) rl.length)/\Sd nd rl be bs/\∀i,i<rl.length->Cl1 nd rl be bs i) H):=by
 obtain⟨ra,rc,rcs,na,nc,eG,ta,tc,rfl,h2,h3,h4,_⟩:=id hg;have hS:=SH.refl hw;refine ce [0,1,2,3,4,5,6,7,8,9] ?_;refine tl ?_;refine hS.box rfl λH1 rb hS=>?_;refine hS.iI λH2 rz hS=>?_
 repeat(first|(refine hS.aY ?_)|(refine hS.dQ ?_)|(refine hS.eU ?_))
 refine az.mono (R_ hS.wf (hg.ex hS.ext)<|aj _) ?_;rintro v H3 ⟨rfl,hx⟩;have hS:=hS.call hx;have hml:=G_ (y:=i_ rl) rl.length;refine hS.mkD aa λH4 P4 hS hc1=>?_;refine hS.mkD aa λH5 P5 hS hc2=>?_;refine PU.b2 rfl ?_;refine hS.aY ?_;refine hS.VD λH6 rw' hS hc3=>?_;refine hS.qJ λHn hS=>?_;refine(show∀K:Prop,K->_/\K fromλKz hK=>?_) _ ?_
 .simp only[hc1,hc2,hc3,dn];apply IW (a:=rw') (by intros;rfl) (by kernel_rfl) (by kernel_rfl) hK
 have hm0:∀m,mg [.bool false] m=bools (List.replicate m false):=λm=>by rw[pN];simp
 rw[hm0]at hS;have hS:SH [] H _ (Lk rb rz P4 P5 rw' (fB (i_ rl) rl.length) (List.replicate (fB (i_ rl) rl.length) false) (List.replicate (fB (i_ rl) rl.length) false) [.slice ra rl.length rc,.slice na nd.length nc,.slice ta n tc,vn p,vi 0,vi 0]):=hS
 have sd0:Sd nd rl (List.replicate (fB (i_ rl) rl.length) false) (List.replicate (fB (i_ rl) rl.length) false):=by
  have h:∀m l,wA (List.replicate m false) l≠true:=λm l=>by
   show(List.replicate m false)[l]?.getD false≠true;rw[o8];split<;>simp
  exact⟨λl e=>absurd e<|h _ _,λl e=>absurd e<|h _ _⟩
 refine V' 5 6 7 8 9 (I:=λm x5 x6 x7 x8 x9 H'=>∃b be bs,x5=.bool b/\be.length=fB (i_ rl) rl.length/\bs.length=fB (i_ rl) rl.length/\Sd nd rl be bs/\(b=false->∀i,i<rl.length->Cl1 nd rl be bs i)/\cf be+cf bs+(if b=true then 1 else 0)<=m/\SH [] H H' (Lk rb rz P4 P5 rw' (fB (i_ rl) rl.length) be bs [.slice ra rl.length rc,.slice na nd.length nc,.slice ta n tc,vn p,vi 0,vi 0])) ?_ (2*fB (i_ rl) rl.length+1) ⟨true,_,_,rfl,qC,qC,sd0,(λh=>nomatch h),by rw[ae0];simp;omega,hS⟩;clear hS sd0;rintro m x5 x6 x7 x8 x9 rg H7 ⟨b,be,bs,rfl,hbl,hsl,hsd,hcl,hm,hS⟩;refine tl ?_;refine hS.aY ?_;cases b
 .refine aF ?_;refine tl ?_;refine hS.eU ?_;refine hS.kJ λHn hS=>?_;refine rr ?_;refine hS.CU 3 rfl (aj 2) ?_;have f1:=(hS.get 2 rfl).PT (n:=fB (i_ rl) rl.length) (es:=1) (F:=Nw F H.next) (hS.lo _<|aA (i:=2) rfl).2 (by simp[hbl])<|.inr<|hS.zN<|aA (i:=2) rfl;have f2:=(hS.get 1 rfl).PT (n:=fB (i_ rl) rl.length) (es:=1) (F:=Nw F H.next) (hS.lo _<|aA (i:=1) rfl).2 (by simp[hsl])<|.inr<|hS.zN<|aA (i:=1) rfl;exact⟨⟨be,bs,⟨_,_,_,_,rfl,f1,f2,hbl,hsl⟩,hsd,hcl rfl⟩,hS.ext⟩
 .refine aF ?_;have hm':cf be+cf bs<m:=by simp at hm;omega
  refine V' 5 6 7 8 9 (I:=λk x5 x6 x7 x8 x9 H'=>∃i b Nh bs',x5=.bool b/\x6=vn i/\i+k=rl.length/\Nh.length=fB (i_ rl) rl.length/\bs'.length=fB (i_ rl) rl.length/\Sd nd rl Nh bs'/\(b=false->Nh=be/\bs'=bs/\∀j,j<i->Cl1 nd rl be bs j)/\(b=true->cf Nh+cf bs'<cf be+cf bs)/\SH [] H H' (Lk rb rz P4 P5 rw' (fB (i_ rl) rl.length) Nh bs' [.slice ra rl.length rc,.slice na nd.length nc,.slice ta n tc,vn p,vi 0,vi 0])) ?_ rl.length ⟨0,false,be,bs,rfl,rfl,aa,hbl,hsl,hsd,(λ_=>⟨rfl,rfl,λj h=>absurd h<|fI j⟩),(λh=>nomatch h),hS⟩;clear hS;rintro k x5 x6 x7 x8 x9 rg H8 ⟨i,b,Nh,bs',rfl,rfl,hik,VV,VW,ae2,hf,ht,hS⟩;refine tl ?_
  repeat(first|(refine hS.aY ?_)|(refine hS.dQ ?_))
  refine ah (λc=>?_) λc=>?_
  .have hil:i<rl.length:=by omega
   obtain⟨_,g1,g5⟩:=(h3 i _<|Dw hil).at
   obtain⟨r,o,e1,hr,hcl,_⟩:=h2.1.idx (c:=rc) aa hil;refine hS.dQ ?_;refine PU.of e1 ?_;refine aF ?_;refine hS.E8 (hcl 1 _ aa g1) hr ?_;refine hS.aY ?_;cases hup:(i_ rl i).2.1;rotate_left
   .refine aF ?_;refine PU.of (iN 1 rfl aa) ?_
    exact⟨k-1,aa,_,_,_,_,_,_,_,rfl,i+1,b,Nh,bs',rfl,rfl,aa,VV,VW,ae2,λh=>⟨(hf h).1,(hf h).2.1,λj hj=>by
     rcases aN j i with h'|h'
     .exact(hf h).2.2 j h'
     .obtain rfl:j=i:=by omega
      exactλh=>by rw[hup]at h;cases h⟩,ht,hS⟩
   refine hS.aY ?_;refine hS.eU ?_;refine az.mono (R_ hS.wf (hg.ex hS.ext) (i:=i) aa) ?_;rintro v H9 ⟨rfl,hx⟩;have hS:=hS.call hx;obtain⟨r',o',e1',hr',abX,_⟩:=(h2.ex hS.ext).1.idx (c:=rc) aa hil
   repeat(first|(refine hS.aY ?_)|(refine hS.kI ?_)|(refine hS.nN ?_))
   refine PU.of e1' ?_;refine aF ?_;refine ME.ld (H:=hN H9) (abX 5 _ aa g5) ?_;refine hS.aY ?_;have hroot:(i_ rl i).2.2<nd.length:=(hu _<|aA<|Dw hil).2;have f1:=(hS.get 2 rfl).PT (n:=fB (i_ rl) rl.length) (es:=1) (F:=Nw F H.next) (hS.lo _<|aA (i:=2) rfl).2 (by simp[VV])<|.inr<|hS.zN<|aA (i:=2) rfl;have f2:=(hS.get 1 rfl).PT (n:=fB (i_ rl) rl.length) (es:=1) (F:=Nw F H.next) (hS.lo _<|aA (i:=1) rfl).2 (by simp[VW])<|.inr<|hS.zN<|aA (i:=1) rfl;have hkw:KW (Nw F H.next) H9 (.agg ⟨[.slice (some ⟨P4,0,none⟩) (fB (i_ rl) rl.length) (fB (i_ rl) rl.length),.slice (some ⟨P5,0,none⟩) (fB (i_ rl) rl.length)<|fB (i_ rl) rl.length]⟩) Nh bs' (fB (i_ rl) rl.length):=⟨_,_,_,_,rfl,f1,f2,VV,VW⟩;refine az.mono (aeY hF (λy h=>(hu y h).1) hkl nd.length _ hroot hroot (F:=Nw F H.next) (qH H9) (show YG n K T _ (hN H9) _ p nd rl from((hg.ex hS.ext).by λr _ h=>.inl h:YG n K T (Nw F H.next) H9 _ p nd rl)) (show KW (Nw F H.next) (hN H9) _ Nh bs' _ from hkw)) ?_;rintro v H10 ⟨rfl,aht⟩;have hS:=hS.oV aht;refine aF ?_;refine lN (by simp only[cB,dL aht];rfl) ?_;generalize hKc:j3 3 _=Kc;generalize hE:(tT nd rl).nv false (wA Nh) nd.length (i_ rl i).2.2=E;generalize hB:(tT nd rl).nv true (wA bs') nd.length (i_ rl i).2.2=B
   have hli:fB (i_ rl) i<fB (i_ rl) rl.length:=by
    have:=BL (y:=i_ rl) (show i+1<=rl.length by omega);rw[MU hup]at this;omega
   have fin:∀{c:Bool}{rg:Rs}{H2:ag},BA rg 68=.bool c->(c=true<->(E=true/\wA Nh (fB (i_ rl) i)=false)\/(B=true/\wA bs' (fB (i_ rl) i)=false))->SH [] H H2 (Lk rb rz P4 P5 rw' (fB (i_ rl) rl.length) Nh bs' [.slice ra rl.length rc,.slice na nd.length nc,.slice ta n tc,vn p,vi 0,vi 0])->dJ Pg X (sub sI [1,1,1,0,1,0,0,1,0,1,1,0,0,1,0,0,1,1,1,1]) (nP (.agg ⟨[.slice ra rl.length rc,.slice na nd.length nc,.slice ta n tc,vn p,vi 0,vi 0]⟩) (pr rb) (pr rz) (vn<|fB (i_ rl) rl.length) (pr rw') (.bool b) (vn i) (vn<|fB (i_ rl) i) (.bool E) (.bool B) rg H2) Kc:=by
    intro c rg H2 hk hc hS;refine ahs hS hli VV VW E B b c hk hc Kc λ{H3 rg} hS=>?_;subst hKc;refine tl ?_;refine hS.aY ?_;refine PU.of (iN 1 rfl aa) ?_;have d1:=aaj (l:=Nh) (e:=E) (show fB (i_ rl) i<Nh.length by omega);have d2:=aaj (l:=bs') (e:=B) (show fB (i_ rl) i<bs'.length by omega);refine⟨k-1,aa,_,_,_,_,_,_,_,rfl,i+1,b||c,_,_,rfl,rfl,aa,(bJ ..).trans VV,(bJ ..).trans VW,hE▸hB▸ae2.set hF hil hup hroot,λh=>?_,λh=>?_,hS⟩
    .obtain⟨rfl,rfl⟩:=Bool.or_eq_false_iff.1 h;have n1:¬(E=true/\wA Nh (fB (i_ rl) i)=false):=λh=>nomatch hc.2 (.inl h);have n2:¬(B=true/\wA bs' (fB (i_ rl) i)=false):=λh=>nomatch hc.2 (.inr h);rw[d1.2.2 n1,d2.2.2 n2];obtain⟨rfl,rfl,hj⟩:=hf rfl;refine⟨rfl,rfl,λj h=>?_⟩;rcases aN j i with h'|h'
     .exact hj j h'
     .obtain rfl:j=i:=by omega
      exactλ_=>⟨λh=>Bool.not_eq_false _▸λe=>n1 ⟨hE▸h,e⟩,λh=>Bool.not_eq_false _▸λe=>n2 ⟨hB▸h,e⟩⟩
    .have:=d1.1;have:=d2.1;cases b
     .obtain⟨rfl,rfl,_⟩:=hf rfl;rcases hc.1 h with h|h
      .have:=d1.2.1 h;omega
      .have:=d2.2.1 h;omega
     .have:=ht rfl;omega
   have w1:=Ng (show fB (i_ rl) i<Nh.length by omega);have w2:=Ng (show fB (i_ rl) i<bs'.length by omega);cases E
   .cases B
    .refine aF ?_;exact fin rfl (by simp) hS
    refine hS.aY ?_;refine hS.dQ ?_;refine PU.of (Ee hli) ?_;simp only[aI];refine ME.ld ((hS.get 1 rfl).cell w2) ?_;refine aF ?_;exact fin rfl (by simp) hS
   refine hS.aY ?_;refine hS.dQ ?_;refine PU.of (Ee hli) ?_;simp only[aI];refine ME.ld ((hS.get 2 rfl).cell w1) ?_;cases h1:wA Nh (fB (i_ rl) i)
   .refine hS.aY ?_;exact fin rfl (by simp[h1]) hS
   refine aF ?_;refine(show∀{a b:Prop},b->zk (some !true) a b fromλh=>h) ?_;cases B
   .refine hS.aY ?_;exact fin rfl (by simp[h1]) hS
   refine hS.aY ?_;refine hS.dQ ?_;refine PU.of (Ee hli) ?_;simp only[aI];refine ME.ld ((hS.get 1 rfl).cell w2) ?_;refine aF ?_;exact fin rfl (by simp[h1]) hS
  .obtain rfl:i=rl.length:=by omega
   exact⟨cf Nh+cf bs'+(if b=true then 1 else 0),by
    cases b
    .obtain⟨rfl,rfl,_⟩:=hf rfl;simpa using hm'
    .have:=ht rfl;simp;omega,_,_,_,_,_,_,_,rfl,b,Nh,bs',rfl,VV,VW,ae2,(λh=>by
    obtain⟨rfl,rfl,h⟩:=hf h;exact h),aj _,hS⟩
end
section
open Go.Ae Go.Ae.M Go.Proofs.Lv
variable{A:At}
theorem _root_.Go.Ae.az.orc{P:Program}{X:Xt}{g:FuncId}{K:Value->ag->Prop}(h:X.o g args H=some (v,H'))(k:K v H'):az P X g args H K:=⟨v,H',⟨1,Aa h⟩,k⟩
theorem Ni{l:List Nat}(h:i<l.length):l[i]?=some (l.getD i 0):=by
 rw[aK,ae h];rfl
theorem AP.of(h:yQ H):AP H:=by
 obtain⟨h0,t1,t2,h1,h2⟩:=h;refine⟨λi hi=>?_,λi hi=>?_,h0⟩
 .exact X_ h1<|Ni (show i<tC.length from hi)
 .rw[vz 2 i];exact U9 h2 (Ni (show i*2<32 by omega))<|Ni (show i*2+1<32 by omega)
theorem ahu(a:Bool)(i j:Nat):jb Pg .neq 4 (.tmp i) (.tmp j) (.bool a) (.bool a)=some (.bool false):=by
 cases a<;>kernel_rfl
theorem Uh:∀n,r<fB y n->∃i,i<n/\(y i).2.1=false/\fB y i=r
 |0,h=>absurd h<|fI _
 |n+1,h=>by
  rcases aN r (fB y n)with h1|h1
  .obtain⟨i,h2,h3⟩:=Uh n h1;exact⟨i,aa,h3⟩
  .have e:fB y (n+1)=fB y n+(if(y n).2.1=true then 0 else 1):=rfl;rw[e]at h;split at h
   .omega
   .next hu=>exact⟨n,aa,by simpa using hu,aa⟩
theorem aak{l:List Bool}(hF:(tT nd rl).Fit nd.length)(hI:Gm.Is (tT nd rl) A)(hr:A.nr=fB (i_ rl) rl.length)(hu:∀y∈rl,y.2.1=PY y.1/\y.2.2<nd.length)(hs:∀j,wA l j=true->Gm.Ok (tT nd rl) tok ((tT nd rl).rt j))(hc:∀i,i<rl.length->(i_ rl i).2.1=false->(tT nd rl).nv tok (wA l) nd.length (i_ rl i).2.2=true->wA l (fB (i_ rl) i)=true):∀r,r<A.nr->(wA l r=true<->A.Mk tok (A.S r)):=by
 intro r h;rw[Gm.law hI h];have hro:∀i,i<rl.length->(i_ rl i).2.2<nd.length:=λi hi=>(hu _<|aA<|Dw hi).2;refine⟨hs r,λho=>?_⟩;obtain⟨i,hi,hup,rfl⟩:=Uh _<|hr▸h;have e:(tT nd rl).rt (fB (i_ rl) i)=(i_ rl i).2.2:=Jo hup _ hi;rw[e]at ho;refine hc i hi hup<|Gm.agV hF ho (hro i hi) (λk l' hl n hn h1=>?_) _<|hro i hi;have hl:(if(l8 nd k).1=5 then mV (i_ rl) (l8 nd k).2.2 rl.length else none)=some l':=hl;split at hl
 .obtain⟨j,h3,_,h4,rfl⟩:=BM _ hl;have e:(tT nd rl).rt (fB (i_ rl) j)=(i_ rl j).2.2:=Jo h4 _ h3;rw[e]at hn h1;exact hc j h3 h4 (by rw[<-h1];exact Gm.aeZ hF _ _ _ (hro j h3) (hro j h3) hn)
 .cases hl
theorem adu{l:List Bool}:on l r<->wA l r=true:=by
 show l[r]?=some true<->l[r]?.getD false=true;cases l[r]?<;>simp
theorem _root_.Go.Ae.Dx{c:Cl}{l:List Cl}(h:c.k≠2/\c.k≠3):noTwo (c::l)=noTwo l:=by
 unfold noTwo;rw[all_eq,all_eq,tX];have h2:Nat.beq c.k 2=false:=by rw[<-aV];intro e;exact h.1<|aB e
 have h3:Nat.beq c.k 3=false:=by rw[<-aV];intro e;exact h.2<|aB e
 rw[h2,h3];rfl
theorem _root_.Go.Ae.aal(n:Nat)(p:Value)(H:ag)(l:List Cl):noTwo (clL n p H (hN H)::l)=noTwo l:=by
 refine Dx ?_
 have:clL n p H (hN H)=(ax (mF p) λa=>some<|Cl.mk 4 a.block a.off n hh0 hh0).getD (cl 1):=by
  show aU (Nat.ble H.next H.next) _ _=_;rw[av (aj _)];rfl
 rw[this];cases mF p with
 |none=>exact⟨by show(1:Nat)≠2;decide,by show(1:Nat)≠3;decide⟩
 |some a=>exact⟨by show(4:Nat)≠2;decide,by show(4:Nat)≠3;decide⟩
theorem _root_.Go.Ae.ab0(l:List Cl):noTwo (cl 0::l)=noTwo l:=Dx ⟨by decide,by decide⟩
theorem _root_.Go.Ae.ab1(l:List Cl):noTwo (cl 1::l)=noTwo l:=Dx ⟨by decide,by decide⟩
theorem _root_.Go.Ae.VX:noTwo []=true:=rfl
theorem bsN(h:Bs b H n v mk):Bs b (hN H) n v mk:=h
theorem usefulRules(hw:Wf H)(hT:yQ H)(s:ByteArray):az Pg X 3 [.string s] H λv H'=>v=.bool true/\Ext H H':=by
 have hS:=SH.refl hw;refine ce [0,2,3,4,5,6,7,8,9] ?_;refine tl ?_;refine az.mono (VM hw (AP.of hT) s) ?_;rintro v H1 ⟨⟨x,ok,rfl,hl6,hk6,hA⟩,hx1⟩;have hS:=hS.call hx1;refine aF ?_;refine hS.ns hl6 rfl hk6 λH2 r3 hS hx2=>?_;refine ah (λhc=>?_) λhc=>?_
 .refine az.orc (v:=.bool true) (H':=H2) (X9<|hT.ex hS.ext) ?_;refine rr ?_;exact⟨rfl,hS.ext⟩
 obtain⟨A,q,rfl,hA,ho,aiG,hsz,K,T,n,nd,rl,TY,hKz,hGP,hnr,hIs,ae3,hle,hup⟩:=hA hc;have hS:SH [] H H2 [(r3,26,q.cells A)]:=hS;have hA:=hA.ex hx2;refine az.mono (ahp hS.wf s aa hKz.2.1 TY hKz.2.2 hGP) ?_;rintro v H3 ⟨⟨p,hg⟩,hx3⟩;have hS:=hS.call hx3;have hA:=hA.ex hx3;obtain⟨ra,rc,rcs,na,nc,eG,ta,tc,rfl,_⟩:=id hg;refine hS.ns rfl rfl rfl λH4 r5 hS hx4=>?_;have hS:SH [] H H4 [(r5,34,[.slice ra rl.length rc,.slice na nd.length nc,.slice ta n tc,vn p,vi 0,vi 0]),(r3,26,q.cells A)]:=hS;have hA:=hA.ex hx4
 repeat(first|(refine hS.aY ?_)|(refine hS.dQ ?_))
 refine bq (λhc=>absurd trivial hc) λ_=>?_;refine hS.eU ?_
 have hkl:∀i,i<nd.length->(l8 nd i).2.1.length<=20002:=λi hi=>by
  have:=hGP.few hKz.1 (λx h=>nomatch h) (l8 nd i)<|aA<|aah hi;have:=hKz.2.1;omega
 refine az.mono (ae1 ae3 hup hkl hS.wf<|hg.ex hx4) ?_;rintro v H5 ⟨⟨be,bs,hKW,hSd,hCl⟩,hx5⟩;have hS:=hS.call hx5;have hA:=hA.ex hx5;rw[<-hnr]at hKW;obtain⟨ea,ec,sa,sc,rfl,hE,hB,hel,hsl⟩:=hKW;have hbe:Bs 0 H5 A.nr (.slice ea A.nr ec) be:=⟨_,_,rfl,hel,hE.wk λ_ _=>aM _⟩;have hbs:Bs 0 H5 A.nr (.slice sa A.nr sc) bs:=⟨_,_,rfl,hsl,hB.wk λ_ _=>aM _⟩;refine hS.ns rfl rfl rfl λH6 r6 hS hx6=>?_;have hA:=hA.ex hx6;have hbe:=hbe.ex hx6;have hbs:=hbs.ex hx6
 repeat(first|(refine hS.aY ?_)|(refine hS.nN ?_))
 refine az.mono (RV (qH H6) hA.n' ho) ?_;rintro v H7 ⟨⟨l1,b1,e1⟩,hx7⟩;have hS:=hS.oV hx7;refine hS.nN ?_;refine hS.aY ?_;refine az.mono (VF (qH _) (hA.ex hx7.draw).n' ho) ?_;rintro v2 H8 ⟨⟨l2,b2,e2⟩,KY⟩;have hS:=hS.oV KY;refine lN (by simp only[cB,dL hx7,dL KY];rfl) ?_;have b1:Bs 0 (hM (hM H6 H7) H8) A.nr v l1:=(show Bs _ (hM H6 H7) A.nr v l1 from b1).le (aM _)|>.ex KY.draw;have b2:Bs 0 (hM (hM H6 H7) H8) A.nr v2 l2:=b2.le<|aM _;have hbe:=(hbe.ex hx7.draw).ex KY.draw;have hbs:=(hbs.ex hx7.draw).ex KY.draw;generalize hM (hM H6 H7) H8=Hb at*;obtain⟨va,ca,rfl,_⟩:=id b1;obtain⟨vt,ct,rfl,_⟩:=id b2
 repeat(first|(refine hS.aY ?_)|(refine hS.dQ ?_))
 refine bq (λhc=>absurd trivial hc) λ_=>?_;refine hS.dQ ?_;refine hS.aY ?_;refine bq (λhc=>absurd trivial hc) λ_=>?_;refine tl ?_;have hr:=aak (tok:=false) ae3 hIs hnr hup hSd.1 λi hi hu=>(hCl i hi hu).1;have hs:=aak (tok:=true) ae3 hIs hnr hup hSd.2 λi hi hu=>(hCl i hi hu).2;have ZM:=ho.few;have hT:=hT.ex hS.ext;have hw:=hS.wf;have hxH:=hS.ext;refine zm 9 (I:=λm x9 H'=>∃i:Nat,x9=vn i/\i+m=A.nr/\H'=Hb) ?_ A.nr ⟨0,rfl,aa,rfl⟩;rintro m x9 l7 H1 ⟨i,rfl,him,rfl⟩;refine tl ?_;refine hS.aY ?_;refine ah (λhc=>?_) λhc=>?_;rotate_left
 .refine tl ?_;refine az.orc (v:=.bool true) (H':=H1) (X9 hT) ?_;refine rr ?_;exact⟨rfl,hxH⟩
 have hi:i<A.nr:=by omega
 refine(bsN b1).at hi λp1 t1 ht1=>?_
 repeat(first|(refine hS.aY ?_)|(refine hS.kI ?_))
 refine(bsN hbe).at hi λp2 t2 ht2=>?_;refine hS.aY ?_;obtain rfl:t1=t2:=by rw[bZ,ht1,ht2,e1 i hi,adu,hr i hi]
 refine PU.of (ahu ..) ?_;refine hS.aY ?_;refine(bsN b2).at hi λp3 t3 ht3=>?_
 repeat(first|(refine hS.aY ?_)|(refine hS.kI ?_))
 refine(bsN hbs).at hi λp4 t4 ht4=>?_;refine hS.aY ?_;obtain rfl:t3=t4:=by rw[bZ,ht3,ht4,e2 i hi,adu,hs i hi]
 refine PU.of (ahu ..) ?_;refine hS.aY ?_;refine lN (by simp only[aal,ab0,ab1,VX]) ?_;refine PU.of (iN 1 rfl aa) ?_;exact⟨m-1,aa,_,_,_,rfl,i+1,rfl,aa,rfl⟩
end
end Go.Proofs.Lu
