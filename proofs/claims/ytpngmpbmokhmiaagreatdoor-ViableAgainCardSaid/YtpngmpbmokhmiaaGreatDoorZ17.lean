/-
  Part 17 of the proof. No condition.
-/
import Derived.Test.YtpngmpbmokhmiaaGreatDoorZ13
import Derived.Test.YtpngmpbmokhmiaaGreatDoorZ16
set_option linter.unusedVariables false
set_option linter.unusedSimpArgs false
set_option maxRecDepth 100000
set_option maxHeartbeats 4000000
set_option linter.defProp false
open Option renaming some->D,none->Q
open Bool renaming true->f,false->aC
open Go renaming Value->Z,TypeId->aH
open Go.Value renaming slice->I,agg->Sg
open List renaming range->f_
noncomputable section
namespace Go.Proofs.Lv
open Go.Proofs.Lu Go.Proofs.Lu.Wk
open Go.Ae Go.Ae.cs
variable{fa pa ta:aB Addr}{sb:C Bool}{l:C Int}{F':Nat->Prop}{b fc most n pc rw' tc:Nat}{H':C Nat}{L cs:C dL}{A:At}{q q':AV}{H H0:R}{sv:Z}{s:Sk}{c z:Int}
section
variable{S:C Nat}{SH:Nat->Prop}{ev:Z}
def Bh.le{b':Nat}(h:Bh (b<=·) H rw' A q ev sv sb)(hb:b'<=b):Bh (b'<=·) H rw' A q ev sv sb:=⟨⟨a_ hb h.k.1,h.k.2⟩,h.b,h.a.wk λr y=>a_ hb y,let⟨sa,sc,e,hf⟩:=h.s;⟨sa,sc,e,hf.le hb⟩,h.l,h.on⟩
def sQ.same(h:sQ SH H A q)(ho:A.Ok):∀v∈q.cells A,nG v v=f:=by
 have key:∀{ty:aH}{a:aB Addr}{n c:Nat}{M:C Z},je SH ty H a n 1 M->0<n->nG (I a n c) (I a n c)=f:=λ{ty a n c M} hf hn=>by
  have⟨r,o,e1,y,hcl,o0,e0,_⟩:=hf.1.idx (c:=c) N hn;exact oF _ _ _ λx E=>by rw[e0]at E;cases E;rfl
 have⟨evs,he,_⟩:=h.e;have h0:=(ho.s 0 ho.pos).1;intro v hv;simp only[AV.cells,bP,dX,iF]at hv;rcases hv with rfl|rfl|rfl|rfl|rfl|rfl
 .exact key h.n ho.pos
 .exact key h.s ho.pos
 .exact key h.p ho.pos
 .exact key h.o N
 .exact key he N
 .exact sH _ _
def amX(hw:Wf H):aO Pg X 21 [.agg ⟨Hr⟩] H (Q1 (λv _=>∃w c,v=.tuple ⟨[w,vi c]⟩) H):=by
 have G:=F.refl hw;refine jS [0,1,2,3,4,6,8,33,34,35] ?_;refine G.box O λH1 u G=>?_;apply G.iI;refine G.cm (ail G.wf) ?_;rintro v H2 ⟨z,rfl⟩ E G;refine bG ?_;refine dN (λ_=>?_) λc=>absurd c mO;refine iD O<|rr ?_;exact⟨⟨_,_,O⟩,G.ext⟩
def Fla(n:Nat)(v:Z):Prop:=∃l,v=.agg ⟨l⟩/\bK v=l/\l.length=n/\all' fC l=f
theorem U0(hw:Wf H)(hT:BV H)(s:aV):aO Pg X 9 [.string s] H (Q1 (λv T=>∃(w a g:Z)(ok:Int),v=.tuple ⟨[w,a,g,vi ok]⟩/\Fla 6 a/\Fla 9 g/\(ok≠0->∃(A:At)(rw:Nat)(q q':AV)(ev sv:Z)(sb:C Bool),At.Ok A/\A.ns<=300/\A.ty<=5000/\sQ (λ_=>True) T A q/\w=pr rw/\a=q.v A/\Bh (H.next<=·) T rw A q' ev sv sb)) H):=by
 have G:=F.refl hw;refine jS [0,2,3,4,5,6,7,8,9,10] ?_;refine G.iX λH1 JP G=>?_;refine G.iX λH2 LQ G=>?_;have hS2:=G;refine G.cm (R9 G.wf (hT.ex G.ext) s) ?_;rintro v H3 ⟨x,ok,rfl,hx0,hx1⟩ E G
 obtain⟨l6,rfl,LY⟩:∃l,x=.agg ⟨l⟩/\l.length=6/\all' fC l=f/\bK x=l:=by
  by_cases c:ok=0
  .rw[hx0 c];exact⟨Hr,O,O,O,O⟩
  .obtain⟨A,_,_,_,_,q,rfl,_⟩:=hx1 c;exact⟨q.cells A,O,O,O,O⟩
 have hS0:=G;refine G.kL ?_
 obtain⟨a1,a2,a3,a4,a5,a6,rfl⟩:∃a1 a2 a3 a4 a5 a6,l6=[a1,a2,a3,a4,a5,a6]:=by
  match l6,LY.1 with
  |[a1,a2,a3,a4,a5,a6],_=>exact⟨_,_,_,_,_,_,O⟩
 refine G.nI (by rw[LY.2.2];rfl) rfl (by rw[LY.2.2];exact LY.2.1) λH4 r6 G hx4=>?_;rw[LY.2.2]at G;have vJ:=G
 have hn:aO Pg X 21 [.agg ⟨[a1,a2,a3,a4,a5,a6]⟩] H4 (Q1 (λv T=>∃(w:Z)(code:Int),v=.tuple ⟨[w,vi code]⟩/\(ok≠0->code=0->∃(A:At)(rw:Nat)(q q':AV)(ev sv:Z)(sb:C Bool),At.Ok A/\A.ns<=300/\A.ty<=5000/\sQ (H2.next<=·) T A q/\w=pr rw/\Sg ⟨[a1,a2,a3,a4,a5,a6]⟩=q.v A/\Bh (H4.next<=·) T rw A q' ev sv sb)) H4):=by
  by_cases c:ok=0
  .rw[hx0 c];exact(amX G.wf).mono λv T ⟨⟨w,c',h⟩,E⟩=>⟨⟨w,c',h,λh=>absurd c h⟩,E⟩
  .have⟨A,ho,W,J,h3,q,e,hq⟩:=hx1 c;rw[e];exact(acO G.wf (hq.ex hx4) ho h3).mono λv T ⟨⟨w,c',h,h4⟩,E⟩=>⟨⟨w,c',h,λ_ h5=>let⟨rw,q',ev,sv,sb,h6,h7⟩:=h4 h5;⟨A,rw,q,q',ev,sv,sb,ho,W,J,(hq.ex<|hx4.trans E).wk λ_ h=>h,h6,rfl,h7⟩⟩,E⟩
 apply G.iI;refine aO.mono hn ?_;rintro v H5 ⟨⟨w,code,rfl,hwk⟩,hx5⟩;have G:=G.call hx5;refine bG ?_;refine G.cm (akN G.wf s) ?_;rintro v H6 ⟨ra,rl,rc,na,m,nc,ta,n,tc,p,e,at',rfl,hg⟩ hx6 G;refine G.nI O O O λH7 r10 G hx7=>?_
 have fin:∀{b:Bool}{u:Rs},Bc u 33=.bool b->(b=aC->ok≠0/\code=0/\e=0)->gK Pg X (sub wE [1,1,1,1,0,1]) (AP (.string s) (.pointer Q) (pr JP) (pr LQ) (vi 0) (pr r6) (vi ok) w (vi code) (pr r10) u H7) (t_ Pg X (sub wE [1,1,1,1,1])<|jL Pg [.tmp 2,.cell 3 27,.cell 4 38,.tmp 5]<|Q1 (λv T=>∃(w a g:Z)(ok:Int),v=.tuple ⟨[w,a,g,vi ok]⟩/\Fla 6 a/\Fla 9 g/\(ok≠0->∃(A:At)(rw:Nat)(q q':AV)(ev sv:Z)(sb:C Bool),At.Ok A/\A.ns<=300/\A.ty<=5000/\sQ (λ_=>True) T A q/\w=pr rw/\a=q.v A/\Bh (H.next<=·) T rw A q' ev sv sb)) H):=by
  intro b u hlk hb;refine tl ?_;rw[hlk];cases b;rotate_left
  .refine eU ?_;refine G.jH λHn G=>?_;refine G.jH λHn G=>?_;refine Lu.rr ?_;refine G.rZ 3 O (ax 6) ?_;exact G.rZ 2 O (ax 9)<|⟨⟨_,_,_,0,O,⟨_,O,O,O,O⟩,⟨_,O,O,O,O⟩,λh=>absurd O h⟩,G.ext⟩
  obtain⟨W,rfl,rfl⟩:=hb O;have⟨rg,hu⟩:=(hg O).gr;refine bG ?_;refine tm ?_;refine aO.mono (yOf (nS H7) (show GR rg TT (hN H7) _ m rl from(hu.ex hx7:GR rg TT H7 _ m rl))) ?_;rintro v H8 ⟨⟨hv,l9,rfl,c9,n9,k9⟩,Bg⟩;have G:=G.nH Bg;have n1:=G.nq 0 1 O O N;have n2:=G.nq 0 2 O O N;have n3:=G.nq 0 3 O O N;have n4:=G.nq 1 2 O O N;have n5:=G.nq 1 3 O O N;have n6:=G.nq 2 3 O O N;have hS1:F [] H (hM H7 H8) ([(LQ,38,_),(JP,27,_)]):=F.drop (A:=[_,_]) G;have G:=hS1.base;refine G.mh (λDq G=>?_) (show(bK<|.agg ⟨[a1,a2,a3,a4,a5,a6]⟩).length=6 by rw[LY.2.2];rfl) mO (show all' fC (bK<|.agg ⟨[a1,a2,a3,a4,a5,a6]⟩)=f by rw[LY.2.2];exact LY.2.1);refine G.mh (λSn G=>?_) (by rw[c9];exact n9) mO (by rw[c9];exact k9);refine(show∀K:Prop,K->_/\K fromλKz hK=>?_) _ ?_
  .simp only[d_,fK,fP Bg];apply aaQ n1 n2 n3 n4 n5 n6 xN jr jr hK
  have Rp:=((hS1.over G).cast (L':=[(LQ,38,l9),(JP,27,[a1,a2,a3,a4,a5,a6])]) (by
   rw[nL _ _ (by rw[c9];exact n9.symm),c9,nL _ _ (by rw[show bK (.agg ⟨List.take 6<|List.drop 0 [a1,a2,a3,a4,a5,a6]⟩)=[a1,a2,a3,a4,a5,a6]from LY.2.2];rfl),show bK (.agg ⟨List.take 6<|List.drop 0 [a1,a2,a3,a4,a5,a6]⟩)=[a1,a2,a3,a4,a5,a6]from LY.2.2]))
  obtain⟨A,rw,q,q',ev,sv,sb,f1,f2,f3,f4,rfl,f5,f6⟩:=hwk W O;refine Lu.rr ?_;refine Rp.rZ 1 O (ax 6) ?_;refine Rp.rZ 0 O (show 0+9<=l9.length by rw[n9];decide) ?_;refine⟨⟨_,_,_,1,O,⟨_,O,LY.2.2,O,LY.2.1⟩,⟨_,O,?_,?_,?_⟩,λ_=>⟨A,rw,q,q',ev,sv,sb,f1,f2,f3,((f4.ex<|(hx6.trans hx7).trans Bg.draw).stay G.ext λr y h=>?_).wk λ_ _=>trivial,rfl,f5,Bh.le ((f6.stay ((hx6.trans hx7).trans Bg.draw) nofun).stay G.ext λr y h=>?_) vJ.ext.next⟩⟩,Rp.ext⟩
  .rw[show List.take Pg.types[38].size (List.drop 0 l9)=l9 from cO<|vz n9];exact c9
  .rw[show List.take Pg.types[38].size (List.drop 0 l9)=l9 from cO<|vz n9];exact n9
  .rw[show List.take Pg.types[38].size (List.drop 0 l9)=l9 from cO<|vz n9];exact k9
  .have h:H2.next<=r:=h
   simp only[iC,jF,bP,dX,iF]at y;rcases y with rfl|rfl
   .exact eP h (hS2.lo _<|aS (i:=0) O).2
   .exact eP h (hS2.lo _<|aS (i:=1) O).2
  have h:H4.next<=r:=h
  simp only[iC,jF,bP,dX,iF]at y;rcases y with rfl|rfl
  .exact eP h (vJ.lo _<|aS (i:=1) O).2
  .exact eP h (vJ.lo _<|aS (i:=2) O).2
 refine aT (λc=>fin O nofun) λc=>?_;refine bG ?_;refine dN (λc2=>fin O nofun) λc2=>?_;refine eU ?_;exact fin O λh=>⟨c,c2,mg h⟩
end
section
variable{S:C Nat}{SH:Nat->Prop}{ev:Z}
def aiz:aO Pg X 59 [.pointer Q] H (Q0 (λv=>v=.bool f) H):=by
 refine jS [0,2] ?_;refine PU.of (v:=.bool f) jr ?_;refine bG ?_;refine Lu.rr ?_;exact⟨O,O⟩
def amY(hw:Wf H):aO Pg X 65 [.pointer Q] H (Q1 (λv _=>v=.agg ⟨Hr⟩) H):=by
 refine jS [0,2] ?_;have G:=F.refl hw;refine G.iX λH1 u G=>?_;refine aO.mono aiz ?_;rintro _ H2 ⟨rfl,rfl⟩;refine bG ?_;refine PU.of (v:=.agg ⟨Hr⟩) O ?_;refine G.jH λH3 G=>?_;refine Lu.rr ?_;apply G.iI;exact⟨O,G.ext⟩
def alk(hw:Wf H):aO Pg X 35 [.agg ⟨Hr⟩] H (Q1 (λv _=>v=vi 0) H):=by
 refine jS [0,1,2] ?_;have G:=F.refl hw;refine G.box O λH1 u G=>?_;refine eU ?_;refine Lu.rr ?_;exact⟨O,G.ext⟩
def amZ(hw:Wf H)(z:Int):aO Pg X 45 [.pointer Q,vi z] H (Q1 (λv _=>v=.tuple ⟨[.pointer Q,vi 1]⟩) H):=by
 refine jS [0,1,4,5,6,7,8,9] ?_;refine aO.mono (amY hw) ?_;rintro _ H1 ⟨rfl,E⟩;have G:=(F.refl hw).call E;refine G.ns O O O λH2 ra G hx2=>?_;refine eU ?_;refine G.cm (alk G.wf) ?_;rintro _ H3 rfl hx3 G;refine bG ?_;refine aT (λ_=>?_) λh=>absurd trivial h;refine Lu.rr ?_;exact⟨O,G.ext⟩
def agQ{w s:Z}(hc:c≠0)(hs:s=.pointer Q)(hw:Wf H)(h:∀H1,Ext H H1->Wf H1->aO Pg X 45 [w,vi z] H1 (Q1 (λv _=>v=.tuple ⟨[s,vi c]⟩) H1)):
 aO Pg X 11 [w,I ta n tc,vi z] H (Q1 (λv _=>v=.tuple ⟨[.agg ⟨[Bi,Bi]⟩,.pointer Q,vi c]⟩) H):=by
 subst hs;refine jS [0,1,2,6,7,8,9,10,11,12,13,14,15,28,29,30] ?_;have G:=F.refl hw;refine G.iX λH1 ro G=>?_;refine G.cm (h H1 G.ext G.wf) ?_;rintro _ H2 rfl E G;refine bG ?_;refine G.ns O O O λH3 rs G hx3=>?_;refine dN (λ_=>?_) λh=>absurd h hc;refine PU.of (v:=.agg ⟨[Bi,Bi]⟩) O ?_;have G:F [] H H3 [(rs,44,[.pointer Q]),(ro,43,[Bi,Bi])]:=G;refine G.jH λH4 G=>?_;refine Lu.rr ?_;apply G.iI;exact⟨O,G.ext⟩
end
section
variable{S:C Nat}{SH:Nat->Prop}{ev:Z}{rr rs ms me a:Nat}
theorem aiA{p:Sp}(h:F S H0 H<|(rr,156,[I Q 0 0,.bool aC,I Q 0 0,vi 0,.map<|D ms,.map<|D me,B 0])::L)(hm:Cx pE H ms λ_=>Q):aO Pg X 87 [pr rr,pE p] H λv T=>v=.bool aC/\Ext H T:=by
 refine jS [0,1,3,4,6] ?_;have hO:=F.refl h.wf;refine hO.box O λH1 rb hO=>?_;have G:=F.frame (cs:=[]) h hO;have G:F S H0 H1 ((rb,86,[B p.1,B p.2])::(rr,156,[I Q 0 0,.bool aC,I Q 0 0,vi 0,.map<|D ms,.map<|D me,B 0])::L):=G;have n1:=G.nq 0 1 O O N;have m1:=hm.ex hO.ext nofun;have hx1:=hO.ext;refine eU ?_;have m1':Cx pE (hN H1) ms λk:Sp=>if False then D u0 else Q:=by simpa using m1.ex (Ext.hN H1) nofun
 refine Cx.has (e:=pE) (k:=p) (p:=λ_=>False) (H:=hN H1) m1' Dw DW acT ?_;refine G.kL ?_;have hlt:=G.lt;refine G.WH λH2 rz G hx2 c1 hrz=>?_;refine G.kL ?_;refine splitK (λK hK=>?_) ?_
 .have n2:rz≠rb:=λe=>by have:=hlt rb kg;omega
  have n3:rz≠rr:=λe=>by have:=hlt rr kg;omega
  simp only[c1,d_,fK,fP<|Ext.refl<|hN _];apply xG (a:=rz) (b:=rb) (c:=rr) n2 n3 n1 xN jr jr hK
 refine aT (λhp=>hp.elim) λhp=>?_;refine eU ?_;refine aT (λ_=>?_) λh=>absurd (j4 _) h;refine Lu.rr ?_;exact⟨O,hx1.trans hx2⟩
def afd(ho:A.Ok)(hk:Bh SH H rw' A q ev sv sb)(hcell:∀{T},Ext H T->T.cell rs 0=D (I pa (s.length+1) pc)){l:C Sp}(hf:je F' 86 H fa l.length 2<|Hw l)(hl:∀p∈l,p.1<A.ns/\p.2<=s.length)(hll:l.length<=8000000)(hl0:0<l.length)(hw:Wf H):
 aO Pg X 57 [pr rw',pr rs,I fa l.length fc,B a,I Q 0 0,B 0] H (Q1 (λv _=>v=.tuple ⟨[.agg ⟨[Bi,.bool aC,Bi,vi 0]⟩,vi 31]⟩) H):=by
 refine jS [0,1,2,3,4,5,12,13,15,16,18,19,20,21,23,32,33,34,65,66,67,119,120,121] ?_;have G:=F.refl hw;refine G.iX λH1 rc G=>?_;have hrc:=G.wQ<|aN ..
 refine gK.vg λK hK=>?_;refine gK.scope (az:=λ_ _ _=>False) (λ_ _ _ _ h=>h.elim) 0 ?_;refine gK.vg λK2 hK2=>?_;refine tl ?_;have hk1:∀{T},Ext H T->Bh SH T rw' A q ev sv sb:=λE=>hk.stay E nofun;refine aO.mono (LH (hk1 G.ext) ho) ?_;rintro _ H1 ⟨rfl,rfl⟩;refine bG ?_;refine aO.mono (HV<|hcell G.ext) ?_;rintro _ H1 ⟨rfl,rfl⟩;refine bG ?_;refine aT (λhc=>N) λ_=>?_;refine tp ?_;refine FY 13 15 34 (ai:=λm jI lH x34 T=>∃i:Nat,x34=B i/\i+m=l.length/\F [] H T [(rc,68,[I Q 0 0,.bool aC,I Q 0 0,vi 0])]) ?_ l.length ⟨0,rfl,aY _,G⟩;clear G;rintro m jI lH x34 u H1 ⟨i0,rfl,him,G⟩;refine q_ (λhc=>?_) λhc=>?_
 .have hil:i0<l.length:=N;have hpl:=hl _<|bB hil;refine(hf.ex G.ext).TM N hil (Cc<|av hil) λ_=>?_;generalize l[i0]=p at hpl|-;refine G.ns O O O λH2 rf G _=>?_;have G:F [] H H2 [(rf,86,[B p.1,B p.2]),(rc,68,[I Q 0 0,.bool aC,I Q 0 0,vi 0])]:=G;refine eU ?_;refine aO.mono (acX ((hk1 G.ext).stay (Ext.hN H2) nofun) hpl.1) ?_;rintro _ _ ⟨rfl,rfl⟩;refine bG ?_;refine gF (λh=>by cases h) λ_=>?_;refine eU ?_;refine aT (λh=>N) λ_=>?_;refine eU ?_;refine aO.mono (HV<|hcell<|G.ext.trans'<|Ext.hN H2) ?_;rintro _ _ ⟨rfl,rfl⟩;refine eU ?_;refine aT (λh=>N) λ_=>?_;refine dQ ?_;exact⟨l.length-(i0+1),N,_,_,_,_,_,O,i0+1,og,N,F.drop (A:=[_]) G⟩
 refine tp ?_;refine aT (λh=>N) λ_=>?_;refine G.mkMap (e:=pE) Dw λH2 ms hms hx2 hgs G=>?_;refine G.mkMap (e:=vnE) LG λH3 me hme hx3 hge G=>?_;have hms:=hms.ex hx3 nofun;refine PU.of (v:=.agg ⟨[I Q 0 0,.bool aC,I Q 0 0,vi 0,.map<|D ms,.map<|D me,B 0]⟩) O ?_;have hO:=F.refl G.wf;refine hO.box O λH4 rr hO=>?_;have hms:=hms.ex hO.ext nofun;have G:F [] H H4 [(rr,156,[I Q 0 0,.bool aC,I Q 0 0,vi 0,.map<|D ms,.map<|D me,B 0]),(rc,68,[I Q 0 0,.bool aC,I Q 0 0,vi 0])]:=F.frame (cs:=[]) G hO;refine FY 13 18 67 (ai:=λm jI wN JF T=>JF=B 0/\T=H4) ?_ 0 ⟨rfl,rfl⟩;rintro m jI wN JF rg2 Hq ⟨rfl,rfl⟩;refine tp ?_;refine aT (λhc=>?_) λhc=>N;refine(hf.ex G.ext).TM N hl0 (Cc<|av hl0) λ_=>?_;refine G.ns O O O λH6 rf G hx6=>?_;have hms:=hms.ex hx6 nofun;have G:F [] H H6 [(rf,86,[B l[0].1,B l[0].2]),(rr,156,[I Q 0 0,.bool aC,I Q 0 0,vi 0,.map<|D ms,.map<|D me,B 0]),(rc,68,[I Q 0 0,.bool aC,I Q 0 0,vi 0])]:=G;apply G.iI;refine G.cm (aiA (F.drop (A:=[_]) G) hms) ?_;rintro _ H7 rfl hx7 G;refine bG ?_;refine gF (λ_=>?_) (λh=>by cases h);refine PU.of (v:=.agg ⟨[Bi,.bool aC,Bi,vi 0]⟩) O ?_;refine G.jH λH8 G=>?_;rw[hK2];simp only[JD];rw[hK];refine Lu.rr ?_;apply G.iI;exact⟨O,G.ext⟩
def UX.alm(h:UX H' H rs s):∃a c,∀{T},Ext H T->T.cell rs 0=D (I a (s.length+1) c):=by
 have⟨a,c,hc⟩:=h.cell;have⟨mn,ml,pv,uv,us,gP,gU,az,hq,_⟩:=h;exact⟨a,c,λE=>(kr (E.obj _ (hq.lo _<|aN ..).2 nofun) 0).trans hc⟩
theorem afe(ho:A.Ok)(hw:Wf H)(hk:Bh SH H rw' A q ev sv sb):
 aO Pg X 45 [pr rw',vi 0] H (Q1 (λv _=>v=.tuple ⟨[.pointer Q,vi 31]⟩) H):=by
 have hns:0<A.ns:=by have:=(ho.s 0 ho.pos).1;omega
 refine jS [0,1,4,5,6,7,8,9] ?_;refine aO.mono (alf ho hw hk) ?_;rintro _ H1 ⟨⟨q',rfl,W⟩,E⟩;have G:=(F.refl hw).call E;refine G.ns (by rw[jM];rfl) rfl (by rw[jM];rfl) λH2 ra G hx2=>?_;have G:F [] H H2 [(ra,27,q'.cells A)]:=G;have J:=W.ex hx2;refine eU ?_;refine G.cm (sI G.wf q' A) ?_;rintro _ H3 rfl hx3 G;have h3:=J.ex hx3;refine bG ?_;refine aT (λh=>N) λ_=>?_;refine aO.mono (alg<|nS H3) ?_;rintro _ H4 ⟨H',rs,rfl,hst,hT,hx4⟩;have hst:=hst.m G.wf hx4;have h4:=(h3.ex hx4.draw);have G:=G.nH hx4;refine eU ?_;show PU (zN 1 (I q'.sa A.nr q'.sc)<|B 0) _;refine h4.aeJ ho ho.pos λr o=>?_;refine eU ?_;refine G.bSE O O O mO λH5 rf G c5 hrf hx5=>?_;refine PU.of (v:=.agg ⟨[pr rw',pr rs,I (D ⟨rf,0,Q⟩) 1 1,vi 1,I Q 0 0,.bool aC,I Q 0 0,vi 0,vi 0,vi 0,vi 0,.bool aC]⟩) O ?_;refine G.aic O λH6 rp G c6 hx6 hrp=>?_;refine iD (by simp only[d_,fP hx4,c5,c6];rfl) ?_;have G:F [] H (hM (hM (hM H3 H4) H5) H6) [(rp,92,[pr rw',pr rs,I (D ⟨rf,0,Q⟩) 1 1,vi 1,I Q 0 0,.bool aC,I Q 0 0,vi 0,vi 0,vi 0,vi 0,.bool aC]),(rf,86,[B (A.S 0),vi 0]),(ra,27,q'.cells A)]:=G;have hst:=hst.stay (hx5.trans hx6) nofun;generalize hM (hM (hM H3 H4) H5) H6=H7 at G hst|-;refine eU ?_;have hff:=je.one (SH:=(·=rf)) (es:=2) G (n:=1) (show((rf,86,[B (A.S 0),vi 0]):dL)∈_ by simp) O O;show aO Pg X 57 [pr rw',pr rs,.slice (D ⟨rf,0,Q⟩) ([(A.S 0,0)]:C Sp).length 1,B 0,I Q 0 0,B 0] (hN H7) _;have⟨pa,pc,hcl⟩:=hst.alm;refine aO.mono (afd (s:=[]) (pa:=pa) (pc:=pc) ho ((hk.stay G.ext nofun).stay (Ext.hN H7) nofun) (λE=>hcl<|(Ext.hN H7).trans E) (hff.ex<|Ext.hN H7) (λp hp=>by rw[aP]at hp;subst hp;exact⟨(ho.s 0 ho.pos).1,ax _⟩) kg kg<|nS H7) ?_;rintro _ H8 ⟨rfl,Bg⟩;have G:=G.nH Bg;refine bG ?_;refine G.nsD O O O λH9 rc Dq G c9 hrc Ap=>?_;have n1:rc≠rp:=G.neT;refine splitK (λK hK=>?_) ?_
 .simp only[d_,fK,c9];rcases vQ H7 H8 with e|e<;>rw[e]<;>apply lQ (a:=rc) (b:=rp) n1 xN jr jr hK
 refine dN (λ_=>?_) λh=>absurd h mO;refine Lu.rr ?_;exact⟨O,G.ext⟩
end
end Go.Proofs.Lv
namespace Go.Proofs.Lu
open Go.Ae Go.Ae.cs
section
variable{SH F':Nat->Prop}{H0 H:R}{L cs:C dL}{S:C Nat}
def aff:∀i,i<256->∃z:Nat,DZ[i]?=D z/\(z=240\/z=241\/z=2\/z=19\/z=3\/z=35\/z=52\/z=4\/z=68):=by
 have h:((f_ 256).all λi=>match DZ[i]? with|some z=>decide (z=240\/z=241\/z=2\/z=19\/z=3\/z=35\/z=52\/z=4\/z=68)|none=>aC)=f:=by decide +kernel
 intro i hi;have:=eG.1 h i<|my.2 hi;cases hz:DZ[i]? with
 |none=>rw[hz]at this;cases this
 |some z=>rw[hz]at this;exact⟨z,O,mg this⟩
def afg:∀i,i<16->∃x hr:Nat,Jb[i*2]?=D x/\Jb[i*2+1]?=D hr:=by
 intro i hi;have hl:Jb.length=32:=rfl;exact⟨_,_,av N,av N⟩
def BV.of(h:BL H):BV H:=by
 have⟨h0,t1,t2,W,J⟩:=h;refine⟨λi hi=>?_,λi hi=>?_,h0⟩
 .have⟨z,hz,hv⟩:=aff i hi;exact⟨z,N,aaK W hz⟩
 .have⟨x,hr,E,hy⟩:=afg i hi;exact⟨x,hr,X3 J E hy⟩
def am0(a:Bool)(i j:Nat):lY Pg .neq 4 (.tmp i) (.tmp j) (.bool a) (.bool a)=D (.bool aC):=by
 cases a<;>kernel_rfl
def Hd(a:aB Addr)(n c:Nat):Prop:=(a=Q/\n=0/\c=0)\/∃r o,a=D ⟨r,o,Q⟩/\n<=c/\c<=9223372036854775807
end
end Go.Proofs.Lu
namespace Go.Proofs.Lv
open Go.Proofs.Lu Go.Proofs.Lu.Wk
open Go.Ae Go.Ae.cs
variable{l:C Int}{ty:aH}{M:C Z}{a ta:aB Addr}{i m n r tc:Nat}{v x:Z}
section
variable{H0 H:R}{L cs:C dL}{S H':C Nat}{SH F':Nat->Prop}{A:At}{q q':AV}{ev sv:Z}{sb:C Bool}{rw' most:Nat}
def Bh.both(h:Bh SH H rw' A q ev sv sb):Bh (λr=>SH r/\r<H.next) H rw' A q ev sv sb:=
 ⟨⟨h.k,h.k.2⟩,h.b,h.a.both,let⟨sa,sc,e,hf⟩:=h.s;⟨sa,sc,e,hf.1,λr o e hn=>let⟨W,J,h3⟩:=hf.2 r o e hn;⟨⟨W,J⟩,J,h3⟩⟩,h.l,h.on⟩
def _root_.Go.Ae.je.rd1{c:Nat}(h:je SH ty H a n 1 M)(hi:i<n)(E:M[i]?=D x):∃r o,zN 1 (I a n c) (B i)=D (.pointer<|D ⟨r,o,Q⟩)/\H.cell r o=D x/\r<H.next/\yS H r ty:=by
 have⟨r,o,e1,y,hcl,o0,e0,_⟩:=h.1.idx (c:=c) N hi;exact⟨r,o,e1,hcl 0 _ N (by rw[dz,dH];exact E),y,(h.2 r o0 e0 N).2.2⟩
def ints_at(h:i<l.length):(ints l)[i]?=D (vi l[i]):=jR _<|av h
def _root_.Go.Ae.F.whole{K:Z->R->Prop}(G:F S H0 H L)(i:Nat)(hi:L[i]?=D (r,ty,M))(hc:M.length=m)(hv:Fla m v)(kk:∀H1 l,v=.agg ⟨l⟩->l.length=m->F S H0 H1 (L.set i (r,ty,l))->K undef H1):ME (CW m (.pointer<|D ⟨r,0,Q⟩) v H) K:=by
 obtain⟨l,rfl,W,J,h3⟩:=hv;refine G.st i hi (by rw[W];exact J) N (by rw[W];exact h3) λH1 G=>?_;rw[W,nL _ _ N]at G;exact kk H1 l O J G
end
end Go.Proofs.Lv
