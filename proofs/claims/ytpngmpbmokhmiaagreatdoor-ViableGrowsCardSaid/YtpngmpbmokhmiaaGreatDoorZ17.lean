/-
  Part 17 of the proof. No condition.
-/
import Derived.Test.YtpngmpbmokhmiaaGreatDoorZ13
import Derived.Test.YtpngmpbmokhmiaaGreatDoorZ16
set_option linter.unusedVariables false
set_option linter.unusedSimpArgs false
set_option maxRecDepth 100000
set_option maxHeartbeats 4000000
set_option linter.defProp false
open Option renaming some->D,none->Q
open Bool renaming true->f,false->aC
open Go renaming Value->Z,TypeId->aH
open Go.Value renaming slice->I,agg->Sg
open List renaming range->f_
noncomputable section
namespace Go.Proofs.Lv
open Go.Proofs.Lu Go.Proofs.Lu.Wk
open Go.Ae Go.Ae.cs
variable{ta:aB Addr}{sb:C Bool}{l:C Int}{F':Nat->Prop}{b most n rw' tc:Nat}{H':C Nat}{L cs:C dL}{A:At}{q q':AV}{H H0:R}{sv:Z}
section
variable{S:C Nat}{SH:Nat->Prop}{ev:Z}
def Bh.le{b':Nat}(h:Bh (b<=·) H rw' A q ev sv sb)(hb:b'<=b):Bh (b'<=·) H rw' A q ev sv sb:=⟨⟨a_ hb h.k.1,h.k.2⟩,h.b,h.a.wk λr y=>a_ hb y,let⟨sa,sc,e,hf⟩:=h.s;⟨sa,sc,e,hf.le hb⟩,h.l,h.on⟩
def sQ.same(h:sQ SH H A q)(ho:A.Ok):∀v∈q.cells A,nG v v=f:=by
 have key:∀{ty:aH}{a:aB Addr}{n c:Nat}{M:C Z},je SH ty H a n 1 M->0<n->nG (I a n c) (I a n c)=f:=λ{ty a n c M} hf hn=>by
  have⟨r,o,e1,y,hcl,o0,e0,_⟩:=hf.1.idx (c:=c) N hn;exact oF _ _ _ λx E=>by rw[e0]at E;cases E;rfl
 have⟨evs,he,_⟩:=h.e;have h0:=(ho.s 0 ho.pos).1;intro v hv;simp only[AV.cells,bP,dX,iF]at hv;rcases hv with rfl|rfl|rfl|rfl|rfl|rfl
 .exact key h.n ho.pos
 .exact key h.s ho.pos
 .exact key h.p ho.pos
 .exact key h.o N
 .exact key he N
 .exact sH _ _
def amX(hw:Wf H):aO Pg X 21 [.agg ⟨Hr⟩] H (Q1 (λv _=>∃w c,v=.tuple ⟨[w,vi c]⟩) H):=by
 have G:=F.refl hw;refine jS [0,1,2,3,4,6,8,33,34,35] ?_;refine G.box O λH1 u G=>?_;apply G.iI;refine G.cm (ail G.wf) ?_;rintro v H2 ⟨z,rfl⟩ E G;refine bG ?_;refine dN (λ_=>?_) λc=>absurd c mO;refine iD O<|rr ?_;exact⟨⟨_,_,O⟩,G.ext⟩
def Fla(n:Nat)(v:Z):Prop:=∃l,v=.agg ⟨l⟩/\bK v=l/\l.length=n/\all' fC l=f
def U0(hw:Wf H)(hT:BV H)(s:aV):aO Pg X 9 [.string s] H (Q1 (λv T=>∃(w a g:Z)(ok:Int),v=.tuple ⟨[w,a,g,vi ok]⟩/\Fla 6 a/\Fla 9 g/\(ok≠0->∃(A:At)(rw:Nat)(q q':AV)(ev sv:Z)(sb:C Bool),At.Ok A/\A.ns<=300/\A.ty<=5000/\sQ (λ_=>True) T A q/\w=pr rw/\a=q.v A/\Bh (H.next<=·) T rw A q' ev sv sb)) H):=by
 have G:=F.refl hw;refine jS [0,2,3,4,5,6,7,8,9,10] ?_;refine G.iX λH1 JP G=>?_;refine G.iX λH2 LQ G=>?_;have hS2:=G;refine G.cm (R9 G.wf (hT.ex G.ext) s) ?_;rintro v H3 ⟨x,ok,rfl,hx0,hx1⟩ E G
 obtain⟨l6,rfl,LY⟩:∃l,x=.agg ⟨l⟩/\l.length=6/\all' fC l=f/\bK x=l:=by
  by_cases c:ok=0
  .rw[hx0 c];exact⟨Hr,O,O,O,O⟩
  .obtain⟨A,_,_,_,_,q,rfl,_⟩:=hx1 c;exact⟨q.cells A,O,O,O,O⟩
 have hS0:=G;refine G.kL ?_
 obtain⟨a1,a2,a3,a4,a5,a6,rfl⟩:∃a1 a2 a3 a4 a5 a6,l6=[a1,a2,a3,a4,a5,a6]:=by
  match l6,LY.1 with
  |[a1,a2,a3,a4,a5,a6],_=>exact⟨_,_,_,_,_,_,O⟩
 refine G.nI (by rw[LY.2.2];rfl) rfl (by rw[LY.2.2];exact LY.2.1) λH4 r6 G hx4=>?_;rw[LY.2.2]at G;have vJ:=G
 have hn:aO Pg X 21 [.agg ⟨[a1,a2,a3,a4,a5,a6]⟩] H4 (Q1 (λv T=>∃(w:Z)(code:Int),v=.tuple ⟨[w,vi code]⟩/\(ok≠0->code=0->∃(A:At)(rw:Nat)(q q':AV)(ev sv:Z)(sb:C Bool),At.Ok A/\A.ns<=300/\A.ty<=5000/\sQ (H2.next<=·) T A q/\w=pr rw/\Sg ⟨[a1,a2,a3,a4,a5,a6]⟩=q.v A/\Bh (H4.next<=·) T rw A q' ev sv sb)) H4):=by
  by_cases c:ok=0
  .rw[hx0 c];exact(amX G.wf).mono λv T ⟨⟨w,c',h⟩,E⟩=>⟨⟨w,c',h,λh=>absurd c h⟩,E⟩
  .have⟨A,ho,W,J,h3,q,e,hq⟩:=hx1 c;rw[e];exact(acO G.wf (hq.ex hx4) ho h3).mono λv T ⟨⟨w,c',h,h4⟩,E⟩=>⟨⟨w,c',h,λ_ h5=>let⟨rw,q',ev,sv,sb,h6,h7⟩:=h4 h5;⟨A,rw,q,q',ev,sv,sb,ho,W,J,(hq.ex<|hx4.trans E).wk λ_ h=>h,h6,rfl,h7⟩⟩,E⟩
 apply G.iI;refine aO.mono hn ?_;rintro v H5 ⟨⟨w,code,rfl,hwk⟩,hx5⟩;have G:=G.call hx5;refine bG ?_;refine G.cm (akN G.wf s) ?_;rintro v H6 ⟨ra,rl,rc,na,m,nc,ta,n,tc,p,e,at',rfl,hg⟩ hx6 G;refine G.nI O O O λH7 r10 G hx7=>?_
 have fin:∀{b:Bool}{u:Rs},Bc u 33=.bool b->(b=aC->ok≠0/\code=0/\e=0)->gK Pg X (sub wE [1,1,1,1,0,1]) (AP (.string s) (.pointer Q) (pr JP) (pr LQ) (vi 0) (pr r6) (vi ok) w (vi code) (pr r10) u H7) (t_ Pg X (sub wE [1,1,1,1,1])<|jL Pg [.tmp 2,.cell 3 27,.cell 4 38,.tmp 5]<|Q1 (λv T=>∃(w a g:Z)(ok:Int),v=.tuple ⟨[w,a,g,vi ok]⟩/\Fla 6 a/\Fla 9 g/\(ok≠0->∃(A:At)(rw:Nat)(q q':AV)(ev sv:Z)(sb:C Bool),At.Ok A/\A.ns<=300/\A.ty<=5000/\sQ (λ_=>True) T A q/\w=pr rw/\a=q.v A/\Bh (H.next<=·) T rw A q' ev sv sb)) H):=by
  intro b u hlk hb;refine tl ?_;rw[hlk];cases b;rotate_left
  .refine eU ?_;refine G.jH λHn G=>?_;refine G.jH λHn G=>?_;refine Lu.rr ?_;refine G.rZ 3 O (ax 6) ?_;exact G.rZ 2 O (ax 9)<|⟨⟨_,_,_,0,O,⟨_,O,O,O,O⟩,⟨_,O,O,O,O⟩,λh=>absurd O h⟩,G.ext⟩
  obtain⟨W,rfl,rfl⟩:=hb O;have⟨rg,hu⟩:=(hg O).gr;refine bG ?_;refine tm ?_;refine aO.mono (yOf (nS H7) (show GR rg TT (hN H7) _ m rl from(hu.ex hx7:GR rg TT H7 _ m rl))) ?_;rintro v H8 ⟨⟨hv,l9,rfl,c9,n9,k9⟩,Bg⟩;have G:=G.nH Bg;have n1:=G.nq 0 1 O O N;have n2:=G.nq 0 2 O O N;have n3:=G.nq 0 3 O O N;have n4:=G.nq 1 2 O O N;have n5:=G.nq 1 3 O O N;have n6:=G.nq 2 3 O O N;have hS1:F [] H (hM H7 H8) ([(LQ,38,_),(JP,27,_)]):=F.drop (A:=[_,_]) G;have G:=hS1.base;refine G.mh (λDq G=>?_) (show(bK<|.agg ⟨[a1,a2,a3,a4,a5,a6]⟩).length=6 by rw[LY.2.2];rfl) mO (show all' fC (bK<|.agg ⟨[a1,a2,a3,a4,a5,a6]⟩)=f by rw[LY.2.2];exact LY.2.1);refine G.mh (λSn G=>?_) (by rw[c9];exact n9) mO (by rw[c9];exact k9);refine(show∀K:Prop,K->_/\K fromλKz hK=>?_) _ ?_
  .simp only[d_,fK,fP Bg];apply aaQ n1 n2 n3 n4 n5 n6 xN jr jr hK
  have Rp:=((hS1.over G).cast (L':=[(LQ,38,l9),(JP,27,[a1,a2,a3,a4,a5,a6])]) (by
   rw[nL _ _ (by rw[c9];exact n9.symm),c9,nL _ _ (by rw[show bK (.agg ⟨List.take 6<|List.drop 0 [a1,a2,a3,a4,a5,a6]⟩)=[a1,a2,a3,a4,a5,a6]from LY.2.2];rfl),show bK (.agg ⟨List.take 6<|List.drop 0 [a1,a2,a3,a4,a5,a6]⟩)=[a1,a2,a3,a4,a5,a6]from LY.2.2]))
  obtain⟨A,rw,q,q',ev,sv,sb,f1,f2,f3,f4,rfl,f5,f6⟩:=hwk W O;refine Lu.rr ?_;refine Rp.rZ 1 O (ax 6) ?_;refine Rp.rZ 0 O (show 0+9<=l9.length by rw[n9];decide) ?_;refine⟨⟨_,_,_,1,O,⟨_,O,LY.2.2,O,LY.2.1⟩,⟨_,O,?_,?_,?_⟩,λ_=>⟨A,rw,q,q',ev,sv,sb,f1,f2,f3,((f4.ex<|(hx6.trans hx7).trans Bg.draw).stay G.ext λr y h=>?_).wk λ_ _=>trivial,rfl,f5,Bh.le ((f6.stay ((hx6.trans hx7).trans Bg.draw) nofun).stay G.ext λr y h=>?_) vJ.ext.next⟩⟩,Rp.ext⟩
  .rw[show List.take Pg.types[38].size (List.drop 0 l9)=l9 from cO<|vz n9];exact c9
  .rw[show List.take Pg.types[38].size (List.drop 0 l9)=l9 from cO<|vz n9];exact n9
  .rw[show List.take Pg.types[38].size (List.drop 0 l9)=l9 from cO<|vz n9];exact k9
  .have h:H2.next<=r:=h
   simp only[iC,jF,bP,dX,iF]at y;rcases y with rfl|rfl
   .exact eP h (hS2.lo _<|aS (i:=0) O).2
   .exact eP h (hS2.lo _<|aS (i:=1) O).2
  have h:H4.next<=r:=h
  simp only[iC,jF,bP,dX,iF]at y;rcases y with rfl|rfl
  .exact eP h (vJ.lo _<|aS (i:=1) O).2
  .exact eP h (vJ.lo _<|aS (i:=2) O).2
 refine aT (λc=>fin O nofun) λc=>?_;refine bG ?_;refine dN (λc2=>fin O nofun) λc2=>?_;refine eU ?_;exact fin O λh=>⟨c,c2,mg h⟩
end
section
variable{S:C Nat}{SH:Nat->Prop}{ev:Z}
end
section
variable{S:C Nat}{SH:Nat->Prop}{ev:Z}{rr rs ms me a:Nat}
end
end Go.Proofs.Lv
namespace Go.Proofs.Lu
open Go.Ae Go.Ae.cs
section
variable{SH F':Nat->Prop}{H0 H:R}{L cs:C dL}{S:C Nat}
def aff:∀i,i<256->∃z:Nat,DZ[i]?=D z/\(z=240\/z=241\/z=2\/z=19\/z=3\/z=35\/z=52\/z=4\/z=68):=by
 have h:((f_ 256).all λi=>match DZ[i]? with|some z=>decide (z=240\/z=241\/z=2\/z=19\/z=3\/z=35\/z=52\/z=4\/z=68)|none=>aC)=f:=by decide +kernel
 intro i hi;have:=eG.1 h i<|my.2 hi;cases hz:DZ[i]? with
 |none=>rw[hz]at this;cases this
 |some z=>rw[hz]at this;exact⟨z,O,mg this⟩
def afg:∀i,i<16->∃x hr:Nat,Jb[i*2]?=D x/\Jb[i*2+1]?=D hr:=by
 intro i hi;have hl:Jb.length=32:=rfl;exact⟨_,_,av N,av N⟩
def BV.of(h:BL H):BV H:=by
 have⟨h0,t1,t2,W,J⟩:=h;refine⟨λi hi=>?_,λi hi=>?_,h0⟩
 .have⟨z,hz,hv⟩:=aff i hi;exact⟨z,N,aaK W hz⟩
 .have⟨x,hr,E,hy⟩:=afg i hi;exact⟨x,hr,X3 J E hy⟩
def Hd(a:aB Addr)(n c:Nat):Prop:=(a=Q/\n=0/\c=0)\/∃r o,a=D ⟨r,o,Q⟩/\n<=c/\c<=9223372036854775807
end
end Go.Proofs.Lu
namespace Go.Proofs.Lv
open Go.Proofs.Lu Go.Proofs.Lu.Wk
open Go.Ae Go.Ae.cs
variable{m r tc:Nat}{v:Z}
section
variable{H0 H:R}{L cs:C dL}{S H':C Nat}{SH F':Nat->Prop}{A:At}{q q':AV}{ev sv:Z}{sb:C Bool}{rw' most n:Nat}{l:C Int}{ta:aB Addr}
def Bh.both(h:Bh SH H rw' A q ev sv sb):Bh (λr=>SH r/\r<H.next) H rw' A q ev sv sb:=
 ⟨⟨h.k,h.k.2⟩,h.b,h.a.both,let⟨sa,sc,e,hf⟩:=h.s;⟨sa,sc,e,hf.1,λr o e hn=>let⟨W,J,h3⟩:=hf.2 r o e hn;⟨⟨W,J⟩,J,h3⟩⟩,h.l,h.on⟩
def _root_.Go.Ae.F.whole{K:Z->R->Prop}{ty:aH}{M:C Z}(G:F S H0 H L)(i:Nat)(hi:L[i]?=D (r,ty,M))(hc:M.length=m)(hv:Fla m v)(kk:∀H1 l,v=.agg ⟨l⟩->l.length=m->F S H0 H1 (L.set i (r,ty,l))->K undef H1):ME (CW m (.pointer<|D ⟨r,0,Q⟩) v H) K:=by
 obtain⟨l,rfl,W,J,h3⟩:=hv;refine G.st i hi (by rw[W];exact J) N (by rw[W];exact h3) λH1 G=>?_;rw[W,nL _ _ N]at G;exact kk H1 l O J G
end
end Go.Proofs.Lv
