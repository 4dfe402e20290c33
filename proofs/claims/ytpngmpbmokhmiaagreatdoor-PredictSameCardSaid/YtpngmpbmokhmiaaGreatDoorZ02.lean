/-
  Part 02 of the proof. No condition.
-/
import Derived.Test.YtpngmpbmokhmiaaGreatDoorZ01
set_option linter.unusedVariables false
set_option linter.unusedSimpArgs false
set_option maxRecDepth 100000
set_option maxHeartbeats 4000000
set_option linter.defProp false
open Option renaming some->Z,none->W,rec->aN
open Bool renaming true->f,false->aA
open Go renaming Value->D,TypeId->aG,Program->aS,World->bW,IntKind->fu,TypeDesc->eZ
open Go.Value renaming int->bV,slice->T,string->fO,pointer->tN,agg->Ru
open Nat renaming beq->ay,ble->aB,add->aV,mul->bL,sub->dA
open UInt8 renaming ofNat->jb
open Go.Sem renaming run_bind->cB,run_pure->dF
open Go.Result renaming andThen_ok->bN
open Go.Instr renaming sureAddr->jv,sliceAt->kF,checkKey->iY,findNow->lI
open Go.ByteArray renaming toList_eq->h_
open List renaming replicate->aU
open Go.Builtin renaming len_->j_,lenOf->kG,firstCells->dM,append_->kH
open Go.Lib renaming bytesCells->jw
noncomputable section
namespace Go.Ae
variable{w w':bW}{e kt s t t2 ty:aG}{m m':Mp}{k' v v' x x' hc y':D}{ats:List aG}{args args' old old' rest vs vs' z zs:List D}{H C:F}{es:List (D×D)}{l:Loc}{av:Array aG->aG->Array D->Sem D}{i:TypeInfo}{c c' cap cc cp h k ln mm n r sz:Nat}{a:Addr}{q:aG×Nat}{zz l':List MapEntry}{hi hi' lo lo' mx UA o' r':Option D}{o ob:Obj}{ps ps':List (Nat×D)}{E:Array D}{d d2 du:eZ}{α:Type}{b ok:Bool}
section ops
variable{P:aS}
inductive OR(m:Mp):Option D->Option D->Prop where
 |nn:OR m W W
 |ss (v v':D) (h:VR m v v'):OR m (Z v) (Z v')
def WA{o:Option D}{d:Nat}(h:nA o d=Z n):(o=W/\n=d)\/∃k,o=Z (.int k n):=by
 cases o with
 |none=>cases h;exact .inl ⟨O,O⟩
 |some v=>
  have h:zh v=Z n:=h;obtain⟨k,rfl⟩:=C_ h;exact .inr ⟨k,O⟩
def OR.nat{o:Option D}{d:Nat}(ho:OR m o o')(h:nA o d=Z n):(o'=W/\o=W/\n=d)\/∃k,o'=Z (.int k n)/\o=Z (.int k n):=by
 rcases WA h with⟨rfl,rfl⟩|⟨k,rfl⟩
 .cases ho;exact .inl ⟨O,O,O⟩
 .cases ho with
  |ss _ v' hv=>have:=hv.of_int;subst this;exact .inr ⟨k,O,O⟩
def De{k:fu}{hc:Nat}{code:BoundsCode}(h:n<=hc):(Instr.sliceBound (.int k n) hc code).run P w=.ok n w:=by
 have:(n:Int)<=hc:=by omega
 simp[Instr.sliceBound,asIntOf,this,h]
theorem AQ{isS:Bool}{l:Nat}(hlo:OR m lo lo')(hhi:OR m hi hi')(hmx:OR m mx UA)(el:nA lo 0=Z l)(eh:nA hi ln=Z h)(em:nA mx cp=Z mm)(Q:l<=h)(I:h<=mm)(h3:mm<=cp)(h4:hi=W->mx=W):
 (Instr.sliceBounds isS ln cp lo' hi' UA).run P w=.ok (l,h,mm) w:=by
 rcases hlo.nat el with⟨rfl,_,rfl⟩|⟨k1,rfl,_⟩<;>rcases hhi.nat eh with⟨rfl,rfl,rfl⟩|⟨k2,rfl,rfl⟩<;>rcases hmx.nat em with⟨rfl,rfl,rfl⟩|⟨k3,rfl,rfl⟩
 all_goals first
  |(exfalso;have:=h4 O;cases this;done)
  |simp[Instr.sliceBounds,De Q,De I,De h3,De<|aX Q I]
def Df(l:Loc)(off k:Nat)(hl:l.lo<=off):(⟨l.c,l.base+(off-l.lo),W⟩:Addr).add k=⟨l.c,l.base+(off+k-l.lo),W⟩:=by
 unfold Addr.add;split
 .next h0=>rw[h0,dD]
 .congr 1;show l.base+(off-l.lo)+k=_;omega
def JG{o:Option α}(h:eX o=f):o=W:=by cases o<;>simp[eX]at h;rfl
def Zb{s:ByteArray}(hu:P.underlying t=Z .string)(h:Nj s lo hi=Z v)(hlo:OR m lo lo')(hhi:OR m hi hi'):
 VR m v v/\∀w,(kF t (.string s) lo' hi' W).run P w=.ok v w:=by
 obtain⟨l,hl,h⟩:=aI h;obtain⟨hh,WB,h⟩:=aI h;obtain⟨hg,h⟩:=fH h;cases h;simp only[aZ,fQ]at hg WB;have Q:=aD hg.1;have I:=aD hg.2;have hsz:s.size=s.data.toList.length:=rfl;refine⟨.sc _ O,λw=>?_⟩;have e:=AQ (P:=P) (isS:=aA) (ln:=s.size) (cp:=s.size) (w:=w) hlo hhi (OR.nn (m:=m)) hl WB O Q I (az _) λ_=>rfl
 have e2:s.extract l hh=⟨⟨tk (hh-l)<|dp l s.data.toList⟩⟩:=by
  apply sZ;rw[GV,LZ];rw[pG,<-iW,Array.toList_extract]
 simp[kF,Instr.slice,eY hu,e,e2]
def yB{l:Nat}(hu:P.underlying t=Z (.slice e))(hi0:P.info? e=Z i)(hlo:OR m lo lo')(hhi:OR m hi hi')(hmx:OR m mx UA)(el:nA lo 0=Z l)(eh:nA hi ln=Z h)(em:nA mx cp=Z mm)(Q:l<=h)(I:h<=mm)(h3:mm<=cp)(h4:hi=W->mx=W):
 (kF t (.slice (Z a) ln cp) lo' hi' UA).run P w=.ok (.slice (Z (if mm=l then a else a.add (l*i.size))) (h-l)<|mm-l) w:=by
 have e:=AQ (P:=P) (isS:=f) (w:=w) hlo hhi hmx el eh em Q I h3 h4;simp only[kF,Instr.slice,cB,eY hu,bN,e,jJ hi0,dF];split<;>simp
def adk{lv:D}{p:Option Addr×Nat×Nat}(hq:O3 P t=Z q)(hp:Iz x=Z p)(h:Uu q.2 p lo hi mx=Z lv)(J:VR m x x')(hlo:OR m lo lo')(hhi:OR m hi hi')(hmx:OR m mx UA):
 ∃v',VR m lv v'/\∀w,(kF t x' lo' hi' UA).run P w=.ok v' w:=by
 obtain⟨hu,⟨inf,uD,hsz⟩,hq1⟩:=AP hq;rw[wO hp]at J;obtain⟨pa,n,cp⟩:=p;simp only at J;cases pa with
 |none=>
  replace h:(aK (nA lo 0) λl=>aK (nA hi 0) λh=>aK (nA mx 0) λm=>gd (ay l 0&&ay h 0&&ay m 0&&ay n 0&&ay cp 0&&(!(eX hi)||eX mx))<|Z<|.slice W 0 0)=Z lv:=h;obtain⟨l,hl,h⟩:=aI h;obtain⟨hh,WB,h⟩:=aI h;obtain⟨mm,hmm,h⟩:=aI h;obtain⟨hg,h⟩:=fH h;cases h;simp only[aZ]at hg;obtain⟨⟨⟨⟨⟨g1,g2⟩,g3⟩,g4⟩,g5⟩,g6⟩:=hg;have g1:=aT g1;have g2:=aT g2;have g3:=aT g3;subst g1;subst g2;subst g3;obtain⟨_,_,rfl⟩:=J.uC;refine⟨.slice W 0 0,.sc _ O,λw=>?_⟩
  have e:=AQ (P:=P) (isS:=f) (w:=w) hlo hhi hmx hl WB hmm (az _) (az _) (az _) (by
   intro e;rw[e]at g6;simp[eX]at g6;cases mx with
   |none=>rfl
   |some _=>simp[eX]at g6)
  simp[kF,Instr.slice,eY hu,e,jJ uD]
 |some a=>
  replace h:(aK (nA lo 0) λl=>aK (nA hi n) λh=>
   bR (gD cp)
    (aK (nA mx cp) λm=>gd (aB l h&&aB h m&&aB m cp&&(!(eX hi)||eX mx))
     (Z<|.slice (Z ⟨a.block,sN m l a.off q.2,W⟩) (dA h l)<|dA m l))
    (gd (ay cp<|fI q.2) (@aN D (λ_=>Option D)
     (gd (aB l h&&aB h n)<|Z<|.slice (Z ⟨a.block,aV a.off<|bL l q.2,W⟩) (dA h l) cp)
     (λmv=>aK (zh mv) λm=>gd (aB l h&&aB h m&&aB m n&&!(eX hi)&&gD m)
      (Z<|.slice (Z ⟨a.block,sN m l a.off q.2,W⟩) (dA h l)<|dA m l)) mx)))=Z lv:=h
  obtain⟨l,hl,h⟩:=aI h;obtain⟨hh,WB,h⟩:=aI h
  have akL:(!(eX hi)||eX mx)=f->hi=W->mx=W:=by
   intro g e;rw[e]at g;simp[eX]at g;cases mx with
   |none=>rfl
   |some _=>simp[eX]at g
  cases hk:gD cp with
  |true=>
   rw[hk]at h
   replace h:(aK (nA mx cp) λm=>gd (aB l hh&&aB hh m&&aB m cp&&(!(eX hi)||eX mx))
    (Z<|T (Z ⟨a.block,sN m l a.off q.2,W⟩) (dA hh l)<|dA m l))=Z lv:=h
   obtain⟨mm,hmm,h⟩:=aI h;obtain⟨hg,h⟩:=fH h;cases h;simp only[aZ]at hg;obtain⟨⟨⟨g1,g2⟩,g3⟩,g4⟩:=hg;have g1:=aD g1;have g2:=aD g2;have g3:=aD g3;have g4:=akL g4
   have hkc:gD (mm-l)=f:=by
    have:=aD hk;exact aH N
   rcases J.of_slice with⟨lc,cc,hm,hlo2,hsp,rfl,⟨_,rfl,_⟩|⟨es,e1,_⟩⟩|⟨a',e1,e2,rfl⟩
   .refine⟨_,?_,λw=>yB hu uD hlo hhi hmx hl WB hmm g1 g2 g3 g4⟩;unfold sN
    by_cases hml:mm=l
    .rw[show ay mm l=f from by rw[jG];exact hml,if_pos hml];exact .slice _ _ _ _ lc hm hlo2 hkc (by show hh-l<=_-l;omega)
    .rw[show ay mm l=aA from by rw[<-bY,jG];exact hml,if_neg hml,hsz,Df lc a.off _ hlo2];exact .slice _ _ _ _ lc hm (by show lc.lo<=a.off+l*q.2;omega) hkc (by show hh-l<=_-l;omega)
   .exact absurd e1<|Dc hk
   .rcases e2 with e2|⟨es,_,e2,_⟩
    .subst e1;subst e2;have:mm=0:=by omega
     subst this;have:hh=0:=by omega
     subst this;have:l=0:=by omega
     subst this;refine⟨_,?_,λw=>yB hu uD hlo hhi hmx hl WB hmm g1 g2 g3 g4⟩;exact .vK _ _
    .exact absurd e2<|Dc hk
  |false=>
   rw[hk]at h
   replace h:(gd (ay cp<|fI q.2) (@aN D (λ_=>Option D)
    (gd (aB l hh&&aB hh n)<|Z<|T (Z ⟨a.block,aV a.off<|bL l q.2,W⟩) (dA hh l) cp)
    (λmv=>aK (zh mv) λm=>gd (aB l hh&&aB hh m&&aB m n&&!(eX hi)&&gD m)
     (Z<|.slice (Z ⟨a.block,sN m l a.off q.2,W⟩) (dA hh l)<|dA m l)) mx))=Z lv:=h
   obtain⟨I8,h⟩:=fH h;have I8:=aT I8;cases mx with
   |none=>
    replace h:(gd (aB l hh&&aB hh n)<|Z<|T (Z ⟨a.block,aV a.off<|bL l q.2,W⟩) (dA hh l) cp)=Z lv:=h;obtain⟨hg,h⟩:=fH h;cases h;simp only[aZ]at hg;have g1:=aD hg.1;have g2:=aD hg.2;cases hmx;rcases J.of_slice with⟨lc,cc,hm,hlo2,hsp,rfl,⟨hk2,rfl,_⟩|⟨es,e1,e0,e2,e3,e9⟩⟩|⟨a',e1,e2,rfl⟩
    .rw[hk2]at hk;cases hk
    .refine⟨_,?_,λw=>yB hu uD hlo hhi (OR.nn (m:=m)) hl WB O g1 (aX g2 e3) (az _) λ_=>rfl⟩
     have hes:es=q.2:=by
      have:=e1.symm.trans I8;unfold fI at this;exact Nat.add_left_cancel this
     subst hes
     by_cases hml:cc=l
     .rw[if_pos hml];have e4:hh-l=0:=by omega
      have e5:cc-l=0:=by omega
      rw[show dA hh l=0 from e4,e4,e5];rw[I8];exact .tH _ _ _ _ lc hm (by show lc.lo<=a.off+l*q.2;omega) e0 (by show lc.n<=a.off+l*q.2;rw[<-hml];exact e9)
     .rw[if_neg hml,hsz,Df lc a.off _ hlo2,I8];refine .rW _ _ _ _ _ lc hm (by show lc.lo<=a.off+l*q.2;omega) e0 ?_ (by show hh-l<=cc-l;omega) ?_;show lc.base+(a.off+l*q.2-lc.lo)+(cc-l)*q.2=lc.tot;rw[<-e2,Nat.sub_mul];have:l*q.2<=cc*q.2:=eU _ N;omega
      .show lc.n<=a.off+l*q.2+(cc-l)*q.2;rw[Nat.sub_mul];have:l*q.2<=cc*q.2:=eU _ N;omega
    .subst e1;refine⟨_,?_,λw=>yB hu uD hlo hhi (OR.nn (m:=m)) hl WB O g1 N (az _) λ_=>rfl⟩;have e3:hh-l=0:=by omega
     have e4:0-l=0:=by omega
     have e5:l=0:=by omega
     rw[show dA hh l=0 from e3,e3,e4];rcases e2 with e2|⟨es,l2,e2,f1,f2,f3,f4,f5⟩
     .subst e2;cases hk
     .rw[e2];exact .tH _ _ _ _ l2 f1 (by show l2.lo<=a.off+l*q.2;rw[e5];omega) f3 (by show l2.n<=a.off+l*q.2;rw[e5];omega)
   |some mv=>
    replace h:(aK (zh mv) λm=>gd (aB l hh&&aB hh m&&aB m n&&!(eX hi)&&gD m)
     (Z<|T (Z ⟨a.block,sN m l a.off q.2,W⟩) (dA hh l)<|dA m l))=Z lv:=h
    obtain⟨mm,hmm,h⟩:=aI h;obtain⟨hg,h⟩:=fH h;cases h;simp only[aZ]at hg;obtain⟨⟨⟨⟨g1,g2⟩,g3⟩,g4⟩,g5⟩:=hg;have g1:=aD g1;have g2:=aD g2;have g3:=aD g3;have g4:hi=W->Z mv=W:=by intro e;rw[e]at g4;simp[eX]at g4
    have hm0:∀c,nA (Z mv) c=Z mm:=λc=>hmm
    have hkc:gD (mm-l)=f:=by
     have:=aD g5;exact aH N
    rcases J.of_slice with⟨lc,cc,hm,hlo2,hsp,rfl,⟨hk2,rfl,_⟩|⟨es,e1,e0,e2,e3,e9⟩⟩|⟨a',e1,e2,rfl⟩
    .rw[hk2]at hk;cases hk
    .refine⟨_,?_,λw=>yB hu uD hlo hhi hmx hl WB (hm0 _) g1 g2 (aX g3 e3) g4⟩;unfold sN
     by_cases hml:mm=l
     .rw[show ay mm l=f from by rw[jG];exact hml,if_pos hml];exact .slice _ _ _ _ lc hm hlo2 hkc (by show hh-l<=_-l;omega)
     .rw[show ay mm l=aA from by rw[<-bY,jG];exact hml,if_neg hml,hsz,Df lc a.off _ hlo2];exact .slice _ _ _ _ lc hm (by show lc.lo<=a.off+l*q.2;omega) hkc (by show hh-l<=_-l;omega)
    .subst e1;refine⟨_,?_,λw=>yB hu uD hlo hhi hmx hl WB (hm0 _) g1 g2 g3 g4⟩;have:mm=0:=by omega
     subst this;have:hh=0:=by omega
     subst this;have:l=0:=by omega
     subst this;exact .vK _ _
def Zc{q:Nat×aG×Nat}{lv:D}(hq:O4 P t=Z q)(hp:qg x=Z a)(h:RF q.1 q.2.2 a lo hi mx=Z lv)(J:VR m x x')(hlo:OR m lo lo')(hhi:OR m hi hi')(hmx:OR m mx UA):
 ∃v',VR m lv v'/\∀w,(kF t x' lo' hi' UA).run P w=.ok v' w:=by
 obtain⟨hu,⟨inf,uD,hsz⟩,hq1⟩:=I6 hq;rw[o8 hp]at J;obtain⟨lc,hm,hlo2,hsp,rfl⟩:=J.sS;obtain⟨l,hl,h⟩:=aI h;obtain⟨hh,WB,h⟩:=aI h;obtain⟨hg,h⟩:=fH h;cases h;simp only[aZ]at hg;obtain⟨⟨⟨g1,g2⟩,g3⟩,g4⟩:=hg;have g1:=aD g1;have g2:=aD g2;have g3:=JG g3;subst g3;cases hmx;have e:=λw=>AQ (P:=P) (isS:=aA) (cp:=q.1) (w:=w) hlo hhi (OR.nn (m:=m)) hl WB O g1 g2 (az _) λ_=>rfl
 have hkc:gD (q.1-l)=f:=by
  have:=aD g4;exact aH N
 refine⟨.slice (Z (if q.1=l then⟨lc.c,lc.base+(a.off-lc.lo),W⟩else(⟨lc.c,lc.base+(a.off-lc.lo),W⟩:Addr).add (l*inf.size))) (hh-l)<|q.1-l,?_,λw=>?_⟩
 .unfold sN
  by_cases hml:q.1=l
  .rw[show ay q.1 l=f from by rw[jG];exact hml,if_pos hml];exact .slice _ _ _ _ lc hm hlo2 hkc (by show hh-l<=_-l;omega)
  .rw[show ay q.1 l=aA from by rw[<-bY,jG];exact hml,if_neg hml,hsz,Df lc a.off _ hlo2];exact .slice _ _ _ _ lc hm (by show lc.lo<=a.off+l*q.2.2;omega) hkc (by show hh-l<=_-l;omega)
 .simp only[kF,jv,cB,eY hu,bN,dF,e w,jJ uD]
def Zd{lv:D}(h:zM P t x lo hi mx=Z lv)(J:VR m x x')(hlo:OR m lo lo')(hhi:OR m hi hi')(hmx:OR m mx UA):
 ∃v',VR m lv v'/\∀w,(kF t x' lo' hi' UA).run P w=.ok v' w:=by
 unfold zM at h;cases hs:O3 P t with
 |some q=>
  rw[hs]at h;replace h:(aK (Iz x) λp=>Uu q.2 p lo hi mx)=Z lv:=h;obtain⟨p,hp,h⟩:=aI h;exact adk hs hp h J hlo hhi hmx
 |none=>
  rw[hs]at h;cases hst:F3 P t with
  |true=>
   rw[hst]at h;replace h:(aK (tC x) λs=>gd (eX mx)<|Nj s lo hi)=Z lv:=h;obtain⟨s,hs1,h⟩:=aI h;obtain⟨hg,h⟩:=fH h;have g3:=JG hg;subst g3;cases hmx;rw[o9 hs1]at J;have:=J.vL;subst this;obtain⟨Q,I⟩:=Zb (P:=P) (Ma hst) h hlo hhi;exact⟨_,Q,I⟩
  |false=>
   rw[hst]at h;replace h:(aK (O4 P t) λq=>aK (qg x) λa=>RF q.1 q.2.2 a lo hi mx)=Z lv:=h;obtain⟨q,hq,h⟩:=aI h;obtain⟨a,ha,h⟩:=aI h;exact Zc hq ha h J hlo hhi hmx
end ops
section ops
variable{P:aS}
def RU{l:List D}(h:ay (len l) 1=f)(J:nth l 0=Z x):l=[x]:=by
 have:=aT h;rw[fQ]at this
 match l,this with
 |[hc],_=>cases J;rfl
def z8(x:α):∀(k:Nat)(l:List α),setAt x k l=l.set k x:=by
 intro k
 induction k with
 |zero=>intro l;cases l<;>rfl
 |succ k ih=>intro l;cases l with
  |nil=>rfl
  |cons hc r=>exact dV (hc::·)<|ih r
def RV:∀(vs:List D)(k:Nat)(E:List D),F7 vs k E=(vs.zipIdx k).foldl (λE p=>E.set p.2 p.1) E:=by
 intro vs
 induction vs with
 |nil=>intros;rfl
 |cons v vs ih=>
  intro k E;show F7 vs (k+1) (setAt v k E)=_;rw[ih,z8];rfl
def Ze:∀(vs vs':List D)(k:Nat)(E cs':List D),kT m vs vs'->kT m E cs'->kT m (F7 vs k E) (F7 vs' k cs'):=by
 intro vs
 induction vs with
 |nil=>intro vs' k E cs' h y;cases h;exact y
 |cons v vs ih=>
  intro vs' k E cs' h y;cases h with
  |cons _ v' _ r' hv R=>
   show kT m (F7 vs (k+1)<|setAt v k E)<|F7 r' (k+1)<|setAt v' k cs';rw[z8,z8];exact ih r' (k+1) _ _ R<|y.set k hv
def WC(E:Array D)(off:Nat):∀(l:List<|D×Nat)(a:Array D),(l.foldl (λ(E:Array D) p=>E.setIfInBounds (off+p.2) p.1) a).toList=
 l.foldl (λ(E:List D) p=>E.set (off+p.2) p.1) a.toList:=by
 intro l
 induction l with
 |nil=>intro a;rfl
 |cons p l ih=>intro a;simp only[mQ];rw[ih];simp
def WG:∀(vs:List D)(off k:Nat)(E:List D),(vs.zipIdx k).foldl (λ(E:List D) p=>E.set (off+p.2) p.1) E=(vs.zipIdx<|off+k).foldl (λE p=>E.set p.2 p.1) E:=by
 intro vs
 induction vs with
 |nil=>intros;rfl
 |cons v vs ih=>intro off k E;simp only[List.zipIdx_cons,mQ];rw[ih off (k+1)];rfl
def RX(vs:Array D)(off:Nat)(a:Array D):(vs.zipIdx.foldl (λ(E:Array D)(p:D×Nat)=>E.setIfInBounds (off+p.2) p.1) a)=⟨F7 vs.toList off a.toList⟩:=by
 rw[<-iW,<-Array.foldl_toList,WC a,RV];simp only[Array.toList_zipIdx];rw[WG];simp
inductive PRs(m:Mp):List (Nat×D)->List (Nat×D)->Prop where
 |nil:PRs m [] []
 |cons (k:Nat) (v v':D) (l l':List<|Nat×D) (h:VR m v v') (hl:PRs m l l'):PRs m ((k,v)::l) ((k,v')::l')
theorem AR(h:VR m v v')(hn:v≠top):kT m (bI v) (bI v'):=by
 cases h with
 |sc _ h=>
  have:bI v=[v]:=by cases v<;>first|rfl|simp[mU]at h
  rw[this];exact .cons _ _ _ _ (.sc _ h) .nil
 |top=>exact absurd O hn
 |ptr r off l h hl=>exact .cons _ _ _ _ (.ptr r off l h hl) .nil
 |slice r off n cp l h hl hk hnc=>exact .cons _ _ _ _ (.slice r off n cp l h hl hk hnc) .nil
 |rW r off n es cc l h hl he ht y hN=>exact .cons _ _ _ _ (.rW r off n es cc l h hl he ht y hN) .nil
 |vK a a'=>exact .cons _ _ _ _ (.vK a a') .nil
 |tH r off es a' l h hl he hN=>exact .cons _ _ _ _ (.tH r off es a' l h hl he hN) .nil
 |map r l h=>exact .cons _ _ _ _ (.map r l h) .nil
 |func av x hc x' y' J hy=>exact .cons _ _ _ _ (.func av x hc x' y' J hy) .nil
 |iface t v v' h=>exact .cons _ _ _ _ (.iface t v v' h) .nil
 |agg x x' h=>exact h
 |tuple x x' h=>exact .cons _ _ _ _ (.tuple x x' h) .nil
def Mg(h:pK v=f):v≠top:=by intro e;rw[e]at h;cases h
def Cg(v:D):v.cells=⟨bI v⟩:=by rw[Db]
def NB(place:Nat->Option (Nat×Nat)):∀(ps ps':List<|Nat×D)(E cs' r:List D),DF place ps E=Z r->PRs m ps ps'->kT m E cs'->
 ∃r',Instr.fill place ⟨cs'⟩ ps'=Z ⟨r'⟩/\kT m r r':=by
 intro ps
 induction ps with
 |nil=>intro ps' E cs' r h hp y;cases hp;cases h;exact⟨cs',O,y⟩
 |cons p ps ih=>
  intro ps' E cs' r h hp y;cases hp with
  |cons k v v' _ l' hv hl=>
   replace h:(aK (place k) λq=>gd (pK v&&ay (len<|bI v) q.2&&aB (aV q.1 q.2) (len E))<|DF place ps<|F7 (bI v) q.1 E)=Z r:=h;obtain⟨q,hq,h⟩:=aI h;obtain⟨hg,h⟩:=fH h;simp only[aZ,fQ]at hg;have g1:=Mg hg.1.1;have g2:=aT hg.1.2;have g3:=aD hg.2;have hcv:=AR hv g1;obtain⟨r',hr',hrr⟩:=ih l' _ (F7 (bI v') q.1 cs') r h hl<|Ze _ _ _ _ _ hcv y;refine⟨r',?_,hrr⟩;unfold Instr.fill;rw[hq];have e1:v'.cells.size=q.2:=by rw[Cg];show(bI v').length=_;rw[<-hcv.length,g2]
   have e2:¬(q.1+v'.cells.size>(⟨cs'⟩:Array D).size):=by
    rw[e1];show¬(q.1+q.2>cs'.length);rw[<-y.length];have:q.1+q.2<=E.length:=g3;omega
   simp only[e1,ne_eq,sJ,decide_false,qF,decide_eq_true_eq];rw[e1]at e2;rw[if_neg e2];rw[RX,Cg];exact hr'
def WH:∀(fs:List Field)(pl:List<|Nat×Nat),places P fs=Z pl->fs.mapM (λav=>(P.info? av.type).map λi=>(av.offset,i.size))=Z pl:=by
 intro fs
 induction fs with
 |nil=>intro pl h;cases h;rfl
 |cons av fs ih=>
  intro pl h;replace h:(aK (vI P av.type) λs=>aK (places P fs) λl=>Z<|(av.offset,s)::l)=Z pl:=h;obtain⟨s,hs,h⟩:=aI h;obtain⟨l,hl,h⟩:=aI h;cases h;obtain⟨i,hi,rfl⟩:=qN hs;simp[vH,hi,ih l hl]
def Zf(h:AB P t ps=Z v)(hp:PRs m ps ps'):
 ∃v',VR m v v'/\∀w,(Instr.build t ⟨ps'⟩).run P w=.ok v' w:=by
 obtain⟨z,hz,h⟩:=aI h;obtain⟨i,z0,hi,hz0,Zg,hlen,hs⟩:=yz hz;have hzz:kT m z z:=kT.mU hs;have hzc:z0.cells=⟨z⟩:=by rw[Zg]
 cases hpl:Ut P t with
 |some pl=>
  rw[hpl]at h;replace h:(aK (DF (nth pl) ps z) λE=>Z<|Ru ⟨E⟩)=Z v:=h;obtain⟨E,hcs,h⟩:=aI h;cases h;obtain⟨cs',hcs',R⟩:=NB (nth pl) ps ps' z z E hcs hp hzz;refine⟨.agg ⟨cs'⟩,.agg _ _ R,λw=>run_build w t ⟨ps'⟩ ⟨cs'⟩ ?_⟩;have h:=hpl;obtain⟨fs,hfs,h⟩:=aI h;have hu:=D6 hfs;have hpm:=WH fs pl h;unfold Program.built;rw[hi,hu];simp only[hz0,hpm,hzc];rw[<-hcs'];congr 1;funext k;rw[om];simp
 |none=>
  rw[hpl]at h;replace h:(aK (O4 P t) λq=>aK (DF (λk=>Z (bL k q.2.2,q.2.2)) ps z) λE=>Z<|Ru ⟨E⟩)=Z v:=h;obtain⟨q,hq,h⟩:=aI h;obtain⟨E,hcs,h⟩:=aI h;cases h;obtain⟨hu,⟨inf,uD,hsz⟩,hq1⟩:=I6 hq;obtain⟨cs',hcs',R⟩:=NB _ ps ps' z z E hcs hp hzz;refine⟨.agg ⟨cs'⟩,.agg _ _ R,λw=>run_build w t ⟨ps'⟩ ⟨cs'⟩ ?_⟩;unfold Program.built;rw[hi,hu];simp only[hz0,uD,hzc,hsz];exact hcs'
end ops
inductive Dp(m:Mp):List (D×D)->List MapEntry->Prop where
 |nil:Dp m [] []
 |cons (k v:D) (e:MapEntry) (l:List<|D×D) (l':List MapEntry) (hk:VR m k e.key) (hv:VR m v e.val) (hl:Dp m l l'):Dp m ((k,v)::l) (e::l')
def Dp.mono(hm:Mp.le m m'){l:List (D×D)}(h:Dp m l l'):Dp m' l l':=by
 induction h with
 |nil=>exact .nil
 |cons k v e l l' hk hv _ ih=>exact .cons k v e l l' (hk.mono hm) (hv.mono hm) ih
def uE(m:Mp)(l:Loc):lu->Obj->Prop
 |.dead,_=>True
 |.row hr,.cells E ty fr=>(ty=hr.ty/\l.base=0)/\hr.n=l.n/\E.size=l.tot/\l.lo<=hr.n/\l.base+(hr.n-l.lo)<=l.tot/\
  (hr.kR=aA->fr.2<=l.base+(hr.fz-l.lo))/\
  ∀i,l.lo<=i->i<hr.n->∃v,E[l.base+(i-l.lo)]?=Z v/\VR m (hr.cells.get top i) v
 |.map es,.map zz _=>Dp m es zz.toList
 |.L5 s p,.stringIter s' p'=>s'=s/\p'=p/\l.base=0
 |_,_=>False
theorem uE.mono(hm:Mp.le m m'){o:lu}(h:uE m l o ob):uE m' l o ob:=by
 cases o<;>cases ob<;>first|exact h|skip
 case row.cells hr E ty fr=>
  obtain⟨Q,hn,I,h3,h4,h5,h6⟩:=h;exact⟨Q,hn,I,h3,h4,h5,λi a b=>let⟨v,hv,R⟩:=h6 i a b;⟨v,hv,R.mono hm⟩⟩
 case map.map es zz c=>exact Dp.mono hm h
structure RH(m:Mp)(H:F)(w:bW):Prop where
 dom:∀r l,m r=Z l->r<H.next
 ok:∀r l,m r=Z l->∃o,w.heap[l.c]?=Z o/\uE m l (H.obj r) o
 sep:∀r r' l l',m r=Z l->m r'=Z l'->H.obj r≠.dead->H.obj r'≠.dead->l.c=l'.c->r=r'
structure Ex(m m':Mp)(H C:F)(w w':bW):Prop where
 le:Mp.le m m'
 new:∀r l,m' r=Z l->m r=W->H.next<=r
 fresh:∀r l,m' r=Z l->m r=W->l.c<w.heap.size->∃r0 l0,m r0=Z l0/\l0.c=l.c/\C.low<=r0
 os:w'.os=w.os
 tape:w'.tape=w.tape
 output:w'.output=w.output
 size:w.heap.size<=w'.heap.size
 keep:∀c,c<w.heap.size->(∀r l,m r=Z l->l.c=c->r<C.low)->w'.heap[c]?=w.heap[c]?
 next:H.next<=C.next
 low:C.low<=H.low
 vF:∀r,r<H.next->r<C.low->C.obj r=H.obj r
 hid:∀r,r<H.next->m r=W->C.obj r=H.obj r
def oG(h:w.heap[c]?=Z o):c<w.heap.size:=(dR.1 h).1
def Ex.refl(m:Mp)(H:F)(w:bW):Ex m m H H w w where
 le:=λ_ _ h=>h
 new:=λr l h h'=>by rw[h]at h';cases h'
 fresh:=λr l h h'=>by rw[h]at h';cases h'
 os:=rfl
 tape:=rfl
 output:=rfl
 size:=az _
 keep:=λ_ _ _=>rfl
 next:=az _
 low:=az _
 vF:=λ_ _ _=>rfl
 hid:=λ_ _ _=>rfl
theorem Ex.trans{m1 m2:Mp}{H1 H2:F}{w1 w2:bW}(a:Ex m m1 H H1 w w1)(b:Ex m1 m2 H1 H2 w1 w2):Ex m m2 H H2 w w2 where
 le:=λr l h=>b.le r l<|a.le r l h
 new:=λr l h h'=>by
  cases Q:m1 r with
  |none=>exact aX a.next<|b.new r l h Q
  |some l1=>
   have:=b.le r l1 Q;rw[h]at this;cases this;exact a.new r l Q h'
 fresh:=λr l h h' hlt=>by
  cases Q:m1 r with
  |none=>
   obtain⟨r0,l0,e1,e2,e3⟩:=b.fresh r l h Q<|aP hlt a.size;cases h0:m r0 with
   |some l0'=>
    have:=a.le r0 l0' h0;rw[e1]at this;cases this;exact⟨r0,l0,h0,e2,e3⟩
   |none=>
    obtain⟨r1,l1,f1,f2,f3⟩:=a.fresh r0 l0 e1 h0 (by rw[e2];exact hlt);exact⟨r1,l1,f1,f2.trans e2,aX b.low f3⟩
  |some l1=>
   have:=b.le r l1 Q;rw[h]at this;cases this;obtain⟨r0,l0,e1,e2,e3⟩:=a.fresh r l Q h' hlt;exact⟨r0,l0,e1,e2,aX b.low e3⟩
 os:=b.os.trans a.os
 tape:=b.tape.trans a.tape
 output:=b.output.trans a.output
 size:=aX a.size b.size
 keep:=λc y hk=>by
  rw[b.keep c (aP y a.size),a.keep c y]
  .exactλr l Q I=>aP (hk r l Q I) b.low
  .intro r l Q I;cases h0:m r with
   |some l0=>
    have:=a.le r l0 h0;rw[Q]at this;cases this;exact hk r l h0 I
   |none=>
    obtain⟨r0,l0,e1,e2,e3⟩:=a.fresh r l Q h0 (by rw[I];exact y);have:=hk r0 l0 e1<|e2.trans I;have:=b.low;omega
 next:=aX a.next b.next
 low:=aX b.low a.low
 vF:=λr Q I=>(b.vF r (aP Q a.next) I).trans<|a.vF r Q<|aP I b.low
 hid:=λr Q I=>by
  have h3:m1 r=W:=by
   cases h0:m1 r with
   |none=>rfl
   |some l=>have:=a.new r l h0 I;omega
  exact(b.hid r (aP Q a.next) h3).trans<|a.hid r Q I
def vN(H:F)(r:Nat)(o:lu)(r':Nat):(H.put r o).obj r'=if r'=r then o else H.obj r':=Tr.uM _ _ _ _ _
def yl(H:F)(o:lu)(r':Nat):(H.new o).obj r'=if r'=H.next then o else H.obj r':=Tr.uM _ _ _ _ _
def I9(H:F)(r:Nat)(o:lu):(H.put r o).low<=r/\(H.put r o).low<=H.low:=by
 have e:(H.put r o).low=bR (aB H.low r) H.low r:=rfl;rw[e,zN];split
 .next h=>exact⟨aD h,az _⟩
 .next h=>exact⟨az _,by have:¬H.low<=r:=λh'=>h<|aH h';omega⟩
def Mp.add(m:Mp)(r:Nat)(l:Loc):Mp:=λk=>if k=r then Z l else m k
def Mp.Zh(h:m r=W):Mp.le m (m.add r l):=by
 intro k l' hk;unfold Mp.add;split
 .next e=>rw[e]at hk;rw[h]at hk;cases hk
 .exact hk
theorem RH.Mh(rh:RH m H w):m H.next=W:=by
 cases h:m H.next with
 |none=>rfl
 |some l=>exact absurd (rh.dom _ _ h)<|qI _
def RH.alloc(rh:RH m H w)(o:lu)(ob:Obj)(lo base tot n:Nat)(hok:uE m ⟨w.heap.size,lo,base,tot,n⟩ o ob):
 RH (m.add H.next ⟨w.heap.size,lo,base,tot,n⟩) (H.new o) (w.alloc ob)/\Ex m (m.add H.next ⟨w.heap.size,lo,base,tot,n⟩) H (H.new o) w (w.alloc ob):=by
 have hn:=rh.Mh;have hle:=Mp.Zh (l:=⟨w.heap.size,lo,base,tot,n⟩) hn;have hold:∀r l,m r=Z l->l.c<w.heap.size:=λr l h=>let⟨_,ho,_⟩:=rh.ok r l h;oG ho;refine⟨⟨?_,?_,?_⟩,?_⟩
 .intro r l h;show r<H.next+1
  unfold Mp.add at h;split at h
  .omega
  .have:=rh.dom r l h;omega
 .intro r l h;unfold Mp.add at h;split at h
  .next e=>
   cases h;refine⟨ob,by show(w.heap.push ob)[w.heap.size]?=_;simp,?_⟩;rw[yl,if_pos e];exact hok.mono hle
  .next e=>
   obtain⟨JH,ho,hk⟩:=rh.ok r l h;refine⟨JH,?_,?_⟩
   .have:=oG ho;show(w.heap.push ob)[l.c]?=_;rw[n_,if_neg N];exact ho
   .rw[yl,if_neg e];exact hk.mono hle
 .intro r r' l l' h h' hd hd' y;unfold Mp.add at h h';split at h<;>split at h'
  .next e e'=>rw[e,e']
  .next e e'=>cases h;have:=hold r' l' h';simp at y;omega
  .next e e'=>cases h';have:=hold r l h;simp at y;omega
  .next e e'=>
   rw[yl,if_neg e]at hd;rw[yl,if_neg e']at hd';exact rh.sep r r' l l' h h' hd hd' y
 .refine⟨hle,?_,?_,O,O,O,by show w.heap.size<=(w.heap.push ob).size;simp,?_,iG _,az _,?_,?_⟩
  .intro r l h h0;unfold Mp.add at h;split at h
   .next e=>omega
   .rw[h0]at h;cases h
  .intro r l h h0 hlt;unfold Mp.add at h;split at h
   .next e=>cases h;simp at hlt
   .rw[h0]at h;cases h
  .intro c y _;show(w.heap.push ob)[c]?=_;rw[n_,if_neg N]
  .intro r Q I;rw[yl,if_neg N]
  .intro r Q I;rw[yl,if_neg N]
def RH.drew(rh:RH m H w):RH m H w.drew:=⟨rh.dom,rh.ok,rh.sep⟩
def Ex.drew(m:Mp)(H:F)(w:bW):Ex m m H H w w.drew:={Ex.refl m H w with os:=rfl,tape:=rfl,output:=rfl,size:=az _,keep:=λ_ _ _=>rfl}
theorem RH.update(rh:RH m H w)(r:Nat)(l:Loc)(o':lu)(JH:Obj)(hm:m r=Z l)(hd:H.obj r≠.dead)(hok:uE m l o' JH)(hb:w'.heap[l.c]?=Z JH)(hs:w'.heap.size=w.heap.size)(ho:∀c,c≠l.c->w'.heap[c]?=w.heap[c]?)(Q:w'.os=w.os)(I:w'.tape=w.tape)(h3:w'.output=w.output):RH m (H.put r o') w'/\Ex m m H (H.put r o') w w':=by
 have hlow:=I9 H r o';refine⟨⟨rh.dom,?_,?_⟩,?_⟩
 .intro r1 l1 hm1;rw[vN]
  by_cases e:r1=r
  .subst e;rw[hm1]at hm;cases hm;exact⟨JH,hb,by rw[if_pos O];exact hok⟩
  .rw[if_neg e];obtain⟨ob1,g1,g2⟩:=rh.ok r1 l1 hm1
   by_cases y:l1.c=l.c
   .refine⟨JH,by rw[y];exact hb,?_⟩
    by_cases hdd:H.obj r1=.dead
    .rw[hdd];trivial
    .exact absurd (rh.sep r1 r l1 l hm1 hm hdd hd y) e
   .exact⟨ob1,by rw[ho _ y];exact g1,g2⟩
 .intro r1 r2 l1 l2 hm1 hm2 hd1 hd2 y;rw[vN]at hd1 hd2
  by_cases e1:r1=r<;>by_cases e2:r2=r
  .rw[e1,e2]
  .subst e1;rw[if_neg e2]at hd2;exact rh.sep r1 r2 l1 l2 hm1 hm2 hd hd2 y
  .subst e2;rw[if_neg e1]at hd1;exact rh.sep r1 r2 l1 l2 hm1 hm2 hd1 hd y
  .rw[if_neg e1]at hd1;rw[if_neg e2]at hd2;exact rh.sep r1 r2 l1 l2 hm1 hm2 hd1 hd2 y
 .refine⟨λ_ _ h=>h,(λr l h h'=>absurd (h.symm.trans h')<|by simp),(λr l h h'=>absurd (h.symm.trans h')<|by simp),Q,I,h3,(by rw[hs];exact az _),?_,az _,hlow.2,?_,?_⟩
  .intro c y hk;apply ho;intro e;have:=hk r l hm e.symm;omega
  .intro r1 g1 g2;rw[vN,if_neg N]
  .intro r1 g1 g2;rw[vN,if_neg (by intro e;subst e;rw[hm]at g2;cases g2)]
section mem
variable{P:aS}
def UB(d:D)(t:Tr D):∀(n k:Nat),(Tr.DX d t k n).length=n:=by
 intro n
 induction n with
 |zero=>intro k;rfl
 |succ n ih=>intro k;rw[Tr.xx];simp[ih]
def UC(d:D)(t:Tr D):∀(n k j:Nat),j<n->(Tr.DX d t k n)[j]?=Z (t.get d<|k+j):=by
 intro n
 induction n with
 |zero=>intro k j h;omega
 |succ n ih=>
  intro k j h;rw[Tr.xx];cases j with
  |zero=>rfl
  |succ j=>rw[dX,ih (k+1) j N,show k+1+j=k+(j+1)from by omega]
def cell_of{fr:Nat×Nat}(h:w.heap[c]?=Z (.cells E ty fr))(k:Nat):w.cell? ⟨c,k,W⟩=E[k]?:=by
 simp[World.cell?,h]
def row_of(rh:RH m H w){hr:Row}(hm:m r=Z l)(ho:H.obj r=.row hr):
 ∃E fr,w.heap[l.c]?=Z (.cells E hr.ty fr)/\hr.n=l.n/\E.size=l.tot/\l.lo<=hr.n/\l.base+(hr.n-l.lo)<=l.tot/\
  (hr.kR=aA->fr.2<=l.base+(hr.fz-l.lo))/\
  ∀i,l.lo<=i->i<hr.n->∃v,E[l.base+(i-l.lo)]?=Z v/\VR m (hr.cells.get top i) v:=by
 obtain⟨o,hb,hk⟩:=rh.ok r l hm;rw[ho]at hk;cases o with
 |cells E ty fr=>
  obtain⟨Q,hn,I,h3,h4,h5,h6⟩:=hk;exact⟨E,fr,by rw[hb,Q.1],hn,I,h3,h4,h5,h6⟩
 |_=>exact hk.elim
def base_of(rh:RH m H w){hr:Row}(hm:m r=Z l)(ho:H.obj r=.row hr):l.base=0:=by
 obtain⟨o,hb,hk⟩:=rh.ok r l hm;rw[ho]at hk;cases o with
 |cells E ty fr=>exact hk.1.2
 |_=>exact hk.elim
def adl(rh:RH m H w){off:Nat}(h:H.cell r off=Z v)(hm:m r=Z l)(hl:l.lo<=off):
 ∃v',w.cell? ⟨l.c,l.base+(off-l.lo),W⟩=Z v'/\VR m v v':=by
 obtain⟨hr,hR,h⟩:=aI h;obtain⟨hg,h⟩:=fH h;cases h;obtain⟨E,fr,hb,_,_,_,_,_,h6⟩:=row_of rh hm<|tu hR;obtain⟨v',hv,R⟩:=h6 off hl<|aD hg;exact⟨v',by rw[cell_of hb,hv],R⟩
def EY(rh:RH m H w){off:Nat}(h:H.read r off k=Z vs)(hm:m r=Z l)(hl:l.lo<=off):
 ∃vs',kT m vs vs'/\vs'.length=k/\∀j v,vs'[j]?=Z v->w.cell? ((⟨l.c,l.base+(off-l.lo),W⟩:Addr).add j)=Z v:=by
 cases k with
 |zero=>cases h;exact⟨[],.nil,O,by simp⟩
 |succ k=>
  replace h:(aK (vE<|H.obj r) λw=>gd (aB (aV off<|k+1) w.n)<|Z<|Tr.DX top w.cells off<|k+1)=Z vs:=h;obtain⟨hr,hR,h⟩:=aI h;obtain⟨hg,h⟩:=fH h;cases h;have hg:off+(k+1)<=hr.n:=aD hg;obtain⟨E,fr,hb,_,_,_,_,_,h6⟩:=row_of rh hm<|tu hR
  have key:∀n i,i+n=k+1->∃vs',kT m (Tr.DX top hr.cells (off+i) n) vs'/\vs'.length=n/\∀j v,vs'[j]?=Z v->w.cell? ((⟨l.c,l.base+(off-l.lo),W⟩:Addr).add<|i+j)=Z v:=by
   intro n
   induction n with
   |zero=>intro i _;exact⟨[],.nil,O,by simp⟩
   |succ n ih=>
    intro i hi;obtain⟨vs',Q,I,h3⟩:=ih (i+1) N;obtain⟨v',hv,R⟩:=h6 (off+i) N N;refine⟨v'::vs',.cons _ _ _ _ R Q,by simp[I],?_⟩;intro j v hj;cases j with
    |zero=>
     simp at hj;subst hj;rw[Df l off _ hl,cell_of hb];exact hv
    |succ j=>
     have:=h3 j v (by simpa using hj);rw[show i+(j+1)=i+1+j from by omega];exact this
  obtain⟨vs',Q,I,h3⟩:=key (k+1) 0 N;exact⟨vs',Q,I,λj v hj=>by have:=h3 j v hj;rwa [aW]at this⟩
def ym(rh:RH m H w){off:Nat}(h:H.read r off k=Z vs)(hm:m r=Z l)(hl:l.lo<=off):
 ∃vs',kT m vs vs'/\vs'.length=k/\(loadCells ⟨l.c,l.base+(off-l.lo),W⟩ k).run P w=.ok ⟨vs'⟩ w:=by
 obtain⟨vs',Q,I,h3⟩:=EY rh h hm hl;refine⟨vs',Q,I,?_⟩;rw[<-I];exact run_loadCells_list w _ vs' h3
def UD(rh:RH m H w)(h:vJ P t x H=Z (v,C))(J:VR m x x'):
 C=H/\∃v',VR m v v'/\(Instr.loadAt t x').run P w=.ok v' w:=by
 obtain⟨a,ha,h⟩:=aI h;obtain⟨l0,hl0,h⟩:=aI h;rw[o8 ha]at J;obtain⟨l,hm,hlo,hsp,rfl⟩:=J.sS;obtain⟨d,i,hd,hi,hk⟩:=RL hl0;rcases hk with⟨hag,rfl⟩|⟨hag,rfl⟩
 .replace h:(aK (H.read a.block a.off i.size) λvs=>Z (Ru ⟨vs⟩,H))=Z (v,C):=h;obtain⟨vs,hvs,h⟩:=aI h;cases h;obtain⟨vs',Q,I,h3⟩:=ym (P:=P) rh hvs hm hlo;exact⟨O,.agg ⟨vs'⟩,.agg _ _ Q,by simp[Instr.loadAt,jv,loadVar,wQ hd,hag,jJ hi,h3]⟩
 .replace h:(aK (H.cell a.block a.off) λv=>Z (v,H))=Z (v,C):=h;obtain⟨rg,hu,h⟩:=aI h;cases h;obtain⟨v',Q,I⟩:=adl rh hu hm hlo;exact⟨O,v',I,by simp[Instr.loadAt,jv,loadVar,wQ hd,hag,Q]⟩
def NC(w:bW)(c k:Nat)(v:D)(E:Array D)(ty:aG)(fr:Nat×Nat)(h:w.heap[c]?=Z (.cells E ty fr)):
 (w.setCell ⟨c,k,W⟩ v).heap[c]?=Z (.cells (E.setIfInBounds k v) ty fr):=by
 simp only[World.setCell];rw[iM]
 first|done|simp[h]
def Lf(w:bW)(c k:Nat)(v:D)(c':Nat)(h:c'≠c):(w.setCell ⟨c,k,W⟩ v).heap[c']?=w.heap[c']?:=by
 simp only[World.setCell];rw[iM,if_neg<|oJ h]
theorem yO(c o:Nat)(ty:aG)(fr:Nat×Nat):∀(vs:List D)(i:Nat)(E:Array D)(w:bW),w.heap[c]?=Z (.cells E ty fr)->
 (∀v∈vs,v.oneCell'=f)->o+i+vs.length<=E.size->(∀j,fr.1<=j->j<fr.2->j<E.size->j<o+i)->
 ∃w' cs',(storeCells ⟨c,o,W⟩ vs i).run P w=.ok () w'/\w'.heap[c]?=Z (.cells cs' ty fr)/\cs'.size=E.size/\
  (∀j,cs'[j]?=if o+i<=j/\j<o+i+vs.length then vs[j-(o+i)]? else E[j]?)/\(∀c',c'≠c->w'.heap[c']?=w.heap[c']?)/\w'.heap.size=w.heap.size/\
  w'.os=w.os/\w'.tape=w.tape/\w'.output=w.output:=by
 intro vs
 induction vs with
 |nil=>
  intro i E w hb _ _ _;refine⟨w,E,by simp[storeCells],hb,rfl,?_,λ_ _=>rfl,rfl,rfl,rfl,rfl⟩;intro j;rw[if_neg (by simp only[uT];omega)]
 |cons v vs ih=>
  intro i E w hb hone hsz hfr;have hlen:o+i<E.size:=by simp at hsz;omega
  have hadd:(⟨c,o,W⟩:Addr).add i=⟨c,o+i,W⟩:=by
   unfold Addr.add;split
   .next h0=>rw[h0,dD]
   .rfl
  have hcell:w.cell? ⟨c,o+i,W⟩=Z E[o+i]:=by rw[cell_of hb,bq hlen]
  have hfz:w.frozen? ⟨c,o+i,W⟩=aA:=by
   simp only[World.frozen?,hb];rw[<-bY,aZ];rintro⟨a,b⟩;have:=hfr (o+i) (by simpa using a) (by simpa using b) hlen;omega
  have hst:(store ((⟨c,o,W⟩:Addr).add i) v).run P w=.ok () (w.setCell ⟨c,o+i,W⟩ v):=by
   rw[hadd,run_store P w _ v .plain<|hone v<|by simp,hcell];simp[hfz]
  obtain⟨w',cs',Q,I,h3,h4,h5,h6,h7,h8,h9⟩:=ih (i+1) (E.setIfInBounds (o+i) v) (w.setCell ⟨c,o+i,W⟩ v) (NC w c (o+i) v E ty fr hb)
   (λrg hu=>hone rg<|by simp[hu]) (by simp at hsz|-;omega) (λj a b d=>by have:=hfr j a b (by simpa using d);omega)
  refine⟨w',cs',?_,I,by rw[h3];simp,?_,?_,by rw[h6];simp,h7,h8,h9⟩
  .simp only[storeCells,cB,hst,bN];exact Q
  .intro j;rw[h4 j]
   by_cases e:j=o+i
   .subst e;rw[if_neg N,if_pos<|by simp];simp[hlen]
   .by_cases g:o+(i+1)<=j/\j<o+(i+1)+vs.length
    .rw[if_pos g,if_pos (by simp;omega),show j-(o+i)=(j-(o+(i+1)))+1 from by omega];rfl
    .rw[if_neg g,if_neg (by simp;omega)];simp[jM (oJ e)]
  .intro c' hc';rw[h5 c' hc',Lf _ _ _ _ _ hc']
theorem R4(h:VR m v v')(hs:fB v=f):v'.oneCell'=f:=by
 obtain⟨_,Q,I⟩:=h.fB hs;cases v'<;>first|rfl|exact absurd O (Q _)|exact absurd O<|I _
def Ch:∀{vs vs':List D},kT m vs vs'->vs.all fB=f->∀v∈vs',v.oneCell'=f:=by
 intro vs
 induction vs with
 |nil=>intro vs' h _;cases h;simp
 |cons v vs ih=>
  intro vs' h ha;cases h with
  |cons _ v' _ r' hv R=>
   simp at ha;intro rg hu;rcases bM.1 hu with rfl|hu
   .exact R4 hv ha.1
   .exact ih R (by simpa using ha.2) rg hu
def Ci(rh:RH m H w){off:Nat}(h:H.write r off vs=Z C)(hv:kT m vs vs')(hm:m r=Z l)(hl:l.lo<=off):
 ∃w',(storeCells ⟨l.c,l.base+(off-l.lo),W⟩ vs').run P w=.ok () w'/\RH m C w'/\Ex m m H C w w':=by
 cases hv with
 |nil=>cases h;exact⟨w,by simp[storeCells],rh,Ex.refl _ _ _⟩
 |cons v v' x x' hvv Le=>
  have hv:kT m (v::x) (v'::x'):=.cons _ _ _ _ hvv Le
  replace h:(aK (vE<|H.obj r) λw=>
   gd (!w.kR&&aB (aV off<|len<|v::x) w.n&&aB w.fz off&&all' fB (v::x))
   (Z<|H.put r<|.row ⟨w.ty,Tr.sD top (v::x) off w.cells,w.n,aA,w.fz⟩))=Z C:=h
  obtain⟨hr,hR,h⟩:=aI h;obtain⟨hg,h⟩:=fH h;cases h;have G6:=tu hR;simp only[aZ,fQ,all_eq]at hg;obtain⟨⟨⟨g0,g1⟩,g2⟩,g3⟩:=hg;have g1:off+(v::x).length<=hr.n:=aD g1;have g2:=aD g2;obtain⟨E,fr,hb,hnn,I,h3,h4,h5,h6⟩:=row_of rh hm G6;have hlen:(v'::x').length=(v::x).length:=(kT.length hv).symm
  obtain⟨w',cs',e1,e2,e3,e4,e5,e6,e7,e8,e9⟩:=yO (P:=P) l.c (l.base+(off-l.lo)) hr.ty fr (v'::x') 0 E w hb (Ch hv g3) (by rw[hlen];omega)
   (λj a b d=>by have:=h5 (by simpa using g0);omega)
  have hu:=RH.update rh r l (.row ⟨hr.ty,Tr.sD top (v::x) off hr.cells,hr.n,aA,hr.fz⟩) (.cells cs' hr.ty fr) hm (by rw[G6];simp) ?_ e2 e6 e5 e7 e8 e9
  .exact⟨w',e1,hu.1,hu.2⟩
  .refine⟨⟨O,base_of rh hm G6⟩,hnn,by rw[e3];exact I,h3,h4,λ_=>h5<|by simpa using g0,?_⟩;intro i a b;rw[Tr.lV]
   by_cases hin:off<=i/\i<off+(v::x).length
   .have hgi:(v::x)[i-off]?=Z ((v::x).getD (i-off) top):=by
     rw[bC,au N];rfl
    obtain⟨rg,hu1,hu2⟩:=hv.get (i-off) hgi;refine⟨rg,?_,by rw[if_pos hin];exact hu2⟩;rw[e4,if_pos (by rw[hlen];omega),show l.base+(i-l.lo)-(l.base+(off-l.lo)+0)=i-off from by omega];exact hu1
   .obtain⟨rg,hu1,hu2⟩:=h6 i a b;refine⟨rg,?_,by rw[if_neg hin];exact hu2⟩;rw[e4,if_neg (by rw[hlen];omega)];exact hu1
def Zi(rh:RH m H w)(h:yI P t x hc H=Z (v,C))(J:VR m x x')(hy:VR m hc y'):
 v=undef/\∃w',(Instr.storeAt t x' y').run P w=.ok () w'/\RH m C w'/\Ex m m H C w w':=by
 obtain⟨a,ha,h⟩:=aI h;obtain⟨s,hs,h⟩:=aI h;obtain⟨hg,h⟩:=fH h;obtain⟨H1,hH1,h⟩:=aI h;cases h;obtain⟨i,hi,rfl⟩:=qN hs;rw[o8 ha]at J;obtain⟨l,hm,hlo,hsp,rfl⟩:=J.sS;have hlen:=aT hg;rw[fQ]at hlen
 have hnt:hc≠top:=by
  intro e;subst e
  replace hH1:(aK (vE<|H.obj a.block) λw=>
   gd (!w.kR&&aB (aV a.off<|len [top]) w.n&&aB w.fz a.off&&all' fB [top])
   (Z<|H.put a.block<|.row ⟨w.ty,Tr.sD top [top] a.off w.cells,w.n,aA,w.fz⟩))=Z C:=hH1
  have h:=hH1;obtain⟨hr,hR,h⟩:=aI h;obtain⟨hg,h⟩:=fH h;simp[all_eq,fB,top]at hg
 have y:=AR hy hnt;obtain⟨w',e1,e2,e3⟩:=Ci (P:=P) rh hH1 y hm hlo;refine⟨O,w',?_,e2,e3⟩;have hsz:y'.cells.size=i.size:=by rw[Cg];show(bI y').length=_;rw[<-y.length,hlen]
 have hcl:y'.cells.toList=bI y':=(Db y').symm;simp only[Instr.storeAt,jv,storeVar,cB,dF,bN,jJ hi,hsz,ne_eq,sJ,kD,hcl];exact e1
def wz(P:aS)(m:Mp)(H:F)(w:bW)(s:Sem D)(v:D)(C:F):Prop:=
 ∃m' cv w',s.run P w=.ok cv w'/\VR m' v cv/\RH m' C w'/\Ex m m' H C w w'
def WI(hv:kT m vs vs')(c:Nat):uE m ⟨c,0,0,vs'.length,vs.length⟩ (rowOf ty vs) (.cells ⟨vs'⟩ ty):=by
 refine⟨⟨O,O⟩,fQ vs,O,bg _,?_,?_,?_⟩
 .show 0+(len vs-0)<=vs'.length;rw[fQ,hv.length];omega
 .intro _;exact bg _
 .intro i a b;have b:i<len vs:=b;rw[fQ]at b;rw[show(Tr.sD top vs 0 .nil).get top i=vs.getD i top from by rw[Tr.lV,if_pos N];rfl];have hgi:vs[i]?=Z (vs.getD i top):=by rw[bC,au b];rfl
  obtain⟨rg,Q,I⟩:=hv.get i hgi;exact⟨rg,by simpa using Q,I⟩
def Dg(rh:RH m H w)(hv:kT m vs vs'):
 ∃l m',m' H.next=Z l/\l.c=w.heap.size/\l.lo=0/\l.base=0/\l.tot=vs'.length/\l.n=vs.length/\(newRow ty ⟨vs'⟩).run P w=.ok ⟨w.heap.size,0,W⟩ (w.alloc<|.cells ⟨vs'⟩ ty)/\
  RH m' (H.new<|rowOf ty vs) (w.alloc<|.cells ⟨vs'⟩ ty)/\Ex m m' H (H.new<|rowOf ty vs) w (w.alloc<|.cells ⟨vs'⟩ ty):=by
 have:=rh.alloc (rowOf ty vs) (.cells ⟨vs'⟩ ty) 0 0 vs'.length vs.length<|WI hv _;refine⟨⟨w.heap.size,0,0,vs'.length,vs.length⟩,_,?_,O,O,O,O,O,?_,this.1,this.2⟩
 .simp[Mp.add]
 .simp[newRow]
def UE(h:m' n=Z l)(Q:l.lo=0)(I:l.base=0):VR m' (L8 n) (.pointer<|Z ⟨l.c,0,W⟩):=by
 have:=VR.ptr (m:=m') n 0 l h N;rw[Q,I]at this;exact this
def Zj(rh:RH m H w)(h:Cf P e H=Z (v,C)):wz P m H w (Instr.alloc e f<|.tuple #[]) v C:=by
 obtain⟨z,hz,h⟩:=aI h;cases h;obtain⟨i,z0,hi,hz0,Zg,hlen,hs⟩:=yz hz;obtain⟨l,m',a1,a2,a3,a4,a5,a9,a6,a7,a8⟩:=Dg (P:=P) (ty:=e) rh<|kT.mU (m:=m) hs;refine⟨m',_,_,?_,UE a1 a3 a4,a7,a8⟩;have hzc:z0.cells=⟨z⟩:=by rw[Zg]
 simp only[Instr.alloc,newVar,cB,yL hi hz0,bN,hzc,a6,dF,a2]
def agl(rh:RH m H w)(h:Jv e x H=Z (v,C))(J:VR m x x'):wz P m H w (Instr.box e x') v C:=by
 obtain⟨hg,h⟩:=fH h;cases h;obtain⟨l,m',a1,a2,a3,a4,a5,a9,a6,a7,a8⟩:=Dg (P:=P) (ty:=e) rh<|AR J<|Mg hg;refine⟨m',_,_,?_,UE a1 a3 a4,a7,a8⟩;simp only[Instr.box,newVar,cB,bN,Cg,a6,dF,a2]
end mem
section mem
variable{P:aS}
def Pe(z:List D):∀n,(oL z n).length=n*z.length:=by
 intro n
 induction n with
 |zero=>show([]:List D).length=_;simp
 |succ n ih=>show(app z<|oL z n).length=_;rw[qd,aQ,ih,kJ];omega
theorem Zk(z:List D):∀n i,i<n*z.length->(oL z n)[i]?=z[i %z.length]?:=by
 intro n
 induction n with
 |zero=>intro i h;omega
 |succ n ih=>
  intro i h;rw[show oL z (n+1)=z++oL z n from qd _ _]
  by_cases hi:i<z.length
  .rw[bJ hi,ug hi]
  .rw[dS N,ih _ (by rw[kJ]at h;omega),<-Nat.mod_eq_sub_mod N]
theorem JI(z:List D)(n:Nat):((Array.range<|n*z.length).map λi=>(⟨z⟩:Array D)[i %(⟨z⟩:Array D).size]!)=⟨oL z n⟩:=by
 rw[<-iW];apply gX;intro i;simp only[Array.toList_map,Array.toList_range]
 by_cases hi:i<n*z.length
 .rw[Zk z n i hi,bD,List.getElem?_range hi]
  have hz:0<z.length:=by
   rcases gH z.length with h0|h0
   .rw[h0]at hi;omega
   .exact h0
  have hm:i %z.length<z.length:=oC _ hz;simp[au hm,hm]
 .rw[fC (by simpa using hi),fC (by rw[Pe];omega)]
def Gb(h:z.all mU=f):∀n,(oL z n).all mU=f:=by
 intro n
 induction n with
 |zero=>rfl
 |succ n ih=>rw[show oL z (n+1)=z++oL z n from qd _ _,List.all_append,h,ih];rfl
def Zl(h:m' n=Z l)(Q:l.lo=0)(I:l.base=0)(y:gD c=f)(hkc:k<=c):VR m' (.slice (Z ⟨n,0,W⟩) k c) (.slice (Z ⟨l.c,0,W⟩) k c):=by
 have:=VR.slice (m:=m') n 0 k c l h N y hkc;rw[Q,I]at this;exact this
def R5(rh:RH m H w)(h:sO P t n ps H=Z (v,C))(hp:PRs m ps ps'):
 wz P m H w (Instr.buildSlice t n ⟨ps'⟩) v C:=by
 obtain⟨q,hq,h⟩:=aI h;obtain⟨z,hz,h⟩:=aI h;obtain⟨hg,h⟩:=fH h;obtain⟨E,hcs,h⟩:=aI h;cases h;obtain⟨hu,⟨inf,uD,hsz⟩,hq1⟩:=AP hq;obtain⟨i,z0,hi,hz0,Zg,hlen,hs⟩:=yz hz;rw[uD]at hi;cases hi;have hg:=aD hg;have hg:n*q.2<=16777216:=hg;have hrep:kT m (oL z n) (oL z n):=kT.mU<|Gb hs n;obtain⟨cs',hcs',R⟩:=NB _ ps ps' _ _ E hcs hp hrep;obtain⟨l,m',a1,a2,a3,a4,a5,a9,a6,a7,a8⟩:=Dg (P:=P) (ty:=q.1) rh R
 have hk:gD n=f:=by
  refine aH ?_;have:n*1<=n*q.2:=fP n hq1;omega
 refine⟨m',_,_,?_,Zl a1 a3 a4 hk N,a7,a8⟩;have hzc:z0.cells=⟨z⟩:=by rw[Zg]
 have aeV:Instr.fill (λk=>Z (k*q.2,q.2)) ⟨oL z n⟩ ps'=Z ⟨cs'⟩:=hcs';have h24:¬(n*q.2>2^24):=by omega
 have harr:=JI z n;rw[hlen,hsz]at harr
 by_cases h0:n*q.2=0
 .have hn:n=0:=by
   rcases gH n with e|e
   .exact e
   .have:=qJ e (show 0<q.2 from hq1);omega
  subst hn;have agm:Instr.fill (λk=>Z (k*q.2,q.2)) #[] ps'=Z ⟨cs'⟩:=aeV;have e0:∀av:Nat->D,Array.map av (Array.range 0)=#[]:=λav=>by simp
  simp[Instr.buildSlice,eY hu,jJ uD,hsz,agm,a6,a2,e0]
 .simp only[Instr.buildSlice,cB,eY hu,bN,jJ uD,hsz,h24,kD,h0,yL uD hz0,hzc,dF,harr,aeV,a6,a2]
def ND(rh:RH m H w)(h:qh P t x hc H=Z (v,C))(J:VR m x x')(hy:VR m hc y'):
 wz P m H w (Instr.makeSlice t x' y') v C:=by
 obtain⟨q,hq,h⟩:=aI h;obtain⟨i0,hi0,h⟩:=aI h;obtain⟨z,hz,h⟩:=aI h;obtain⟨n,hn,h⟩:=aI h;obtain⟨c,y,h⟩:=aI h;obtain⟨hg,h⟩:=fH h;cases h;obtain⟨hu,⟨inf,uD,hsz⟩,hq1⟩:=AP hq;obtain⟨i,z0,hi,hz0,Zg,hlen,hs⟩:=yz hz;rw[uD]at hi;cases hi;have hi0:P.info? q.1=Z i0:=hi0;rw[uD]at hi0;cases hi0;obtain⟨k1,rfl⟩:=C_ hn;obtain⟨k2,rfl⟩:=C_ y;have:=J.of_int;subst this;have:=hy.of_int;subst this;simp only[aZ]at hg;have g1:=aD hg.1.1;have g2:=aD hg.1.2;have g3:=aD hg.2;obtain⟨l,m',a1,a2,a3,a4,a5,a9,a6,a7,a8⟩:=Dg (P:=P) (ty:=q.1) rh<|kT.mU (m:=m)<|Gb hs c;have hk:gD c=f:=aH N;refine⟨m',_,_,?_,Zl a1 a3 a4 hk N,a7,a8⟩;have hzc:z0.cells=⟨z⟩:=by rw[Zg]
 have harr:=JI z c;rw[hlen]at harr;have w1:IntKind.i64.wrap (n:Int)=n:=IntWalk.i64_in _ N;have w2:IntKind.i64.wrap (c:Int)=c:=IntWalk.i64_in _ N;have hb1:i0.bytes*c<=1048576*16777216:=gN g3 g2
 have hlt:¬((2:Int)^48<(i0.bytes:Int)*(c:Int)):=by
  have:(i0.bytes:Int)*(c:Int)=((i0.bytes*c:Nat):Int):=by simp
  rw[this];omega
 by_cases h0:c*q.2=0
 .have hn:c=0:=by
   rcases gH c with e|e
   .exact e
   .have:=qJ e (show 0<q.2 from hq1);omega
  subst hn;have hnn:n=0:=by omega
  subst hnn;have a6':(newRow q.1 #[]).run P w=.ok ⟨w.heap.size,0,W⟩ (w.alloc<|.cells #[] q.1):=a6;have w0:IntKind.i64.wrap 0=0:=IntWalk.i64_in _ N;have e0:∀av:Nat->D,Array.map av (Array.range 0)=#[]:=λav=>by simp
  simp[Instr.makeSlice,eY hu,asInt,asIntOf,yK uD,w0,jJ uD,hsz,a2];rw[e0,a6'];rfl
 .have ah6:Array.map (λx=>z[x %z.length]?.getD default) (Array.range<|c*q.2)=⟨oL z c⟩:=by
   rw[<-harr,hsz];congr 1;funext x;simp
  have hcond:¬((((c:Int)<0\/281474976710656<(i0.bytes:Int)*(c:Int))\/(n:Int)<0)\/c<n):=by
   rintro(((h|h)|h)|h)
   .omega
   .exact hlt h
   .omega
   .omega
  simp[Instr.makeSlice,eY hu,asInt,asIntOf,yK uD,w1,w2,jJ uD,hsz,h0,yL uD hz0,hzc,a2];rw[if_neg hcond,ah6,a6];rfl
end mem
section mem
variable{P:aS}
def Dp.length{l:List (D×D)}(h:Dp m l l'):l.length=l'.length:=by
 induction h with
 |nil=>rfl
 |cons _ _ _ _ _ _ _ _ ih=>simp[ih]
def R6(hd:P.underlying t=Z d)(Q:1<=tF d)(em:Bool)(n:Nat)(w:bW):(iY em (n+1) t v).run P w=.ok () w:=by
 rcases Ga Q with⟨kk,rfl⟩|rfl|rfl<;>simp[iY,eY hd]
def WJ:∀(fs:List Field)(k:Nat)(ks:List Nat)(X':List D),qZ P fs k=Z ks->k+fs.length<=X'.length->
 ∀av∈fs,av.name≠ "_" /\∀(em:Bool) n w,∃a,(part av.type ⟨X'⟩ av.offset).run P w=.ok a w/\(iY em (n+1) av.type a).run P w=.ok () w:=by
 intro fs
 induction fs with
 |nil=>intro k ks X' _ _ av hf;cases hf
 |cons av fs ih=>
  intro k ks X' hk hl g hg;obtain⟨d,r,hd,R,ho,hn,Q,rfl⟩:=uO hk;rcases bM.1 hg with rfl|hg
  .refine⟨hn,λem n w=>?_⟩;have hlt:g.offset<X'.length:=by rw[ho];simp at hl;omega
   exact⟨_,yA hd (zZ Q)<|au hlt,R6 hd Q em n w⟩
  .exact ih (k+1) r X' R (by simp at hl;omega) g hg
theorem G7:∀(ks:List Nat)(xs ys:List D)(b:Bool),qE ks xs ys=Z b->b=f->xs.length=ks.length:=by
 intro ks
 induction ks with
 |nil=>
  intro xs ys b h hb;cases xs with
  |nil=>rfl
  |cons _ _=>cases h
 |cons k ks ih=>
  intro xs ys b h hb;obtain⟨x,xr,hc,yr,c,rfl,rfl,hce,hcase⟩:=yj h;rcases hcase with⟨_,R⟩|⟨_,hbf⟩
  .simp[ih xr yr b R hb]
  .rw[hb]at hbf;cases hbf
def JJ:∀(fs:List Field)(k:Nat)(ks:List Nat),qZ P fs k=Z ks->ks.length=fs.length:=by
 intro fs
 induction fs with
 |nil=>intro k ks h;cases h;rfl
 |cons av fs ih=>
  intro k ks h;obtain⟨d,r,hd,R,ho,hn,Q,rfl⟩:=uO h;simp[ih _ _ R]
def G8(h:kY P t x x=Z f)(J:VR m x x')(em:Bool)(n:Nat)(w:bW):(iY em (n+2) t x').run P w=.ok () w:=by
 obtain⟨q,hq,h⟩:=aI h;rcases F_ hq with⟨d,hd,rfl,Q⟩|⟨fs,ks,hu,hs,hk,rfl⟩|⟨c,e,d,i,hu,he,hi,hsz,Q,rfl⟩
 .exact R6 hd Q em (n+1) w
 .replace h:(aK (wm x) λa=>aK (wm x) λb=>qE ks a b)=Z f:=h;obtain⟨xs,hxs,h⟩:=aI h;obtain⟨ys,hys,h⟩:=aI h;rw[tJ hxs]at J;obtain⟨xs',rfl,D7⟩:=J.wP
  have hlen:0+fs.length<=xs'.length:=by
   rw[<-D7.length,G7 ks xs ys f h O,JJ fs 0 ks hk];omega
  have each:=WJ fs 0 ks xs' hk hlen;rw[iY];simp only[cB,eY hu,bN];rw[<-Array.forIn_toList];simp only[];clear hk hq hlen hu;generalize fs=L at each
  induction L with
  |nil=>simp
  |cons av L ih=>
   obtain⟨hn,hp⟩:=each av (by simp);obtain⟨a,p1,p2⟩:=hp em n w;simp only[List.forIn_cons,cB,hn,ne_eq,pW,kE,bN,p1,p2,dF];exact ih λhc hy=>each hc (by simp[hy])
 .replace h:(aK (wm x) λa=>aK (wm x) λb=>qE (aU c<|tF d) a b)=Z f:=h;obtain⟨xs,hxs,h⟩:=aI h;obtain⟨ys,hys,h⟩:=aI h;rw[tJ hxs]at J;obtain⟨xs',rfl,D7⟩:=J.wP
  have hlen:xs'.length=c:=by
   rw[<-D7.length,G7 _ xs ys f h O];simp
  rw[iY];simp only[cB,eY hu,bN];simp only[Std.Legacy.Range.forIn_eq_forIn_range',Std.Legacy.Range.size,jT,Nat.add_one_sub_one,Nat.div_one]
  have each:∀j∈List.range' 0 c,∃a,(part e ⟨xs'⟩<|j*i.size).run P w=.ok a w/\(iY em (n+1) e a).run P w=.ok () w:=by
   intro j hj;have hj:j<xs'.length:=by rw[hlen];simpa using hj
   refine⟨xs'[j],?_,R6 he Q em n w⟩;rw[hsz,dz];exact yA he (zZ Q)<|au hj
  clear hlen hq h hu;generalize List.range' 0 c=L at each
  induction L with
  |nil=>simp
  |cons j L ih=>
   obtain⟨a,p1,p2⟩:=each j (by simp);simp only[List.forIn_cons,cB,jJ hi,bN,p1,p2,dF];exact ih λhc hy=>each hc (by simp[hy])
def JK(hd:P.underlying t=Z d)(h:wJ (tF d) x hc=Z b)(J:VR m x x')(hy:VR m hc y'):Instr.sameNow d x' y'=Z b:=by
 obtain⟨rfl,rfl,_⟩:=zY (t:=t) hd h J hy;cases d<;>simp only[tF]at h
 case int k=>
  replace h:(aK (sK x') λa=>aK (sK y') λb=>gd (ay (qx a.1)<|qx b.1)<|Z<|IZ a.2 b.2)=Z b:=h;obtain⟨p,hp,h⟩:=aI h;obtain⟨q,hq,h⟩:=aI h;obtain⟨hk,h⟩:=fH h;cases h;rw[pY hp,pY hq];have hk:=zX hk;simp[Instr.sameNow,hk,JC]
 case bool=>
  replace h:(aK (jH x') λa=>aK (jH y') λb=>Z<|Au a b)=Z b:=h;obtain⟨p,hp,h⟩:=aI h;obtain⟨q,hq,h⟩:=aI h;cases h;rw[oO hp,oO hq];simp[Instr.sameNow,JD]
 case string=>
  replace h:(aK (tC x') λa=>aK (tC y') λb=>Z<|qV a b)=Z b:=h;obtain⟨p,hp,h⟩:=aI h;obtain⟨q,hq,h⟩:=aI h;cases h;rw[o9 hp,o9 hq];simp[Instr.sameNow,yN,beq_toListBytes]
 all_goals cases h
def R7(m:Mp):Option (Nat×D)->Option (Nat×D)->Prop
 |none,W=>True
 |some p,Z q=>p.1=q.1/\VR m p.2 q.2
 |_,_=>False
def D9{k:D}{e:D×D}{i:Nat}{r:Option (Nat×D)}(h:qW P kt k (e::es) i=Z r):
 (kY P kt k e.1=Z f/\r=Z (i,e.2))\/(kY P kt k e.1=Z aA/\qW P kt k es (i+1)=Z r):=by
 replace h:(aK (kY P kt k e.1) λb=>bR b (Z<|Z (i,e.2))<|qW P kt k es<|i+1)=Z r:=h;obtain⟨b,hb,h⟩:=aI h;cases b
 .exact .inr ⟨hb,h⟩
 .cases h;exact .inl ⟨hb,O⟩
def R8{k:D}(hd:P.underlying kt=Z d)(hq:tEq P kt=Z (.inl<|tF d))(hk:VR m k k'):∀{es:List (D×D)}{zz:List MapEntry},Dp m es zz->∀(i:Nat)(r:Option<|Nat×D),
 qW P kt k es i=Z r->∃r',lI d k' zz i=Z r'/\R7 m r r':=by
 intro es zz hes
 induction hes with
 |nil=>intro i r h;cases h;exact⟨W,O,trivial⟩
 |cons kk v e l l' hkk hv hl ih=>
  intro i r h
  have cellOf:∀b,kY P kt k kk=Z b->wJ (tF d) k kk=Z b:=by
   intro b hb;unfold kY at hb;rw[hq]at hb;exact hb
  rcases D9 h with⟨Q,rfl⟩|⟨Q,I⟩
  .have:=JK hd (cellOf _ Q) hk hkk;exact⟨Z (i,e.val),by simp[lI,this],rfl,hv⟩
  .have:=JK hd (cellOf _ Q) hk hkk;obtain⟨r',h3,h4⟩:=ih (i+1) r I;exact⟨r',by simp[lI,this,h3],h4⟩
def Lg{k:D}(hk:VR m k k')(w:bW):∀{es:List (D×D)}{zz:List MapEntry},Dp m es zz->∀(i:Nat)(r:Option<|Nat×D),
 qW P kt k es i=Z r->∃r',(Instr.findAsking kt k' zz i).run P w=.ok r' w/\R7 m r r':=by
 intro es zz hes
 induction hes with
 |nil=>intro i r h;cases h;exact⟨W,O,trivial⟩
 |cons kk v e l l' hkk hv hl ih=>
  intro i r h;rcases D9 h with⟨Q,rfl⟩|⟨Q,I⟩
  .have:=JE Q hk hkk w;exact⟨Z (i,e.val),by simp[Instr.findAsking,this],rfl,hv⟩
  .have:=JE Q hk hkk w;obtain⟨r',h3,h4⟩:=ih (i+1) r I;exact⟨r',by simp[Instr.findAsking,this,h3],h4⟩
def JL{k:D}{r:Option (Nat×D)}(hk:VR m k k')(hes:Dp m es zz)(h:qW P kt k es 0=Z r)(hv:kY P kt k k=Z f)(w:bW):
 ∃r',(Instr.findKey kt k' zz).run P w=.ok r' w/\R7 m r r':=by
 have h0:=hv;replace hv:(aK (tEq P kt) λq=>@Sum.rec Nat (List Nat) (λ_=>Option Bool) (λn=>wJ n k k) (λl=>aK (wm k) λa=>aK (wm k) λb=>qE l a b) q)=Z f:=hv;obtain⟨q,hq,hv'⟩:=aI hv;have ask:=Lg hk w hes 0 r h
 have und:∃d,P.underlying kt=Z d:=by
  rcases F_ hq with⟨d,hd,_⟩|⟨fs,ks,hu,_⟩|⟨c,e,d,i,hu,_⟩
  .exact⟨_,hd⟩
  .exact⟨_,hu⟩
  .exact⟨_,hu⟩
 obtain⟨d,hd⟩:=und;cases hfn:lI d k' zz 0 with
 |none=>
  obtain⟨r',Q,I⟩:=ask;exact⟨r',by simp[Instr.findKey,eY hd,hfn,Q],I⟩
 |some r0=>
  refine⟨r0,by simp[Instr.findKey,eY hd,hfn],?_⟩;rcases F_ hq with⟨d',hd',rfl,Q⟩|⟨fs,ks,hu,_,_,rfl⟩|⟨c,e,d',i,hu,_,_,_,_,rfl⟩
  .rw[hd]at hd';cases hd';obtain⟨r',h3,h4⟩:=R8 hd hq hk hes 0 r h;rw[hfn]at h3;cases h3;exact h4
  .rw[hd]at hu;cases hu;cases hes with
   |nil=>cases h;simp[lI]at hfn;subst hfn;trivial
   |cons kk v e l l' hkk hv hl=>simp[lI,Instr.sameNow]at hfn
  .rw[hd]at hu;cases hu;cases hes with
   |nil=>cases h;simp[lI]at hfn;subst hfn;trivial
   |cons kk v e l l' hkk hv hl=>simp[lI,Instr.sameNow]at hfn
end mem
section mem
variable{P:aS}
def Ph{k:D}{rg:Unit}(h:zw P t k=Z rg):kY P t k k=Z f:=by
 obtain⟨b,hb,h⟩:=aI h;obtain⟨hg,h⟩:=fH h;rw[hb,hg]
def yP{es:Array MapEntry}{cl:Nat}(h:w.heap[c]?=Z (.map es cl)):(getObj c).run P w=.ok (.map es cl) w:=by
 simp[getObj,Sem.run,h]
def Lh(w:bW)(c:Nat)(o:Obj):bW:={w with heap:=w.heap.setIfInBounds c o}
def JM{es es':Array MapEntry}{cl cl':Nat}(h:w.heap[c]?=Z (.map es cl)):(setObj c<|.map es' cl').run P w=.ok () (Lh w c<|.map es' cl'):=by
 simp[setObj,Sem.run,h,Lh]
def UF{o0:Obj}(h:w.heap[c]?=Z o0):(Lh w c o).heap[c]?=Z o:=by
 have:=oG h;simp[Lh,this]
def UG(h:c'≠c):(Lh w c o).heap[c']?=w.heap[c']?:=by
 simp only[Lh];exact jM<|oJ h
def Mi:(Lh w c o).heap.size=w.heap.size:=by simp[Lh]
def R9(rh:RH m H w){r:Option D}(h:uB P t r H=Z (v,C))(R:OR m r r'):
 wz P m H w (Instr.makeMap t r') v C:=by
 obtain⟨q,hq,h⟩:=aI h;obtain⟨hg,h⟩:=fH h;cases h;have hu:=I7 hq;have:=rh.alloc (.map []) (.map #[] 0) 0 0 0 0 (show Dp m [] []from .nil);refine⟨_,.map<|Z w.heap.size,w.alloc<|.map #[] 0,?_,?_,this.1,this.2⟩
 .cases R with
  |nn=>simp[Instr.makeMap]
  |ss x x' J=>
   replace hg:(!(eX<|sK x))=f:=hg;cases hv:sK x with
   |none=>rw[hv]at hg;cases hg
   |some p=>
    rw[pY hv]at J;have:=J.of_int;subst this;simp[Instr.makeMap,eY hu,asInt,asIntOf]
 .exact VR.map H.next ⟨w.heap.size,0,0,0,0⟩ (by simp[Mp.add])
def R_(rh:RH m H w)(hm:m r=Z l)(ho:H.obj r=.map es):∃zz cl,w.heap[l.c]?=Z (.map zz cl)/\Dp m es zz.toList:=by
 obtain⟨o,hb,hk⟩:=rh.ok r l hm;rw[ho]at hk;cases o with
 |map zz cl=>exact⟨zz,cl,hb,hk⟩
 |_=>exact hk.elim
def WK(rh:RH m H w){k:D}(h:r_ P t x k ok H=Z (v,C))(J:VR m x x')(hk:VR m k k'):
 C=H/\∃v',VR m v v'/\(Instr.lookup t x' k' ok).run P w=.ok v' w:=by
 obtain⟨q,hq,h⟩:=aI h;obtain⟨z,hz,h⟩:=aI h;obtain⟨es,hes,h⟩:=aI h;obtain⟨rg,hu,h⟩:=aI h;obtain⟨av,hf,h⟩:=aI h;have hut:=I7 hq;have hkk:=Ph hu;obtain⟨⟨i,hi,hz0⟩,Rv⟩:=O' hz;have hzz:VR m z z:=Wt Rv
 have pre:∃zz:Array MapEntry,Dp m es zz.toList/\((x'=.map W/\zz=#[])\/∃c cl,x'=.map (Z c)/\w.heap[c]?=Z (.map zz cl)):=by
  have h:=hes;obtain⟨mr,hmr,h⟩:=aI h;rw[Da hmr]at J;cases mr with
  |none=>
   have:=J.vM O;subst this;cases h;exact⟨#[],.nil,.inl ⟨O,O⟩⟩
  |some r=>
   obtain⟨l,hm,rfl⟩:=J.of_map;replace h:Jp (H.obj r)=Z es:=h;obtain⟨zz,cl,hb,he⟩:=R_ rh hm<|IX h;exact⟨zz,he,.inr ⟨_,_,O,hb⟩⟩
 obtain⟨zz,he,hcase⟩:=pre;obtain⟨r',hfind,hfr⟩:=JL hk he hf hkk w;have hck:=G8 hkk hk zz.isEmpty 9998 w;have hck:(iY zz.isEmpty 10000 q.1 k').run P w=.ok () w:=hck;cases av with
 |none=>
  cases r' with
  |some _=>exact hfr.elim
  |none=>
   replace h:Z (okd ok z aA H)=Z (v,C):=h;have hv:v=(if ok then .tuple #[z,.bool aA]else z)/\C=H:=by cases ok<;>(cases h;exact⟨O,O⟩)
   refine⟨hv.2,(if ok then .tuple #[z,.bool aA]else z),?_,?_⟩
   .rw[hv.1];cases ok
    .exact hzz
    .exact .tuple _ _<|.cons _ _ _ _ hzz<|.cons _ _ _ _ (.sc _ O) .nil
   .rcases hcase with⟨rfl,rfl⟩|⟨c,cl,rfl,hb⟩
    .have hck:(iY f 10000 q.1 k').run P w=.ok () w:=hck;have hfind:(Instr.findKey q.1 k' []).run P w=.ok W w:=hfind;simp[Instr.lookup,eY hut,hck,hfind,yL hi hz0]
    .simp[Instr.lookup,eY hut,yP hb,hck,hfind,yL hi hz0]
 |some p=>
  cases r' with
  |none=>exact hfr.elim
  |some p'=>
   replace h:Z (okd ok p.2 f H)=Z (v,C):=h;have hv:v=(if ok then .tuple #[p.2,.bool f]else p.2)/\C=H:=by cases ok<;>(cases h;exact⟨O,O⟩)
   obtain⟨j',u'⟩:=p';refine⟨hv.2,(if ok then .tuple #[u',.bool f]else u'),?_,?_⟩
   .rw[hv.1];cases ok
    .exact hfr.2
    .exact .tuple _ _<|.cons _ _ _ _ hfr.2<|.cons _ _ _ _ (.sc _ O) .nil
   .rcases hcase with⟨rfl,rfl⟩|⟨c,cl,rfl,hb⟩
    .have hck:(iY f 10000 q.1 k').run P w=.ok () w:=hck;have hfind:(Instr.findKey q.1 k' []).run P w=.ok (Z (j',u')) w:=hfind;simp[Instr.lookup,eY hut,hck,hfind]
    .simp[Instr.lookup,eY hut,yP hb,hck,hfind]
def adm(rh:RH m H w)(h:Jz P ats args H=Z (v,C))(ha:kT m args args'):
 C=H/\VR m v v/\(j_ ⟨ats⟩ t ⟨args'⟩).run P w=.ok v w:=by
 obtain⟨t0,ht,h⟩:=aI h;obtain⟨x,J,h⟩:=aI h;obtain⟨q,hq,h⟩:=aI h;obtain⟨es,hes,h⟩:=aI h;cases h;have hut:=I7 hq;rw[om]at ht J;obtain⟨x',hx',D7⟩:=ha.get 0 J;refine⟨O,.sc _ O,?_⟩;have h:=hes;obtain⟨mr,hmr,h⟩:=aI h;rw[Da hmr]at D7;cases mr with
 |none=>
  have:=D7.vM O;subst this;cases h;simp[j_,ht,hx',eY hut,goInt,len]
 |some r=>
  obtain⟨l,hm,rfl⟩:=D7.of_map;replace h:Jp (H.obj r)=Z es:=h;obtain⟨zz,cl,hb,he⟩:=R_ rh hm<|IX h;have hl:=he.length;simp[j_,ht,hx',eY hut,goInt,yP hb,fQ,hl]
def G9(h:wJ k x hc=Z f)(J:VR m x x')(hy:VR m hc y'):x'=y'/\∀n,Instr.sameBits n y' x'=f:=by
 unfold wJ at h;rw[zN]at h;split at h
 .obtain⟨a,ha,h⟩:=aI h;obtain⟨b,hb,h⟩:=aI h;obtain⟨hg,h⟩:=fH h;rw[pY ha]at J;rw[pY hb]at hy;have:=J.of_int;subst this;have:=hy.of_int;subst this;have hk:=zX hg;simp only[sI,JC,kX]at h;exact⟨by rw[hk,h],λn=>by cases n<;>simp[Instr.sameBits,hk,h]⟩
 .rw[zN]at h;split at h
  .obtain⟨a,ha,h⟩:=aI h;obtain⟨b,hb,h⟩:=aI h;rw[oO ha]at J;rw[oO hb]at hy;have:=J.of_bool;subst this;have:=hy.of_bool;subst this;simp only[sI,JD,kX]at h;exact⟨by rw[h],λn=>by cases n<;>simp[Instr.sameBits,h]⟩
  .rw[zN]at h;split at h
   .obtain⟨a,ha,h⟩:=aI h;obtain⟨b,hb,h⟩:=aI h;rw[o9 ha]at J;rw[o9 hb]at hy;have:=J.vL;subst this;have:=hy.vL;subst this;simp only[sI,yN]at h;have hl:a.toList=b.toList:=by simpa using h
    rw[h_,h_]at hl;have hab:a=b:=sZ<|iW.1 hl;subst hab;have hbb:(a==a)=f:=by rw[beq_toListBytes];simp
    exact⟨O,λn=>by cases n<;>simp[Instr.sameBits,hbb]⟩
   .cases h
def NF:∀(ks:List Nat)(xs ys xs' ys':List D),qE ks xs ys=Z f->kT m xs xs'->kT m ys ys'->
 xs'=ys'/\∀n,(ys'.zip xs').all (λ(x,hc)=>Instr.sameBits n x hc)=f:=by
 intro ks
 induction ks with
 |nil=>
  intro xs ys xs' ys' h J hy;cases xs with
  |nil=>cases ys with
   |nil=>cases J;cases hy;exact⟨O,λn=>rfl⟩
   |cons _ _=>cases h
  |cons _ _=>cases h
 |cons k ks ih=>
  intro xs ys xs' ys' h J hy;obtain⟨x,xr,hc,yr,c,rfl,rfl,hce,hcase⟩:=yj h;rcases hcase with⟨rfl,R⟩|⟨_,hbf⟩
  .cases J with
   |cons _ x' _ xr' hxv D7=>
    cases hy with
    |cons _ y' _ yr' hyv Y7=>
     obtain⟨e1,e2⟩:=G9 hce hxv hyv;obtain⟨f1,f2⟩:=ih xr yr xr' yr' R D7 Y7;exact⟨by rw[e1,f1],λn=>by simp only[List.zip_cons_cons,wH,e2 n,f2 n,Bool.and_self]⟩
  .cases hbf
def Sa(h:kY P t x hc=Z f)(J:VR m x x')(hy:VR m hc y'):x'=y'/\∀n,Instr.sameBits (n+1) y' x'=f:=by
 obtain⟨q,hq,h⟩:=aI h;cases q with
 |inl k=>
  replace h:wJ k x hc=Z f:=h;obtain⟨a,b⟩:=G9 h J hy;exact⟨a,λn=>b _⟩
 |inr l=>
  replace h:(aK (wm x) λa=>aK (wm hc) λb=>qE l a b)=Z f:=h;obtain⟨xs,hxs,h⟩:=aI h;obtain⟨ys,hys,h⟩:=aI h;rw[tJ hxs]at J;rw[tJ hys]at hy;obtain⟨xs',rfl,D7⟩:=J.wP;obtain⟨ys',rfl,Y7⟩:=hy.wP;obtain⟨a,b⟩:=NF l xs ys xs' ys' h D7 Y7;refine⟨by rw[a],λn=>?_⟩;have:=b n;simp only[Instr.sameBits,aZ];exact⟨by rw[a];simp,this⟩
def Dp.set{l:List MapEntry}(h:Dp m es l):∀(j:Nat)(k v:D)(e':MapEntry),VR m k e'.key->VR m v e'.val->Dp m (es.set j (k,v)) (l.set j e'):=by
 induction h with
 |nil=>intro j k v e' _ _;exact .nil
 |cons k0 v0 e0 l0 l0' hk hv hl ih=>
  intro j k v e' Q I;cases j with
  |zero=>exact .cons k v e' l0 l0' Q I hl
  |succ j=>exact .cons k0 v0 e0 _ _ hk hv<|ih j k v e' Q I
def Dp.push{l:List MapEntry}(h:Dp m es l)(k v:D)(e':MapEntry)(Q:VR m k e'.key)(I:VR m v e'.val):Dp m (es++[(k,v)]) (l++[e']):=by
 induction h with
 |nil=>exact .cons k v e' [] [] Q I .nil
 |cons k0 v0 e0 l0 l0' hk hv hl ih=>exact .cons k0 v0 e0 _ _ hk hv ih
def Dp.get{l:List MapEntry}(h:Dp m es l):∀(j:Nat)(p:D×D),es[j]?=Z p->∃e,l[j]?=Z e/\VR m p.1 e.key/\VR m p.2 e.val:=by
 induction h with
 |nil=>intro j p hp;simp at hp
 |cons k0 v0 e0 l0 l0' hk hv hl ih=>
  intro j p hp;cases j with
  |zero=>simp at hp;subst hp;exact⟨e0,O,hk,hv⟩
  |succ j=>simpa using ih j p (by simpa using hp)
def WL{k:D}:∀(es:List<|D×D)(i j:Nat)(v:D),qW P kt k es i=Z (Z (j,v))->i<=j/\∃k0,es[j-i]?=Z (k0,v)/\kY P kt k k0=Z f:=by
 intro es
 induction es with
 |nil=>intro i j v h;cases h
 |cons e es ih=>
  intro i j v h;rcases D9 h with⟨Q,I⟩|⟨Q,I⟩
  .simp at I;obtain⟨rfl,rfl⟩:=I;exact⟨az _,e.1,by simp,Q⟩
  .obtain⟨a,k0,b,c⟩:=ih (i+1) j v I;refine⟨N,k0,?_,c⟩;rw[show j-i=(j-(i+1))+1 from by omega];simpa using b
theorem Li(zz:Array MapEntry)(j:Nat)(e:MapEntry)(he:zz[j]?=Z e)(av:MapEntry->MapEntry):(zz.modify j av).toList=zz.toList.set j (av e):=by
 apply gX;intro i;have hj:=(dR.1 he).1;rw[eB,iM,dB,<-eB]
 by_cases h:j=i
 .subst h;rw[if_pos O,if_pos O,eB,he];simp[hj]
 .rw[if_neg h,if_neg h]
def WN(rh:RH m H w){k:D}(h:uN P t x k hc H=Z (v,C))(J:VR m x x')(hk:VR m k k')(hy:VR m hc y'):
 v=undef/\∃w',(Instr.mapUpdate t x' k' y').run P w=.ok () w'/\RH m C w'/\Ex m m H C w w':=by
 obtain⟨q,hq,h⟩:=aI h;obtain⟨mr,hmr,h⟩:=aI h;obtain⟨r,R,h⟩:=aI h;obtain⟨es,hes,h⟩:=aI h;obtain⟨rg,hu,h⟩:=aI h;obtain⟨av,hf,h⟩:=aI h;subst R;have hut:=I7 hq;have hkk:=Ph hu;rw[Da hmr]at J;obtain⟨l,hm,rfl⟩:=J.of_map;obtain⟨zz,cl,hb,he⟩:=R_ rh hm<|IX hes;obtain⟨r',hfind,hfr⟩:=JL hk he hf hkk w;have hck:(iY aA 10000 q.1 k').run P w=.ok () w:=G8 hkk hk aA 9998 w;have Mj:H.obj r≠.dead:=by rw[IX hes];simp
 cases av with
 |none=>
  cases r' with
  |some _=>exact hfr.elim
  |none=>
   replace h:Z (undef,H.put r<|.map<|app es [(k,hc)])=Z (v,C):=h;cases h
   have hnew:Dp m (app es [(k,hc)]) (zz.push {key:=k',val:=y',born:=cl}).toList:=by
    rw[qd,Array.toList_push];exact he.push k hc _ hk hy
   have:=RH.update rh r l (.map<|app es [(k,hc)]) (.map (zz.push {key:=k',val:=y',born:=cl})<|cl+1) hm Mj hnew (UF hb) Mi (λc y=>UG y) O O O;refine⟨O,Lh w l.c<|.map (zz.push {key:=k',val:=y',born:=cl})<|cl+1,?_,this.1,this.2⟩;simp[Instr.mapUpdate,eY hut,yP hb,hck,hfind,JM hb]
 |some p=>
  cases r' with
  |none=>exact hfr.elim
  |some p'=>
   obtain⟨j,v0⟩:=p;obtain⟨j',v0'⟩:=p';obtain⟨rfl,hvv⟩:=hfr;replace h:Z (undef,H.put r<|.map<|setAt (k,hc) j es)=Z (v,C):=h;cases h;obtain⟨_,k0,hk0,hke⟩:=WL es 0 j v0 hf;obtain⟨e,hce,hek,hev⟩:=he.get j _ (by simpa using hk0);rw[eB]at hce;obtain⟨hsame,ah7⟩:=Sa hke hk hek
   have hst:(Instr.keyThatStays e.key k').run P w=.ok k' w:=by
    have:=ah7 9999;simp[Instr.keyThatStays,this]
   have hnew:Dp m (setAt (k,hc) j es) (zz.modify j λe=>{e with key:=k',val:=y'}).toList:=by
    rw[z8,Li zz j e hce];exact he.set j k hc _ hk hy
   have:=RH.update rh r l (.map<|setAt (k,hc) j es) (.map (zz.modify j λe=>{e with key:=k',val:=y'}) cl) hm Mj hnew (UF hb) Mi (λc y=>UG y) O O O;refine⟨O,Lh w l.c<|.map (zz.modify j λe=>{e with key:=k',val:=y'}) cl,?_,this.1,this.2⟩;simp[Instr.mapUpdate,eY hut,yP hb,hck,hfind,hce,hst,JM hb]
end mem
section mem
variable{P:aS}
def wR(s:List UInt8):oM s=s.map λb=>.int .u8 b.toNat:=by rw[oM,ER];rfl
def G_(s:List UInt8):(oM s).all mU=f:=by
 rw[wR];simp[mU]
def Cj(rh:RH m H w){e:Nat×List D}(h:appended H sz x=Z e)(J:VR m x x'):
 (∀w,(kG x').run P w=.ok e.1 w)/\∃vs',kT m e.2 vs'/\vs'.length=e.1*sz/\(dM sz e.1 x').run P w=.ok ⟨vs'⟩ w:=by
 unfold appended at h;cases hs:tC x with
 |some s=>
  rw[hs]at h;replace h:(gd (ay sz 1)<|Z (len s.data.toList,oM s.data.toList))=Z e:=h;obtain⟨hg,h⟩:=fH h;cases h;have hg:=aT hg;subst hg;rw[o9 hs]at J;have:=J.vL;subst this;have hsz:s.size=s.data.toList.length:=rfl;refine⟨λw=>by simp[kG,fQ],oM s.data.toList,kT.mU<|G_ _,by rw[wR];simp[fQ],?_⟩
  have:(s.extract 0 s.size).data=s.data:=by
   rw[pG];show s.data.extract 0 s.data.size=s.data;simp
  simp only[dM,fQ];rw[show s.data.toList.length=s.size from O,this,wR];show Result.ok _ w=Result.ok _ w;congr 1;rw[<-iW];simp
 |none=>
  rw[hs]at h
  replace h:(aK (Iz x) λp=>@aN Addr (λ_=>Option<|Nat×List D) (gd (ay p.2.1 0)<|Z (0,[]))
   (λa=>aK (H.read a.block a.off<|bL p.2.1 sz) λl=>Z (p.2.1,l)) p.1)=Z e:=h
  obtain⟨p,hp,h⟩:=aI h;rw[wO hp]at J;obtain⟨pa,n,cp⟩:=p;cases pa with
  |none=>
   obtain⟨Q,I,rfl⟩:=J.uC;replace h:(gd (ay n 0)<|Z (0,([]:List D)))=Z e:=h;obtain⟨hg,h⟩:=fH h;cases h;exact⟨λw=>by simp[kG],[],.nil,by simp,by simp[dM]⟩
  |some a=>
   replace h:(aK (H.read a.block a.off<|bL n sz) λl=>Z (n,l))=Z e:=h;obtain⟨l,hl,h⟩:=aI h;cases h;simp only at J;rcases J.of_slice with⟨lc,cc,hm,hlo,hsp,rfl,_⟩|⟨a',e1,e2,rfl⟩
   .obtain⟨vs',Q,I,h3⟩:=ym (P:=P) rh hl hm hlo;exact⟨λw=>by simp[kG],vs',Q,I,by simp only[dM];exact h3⟩
   .subst e1;have hz:bL 0 sz=0:=iP sz;rw[hz]at hl;cases hl;refine⟨λw=>by simp[kG],[],.nil,by simp,?_⟩;simp[dM,loadCells,loadCellsFrom]
def WO(n:Nat):∀(r c:Nat),Builtin.growBy n r c<=max c (n+(n+768)/4):=by
 intro r
 induction r with
 |zero=>intro c;simp[Builtin.growBy];omega
 |succ r ih=>
  intro c;unfold Builtin.growBy;split
  .omega
  .next h=>
   have:=ih<|c+(c+768)/4;omega
def Sb{need:Nat}(h:cap<need):Builtin.nextslicecap need cap<=2*need+768:=by
 unfold Builtin.nextslicecap;split
 .omega
 .split
  .omega
  .have:=WO need 4 cap;omega
def Lj(zs:List D)(n:Nat):(Builtin.zeroCells ⟨zs⟩ n).toList.length=n*zs.length:=by simp[Builtin.zeroCells]
theorem Zm{z0:D}{base:Option Addr}(ha0:args'[0]?=Z (.slice base ln cc))(ha1:args'[1]?=Z x')(ht:ats[0]?=Z t)(ht2:ats[1]?=Z t2)(hu:P.underlying t=Z (.slice e))(hu2:P.underlying t2=Z d2)(hd2:∀kk,d2≠.int kk)(hi:P.info? e=Z i)(hz:i.zero=Z z0)(hzc:z0.cells=⟨zs⟩)(hzl:zs.length=i.size)(hb:i.bytes<=1048576)(hb1:1<=i.bytes)(hln:ln<=16777216)(hk:k<=16777216)(hroom:cc<ln+k)(hlen:∀w,(kG x').run P w=.ok k w)(hold:(dM i.size ln<|.slice base ln cc).run P w.drew=.ok ⟨old⟩ w.drew)(hnew:(dM i.size k x').run P w.drew=.ok ⟨vs'⟩ w.drew):
 ∃cap rest,ln+k<=cap/\rest.length=(cap-(ln+k))*i.size/\
  (kH ⟨ats⟩ ty ⟨args'⟩).run P w=.ok (.slice (Z ⟨w.drew.heap.size,0,W⟩) (ln+k) cap) (w.drew.alloc<|.cells ⟨old++vs'++rest⟩ e):=by
 refine⟨(Question.appendCap (ln+k) cc e).cut<|w.tape w.drawn<|.appendCap (ln+k) cc e,(Builtin.zeroCells ⟨zs⟩<|(Question.appendCap (ln+k) cc e).cut (w.tape w.drawn<|.appendCap (ln+k) cc e)-(ln+k)).toList,?_,?_,?_⟩
 .simp[Question.cut]
 .rw[Lj,hzl]
 .have hz2:(match d2 with|.int _=>f|_=>aA)=aA:=by cases d2<;>first|rfl|exact absurd O (hd2 _)
  have hcap:Builtin.nextslicecap (ln+k) cc*i.bytes<=2^48:=by
   have Q:=Sb hroom;have I:2*(ln+k)+768<=67109632:=by omega
   exact aX (gN (aX Q I) hb) (by simp)
  have hne:¬(ln+k<=cc):=by omega
  have hbz:i.bytes≠0:=by omega
  have ah8:¬(Builtin.nextslicecap (ln+k) cc*i.bytes>2^48):=by omega
  have hf:(Question.appendCap (ln+k) cc e).forced=aA:=rfl;have hat:(⟨ats⟩:Array aG)[0]?=Z t:=by simpa using ht
  have Zn:(⟨ats⟩:Array aG)[1]?=Z t2:=by simpa using ht2
  have akM:∀n,(askRoom n).run P w.drew=.ok () w.drew:=λn=>run_askRoom P w.drew n;have ha0:(⟨args'⟩:Array D)[0]?=Z (.slice base ln cc):=by simpa using ha0
  have ha1:(⟨args'⟩:Array D)[1]?=Z x':=by simpa using ha1
  cases d2
  case int kk=>exact absurd O<|hd2 kk
  all_goals
   simp only[kH,hat,Zn,ha0,ha1,cB,eY hu,eY hu2,bN,jJ hi,dF,dh,kD,hlen,hne,
    yK hi,hbz,or_self,and_false,ah8,run_choose,hf,World.drew_eq,akM,hold,hnew,yL hi hz,hzc,vG,kE]
  all_goals
   generalize Builtin.zeroCells ⟨zs⟩ _=zc;have harr:((⟨old⟩:Array D)++(⟨vs'⟩:Array D)++zc)=⟨old++vs'++zc.toList⟩:=by rw[<-iW];simp
   rw[harr];rfl
def xC(ha0:args'[0]?=Z (.slice (Z a) ln cc))(ha1:args'[1]?=Z x')(ht:ats[0]?=Z t)(ht2:ats[1]?=Z t2)(hu:P.underlying t=Z (.slice e))(hu2:P.underlying t2=Z d2)(hd2:∀kk,d2≠.int kk)(hi:P.info? e=Z i)(hroom:ln+k<=cc)(hlen:∀w,(kG x').run P w=.ok k w)(hnew:(dM i.size k x').run P w=.ok ⟨vs'⟩ w)(hst:(storeCells (a.add<|ln*i.size) vs').run P w=.ok () w'):
 (kH ⟨ats⟩ ty ⟨args'⟩).run P w=.ok (.slice (Z a) (ln+k) cc) w':=by
 have hat:(⟨ats⟩:Array aG)[0]?=Z t:=by simpa using ht
 have Zn:(⟨ats⟩:Array aG)[1]?=Z t2:=by simpa using ht2
 have ha0:(⟨args'⟩:Array D)[0]?=Z (.slice (Z a) ln cc):=by simpa using ha0
 have ha1:(⟨args'⟩:Array D)[1]?=Z x':=by simpa using ha1
 cases d2
 case int kk=>exact absurd O<|hd2 kk
 all_goals
  simp only[kH,hat,Zn,ha0,ha1,cB,eY hu,eY hu2,bN,jJ hi,dF,dh,kD,hlen,hroom,
   hnew,vG,kE,hst]
def Pj(ha0:args'[0]?=Z (.slice W 0 cc))(ha1:args'[1]?=Z x')(ht:ats[0]?=Z t)(ht2:ats[1]?=Z t2)(hu:P.underlying t=Z (.slice e))(hu2:P.underlying t2=Z d2)(hd2:∀kk,d2≠.int kk)(hi:P.info? e=Z i)(hlen:∀w,(kG x').run P w=.ok 0 w)(hnew:(dM i.size 0 x').run P w=.ok #[] w):
 (kH ⟨ats⟩ ty ⟨args'⟩).run P w=.ok (.slice W 0 cc) w:=by
 have hat:(⟨ats⟩:Array aG)[0]?=Z t:=by simpa using ht
 have Zn:(⟨ats⟩:Array aG)[1]?=Z t2:=by simpa using ht2
 have ha0:(⟨args'⟩:Array D)[0]?=Z (.slice W 0 cc):=by simpa using ha0
 have ha1:(⟨args'⟩:Array D)[1]?=Z x':=by simpa using ha1
 cases d2
 case int kk=>exact absurd O<|hd2 kk
 all_goals
  simp only[kH,hat,Zn,ha0,ha1,cB,eY hu,eY hu2,bN,jJ hi,dF,dh,kD,hlen,dD,bg,
   hnew,vG,kE]
def adn(h:ahZ P t t2=Z q):P.underlying t=Z (.slice q.1)/\1<=q.2/\∃i z0 zs d2,P.info? q.1=Z i/\i.size=q.2/\i.zero=Z z0/\z0.cells=⟨zs⟩/\zs.length=i.size/\
 zs.all mU=f/\P.underlying t2=Z d2/\(∀kk,d2≠.int kk)/\i.bytes<=1048576/\1<=i.bytes:=by
 obtain⟨q',hq,h⟩:=aI h;obtain⟨i0,hi0,h⟩:=aI h;obtain⟨zs,hzs,h⟩:=aI h;obtain⟨d2,hd2,h⟩:=aI h;obtain⟨hg,h⟩:=fH h;cases h;obtain⟨hu,⟨i,hi,hsz⟩,Q⟩:=AP hq;have hi0:P.info? q.1=Z i0:=hi0;rw[hi]at hi0;cases hi0;obtain⟨i2,z0,hi2,hz0,Zg,hlen,hs⟩:=yz hzs;rw[hi]at hi2;cases hi2;simp only[aZ]at hg;refine⟨hu,Q,_,z0,zs,d2,hi,hsz,hz0,by rw[Zg],hlen,hs,hd2,?_,aD hg.1.2,aD hg.2⟩;intro kk e;subst e;have:=hg.1.1;simp[Lc,eX]at this
end mem
section mem
variable{P:aS}
def RH.ado(rh:RH m H w)(r:Nat)(l l':Loc)(o':lu)(JH:Obj)(hm:m r=Z l)(hd:H.obj r≠.dead)(y:l'.c=l.c)(hok:uE m l' o' JH)(hb:w'.heap[l.c]?=Z JH)(hs:w'.heap.size=w.heap.size)(ho:∀c,c≠l.c->w'.heap[c]?=w.heap[c]?)(Q:w'.os=w.os)(I:w'.tape=w.tape)(h3:w'.output=w.output):
 RH (m.add H.next l') ((H.put r .dead).new o') w'/\Ex m (m.add H.next l') H ((H.put r .dead).new o') w w':=by
 have hn:=rh.Mh;have hle:=Mp.Zh (l:=l') hn;have hlow:=I9 H r .dead;have hrn:r≠H.next:=λe=>by have:=rh.dom r l hm;omega
 have BQ:∀k,((H.put r .dead).new o').obj k=if k=H.next then o' else if k=r then .dead else H.obj k:=by
  intro k;rw[yl];show(if k=H.next then o' else(H.put r .dead).obj k)=_;rw[vN]
 have amq:l.c<w.heap.size:=by obtain⟨_,g,_⟩:=rh.ok r l hm;exact oG g
 refine⟨⟨?_,?_,?_⟩,?_⟩
 .intro k lk hk;show k<H.next+1
  unfold Mp.add at hk;split at hk
  .omega
  .have:=rh.dom k lk hk;omega
 .intro k lk hk;rw[BQ];unfold Mp.add at hk;split at hk
  .next e=>
   cases hk;rw[if_pos e];exact⟨JH,by rw[y];exact hb,hok.mono hle⟩
  .next e=>
   rw[if_neg e];obtain⟨ob1,g1,g2⟩:=rh.ok k lk hk
   by_cases hcc:lk.c=l.c
   .refine⟨JH,by rw[hcc];exact hb,?_⟩
    by_cases hkr:k=r
    .rw[if_pos hkr];trivial
    .rw[if_neg hkr]
     by_cases hdd:H.obj k=.dead
     .rw[hdd];trivial
     .exact absurd (rh.sep k r lk l hk hm hdd hd hcc) hkr
   .refine⟨ob1,by rw[ho _ hcc];exact g1,?_⟩;split
    .trivial
    .exact g2.mono hle
 .intro k1 k2 l1 l2 hk1 hk2 hd1 hd2 hcc;rw[BQ]at hd1 hd2;unfold Mp.add at hk1 hk2
  by_cases e1:k1=H.next<;>by_cases e2:k2=H.next
  .rw[e1,e2]
  .rw[if_pos e1]at hk1;cases hk1;rw[if_neg e2]at hk2 hd2
   by_cases hkr:k2=r
   .rw[if_pos hkr]at hd2;exact absurd O hd2
   .rw[if_neg hkr]at hd2;exact absurd (rh.sep k2 r l2 l hk2 hm hd2 hd<|by rw[<-hcc,y]) hkr
  .rw[if_pos e2]at hk2;cases hk2;rw[if_neg e1]at hk1 hd1
   by_cases hkr:k1=r
   .rw[if_pos hkr]at hd1;exact absurd O hd1
   .rw[if_neg hkr]at hd1;exact absurd (rh.sep k1 r l1 l hk1 hm hd1 hd<|by rw[hcc,y]) hkr
  .rw[if_neg e1]at hk1 hd1;rw[if_neg e2]at hk2 hd2
   by_cases ah9:k1=r
   .rw[if_pos ah9]at hd1;exact absurd O hd1
   .by_cases aia:k2=r
    .rw[if_pos aia]at hd2;exact absurd O hd2
    .rw[if_neg ah9]at hd1;rw[if_neg aia]at hd2;exact rh.sep k1 k2 l1 l2 hk1 hk2 hd1 hd2 hcc
 .refine⟨hle,?_,?_,Q,I,h3,by rw[hs];exact az _,?_,iG _,hlow.2,?_,?_⟩
  .intro k lk hk h0;unfold Mp.add at hk;split at hk
   .next e=>omega
   .rw[h0]at hk;cases hk
  .intro k lk hk h0 hlt;unfold Mp.add at hk;split at hk
   .next e=>cases hk;exact⟨r,l,hm,y.symm,hlow.1⟩
   .rw[h0]at hk;cases hk
  .intro c hcl hk;apply ho;intro e;have:=hk r l hm e.symm;have h9:((H.put r .dead).new o').low<=r:=hlow.1;omega
  .intro k g1 g2;have h9:((H.put r .dead).new o').low<=r:=hlow.1;rw[BQ,if_neg N,if_neg N]
  .intro k g1 g2;rw[BQ,if_neg N,if_neg (by intro e;subst e;rw[hm]at g2;cases g2)]
def RH.kill(rh:RH m H w)(r:Nat)(hm:m r≠W):RH m (H.put r .dead) w/\Ex m m H (H.put r .dead) w w:=by
 have hlow:=I9 H r .dead;refine⟨⟨rh.dom,?_,?_⟩,{Ex.refl m H w with next:=az _,low:=hlow.2,vF:=?_,hid:=?_,keep:=λ_ _ _=>rfl,fresh:=λr l h h'=>absurd (h.symm.trans h') (by simp)}⟩
 .intro k lk hk;obtain⟨o,g1,g2⟩:=rh.ok k lk hk;refine⟨o,g1,?_⟩;rw[vN];split
  .trivial
  .exact g2
 .intro k1 k2 l1 l2 hk1 hk2 hd1 hd2 y;rw[vN]at hd1 hd2;split at hd1
  .exact absurd O hd1
  .split at hd2
   .exact absurd O hd2
   .exact rh.sep k1 k2 l1 l2 hk1 hk2 hd1 hd2 y
 .intro k g1 g2;rw[vN,if_neg N]
 .intro k g1 g2;rw[vN,if_neg (by intro e;subst e;exact hm g2)]
def NG(rh:RH m H w)(hold:kT m old old')(hvs:kT m vs vs')(hol:old.length=ln*sz)(hvl:vs.length=k*sz)(hcap:ln+k<=cap)(hrest:rest.length=(cap-(ln+k))*sz)(hs:1<=sz):
 ∃m',VR m' (.slice (Z ⟨H.next,0,W⟩) (ln+k)<|fI sz) (.slice (Z ⟨w.heap.size,0,W⟩) (ln+k) cap)/\
  RH m' (H.new<|rowOf e<|old++vs) (w.alloc<|.cells ⟨old'++vs'++rest⟩ e)/\Ex m m' H (H.new<|rowOf e<|old++vs) w (w.alloc<|.cells ⟨old'++vs'++rest⟩ e):=by
 have hov:kT m (old++vs) (old'++vs'):=hold.append hvs;have hlen:(old++vs).length=(ln+k)*sz:=by rw[aQ,hol,hvl,gM]
 have hlen':(old'++vs').length=(ln+k)*sz:=by rw[<-hov.length,hlen]
 have htot:(old'++vs'++rest).length=cap*sz:=by
  rw[aQ,hlen',hrest,<-gM];congr 1;omega
 have hmul:(ln+k)*sz<=cap*sz:=eU _ hcap
 have hok:uE m ⟨w.heap.size,0,0,cap*sz,(ln+k)*sz⟩ (rowOf e<|old++vs) (.cells ⟨old'++vs'++rest⟩ e):=by
  refine⟨⟨O,O⟩,by show len (old++vs)=_;rw[fQ,hlen],htot,bg _,?_,?_,?_⟩
  .show 0+(len (old++vs)-0)<=cap*sz;rw[fQ,hlen];omega
  .intro _;exact bg _
  .intro i a b;have b:i<len (old++vs):=b;rw[fQ]at b;rw[show(Tr.sD top (old++vs) 0 .nil).get top i=(old++vs).getD i top from by rw[Tr.lV,if_pos N];rfl];have hgi:(old++vs)[i]?=Z ((old++vs).getD i top):=by rw[bC,au b];rfl
   obtain⟨rg,Q,I⟩:=hov.get i hgi;refine⟨rg,?_,I⟩;simp only[uw,aW,jT];rw[bJ (by rw[hlen',<-hlen];exact b)];exact Q
 have:=rh.alloc (rowOf e<|old++vs) (.cells ⟨old'++vs'++rest⟩ e) 0 0 (cap*sz) ((ln+k)*sz) hok;refine⟨_,?_,this.1,this.2⟩;have R:=VR.rW (m:=m.add H.next ⟨w.heap.size,0,0,cap*sz,(ln+k)*sz⟩) H.next 0 (ln+k) sz cap ⟨w.heap.size,0,0,cap*sz,(ln+k)*sz⟩ (by simp[Mp.add]) (az _) hs (by simp) hcap (by simp;exact hmul)
 exact R
end mem
section mem
variable{P:aS}
def JN(c b off lo k:Nat)(hl:lo<=off):(⟨c,b+(off-lo),W⟩:Addr).add k=⟨c,b+(off+k-lo),W⟩:=by
 unfold Addr.add;split
 .next h0=>rw[h0,dD]
 .simp only[Addr.mk.injEq,true_and,xw];omega
theorem Ml(rh:RH m H w)(r:Nat)(hm:m r≠W){H':Tr D}{off fz:Nat}(hold:kT m old old')(hvs:kT m vs vs')(hol:old.length=ln*sz)(hvl:vs.length=k*sz)(hC:∀j,j<ln*sz->old[j]?=Z (H'.get top<|off+j))(hcap:ln+k<=cap)(hrest:rest.length=(cap-(ln+k))*sz)(hs:1<=sz):
 ∃m',VR m' (.slice (Z ⟨H.next,off,W⟩) (ln+k)<|fI sz) (.slice (Z ⟨w.heap.size,0,W⟩) (ln+k) cap)/\
  RH m' ((H.put r .dead).new<|.row ⟨e,Tr.sD top vs (off+ln*sz) H',off+(ln+k)*sz,aA,fz⟩) (w.alloc<|.cells ⟨old'++vs'++rest⟩ e)/\
  Ex m m' H ((H.put r .dead).new<|.row ⟨e,Tr.sD top vs (off+ln*sz) H',off+(ln+k)*sz,aA,fz⟩) w (w.alloc<|.cells ⟨old'++vs'++rest⟩ e):=by
 obtain⟨rk,ek⟩:=rh.kill r hm;have hlen':old'.length=ln*sz:=by rw[<-hold.length,hol]
 have Ll:vs'.length=k*sz:=by rw[<-hvs.length,hvl]
 have hmk:(ln+k)*sz=ln*sz+k*sz:=gM ..
 have htot:(old'++vs'++rest).length=cap*sz:=by
  rw[aQ,aQ,hlen',Ll,hrest,<-gM,<-gM];congr 1;omega
 have hmul:(ln+k)*sz<=cap*sz:=eU _ hcap
 have hok:uE m ⟨w.heap.size,off,0,cap*sz,off+(ln+k)*sz⟩ (.row ⟨e,Tr.sD top vs (off+ln*sz) H',off+(ln+k)*sz,aA,fz⟩) (.cells ⟨old'++vs'++rest⟩ e):=by
  refine⟨⟨O,O⟩,O,htot,nR _ _,?_,?_,?_⟩
  .show 0+(off+(ln+k)*sz-off)<=cap*sz;omega
  .intro _;exact bg _
  .intro i a b;have b:i<off+(ln+k)*sz:=b;have a:off<=i:=a;simp only[uw,aW];rw[Tr.lV,bP]
   by_cases hin:off+ln*sz<=i/\i<off+ln*sz+vs.length
   .rw[if_pos hin]
    have hgi:vs[i-(off+ln*sz)]?=Z (vs.getD (i-(off+ln*sz)) top):=by
     rw[bC,au N];rfl
    obtain⟨rg,Q,I⟩:=hvs.get _ hgi;refine⟨rg,?_,I⟩;rw[dS N,hlen',bJ N,show i-off-ln*sz=i-(off+ln*sz)from by omega];exact Q
   .rw[if_neg hin];have hi:i-off<ln*sz:=by omega
    have h0:=hC (i-off) hi;rw[show off+(i-off)=i from by omega]at h0;obtain⟨rg,Q,I⟩:=hold.get _ h0;refine⟨rg,?_,I⟩;rw[bJ N];exact Q
 have:=rk.alloc _ (.cells ⟨old'++vs'++rest⟩ e) off 0 (cap*sz) (off+(ln+k)*sz) hok;refine⟨_,?_,this.1,ek.trans this.2⟩
 have R:=VR.rW (m:=m.add (H.put r .dead).next ⟨w.heap.size,off,0,cap*sz,off+(ln+k)*sz⟩) H.next off (ln+k) sz cap ⟨w.heap.size,off,0,cap*sz,off+(ln+k)*sz⟩ (by
  show(if H.next=H.next then _ else _)=_;rw[if_pos O]) (az _) hs (by simp) hcap (by show off+(ln+k)*sz<=off+cap*sz;omega)
 simpa using R
def WR(rh:RH m H w){off:Nat}{hr:Row}(hm:m r=Z l)(hR:H.obj r=.row hr)(hse:hr.kR=aA)(hlo:l.lo<=off)(hvs:kT m vs vs')(hvl:vs.length=k*sz)(hok:vs.all fB=f)(hle:off+ln*sz<=hr.n)(hfz:hr.fz<=off+ln*sz)(ht:l.base+(off-l.lo)+cc*sz=l.tot)(y:ln+k<=cc)(hs:1<=sz):
 ∃m' w',(storeCells ⟨l.c,l.base+(off+ln*sz-l.lo),W⟩ vs').run P w=.ok () w'/\
  VR m' (.slice (Z ⟨H.next,off,W⟩) (ln+k)<|fI sz) (.slice (Z ⟨l.c,l.base+(off-l.lo),W⟩) (ln+k) cc)/\
  RH m' ((H.put r .dead).new<|.row ⟨hr.ty,Tr.sD top vs (off+ln*sz) hr.cells,off+(ln+k)*sz,aA,hr.fz⟩) w'/\
  Ex m m' H ((H.put r .dead).new<|.row ⟨hr.ty,Tr.sD top vs (off+ln*sz) hr.cells,off+(ln+k)*sz,aA,hr.fz⟩) w w':=by
 obtain⟨E,fr,hb,hnn,I,h3,h4,h5,h6⟩:=row_of rh hm hR;have Ll:vs'.length=k*sz:=by rw[<-hvs.length,hvl]
 have hmk:(ln+k)*sz=ln*sz+k*sz:=gM ..
 have hmul:(ln+k)*sz<=cc*sz:=eU _ y
 obtain⟨w',cs',e1,e2,e3,e4,e5,e6,e7,e8,e9⟩:=yO (P:=P) l.c (l.base+(off+ln*sz-l.lo)) hr.ty fr vs' 0 E w hb (Ch hvs hok) N
  (λj a b d=>by have:=h5 hse;omega)
 have hu:=RH.ado rh r l ⟨l.c,l.lo,l.base,l.tot,off+(ln+k)*sz⟩ (.row ⟨hr.ty,Tr.sD top vs (off+ln*sz) hr.cells,off+(ln+k)*sz,aA,hr.fz⟩) (.cells cs' hr.ty fr) hm (by rw[hR];simp) O ?_ e2 e6 e5 e7 e8 e9
 .refine⟨_,w',e1,?_,hu.1,hu.2⟩;exact VR.rW (m:=m.add H.next ⟨l.c,l.lo,l.base,l.tot,off+(ln+k)*sz⟩) H.next off (ln+k) sz cc ⟨l.c,l.lo,l.base,l.tot,off+(ln+k)*sz⟩ (by simp[Mp.add]) hlo hs ht y (by show off+(ln+k)*sz<=off+cc*sz;omega)
 .refine⟨⟨O,base_of (l:=l) rh hm hR⟩,O,by rw[e3];exact I,?_,?_,λ_=>h5 hse,?_⟩
  .show l.lo<=off+(ln+k)*sz;omega
  .show l.base+(off+(ln+k)*sz-l.lo)<=l.tot;omega
  .intro i a b;have b:i<off+(ln+k)*sz:=b;have a:l.lo<=i:=a;show∃v,cs'[l.base+(i-l.lo)]?=Z v/\VR m ((Tr.sD top vs (off+ln*sz) hr.cells).get top i) v;rw[Tr.lV]
   by_cases hin:off+ln*sz<=i/\i<off+ln*sz+vs.length
   .have hgi:vs[i-(off+ln*sz)]?=Z (vs.getD (i-(off+ln*sz)) top):=by
     rw[bC,au N];rfl
    obtain⟨rg,hu1,hu2⟩:=hvs.get _ hgi;refine⟨rg,?_,by rw[if_pos hin];exact hu2⟩;rw[e4,if_pos N,show l.base+(i-l.lo)-(l.base+(off+ln*sz-l.lo)+0)=i-(off+ln*sz)from by omega];exact hu1
   .obtain⟨rg,hu1,hu2⟩:=h6 i a N;refine⟨rg,?_,by rw[if_neg hin];exact hu2⟩;rw[e4,if_neg N];exact hu1
end mem
section mem
variable{P:aS}
theorem WT(rh:RH m H w)(h:C8 P ats args H=Z (v,C))(ha:kT m args args'):
 wz P m H w (kH ⟨ats⟩ ty ⟨args'⟩) v C:=by
 obtain⟨t,ht,h⟩:=aI h;obtain⟨t2,ht2,h⟩:=aI h;obtain⟨s,hs,h⟩:=aI h;obtain⟨x,J,h⟩:=aI h;obtain⟨q,hq,h⟩:=aI h;obtain⟨p,hp,h⟩:=aI h;obtain⟨e,he,h⟩:=aI h;obtain⟨hk,h⟩:=fH h;rw[om]at ht ht2 hs J;have hk:=aD hk;obtain⟨hu,hsz1,i,z0,zs,d2,hi,hsz,hz0,hzc,hzl,hzs,hu2,hd2,hb,hb1⟩:=adn hq;obtain⟨s',hs0,hss⟩:=ha.get 0 hs;obtain⟨x',hx0,Le⟩:=ha.get 1 J;rw[wO hp]at hss hs;obtain⟨base,ln,cp⟩:=p;obtain⟨k,vs⟩:=e;simp only at hss hs hk;obtain⟨hlen,vs',hvs,Ll,hnew⟩:=Cj (P:=P) rh he Le;obtain⟨_,vsd,WU,akN,Zo⟩:=Cj (P:=P) rh.drew he Le;have hvl:vs.length=k*q.2:=by rw[hvs.length];exact Ll
 simp only at hlen hvs Ll hnew WU akN Zo;cases k with
 |zero=>
  replace h:Z (s,H)=Z (v,C):=h;have hv1:v=s/\C=H:=by cases h;exact⟨O,O⟩
  rw[hv1.1,hv1.2,wO hp];simp only;have hv0:vs'=[]:=gK (by rw[Ll,iP]);subst hv0;cases base with
  |none=>
   obtain⟨e1,e2,e3⟩:=hss.uC;subst e1 e2 e3;exact⟨m,_,w,Pj hs0 hx0 (by simpa using ht) (by simpa using ht2) hu hu2 hd2 hi hlen (by rw[<-hsz]at hnew;exact hnew),hss,rh,Ex.refl _ _ _⟩
  |some a=>
   rcases hss.of_slice with⟨lc,cc,hm,hlo,hsp,e1,hcap⟩|⟨a',e1,e2,e3⟩
   .subst e1
    have hcc:ln+0<=cc:=by
     rcases hcap with⟨_,Q,I⟩|⟨_,_,_,_,Q,_⟩<;>omega
    exact⟨m,_,w,xC (vs':=[]) hs0 hx0 (by simpa using ht) (by simpa using ht2) hu hu2 hd2 hi hcc hlen (by rw[hsz];exact hnew)<|by simp[storeCells],hss,rh,Ex.refl _ _ _⟩
   .subst e1 e3;exact⟨m,_,w,xC (vs':=[]) hs0 hx0 (by simpa using ht) (by simpa using ht2) hu hu2 hd2 hi (az _) hlen (by rw[hsz];exact hnew)<|by simp[storeCells],hss,rh,Ex.refl _ _ _⟩
 |succ k=>
  have grow:∀(base':Option Addr)(ln' cc:Nat)(adp:List D),args'[0]?=Z (.slice base' ln' cc)->ln'<=16777216->cc<ln'+(k+1)->
   (dM q.2 ln'<|.slice base' ln' cc).run P w.drew=.ok ⟨adp⟩ w.drew->
   ∃cap rest,ln'+(k+1)<=cap/\rest.length=(cap-(ln'+(k+1)))*q.2/\
    (kH ⟨ats⟩ ty ⟨args'⟩).run P w=.ok (.slice (Z ⟨w.drew.heap.size,0,W⟩) (ln'+(k+1)) cap) (w.drew.alloc<|.cells ⟨adp++vsd++rest⟩ q.1):=by
   intro base' ln' cc adp h0 Q I h3;rw[<-hsz]at h3 Zo;have:=Zm (P:=P) (w:=w) (ty:=ty) (old:=adp) (vs':=vsd) h0 hx0 (by simpa using ht) (by simpa using ht2) hu hu2 hd2 hi hz0 hzc hzl hb hb1 Q hk I hlen h3 Zo;rw[hsz]at this;exact this
  cases base with
  |none=>
   obtain⟨e1,e2,e3⟩:=hss.uC;subst e1 e2 e3;replace h:(gd (ay 0 0&&ay 0 0)<|Z<|xQ q.1 q.2 (k+1) vs H)=Z (v,C):=h;obtain⟨hg,h⟩:=fH h;cases h;obtain⟨cap,rest,c1,c2,c3⟩:=grow W 0 0 [] hs0 N N (by simp[dM]);obtain⟨m',g1,g2,g3⟩:=NG (e:=q.1) (ln:=0) (old:=[]) (old':=[]) (vs:=vs) (vs':=vsd) (rest:=rest) (k:=k+1) (cap:=cap) (sz:=q.2) rh.drew .nil WU (by simp) hvl c1 c2 hsz1;rw[aW]at g1 c3;exact⟨m',_,_,c3,g1,g2,(Ex.drew m H w).trans g3⟩
  |some a=>
   replace h:(gd (aB ln 16777216)<|bR (gD cp) (xA q a ln cp (k+1) vs H)<|gd (ay cp<|fI q.2)<|sP q a ln cp (k+1) vs H)=Z (v,C):=h;obtain⟨hln,h⟩:=fH h;have hln:=aD hln;cases hkc:gD cp with
   |true=>
    rw[hkc]at h
    replace h:(bR (aB (aV ln<|k+1) cp)
     (aK (H.write a.block (aV a.off<|bL ln q.2) vs) λC=>Z (.slice (Z a) (aV ln<|k+1) cp,C))
     (aK (H.read a.block a.off<|bL ln q.2) λold=>Z<|xQ q.1 q.2 (aV ln<|k+1) (app old vs) H))=Z (v,C):=h
    rcases hss.of_slice with⟨lc,cc,hm,hlo,hsp,e1,hcap⟩|⟨a',e1,e2,e3⟩
    .subst e1
     obtain⟨rfl,amr⟩:cc=cp/\ln<=cp:=by
      rcases hcap with⟨_,Q,I⟩|⟨es,Q,_⟩
      .exact⟨Q,I⟩
      .exact absurd Q<|Dc hkc
     by_cases hroom:ln+(k+1)<=cc
     .rw[show aB (aV ln<|k+1) cc=f from aH hroom]at h;replace h:(aK (H.write a.block (aV a.off<|bL ln q.2) vs) λC=>Z (T (Z a) (aV ln<|k+1) cc,C))=Z (v,C):=h;obtain⟨H1,hH1,h⟩:=aI h;cases h;obtain⟨w',r1,r2,r3⟩:=Ci (P:=P) rh hH1 hvs hm<|aX hlo<|nR _ _;refine⟨m,_,w',xC (vs':=vs') hs0 hx0 (by simpa using ht) (by simpa using ht2) hu hu2 hd2 hi hroom hlen (by rw[hsz];exact hnew) (by rw[JN _ _ _ _ _ hlo,hsz];exact r1),?_,r2,r3⟩;obtain⟨ab,ao,asp⟩:=a;simp only at hsp hm hlo;subst hsp;exact VR.slice ab ao (ln+(k+1)) cc lc hm hlo hkc hroom
     .rw[show aB (aV ln<|k+1) cc=aA from by rw[<-bY];exactλhh=>hroom<|aD hh]at h;replace h:(aK (H.read a.block a.off<|bL ln q.2) λold=>Z<|xQ q.1 q.2 (aV ln<|k+1) (app old vs) H)=Z (v,C):=h;obtain⟨old,hold,h⟩:=aI h;cases h;obtain⟨old',o1,o2,o3⟩:=ym (P:=P) rh.drew hold hm hlo;obtain⟨cap,rest,c1,c2,c3⟩:=grow _ ln cc old' hs0 hln N (by simp only[dM];exact o3);obtain⟨m',g1,g2,g3⟩:=NG (e:=q.1) (ln:=ln) (vs:=vs) (vs':=vsd) (rest:=rest) (k:=k+1) (cap:=cap) (sz:=q.2) rh.drew o1 WU (by rw[o1.length];exact o2) hvl c1 c2 hsz1;rw[qd];exact⟨m',_,_,c3,g1,g2,(Ex.drew m H w).trans g3⟩
    .subst e1 e3
     have hcp:cp=0:=by
      rcases e2 with Q|⟨es,l,Q,_⟩
      .exact Q
      .exact absurd Q<|Dc hkc
     subst hcp;rw[show aB (aV 0<|k+1) 0=aA from by rw[<-bY];intro hh;have:=aD hh;simp at this]at h;replace h:(aK (H.read a.block a.off<|bL 0 q.2) λold=>Z<|xQ q.1 q.2 (aV 0<|k+1) (app old vs) H)=Z (v,C):=h;rw[show bL 0 q.2=0 from iP _]at h;replace h:Z (xQ q.1 q.2 (aV 0<|k+1) (app [] vs) H)=Z (v,C):=h;cases h;obtain⟨cap,rest,c1,c2,c3⟩:=grow _ 0 0 [] hs0 N N (by simp[dM,loadCells,loadCellsFrom]);obtain⟨m',g1,g2,g3⟩:=NG (e:=q.1) (ln:=0) (old:=[]) (old':=[]) (vs:=vs) (vs':=vsd) (rest:=rest) (k:=k+1) (cap:=cap) (sz:=q.2) rh.drew .nil WU (by simp) hvl c1 c2 hsz1;exact⟨m',_,_,c3,g1,g2,(Ex.drew m H w).trans g3⟩
   |false=>
    rw[hkc]at h;replace h:(gd (ay cp<|fI q.2)<|sP q a ln cp (k+1) vs H)=Z (v,C):=h;obtain⟨I8,h⟩:=fH h;have I8:=aT I8;obtain⟨hr,hR,h⟩:=aI h;obtain⟨hgR,h⟩:=fH h;have G6:=tu hR;simp only[aZ]at hgR;have hRt:hr.ty=q.1:=aT hgR.1
    by_cases hin:a.off+(ln+(k+1))*q.2<=hr.n
    .rw[show aB (aV a.off<|bL (aV ln<|k+1) q.2) hr.n=f from aH hin]at h;replace h:(aK (H.write a.block (aV a.off<|bL ln q.2) vs) λC=>Z (T (Z a) (aV ln<|k+1) cp,C))=Z (v,C):=h;obtain⟨H1,hH1,h⟩:=aI h;cases h;rcases hss.of_slice with⟨lc,cc,hm,hlo,hsp,e1,hcap⟩|⟨a',e1,e2,e3⟩
     .subst e1
      obtain⟨es,Q,I,h3,h4,h5⟩:∃es,cp=fI es/\0<es/\lc.base+(a.off-lc.lo)+cc*es=lc.tot/\ln<=cc/\lc.n<=a.off+cc*es:=by
       rcases hcap with⟨Q,_⟩|Q
       .rw[hkc]at Q;cases Q
       .exact Q
      have hes:es=q.2:=by
       rw[I8]at Q;have h1':18446744073709551616+q.2=18446744073709551616+es:=Q;omega
      subst hes;obtain⟨_,_,_,hnn,_⟩:=row_of rh hm G6
      have hroom:ln+(k+1)<=cc:=by
       rw[hnn]at hin;exact qU (c:=q.2) N I
      obtain⟨w',r1,r2,r3⟩:=Ci (P:=P) rh hH1 hvs hm<|aX hlo<|nR _ _;refine⟨m,_,w',xC (vs':=vs') hs0 hx0 (by simpa using ht) (by simpa using ht2) hu hu2 hd2 hi hroom hlen (by rw[hsz];exact hnew) (by rw[JN _ _ _ _ _ hlo,hsz];exact r1),?_,r2,r3⟩;obtain⟨ab,ao,asp⟩:=a;simp only at hsp hm hlo h3 h5;subst hsp;rw[I8];exact VR.rW ab ao (ln+(k+1)) q.2 cc lc hm hlo I h3 hroom h5
     .subst e1
      obtain⟨es,l,Q,I,h3,h4,h5,h6⟩:∃es l,cp=fI es/\m a.block=Z l/\l.lo<=a.off/\0<es/\l.n<=a.off/\a.spot=W:=by
       rcases e2 with Q|Q
       .rw[Q]at hkc;simp[gD]at hkc
       .exact Q
      obtain⟨_,_,_,hnn,_⟩:=row_of rh I G6;have:1*1<=(0+(k+1))*q.2:=gN N hsz1;omega
    .rw[show aB (aV a.off<|bL (aV ln<|k+1) q.2) hr.n=aA from by rw[<-bY];exactλhh=>hin<|aD hh]at h
     replace h:(gd (aB (aV a.off<|bL ln q.2) hr.n&&aB hr.fz (aV a.off<|bL ln q.2)&&all' fB vs)
      (Z (T (Z ⟨H.next,a.off,W⟩) (aV ln<|k+1) cp,
      (H.put a.block .dead).new (.row ⟨hr.ty,Tr.sD top vs (aV a.off<|bL ln q.2) hr.cells,aV a.off<|bL (aV ln<|k+1) q.2,aA,hr.fz⟩))))=Z (v,C):=h
     obtain⟨hg,h⟩:=fH h;cases h;simp only[aZ,all_eq]at hg;have hg1:a.off+ln*q.2<=hr.n:=aD hg.1.1;have hg2:hr.fz<=a.off+ln*q.2:=aD hg.1.2;have hg3:=hg.2;rcases hss.of_slice with⟨lc,cc,hm,hlo,hsp,e1,hcap⟩|⟨a',e1,e2,e3⟩
     .subst e1
      obtain⟨es,Q,I,h3,h4,h5⟩:∃es,cp=fI es/\0<es/\lc.base+(a.off-lc.lo)+cc*es=lc.tot/\ln<=cc/\lc.n<=a.off+cc*es:=by
       rcases hcap with⟨Q,_⟩|Q
       .rw[hkc]at Q;cases Q
       .exact Q
      have hes:es=q.2:=by
       rw[I8]at Q;have h1':18446744073709551616+q.2=18446744073709551616+es:=Q;omega
      subst hes
      by_cases hroom:ln+(k+1)<=cc
      .obtain⟨m',w',r1,r2,r3,r4⟩:=WR (P:=P) rh (ln:=ln) hm G6 (by simpa using hgR.2) hlo hvs hvl hg3 hg1 hg2 h3 hroom hsz1;rw[I8];exact⟨m',_,w',xC (vs':=vs') hs0 hx0 (by simpa using ht) (by simpa using ht2) hu hu2 hd2 hi hroom hlen (by rw[hsz];exact hnew) (by rw[JN _ _ _ _ _ hlo,hsz];exact r1),r2,r3,r4⟩
      .have hrd:H.read a.block a.off (ln*q.2)=Z (Tr.DX top hr.cells a.off<|ln*q.2):=by
        cases hz:ln*q.2 with
        |zero=>rfl
        |succ n=>
         show(aK (vE<|H.obj a.block) λw=>gd (aB (aV a.off<|n+1) w.n)<|Z<|Tr.DX top w.cells a.off<|n+1)=_;rw[hR];show(gd (aB (aV a.off<|n+1) hr.n) _)=_;rw[show aB (aV a.off<|n+1) hr.n=f from aH (by rw[<-hz];exact hg1)];rfl
       obtain⟨old',o1,o2,o3⟩:=ym (P:=P) rh.drew hrd hm hlo;obtain⟨cap,rest,c1,c2,c3⟩:=grow _ ln cc old' hs0 hln N (by simp only[dM];exact o3);obtain⟨m',g1,g2,g3⟩:=Ml (e:=hr.ty) (fz:=hr.fz) (off:=a.off) (H':=hr.cells) (ln:=ln) (vs:=vs) (vs':=vsd) (rest:=rest) (k:=k+1) (cap:=cap) (sz:=q.2) rh.drew a.block (by rw[hm];simp) o1 WU (by rw[o1.length];exact o2) hvl (λj hj=>UC _ _ _ _ _ hj) c1 c2 hsz1;rw[I8,<-hRt]at*;exact⟨m',_,_,c3,g1,g2,(Ex.drew m H w).trans g3⟩
     .have hm0:m a.block≠W:=by
       rcases e2 with Q|⟨es,l,Q,I,_⟩
       .rw[Q]at hkc;simp[gD]at hkc
       .rw[I];simp
      subst e1 e3;obtain⟨cap,rest,c1,c2,c3⟩:=grow _ 0 0 [] hs0 N N (by simp[dM,loadCells,loadCellsFrom]);obtain⟨m',g1,g2,g3⟩:=Ml (e:=hr.ty) (fz:=hr.fz) (off:=a.off) (H':=hr.cells) (old:=[]) (old':=[]) (ln:=0) (vs:=vs) (vs':=vsd) (rest:=rest) (k:=k+1) (cap:=cap) (sz:=q.2) rh.drew a.block hm0 .nil WU (by simp) hvl (λj hj=>by omega) c1 c2 hsz1;rw[I8];rw[<-hRt]at c3;exact⟨m',_,_,c3,g1,g2,(Ex.drew m H w).trans g3⟩
end mem
section mem
variable{P:aS}
def WV(rh:RH m H w){e:Nat×List D}(h:appended H sz x=Z e)(J:VR m x x'):
 (∀w,(kG x').run P w=.ok e.1 w)/\∃vs',kT m e.2 vs'/\vs'.length=e.1*sz/\∀n,n<=e.1->(dM sz n x').run P w=.ok ⟨vs'.take<|n*sz⟩ w:=by
 refine⟨(Cj (P:=P) rh h J).1,?_⟩;unfold appended at h;cases hs:tC x with
 |some s=>
  rw[hs]at h;replace h:(gd (ay sz 1)<|Z (len s.data.toList,oM s.data.toList))=Z e:=h;obtain⟨hg,h⟩:=fH h;cases h;have hg:=aT hg;subst hg;rw[o9 hs]at J;have:=J.vL;subst this;refine⟨oM s.data.toList,kT.mU<|G_ _,by rw[wR];simp[fQ],?_⟩;intro n hn;have hd:(s.extract 0 n).data=s.data.extract 0 n:=by rw[pG]
  simp only[dM];rw[hd,wR,dz];show Result.ok _ w=Result.ok _ w;congr 1;rw[<-iW];simp
 |none=>
  rw[hs]at h
  replace h:(aK (Iz x) λp=>@aN Addr (λ_=>Option<|Nat×List D) (gd (ay p.2.1 0)<|Z (0,[]))
   (λa=>aK (H.read a.block a.off<|bL p.2.1 sz) λl=>Z (p.2.1,l)) p.1)=Z e:=h
  obtain⟨p,hp,h⟩:=aI h;rw[wO hp]at J;obtain⟨pa,n,cp⟩:=p;cases pa with
  |none=>
   obtain⟨Q,I,rfl⟩:=J.uC;replace h:(gd (ay n 0)<|Z (0,([]:List D)))=Z e:=h;obtain⟨hg,h⟩:=fH h;cases h;exact⟨[],.nil,by simp,λn hn=>by simp[dM]⟩
  |some a=>
   replace h:(aK (H.read a.block a.off<|bL n sz) λl=>Z (n,l))=Z e:=h;obtain⟨l,hl,h⟩:=aI h;cases h;simp only at J;rcases J.of_slice with⟨lc,cc,hm,hlo,hsp,rfl,_⟩|⟨a',e1,e2,rfl⟩
   .obtain⟨vs',Q,I,h3⟩:=EY rh hl hm hlo;refine⟨vs',Q,I,?_⟩;intro k hk;simp only[dM]
    have hkl:(vs'.take<|k*sz).length=k*sz:=by
     rw[eH,I];exact iT<|eU _ hk
    rw[show k*sz=(vs'.take<|k*sz).length from hkl.symm];rw[hkl]
    have:=run_loadCells_list (P:=P) w ⟨lc.c,lc.base+(a.off-lc.lo),W⟩ (vs'.take<|k*sz) (λj v hj=>h3 j v (by
     rw[iU]at hj;split at hj
     .exact hj
     .cases hj))
    rw[hkl]at this;exact this
   .subst e1;have hz:bL 0 sz=0:=iP sz;rw[hz]at hl;cases hl;refine⟨[],.nil,by simp,?_⟩;intro n hn;have:n=0:=by simpa using hn
    subst this;simp[dM,loadCells,loadCellsFrom]
def adq(rh:RH m H w)(h:L9 P ats args H=Z (v,C))(ha:kT m args args'):
 wz P m H w (Builtin.copy_ ⟨ats⟩ ty ⟨args'⟩) v C:=by
 obtain⟨t,ht,h⟩:=aI h;obtain⟨d,hd,h⟩:=aI h;obtain⟨x,J,h⟩:=aI h;obtain⟨q,hq,h⟩:=aI h;obtain⟨p,hp,h⟩:=aI h;obtain⟨e,he,h⟩:=aI h;rw[om]at ht hd J;obtain⟨hu,⟨i,hi,hsz⟩,hs1⟩:=AP hq;obtain⟨d',hd0,hdd⟩:=ha.get 0 hd;obtain⟨x',hx0,Le⟩:=ha.get 1 J;rw[wO hp]at hdd;obtain⟨base,ln,cp⟩:=p;obtain⟨k,vs⟩:=e;obtain⟨hlen,vs',hvs,hvl,Sc⟩:=WV (P:=P) rh he Le;simp only at hdd hlen hvs hvl Sc;have hat:(⟨ats⟩:Array aG)[0]?=Z t:=by simpa using ht
 have ha0:(⟨args'⟩:Array D)[0]?=Z d':=by simpa using hd0
 have ha1:(⟨args'⟩:Array D)[1]?=Z x':=by simpa using hx0
 cases base with
 |none=>
  obtain⟨e1,e2,e3⟩:=hdd.uC;subst e1 e2 e3;replace h:(gd (ay 0 0)<|Z (bV .i64 0,H))=Z (v,C):=h;obtain⟨hg,h⟩:=fH h;cases h;have hf:=Sc 0<|bg _;refine⟨m,_,w,?_,.sc _ O,rh,Ex.refl _ _ _⟩;have hmin:Nat.min k 0=0:=Nat.min_zero k;simp[Builtin.copy_,hat,ha0,ha1,eY hu,hlen,jJ hi,hsz,hmin,hf,goInt]
 |some a=>
  replace h:(aK (H.write a.block a.off<|tk (bL (bR (aB k ln) k ln) q.2) vs) λC=>Z (bV .i64<|.ofNat<|bR (aB k ln) k ln,C))=Z (v,C):=h
  have hb:bR (aB k ln) k ln=Nat.min k ln:=by
   by_cases hh:k<=ln
   .rw[show aB k ln=f from aH hh];exact(iT hh).symm
   .rw[show aB k ln=aA from by rw[<-bY];exactλg=>hh<|aD g];exact(uf<|Nat.le_of_not_le hh).symm
  rw[hb,GV]at h;obtain⟨H1,hH1,h⟩:=aI h;cases h;have hf:=Sc (Nat.min k ln)<|Nat.min_le_left _ _;have hvt:kT m (vs.take<|bL (Nat.min k ln) q.2) (vs'.take<|Nat.min k ln*q.2):=hvs.take _;rcases hdd.of_slice with⟨lc,cc,hm,hlo,hsp,rfl,_⟩|⟨a',e1,e2,rfl⟩
  .obtain⟨w',r1,r2,r3⟩:=Ci (P:=P) rh hH1 hvt hm hlo;refine⟨m,_,w',?_,.sc _ O,r2,r3⟩;simp only[Builtin.copy_,hat,ha0,ha1,cB,eY hu,bN,hlen,jJ hi,hsz,hf,r1,dF];rfl
  .subst e1;have hz:bL (Nat.min k 0) q.2=0:=by rw[show Nat.min k 0=0 from Nat.min_zero k];exact iP _
   rw[hz]at hH1
   have hz9:C=H:=by
    replace hH1:Z H=Z C:=hH1;cases hH1;rfl
   subst hz9;refine⟨m,_,w,?_,.sc _ O,rh,Ex.refl _ _ _⟩;have hz':Nat.min k 0*q.2=0:=hz;simp only[Builtin.copy_,hat,ha0,ha1,cB,eY hu,bN,hlen,jJ hi,hsz,hf,hz',j3,storeCells,dF];rfl
def Zp(rh:RH m H w)(h:F8 P ats args H=Z (v,C))(ha:kT m args args'):
 wz P m H w (Builtin.clear_ ⟨ats⟩ ty ⟨args'⟩) v C:=by
 obtain⟨t,ht,h⟩:=aI h;obtain⟨d,hd,h⟩:=aI h;obtain⟨q,hq,h⟩:=aI h;obtain⟨z,hz,h⟩:=aI h;obtain⟨p,hp,h⟩:=aI h;rw[om]at ht hd;obtain⟨hu,⟨inf,hi,hsz⟩,hs1⟩:=AP hq;obtain⟨i,z0,hi',hz0,Zg,hlen,hs⟩:=yz hz;rw[hi]at hi';cases hi';obtain⟨d',hd0,hdd⟩:=ha.get 0 hd;rw[wO hp]at hdd;obtain⟨base,ln,cp⟩:=p;have hat:(⟨ats⟩:Array aG)[0]?=Z t:=by simpa using ht
 have ha0:(⟨args'⟩:Array D)[0]?=Z d':=by simpa using hd0
 have hv:VR m (.tuple #[]) (.tuple #[]):=.tuple [] [] .nil;cases base with
 |none=>
  obtain⟨e1,e2,e3⟩:=hdd.uC;subst e1 e2 e3;replace h:Z ((.tuple #[]:D),H)=Z (v,C):=h;cases h;refine⟨m,_,w,?_,hv,rh,Ex.refl _ _ _⟩;simp[Builtin.clear_,hat,ha0,eY hu]
 |some a=>
  replace h:(aK (H.write a.block a.off<|oL z ln) λC=>Z ((.tuple #[]:D),C))=Z (v,C):=h;obtain⟨H1,hH1,h⟩:=aI h;cases h;have hzc:z0.cells=⟨z⟩:=by rw[Zg]
  have hvr:kT m (oL z ln) (oL z ln):=kT.mU (m:=m)<|Gb hs ln
  have hzs:Builtin.zeroCells z0.cells ln=⟨oL z ln⟩:=by
   rw[hzc];exact JI z ln
  rcases hdd.of_slice with⟨lc,cc,hm,hlo,hsp,rfl,_⟩|⟨a',e1,e2,rfl⟩
  .obtain⟨w',r1,r2,r3⟩:=Ci (P:=P) rh hH1 hvr hm hlo;refine⟨m,_,w',?_,hv,r2,r3⟩;cases ln with
   |zero=>
    have hw:w'=w:=by
     have r1:(storeCells ⟨lc.c,lc.base+(a.off-lc.lo),W⟩ ([]:List D)).run P w=.ok () w':=r1;simp[storeCells]at r1;exact r1.symm
    subst hw;simp[Builtin.clear_,hat,ha0,eY hu]
   |succ ln=>
    simp only[Builtin.clear_,hat,ha0,cB,eY hu,bN,yL hi hz0,hzs,r1,dF]
  .subst e1
   have hz9:C=H:=by
    replace hH1:Z H=Z C:=hH1;cases hH1;rfl
   subst hz9;refine⟨m,_,w,?_,hv,rh,Ex.refl _ _ _⟩;simp[Builtin.clear_,hat,ha0,eY hu]
end mem
section mem
variable{P:aS}
def WW(f0:∀ats ty n c w,(av ats ty #[.slice W n c]).run P w=.ok (.pointer W) w)(f1:∀ats ty a n c w,(av ats ty #[.slice (Z a) n (c+1)]).run P w=.ok (.pointer<|Z a) w)(rh:RH m H w){ats:Array aG}(h:EU args H=Z (v,C))(ha:kT m args args'):
 wz P m H w (av ats ty ⟨args'⟩) v C:=by
 obtain⟨hl,h⟩:=fH h;obtain⟨x,J,h⟩:=aI h;obtain⟨p,hp,h⟩:=aI h;rw[om]at J;rw[fQ]at hl;have hl:=aT hl;obtain⟨x',hx0,Le⟩:=ha.get 0 J;have hl':args'.length=1:=by rw[<-ha.length,hl]
 have he:args'=[x']:=by
  match args',hl',hx0 with
  |[hc],_,h0=>cases h0;rfl
 subst he;rw[wO hp]at Le;obtain⟨base,ln,cp⟩:=p;cases base with
 |none=>
  obtain⟨e1,e2,e3⟩:=Le.uC;subst e1 e2 e3;replace h:Z (tN W,H)=Z (v,C):=h;cases h;exact⟨m,_,w,f0 ats ty 0 0 w,.sc _ O,rh,Ex.refl _ _ _⟩
 |some a=>
  replace h:(gd (aB 1 ln||(gD cp&&aB 1 cp))<|Z (tN<|Z a,H))=Z (v,C):=h;obtain⟨hg,h⟩:=fH h;cases h;simp only[jN,aZ]at hg;rcases Le.of_slice with⟨lc,cc,hm,hlo,hsp,e1,hcap⟩|⟨a',e1,e2,e3⟩
  .subst e1
   have hcc:cc≠0:=by
    rcases hcap with⟨h0,Q,I⟩|⟨es,Q,I,h3,h4,h5⟩
    .simp only at Q I;rcases hg with g|g
     .have:=aD g;omega
     .have:=aD g.2;omega
    .rcases hg with g|g
     .have:=aD g;simp only at h4;omega
     .exact absurd Q<|Dc g.1
   refine⟨m,_,w,(by obtain⟨k,rfl⟩:∃k,cc=k+1:=⟨cc-1,N⟩;exact f1 ats ty _ _ k w),?_,rh,Ex.refl _ _ _⟩;obtain⟨ab,ao,asp⟩:=a;simp only at hsp hm hlo;subst hsp;exact VR.ptr ab ao lc hm hlo
  .exfalso;simp only at e1 e2;subst e1;rcases hg with g|g
   .simp at g
   .rcases e2 with Q|⟨es,l,Q,_⟩
    .subst Q;simp at g
    .exact absurd Q<|Dc g.1
theorem Lm(w:bW)(e:aG)(s:ByteArray):
 Lib.bytesWorld w e s=w.drew.alloc (.cells (jw w e s) e ((jw w e s).size,(jw w e s).size+1)):=by
 unfold Lib.bytesWorld World.freeze;rw[if_neg N];unfold World.alloc;congr 1;apply rR;intro i;rw[iM];have hd:w.drew.heap=w.heap:=rfl;simp only[hd]
 by_cases hi:w.heap.size=i
 .subst hi;simp
 .rw[if_neg hi];rw[n_,n_,if_neg<|oJ hi,if_neg<|oJ hi]
def Pk(rh:RH m H w){d:aG}{rg:eZ}(h:DZ P q x H=Z (v,C))(J:VR m x x')(hs:P.underlying s=Z rg)(hd:P.underlying d=Z (.slice q.1)):wz P m H w (convert s d x') v C:=by
 obtain⟨b,hb,h⟩:=aI h;obtain⟨hg,h⟩:=fH h;cases h;simp only[aZ]at hg;rw[o9 hb]at J;have:=J.vL;subst this;have hrun:=Lib.run_convert_string_bytes (P:=P) w s d q.1 b hs hd<|O9 hg.2;rw[Lm]at hrun;have hsz:b.size=b.data.toList.length:=rfl;have hcap:b.size<=grownCap w b.size 0 q.1:=by simp[grownCap,Question.cut]
 have hcs:(jw w q.1 b).size=grownCap w b.size 0 q.1:=by
  simp[jw];have:b.data.size=b.size:=rfl;omega
 have hok:uE m ⟨w.drew.heap.size,0,0,grownCap w b.size 0 q.1,b.size⟩ (.row ⟨q.1,Tr.sD top (oM b.data.toList) 0 .nil,len b.data.toList,f,0⟩)
  (.cells (jw w q.1 b) q.1 ((jw w q.1 b).size,(jw w q.1 b).size+1)):=by
  refine⟨⟨O,O⟩,by rw[fQ];rfl,hcs,bg _,?_,?_,?_⟩
  .show 0+(len b.data.toList-0)<=_;rw[fQ,<-hsz];simpa using hcap
  .intro hh;cases hh
  .intro i a c;have c:i<len b.data.toList:=c;rw[fQ]at c;show∃v,(jw w q.1 b)[0+(i-0)]?=Z v/\VR m ((Tr.sD top (oM b.data.toList) 0 .nil).get top i) v;have hbl:(oM b.data.toList).length=b.data.toList.length:=by rw[wR];simp
   rw[Tr.lV,if_pos N,wR];have hi:i<b.data.size:=by simpa using c
   refine⟨.int .u8 b.data[i].toNat,?_,?_⟩
   .have hi':i<b.size:=hi;simp[jw,Array.getElem?_append,hi,hi']
   .rw[bC];have hg:((b.data.toList.map λb=>bV .u8 b.toNat)[i]?.getD top)=bV .u8 b.data[i].toNat:=by simp[bq hi]
    rw[jT,hg];exact .sc _ O
 have:=rh.drew.alloc _ _ 0 0 (grownCap w b.size 0 q.1) b.size hok;refine⟨_,_,_,hrun,?_,this.1,(Ex.drew m H w).trans this.2⟩
 have R:=VR.rW (m:=m.add H.next ⟨w.drew.heap.size,0,0,grownCap w b.size 0 q.1,b.size⟩) H.next 0 b.size 1 (grownCap w b.size 0 q.1) ⟨w.drew.heap.size,0,0,grownCap w b.size 0 q.1,b.size⟩
  (by simp[Mp.add]) (az _) N (by simp) hcap (by simpa using hcap)
 rw[fQ,<-hsz];exact R
theorem Mm:∀{l l':List D}{bs:List UInt8},q_ l=Z bs->kT m l l'->l'=bs.map (λb=>bV .u8 b.toNat):=by
 intro l
 induction l with
 |nil=>intro l' bs h hv;cases hv;cases h;rfl
 |cons x l ih=>
  intro l' bs h hv;replace h:(aK (sK x) λp=>aK (Jq p.2) λn=>gd (IA p.1&&aB n 255)<|aK (q_ l) λbs=>Z<|jb n::bs)=Z bs:=h;obtain⟨p,hp,h⟩:=aI h;obtain⟨n,hn,h⟩:=aI h;obtain⟨hg,h⟩:=fH h;obtain⟨r,R,h⟩:=aI h;cases h;cases hv with
  |cons _ v' _ t' Q I=>
   simp only[aZ]at hg;have hle:=aD hg.2;rw[pY hp]at Q;have:=Q.of_int;subst this
   have hk:p.1=.u8:=by
    have:=hg.1;cases hp1:p.1<;>rw[hp1]at this<;>first|rfl|(simp[IA]at this)
   rw[ih R I,hk,Nq hn];simp;omega
def Pm(rh:RH m H w){d:aG}(h:D3 P q x H=Z (v,C))(J:VR m x x')(hs:P.underlying s=Z (.slice q.1))(hd:P.underlying d=Z .string):wz P m H w (convert s d x') v C:=by
 obtain⟨p,hp,h⟩:=aI h;obtain⟨hg,h⟩:=fH h;simp only[aZ]at hg;have hu8:=O9 hg.2;rw[wO hp]at J;obtain⟨base,ln,cp⟩:=p;cases base with
 |none=>
  obtain⟨e1,e2,e3⟩:=J.uC;subst e1 e2 e3;replace h:Z (fO ⟨⟨[]⟩⟩,H)=Z (v,C):=h;cases h;refine⟨m,_,w,?_,.sc _ O,rh,Ex.refl _ _ _⟩;rw[run_convert_bytes_string w s d q.1 W 0 0 hs hu8 hd];rfl
 |some a=>
  replace h:(aK (H.read a.block a.off ln) λl=>aK (q_ l) λbs=>Z (fO ⟨⟨bs⟩⟩,H))=Z (v,C):=h;obtain⟨l,hl,h⟩:=aI h;obtain⟨bs,hbs,h⟩:=aI h;cases h;rcases J.of_slice with⟨lc,cc,hm,hlo,hsp,e1,hcap⟩|⟨a',e1,e2,e3⟩
  .subst e1;obtain⟨vs',Q,I,h3⟩:=EY rh hl hm hlo;have he:=Mm hbs Q;have hln:bs.length=ln:=by rw[<-I,he];simp
   refine⟨m,_,w,?_,.sc _ O,rh,Ex.refl _ _ _⟩;simp only;rw[<-hln]
   exact run_convert_bytes_back w s d q.1 _ cc bs hs hu8 hd (λj hj=>by
    apply h3 j;rw[he];simp[hj])
  .simp only at e1;subst e1 e3;replace hl:Z ([]:List D)=Z l:=hl;cases hl;cases hbs;refine⟨m,_,w,?_,.sc _ O,rh,Ex.refl _ _ _⟩;exact run_convert_bytes_back w s d q.1 _ 0 [] hs hu8 hd (λj hj=>by simp at hj)
end mem
section mem
variable{P:aS}
def JO(rh:RH m H w){hr:Row}(hm:m r=Z l)(ho:H.obj r=.row hr):w.shape? l.c=Z (hr.ty,l.tot):=by
 obtain⟨E,fr,hb,_,I,_⟩:=row_of rh hm ho;simp[World.shape?,hb,I]
def JP{s:aG×Nat}(h:w.shape? a.block=Z s):(Conv.seenAt a).run P w=.ok a w:=by
 simp[Conv.seenAt,viewAt,h]
def UH(hu:ET du=f):∃(SH:aG->aG->eZ->eZ->D->Sem D)(aa:aG->aG->eZ->eZ->D->Sem D)(cs:Addr->aG->Sem D),
 (∀s d x,convert s d x=do let a<-underlying s;let b<-underlying d;SH s d a b x)/\
 (∀s d e x,SH s d (.pointer e) du x=do let p<-underlying s;let q<-underlying d;aa s d p q x)/\
 (∀s d e x,SH s d du (.pointer e) x=do let p<-underlying s;let q<-underlying d;aa s d p q x)/\
 (∀s d e a,aa s d (.pointer e) du (.pointer<|Z a)=do
  let z<-Conv.seenAt a
  let nothing:=match<-cellsIn z.block with
   |some cells=>z.off>=cells&&z.spot.isNone
   |none=>aA
  if(<-sizeOf e)=0||nothing then pure (.pointer<|Z ⟨<-newObj (.view z e),0,W⟩)else
  pure (.pointer<|Z z))/\
 (∀s d rg a,aa s d du (.pointer rg) (.pointer<|Z a)=do
  let a<-Conv.seenAt a
  if(<-sizeOf rg)=0||(<-variablesAt a rg 1)then pure (.pointer<|Z a)
  else cs a rg):=by
 cases du<;>first|(replace hu:aA=f:=hu;cases hu;done)|exact⟨_,_,_,λ_ _ _=>rfl,λ_ _ _ _=>rfl,λ_ _ _ _=>rfl,λ_ _ _ _=>rfl,λ_ _ _ _=>rfl⟩
def Gc(rh:RH m H w){d:aG}(h:Jw P e x H=Z (v,C))(J:VR m x x')(hs:P.underlying s=Z (.pointer e))(hu:ET du=f)(hd:P.underlying d=Z du):wz P m H w (convert s d x') v C:=by
 obtain⟨a,ha,h⟩:=aI h;obtain⟨sz,hsz,h⟩:=aI h;obtain⟨hr,hR,h⟩:=aI h;obtain⟨hg,h⟩:=fH h;cases h;have hx0:=J;rw[o8 ha]at J;have G6:=tu hR;obtain⟨l,hm,hlo,hsp,rfl⟩:=J.sS;simp only[aZ]at hg;have g1:=aD hg.1;have g2:a.off+1<=hr.n:=aD hg.2;obtain⟨i,hi,hsz⟩:=qN hsz;have hsh:=JO rh hm G6;obtain⟨E,fr,hb,hnn,I,h3,h4,h5,h6⟩:=row_of rh hm G6;refine⟨m,_,w,?_,hx0,rh,Ex.refl _ _ _⟩;have hse:=JP (P:=P) (w:=w) (a:=⟨l.c,l.base+(a.off-l.lo),W⟩) hsh;have hoff:¬(l.tot<=l.base+(a.off-l.lo)):=by omega
 have hsz0:i.size≠0:=by omega
 obtain⟨SH,aa,cs,c1,c2,c3,c4,c5⟩:=UH hu;rw[c1];simp only[cB,eY hs,eY hd,bN,c2,c4];simp[hse,cellsIn,hsh,jJ hi,hsz0,hoff]
def Mo{s:Nat}(y:P.cellsOf e=s)(hs:1<=s)(count off n:Nat)(hm:off %s=0)(hn:off/s+n<=count):liesAt P P.depth e count off e n=f:=by
 have hd:P.depth=(2*(P.types.size+Made.depth)+1)+1:=rfl;rw[hd];simp only[liesAt,jN];left;rw[hd];have hs0:s≠0:=by omega
 simp[rowAt,y,hn,hm,hs0,sameLayout]
def EZ(h:P.info? t=Z i):P.cellsOf t=i.size:=by
 simp[Program.cellsOf,h]
def Gd(rh:RH m H w){d:aG}(h:Jy P e x H=Z (v,C))(J:VR m x x')(hu:ET du=f)(hs:P.underlying s=Z du)(hd:P.underlying d=Z (.pointer e)):wz P m H w (convert s d x') v C:=by
 obtain⟨a,ha,h⟩:=aI h;obtain⟨sz,hsz,h⟩:=aI h;obtain⟨hr,hR,h⟩:=aI h;obtain⟨hg,h⟩:=fH h;cases h;have hx0:=J;rw[o8 ha]at J;have G6:=tu hR;obtain⟨l,hm,hlo,hsp,rfl⟩:=J.sS;simp only[aZ]at hg;have g1:=aD hg.1.1.1;have g2:hr.ty=e:=aT hg.1.1.2;have g3:=aT hg.1.2;have g4:=aD hg.2;obtain⟨i,hi,hsz⟩:=qN hsz;have hsh:=JO rh hm G6;have hbase:=base_of rh hm G6;obtain⟨E,fr,hb,hnn,I,h3,h4,h5,h6⟩:=row_of rh hm G6;refine⟨m,_,w,?_,hx0,rh,Ex.refl _ _ _⟩;have hoff:l.base+(a.off-l.lo)=0:=by omega
 rw[hoff];have hse:=JP (P:=P) (w:=w) (a:=⟨l.c,0,W⟩) hsh;have y:P.cellsOf e=sz:=by rw[EZ hi,hsz]
 have hl:=Mo (P:=P) y g1 (l.tot/sz) 0 1 (Nat.zero_mod _) (by
  rw[Nat.zero_div];have:sz<=l.tot:=by omega
  have:=Nat.div_pos this N;omega)
 rw[g2]at hsh;obtain⟨SH,aa,cs,c1,c2,c3,c4,c5⟩:=UH hu;rw[c1];simp only[cB,eY hs,eY hd,bN,c3,c5];simp[hse,variablesAt,hsh,jJ hi,y,hl]
end mem
section mem
variable{P:aS}
def WX{o:Nat}{fr:Nat×Nat}(h:w.heap[c]?=Z (.cells E ty fr))(hn:n≠0):
 (w.freeze ⟨c,o,W⟩ n).heap[c]?=Z (.cells E ty (if fr.1==fr.2 then(o,o+n)else(min fr.1 o,max fr.2<|o+n))):=by
 unfold World.freeze;rw[if_neg hn];simp[iM,h]
def WY{o:Nat}(h:c'≠c):(w.freeze ⟨c,o,W⟩ n).heap[c']?=w.heap[c']?:=by
 unfold World.freeze;split
 .rfl
 .simp[iM,oJ h]
def Po:(w.freeze a n).heap.size=w.heap.size:=by
 unfold World.freeze;split
 .rfl
 .simp
def WZ{w:bW}{a:Addr}{n:Nat}:(w.freeze a n).os=w.os/\(w.freeze a n).tape=w.tape/\(w.freeze a n).output=w.output:=by
 unfold World.freeze;split<;>exact⟨O,O,O⟩
def aib(av:Array aG->aG->Array D->Sem D):Prop:=∃(E2 E3:Sem Unit)(E1 E4 E5:Sem D),∀(ats:Array aG)(ty:aG)(q:Option Addr)(k:fu)(z:Int),av ats ty #[.pointer q,.int k z]=
    (do
     let n<-asInt (.int k z)
     let Z pt:=ats[0]?|E1
     if n<0 then E2
     if n>IntKind.i64.max then E3
     match q with
     |none=>
      if n=0 then pure (.string .empty)
      else E4
     |some a=>
      if n=0 then pure (.string .empty)
      else if<-variablesAt a (<-elemOf pt) n.toNat then do
       let s<-loadBytes a .empty n.toNat
       freeze a n.toNat
       pure (.string s)
      else E5)
theorem Pp(hf:aib av)(rh:RH m H w)(h:wL P ats args H=Z (v,C))(ha:kT m args args'):
 wz P m H w (av ⟨ats⟩ ty ⟨args'⟩) v C:=by
 obtain⟨E2,E3,E1,E4,E5,hdef⟩:=hf;obtain⟨hl,h⟩:=fH h;obtain⟨pt,hpt,h⟩:=aI h;obtain⟨p,hp,h⟩:=aI h;obtain⟨nv,hnv,h⟩:=aI h;obtain⟨n,hn,h⟩:=aI h;rw[om]at hpt hp hnv;rw[fQ]at hl;have hl:=aT hl;obtain⟨p',hp0,hpp⟩:=ha.get 0 hp;obtain⟨n',hn0,hnn⟩:=ha.get 1 hnv;have hl':args'.length=2:=by rw[<-ha.length,hl]
 have he:args'=[p',n']:=by
  match args',hl',hp0,hn0 with
  |[hc,z],_,h0,Q=>cases h0;cases Q;rfl
 subst he;obtain⟨k,rfl⟩:=C_ hn;have:=hnn.of_int;subst this;have hat:(⟨ats⟩:Array aG)[0]?=Z pt:=by simpa using hpt
 have hmax:IntKind.i64.max=9223372036854775807:=rfl;have hdef:=hdef ⟨ats⟩ ty;cases n with
 |zero=>
  replace h:(gd (ay (qY p).1 1)<|Z (fO ⟨⟨[]⟩⟩,H))=Z (v,C):=h;obtain⟨hg,h⟩:=fH h;cases h;have hg:=aT hg;have hv:=hpp.qY N
  have:∃a,p'=.pointer a:=by
   rcases D8 (x:=p') (by rw[hv];omega)with Q|⟨_,_,_,_,Q⟩|⟨_,_,Q⟩|⟨_,_,_,_,Q⟩|⟨_,Q⟩|⟨_,_,_,Q⟩|⟨_,Q⟩
   .obtain⟨a,Q,_⟩:=Q;exact⟨a,Q⟩
   all_goals(rw[hv]at Q;rw[Q]at hg;simp at hg)
  obtain⟨a,rfl⟩:=this;refine⟨m,_,w,?_,.sc _ O,rh,Ex.refl _ _ _⟩;cases a with
  |none=>rw[hdef];simp[hat,asInt,asIntOf,hmax];rfl
  |some a=>rw[hdef];simp[hat,asInt,asIntOf,hmax];rfl
 |succ n=>
  replace h:(aK (qg p) λa=>Uv P pt a (n+1) H)=Z (v,C):=h;obtain⟨a,hav,h⟩:=aI h;obtain⟨d,hd,h⟩:=aI h;obtain⟨e,he,h⟩:=aI h;obtain⟨s,hs,h⟩:=aI h;obtain⟨hr,hR,h⟩:=aI h;obtain⟨hg,h⟩:=fH h;obtain⟨bs,hbs,h⟩:=aI h;cases h;rw[o8 hav]at hpp;obtain⟨l,hm,hlo,hsp,rfl⟩:=hpp.sS;have G6:=tu hR;simp only[aZ]at hg;obtain⟨⟨⟨⟨g1,g2⟩,g3⟩,g4⟩,g5⟩:=hg;have g2:hr.ty=e:=aT g2;have g3:s=1:=aT g3;have g4:a.off+(n+1)<=hr.n:=aD g4;have g5:=aD g5;have hpe:P.underlying pt=Z (.pointer e):=by rw[hd,I5 he]
  obtain⟨i,hi,hsz⟩:=qN hs;have y:P.cellsOf e=1:=by rw[EZ hi,hsz,g3]
  have hsh:=JO rh hm G6;rw[g2]at hsh;obtain⟨E,fr,hb,hrn,I,h3,h4,h5,h6⟩:=row_of rh hm G6
  have hrd:H.read a.block a.off (n+1)=Z (Tr.DX top hr.cells a.off<|n+1):=by
   show(aK (vE<|H.obj a.block) λw=>gd (aB (aV a.off<|n+1) w.n)<|Z<|Tr.DX top w.cells a.off<|n+1)=_;rw[hR];show(gd (aB (aV a.off<|n+1) hr.n) _)=_;rw[show aB (aV a.off<|n+1) hr.n=f from aH g4];rfl
  obtain⟨vs',r1,r2,r3⟩:=EY rh hrd hm hlo;have hvs:=Mm hbs r1;have hbl:bs.length=n+1:=by rw[<-r2,hvs];simp
  have hlb:=Lib.run_loadBytes (P:=P) w bs ⟨l.c,l.base+(a.off-l.lo),W⟩ .empty λj x hj=>r3 j _ (by rw[hvs];simp[hj]);rw[hbl]at hlb;have hlies:=Mo (P:=P) y (az _) l.tot (l.base+(a.off-l.lo)) (n+1) (Nat.mod_one _) (by rw[Nat.div_one];omega)
  have BQ:uE m l (.row ⟨hr.ty,hr.cells,hr.n,hr.kR,bR (aB hr.fz<|aV a.off<|n+1) (aV a.off<|n+1) hr.fz⟩)
   (.cells E hr.ty (if fr.1==fr.2 then(l.base+(a.off-l.lo),l.base+(a.off-l.lo)+(n+1))else(min fr.1<|l.base+(a.off-l.lo),max fr.2<|l.base+(a.off-l.lo)+(n+1)))):=by
   refine⟨⟨O,base_of rh hm G6⟩,hrn,I,h3,h4,?_,h6⟩;intro hse;have h5:=h5 hse
   have hfz:bR (aB hr.fz<|aV a.off<|n+1) (aV a.off<|n+1) hr.fz=max hr.fz (a.off+(n+1)):=by
    by_cases hh:hr.fz<=a.off+(n+1)
    .rw[show aB hr.fz (aV a.off<|n+1)=f from aH hh];exact(Nat.max_eq_right hh).symm
    .rw[show aB hr.fz (aV a.off<|n+1)=aA from by rw[<-bY];exactλg=>hh<|aD g];exact(uV<|Nat.le_of_not_le hh).symm
   show _<=l.base+(bR (aB hr.fz<|aV a.off<|n+1) (aV a.off<|n+1) hr.fz-l.lo);rw[hfz];split
   .simp only;omega
   .simp only;omega
  have hfo:=@WZ w ⟨l.c,l.base+(a.off-l.lo),W⟩<|n+1;have:=RH.update rh a.block l _ _ hm (by rw[G6];simp) BQ (WX (o:=l.base+(a.off-l.lo)) hb<|Nat.succ_ne_zero n) Po (λc y=>WY y) hfo.1 hfo.2.1 hfo.2.2;refine⟨m,_,w.freeze ⟨l.c,l.base+(a.off-l.lo),W⟩<|n+1,?_,.sc _ O,this.1,this.2⟩;have hneg:¬((n+1:Nat):Int)<0:=by omega
  have h63:¬((9223372036854775807:Int)<((n+1:Nat):Int)):=by omega
  have hne:((n+1:Nat):Int)≠0:=by omega
  have akO:((n+1:Nat):Int).toNat=n+1:=by omega
  rw[hdef];simp only[asInt,asIntOf,cB,dF,bN,hat,hmax,hneg,h63,hne,kD,gt_iff_lt,variablesAt,hsh,elemOf,eY hpe,run_program,run_shape,akO,y,Nat.div_one,hlies,kE,hlb,run_freeze];have hbe:ByteArray.empty.data++bs.toArray=(⟨bs⟩:Array UInt8):=by rw[<-iW];simp
  rw[hbe]
end mem
end Go.Ae
