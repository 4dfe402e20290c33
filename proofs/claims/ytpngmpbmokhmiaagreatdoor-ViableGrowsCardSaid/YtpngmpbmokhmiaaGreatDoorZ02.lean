/-
  Part 02 of the proof. No condition.
-/
import Derived.Test.YtpngmpbmokhmiaaGreatDoorZ01
set_option linter.unusedVariables false
set_option linter.unusedSimpArgs false
set_option maxRecDepth 100000
set_option maxHeartbeats 4000000
set_option linter.defProp false
open Option renaming some->D,none->Q,rec->aM
open Bool renaming true->f,false->aC
open Go renaming Value->Z,TypeId->aH,Program->aU,World->bY,IntKind->fB,TypeDesc->fu
open Go.Value renaming int->bX,slice->I,string->fT,pointer->uy,agg->Sg
open Nat renaming beq->aA,ble->aD,add->aZ,mul->bO,sub->dJ
open UInt8 renaming ofNat->jd
open Go.Sem renaming run_bind->dw,run_pure->dI
open Go.Result renaming andThen_ok->bR
open Go.Instr renaming sureAddr->jD,sliceAt->kM,checkKey->ja,findNow->lT
open Go.ByteArray renaming toList_eq->iq
open List renaming replicate->aX
open Go.Builtin renaming len_->kF,lenOf->kN,firstCells->dP,append_->kP
open Go.Lib renaming bytesCells->jE
noncomputable section
namespace Go.Ae
variable{w w':bY}{e kt s t t2 ty:aH}{m m':Mp}{k' v v' x x' hr y':Z}{H T:R}{l:Loc}{args args' old old' rest vs vs' z zs:C Z}{ats:C aH}{es:C (Z×Z)}{ay:Array aH->aH->Array Z->Sem Z}{i:TypeInfo}{c c' cap cc cp h k ln mm n r sz:Nat}{a:Addr}{q:aH×Nat}{hi hi' lo lo' mx Va:aB Z}{zV l':C MapEntry}{o ob:Obj}{M:Array Z}{d d2 du:fu}{ps ps':C (Nat×Z)}{α:Type}{b ok:Bool}
section ops
variable{P:aU}
inductive OR(m:Mp):aB Z->aB Z->Prop where
 |nn:OR m Q Q
 |ss (v v':Z) (h:VR m v v'):OR m (D v) (D v')
def Xm{o:aB Z}{d:Nat}(h:nP o d=D n):(o=Q/\n=d)\/∃k,o=D (.int k n):=by
 cases o with
 |none=>cases h;exact .inl ⟨O,O⟩
 |some v=>
  have h:zK v=D n:=h;obtain⟨k,rfl⟩:=Dz h;exact .inr ⟨k,O⟩
def OR.nat{o o':aB Z}{d:Nat}(ho:OR m o o')(h:nP o d=D n):(o'=Q/\o=Q/\n=d)\/∃k,o'=D (.int k n)/\o=D (.int k n):=by
 rcases Xm h with⟨rfl,rfl⟩|⟨k,rfl⟩
 .cases ho;exact .inl ⟨O,O,O⟩
 .cases ho with
  |ss _ v' hv=>have:=hv.of_int;subst this;exact .inr ⟨k,O,O⟩
def DI{k:fB}{hr:Nat}{code:BoundsCode}(h:n<=hr):(Instr.sliceBound (.int k n) hr code).run P w=.ok n w:=by
 have:(n:Int)<=hr:=N;simp[Instr.sliceBound,asIntOf,this,h]
theorem Bv{isS:Bool}{l:Nat}(hlo:OR m lo lo')(hhi:OR m hi hi')(hmx:OR m mx Va)(el:nP lo 0=D l)(eh:nP hi ln=D h)(em:nP mx cp=D mm)(W:l<=h)(J:h<=mm)(h3:mm<=cp)(h4:hi=Q->mx=Q):
 (Instr.sliceBounds isS ln cp lo' hi' Va).run P w=.ok (l,h,mm) w:=by
 rcases hlo.nat el with⟨rfl,_,rfl⟩|⟨k1,rfl,_⟩<;>rcases hhi.nat eh with⟨rfl,rfl,rfl⟩|⟨k2,rfl,rfl⟩<;>rcases hmx.nat em with⟨rfl,rfl,rfl⟩|⟨k3,rfl,rfl⟩
 all_goals first
  |(exfalso;have:=h4 O;cases this;done)
  |simp[Instr.sliceBounds,DI W,DI J,DI h3,DI<|a_ W J]
def DJ(l:Loc)(off k:Nat)(hl:l.lo<=off):(⟨l.c,l.base+(off-l.lo),Q⟩:Addr).add k=⟨l.c,l.base+(off+k-l.lo),Q⟩:=by
 unfold Addr.add;split
 .next h0=>rw[h0,dH]
 .congr 1;show l.base+(off-l.lo)+k=_;omega
def J_{o:aB α}(h:eZ o=f):o=Q:=by cases o<;>simp[eZ]at h;rfl
def ZK{s:aV}(hu:P.underlying t=D .string)(h:N_ s lo hi=D v)(hlo:OR m lo lo')(hhi:OR m hi hi'):
 VR m v v/\∀w,(kM t (.string s) lo' hi' Q).run P w=.ok v w:=by
 have⟨l,hl,h⟩:=aJ h;have⟨hh,Xn,h⟩:=aJ h;have⟨hg,h⟩:=fI h;cases h;simp only[bg,fU]at hg Xn;have W:=aF hg.1;have J:=aF hg.2;have hsz:s.size=s.data.toList.length:=rfl;refine⟨.sc _ O,λw=>?_⟩;have e:=Bv (P:=P) (isS:=aC) (ln:=s.size) (cp:=s.size) (w:=w) hlo hhi (OR.nn (m:=m)) hl Xn O W J (ax _) λ_=>rfl
 have e2:s.extract l hh=⟨⟨tk (hh-l)<|dp l s.data.toList⟩⟩:=by
  apply uf;rw[HY,ML];rw[pW,<-iZ,Array.toList_extract]
 simp[kM,Instr.slice,fq hu,e,e2]
def yX{l:Nat}(hu:P.underlying t=D (.slice e))(hi0:P.info? e=D i)(hlo:OR m lo lo')(hhi:OR m hi hi')(hmx:OR m mx Va)(el:nP lo 0=D l)(eh:nP hi ln=D h)(em:nP mx cp=D mm)(W:l<=h)(J:h<=mm)(h3:mm<=cp)(h4:hi=Q->mx=Q):
 (kM t (.slice (D a) ln cp) lo' hi' Va).run P w=.ok (.slice (D (if mm=l then a else a.add (l*i.size))) (h-l)<|mm-l) w:=by
 have e:=Bv (P:=P) (isS:=f) (w:=w) hlo hhi hmx el eh em W J h3 h4;simp only[kM,Instr.slice,dw,fq hu,bR,e,jU hi0,dI];split<;>simp
def adW{lv:Z}{p:aB Addr×Nat×Nat}(hq:PS P t=D q)(hp:I7 x=D p)(h:U6 q.2 p lo hi mx=D lv)(E:VR m x x')(hlo:OR m lo lo')(hhi:OR m hi hi')(hmx:OR m mx Va):
 ∃v',VR m lv v'/\∀w,(kM t x' lo' hi' Va).run P w=.ok v' w:=by
 have⟨hu,⟨inf,uX,hsz⟩,hq1⟩:=Bt hq;rw[xu hp]at E;have⟨pa,n,cp⟩:=p;simp only at E;cases pa with
 |none=>
  replace h:(aL (nP lo 0) λl=>aL (nP hi 0) λh=>aL (nP mx 0) λm=>gd (aA l 0&&aA h 0&&aA m 0&&aA n 0&&aA cp 0&&(!(eZ hi)||eZ mx))<|D<|.slice Q 0 0)=D lv:=h;have⟨l,hl,h⟩:=aJ h;have⟨hh,Xn,h⟩:=aJ h;have⟨mm,hmm,h⟩:=aJ h;have⟨hg,h⟩:=fI h;cases h;simp only[bg]at hg;have⟨⟨⟨⟨⟨g1,g2⟩,g3⟩,g4⟩,g5⟩,g6⟩:=hg;have g1:=aW g1;have g2:=aW g2;have g3:=aW g3;subst g1;subst g2;subst g3;obtain⟨_,_,rfl⟩:=E.uW;refine⟨.slice Q 0 0,.sc _ O,λw=>?_⟩
  have e:=Bv (P:=P) (isS:=f) (w:=w) hlo hhi hmx hl Xn hmm (ax _) (ax _) (ax _) (by
   intro e;rw[e]at g6;simp[eZ]at g6;cases mx with
   |none=>rfl
   |some _=>simp[eZ]at g6)
  simp[kM,Instr.slice,fq hu,e,jU uX]
 |some a=>
  replace h:(aL (nP lo 0) λl=>aL (nP hi n) λh=>
   bV (gH cp)
    (aL (nP mx cp) λm=>gd (aD l h&&aD h m&&aD m cp&&(!(eZ hi)||eZ mx))
     (D<|.slice (D ⟨a.block,uB m l a.off q.2,Q⟩) (dJ h l)<|dJ m l))
    (gd (aA cp<|fJ q.2) (@aM Z (λ_=>aB Z)
     (gd (aD l h&&aD h n)<|D<|.slice (D ⟨a.block,aZ a.off<|bO l q.2,Q⟩) (dJ h l) cp)
     (λmv=>aL (zK mv) λm=>gd (aD l h&&aD h m&&aD m n&&!(eZ hi)&&gH m)
      (D<|.slice (D ⟨a.block,uB m l a.off q.2,Q⟩) (dJ h l)<|dJ m l)) mx)))=D lv:=h
  have⟨l,hl,h⟩:=aJ h;have⟨hh,Xn,h⟩:=aJ h
  have alu:(!(eZ hi)||eZ mx)=f->hi=Q->mx=Q:=by
   intro g e;rw[e]at g;simp[eZ]at g;cases mx with
   |none=>rfl
   |some _=>simp[eZ]at g
  cases hk:gH cp with
  |true=>
   rw[hk]at h
   replace h:(aL (nP mx cp) λm=>gd (aD l hh&&aD hh m&&aD m cp&&(!(eZ hi)||eZ mx))
    (D<|I (D ⟨a.block,uB m l a.off q.2,Q⟩) (dJ hh l)<|dJ m l))=D lv:=h
   have⟨mm,hmm,h⟩:=aJ h;have⟨hg,h⟩:=fI h;cases h;simp only[bg]at hg;have⟨⟨⟨g1,g2⟩,g3⟩,g4⟩:=hg;have g1:=aF g1;have g2:=aF g2;have g3:=aF g3;have g4:=alu g4
   have hkc:gH (mm-l)=f:=by
    have:=aF hk;exact aI N
   rcases E.of_slice with⟨lc,cc,hm,hlo2,hsp,rfl,⟨_,rfl,_⟩|⟨es,e1,_⟩⟩|⟨a',e1,e2,rfl⟩
   .refine⟨_,?_,λw=>yX hu uX hlo hhi hmx hl Xn hmm g1 g2 g3 g4⟩;unfold uB
    by_cases hml:mm=l
    .rw[show aA mm l=f from by rw[jP];exact hml,if_pos hml];exact .slice _ _ _ _ lc hm hlo2 hkc (by show hh-l<=_-l;omega)
    .rw[show aA mm l=aC from by rw[<-b_,jP];exact hml,if_neg hml,hsz,DJ lc a.off _ hlo2];exact .slice _ _ _ _ lc hm (by show lc.lo<=a.off+l*q.2;omega) hkc (by show hh-l<=_-l;omega)
   .exact absurd e1<|DF hk
   .rcases e2 with e2|⟨es,_,e2,_⟩
    .subst e1;subst e2;have:mm=0:=N;subst this;have:hh=0:=N;subst this;have:l=0:=N;subst this;refine⟨_,?_,λw=>yX hu uX hlo hhi hmx hl Xn hmm g1 g2 g3 g4⟩;exact .wz _ _
    .exact absurd e2<|DF hk
  |false=>
   rw[hk]at h
   replace h:(gd (aA cp<|fJ q.2) (@aM Z (λ_=>aB Z)
    (gd (aD l hh&&aD hh n)<|D<|I (D ⟨a.block,aZ a.off<|bO l q.2,Q⟩) (dJ hh l) cp)
    (λmv=>aL (zK mv) λm=>gd (aD l hh&&aD hh m&&aD m n&&!(eZ hi)&&gH m)
     (D<|.slice (D ⟨a.block,uB m l a.off q.2,Q⟩) (dJ hh l)<|dJ m l)) mx))=D lv:=h
   have⟨Jy,h⟩:=fI h;have Jy:=aW Jy;cases mx with
   |none=>
    replace h:(gd (aD l hh&&aD hh n)<|D<|I (D ⟨a.block,aZ a.off<|bO l q.2,Q⟩) (dJ hh l) cp)=D lv:=h;have⟨hg,h⟩:=fI h;cases h;simp only[bg]at hg;have g1:=aF hg.1;have g2:=aF hg.2;cases hmx;rcases E.of_slice with⟨lc,cc,hm,hlo2,hsp,rfl,⟨hk2,rfl,_⟩|⟨es,e1,e0,e2,e3,e9⟩⟩|⟨a',e1,e2,rfl⟩
    .rw[hk2]at hk;cases hk
    .refine⟨_,?_,λw=>yX hu uX hlo hhi (OR.nn (m:=m)) hl Xn O g1 (a_ g2 e3) (ax _) λ_=>rfl⟩
     have hes:es=q.2:=by
      have:=e1.symm.trans Jy;unfold fJ at this;exact Nat.add_left_cancel this
     subst hes
     by_cases hml:cc=l
     .rw[if_pos hml];have e4:hh-l=0:=N;have e5:cc-l=0:=N;rw[show dJ hh l=0 from e4,e4,e5];rw[Jy];exact .um _ _ _ _ lc hm (by show lc.lo<=a.off+l*q.2;omega) e0 (by show lc.n<=a.off+l*q.2;rw[<-hml];exact e9)
     .rw[if_neg hml,hsz,DJ lc a.off _ hlo2,Jy];refine .sO _ _ _ _ _ lc hm (by show lc.lo<=a.off+l*q.2;omega) e0 ?_ (by show hh-l<=cc-l;omega) ?_;show lc.base+(a.off+l*q.2-lc.lo)+(cc-l)*q.2=lc.tot;rw[<-e2,Nat.sub_mul];have:l*q.2<=cc*q.2:=eY _ N;omega
      .show lc.n<=a.off+l*q.2+(cc-l)*q.2;rw[Nat.sub_mul];have:l*q.2<=cc*q.2:=eY _ N;omega
    .subst e1;refine⟨_,?_,λw=>yX hu uX hlo hhi (OR.nn (m:=m)) hl Xn O g1 N (ax _) λ_=>rfl⟩;have e3:hh-l=0:=N;have e4:0-l=0:=N;have e5:l=0:=N;rw[show dJ hh l=0 from e3,e3,e4];rcases e2 with e2|⟨es,l2,e2,f1,f2,f3,f4,f5⟩
     .subst e2;cases hk
     .rw[e2];exact .um _ _ _ _ l2 f1 (by show l2.lo<=a.off+l*q.2;rw[e5];omega) f3 (by show l2.n<=a.off+l*q.2;rw[e5];omega)
   |some mv=>
    replace h:(aL (zK mv) λm=>gd (aD l hh&&aD hh m&&aD m n&&!(eZ hi)&&gH m)
     (D<|I (D ⟨a.block,uB m l a.off q.2,Q⟩) (dJ hh l)<|dJ m l))=D lv:=h
    have⟨mm,hmm,h⟩:=aJ h;have⟨hg,h⟩:=fI h;cases h;simp only[bg]at hg;have⟨⟨⟨⟨g1,g2⟩,g3⟩,g4⟩,g5⟩:=hg;have g1:=aF g1;have g2:=aF g2;have g3:=aF g3;have g4:hi=Q->D mv=Q:=by intro e;rw[e]at g4;simp[eZ]at g4
    have hm0:∀c,nP (D mv) c=D mm:=λc=>hmm
    have hkc:gH (mm-l)=f:=by
     have:=aF g5;exact aI N
    rcases E.of_slice with⟨lc,cc,hm,hlo2,hsp,rfl,⟨hk2,rfl,_⟩|⟨es,e1,e0,e2,e3,e9⟩⟩|⟨a',e1,e2,rfl⟩
    .rw[hk2]at hk;cases hk
    .refine⟨_,?_,λw=>yX hu uX hlo hhi hmx hl Xn (hm0 _) g1 g2 (a_ g3 e3) g4⟩;unfold uB
     by_cases hml:mm=l
     .rw[show aA mm l=f from by rw[jP];exact hml,if_pos hml];exact .slice _ _ _ _ lc hm hlo2 hkc (by show hh-l<=_-l;omega)
     .rw[show aA mm l=aC from by rw[<-b_,jP];exact hml,if_neg hml,hsz,DJ lc a.off _ hlo2];exact .slice _ _ _ _ lc hm (by show lc.lo<=a.off+l*q.2;omega) hkc (by show hh-l<=_-l;omega)
    .subst e1;refine⟨_,?_,λw=>yX hu uX hlo hhi hmx hl Xn (hm0 _) g1 g2 g3 g4⟩;have:mm=0:=N;subst this;have:hh=0:=N;subst this;have:l=0:=N;subst this;exact .wz _ _
def ZL{q:Nat×aH×Nat}{lv:Z}(hq:PT P t=D q)(hp:qC x=D a)(h:Sy q.1 q.2.2 a lo hi mx=D lv)(E:VR m x x')(hlo:OR m lo lo')(hhi:OR m hi hi')(hmx:OR m mx Va):
 ∃v',VR m lv v'/\∀w,(kM t x' lo' hi' Va).run P w=.ok v' w:=by
 have⟨hu,⟨inf,uX,hsz⟩,hq1⟩:=Ju hq;rw[pN hp]at E;obtain⟨lc,hm,hlo2,hsp,rfl⟩:=E.tV;have⟨l,hl,h⟩:=aJ h;have⟨hh,Xn,h⟩:=aJ h;have⟨hg,h⟩:=fI h;cases h;simp only[bg]at hg;have⟨⟨⟨g1,g2⟩,g3⟩,g4⟩:=hg;have g1:=aF g1;have g2:=aF g2;have g3:=J_ g3;subst g3;cases hmx;have e:=λw=>Bv (P:=P) (isS:=aC) (cp:=q.1) (w:=w) hlo hhi (OR.nn (m:=m)) hl Xn O g1 g2 (ax _) λ_=>rfl
 have hkc:gH (q.1-l)=f:=by
  have:=aF g4;exact aI N
 refine⟨.slice (D (if q.1=l then⟨lc.c,lc.base+(a.off-lc.lo),Q⟩else(⟨lc.c,lc.base+(a.off-lc.lo),Q⟩:Addr).add (l*inf.size))) (hh-l)<|q.1-l,?_,λw=>?_⟩
 .unfold uB
  by_cases hml:q.1=l
  .rw[show aA q.1 l=f from by rw[jP];exact hml,if_pos hml];exact .slice _ _ _ _ lc hm hlo2 hkc (by show hh-l<=_-l;omega)
  .rw[show aA q.1 l=aC from by rw[<-b_,jP];exact hml,if_neg hml,hsz,DJ lc a.off _ hlo2];exact .slice _ _ _ _ lc hm (by show lc.lo<=a.off+l*q.2.2;omega) hkc (by show hh-l<=_-l;omega)
 .simp only[kM,jD,dw,fq hu,bR,dI,e w,jU uX]
def ZM{lv:Z}(h:Ag P t x lo hi mx=D lv)(E:VR m x x')(hlo:OR m lo lo')(hhi:OR m hi hi')(hmx:OR m mx Va):
 ∃v',VR m lv v'/\∀w,(kM t x' lo' hi' Va).run P w=.ok v' w:=by
 unfold Ag at h;cases hs:PS P t with
 |some q=>
  rw[hs]at h;replace h:(aL (I7 x) λp=>U6 q.2 p lo hi mx)=D lv:=h;have⟨p,hp,h⟩:=aJ h;exact adW hs hp h E hlo hhi hmx
 |none=>
  rw[hs]at h;cases hst:Gs P t with
  |true=>
   rw[hst]at h;replace h:(aL (uj x) λs=>gd (eZ mx)<|N_ s lo hi)=D lv:=h;have⟨s,hs1,h⟩:=aJ h;have⟨hg,h⟩:=fI h;have g3:=J_ hg;subst g3;cases hmx;rw[pO hs1]at E;have:=E.wB;subst this;have⟨W,J⟩:=ZK (P:=P) (MR hst) h hlo hhi;exact⟨_,W,J⟩
  |false=>
   rw[hst]at h;replace h:(aL (PT P t) λq=>aL (qC x) λa=>Sy q.1 q.2.2 a lo hi mx)=D lv:=h;have⟨q,hq,h⟩:=aJ h;have⟨a,ha,h⟩:=aJ h;exact ZL hq ha h E hlo hhi hmx
end ops
section ops
variable{P:aU}
def SN{l:C Z}(h:aA (len l) 1=f)(E:nth l 0=D x):l=[x]:=by
 have:=aW h;rw[fU]at this
 match l,this with
 |[hr],_=>cases E;rfl
def Az(x:α):∀(k:Nat)(l:C α),setAt x k l=l.set k x:=by
 intro k
 induction k with
 |zero=>intro l;cases l<;>rfl
 |succ k ih=>intro l;cases l with
  |nil=>rfl
  |cons hr r=>exact dW (hr::·)<|ih r
def SQ:∀(vs:C Z)(k:Nat)(M:C Z),Gx vs k M=(vs.zipIdx k).foldl (λM p=>M.set p.2 p.1) M:=by
 intro vs
 induction vs with
 |nil=>intros;rfl
 |cons v vs ih=>
  intro k M;show Gx vs (k+1) (setAt v k M)=_;rw[ih,Az];rfl
def ZN:∀(vs vs':C Z)(k:Nat)(M cs':C Z),k_ m vs vs'->k_ m M cs'->k_ m (Gx vs k M) (Gx vs' k cs'):=by
 intro vs
 induction vs with
 |nil=>intro vs' k M cs' h hc;cases h;exact hc
 |cons v vs ih=>
  intro vs' k M cs' h hc;cases h with
  |cons _ v' _ r' hv y=>
   show k_ m (Gx vs (k+1)<|setAt v k M)<|Gx r' (k+1)<|setAt v' k cs';rw[Az,Az];exact ih r' (k+1) _ _ y<|hc.set k hv
def Xo(M:Array Z)(off:Nat):∀(l:C<|Z×Nat)(a:Array Z),(l.foldl (λ(M:Array Z) p=>M.setIfInBounds (off+p.2) p.1) a).toList=
 l.foldl (λ(M:C Z) p=>M.set (off+p.2) p.1) a.toList:=by
 intro l
 induction l with
 |nil=>intro a;rfl
 |cons p l ih=>intro a;simp only[nA];rw[ih];simp
def Xp:∀(vs:C Z)(off k:Nat)(M:C Z),(vs.zipIdx k).foldl (λ(M:C Z) p=>M.set (off+p.2) p.1) M=(vs.zipIdx<|off+k).foldl (λM p=>M.set p.2 p.1) M:=by
 intro vs
 induction vs with
 |nil=>intros;rfl
 |cons v vs ih=>intro off k M;simp only[List.zipIdx_cons,nA];rw[ih off (k+1)];rfl
def SS(vs:Array Z)(off:Nat)(a:Array Z):(vs.zipIdx.foldl (λ(M:Array Z)(p:Z×Nat)=>M.setIfInBounds (off+p.2) p.1) a)=⟨Gx vs.toList off a.toList⟩:=by
 rw[<-iZ,<-Array.foldl_toList,Xo a,SQ];simp only[Array.toList_zipIdx];rw[Xp];simp
inductive PRs(m:Mp):C (Nat×Z)->C (Nat×Z)->Prop where
 |nil:PRs m [] []
 |cons (k:Nat) (v v':Z) (l l':C<|Nat×Z) (h:VR m v v') (hl:PRs m l l'):PRs m ((k,v)::l) ((k,v')::l')
theorem Bw(h:VR m v v')(hn:v≠top):k_ m (bK v) (bK v'):=by
 cases h with
 |sc _ h=>
  have:bK v=[v]:=by cases v<;>first|rfl|simp[nE]at h
  rw[this];exact .cons _ _ _ _ (.sc _ h) .nil
 |top=>exact absurd O hn
 |ptr r off l h hl=>exact .cons _ _ _ _ (.ptr r off l h hl) .nil
 |slice r off n cp l h hl hk hnc=>exact .cons _ _ _ _ (.slice r off n cp l h hl hk hnc) .nil
 |sO r off n es cc l h hl he ht hc hN=>exact .cons _ _ _ _ (.sO r off n es cc l h hl he ht hc hN) .nil
 |wz a a'=>exact .cons _ _ _ _ (.wz a a') .nil
 |um r off es a' l h hl he hN=>exact .cons _ _ _ _ (.um r off es a' l h hl he hN) .nil
 |map r l h=>exact .cons _ _ _ _ (.map r l h) .nil
 |func ay x hr x' y' E hy=>exact .cons _ _ _ _ (.func ay x hr x' y' E hy) .nil
 |iface t v v' h=>exact .cons _ _ _ _ (.iface t v v' h) .nil
 |agg x x' h=>exact h
 |tuple x x' h=>exact .cons _ _ _ _ (.tuple x x' h) .nil
def MW(h:pZ v=f):v≠top:=by intro e;rw[e]at h;cases h
def CK(v:Z):v.cells=⟨bK v⟩:=by rw[DD]
def Oo(place:Nat->aB (Nat×Nat)):∀(ps ps':C<|Nat×Z)(M cs' r:C Z),Eb place ps M=D r->PRs m ps ps'->k_ m M cs'->
 ∃r',Instr.fill place ⟨cs'⟩ ps'=D ⟨r'⟩/\k_ m r r':=by
 intro ps
 induction ps with
 |nil=>intro ps' M cs' r h hp hc;cases hp;cases h;exact⟨cs',O,hc⟩
 |cons p ps ih=>
  intro ps' M cs' r h hp hc;cases hp with
  |cons k v v' _ l' hv hl=>
   replace h:(aL (place k) λq=>gd (pZ v&&aA (len<|bK v) q.2&&aD (aZ q.1 q.2) (len M))<|Eb place ps<|Gx (bK v) q.1 M)=D r:=h;have⟨q,hq,h⟩:=aJ h;have⟨hg,h⟩:=fI h;simp only[bg,fU]at hg;have g1:=MW hg.1.1;have g2:=aW hg.1.2;have g3:=aF hg.2;have hcv:=Bw hv g1;have⟨r',hr',hrr⟩:=ih l' _ (Gx (bK v') q.1 cs') r h hl<|ZN _ _ _ _ _ hcv hc;refine⟨r',?_,hrr⟩;unfold Instr.fill;rw[hq];have e1:v'.cells.size=q.2:=by rw[CK];show(bK v').length=_;rw[<-hcv.length,g2]
   have e2:¬(q.1+v'.cells.size>(⟨cs'⟩:Array Z).size):=by
    rw[e1];show¬(q.1+q.2>cs'.length);rw[<-hc.length];have:q.1+q.2<=M.length:=g3;omega
   simp only[e1,ne_eq,tK,decide_false,qR,decide_eq_true_eq];rw[e1]at e2;rw[if_neg e2];rw[SS,CK];exact hr'
def Xq:∀(fs:C Field)(pl:C<|Nat×Nat),places P fs=D pl->fs.mapM (λay=>(P.info? ay.type).map λi=>(ay.offset,i.size))=D pl:=by
 intro fs
 induction fs with
 |nil=>intro pl h;cases h;rfl
 |cons ay fs ih=>
  intro pl h;replace h:(aL (wo P ay.type) λs=>aL (places P fs) λl=>D<|(ay.offset,s)::l)=D pl:=h;have⟨s,hs,h⟩:=aJ h;have⟨l,hl,h⟩:=aJ h;cases h;obtain⟨i,hi,rfl⟩:=q8 hs;simp[wm,hi,ih l hl]
def ZO(h:Bj P t ps=D v)(hp:PRs m ps ps'):
 ∃v',VR m v v'/\∀w,(Instr.build t ⟨ps'⟩).run P w=.ok v' w:=by
 have⟨z,hz,h⟩:=aJ h;have⟨i,z0,hi,hz0,ZP,hlen,hs⟩:=yU hz;have hzz:k_ m z z:=k_.nE hs;have hzc:z0.cells=⟨z⟩:=by rw[ZP]
 cases hpl:U5 P t with
 |some pl=>
  rw[hpl]at h;replace h:(aL (Eb (nth pl) ps z) λM=>D<|Sg ⟨M⟩)=D v:=h;have⟨M,hcs,h⟩:=aJ h;cases h;have⟨cs',hcs',y⟩:=Oo (nth pl) ps ps' z z M hcs hp hzz;refine⟨.agg ⟨cs'⟩,.agg _ _ y,λw=>run_build w t ⟨ps'⟩ ⟨cs'⟩ ?_⟩;have h:=hpl;have⟨fs,hfs,h⟩:=aJ h;have hu:=Ey hfs;have hpm:=Xq fs pl h;unfold Program.built;rw[hi,hu];simp only[hz0,hpm,hzc];rw[<-hcs'];congr 1;funext k;rw[oL];simp
 |none=>
  rw[hpl]at h;replace h:(aL (PT P t) λq=>aL (Eb (λk=>D (bO k q.2.2,q.2.2)) ps z) λM=>D<|Sg ⟨M⟩)=D v:=h;have⟨q,hq,h⟩:=aJ h;have⟨M,hcs,h⟩:=aJ h;cases h;have⟨hu,⟨inf,uX,hsz⟩,hq1⟩:=Ju hq;have⟨cs',hcs',y⟩:=Oo _ ps ps' z z M hcs hp hzz;refine⟨.agg ⟨cs'⟩,.agg _ _ y,λw=>run_build w t ⟨ps'⟩ ⟨cs'⟩ ?_⟩;unfold Program.built;rw[hi,hu];simp only[hz0,uX,hzc,hsz];exact hcs'
end ops
inductive DX(m:Mp):C (Z×Z)->C MapEntry->Prop where
 |nil:DX m [] []
 |cons (k v:Z) (e:MapEntry) (l:C<|Z×Z) (l':C MapEntry) (hk:VR m k e.key) (hv:VR m v e.val) (hl:DX m l l'):DX m ((k,v)::l) (e::l')
def DX.mono(hm:Mp.le m m'){l:C (Z×Z)}(h:DX m l l'):DX m' l l':=by
 induction h with
 |nil=>exact .nil
 |cons k v e l l' hk hv _ ih=>exact .cons k v e l l' (hk.mono hm) (hv.mono hm) ih
def uY(m:Mp)(l:Loc):lI->Obj->Prop
 |.dead,_=>True
 |.row az,.cells M ty fr=>(ty=az.ty/\l.base=0)/\az.n=l.n/\M.size=l.tot/\l.lo<=az.n/\l.base+(az.n-l.lo)<=l.tot/\
  (az.kY=aC->fr.2<=l.base+(az.fz-l.lo))/\
  ∀i,l.lo<=i->i<az.n->∃v,M[l.base+(i-l.lo)]?=D v/\VR m (az.cells.get top i) v
 |.map es,.map zV _=>DX m es zV.toList
 |.MM s p,.stringIter s' p'=>s'=s/\p'=p/\l.base=0
 |_,_=>False
theorem uY.mono(hm:Mp.le m m'){o:lI}(h:uY m l o ob):uY m' l o ob:=by
 cases o<;>cases ob<;>first|exact h|skip
 case row.cells az M ty fr=>
  have⟨W,hn,J,h3,h4,h5,h6⟩:=h;exact⟨W,hn,J,h3,h4,h5,λi a b=>let⟨v,hv,y⟩:=h6 i a b;⟨v,hv,y.mono hm⟩⟩
 case map.map es zV c=>exact DX.mono hm h
structure RH(m:Mp)(H:R)(w:bY):Prop where
 dom:∀r l,m r=D l->r<H.next
 ok:∀r l,m r=D l->∃o,w.heap[l.c]?=D o/\uY m l (H.obj r) o
 sep:∀r r' l l',m r=D l->m r'=D l'->H.obj r≠.dead->H.obj r'≠.dead->l.c=l'.c->r=r'
structure Ex(m m':Mp)(H T:R)(w w':bY):Prop where
 le:Mp.le m m'
 new:∀r l,m' r=D l->m r=Q->H.next<=r
 fresh:∀r l,m' r=D l->m r=Q->l.c<w.heap.size->∃r0 l0,m r0=D l0/\l0.c=l.c/\T.low<=r0
 os:w'.os=w.os
 tape:w'.tape=w.tape
 output:w'.output=w.output
 size:w.heap.size<=w'.heap.size
 keep:∀c,c<w.heap.size->(∀r l,m r=D l->l.c=c->r<T.low)->w'.heap[c]?=w.heap[c]?
 next:H.next<=T.next
 low:T.low<=H.low
 v_:∀r,r<H.next->r<T.low->T.obj r=H.obj r
 hid:∀r,r<H.next->m r=Q->T.obj r=H.obj r
def oQ(h:w.heap[c]?=D o):c<w.heap.size:=(dU.1 h).1
def Ex.refl(m:Mp)(H:R)(w:bY):Ex m m H H w w where
 le:=λ_ _ h=>h
 new:=λr l h h'=>by rw[h]at h';cases h'
 fresh:=λr l h h'=>by rw[h]at h';cases h'
 os:=rfl
 tape:=rfl
 output:=rfl
 size:=ax _
 keep:=λ_ _ _=>rfl
 next:=ax _
 low:=ax _
 v_:=λ_ _ _=>rfl
 hid:=λ_ _ _=>rfl
theorem Ex.trans{m1 m2:Mp}{H1 H2:R}{w1 w2:bY}(a:Ex m m1 H H1 w w1)(b:Ex m1 m2 H1 H2 w1 w2):Ex m m2 H H2 w w2 where
 le:=λr l h=>b.le r l<|a.le r l h
 new:=λr l h h'=>by
  cases W:m1 r with
  |none=>exact a_ a.next<|b.new r l h W
  |some l1=>
   have:=b.le r l1 W;rw[h]at this;cases this;exact a.new r l W h'
 fresh:=λr l h h' hlt=>by
  cases W:m1 r with
  |none=>
   have⟨r0,l0,e1,e2,e3⟩:=b.fresh r l h W<|aR hlt a.size;cases h0:m r0 with
   |some l0'=>
    have:=a.le r0 l0' h0;rw[e1]at this;cases this;exact⟨r0,l0,h0,e2,e3⟩
   |none=>
    have⟨r1,l1,f1,f2,f3⟩:=a.fresh r0 l0 e1 h0 (by rw[e2];exact hlt);exact⟨r1,l1,f1,f2.trans e2,a_ b.low f3⟩
  |some l1=>
   have:=b.le r l1 W;rw[h]at this;cases this;have⟨r0,l0,e1,e2,e3⟩:=a.fresh r l W h' hlt;exact⟨r0,l0,e1,e2,a_ b.low e3⟩
 os:=b.os.trans a.os
 tape:=b.tape.trans a.tape
 output:=b.output.trans a.output
 size:=a_ a.size b.size
 keep:=λc hc hk=>by
  rw[b.keep c (aR hc a.size),a.keep c hc]
  .exactλr l W J=>aR (hk r l W J) b.low
  .intro r l W J;cases h0:m r with
   |some l0=>
    have:=a.le r l0 h0;rw[W]at this;cases this;exact hk r l h0 J
   |none=>
    have⟨r0,l0,e1,e2,e3⟩:=a.fresh r l W h0 (by rw[J];exact hc);have:=hk r0 l0 e1<|e2.trans J;have:=b.low;omega
 next:=a_ a.next b.next
 low:=a_ b.low a.low
 v_:=λr W J=>(b.v_ r (aR W a.next) J).trans<|a.v_ r W<|aR J b.low
 hid:=λr W J=>by
  have h3:m1 r=Q:=by
   cases h0:m1 r with
   |none=>rfl
   |some l=>have:=a.new r l h0 J;omega
  exact(b.hid r (aR W a.next) h3).trans<|a.hid r W J
def wD(H:R)(r:Nat)(o:lI)(r':Nat):(H.put r o).obj r'=if r'=r then o else H.obj r':=Tr.vE _ _ _ _ _
def yN(H:R)(o:lI)(r':Nat):(H.new o).obj r'=if r'=H.next then o else H.obj r':=Tr.vE _ _ _ _ _
def Jz(H:R)(r:Nat)(o:lI):(H.put r o).low<=r/\(H.put r o).low<=H.low:=by
 have e:(H.put r o).low=bV (aD H.low r) H.low r:=rfl;rw[e,Ah];split
 .next h=>exact⟨aF h,ax _⟩
 .next h=>exact⟨ax _,by have:¬H.low<=r:=λh'=>h<|aI h';omega⟩
def Mp.add(m:Mp)(r:Nat)(l:Loc):Mp:=λk=>if k=r then D l else m k
def Mp.ZQ(h:m r=Q):Mp.le m (m.add r l):=by
 intro k l' hk;unfold Mp.add;split
 .next e=>rw[e]at hk;rw[h]at hk;cases hk
 .exact hk
theorem RH.MX(rh:RH m H w):m H.next=Q:=by
 cases h:m H.next with
 |none=>rfl
 |some l=>exact absurd (rh.dom _ _ h)<|qV _
def RH.alloc(rh:RH m H w)(o:lI)(ob:Obj)(lo base tot n:Nat)(hok:uY m ⟨w.heap.size,lo,base,tot,n⟩ o ob):
 RH (m.add H.next ⟨w.heap.size,lo,base,tot,n⟩) (H.new o) (w.alloc ob)/\Ex m (m.add H.next ⟨w.heap.size,lo,base,tot,n⟩) H (H.new o) w (w.alloc ob):=by
 have hn:=rh.MX;have hle:=Mp.ZQ (l:=⟨w.heap.size,lo,base,tot,n⟩) hn;have hold:∀r l,m r=D l->l.c<w.heap.size:=λr l h=>let⟨_,ho,_⟩:=rh.ok r l h;oQ ho;refine⟨⟨?_,?_,?_⟩,?_⟩
 .intro r l h;show r<H.next+1
  unfold Mp.add at h;split at h
  .omega
  .have:=rh.dom r l h;omega
 .intro r l h;unfold Mp.add at h;split at h
  .next e=>
   cases h;refine⟨ob,by show(w.heap.push ob)[w.heap.size]?=_;simp,?_⟩;rw[yN,if_pos e];exact hok.mono hle
  .next e=>
   have⟨Ka,ho,hk⟩:=rh.ok r l h;refine⟨Ka,?_,?_⟩
   .have:=oQ ho;show(w.heap.push ob)[l.c]?=_;rw[oH,if_neg N];exact ho
   .rw[yN,if_neg e];exact hk.mono hle
 .intro r r' l l' h h' hd hd' hc;unfold Mp.add at h h';split at h<;>split at h'
  .next e e'=>rw[e,e']
  .next e e'=>cases h;have:=hold r' l' h';simp at hc;omega
  .next e e'=>cases h';have:=hold r l h;simp at hc;omega
  .next e e'=>
   rw[yN,if_neg e]at hd;rw[yN,if_neg e']at hd';exact rh.sep r r' l l' h h' hd hd' hc
 .refine⟨hle,?_,?_,O,O,O,by show w.heap.size<=(w.heap.push ob).size;simp,?_,iU _,ax _,?_,?_⟩
  .intro r l h h0;unfold Mp.add at h;split at h
   .next e=>omega
   .rw[h0]at h;cases h
  .intro r l h h0 hlt;unfold Mp.add at h;split at h
   .next e=>cases h;simp at hlt
   .rw[h0]at h;cases h
  .intro c hc _;show(w.heap.push ob)[c]?=_;rw[oH,if_neg N]
  .intro r W J;rw[yN,if_neg N]
  .intro r W J;rw[yN,if_neg N]
def RH.drew(rh:RH m H w):RH m H w.drew:=⟨rh.dom,rh.ok,rh.sep⟩
def Ex.drew(m:Mp)(H:R)(w:bY):Ex m m H H w w.drew:={Ex.refl m H w with os:=rfl,tape:=rfl,output:=rfl,size:=ax _,keep:=λ_ _ _=>rfl}
theorem RH.update(rh:RH m H w)(r:Nat)(l:Loc)(o':lI)(Ka:Obj)(hm:m r=D l)(hd:H.obj r≠.dead)(hok:uY m l o' Ka)(hb:w'.heap[l.c]?=D Ka)(hs:w'.heap.size=w.heap.size)(ho:∀c,c≠l.c->w'.heap[c]?=w.heap[c]?)(W:w'.os=w.os)(J:w'.tape=w.tape)(h3:w'.output=w.output):RH m (H.put r o') w'/\Ex m m H (H.put r o') w w':=by
 have hlow:=Jz H r o';refine⟨⟨rh.dom,?_,?_⟩,?_⟩
 .intro r1 l1 hm1;rw[wD]
  by_cases e:r1=r
  .subst e;rw[hm1]at hm;cases hm;exact⟨Ka,hb,by rw[if_pos O];exact hok⟩
  .rw[if_neg e];have⟨ob1,g1,g2⟩:=rh.ok r1 l1 hm1
   by_cases hc:l1.c=l.c
   .refine⟨Ka,by rw[hc];exact hb,?_⟩
    by_cases hdd:H.obj r1=.dead
    .rw[hdd];trivial
    .exact absurd (rh.sep r1 r l1 l hm1 hm hdd hd hc) e
   .exact⟨ob1,by rw[ho _ hc];exact g1,g2⟩
 .intro r1 r2 l1 l2 hm1 hm2 hd1 hd2 hc;rw[wD]at hd1 hd2
  by_cases e1:r1=r<;>by_cases e2:r2=r
  .rw[e1,e2]
  .subst e1;rw[if_neg e2]at hd2;exact rh.sep r1 r2 l1 l2 hm1 hm2 hd hd2 hc
  .subst e2;rw[if_neg e1]at hd1;exact rh.sep r1 r2 l1 l2 hm1 hm2 hd1 hd hc
  .rw[if_neg e1]at hd1;rw[if_neg e2]at hd2;exact rh.sep r1 r2 l1 l2 hm1 hm2 hd1 hd2 hc
 .refine⟨λ_ _ h=>h,(λr l h h'=>absurd (h.symm.trans h') kg),(λr l h h'=>absurd (h.symm.trans h') kg),W,J,h3,(by rw[hs];exact ax _),?_,ax _,hlow.2,?_,?_⟩
  .intro c hc hk;apply ho;intro e;have:=hk r l hm e.symm;omega
  .intro r1 g1 g2;rw[wD,if_neg N]
  .intro r1 g1 g2;rw[wD,if_neg (by intro e;subst e;rw[hm]at g2;cases g2)]
section mem
variable{P:aU}
def Vb(d:Z)(t:Tr Z):∀(n k:Nat),(Tr.Ep d t k n).length=n:=by
 intro n
 induction n with
 |zero=>intro k;rfl
 |succ n ih=>intro k;rw[Tr.xU];simp[ih]
def Vd(d:Z)(t:Tr Z):∀(n k j:Nat),j<n->(Tr.Ep d t k n)[j]?=D (t.get d<|k+j):=by
 intro n
 induction n with
 |zero=>intro k j h;omega
 |succ n ih=>
  intro k j h;rw[Tr.xU];cases j with
  |zero=>rfl
  |succ j=>rw[dZ,ih (k+1) j N,show k+1+j=k+(j+1)from by omega]
def cell_of{fr:Nat×Nat}(h:w.heap[c]?=D (.cells M ty fr))(k:Nat):w.cell? ⟨c,k,Q⟩=M[k]?:=by
 simp[World.cell?,h]
def row_of(rh:RH m H w){az:Row}(hm:m r=D l)(ho:H.obj r=.row az):
 ∃M fr,w.heap[l.c]?=D (.cells M az.ty fr)/\az.n=l.n/\M.size=l.tot/\l.lo<=az.n/\l.base+(az.n-l.lo)<=l.tot/\
  (az.kY=aC->fr.2<=l.base+(az.fz-l.lo))/\
  ∀i,l.lo<=i->i<az.n->∃v,M[l.base+(i-l.lo)]?=D v/\VR m (az.cells.get top i) v:=by
 have⟨o,hb,hk⟩:=rh.ok r l hm;rw[ho]at hk;cases o with
 |cells M ty fr=>
  have⟨W,hn,J,h3,h4,h5,h6⟩:=hk;exact⟨M,fr,by rw[hb,W.1],hn,J,h3,h4,h5,h6⟩
 |_=>exact hk.elim
def base_of(rh:RH m H w){az:Row}(hm:m r=D l)(ho:H.obj r=.row az):l.base=0:=by
 have⟨o,hb,hk⟩:=rh.ok r l hm;rw[ho]at hk;cases o with
 |cells M ty fr=>exact hk.1.2
 |_=>exact hk.elim
def adX(rh:RH m H w){off:Nat}(h:H.cell r off=D v)(hm:m r=D l)(hl:l.lo<=off):
 ∃v',w.cell? ⟨l.c,l.base+(off-l.lo),Q⟩=D v'/\VR m v v':=by
 have⟨az,hR,h⟩:=aJ h;have⟨hg,h⟩:=fI h;cases h;have⟨M,fr,hb,_,_,_,_,_,h6⟩:=row_of rh hm<|uh hR;have⟨v',hv,y⟩:=h6 off hl<|aF hg;exact⟨v',by rw[cell_of hb,hv],y⟩
def Fz(rh:RH m H w){off:Nat}(h:H.read r off k=D vs)(hm:m r=D l)(hl:l.lo<=off):
 ∃vs',k_ m vs vs'/\vs'.length=k/\∀j v,vs'[j]?=D v->w.cell? ((⟨l.c,l.base+(off-l.lo),Q⟩:Addr).add j)=D v:=by
 cases k with
 |zero=>cases h;exact⟨[],.nil,O,by simp⟩
 |succ k=>
  replace h:(aL (vZ<|H.obj r) λw=>gd (aD (aZ off<|k+1) w.n)<|D<|Tr.Ep top w.cells off<|k+1)=D vs:=h;have⟨az,hR,h⟩:=aJ h;have⟨hg,h⟩:=fI h;cases h;have hg:off+(k+1)<=az.n:=aF hg;have⟨M,fr,hb,_,_,_,_,_,h6⟩:=row_of rh hm<|uh hR
  have key:∀n i,i+n=k+1->∃vs',k_ m (Tr.Ep top az.cells (off+i) n) vs'/\vs'.length=n/\∀j v,vs'[j]?=D v->w.cell? ((⟨l.c,l.base+(off-l.lo),Q⟩:Addr).add<|i+j)=D v:=by
   intro n
   induction n with
   |zero=>intro i _;exact⟨[],.nil,O,by simp⟩
   |succ n ih=>
    intro i hi;have⟨vs',W,J,h3⟩:=ih (i+1) N;have⟨v',hv,y⟩:=h6 (off+i) N N;refine⟨v'::vs',.cons _ _ _ _ y W,by simp[J],?_⟩;intro j v hj;cases j with
    |zero=>
     simp at hj;subst hj;rw[DJ l off _ hl,cell_of hb];exact hv
    |succ j=>
     have:=h3 j v<|mg hj;rw[show i+(j+1)=i+1+j from by omega];exact this
  have⟨vs',W,J,h3⟩:=key (k+1) 0 N;exact⟨vs',W,J,λj v hj=>by have:=h3 j v hj;rwa [aY]at this⟩
def yO(rh:RH m H w){off:Nat}(h:H.read r off k=D vs)(hm:m r=D l)(hl:l.lo<=off):
 ∃vs',k_ m vs vs'/\vs'.length=k/\(loadCells ⟨l.c,l.base+(off-l.lo),Q⟩ k).run P w=.ok ⟨vs'⟩ w:=by
 have⟨vs',W,J,h3⟩:=Fz rh h hm hl;refine⟨vs',W,J,?_⟩;rw[<-J];exact run_loadCells_list w _ vs' h3
def Ve(rh:RH m H w)(h:wu P t x H=D (v,T))(E:VR m x x'):
 T=H/\∃v',VR m v v'/\(Instr.loadAt t x').run P w=.ok v' w:=by
 have⟨a,ha,h⟩:=aJ h;have⟨l0,hl0,h⟩:=aJ h;rw[pN ha]at E;obtain⟨l,hm,hlo,hsp,rfl⟩:=E.tV;have⟨d,i,hd,hi,hk⟩:=SE hl0;rcases hk with⟨hag,rfl⟩|⟨hag,rfl⟩
 .replace h:(aL (H.read a.block a.off i.size) λvs=>D (Sg ⟨vs⟩,H))=D (v,T):=h;have⟨vs,hvs,h⟩:=aJ h;cases h;have⟨vs',W,J,h3⟩:=yO (P:=P) rh hvs hm hlo;exact⟨O,.agg ⟨vs'⟩,.agg _ _ W,by simp[Instr.loadAt,jD,loadVar,xx hd,hag,jU hi,h3]⟩
 .replace h:(aL (H.cell a.block a.off) λv=>D (v,H))=D (v,T):=h;have⟨rg,hu,h⟩:=aJ h;cases h;have⟨v',W,J⟩:=adX rh hu hm hlo;exact⟨O,v',J,by simp[Instr.loadAt,jD,loadVar,xx hd,hag,W]⟩
def Oq(w:bY)(c k:Nat)(v:Z)(M:Array Z)(ty:aH)(fr:Nat×Nat)(h:w.heap[c]?=D (.cells M ty fr)):
 (w.setCell ⟨c,k,Q⟩ v).heap[c]?=D (.cells (M.setIfInBounds k v) ty fr):=by
 simp only[World.setCell];rw[iN]
 first|done|simp[h]
def L_(w:bY)(c k:Nat)(v:Z)(c':Nat)(h:c'≠c):(w.setCell ⟨c,k,Q⟩ v).heap[c']?=w.heap[c']?:=by
 simp only[World.setCell];rw[iN,if_neg<|oW h]
theorem zw(c o:Nat)(ty:aH)(fr:Nat×Nat):∀(vs:C Z)(i:Nat)(M:Array Z)(w:bY),w.heap[c]?=D (.cells M ty fr)->
 (∀v∈vs,v.oneCell'=f)->o+i+vs.length<=M.size->(∀j,fr.1<=j->j<fr.2->j<M.size->j<o+i)->
 ∃w' cs',(storeCells ⟨c,o,Q⟩ vs i).run P w=.ok () w'/\w'.heap[c]?=D (.cells cs' ty fr)/\cs'.size=M.size/\
  (∀j,cs'[j]?=if o+i<=j/\j<o+i+vs.length then vs[j-(o+i)]? else M[j]?)/\(∀c',c'≠c->w'.heap[c']?=w.heap[c']?)/\w'.heap.size=w.heap.size/\
  w'.os=w.os/\w'.tape=w.tape/\w'.output=w.output:=by
 intro vs
 induction vs with
 |nil=>
  intro i M w hb _ _ _;refine⟨w,M,by simp[storeCells],hb,rfl,?_,λ_ _=>rfl,rfl,rfl,rfl,rfl⟩;intro j;rw[if_neg (by simp only[vL];omega)]
 |cons v vs ih=>
  intro i M w hb hone hsz hfr;have hlen:o+i<M.size:=by simp at hsz;omega
  have hadd:(⟨c,o,Q⟩:Addr).add i=⟨c,o+i,Q⟩:=by
   unfold Addr.add;split
   .next h0=>rw[h0,dH]
   .rfl
  have hcell:w.cell? ⟨c,o+i,Q⟩=D M[o+i]:=by rw[cell_of hb,bC hlen]
  have hfz:w.frozen? ⟨c,o+i,Q⟩=aC:=by
   simp only[World.frozen?,hb];rw[<-b_,bg];rintro⟨a,b⟩;have:=hfr (o+i) (mg a) (mg b) hlen;omega
  have hst:(store ((⟨c,o,Q⟩:Addr).add i) v).run P w=.ok () (w.setCell ⟨c,o+i,Q⟩ v):=by
   rw[hadd,run_store P w _ v .plain<|hone v kg,hcell];simp[hfz]
  have⟨w',cs',W,J,h3,h4,h5,h6,h7,h8,h9⟩:=ih (i+1) (M.setIfInBounds (o+i) v) (w.setCell ⟨c,o+i,Q⟩ v) (Oq w c (o+i) v M ty fr hb)
   (λrg hu=>hone rg<|by simp[hu]) (by simp at hsz|-;omega) (λj a b d=>by have:=hfr j a b<|mg d;omega)
  refine⟨w',cs',?_,J,by rw[h3];simp,?_,?_,by rw[h6];simp,h7,h8,h9⟩
  .simp only[storeCells,dw,hst,bR];exact W
  .intro j;rw[h4 j]
   by_cases e:j=o+i
   .subst e;rw[if_neg N,if_pos kg];simp[hlen]
   .by_cases g:o+(i+1)<=j/\j<o+(i+1)+vs.length
    .rw[if_pos g,if_pos I6,show j-(o+i)=(j-(o+(i+1)))+1 from by omega];rfl
    .rw[if_neg g,if_neg I6];simp[jX (oW e)]
  .intro c' hc';rw[h5 c' hc',L_ _ _ _ _ _ hc']
theorem SV(h:VR m v v')(hs:fC v=f):v'.oneCell'=f:=by
 have⟨_,W,J⟩:=h.fC hs;cases v'<;>first|rfl|exact absurd O (W _)|exact absurd O<|J _
def CL:∀{vs vs':C Z},k_ m vs vs'->vs.all fC=f->∀v∈vs',v.oneCell'=f:=by
 intro vs
 induction vs with
 |nil=>intro vs' h _;cases h;simp
 |cons v vs ih=>
  intro vs' h ha;cases h with
  |cons _ v' _ r' hv y=>
   simp at ha;intro rg hu;rcases bP.1 hu with rfl|hu
   .exact SV hv ha.1
   .exact ih y (mg ha.2) rg hu
def CO(rh:RH m H w){off:Nat}(h:H.write r off vs=D T)(hv:k_ m vs vs')(hm:m r=D l)(hl:l.lo<=off):
 ∃w',(storeCells ⟨l.c,l.base+(off-l.lo),Q⟩ vs').run P w=.ok () w'/\RH m T w'/\Ex m m H T w w':=by
 cases hv with
 |nil=>cases h;exact⟨w,by simp[storeCells],rh,Ex.refl _ _ _⟩
 |cons v v' x x' hvv Jw=>
  have hv:k_ m (v::x) (v'::x'):=.cons _ _ _ _ hvv Jw
  replace h:(aL (vZ<|H.obj r) λw=>
   gd (!w.kY&&aD (aZ off<|len<|v::x) w.n&&aD w.fz off&&all' fC (v::x))
   (D<|H.put r<|.row ⟨w.ty,Tr.tu top (v::x) off w.cells,w.n,aC,w.fz⟩))=D T:=h
  have⟨az,hR,h⟩:=aJ h;have⟨hg,h⟩:=fI h;cases h;have Ie:=uh hR;simp only[bg,fU,all_eq]at hg;have⟨⟨⟨g0,g1⟩,g2⟩,g3⟩:=hg;have g1:off+(v::x).length<=az.n:=aF g1;have g2:=aF g2;have⟨M,fr,hb,hnn,J,h3,h4,h5,h6⟩:=row_of rh hm Ie;have hlen:(v'::x').length=(v::x).length:=(k_.length hv).symm
  have⟨w',cs',e1,e2,e3,e4,e5,e6,e7,e8,e9⟩:=zw (P:=P) l.c (l.base+(off-l.lo)) az.ty fr (v'::x') 0 M w hb (CL hv g3) (by rw[hlen];omega)
   (λj a b d=>by have:=h5<|mg g0;omega)
  have hu:=RH.update rh r l (.row ⟨az.ty,Tr.tu top (v::x) off az.cells,az.n,aC,az.fz⟩) (.cells cs' az.ty fr) hm (by rw[Ie];simp) ?_ e2 e6 e5 e7 e8 e9
  .exact⟨w',e1,hu.1,hu.2⟩
  .refine⟨⟨O,base_of rh hm Ie⟩,hnn,by rw[e3];exact J,h3,h4,λ_=>h5<|mg g0,?_⟩;intro i a b;rw[Tr.l_]
   by_cases hin:off<=i/\i<off+(v::x).length
   .have hgi:(v::x)[i-off]?=D ((v::x).getD (i-off) top):=by
     rw[bD,av N];rfl
    have⟨rg,hu1,hu2⟩:=hv.get (i-off) hgi;refine⟨rg,?_,by rw[if_pos hin];exact hu2⟩;rw[e4,if_pos (by rw[hlen];omega),show l.base+(i-l.lo)-(l.base+(off-l.lo)+0)=i-off from by omega];exact hu1
   .have⟨rg,hu1,hu2⟩:=h6 i a b;refine⟨rg,?_,by rw[if_neg hin];exact hu2⟩;rw[e4,if_neg (by rw[hlen];omega)];exact hu1
def ZR(rh:RH m H w)(h:zi P t x hr H=D (v,T))(E:VR m x x')(hy:VR m hr y'):
 v=undef/\∃w',(Instr.storeAt t x' y').run P w=.ok () w'/\RH m T w'/\Ex m m H T w w':=by
 have⟨a,ha,h⟩:=aJ h;have⟨s,hs,h⟩:=aJ h;have⟨hg,h⟩:=fI h;have⟨H1,hH1,h⟩:=aJ h;cases h;obtain⟨i,hi,rfl⟩:=q8 hs;rw[pN ha]at E;obtain⟨l,hm,hlo,hsp,rfl⟩:=E.tV;have hlen:=aW hg;rw[fU]at hlen
 have hnt:hr≠top:=by
  intro e;subst e
  replace hH1:(aL (vZ<|H.obj a.block) λw=>
   gd (!w.kY&&aD (aZ a.off<|len [top]) w.n&&aD w.fz a.off&&all' fC [top])
   (D<|H.put a.block<|.row ⟨w.ty,Tr.tu top [top] a.off w.cells,w.n,aC,w.fz⟩))=D T:=hH1
  have h:=hH1;have⟨az,hR,h⟩:=aJ h;have⟨hg,h⟩:=fI h;simp[all_eq,fC,top]at hg
 have hc:=Bw hy hnt;have⟨w',e1,e2,e3⟩:=CO (P:=P) rh hH1 hc hm hlo;refine⟨O,w',?_,e2,e3⟩;have hsz:y'.cells.size=i.size:=by rw[CK];show(bK y').length=_;rw[<-hc.length,hlen]
 have hcl:y'.cells.toList=bK y':=(DD y').symm;simp only[Instr.storeAt,jD,storeVar,dw,dI,bR,jU hi,hsz,ne_eq,tK,kJ,hcl];exact e1
def wV(P:aU)(m:Mp)(H:R)(w:bY)(s:Sem Z)(v:Z)(T:R):Prop:=
 ∃m' cv w',s.run P w=.ok cv w'/\VR m' v cv/\RH m' T w'/\Ex m m' H T w w'
def Xr(hv:k_ m vs vs')(c:Nat):uY m ⟨c,0,0,vs'.length,vs.length⟩ (rowOf ty vs) (.cells ⟨vs'⟩ ty):=by
 refine⟨⟨O,O⟩,fU vs,O,bA _,?_,?_,?_⟩
 .show 0+(len vs-0)<=vs'.length;rw[fU,hv.length];omega
 .intro _;exact bA _
 .intro i a b;have b:i<len vs:=b;rw[fU]at b;rw[show(Tr.tu top vs 0 .nil).get top i=vs.getD i top from by rw[Tr.l_,if_pos N];rfl];have hgi:vs[i]?=D (vs.getD i top):=by rw[bD,av b];rfl
  have⟨rg,W,J⟩:=hv.get i hgi;exact⟨rg,mg W,J⟩
def DK(rh:RH m H w)(hv:k_ m vs vs'):
 ∃l m',m' H.next=D l/\l.c=w.heap.size/\l.lo=0/\l.base=0/\l.tot=vs'.length/\l.n=vs.length/\(newRow ty ⟨vs'⟩).run P w=.ok ⟨w.heap.size,0,Q⟩ (w.alloc<|.cells ⟨vs'⟩ ty)/\
  RH m' (H.new<|rowOf ty vs) (w.alloc<|.cells ⟨vs'⟩ ty)/\Ex m m' H (H.new<|rowOf ty vs) w (w.alloc<|.cells ⟨vs'⟩ ty):=by
 have:=rh.alloc (rowOf ty vs) (.cells ⟨vs'⟩ ty) 0 0 vs'.length vs.length<|Xr hv _;refine⟨⟨w.heap.size,0,0,vs'.length,vs.length⟩,_,?_,O,O,O,O,O,?_,this.1,this.2⟩
 .simp[Mp.add]
 .simp[newRow]
def Vf(h:m' n=D l)(W:l.lo=0)(J:l.base=0):VR m' (MO n) (.pointer<|D ⟨l.c,0,Q⟩):=by
 have:=VR.ptr (m:=m') n 0 l h N;rw[W,J]at this;exact this
def ZS(rh:RH m H w)(h:CJ P e H=D (v,T)):wV P m H w (Instr.alloc e f<|.tuple #[]) v T:=by
 have⟨z,hz,h⟩:=aJ h;cases h;have⟨i,z0,hi,hz0,ZP,hlen,hs⟩:=yU hz;have⟨l,m',a1,a2,a3,a4,a5,a9,a6,a7,a8⟩:=DK (P:=P) (ty:=e) rh<|k_.nE (m:=m) hs;refine⟨m',_,_,?_,Vf a1 a3 a4,a7,a8⟩;have hzc:z0.cells=⟨z⟩:=by rw[ZP]
 simp only[Instr.alloc,newVar,dw,zo hi hz0,bR,hzc,a6,dI,a2]
def ag3(rh:RH m H w)(h:JZ e x H=D (v,T))(E:VR m x x'):wV P m H w (Instr.box e x') v T:=by
 have⟨hg,h⟩:=fI h;cases h;have⟨l,m',a1,a2,a3,a4,a5,a9,a6,a7,a8⟩:=DK (P:=P) (ty:=e) rh<|Bw E<|MW hg;refine⟨m',_,_,?_,Vf a1 a3 a4,a7,a8⟩;simp only[Instr.box,newVar,dw,bR,CK,a6,dI,a2]
end mem
section mem
variable{P:aU}
def P7(z:C Z):∀n,(o7 z n).length=n*z.length:=by
 intro n
 induction n with
 |zero=>show([]:C Z).length=_;simp
 |succ n ih=>show(app z<|o7 z n).length=_;rw[qB,aQ,ih,kR];omega
theorem ZT(z:C Z):∀n i,i<n*z.length->(o7 z n)[i]?=z[i %z.length]?:=by
 intro n
 induction n with
 |zero=>intro i h;omega
 |succ n ih=>
  intro i h;rw[show o7 z (n+1)=z++o7 z n from qB _ _]
  by_cases hi:i<z.length
  .rw[bM hi,uK hi]
  .rw[dV N,ih _ (by rw[kR]at h;omega),<-Nat.mod_eq_sub_mod N]
theorem Kb(z:C Z)(n:Nat):((Array.range<|n*z.length).map λi=>(⟨z⟩:Array Z)[i %(⟨z⟩:Array Z).size]!)=⟨o7 z n⟩:=by
 rw[<-iZ];apply h_;intro i;simp only[Array.toList_map,Array.toList_range]
 by_cases hi:i<n*z.length
 .rw[ZT z n i hi,bF,List.getElem?_range hi]
  have hz:0<z.length:=by
   rcases gM z.length with h0|h0
   .rw[h0]at hi;omega
   .exact h0
  have hm:i %z.length<z.length:=qA _ hz;simp[av hm,hm]
 .rw[fE (mg hi),fE (by rw[P7];omega)]
def GG(h:z.all nE=f):∀n,(o7 z n).all nE=f:=by
 intro n
 induction n with
 |zero=>rfl
 |succ n ih=>rw[show o7 z (n+1)=z++o7 z n from qB _ _,List.all_append,h,ih];rfl
def ZU(h:m' n=D l)(W:l.lo=0)(J:l.base=0)(hc:gH c=f)(hkc:k<=c):VR m' (.slice (D ⟨n,0,Q⟩) k c) (.slice (D ⟨l.c,0,Q⟩) k c):=by
 have:=VR.slice (m:=m') n 0 k c l h N hc hkc;rw[W,J]at this;exact this
def SY(rh:RH m H w)(h:tO P t n ps H=D (v,T))(hp:PRs m ps ps'):
 wV P m H w (Instr.buildSlice t n ⟨ps'⟩) v T:=by
 have⟨q,hq,h⟩:=aJ h;have⟨z,hz,h⟩:=aJ h;have⟨hg,h⟩:=fI h;have⟨M,hcs,h⟩:=aJ h;cases h;have⟨hu,⟨inf,uX,hsz⟩,hq1⟩:=Bt hq;have⟨i,z0,hi,hz0,ZP,hlen,hs⟩:=yU hz;rw[uX]at hi;cases hi;have hg:=aF hg;have hg:n*q.2<=16777216:=hg;have hrep:k_ m (o7 z n) (o7 z n):=k_.nE<|GG hs n;have⟨cs',hcs',y⟩:=Oo _ ps ps' _ _ M hcs hp hrep;have⟨l,m',a1,a2,a3,a4,a5,a9,a6,a7,a8⟩:=DK (P:=P) (ty:=q.1) rh y
 have hk:gH n=f:=by
  apply aI;have:n*1<=n*q.2:=gG n hq1;omega
 refine⟨m',_,_,?_,ZU a1 a3 a4 hk N,a7,a8⟩;have hzc:z0.cells=⟨z⟩:=by rw[ZP]
 have afD:Instr.fill (λk=>D (k*q.2,q.2)) ⟨o7 z n⟩ ps'=D ⟨cs'⟩:=hcs';have h24:¬(n*q.2>2^24):=N;have harr:=Kb z n;rw[hlen,hsz]at harr
 by_cases h0:n*q.2=0
 .have hn:n=0:=by
   rcases gM n with e|e
   .exact e
   .have:=qW e (show 0<q.2 from hq1);omega
  subst hn;have ag4:Instr.fill (λk=>D (k*q.2,q.2)) #[] ps'=D ⟨cs'⟩:=afD;have e0:∀ay:Nat->Z,Array.map ay (Array.range 0)=#[]:=λay=>by simp
  simp[Instr.buildSlice,fq hu,jU uX,hsz,ag4,a6,a2,e0]
 .simp only[Instr.buildSlice,dw,fq hu,bR,jU uX,hsz,h24,kJ,h0,zo uX hz0,hzc,dI,harr,afD,a6,a2]
def Ou(rh:RH m H w)(h:qD P t x hr H=D (v,T))(E:VR m x x')(hy:VR m hr y'):
 wV P m H w (Instr.makeSlice t x' y') v T:=by
 have⟨q,hq,h⟩:=aJ h;have⟨i0,hi0,h⟩:=aJ h;have⟨z,hz,h⟩:=aJ h;have⟨n,hn,h⟩:=aJ h;have⟨c,hc,h⟩:=aJ h;have⟨hg,h⟩:=fI h;cases h;have⟨hu,⟨inf,uX,hsz⟩,hq1⟩:=Bt hq;have⟨i,z0,hi,hz0,ZP,hlen,hs⟩:=yU hz;rw[uX]at hi;cases hi;have hi0:P.info? q.1=D i0:=hi0;rw[uX]at hi0;cases hi0;obtain⟨k1,rfl⟩:=Dz hn;obtain⟨k2,rfl⟩:=Dz hc;have:=E.of_int;subst this;have:=hy.of_int;subst this;simp only[bg]at hg;have g1:=aF hg.1.1;have g2:=aF hg.1.2;have g3:=aF hg.2;have⟨l,m',a1,a2,a3,a4,a5,a9,a6,a7,a8⟩:=DK (P:=P) (ty:=q.1) rh<|k_.nE (m:=m)<|GG hs c;have hk:gH c=f:=aI N;refine⟨m',_,_,?_,ZU a1 a3 a4 hk N,a7,a8⟩;have hzc:z0.cells=⟨z⟩:=by rw[ZP]
 have harr:=Kb z c;rw[hlen]at harr;have w1:IntKind.i64.wrap (n:Int)=n:=IntWalk.i64_in _ N;have w2:IntKind.i64.wrap (c:Int)=c:=IntWalk.i64_in _ N;have hb1:i0.bytes*c<=1048576*16777216:=gY g3 g2
 have hlt:¬((2:Int)^48<(i0.bytes:Int)*(c:Int)):=by
  have:(i0.bytes:Int)*(c:Int)=((i0.bytes*c:Nat):Int):=by simp
  rw[this];omega
 by_cases h0:c*q.2=0
 .have hn:c=0:=by
   rcases gM c with e|e
   .exact e
   .have:=qW e (show 0<q.2 from hq1);omega
  subst hn;have hnn:n=0:=N;subst hnn;have a6':(newRow q.1 #[]).run P w=.ok ⟨w.heap.size,0,Q⟩ (w.alloc<|.cells #[] q.1):=a6;have w0:IntKind.i64.wrap 0=0:=IntWalk.i64_in _ N;have e0:∀ay:Nat->Z,Array.map ay (Array.range 0)=#[]:=λay=>by simp
  simp[Instr.makeSlice,fq hu,asInt,asIntOf,zm uX,w0,jU uX,hsz,a2];rw[e0,a6'];rfl
 .have aiL:Array.map (λx=>z[x %z.length]?.getD default) (Array.range<|c*q.2)=⟨o7 z c⟩:=by
   rw[<-harr,hsz];congr 1;funext x;simp
  have hcond:¬((((c:Int)<0\/281474976710656<(i0.bytes:Int)*(c:Int))\/(n:Int)<0)\/c<n):=by
   rintro(((h|h)|h)|h)
   .omega
   .exact hlt h
   .omega
   .omega
  simp[Instr.makeSlice,fq hu,asInt,asIntOf,zm uX,w1,w2,jU uX,hsz,h0,zo uX hz0,hzc,a2];rw[if_neg hcond,aiL,a6];rfl
end mem
section mem
variable{P:aU}
def DX.length{l:C (Z×Z)}(h:DX m l l'):l.length=l'.length:=by
 induction h with
 |nil=>rfl
 |cons _ _ _ _ _ _ _ _ ih=>simp[ih]
def S7(hd:P.underlying t=D d)(W:1<=uk d)(em:Bool)(n:Nat)(w:bY):(ja em (n+1) t v).run P w=.ok () w:=by
 rcases GD W with⟨kk,rfl⟩|rfl|rfl<;>simp[ja,fq hd]
def Xu:∀(fs:C Field)(k:Nat)(ks:C Nat)(X':C Z),rP P fs k=D ks->k+fs.length<=X'.length->
 ∀ay∈fs,ay.name≠ "_" /\∀(em:Bool) n w,∃a,(part ay.type ⟨X'⟩ ay.offset).run P w=.ok a w/\(ja em (n+1) ay.type a).run P w=.ok () w:=by
 intro fs
 induction fs with
 |nil=>intro k ks X' _ _ ay hf;cases hf
 |cons ay fs ih=>
  intro k ks X' hk hl g hg;obtain⟨d,r,hd,y,ho,hn,W,rfl⟩:=vG hk;rcases bP.1 hg with rfl|hg
  .refine⟨hn,λem n w=>?_⟩;have hlt:g.offset<X'.length:=by rw[ho];simp at hl;omega
   exact⟨_,yV hd (Ay W)<|av hlt,S7 hd W em n w⟩
  .exact ih (k+1) r X' y (by simp at hl;omega) g hg
theorem Ig:∀(ks:C Nat)(xs ys:C Z)(b:Bool),qQ ks xs ys=D b->b=f->xs.length=ks.length:=by
 intro ks
 induction ks with
 |nil=>
  intro xs ys b h hb;cases xs with
  |nil=>rfl
  |cons _ _=>cases h
 |cons k ks ih=>
  intro xs ys b h hb;obtain⟨x,xr,hr,yr,c,rfl,rfl,hce,hcase⟩:=yM h;rcases hcase with⟨_,y⟩|⟨_,hbf⟩
  .simp[ih xr yr b y hb]
  .rw[hb]at hbf;cases hbf
def Ke:∀(fs:C Field)(k:Nat)(ks:C Nat),rP P fs k=D ks->ks.length=fs.length:=by
 intro fs
 induction fs with
 |nil=>intro k ks h;cases h;rfl
 |cons ay fs ih=>
  intro k ks h;obtain⟨d,r,hd,y,ho,hn,W,rfl⟩:=vG h;simp[ih _ _ y]
def Ih(h:lC P t x x=D f)(E:VR m x x')(em:Bool)(n:Nat)(w:bY):(ja em (n+2) t x').run P w=.ok () w:=by
 have⟨q,hq,h⟩:=aJ h;rcases GA hq with⟨d,hd,rfl,W⟩|⟨fs,ks,hu,hs,hk,rfl⟩|⟨c,e,d,i,hu,he,hi,hsz,W,rfl⟩
 .exact S7 hd W em (n+1) w
 .replace h:(aL (wP x) λa=>aL (wP x) λb=>qQ ks a b)=D f:=h;have⟨xs,hxs,h⟩:=aJ h;have⟨ys,hys,h⟩:=aJ h;rw[uq hxs]at E;obtain⟨xs',rfl,Ez⟩:=E.xw
  have hlen:0+fs.length<=xs'.length:=by
   rw[<-Ez.length,Ig ks xs ys f h O,Ke fs 0 ks hk];omega
  have each:=Xu fs 0 ks xs' hk hlen;rw[ja];simp only[dw,fq hu,bR];rw[<-Array.forIn_toList];simp only[];clear hk hq hlen hu;generalize fs=L at each
  induction L with
  |nil=>simp
  |cons ay L ih=>
   have⟨hn,hp⟩:=each ay kg;have⟨a,p1,p2⟩:=hp em n w;simp only[List.forIn_cons,dw,hn,ne_eq,qj,kK,bR,p1,p2,dI];exact ih λhr hy=>each hr (by simp[hy])
 .replace h:(aL (wP x) λa=>aL (wP x) λb=>qQ (aX c<|uk d) a b)=D f:=h;have⟨xs,hxs,h⟩:=aJ h;have⟨ys,hys,h⟩:=aJ h;rw[uq hxs]at E;obtain⟨xs',rfl,Ez⟩:=E.xw
  have hlen:xs'.length=c:=by
   rw[<-Ez.length,Ig _ xs ys f h O];simp
  rw[ja];simp only[dw,fq hu,bR];simp only[Std.Legacy.Range.forIn_eq_forIn_range',Std.Legacy.Range.size,jG,Nat.add_one_sub_one,Nat.div_one]
  have each:∀j∈List.range' 0 c,∃a,(part e ⟨xs'⟩<|j*i.size).run P w=.ok a w/\(ja em (n+1) e a).run P w=.ok () w:=by
   intro j hj;have hj:j<xs'.length:=by rw[hlen];simpa using hj
   refine⟨xs'[j],?_,S7 he W em n w⟩;rw[hsz,dz];exact yV he (Ay W)<|av hj
  clear hlen hq h hu;generalize List.range' 0 c=L at each
  induction L with
  |nil=>simp
  |cons j L ih=>
   have⟨a,p1,p2⟩:=each j kg;simp only[List.forIn_cons,dw,jU hi,bR,p1,p2,dI];exact ih λhr hy=>each hr (by simp[hy])
def Kg(hd:P.underlying t=D d)(h:w_ (uk d) x hr=D b)(E:VR m x x')(hy:VR m hr y'):Instr.sameNow d x' y'=D b:=by
 obtain⟨rfl,rfl,_⟩:=Aw (t:=t) hd h E hy;cases d<;>simp only[uk]at h
 case int k=>
  replace h:(aL (tL x') λa=>aL (tL y') λb=>gd (aA (qJ a.1)<|qJ b.1)<|D<|Jq a.2 b.2)=D b:=h;have⟨p,hp,h⟩:=aJ h;have⟨q,hq,h⟩:=aJ h;have⟨hk,h⟩:=fI h;cases h;rw[qp hp,qp hq];have hk:=Av hk;simp[Instr.sameNow,hk,J7]
 case bool=>
  replace h:(aL (jQ x') λa=>aL (jQ y') λb=>D<|Ba a b)=D b:=h;have⟨p,hp,h⟩:=aJ h;have⟨q,hq,h⟩:=aJ h;cases h;rw[o_ hp,o_ hq];simp[Instr.sameNow,J8]
 case string=>
  replace h:(aL (uj x') λa=>aL (uj y') λb=>D<|rG a b)=D b:=h;have⟨p,hp,h⟩:=aJ h;have⟨q,hq,h⟩:=aJ h;cases h;rw[pO hp,pO hq];simp[Instr.sameNow,zu,beq_toListBytes]
 all_goals cases h
def S8(m:Mp):aB (Nat×Z)->aB (Nat×Z)->Prop
 |none,Q=>True
 |some p,D q=>p.1=q.1/\VR m p.2 q.2
 |_,_=>False
def EB{k:Z}{e:Z×Z}{i:Nat}{r:aB (Nat×Z)}(h:rH P kt k (e::es) i=D r):
 (lC P kt k e.1=D f/\r=D (i,e.2))\/(lC P kt k e.1=D aC/\rH P kt k es (i+1)=D r):=by
 replace h:(aL (lC P kt k e.1) λb=>bV b (D<|D (i,e.2))<|rH P kt k es<|i+1)=D r:=h;have⟨b,hb,h⟩:=aJ h;cases b
 .exact .inr ⟨hb,h⟩
 .cases h;exact .inl ⟨hb,O⟩
def S9{k:Z}(hd:P.underlying kt=D d)(hq:tEq P kt=D (.inl<|uk d))(hk:VR m k k'):∀{es:C (Z×Z)}{zV:C MapEntry},DX m es zV->∀(i:Nat)(r:aB<|Nat×Z),
 rH P kt k es i=D r->∃r',lT d k' zV i=D r'/\S8 m r r':=by
 intro es zV hes
 induction hes with
 |nil=>intro i r h;cases h;exact⟨Q,O,trivial⟩
 |cons kk v e l l' hkk hv hl ih=>
  intro i r h
  have cellOf:∀b,lC P kt k kk=D b->w_ (uk d) k kk=D b:=by
   intro b hb;unfold lC at hb;rw[hq]at hb;exact hb
  rcases EB h with⟨W,rfl⟩|⟨W,J⟩
  .have:=Kg hd (cellOf _ W) hk hkk;exact⟨D (i,e.val),by simp[lT,this],rfl,hv⟩
  .have:=Kg hd (cellOf _ W) hk hkk;have⟨r',h3,h4⟩:=ih (i+1) r J;exact⟨r',by simp[lT,this,h3],h4⟩
def Ma{k:Z}(hk:VR m k k')(w:bY):∀{es:C (Z×Z)}{zV:C MapEntry},DX m es zV->∀(i:Nat)(r:aB<|Nat×Z),
 rH P kt k es i=D r->∃r',(Instr.findAsking kt k' zV i).run P w=.ok r' w/\S8 m r r':=by
 intro es zV hes
 induction hes with
 |nil=>intro i r h;cases h;exact⟨Q,O,trivial⟩
 |cons kk v e l l' hkk hv hl ih=>
  intro i r h;rcases EB h with⟨W,rfl⟩|⟨W,J⟩
  .have:=J9 W hk hkk w;exact⟨D (i,e.val),by simp[Instr.findAsking,this],rfl,hv⟩
  .have:=J9 W hk hkk w;have⟨r',h3,h4⟩:=ih (i+1) r J;exact⟨r',by simp[Instr.findAsking,this,h3],h4⟩
def Kh{k:Z}{r:aB (Nat×Z)}(hk:VR m k k')(hes:DX m es zV)(h:rH P kt k es 0=D r)(hv:lC P kt k k=D f)(w:bY):
 ∃r',(Instr.findKey kt k' zV).run P w=.ok r' w/\S8 m r r':=by
 have h0:=hv;replace hv:(aL (tEq P kt) λq=>@Sum.rec Nat (C Nat) (λ_=>aB Bool) (λn=>w_ n k k) (λl=>aL (wP k) λa=>aL (wP k) λb=>qQ l a b) q)=D f:=hv;have⟨q,hq,hv'⟩:=aJ hv;have ask:=Ma hk w hes 0 r h
 have und:∃d,P.underlying kt=D d:=by
  rcases GA hq with⟨d,hd,_⟩|⟨fs,ks,hu,_⟩|⟨c,e,d,i,hu,_⟩
  .exact⟨_,hd⟩
  .exact⟨_,hu⟩
  .exact⟨_,hu⟩
 have⟨d,hd⟩:=und;cases hfn:lT d k' zV 0 with
 |none=>
  have⟨r',W,J⟩:=ask;exact⟨r',by simp[Instr.findKey,fq hd,hfn,W],J⟩
 |some r0=>
  refine⟨r0,by simp[Instr.findKey,fq hd,hfn],?_⟩;rcases GA hq with⟨d',hd',rfl,W⟩|⟨fs,ks,hu,_,_,rfl⟩|⟨c,e,d',i,hu,_,_,_,_,rfl⟩
  .rw[hd]at hd';cases hd';have⟨r',h3,h4⟩:=S9 hd hq hk hes 0 r h;rw[hfn]at h3;cases h3;exact h4
  .rw[hd]at hu;cases hu;cases hes with
   |nil=>cases h;simp[lT]at hfn;subst hfn;trivial
   |cons kk v e l l' hkk hv hl=>simp[lT,Instr.sameNow]at hfn
  .rw[hd]at hu;cases hu;cases hes with
   |nil=>cases h;simp[lT]at hfn;subst hfn;trivial
   |cons kk v e l l' hkk hv hl=>simp[lT,Instr.sameNow]at hfn
end mem
section mem
variable{P:aU}
def P8{k:Z}{rg:Unit}(h:zS P t k=D rg):lC P t k k=D f:=by
 have⟨b,hb,h⟩:=aJ h;have⟨hg,h⟩:=fI h;rw[hb,hg]
def zx{es:Array MapEntry}{cl:Nat}(h:w.heap[c]?=D (.map es cl)):(getObj c).run P w=.ok (.map es cl) w:=by
 simp[getObj,Sem.run,h]
def Mc(w:bY)(c:Nat)(o:Obj):bY:={w with heap:=w.heap.setIfInBounds c o}
def Ki{es es':Array MapEntry}{cl cl':Nat}(h:w.heap[c]?=D (.map es cl)):(setObj c<|.map es' cl').run P w=.ok () (Mc w c<|.map es' cl'):=by
 simp[setObj,Sem.run,h,Mc]
def Vg{o0:Obj}(h:w.heap[c]?=D o0):(Mc w c o).heap[c]?=D o:=by
 have:=oQ h;simp[Mc,this]
def Vh(h:c'≠c):(Mc w c o).heap[c']?=w.heap[c']?:=by
 simp only[Mc];exact jX<|oW h
def MY:(Mc w c o).heap.size=w.heap.size:=by simp[Mc]
def S_(rh:RH m H w){r r':aB Z}(h:uV P t r H=D (v,T))(y:OR m r r'):
 wV P m H w (Instr.makeMap t r') v T:=by
 have⟨q,hq,h⟩:=aJ h;have⟨hg,h⟩:=fI h;cases h;have hu:=Jv hq;have:=rh.alloc (.map []) (.map #[] 0) 0 0 0 0 (show DX m [] []from .nil);refine⟨_,.map<|D w.heap.size,w.alloc<|.map #[] 0,?_,?_,this.1,this.2⟩
 .cases y with
  |nn=>simp[Instr.makeMap]
  |ss x x' E=>
   replace hg:(!(eZ<|tL x))=f:=hg;cases hv:tL x with
   |none=>rw[hv]at hg;cases hg
   |some p=>
    rw[qp hv]at E;have:=E.of_int;subst this;simp[Instr.makeMap,fq hu,asInt,asIntOf]
 .exact VR.map H.next ⟨w.heap.size,0,0,0,0⟩ (by simp[Mp.add])
def Ta(rh:RH m H w)(hm:m r=D l)(ho:H.obj r=.map es):∃zV cl,w.heap[l.c]?=D (.map zV cl)/\DX m es zV.toList:=by
 have⟨o,hb,hk⟩:=rh.ok r l hm;rw[ho]at hk;cases o with
 |map zV cl=>exact⟨zV,cl,hb,hk⟩
 |_=>exact hk.elim
def Xv(rh:RH m H w){k:Z}(h:sV P t x k ok H=D (v,T))(E:VR m x x')(hk:VR m k k'):
 T=H/\∃v',VR m v v'/\(Instr.lookup t x' k' ok).run P w=.ok v' w:=by
 have⟨q,hq,h⟩:=aJ h;have⟨z,hz,h⟩:=aJ h;have⟨es,hes,h⟩:=aJ h;have⟨rg,hu,h⟩:=aJ h;have⟨ay,hf,h⟩:=aJ h;have hut:=Jv hq;have hkk:=P8 hu;have⟨⟨i,hi,hz0⟩,Si⟩:=PZ hz;have hzz:VR m z z:=Xf Si
 have pre:∃zV:Array MapEntry,DX m es zV.toList/\((x'=.map Q/\zV=#[])\/∃c cl,x'=.map (D c)/\w.heap[c]?=D (.map zV cl)):=by
  have h:=hes;have⟨mr,hmr,h⟩:=aJ h;rw[DC hmr]at E;cases mr with
  |none=>
   have:=E.wC O;subst this;cases h;exact⟨#[],.nil,.inl ⟨O,O⟩⟩
  |some r=>
   obtain⟨l,hm,rfl⟩:=E.of_map;replace h:JS (H.obj r)=D es:=h;have⟨zV,cl,hb,he⟩:=Ta rh hm<|Jo h;exact⟨zV,he,.inr ⟨_,_,O,hb⟩⟩
 have⟨zV,he,hcase⟩:=pre;have⟨r',hfind,hfr⟩:=Kh hk he hf hkk w;have hck:=Ih hkk hk zV.isEmpty 9998 w;have hck:(ja zV.isEmpty 10000 q.1 k').run P w=.ok () w:=hck;cases ay with
 |none=>
  cases r' with
  |some _=>exact hfr.elim
  |none=>
   replace h:D (okd ok z aC H)=D (v,T):=h;have hv:v=(if ok then .tuple #[z,.bool aC]else z)/\T=H:=by cases ok<;>(cases h;exact⟨O,O⟩)
   refine⟨hv.2,(if ok then .tuple #[z,.bool aC]else z),?_,?_⟩
   .rw[hv.1];cases ok
    .exact hzz
    .exact .tuple _ _<|.cons _ _ _ _ hzz<|.cons _ _ _ _ (.sc _ O) .nil
   .rcases hcase with⟨rfl,rfl⟩|⟨c,cl,rfl,hb⟩
    .have hck:(ja f 10000 q.1 k').run P w=.ok () w:=hck;have hfind:(Instr.findKey q.1 k' []).run P w=.ok Q w:=hfind;simp[Instr.lookup,fq hut,hck,hfind,zo hi hz0]
    .simp[Instr.lookup,fq hut,zx hb,hck,hfind,zo hi hz0]
 |some p=>
  cases r' with
  |none=>exact hfr.elim
  |some p'=>
   replace h:D (okd ok p.2 f H)=D (v,T):=h;have hv:v=(if ok then .tuple #[p.2,.bool f]else p.2)/\T=H:=by cases ok<;>(cases h;exact⟨O,O⟩)
   have⟨j',u'⟩:=p';refine⟨hv.2,(if ok then .tuple #[u',.bool f]else u'),?_,?_⟩
   .rw[hv.1];cases ok
    .exact hfr.2
    .exact .tuple _ _<|.cons _ _ _ _ hfr.2<|.cons _ _ _ _ (.sc _ O) .nil
   .rcases hcase with⟨rfl,rfl⟩|⟨c,cl,rfl,hb⟩
    .have hck:(ja f 10000 q.1 k').run P w=.ok () w:=hck;have hfind:(Instr.findKey q.1 k' []).run P w=.ok (D (j',u')) w:=hfind;simp[Instr.lookup,fq hut,hck,hfind]
    .simp[Instr.lookup,fq hut,zx hb,hck,hfind]
def adY(rh:RH m H w)(h:J4 P ats args H=D (v,T))(ha:k_ m args args'):
 T=H/\VR m v v/\(kF ⟨ats⟩ t ⟨args'⟩).run P w=.ok v w:=by
 have⟨t0,ht,h⟩:=aJ h;have⟨x,E,h⟩:=aJ h;have⟨q,hq,h⟩:=aJ h;have⟨es,hes,h⟩:=aJ h;cases h;have hut:=Jv hq;rw[oL]at ht E;have⟨x',hx',Ez⟩:=ha.get 0 E;refine⟨O,.sc _ O,?_⟩;have h:=hes;have⟨mr,hmr,h⟩:=aJ h;rw[DC hmr]at Ez;cases mr with
 |none=>
  have:=Ez.wC O;subst this;cases h;simp[kF,ht,hx',fq hut,goInt,len]
 |some r=>
  obtain⟨l,hm,rfl⟩:=Ez.of_map;replace h:JS (H.obj r)=D es:=h;have⟨zV,cl,hb,he⟩:=Ta rh hm<|Jo h;have hl:=he.length;simp[kF,ht,hx',fq hut,goInt,zx hb,fU,hl]
def Ii(h:w_ k x hr=D f)(E:VR m x x')(hy:VR m hr y'):x'=y'/\∀n,Instr.sameBits n y' x'=f:=by
 unfold w_ at h;rw[Ah]at h;split at h
 .have⟨a,ha,h⟩:=aJ h;have⟨b,hb,h⟩:=aJ h;have⟨hg,h⟩:=fI h;rw[qp ha]at E;rw[qp hb]at hy;have:=E.of_int;subst this;have:=hy.of_int;subst this;have hk:=Av hg;simp only[tJ,J7,lz]at h;exact⟨by rw[hk,h],λn=>by cases n<;>simp[Instr.sameBits,hk,h]⟩
 .rw[Ah]at h;split at h
  .have⟨a,ha,h⟩:=aJ h;have⟨b,hb,h⟩:=aJ h;rw[o_ ha]at E;rw[o_ hb]at hy;have:=E.of_bool;subst this;have:=hy.of_bool;subst this;simp only[tJ,J8,lz]at h;exact⟨by rw[h],λn=>by cases n<;>simp[Instr.sameBits,h]⟩
  .rw[Ah]at h;split at h
   .have⟨a,ha,h⟩:=aJ h;have⟨b,hb,h⟩:=aJ h;rw[pO ha]at E;rw[pO hb]at hy;have:=E.wB;subst this;have:=hy.wB;subst this;simp only[tJ,zu]at h;have hl:a.toList=b.toList:=mg h;rw[iq,iq]at hl;have hab:a=b:=uf<|iZ.1 hl;subst hab;have hbb:(a==a)=f:=by rw[beq_toListBytes];simp
    exact⟨O,λn=>by cases n<;>simp[Instr.sameBits,hbb]⟩
   .cases h
def Ov:∀(ks:C Nat)(xs ys xs' ys':C Z),qQ ks xs ys=D f->k_ m xs xs'->k_ m ys ys'->
 xs'=ys'/\∀n,(ys'.zip xs').all (λ(x,hr)=>Instr.sameBits n x hr)=f:=by
 intro ks
 induction ks with
 |nil=>
  intro xs ys xs' ys' h E hy;cases xs with
  |nil=>cases ys with
   |nil=>cases E;cases hy;exact⟨O,λn=>rfl⟩
   |cons _ _=>cases h
  |cons _ _=>cases h
 |cons k ks ih=>
  intro xs ys xs' ys' h E hy;obtain⟨x,xr,hr,yr,c,rfl,rfl,hce,hcase⟩:=yM h;rcases hcase with⟨rfl,y⟩|⟨_,hbf⟩
  .cases E with
   |cons _ x' _ xr' hxv Ez=>
    cases hy with
    |cons _ y' _ yr' hyv ZF=>
     have⟨e1,e2⟩:=Ii hce hxv hyv;have⟨f1,f2⟩:=ih xr yr xr' yr' y Ez ZF;exact⟨by rw[e1,f1],λn=>by simp only[List.zip_cons_cons,w9,e2 n,f2 n,Bool.and_self]⟩
  .cases hbf
def Tc(h:lC P t x hr=D f)(E:VR m x x')(hy:VR m hr y'):x'=y'/\∀n,Instr.sameBits (n+1) y' x'=f:=by
 have⟨q,hq,h⟩:=aJ h;cases q with
 |inl k=>
  replace h:w_ k x hr=D f:=h;have⟨a,b⟩:=Ii h E hy;exact⟨a,λn=>b _⟩
 |inr l=>
  replace h:(aL (wP x) λa=>aL (wP hr) λb=>qQ l a b)=D f:=h;have⟨xs,hxs,h⟩:=aJ h;have⟨ys,hys,h⟩:=aJ h;rw[uq hxs]at E;rw[uq hys]at hy;obtain⟨xs',rfl,Ez⟩:=E.xw;obtain⟨ys',rfl,ZF⟩:=hy.xw;have⟨a,b⟩:=Ov l xs ys xs' ys' h Ez ZF;refine⟨by rw[a],λn=>?_⟩;have:=b n;simp only[Instr.sameBits,bg];exact⟨by rw[a];simp,this⟩
def DX.set{l:C MapEntry}(h:DX m es l):∀(j:Nat)(k v:Z)(e':MapEntry),VR m k e'.key->VR m v e'.val->DX m (es.set j (k,v)) (l.set j e'):=by
 induction h with
 |nil=>intro j k v e' _ _;exact .nil
 |cons k0 v0 e0 l0 l0' hk hv hl ih=>
  intro j k v e' W J;cases j with
  |zero=>exact .cons k v e' l0 l0' W J hl
  |succ j=>exact .cons k0 v0 e0 _ _ hk hv<|ih j k v e' W J
def DX.push{l:C MapEntry}(h:DX m es l)(k v:Z)(e':MapEntry)(W:VR m k e'.key)(J:VR m v e'.val):DX m (es++[(k,v)]) (l++[e']):=by
 induction h with
 |nil=>exact .cons k v e' [] [] W J .nil
 |cons k0 v0 e0 l0 l0' hk hv hl ih=>exact .cons k0 v0 e0 _ _ hk hv ih
def DX.get{l:C MapEntry}(h:DX m es l):∀(j:Nat)(p:Z×Z),es[j]?=D p->∃e,l[j]?=D e/\VR m p.1 e.key/\VR m p.2 e.val:=by
 induction h with
 |nil=>intro j p hp;simp at hp
 |cons k0 v0 e0 l0 l0' hk hv hl ih=>
  intro j p hp;cases j with
  |zero=>simp at hp;subst hp;exact⟨e0,O,hk,hv⟩
  |succ j=>simpa using ih j p (mg hp)
def Xw{k:Z}:∀(es:C<|Z×Z)(i j:Nat)(v:Z),rH P kt k es i=D (D (j,v))->i<=j/\∃k0,es[j-i]?=D (k0,v)/\lC P kt k k0=D f:=by
 intro es
 induction es with
 |nil=>intro i j v h;cases h
 |cons e es ih=>
  intro i j v h;rcases EB h with⟨W,J⟩|⟨W,J⟩
  .simp at J;obtain⟨rfl,rfl⟩:=J;exact⟨ax _,e.1,by simp,W⟩
  .have⟨a,k0,b,c⟩:=ih (i+1) j v J;refine⟨N,k0,?_,c⟩;rw[show j-i=(j-(i+1))+1 from by omega];simpa using b
theorem Me(zV:Array MapEntry)(j:Nat)(e:MapEntry)(he:zV[j]?=D e)(ay:MapEntry->MapEntry):(zV.modify j ay).toList=zV.toList.set j (ay e):=by
 apply h_;intro i;have hj:=(dU.1 he).1;rw[eF,iN,dG,<-eF]
 by_cases h:j=i
 .subst h;rw[if_pos O,if_pos O,eF,he];simp[hj]
 .rw[if_neg h,if_neg h]
def Xx(rh:RH m H w){k:Z}(h:vF P t x k hr H=D (v,T))(E:VR m x x')(hk:VR m k k')(hy:VR m hr y'):
 v=undef/\∃w',(Instr.mapUpdate t x' k' y').run P w=.ok () w'/\RH m T w'/\Ex m m H T w w':=by
 have⟨q,hq,h⟩:=aJ h;have⟨mr,hmr,h⟩:=aJ h;have⟨r,y,h⟩:=aJ h;have⟨es,hes,h⟩:=aJ h;have⟨rg,hu,h⟩:=aJ h;have⟨ay,hf,h⟩:=aJ h;subst y;have hut:=Jv hq;have hkk:=P8 hu;rw[DC hmr]at E;obtain⟨l,hm,rfl⟩:=E.of_map;have⟨zV,cl,hb,he⟩:=Ta rh hm<|Jo hes;have⟨r',hfind,hfr⟩:=Kh hk he hf hkk w;have hck:(ja aC 10000 q.1 k').run P w=.ok () w:=Ih hkk hk aC 9998 w;have MZ:H.obj r≠.dead:=by rw[Jo hes];simp
 cases ay with
 |none=>
  cases r' with
  |some _=>exact hfr.elim
  |none=>
   replace h:D (undef,H.put r<|.map<|app es [(k,hr)])=D (v,T):=h;cases h
   have hnew:DX m (app es [(k,hr)]) (zV.push {key:=k',val:=y',born:=cl}).toList:=by
    rw[qB,Array.toList_push];exact he.push k hr _ hk hy
   have:=RH.update rh r l (.map<|app es [(k,hr)]) (.map (zV.push {key:=k',val:=y',born:=cl})<|cl+1) hm MZ hnew (Vg hb) MY (λc hc=>Vh hc) O O O;refine⟨O,Mc w l.c<|.map (zV.push {key:=k',val:=y',born:=cl})<|cl+1,?_,this.1,this.2⟩;simp[Instr.mapUpdate,fq hut,zx hb,hck,hfind,Ki hb]
 |some p=>
  cases r' with
  |none=>exact hfr.elim
  |some p'=>
   have⟨j,v0⟩:=p;have⟨j',v0'⟩:=p';obtain⟨rfl,hvv⟩:=hfr;replace h:D (undef,H.put r<|.map<|setAt (k,hr) j es)=D (v,T):=h;cases h;have⟨_,k0,hk0,hke⟩:=Xw es 0 j v0 hf;obtain⟨e,hce,hek,hev⟩:=he.get j _ (by simpa using hk0);rw[eF]at hce;have⟨hsame,aiM⟩:=Tc hke hk hek
   have hst:(Instr.keyThatStays e.key k').run P w=.ok k' w:=by
    have:=aiM 9999;simp[Instr.keyThatStays,this]
   have hnew:DX m (setAt (k,hr) j es) (zV.modify j λe=>{e with key:=k',val:=y'}).toList:=by
    rw[Az,Me zV j e hce];exact he.set j k hr _ hk hy
   have:=RH.update rh r l (.map<|setAt (k,hr) j es) (.map (zV.modify j λe=>{e with key:=k',val:=y'}) cl) hm MZ hnew (Vg hb) MY (λc hc=>Vh hc) O O O;refine⟨O,Mc w l.c<|.map (zV.modify j λe=>{e with key:=k',val:=y'}) cl,?_,this.1,this.2⟩;simp[Instr.mapUpdate,fq hut,zx hb,hck,hfind,hce,hst,Ki hb]
end mem
section mem
variable{P:aU}
def xy(s:C UInt8):o8 s=s.map λb=>.int .u8 b.toNat:=by rw[o8,Fs];rfl
def Ij(s:C UInt8):(o8 s).all nE=f:=by
 rw[xy];simp[nE]
def CP(rh:RH m H w){e:Nat×C Z}(h:appended H sz x=D e)(E:VR m x x'):
 (∀w,(kN x').run P w=.ok e.1 w)/\∃vs',k_ m e.2 vs'/\vs'.length=e.1*sz/\(dP sz e.1 x').run P w=.ok ⟨vs'⟩ w:=by
 unfold appended at h;cases hs:uj x with
 |some s=>
  rw[hs]at h;replace h:(gd (aA sz 1)<|D (len s.data.toList,o8 s.data.toList))=D e:=h;have⟨hg,h⟩:=fI h;cases h;have hg:=aW hg;subst hg;rw[pO hs]at E;have:=E.wB;subst this;have hsz:s.size=s.data.toList.length:=rfl;refine⟨λw=>by simp[kN,fU],o8 s.data.toList,k_.nE<|Ij _,by rw[xy];simp[fU],?_⟩
  have:(s.extract 0 s.size).data=s.data:=by
   rw[pW];show s.data.extract 0 s.data.size=s.data;simp
  simp only[dP,fU];rw[show s.data.toList.length=s.size from O,this,xy];show Result.ok _ w=Result.ok _ w;congr 1;rw[<-iZ];simp
 |none=>
  rw[hs]at h
  replace h:(aL (I7 x) λp=>@aM Addr (λ_=>aB<|Nat×C Z) (gd (aA p.2.1 0)<|D (0,[]))
   (λa=>aL (H.read a.block a.off<|bO p.2.1 sz) λl=>D (p.2.1,l)) p.1)=D e:=h
  have⟨p,hp,h⟩:=aJ h;rw[xu hp]at E;have⟨pa,n,cp⟩:=p;cases pa with
  |none=>
   obtain⟨W,J,rfl⟩:=E.uW;replace h:(gd (aA n 0)<|D (0,([]:C Z)))=D e:=h;have⟨hg,h⟩:=fI h;cases h;exact⟨λw=>by simp[kN],[],.nil,by simp,by simp[dP]⟩
  |some a=>
   replace h:(aL (H.read a.block a.off<|bO n sz) λl=>D (n,l))=D e:=h;have⟨l,hl,h⟩:=aJ h;cases h;simp only at E;rcases E.of_slice with⟨lc,cc,hm,hlo,hsp,rfl,_⟩|⟨a',e1,e2,rfl⟩
   .have⟨vs',W,J,h3⟩:=yO (P:=P) rh hl hm hlo;exact⟨λw=>by simp[kN],vs',W,J,by simp only[dP];exact h3⟩
   .subst e1;have hz:bO 0 sz=0:=iQ sz;rw[hz]at hl;cases hl;refine⟨λw=>by simp[kN],[],.nil,by simp,?_⟩;simp[dP,loadCells,loadCellsFrom]
def Xy(n:Nat):∀(r c:Nat),Builtin.growBy n r c<=max c (n+(n+768)/4):=by
 intro r
 induction r with
 |zero=>intro c;simp[Builtin.growBy];omega
 |succ r ih=>
  intro c;unfold Builtin.growBy;split
  .omega
  .next h=>
   have:=ih<|c+(c+768)/4;omega
def Td{need:Nat}(h:cap<need):Builtin.nextslicecap need cap<=2*need+768:=by
 unfold Builtin.nextslicecap;split
 .omega
 .split
  .omega
  .have:=Xy need 4 cap;omega
def Mf(zs:C Z)(n:Nat):(Builtin.zeroCells ⟨zs⟩ n).toList.length=n*zs.length:=by simp[Builtin.zeroCells]
theorem ZV{z0:Z}{base:aB Addr}(ha0:args'[0]?=D (.slice base ln cc))(ha1:args'[1]?=D x')(ht:ats[0]?=D t)(ht2:ats[1]?=D t2)(hu:P.underlying t=D (.slice e))(hu2:P.underlying t2=D d2)(hd2:∀kk,d2≠.int kk)(hi:P.info? e=D i)(hz:i.zero=D z0)(hzc:z0.cells=⟨zs⟩)(hzl:zs.length=i.size)(hb:i.bytes<=1048576)(hb1:1<=i.bytes)(hln:ln<=16777216)(hk:k<=16777216)(hroom:cc<ln+k)(hlen:∀w,(kN x').run P w=.ok k w)(hold:(dP i.size ln<|.slice base ln cc).run P w.drew=.ok ⟨old⟩ w.drew)(hnew:(dP i.size k x').run P w.drew=.ok ⟨vs'⟩ w.drew):
 ∃cap rest,ln+k<=cap/\rest.length=(cap-(ln+k))*i.size/\
  (kP ⟨ats⟩ ty ⟨args'⟩).run P w=.ok (.slice (D ⟨w.drew.heap.size,0,Q⟩) (ln+k) cap) (w.drew.alloc<|.cells ⟨old++vs'++rest⟩ e):=by
 refine⟨(Question.appendCap (ln+k) cc e).cut<|w.tape w.drawn<|.appendCap (ln+k) cc e,(Builtin.zeroCells ⟨zs⟩<|(Question.appendCap (ln+k) cc e).cut (w.tape w.drawn<|.appendCap (ln+k) cc e)-(ln+k)).toList,?_,?_,?_⟩
 .simp[Question.cut]
 .rw[Mf,hzl]
 .have hz2:(match d2 with|.int _=>f|_=>aC)=aC:=by cases d2<;>first|rfl|exact absurd O (hd2 _)
  have hcap:Builtin.nextslicecap (ln+k) cc*i.bytes<=2^48:=by
   have W:=Td hroom;have J:2*(ln+k)+768<=67109632:=N;exact a_ (gY (a_ W J) hb) kg
  have hne:¬(ln+k<=cc):=N;have hbz:i.bytes≠0:=N;have aiN:¬(Builtin.nextslicecap (ln+k) cc*i.bytes>2^48):=N;have hf:(Question.appendCap (ln+k) cc e).forced=aC:=rfl;have hat:(⟨ats⟩:Array aH)[0]?=D t:=mg ht;have ZW:(⟨ats⟩:Array aH)[1]?=D t2:=mg ht2;have alv:∀n,(askRoom n).run P w.drew=.ok () w.drew:=λn=>run_askRoom P w.drew n;have ha0:(⟨args'⟩:Array Z)[0]?=D (.slice base ln cc):=mg ha0;have ha1:(⟨args'⟩:Array Z)[1]?=D x':=mg ha1;cases d2
  case int kk=>exact absurd O<|hd2 kk
  all_goals
   simp only[kP,hat,ZW,ha0,ha1,dw,fq hu,fq hu2,bR,jU hi,dI,cB,kJ,hlen,hne,
    zm hi,hbz,or_self,and_false,aiN,run_choose,hf,World.drew_eq,alv,hold,hnew,zo hi hz,hzc,wh,kK]
  all_goals
   generalize Builtin.zeroCells ⟨zs⟩ _=zc;have harr:((⟨old⟩:Array Z)++(⟨vs'⟩:Array Z)++zc)=⟨old++vs'++zc.toList⟩:=by rw[<-iZ];simp
   rw[harr];rfl
def xZ(ha0:args'[0]?=D (.slice (D a) ln cc))(ha1:args'[1]?=D x')(ht:ats[0]?=D t)(ht2:ats[1]?=D t2)(hu:P.underlying t=D (.slice e))(hu2:P.underlying t2=D d2)(hd2:∀kk,d2≠.int kk)(hi:P.info? e=D i)(hroom:ln+k<=cc)(hlen:∀w,(kN x').run P w=.ok k w)(hnew:(dP i.size k x').run P w=.ok ⟨vs'⟩ w)(hst:(storeCells (a.add<|ln*i.size) vs').run P w=.ok () w'):
 (kP ⟨ats⟩ ty ⟨args'⟩).run P w=.ok (.slice (D a) (ln+k) cc) w':=by
 have hat:(⟨ats⟩:Array aH)[0]?=D t:=mg ht;have ZW:(⟨ats⟩:Array aH)[1]?=D t2:=mg ht2;have ha0:(⟨args'⟩:Array Z)[0]?=D (.slice (D a) ln cc):=mg ha0;have ha1:(⟨args'⟩:Array Z)[1]?=D x':=mg ha1;cases d2
 case int kk=>exact absurd O<|hd2 kk
 all_goals
  simp only[kP,hat,ZW,ha0,ha1,dw,fq hu,fq hu2,bR,jU hi,dI,cB,kJ,hlen,hroom,
   hnew,wh,kK,hst]
def P9(ha0:args'[0]?=D (.slice Q 0 cc))(ha1:args'[1]?=D x')(ht:ats[0]?=D t)(ht2:ats[1]?=D t2)(hu:P.underlying t=D (.slice e))(hu2:P.underlying t2=D d2)(hd2:∀kk,d2≠.int kk)(hi:P.info? e=D i)(hlen:∀w,(kN x').run P w=.ok 0 w)(hnew:(dP i.size 0 x').run P w=.ok #[] w):
 (kP ⟨ats⟩ ty ⟨args'⟩).run P w=.ok (.slice Q 0 cc) w:=by
 have hat:(⟨ats⟩:Array aH)[0]?=D t:=mg ht;have ZW:(⟨ats⟩:Array aH)[1]?=D t2:=mg ht2;have ha0:(⟨args'⟩:Array Z)[0]?=D (.slice Q 0 cc):=mg ha0;have ha1:(⟨args'⟩:Array Z)[1]?=D x':=mg ha1;cases d2
 case int kk=>exact absurd O<|hd2 kk
 all_goals
  simp only[kP,hat,ZW,ha0,ha1,dw,fq hu,fq hu2,bR,jU hi,dI,cB,kJ,hlen,dH,bA,
   hnew,wh,kK]
def adZ(h:aiE P t t2=D q):P.underlying t=D (.slice q.1)/\1<=q.2/\∃i z0 zs d2,P.info? q.1=D i/\i.size=q.2/\i.zero=D z0/\z0.cells=⟨zs⟩/\zs.length=i.size/\
 zs.all nE=f/\P.underlying t2=D d2/\(∀kk,d2≠.int kk)/\i.bytes<=1048576/\1<=i.bytes:=by
 have⟨q',hq,h⟩:=aJ h;have⟨i0,hi0,h⟩:=aJ h;have⟨zs,hzs,h⟩:=aJ h;have⟨d2,hd2,h⟩:=aJ h;have⟨hg,h⟩:=fI h;cases h;have⟨hu,⟨i,hi,hsz⟩,W⟩:=Bt hq;have hi0:P.info? q.1=D i0:=hi0;rw[hi]at hi0;cases hi0;have⟨i2,z0,hi2,hz0,ZP,hlen,hs⟩:=yU hzs;rw[hi]at hi2;cases hi2;simp only[bg]at hg;refine⟨hu,W,_,z0,zs,d2,hi,hsz,hz0,by rw[ZP],hlen,hs,hd2,?_,aF hg.1.2,aF hg.2⟩;intro kk e;subst e;have:=hg.1.1;simp[L8,eZ]at this
end mem
section mem
variable{P:aU}
def RH.ad1(rh:RH m H w)(r:Nat)(l l':Loc)(o':lI)(Ka:Obj)(hm:m r=D l)(hd:H.obj r≠.dead)(hc:l'.c=l.c)(hok:uY m l' o' Ka)(hb:w'.heap[l.c]?=D Ka)(hs:w'.heap.size=w.heap.size)(ho:∀c,c≠l.c->w'.heap[c]?=w.heap[c]?)(W:w'.os=w.os)(J:w'.tape=w.tape)(h3:w'.output=w.output):
 RH (m.add H.next l') ((H.put r .dead).new o') w'/\Ex m (m.add H.next l') H ((H.put r .dead).new o') w w':=by
 have hn:=rh.MX;have hle:=Mp.ZQ (l:=l') hn;have hlow:=Jz H r .dead;have hrn:r≠H.next:=λe=>by have:=rh.dom r l hm;omega
 have Cn:∀k,((H.put r .dead).new o').obj k=if k=H.next then o' else if k=r then .dead else H.obj k:=by
  intro k;rw[yN];show(if k=H.next then o' else(H.put r .dead).obj k)=_;rw[wD]
 have anj:l.c<w.heap.size:=by have⟨_,g,_⟩:=rh.ok r l hm;exact oQ g
 refine⟨⟨?_,?_,?_⟩,?_⟩
 .intro k lk hk;show k<H.next+1
  unfold Mp.add at hk;split at hk
  .omega
  .have:=rh.dom k lk hk;omega
 .intro k lk hk;rw[Cn];unfold Mp.add at hk;split at hk
  .next e=>
   cases hk;rw[if_pos e];exact⟨Ka,by rw[hc];exact hb,hok.mono hle⟩
  .next e=>
   rw[if_neg e];have⟨ob1,g1,g2⟩:=rh.ok k lk hk
   by_cases hcc:lk.c=l.c
   .refine⟨Ka,by rw[hcc];exact hb,?_⟩
    by_cases hkr:k=r
    .rw[if_pos hkr];trivial
    .rw[if_neg hkr]
     by_cases hdd:H.obj k=.dead
     .rw[hdd];trivial
     .exact absurd (rh.sep k r lk l hk hm hdd hd hcc) hkr
   .refine⟨ob1,by rw[ho _ hcc];exact g1,?_⟩;split
    .trivial
    .exact g2.mono hle
 .intro k1 k2 l1 l2 hk1 hk2 hd1 hd2 hcc;rw[Cn]at hd1 hd2;unfold Mp.add at hk1 hk2
  by_cases e1:k1=H.next<;>by_cases e2:k2=H.next
  .rw[e1,e2]
  .rw[if_pos e1]at hk1;cases hk1;rw[if_neg e2]at hk2 hd2
   by_cases hkr:k2=r
   .rw[if_pos hkr]at hd2;exact absurd O hd2
   .rw[if_neg hkr]at hd2;exact absurd (rh.sep k2 r l2 l hk2 hm hd2 hd<|by rw[<-hcc,hc]) hkr
  .rw[if_pos e2]at hk2;cases hk2;rw[if_neg e1]at hk1 hd1
   by_cases hkr:k1=r
   .rw[if_pos hkr]at hd1;exact absurd O hd1
   .rw[if_neg hkr]at hd1;exact absurd (rh.sep k1 r l1 l hk1 hm hd1 hd<|by rw[hcc,hc]) hkr
  .rw[if_neg e1]at hk1 hd1;rw[if_neg e2]at hk2 hd2
   by_cases aiO:k1=r
   .rw[if_pos aiO]at hd1;exact absurd O hd1
   .by_cases aiP:k2=r
    .rw[if_pos aiP]at hd2;exact absurd O hd2
    .rw[if_neg aiO]at hd1;rw[if_neg aiP]at hd2;exact rh.sep k1 k2 l1 l2 hk1 hk2 hd1 hd2 hcc
 .refine⟨hle,?_,?_,W,J,h3,by rw[hs];exact ax _,?_,iU _,hlow.2,?_,?_⟩
  .intro k lk hk h0;unfold Mp.add at hk;split at hk
   .next e=>omega
   .rw[h0]at hk;cases hk
  .intro k lk hk h0 hlt;unfold Mp.add at hk;split at hk
   .next e=>cases hk;exact⟨r,l,hm,hc.symm,hlow.1⟩
   .rw[h0]at hk;cases hk
  .intro c hcl hk;apply ho;intro e;have:=hk r l hm e.symm;have h9:((H.put r .dead).new o').low<=r:=hlow.1;omega
  .intro k g1 g2;have h9:((H.put r .dead).new o').low<=r:=hlow.1;rw[Cn,if_neg N,if_neg N]
  .intro k g1 g2;rw[Cn,if_neg N,if_neg (by intro e;subst e;rw[hm]at g2;cases g2)]
def RH.kill(rh:RH m H w)(r:Nat)(hm:m r≠Q):RH m (H.put r .dead) w/\Ex m m H (H.put r .dead) w w:=by
 have hlow:=Jz H r .dead;refine⟨⟨rh.dom,?_,?_⟩,{Ex.refl m H w with next:=ax _,low:=hlow.2,v_:=?_,hid:=?_,keep:=λ_ _ _=>rfl,fresh:=λr l h h'=>absurd (h.symm.trans h') kg}⟩
 .intro k lk hk;have⟨o,g1,g2⟩:=rh.ok k lk hk;refine⟨o,g1,?_⟩;rw[wD];split
  .trivial
  .exact g2
 .intro k1 k2 l1 l2 hk1 hk2 hd1 hd2 hc;rw[wD]at hd1 hd2;split at hd1
  .exact absurd O hd1
  .split at hd2
   .exact absurd O hd2
   .exact rh.sep k1 k2 l1 l2 hk1 hk2 hd1 hd2 hc
 .intro k g1 g2;rw[wD,if_neg N]
 .intro k g1 g2;rw[wD,if_neg (by intro e;subst e;exact hm g2)]
def Ow(rh:RH m H w)(hold:k_ m old old')(hvs:k_ m vs vs')(hol:old.length=ln*sz)(hvl:vs.length=k*sz)(hcap:ln+k<=cap)(hrest:rest.length=(cap-(ln+k))*sz)(hs:1<=sz):
 ∃m',VR m' (.slice (D ⟨H.next,0,Q⟩) (ln+k)<|fJ sz) (.slice (D ⟨w.heap.size,0,Q⟩) (ln+k) cap)/\
  RH m' (H.new<|rowOf e<|old++vs) (w.alloc<|.cells ⟨old'++vs'++rest⟩ e)/\Ex m m' H (H.new<|rowOf e<|old++vs) w (w.alloc<|.cells ⟨old'++vs'++rest⟩ e):=by
 have hov:k_ m (old++vs) (old'++vs'):=hold.append hvs;have hlen:(old++vs).length=(ln+k)*sz:=by rw[aQ,hol,hvl,gX]
 have hlen':(old'++vs').length=(ln+k)*sz:=by rw[<-hov.length,hlen]
 have htot:(old'++vs'++rest).length=cap*sz:=by
  rw[aQ,hlen',hrest,<-gX];congr 1;omega
 have hmul:(ln+k)*sz<=cap*sz:=eY _ hcap
 have hok:uY m ⟨w.heap.size,0,0,cap*sz,(ln+k)*sz⟩ (rowOf e<|old++vs) (.cells ⟨old'++vs'++rest⟩ e):=by
  refine⟨⟨O,O⟩,by show len (old++vs)=_;rw[fU,hlen],htot,bA _,?_,?_,?_⟩
  .show 0+(len (old++vs)-0)<=cap*sz;rw[fU,hlen];omega
  .intro _;exact bA _
  .intro i a b;have b:i<len (old++vs):=b;rw[fU]at b;rw[show(Tr.tu top (old++vs) 0 .nil).get top i=(old++vs).getD i top from by rw[Tr.l_,if_pos N];rfl];have hgi:(old++vs)[i]?=D ((old++vs).getD i top):=by rw[bD,av b];rfl
   have⟨rg,W,J⟩:=hov.get i hgi;refine⟨rg,?_,J⟩;simp only[uR,aY,jG];rw[bM (by rw[hlen',<-hlen];exact b)];exact W
 have:=rh.alloc (rowOf e<|old++vs) (.cells ⟨old'++vs'++rest⟩ e) 0 0 (cap*sz) ((ln+k)*sz) hok;refine⟨_,?_,this.1,this.2⟩;have y:=VR.sO (m:=m.add H.next ⟨w.heap.size,0,0,cap*sz,(ln+k)*sz⟩) H.next 0 (ln+k) sz cap ⟨w.heap.size,0,0,cap*sz,(ln+k)*sz⟩ (by simp[Mp.add]) (ax _) hs kg hcap (by simp;exact hmul)
 exact y
end mem
section mem
variable{P:aU}
def Kj(c b off lo k:Nat)(hl:lo<=off):(⟨c,b+(off-lo),Q⟩:Addr).add k=⟨c,b+(off+k-lo),Q⟩:=by
 unfold Addr.add;split
 .next h0=>rw[h0,dH]
 .simp only[Addr.mk.injEq,true_and,xS];omega
theorem M0(rh:RH m H w)(r:Nat)(hm:m r≠Q){ak:Tr Z}{off fz:Nat}(hold:k_ m old old')(hvs:k_ m vs vs')(hol:old.length=ln*sz)(hvl:vs.length=k*sz)(hC:∀j,j<ln*sz->old[j]?=D (ak.get top<|off+j))(hcap:ln+k<=cap)(hrest:rest.length=(cap-(ln+k))*sz)(hs:1<=sz):
 ∃m',VR m' (.slice (D ⟨H.next,off,Q⟩) (ln+k)<|fJ sz) (.slice (D ⟨w.heap.size,0,Q⟩) (ln+k) cap)/\
  RH m' ((H.put r .dead).new<|.row ⟨e,Tr.tu top vs (off+ln*sz) ak,off+(ln+k)*sz,aC,fz⟩) (w.alloc<|.cells ⟨old'++vs'++rest⟩ e)/\
  Ex m m' H ((H.put r .dead).new<|.row ⟨e,Tr.tu top vs (off+ln*sz) ak,off+(ln+k)*sz,aC,fz⟩) w (w.alloc<|.cells ⟨old'++vs'++rest⟩ e):=by
 have⟨rk,ek⟩:=rh.kill r hm;have hlen':old'.length=ln*sz:=by rw[<-hold.length,hol]
 have Mg:vs'.length=k*sz:=by rw[<-hvs.length,hvl]
 have hmk:(ln+k)*sz=ln*sz+k*sz:=gX ..
 have htot:(old'++vs'++rest).length=cap*sz:=by
  rw[aQ,aQ,hlen',Mg,hrest,<-gX,<-gX];congr 1;omega
 have hmul:(ln+k)*sz<=cap*sz:=eY _ hcap
 have hok:uY m ⟨w.heap.size,off,0,cap*sz,off+(ln+k)*sz⟩ (.row ⟨e,Tr.tu top vs (off+ln*sz) ak,off+(ln+k)*sz,aC,fz⟩) (.cells ⟨old'++vs'++rest⟩ e):=by
  refine⟨⟨O,O⟩,O,htot,om _ _,?_,?_,?_⟩
  .show 0+(off+(ln+k)*sz-off)<=cap*sz;omega
  .intro _;exact bA _
  .intro i a b;have b:i<off+(ln+k)*sz:=b;have a:off<=i:=a;simp only[uR,aY];rw[Tr.l_,bU]
   by_cases hin:off+ln*sz<=i/\i<off+ln*sz+vs.length
   .rw[if_pos hin]
    have hgi:vs[i-(off+ln*sz)]?=D (vs.getD (i-(off+ln*sz)) top):=by
     rw[bD,av N];rfl
    have⟨rg,W,J⟩:=hvs.get _ hgi;refine⟨rg,?_,J⟩;rw[dV N,hlen',bM N,show i-off-ln*sz=i-(off+ln*sz)from by omega];exact W
   .rw[if_neg hin];have hi:i-off<ln*sz:=N;have h0:=hC (i-off) hi;rw[show off+(i-off)=i from by omega]at h0;have⟨rg,W,J⟩:=hold.get _ h0;refine⟨rg,?_,J⟩;rw[bM N];exact W
 have:=rk.alloc _ (.cells ⟨old'++vs'++rest⟩ e) off 0 (cap*sz) (off+(ln+k)*sz) hok;refine⟨_,?_,this.1,ek.trans this.2⟩
 have y:=VR.sO (m:=m.add (H.put r .dead).next ⟨w.heap.size,off,0,cap*sz,off+(ln+k)*sz⟩) H.next off (ln+k) sz cap ⟨w.heap.size,off,0,cap*sz,off+(ln+k)*sz⟩ (by
  show(if H.next=H.next then _ else _)=_;rw[if_pos O]) (ax _) hs kg hcap (by show off+(ln+k)*sz<=off+cap*sz;omega)
 simpa using y
def Xz(rh:RH m H w){off:Nat}{az:Row}(hm:m r=D l)(hR:H.obj r=.row az)(hse:az.kY=aC)(hlo:l.lo<=off)(hvs:k_ m vs vs')(hvl:vs.length=k*sz)(hok:vs.all fC=f)(hle:off+ln*sz<=az.n)(hfz:az.fz<=off+ln*sz)(ht:l.base+(off-l.lo)+cc*sz=l.tot)(hc:ln+k<=cc)(hs:1<=sz):
 ∃m' w',(storeCells ⟨l.c,l.base+(off+ln*sz-l.lo),Q⟩ vs').run P w=.ok () w'/\
  VR m' (.slice (D ⟨H.next,off,Q⟩) (ln+k)<|fJ sz) (.slice (D ⟨l.c,l.base+(off-l.lo),Q⟩) (ln+k) cc)/\
  RH m' ((H.put r .dead).new<|.row ⟨az.ty,Tr.tu top vs (off+ln*sz) az.cells,off+(ln+k)*sz,aC,az.fz⟩) w'/\
  Ex m m' H ((H.put r .dead).new<|.row ⟨az.ty,Tr.tu top vs (off+ln*sz) az.cells,off+(ln+k)*sz,aC,az.fz⟩) w w':=by
 have⟨M,fr,hb,hnn,J,h3,h4,h5,h6⟩:=row_of rh hm hR;have Mg:vs'.length=k*sz:=by rw[<-hvs.length,hvl]
 have hmk:(ln+k)*sz=ln*sz+k*sz:=gX ..
 have hmul:(ln+k)*sz<=cc*sz:=eY _ hc
 have⟨w',cs',e1,e2,e3,e4,e5,e6,e7,e8,e9⟩:=zw (P:=P) l.c (l.base+(off+ln*sz-l.lo)) az.ty fr vs' 0 M w hb (CL hvs hok) N
  (λj a b d=>by have:=h5 hse;omega)
 have hu:=RH.ad1 rh r l ⟨l.c,l.lo,l.base,l.tot,off+(ln+k)*sz⟩ (.row ⟨az.ty,Tr.tu top vs (off+ln*sz) az.cells,off+(ln+k)*sz,aC,az.fz⟩) (.cells cs' az.ty fr) hm (by rw[hR];simp) O ?_ e2 e6 e5 e7 e8 e9
 .refine⟨_,w',e1,?_,hu.1,hu.2⟩;exact VR.sO (m:=m.add H.next ⟨l.c,l.lo,l.base,l.tot,off+(ln+k)*sz⟩) H.next off (ln+k) sz cc ⟨l.c,l.lo,l.base,l.tot,off+(ln+k)*sz⟩ (by simp[Mp.add]) hlo hs ht hc (by show off+(ln+k)*sz<=off+cc*sz;omega)
 .refine⟨⟨O,base_of (l:=l) rh hm hR⟩,O,by rw[e3];exact J,?_,?_,λ_=>h5 hse,?_⟩
  .show l.lo<=off+(ln+k)*sz;omega
  .show l.base+(off+(ln+k)*sz-l.lo)<=l.tot;omega
  .intro i a b;have b:i<off+(ln+k)*sz:=b;have a:l.lo<=i:=a;show∃v,cs'[l.base+(i-l.lo)]?=D v/\VR m ((Tr.tu top vs (off+ln*sz) az.cells).get top i) v;rw[Tr.l_]
   by_cases hin:off+ln*sz<=i/\i<off+ln*sz+vs.length
   .have hgi:vs[i-(off+ln*sz)]?=D (vs.getD (i-(off+ln*sz)) top):=by
     rw[bD,av N];rfl
    have⟨rg,hu1,hu2⟩:=hvs.get _ hgi;refine⟨rg,?_,by rw[if_pos hin];exact hu2⟩;rw[e4,if_pos N,show l.base+(i-l.lo)-(l.base+(off+ln*sz-l.lo)+0)=i-(off+ln*sz)from by omega];exact hu1
   .have⟨rg,hu1,hu2⟩:=h6 i a N;refine⟨rg,?_,by rw[if_neg hin];exact hu2⟩;rw[e4,if_neg N];exact hu1
end mem
section mem
variable{P:aU}
theorem XA(rh:RH m H w)(h:Dx P ats args H=D (v,T))(ha:k_ m args args'):
 wV P m H w (kP ⟨ats⟩ ty ⟨args'⟩) v T:=by
 have⟨t,ht,h⟩:=aJ h;have⟨t2,ht2,h⟩:=aJ h;have⟨s,hs,h⟩:=aJ h;have⟨x,E,h⟩:=aJ h;have⟨q,hq,h⟩:=aJ h;have⟨p,hp,h⟩:=aJ h;have⟨e,he,h⟩:=aJ h;have⟨hk,h⟩:=fI h;rw[oL]at ht ht2 hs E;have hk:=aF hk;have⟨hu,hsz1,i,z0,zs,d2,hi,hsz,hz0,hzc,hzl,hzs,hu2,hd2,hb,hb1⟩:=adZ hq;have⟨s',hs0,hss⟩:=ha.get 0 hs;have⟨x',hx0,Jw⟩:=ha.get 1 E;rw[xu hp]at hss hs;have⟨base,ln,cp⟩:=p;have⟨k,vs⟩:=e;simp only at hss hs hk;have⟨hlen,vs',hvs,Mg,hnew⟩:=CP (P:=P) rh he Jw;have⟨_,vsd,XB,alx,ZX⟩:=CP (P:=P) rh.drew he Jw;have hvl:vs.length=k*q.2:=by rw[hvs.length];exact Mg
 simp only at hlen hvs Mg hnew XB alx ZX;cases k with
 |zero=>
  replace h:D (s,H)=D (v,T):=h;have hv1:v=s/\T=H:=by cases h;exact⟨O,O⟩
  rw[hv1.1,hv1.2,xu hp];simp only;have hv0:vs'=[]:=gW (by rw[Mg,iQ]);subst hv0;cases base with
  |none=>
   have⟨e1,e2,e3⟩:=hss.uW;subst e1 e2 e3;exact⟨m,_,w,P9 hs0 hx0 (mg ht) (mg ht2) hu hu2 hd2 hi hlen (by rw[<-hsz]at hnew;exact hnew),hss,rh,Ex.refl _ _ _⟩
  |some a=>
   rcases hss.of_slice with⟨lc,cc,hm,hlo,hsp,e1,hcap⟩|⟨a',e1,e2,e3⟩
   .subst e1
    have hcc:ln+0<=cc:=by
     rcases hcap with⟨_,W,J⟩|⟨_,_,_,_,W,_⟩<;>omega
    exact⟨m,_,w,xZ (vs':=[]) hs0 hx0 (mg ht) (mg ht2) hu hu2 hd2 hi hcc hlen (by rw[hsz];exact hnew)<|by simp[storeCells],hss,rh,Ex.refl _ _ _⟩
   .subst e1 e3;exact⟨m,_,w,xZ (vs':=[]) hs0 hx0 (mg ht) (mg ht2) hu hu2 hd2 hi (ax _) hlen (by rw[hsz];exact hnew)<|by simp[storeCells],hss,rh,Ex.refl _ _ _⟩
 |succ k=>
  have grow:∀(base':aB Addr)(ln' cc:Nat)(ad2:C Z),args'[0]?=D (.slice base' ln' cc)->ln'<=16777216->cc<ln'+(k+1)->
   (dP q.2 ln'<|.slice base' ln' cc).run P w.drew=.ok ⟨ad2⟩ w.drew->
   ∃cap rest,ln'+(k+1)<=cap/\rest.length=(cap-(ln'+(k+1)))*q.2/\
    (kP ⟨ats⟩ ty ⟨args'⟩).run P w=.ok (.slice (D ⟨w.drew.heap.size,0,Q⟩) (ln'+(k+1)) cap) (w.drew.alloc<|.cells ⟨ad2++vsd++rest⟩ q.1):=by
   intro base' ln' cc ad2 h0 W J h3;rw[<-hsz]at h3 ZX;have:=ZV (P:=P) (w:=w) (ty:=ty) (old:=ad2) (vs':=vsd) h0 hx0 (mg ht) (mg ht2) hu hu2 hd2 hi hz0 hzc hzl hb hb1 W hk J hlen h3 ZX;rw[hsz]at this;exact this
  cases base with
  |none=>
   have⟨e1,e2,e3⟩:=hss.uW;subst e1 e2 e3;replace h:(gd (aA 0 0&&aA 0 0)<|D<|yA q.1 q.2 (k+1) vs H)=D (v,T):=h;have⟨hg,h⟩:=fI h;cases h;have⟨cap,rest,c1,c2,c3⟩:=grow Q 0 0 [] hs0 N N (by simp[dP]);have⟨m',g1,g2,g3⟩:=Ow (e:=q.1) (ln:=0) (old:=[]) (old':=[]) (vs:=vs) (vs':=vsd) (rest:=rest) (k:=k+1) (cap:=cap) (sz:=q.2) rh.drew .nil XB kg hvl c1 c2 hsz1;rw[aY]at g1 c3;exact⟨m',_,_,c3,g1,g2,(Ex.drew m H w).trans g3⟩
  |some a=>
   replace h:(gd (aD ln 16777216)<|bV (gH cp) (xX q a ln cp (k+1) vs H)<|gd (aA cp<|fJ q.2)<|tQ q a ln cp (k+1) vs H)=D (v,T):=h;have⟨hln,h⟩:=fI h;have hln:=aF hln;cases hkc:gH cp with
   |true=>
    rw[hkc]at h
    replace h:(bV (aD (aZ ln<|k+1) cp)
     (aL (H.write a.block (aZ a.off<|bO ln q.2) vs) λT=>D (.slice (D a) (aZ ln<|k+1) cp,T))
     (aL (H.read a.block a.off<|bO ln q.2) λold=>D<|yA q.1 q.2 (aZ ln<|k+1) (app old vs) H))=D (v,T):=h
    rcases hss.of_slice with⟨lc,cc,hm,hlo,hsp,e1,hcap⟩|⟨a',e1,e2,e3⟩
    .subst e1
     obtain⟨rfl,ank⟩:cc=cp/\ln<=cp:=by
      rcases hcap with⟨_,W,J⟩|⟨es,W,_⟩
      .exact⟨W,J⟩
      .exact absurd W<|DF hkc
     by_cases hroom:ln+(k+1)<=cc
     .rw[show aD (aZ ln<|k+1) cc=f from aI hroom]at h;replace h:(aL (H.write a.block (aZ a.off<|bO ln q.2) vs) λT=>D (I (D a) (aZ ln<|k+1) cc,T))=D (v,T):=h;have⟨H1,hH1,h⟩:=aJ h;cases h;have⟨w',r1,r2,r3⟩:=CO (P:=P) rh hH1 hvs hm<|a_ hlo<|om _ _;refine⟨m,_,w',xZ (vs':=vs') hs0 hx0 (mg ht) (mg ht2) hu hu2 hd2 hi hroom hlen (by rw[hsz];exact hnew) (by rw[Kj _ _ _ _ _ hlo,hsz];exact r1),?_,r2,r3⟩;have⟨ab,ao,asp⟩:=a;simp only at hsp hm hlo;subst hsp;exact VR.slice ab ao (ln+(k+1)) cc lc hm hlo hkc hroom
     .rw[show aD (aZ ln<|k+1) cc=aC from by rw[<-b_];exactλhh=>hroom<|aF hh]at h;replace h:(aL (H.read a.block a.off<|bO ln q.2) λold=>D<|yA q.1 q.2 (aZ ln<|k+1) (app old vs) H)=D (v,T):=h;have⟨old,hold,h⟩:=aJ h;cases h;have⟨old',o1,o2,o3⟩:=yO (P:=P) rh.drew hold hm hlo;have⟨cap,rest,c1,c2,c3⟩:=grow _ ln cc old' hs0 hln N (by simp only[dP];exact o3);have⟨m',g1,g2,g3⟩:=Ow (e:=q.1) (ln:=ln) (vs:=vs) (vs':=vsd) (rest:=rest) (k:=k+1) (cap:=cap) (sz:=q.2) rh.drew o1 XB (by rw[o1.length];exact o2) hvl c1 c2 hsz1;rw[qB];exact⟨m',_,_,c3,g1,g2,(Ex.drew m H w).trans g3⟩
    .subst e1 e3
     have hcp:cp=0:=by
      rcases e2 with W|⟨es,l,W,_⟩
      .exact W
      .exact absurd W<|DF hkc
     subst hcp;rw[show aD (aZ 0<|k+1) 0=aC from by rw[<-b_];intro hh;have:=aF hh;simp at this]at h;replace h:(aL (H.read a.block a.off<|bO 0 q.2) λold=>D<|yA q.1 q.2 (aZ 0<|k+1) (app old vs) H)=D (v,T):=h;rw[show bO 0 q.2=0 from iQ _]at h;replace h:D (yA q.1 q.2 (aZ 0<|k+1) (app [] vs) H)=D (v,T):=h;cases h;have⟨cap,rest,c1,c2,c3⟩:=grow _ 0 0 [] hs0 N N (by simp[dP,loadCells,loadCellsFrom]);have⟨m',g1,g2,g3⟩:=Ow (e:=q.1) (ln:=0) (old:=[]) (old':=[]) (vs:=vs) (vs':=vsd) (rest:=rest) (k:=k+1) (cap:=cap) (sz:=q.2) rh.drew .nil XB kg hvl c1 c2 hsz1;exact⟨m',_,_,c3,g1,g2,(Ex.drew m H w).trans g3⟩
   |false=>
    rw[hkc]at h;replace h:(gd (aA cp<|fJ q.2)<|tQ q a ln cp (k+1) vs H)=D (v,T):=h;have⟨Jy,h⟩:=fI h;have Jy:=aW Jy;have⟨az,hR,h⟩:=aJ h;have⟨hgR,h⟩:=fI h;have Ie:=uh hR;simp only[bg]at hgR;have hRt:az.ty=q.1:=aW hgR.1
    by_cases hin:a.off+(ln+(k+1))*q.2<=az.n
    .rw[show aD (aZ a.off<|bO (aZ ln<|k+1) q.2) az.n=f from aI hin]at h;replace h:(aL (H.write a.block (aZ a.off<|bO ln q.2) vs) λT=>D (I (D a) (aZ ln<|k+1) cp,T))=D (v,T):=h;have⟨H1,hH1,h⟩:=aJ h;cases h;rcases hss.of_slice with⟨lc,cc,hm,hlo,hsp,e1,hcap⟩|⟨a',e1,e2,e3⟩
     .subst e1
      obtain⟨es,W,J,h3,h4,h5⟩:∃es,cp=fJ es/\0<es/\lc.base+(a.off-lc.lo)+cc*es=lc.tot/\ln<=cc/\lc.n<=a.off+cc*es:=by
       rcases hcap with⟨W,_⟩|W
       .rw[hkc]at W;cases W
       .exact W
      have hes:es=q.2:=by
       rw[Jy]at W;have h1':18446744073709551616+q.2=18446744073709551616+es:=W;omega
      subst hes;have⟨_,_,_,hnn,_⟩:=row_of rh hm Ie
      have hroom:ln+(k+1)<=cc:=by
       rw[hnn]at hin;exact rF (c:=q.2) N J
      have⟨w',r1,r2,r3⟩:=CO (P:=P) rh hH1 hvs hm<|a_ hlo<|om _ _;refine⟨m,_,w',xZ (vs':=vs') hs0 hx0 (mg ht) (mg ht2) hu hu2 hd2 hi hroom hlen (by rw[hsz];exact hnew) (by rw[Kj _ _ _ _ _ hlo,hsz];exact r1),?_,r2,r3⟩;have⟨ab,ao,asp⟩:=a;simp only at hsp hm hlo h3 h5;subst hsp;rw[Jy];exact VR.sO ab ao (ln+(k+1)) q.2 cc lc hm hlo J h3 hroom h5
     .subst e1
      obtain⟨es,l,W,J,h3,h4,h5,h6⟩:∃es l,cp=fJ es/\m a.block=D l/\l.lo<=a.off/\0<es/\l.n<=a.off/\a.spot=Q:=by
       rcases e2 with W|W
       .rw[W]at hkc;simp[gH]at hkc
       .exact W
      have⟨_,_,_,hnn,_⟩:=row_of rh J Ie;have:1*1<=(0+(k+1))*q.2:=gY N hsz1;omega
    .rw[show aD (aZ a.off<|bO (aZ ln<|k+1) q.2) az.n=aC from by rw[<-b_];exactλhh=>hin<|aF hh]at h
     replace h:(gd (aD (aZ a.off<|bO ln q.2) az.n&&aD az.fz (aZ a.off<|bO ln q.2)&&all' fC vs)
      (D (I (D ⟨H.next,a.off,Q⟩) (aZ ln<|k+1) cp,
      (H.put a.block .dead).new (.row ⟨az.ty,Tr.tu top vs (aZ a.off<|bO ln q.2) az.cells,aZ a.off<|bO (aZ ln<|k+1) q.2,aC,az.fz⟩))))=D (v,T):=h
     have⟨hg,h⟩:=fI h;cases h;simp only[bg,all_eq]at hg;have hg1:a.off+ln*q.2<=az.n:=aF hg.1.1;have hg2:az.fz<=a.off+ln*q.2:=aF hg.1.2;have hg3:=hg.2;rcases hss.of_slice with⟨lc,cc,hm,hlo,hsp,e1,hcap⟩|⟨a',e1,e2,e3⟩
     .subst e1
      obtain⟨es,W,J,h3,h4,h5⟩:∃es,cp=fJ es/\0<es/\lc.base+(a.off-lc.lo)+cc*es=lc.tot/\ln<=cc/\lc.n<=a.off+cc*es:=by
       rcases hcap with⟨W,_⟩|W
       .rw[hkc]at W;cases W
       .exact W
      have hes:es=q.2:=by
       rw[Jy]at W;have h1':18446744073709551616+q.2=18446744073709551616+es:=W;omega
      subst hes
      by_cases hroom:ln+(k+1)<=cc
      .have⟨m',w',r1,r2,r3,r4⟩:=Xz (P:=P) rh (ln:=ln) hm Ie (mg hgR.2) hlo hvs hvl hg3 hg1 hg2 h3 hroom hsz1;rw[Jy];exact⟨m',_,w',xZ (vs':=vs') hs0 hx0 (mg ht) (mg ht2) hu hu2 hd2 hi hroom hlen (by rw[hsz];exact hnew) (by rw[Kj _ _ _ _ _ hlo,hsz];exact r1),r2,r3,r4⟩
      .have hrd:H.read a.block a.off (ln*q.2)=D (Tr.Ep top az.cells a.off<|ln*q.2):=by
        cases hz:ln*q.2 with
        |zero=>rfl
        |succ n=>
         show(aL (vZ<|H.obj a.block) λw=>gd (aD (aZ a.off<|n+1) w.n)<|D<|Tr.Ep top w.cells a.off<|n+1)=_;rw[hR];show(gd (aD (aZ a.off<|n+1) az.n) _)=_;rw[show aD (aZ a.off<|n+1) az.n=f from aI (by rw[<-hz];exact hg1)];rfl
       have⟨old',o1,o2,o3⟩:=yO (P:=P) rh.drew hrd hm hlo;have⟨cap,rest,c1,c2,c3⟩:=grow _ ln cc old' hs0 hln N (by simp only[dP];exact o3);have⟨m',g1,g2,g3⟩:=M0 (e:=az.ty) (fz:=az.fz) (off:=a.off) (ak:=az.cells) (ln:=ln) (vs:=vs) (vs':=vsd) (rest:=rest) (k:=k+1) (cap:=cap) (sz:=q.2) rh.drew a.block (by rw[hm];simp) o1 XB (by rw[o1.length];exact o2) hvl (λj hj=>Vd _ _ _ _ _ hj) c1 c2 hsz1;rw[Jy,<-hRt]at*;exact⟨m',_,_,c3,g1,g2,(Ex.drew m H w).trans g3⟩
     .have hm0:m a.block≠Q:=by
       rcases e2 with W|⟨es,l,W,J,_⟩
       .rw[W]at hkc;simp[gH]at hkc
       .rw[J];simp
      subst e1 e3;have⟨cap,rest,c1,c2,c3⟩:=grow _ 0 0 [] hs0 N N (by simp[dP,loadCells,loadCellsFrom]);have⟨m',g1,g2,g3⟩:=M0 (e:=az.ty) (fz:=az.fz) (off:=a.off) (ak:=az.cells) (old:=[]) (old':=[]) (ln:=0) (vs:=vs) (vs':=vsd) (rest:=rest) (k:=k+1) (cap:=cap) (sz:=q.2) rh.drew a.block hm0 .nil XB kg hvl (λj hj=>N) c1 c2 hsz1;rw[Jy];rw[<-hRt]at c3;exact⟨m',_,_,c3,g1,g2,(Ex.drew m H w).trans g3⟩
end mem
section mem
variable{P:aU}
def XC(rh:RH m H w){e:Nat×C Z}(h:appended H sz x=D e)(E:VR m x x'):
 (∀w,(kN x').run P w=.ok e.1 w)/\∃vs',k_ m e.2 vs'/\vs'.length=e.1*sz/\∀n,n<=e.1->(dP sz n x').run P w=.ok ⟨vs'.take<|n*sz⟩ w:=by
 refine⟨(CP (P:=P) rh h E).1,?_⟩;unfold appended at h;cases hs:uj x with
 |some s=>
  rw[hs]at h;replace h:(gd (aA sz 1)<|D (len s.data.toList,o8 s.data.toList))=D e:=h;have⟨hg,h⟩:=fI h;cases h;have hg:=aW hg;subst hg;rw[pO hs]at E;have:=E.wB;subst this;refine⟨o8 s.data.toList,k_.nE<|Ij _,by rw[xy];simp[fU],?_⟩;intro n hn;have hd:(s.extract 0 n).data=s.data.extract 0 n:=by rw[pW]
  simp only[dP];rw[hd,xy,dz];show Result.ok _ w=Result.ok _ w;congr 1;rw[<-iZ];simp
 |none=>
  rw[hs]at h
  replace h:(aL (I7 x) λp=>@aM Addr (λ_=>aB<|Nat×C Z) (gd (aA p.2.1 0)<|D (0,[]))
   (λa=>aL (H.read a.block a.off<|bO p.2.1 sz) λl=>D (p.2.1,l)) p.1)=D e:=h
  have⟨p,hp,h⟩:=aJ h;rw[xu hp]at E;have⟨pa,n,cp⟩:=p;cases pa with
  |none=>
   obtain⟨W,J,rfl⟩:=E.uW;replace h:(gd (aA n 0)<|D (0,([]:C Z)))=D e:=h;have⟨hg,h⟩:=fI h;cases h;exact⟨[],.nil,by simp,λn hn=>by simp[dP]⟩
  |some a=>
   replace h:(aL (H.read a.block a.off<|bO n sz) λl=>D (n,l))=D e:=h;have⟨l,hl,h⟩:=aJ h;cases h;simp only at E;rcases E.of_slice with⟨lc,cc,hm,hlo,hsp,rfl,_⟩|⟨a',e1,e2,rfl⟩
   .have⟨vs',W,J,h3⟩:=Fz rh hl hm hlo;refine⟨vs',W,J,?_⟩;intro k hk;simp only[dP]
    have hkl:(vs'.take<|k*sz).length=k*sz:=by
     rw[dF,J];exact iV<|eY _ hk
    rw[show k*sz=(vs'.take<|k*sz).length from hkl.symm];rw[hkl]
    have:=run_loadCells_list (P:=P) w ⟨lc.c,lc.base+(a.off-lc.lo),Q⟩ (vs'.take<|k*sz) (λj v hj=>h3 j v (by
     rw[iW]at hj;split at hj
     .exact hj
     .cases hj))
    rw[hkl]at this;exact this
   .subst e1;have hz:bO 0 sz=0:=iQ sz;rw[hz]at hl;cases hl;refine⟨[],.nil,by simp,?_⟩;intro n hn;have:n=0:=mg hn;subst this;simp[dP,loadCells,loadCellsFrom]
def ad3(rh:RH m H w)(h:MP P ats args H=D (v,T))(ha:k_ m args args'):
 wV P m H w (Builtin.copy_ ⟨ats⟩ ty ⟨args'⟩) v T:=by
 have⟨t,ht,h⟩:=aJ h;have⟨d,hd,h⟩:=aJ h;have⟨x,E,h⟩:=aJ h;have⟨q,hq,h⟩:=aJ h;have⟨p,hp,h⟩:=aJ h;have⟨e,he,h⟩:=aJ h;rw[oL]at ht hd E;have⟨hu,⟨i,hi,hsz⟩,hs1⟩:=Bt hq;have⟨d',hd0,hdd⟩:=ha.get 0 hd;have⟨x',hx0,Jw⟩:=ha.get 1 E;rw[xu hp]at hdd;have⟨base,ln,cp⟩:=p;have⟨k,vs⟩:=e;have⟨hlen,vs',hvs,hvl,Te⟩:=XC (P:=P) rh he Jw;simp only at hdd hlen hvs hvl Te;have hat:(⟨ats⟩:Array aH)[0]?=D t:=mg ht;have ha0:(⟨args'⟩:Array Z)[0]?=D d':=mg hd0;have ha1:(⟨args'⟩:Array Z)[1]?=D x':=mg hx0;cases base with
 |none=>
  have⟨e1,e2,e3⟩:=hdd.uW;subst e1 e2 e3;replace h:(gd (aA 0 0)<|D (bX .i64 0,H))=D (v,T):=h;have⟨hg,h⟩:=fI h;cases h;have hf:=Te 0<|bA _;refine⟨m,_,w,?_,.sc _ O,rh,Ex.refl _ _ _⟩;have hmin:Nat.min k 0=0:=Nat.min_zero k;simp[Builtin.copy_,hat,ha0,ha1,fq hu,hlen,jU hi,hsz,hmin,hf,goInt]
 |some a=>
  replace h:(aL (H.write a.block a.off<|tk (bO (bV (aD k ln) k ln) q.2) vs) λT=>D (bX .i64<|.ofNat<|bV (aD k ln) k ln,T))=D (v,T):=h
  have hb:bV (aD k ln) k ln=Nat.min k ln:=by
   by_cases hh:k<=ln
   .rw[show aD k ln=f from aI hh];exact(iV hh).symm
   .rw[show aD k ln=aC from by rw[<-b_];exactλg=>hh<|aF g];exact(uJ<|Nat.le_of_not_le hh).symm
  rw[hb,HY]at h;have⟨H1,hH1,h⟩:=aJ h;cases h;have hf:=Te (Nat.min k ln)<|Nat.min_le_left _ _;have hvt:k_ m (vs.take<|bO (Nat.min k ln) q.2) (vs'.take<|Nat.min k ln*q.2):=hvs.take _;rcases hdd.of_slice with⟨lc,cc,hm,hlo,hsp,rfl,_⟩|⟨a',e1,e2,rfl⟩
  .have⟨w',r1,r2,r3⟩:=CO (P:=P) rh hH1 hvt hm hlo;refine⟨m,_,w',?_,.sc _ O,r2,r3⟩;simp only[Builtin.copy_,hat,ha0,ha1,dw,fq hu,bR,hlen,jU hi,hsz,hf,r1,dI];rfl
  .subst e1;have hz:bO (Nat.min k 0) q.2=0:=by rw[show Nat.min k 0=0 from Nat.min_zero k];exact iQ _
   rw[hz]at hH1
   have hz9:T=H:=by
    replace hH1:D H=D T:=hH1;cases hH1;rfl
   subst hz9;refine⟨m,_,w,?_,.sc _ O,rh,Ex.refl _ _ _⟩;have hz':Nat.min k 0*q.2=0:=hz;simp only[Builtin.copy_,hat,ha0,ha1,dw,fq hu,bR,hlen,jU hi,hsz,hf,hz',kC,storeCells,dI];rfl
def ZY(rh:RH m H w)(h:Gy P ats args H=D (v,T))(ha:k_ m args args'):
 wV P m H w (Builtin.clear_ ⟨ats⟩ ty ⟨args'⟩) v T:=by
 have⟨t,ht,h⟩:=aJ h;have⟨d,hd,h⟩:=aJ h;have⟨q,hq,h⟩:=aJ h;have⟨z,hz,h⟩:=aJ h;have⟨p,hp,h⟩:=aJ h;rw[oL]at ht hd;have⟨hu,⟨inf,hi,hsz⟩,hs1⟩:=Bt hq;have⟨i,z0,hi',hz0,ZP,hlen,hs⟩:=yU hz;rw[hi]at hi';cases hi';have⟨d',hd0,hdd⟩:=ha.get 0 hd;rw[xu hp]at hdd;have⟨base,ln,cp⟩:=p;have hat:(⟨ats⟩:Array aH)[0]?=D t:=mg ht;have ha0:(⟨args'⟩:Array Z)[0]?=D d':=mg hd0;have hv:VR m (.tuple #[]) (.tuple #[]):=.tuple [] [] .nil;cases base with
 |none=>
  have⟨e1,e2,e3⟩:=hdd.uW;subst e1 e2 e3;replace h:D ((.tuple #[]:Z),H)=D (v,T):=h;cases h;refine⟨m,_,w,?_,hv,rh,Ex.refl _ _ _⟩;simp[Builtin.clear_,hat,ha0,fq hu]
 |some a=>
  replace h:(aL (H.write a.block a.off<|o7 z ln) λT=>D ((.tuple #[]:Z),T))=D (v,T):=h;have⟨H1,hH1,h⟩:=aJ h;cases h;have hzc:z0.cells=⟨z⟩:=by rw[ZP]
  have hvr:k_ m (o7 z ln) (o7 z ln):=k_.nE (m:=m)<|GG hs ln
  have hzs:Builtin.zeroCells z0.cells ln=⟨o7 z ln⟩:=by
   rw[hzc];exact Kb z ln
  rcases hdd.of_slice with⟨lc,cc,hm,hlo,hsp,rfl,_⟩|⟨a',e1,e2,rfl⟩
  .have⟨w',r1,r2,r3⟩:=CO (P:=P) rh hH1 hvr hm hlo;refine⟨m,_,w',?_,hv,r2,r3⟩;cases ln with
   |zero=>
    have hw:w'=w:=by
     have r1:(storeCells ⟨lc.c,lc.base+(a.off-lc.lo),Q⟩ ([]:C Z)).run P w=.ok () w':=r1;simp[storeCells]at r1;exact r1.symm
    subst hw;simp[Builtin.clear_,hat,ha0,fq hu]
   |succ ln=>
    simp only[Builtin.clear_,hat,ha0,dw,fq hu,bR,zo hi hz0,hzs,r1,dI]
  .subst e1
   have hz9:T=H:=by
    replace hH1:D H=D T:=hH1;cases hH1;rfl
   subst hz9;refine⟨m,_,w,?_,hv,rh,Ex.refl _ _ _⟩;simp[Builtin.clear_,hat,ha0,fq hu]
end mem
section mem
variable{P:aU}
def XD(f0:∀ats ty n c w,(ay ats ty #[.slice Q n c]).run P w=.ok (.pointer Q) w)(f1:∀ats ty a n c w,(ay ats ty #[.slice (D a) n (c+1)]).run P w=.ok (.pointer<|D a) w)(rh:RH m H w){ats:Array aH}(h:Fw args H=D (v,T))(ha:k_ m args args'):
 wV P m H w (ay ats ty ⟨args'⟩) v T:=by
 have⟨hl,h⟩:=fI h;have⟨x,E,h⟩:=aJ h;have⟨p,hp,h⟩:=aJ h;rw[oL]at E;rw[fU]at hl;have hl:=aW hl;have⟨x',hx0,Jw⟩:=ha.get 0 E;have hl':args'.length=1:=by rw[<-ha.length,hl]
 have he:args'=[x']:=by
  match args',hl',hx0 with
  |[hr],_,h0=>cases h0;rfl
 subst he;rw[xu hp]at Jw;have⟨base,ln,cp⟩:=p;cases base with
 |none=>
  have⟨e1,e2,e3⟩:=Jw.uW;subst e1 e2 e3;replace h:D (uy Q,H)=D (v,T):=h;cases h;exact⟨m,_,w,f0 ats ty 0 0 w,.sc _ O,rh,Ex.refl _ _ _⟩
 |some a=>
  replace h:(gd (aD 1 ln||(gH cp&&aD 1 cp))<|D (uy<|D a,H))=D (v,T):=h;have⟨hg,h⟩:=fI h;cases h;simp only[jY,bg]at hg;rcases Jw.of_slice with⟨lc,cc,hm,hlo,hsp,e1,hcap⟩|⟨a',e1,e2,e3⟩
  .subst e1
   have hcc:cc≠0:=by
    rcases hcap with⟨h0,W,J⟩|⟨es,W,J,h3,h4,h5⟩
    .simp only at W J;rcases hg with g|g
     .have:=aF g;omega
     .have:=aF g.2;omega
    .rcases hg with g|g
     .have:=aF g;simp only at h4;omega
     .exact absurd W<|DF g.1
   refine⟨m,_,w,(by obtain⟨k,rfl⟩:∃k,cc=k+1:=⟨cc-1,N⟩;exact f1 ats ty _ _ k w),?_,rh,Ex.refl _ _ _⟩;have⟨ab,ao,asp⟩:=a;simp only at hsp hm hlo;subst hsp;exact VR.ptr ab ao lc hm hlo
  .exfalso;simp only at e1 e2;subst e1;rcases hg with g|g
   .simp at g
   .rcases e2 with W|⟨es,l,W,_⟩
    .subst W;simp at g
    .exact absurd W<|DF g.1
theorem Mh(w:bY)(e:aH)(s:aV):
 Lib.bytesWorld w e s=w.drew.alloc (.cells (jE w e s) e ((jE w e s).size,(jE w e s).size+1)):=by
 unfold Lib.bytesWorld World.freeze;rw[if_neg N];unfold World.alloc;congr 1;apply sJ;intro i;rw[iN];have hd:w.drew.heap=w.heap:=rfl;simp only[hd]
 by_cases hi:w.heap.size=i
 .subst hi;simp
 .rw[if_neg hi];rw[oH,oH,if_neg<|oW hi,if_neg<|oW hi]
def P_(rh:RH m H w){d:aH}{rg:fu}(h:Es P q x H=D (v,T))(E:VR m x x')(hs:P.underlying s=D rg)(hd:P.underlying d=D (.slice q.1)):wV P m H w (convert s d x') v T:=by
 have⟨b,hb,h⟩:=aJ h;have⟨hg,h⟩:=fI h;cases h;simp only[bg]at hg;rw[pO hb]at E;have:=E.wB;subst this;have hrun:=Lib.run_convert_string_bytes (P:=P) w s d q.1 b hs hd<|PY hg.2;rw[Mh]at hrun;have hsz:b.size=b.data.toList.length:=rfl;have hcap:b.size<=grownCap w b.size 0 q.1:=by simp[grownCap,Question.cut]
 have hcs:(jE w q.1 b).size=grownCap w b.size 0 q.1:=by
  simp[jE];have:b.data.size=b.size:=rfl;omega
 have hok:uY m ⟨w.drew.heap.size,0,0,grownCap w b.size 0 q.1,b.size⟩ (.row ⟨q.1,Tr.tu top (o8 b.data.toList) 0 .nil,len b.data.toList,f,0⟩)
  (.cells (jE w q.1 b) q.1 ((jE w q.1 b).size,(jE w q.1 b).size+1)):=by
  refine⟨⟨O,O⟩,by rw[fU];rfl,hcs,bA _,?_,?_,?_⟩
  .show 0+(len b.data.toList-0)<=_;rw[fU,<-hsz];simpa using hcap
  .intro hh;cases hh
  .intro i a c;have c:i<len b.data.toList:=c;rw[fU]at c;show∃v,(jE w q.1 b)[0+(i-0)]?=D v/\VR m ((Tr.tu top (o8 b.data.toList) 0 .nil).get top i) v;have hbl:(o8 b.data.toList).length=b.data.toList.length:=by rw[xy];simp
   rw[Tr.l_,if_pos N,xy];have hi:i<b.data.size:=mg c;refine⟨.int .u8 b.data[i].toNat,?_,?_⟩
   .have hi':i<b.size:=hi;simp[jE,Array.getElem?_append,hi,hi']
   .rw[bD];have hg:((b.data.toList.map λb=>bX .u8 b.toNat)[i]?.getD top)=bX .u8 b.data[i].toNat:=by simp[bC hi]
    rw[jG,hg];exact .sc _ O
 have:=rh.drew.alloc _ _ 0 0 (grownCap w b.size 0 q.1) b.size hok;refine⟨_,_,_,hrun,?_,this.1,(Ex.drew m H w).trans this.2⟩
 have y:=VR.sO (m:=m.add H.next ⟨w.drew.heap.size,0,0,grownCap w b.size 0 q.1,b.size⟩) H.next 0 b.size 1 (grownCap w b.size 0 q.1) ⟨w.drew.heap.size,0,0,grownCap w b.size 0 q.1,b.size⟩
  (by simp[Mp.add]) (ax _) N kg hcap (mg hcap)
 rw[fU,<-hsz];exact y
theorem M_:∀{l l':C Z}{bs:C UInt8},rT l=D bs->k_ m l l'->l'=bs.map (λb=>bX .u8 b.toNat):=by
 intro l
 induction l with
 |nil=>intro l' bs h hv;cases hv;cases h;rfl
 |cons x l ih=>
  intro l' bs h hv;replace h:(aL (tL x) λp=>aL (JU p.2) λn=>gd (I8 p.1&&aD n 255)<|aL (rT l) λbs=>D<|jd n::bs)=D bs:=h;have⟨p,hp,h⟩:=aJ h;have⟨n,hn,h⟩:=aJ h;have⟨hg,h⟩:=fI h;have⟨r,y,h⟩:=aJ h;cases h;cases hv with
  |cons _ v' _ t' W J=>
   simp only[bg]at hg;have hle:=aF hg.2;rw[qp hp]at W;have:=W.of_int;subst this
   have hk:p.1=.u8:=by
    have:=hg.1;cases hp1:p.1<;>rw[hp1]at this<;>first|rfl|(simp[I8]at this)
   rw[ih y J,hk,Od hn];simp;omega
def Qa(rh:RH m H w){d:aH}(h:Et P q x H=D (v,T))(E:VR m x x')(hs:P.underlying s=D (.slice q.1))(hd:P.underlying d=D .string):wV P m H w (convert s d x') v T:=by
 have⟨p,hp,h⟩:=aJ h;have⟨hg,h⟩:=fI h;simp only[bg]at hg;have hu8:=PY hg.2;rw[xu hp]at E;have⟨base,ln,cp⟩:=p;cases base with
 |none=>
  have⟨e1,e2,e3⟩:=E.uW;subst e1 e2 e3;replace h:D (fT ⟨⟨[]⟩⟩,H)=D (v,T):=h;cases h;refine⟨m,_,w,?_,.sc _ O,rh,Ex.refl _ _ _⟩;rw[run_convert_bytes_string w s d q.1 Q 0 0 hs hu8 hd];rfl
 |some a=>
  replace h:(aL (H.read a.block a.off ln) λl=>aL (rT l) λbs=>D (fT ⟨⟨bs⟩⟩,H))=D (v,T):=h;have⟨l,hl,h⟩:=aJ h;have⟨bs,hbs,h⟩:=aJ h;cases h;rcases E.of_slice with⟨lc,cc,hm,hlo,hsp,e1,hcap⟩|⟨a',e1,e2,e3⟩
  .subst e1;have⟨vs',W,J,h3⟩:=Fz rh hl hm hlo;have he:=M_ hbs W;have hln:bs.length=ln:=by rw[<-J,he];simp
   refine⟨m,_,w,?_,.sc _ O,rh,Ex.refl _ _ _⟩;simp only;rw[<-hln]
   exact run_convert_bytes_back w s d q.1 _ cc bs hs hu8 hd (λj hj=>by
    apply h3 j;rw[he];simp[hj])
  .simp only at e1;subst e1 e3;replace hl:D ([]:C Z)=D l:=hl;cases hl;cases hbs;refine⟨m,_,w,?_,.sc _ O,rh,Ex.refl _ _ _⟩;exact run_convert_bytes_back w s d q.1 _ 0 [] hs hu8 hd (λj hj=>by simp at hj)
end mem
section mem
variable{P:aU}
def Kk(rh:RH m H w){az:Row}(hm:m r=D l)(ho:H.obj r=.row az):w.shape? l.c=D (az.ty,l.tot):=by
 have⟨M,fr,hb,_,J,_⟩:=row_of rh hm ho;simp[World.shape?,hb,J]
def Kl{s:aH×Nat}(h:w.shape? a.block=D s):(Conv.seenAt a).run P w=.ok a w:=by
 simp[Conv.seenAt,viewAt,h]
def Vi(hu:Fv du=f):∃(cs:aH->aH->fu->fu->Z->Sem Z)(aa:aH->aH->fu->fu->Z->Sem Z)(hx:Addr->aH->Sem Z),
 (∀s d x,convert s d x=do let a<-underlying s;let b<-underlying d;cs s d a b x)/\
 (∀s d e x,cs s d (.pointer e) du x=do let p<-underlying s;let q<-underlying d;aa s d p q x)/\
 (∀s d e x,cs s d du (.pointer e) x=do let p<-underlying s;let q<-underlying d;aa s d p q x)/\
 (∀s d e a,aa s d (.pointer e) du (.pointer<|D a)=do
  let z<-Conv.seenAt a
  let nothing:=match<-cellsIn z.block with
   |some cells=>z.off>=cells&&z.spot.isNone
   |none=>aC
  if(<-sizeOf e)=0||nothing then pure (.pointer<|D ⟨<-newObj (.view z e),0,Q⟩)else
  pure (.pointer<|D z))/\
 (∀s d rg a,aa s d du (.pointer rg) (.pointer<|D a)=do
  let a<-Conv.seenAt a
  if(<-sizeOf rg)=0||(<-variablesAt a rg 1)then pure (.pointer<|D a)
  else hx a rg):=by
 cases du<;>first|(replace hu:aC=f:=hu;cases hu;done)|exact⟨_,_,_,λ_ _ _=>rfl,λ_ _ _ _=>rfl,λ_ _ _ _=>rfl,λ_ _ _ _=>rfl,λ_ _ _ _=>rfl⟩
def GH(rh:RH m H w){d:aH}(h:J2 P e x H=D (v,T))(E:VR m x x')(hs:P.underlying s=D (.pointer e))(hu:Fv du=f)(hd:P.underlying d=D du):wV P m H w (convert s d x') v T:=by
 have⟨a,ha,h⟩:=aJ h;have⟨sz,hsz,h⟩:=aJ h;have⟨az,hR,h⟩:=aJ h;have⟨hg,h⟩:=fI h;cases h;have hx0:=E;rw[pN ha]at E;have Ie:=uh hR;obtain⟨l,hm,hlo,hsp,rfl⟩:=E.tV;simp only[bg]at hg;have g1:=aF hg.1;have g2:a.off+1<=az.n:=aF hg.2;have⟨i,hi,hsz⟩:=q8 hsz;have hsh:=Kk rh hm Ie;have⟨M,fr,hb,hnn,J,h3,h4,h5,h6⟩:=row_of rh hm Ie;refine⟨m,_,w,?_,hx0,rh,Ex.refl _ _ _⟩;have hse:=Kl (P:=P) (w:=w) (a:=⟨l.c,l.base+(a.off-l.lo),Q⟩) hsh;have hoff:¬(l.tot<=l.base+(a.off-l.lo)):=N;have hsz0:i.size≠0:=N;have⟨cs,aa,hx,c1,c2,c3,c4,c5⟩:=Vi hu;rw[c1];simp only[dw,fq hs,fq hd,bR,c2,c4];simp[hse,cellsIn,hsh,jU hi,hsz0,hoff]
def Na{s:Nat}(hc:P.cellsOf e=s)(hs:1<=s)(count off n:Nat)(hm:off %s=0)(hn:off/s+n<=count):liesAt P P.depth e count off e n=f:=by
 have hd:P.depth=(2*(P.types.size+Made.depth)+1)+1:=rfl;rw[hd];simp only[liesAt,jY];left;rw[hd];have hs0:s≠0:=N;simp[rowAt,hc,hn,hm,hs0,sameLayout]
def FB(h:P.info? t=D i):P.cellsOf t=i.size:=by
 simp[Program.cellsOf,h]
def GI(rh:RH m H w){d:aH}(h:J3 P e x H=D (v,T))(E:VR m x x')(hu:Fv du=f)(hs:P.underlying s=D du)(hd:P.underlying d=D (.pointer e)):wV P m H w (convert s d x') v T:=by
 have⟨a,ha,h⟩:=aJ h;have⟨sz,hsz,h⟩:=aJ h;have⟨az,hR,h⟩:=aJ h;have⟨hg,h⟩:=fI h;cases h;have hx0:=E;rw[pN ha]at E;have Ie:=uh hR;obtain⟨l,hm,hlo,hsp,rfl⟩:=E.tV;simp only[bg]at hg;have g1:=aF hg.1.1.1;have g2:az.ty=e:=aW hg.1.1.2;have g3:=aW hg.1.2;have g4:=aF hg.2;have⟨i,hi,hsz⟩:=q8 hsz;have hsh:=Kk rh hm Ie;have hbase:=base_of rh hm Ie;have⟨M,fr,hb,hnn,J,h3,h4,h5,h6⟩:=row_of rh hm Ie;refine⟨m,_,w,?_,hx0,rh,Ex.refl _ _ _⟩;have hoff:l.base+(a.off-l.lo)=0:=N;rw[hoff];have hse:=Kl (P:=P) (w:=w) (a:=⟨l.c,0,Q⟩) hsh;have hc:P.cellsOf e=sz:=by rw[FB hi,hsz]
 have hl:=Na (P:=P) hc g1 (l.tot/sz) 0 1 (Nat.zero_mod _) (by
  rw[Nat.zero_div];have:sz<=l.tot:=N;have:=Nat.div_pos this N;omega)
 rw[g2]at hsh;have⟨cs,aa,hx,c1,c2,c3,c4,c5⟩:=Vi hu;rw[c1];simp only[dw,fq hs,fq hd,bR,c3,c5];simp[hse,variablesAt,hsh,jU hi,hc,hl]
end mem
section mem
variable{P:aU}
def XE{o:Nat}{fr:Nat×Nat}(h:w.heap[c]?=D (.cells M ty fr))(hn:n≠0):
 (w.freeze ⟨c,o,Q⟩ n).heap[c]?=D (.cells M ty (if fr.1==fr.2 then(o,o+n)else(min fr.1 o,max fr.2<|o+n))):=by
 unfold World.freeze;rw[if_neg hn];simp[iN,h]
def XF{o:Nat}(h:c'≠c):(w.freeze ⟨c,o,Q⟩ n).heap[c']?=w.heap[c']?:=by
 unfold World.freeze;split
 .rfl
 .simp[iN,oW h]
def Qb:(w.freeze a n).heap.size=w.heap.size:=by
 unfold World.freeze;split
 .rfl
 .simp
def XG{w:bY}{a:Addr}{n:Nat}:(w.freeze a n).os=w.os/\(w.freeze a n).tape=w.tape/\(w.freeze a n).output=w.output:=by
 unfold World.freeze;split<;>exact⟨O,O,O⟩
def aiQ(ay:Array aH->aH->Array Z->Sem Z):Prop:=∃(E2 E3:Sem Unit)(E1 E4 E5:Sem Z),∀(ats:Array aH)(ty:aH)(q:aB Addr)(k:fB)(z:Int),ay ats ty #[.pointer q,.int k z]=
    (do
     let n<-asInt (.int k z)
     let D pt:=ats[0]?|E1
     if n<0 then E2
     if n>IntKind.i64.max then E3
     match q with
     |none=>
      if n=0 then pure (.string .empty)
      else E4
     |some a=>
      if n=0 then pure (.string .empty)
      else if<-variablesAt a (<-elemOf pt) n.toNat then do
       let s<-loadBytes a .empty n.toNat
       freeze a n.toNat
       pure (.string s)
      else E5)
theorem Qc(hf:aiQ ay)(rh:RH m H w)(h:xh P ats args H=D (v,T))(ha:k_ m args args'):
 wV P m H w (ay ⟨ats⟩ ty ⟨args'⟩) v T:=by
 have⟨E2,E3,E1,E4,E5,hdef⟩:=hf;have⟨hl,h⟩:=fI h;have⟨pt,hpt,h⟩:=aJ h;have⟨p,hp,h⟩:=aJ h;have⟨nv,hnv,h⟩:=aJ h;have⟨n,hn,h⟩:=aJ h;rw[oL]at hpt hp hnv;rw[fU]at hl;have hl:=aW hl;have⟨p',hp0,hpp⟩:=ha.get 0 hp;have⟨n',hn0,hnn⟩:=ha.get 1 hnv;have hl':args'.length=2:=by rw[<-ha.length,hl]
 have he:args'=[p',n']:=by
  match args',hl',hp0,hn0 with
  |[hr,z],_,h0,W=>cases h0;cases W;rfl
 subst he;obtain⟨k,rfl⟩:=Dz hn;have:=hnn.of_int;subst this;have hat:(⟨ats⟩:Array aH)[0]?=D pt:=mg hpt;have hmax:IntKind.i64.max=9223372036854775807:=rfl;have hdef:=hdef ⟨ats⟩ ty;cases n with
 |zero=>
  replace h:(gd (aA (rO p).1 1)<|D (fT ⟨⟨[]⟩⟩,H))=D (v,T):=h;have⟨hg,h⟩:=fI h;cases h;have hg:=aW hg;have hv:=hpp.rO N
  have:∃a,p'=.pointer a:=by
   rcases EA (x:=p') (by rw[hv];omega)with W|⟨_,_,_,_,W⟩|⟨_,_,W⟩|⟨_,_,_,_,W⟩|⟨_,W⟩|⟨_,_,_,W⟩|⟨_,W⟩
   .have⟨a,W,_⟩:=W;exact⟨a,W⟩
   all_goals(rw[hv]at W;rw[W]at hg;simp at hg)
  obtain⟨a,rfl⟩:=this;refine⟨m,_,w,?_,.sc _ O,rh,Ex.refl _ _ _⟩;cases a with
  |none=>rw[hdef];simp[hat,asInt,asIntOf,hmax];rfl
  |some a=>rw[hdef];simp[hat,asInt,asIntOf,hmax];rfl
 |succ n=>
  replace h:(aL (qC p) λa=>U7 P pt a (n+1) H)=D (v,T):=h;have⟨a,hav,h⟩:=aJ h;have⟨d,hd,h⟩:=aJ h;have⟨e,he,h⟩:=aJ h;have⟨s,hs,h⟩:=aJ h;have⟨az,hR,h⟩:=aJ h;have⟨hg,h⟩:=fI h;have⟨bs,hbs,h⟩:=aJ h;cases h;rw[pN hav]at hpp;obtain⟨l,hm,hlo,hsp,rfl⟩:=hpp.tV;have Ie:=uh hR;simp only[bg]at hg;have⟨⟨⟨⟨g1,g2⟩,g3⟩,g4⟩,g5⟩:=hg;have g2:az.ty=e:=aW g2;have g3:s=1:=aW g3;have g4:a.off+(n+1)<=az.n:=aF g4;have g5:=aF g5;have hpe:P.underlying pt=D (.pointer e):=by rw[hd,Jt he]
  have⟨i,hi,hsz⟩:=q8 hs;have hc:P.cellsOf e=1:=by rw[FB hi,hsz,g3]
  have hsh:=Kk rh hm Ie;rw[g2]at hsh;have⟨M,fr,hb,hrn,J,h3,h4,h5,h6⟩:=row_of rh hm Ie
  have hrd:H.read a.block a.off (n+1)=D (Tr.Ep top az.cells a.off<|n+1):=by
   show(aL (vZ<|H.obj a.block) λw=>gd (aD (aZ a.off<|n+1) w.n)<|D<|Tr.Ep top w.cells a.off<|n+1)=_;rw[hR];show(gd (aD (aZ a.off<|n+1) az.n) _)=_;rw[show aD (aZ a.off<|n+1) az.n=f from aI g4];rfl
  have⟨vs',r1,r2,r3⟩:=Fz rh hrd hm hlo;have hvs:=M_ hbs r1;have hbl:bs.length=n+1:=by rw[<-r2,hvs];simp
  have hlb:=Lib.run_loadBytes (P:=P) w bs ⟨l.c,l.base+(a.off-l.lo),Q⟩ .empty λj x hj=>r3 j _ (by rw[hvs];simp[hj]);rw[hbl]at hlb;have hlies:=Na (P:=P) hc (ax _) l.tot (l.base+(a.off-l.lo)) (n+1) (Nat.mod_one _) (by rw[Nat.div_one];omega)
  have Cn:uY m l (.row ⟨az.ty,az.cells,az.n,az.kY,bV (aD az.fz<|aZ a.off<|n+1) (aZ a.off<|n+1) az.fz⟩)
   (.cells M az.ty (if fr.1==fr.2 then(l.base+(a.off-l.lo),l.base+(a.off-l.lo)+(n+1))else(min fr.1<|l.base+(a.off-l.lo),max fr.2<|l.base+(a.off-l.lo)+(n+1)))):=by
   refine⟨⟨O,base_of rh hm Ie⟩,hrn,J,h3,h4,?_,h6⟩;intro hse;have h5:=h5 hse
   have hfz:bV (aD az.fz<|aZ a.off<|n+1) (aZ a.off<|n+1) az.fz=max az.fz (a.off+(n+1)):=by
    by_cases hh:az.fz<=a.off+(n+1)
    .rw[show aD az.fz (aZ a.off<|n+1)=f from aI hh];exact(Nat.max_eq_right hh).symm
    .rw[show aD az.fz (aZ a.off<|n+1)=aC from by rw[<-b_];exactλg=>hh<|aF g];exact(vM<|Nat.le_of_not_le hh).symm
   show _<=l.base+(bV (aD az.fz<|aZ a.off<|n+1) (aZ a.off<|n+1) az.fz-l.lo);rw[hfz];split
   .simp only;omega
   .simp only;omega
  have hfo:=@XG w ⟨l.c,l.base+(a.off-l.lo),Q⟩<|n+1;have:=RH.update rh a.block l _ _ hm (by rw[Ie];simp) Cn (XE (o:=l.base+(a.off-l.lo)) hb<|Nat.succ_ne_zero n) Qb (λc hc=>XF hc) hfo.1 hfo.2.1 hfo.2.2;refine⟨m,_,w.freeze ⟨l.c,l.base+(a.off-l.lo),Q⟩<|n+1,?_,.sc _ O,this.1,this.2⟩;have hneg:¬((n+1:Nat):Int)<0:=N;have h63:¬((9223372036854775807:Int)<((n+1:Nat):Int)):=N;have hne:((n+1:Nat):Int)≠0:=N;have aly:((n+1:Nat):Int).toNat=n+1:=N;rw[hdef];simp only[asInt,asIntOf,dw,dI,bR,hat,hmax,hneg,h63,hne,kJ,gt_iff_lt,variablesAt,hsh,elemOf,fq hpe,run_program,run_shape,aly,hc,Nat.div_one,hlies,kK,hlb,run_freeze];have hbe:ByteArray.empty.data++bs.toArray=(⟨bs⟩:Array UInt8):=by rw[<-iZ];simp
  rw[hbe]
end mem
end Go.Ae
