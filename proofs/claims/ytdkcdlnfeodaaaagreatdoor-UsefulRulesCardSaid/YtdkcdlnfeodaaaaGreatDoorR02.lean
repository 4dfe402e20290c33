/-
  Part 02 of the proof. No condition.
-/
import Derived.Test.YtdkcdlnfeodaaaaGreatDoorR01
set_option linter.unusedVariables false
set_option linter.unusedSimpArgs false
set_option maxRecDepth 100000
set_option maxHeartbeats 4000000
noncomputable section
namespace Go.Ae
variable{e kt s t t2 ty:TypeId}{w w':World}{k k' v v' x x' y y' z0:Value}{H H':ag}{es:List (Value×Value)}{ats:List TypeId}{args args' old old' rest vs vs' z zs:List Value}{m m':Mp}{f:Array TypeId->TypeId->Array Value->Sem Value}{l:Loc}{i:TypeInfo}{q:TypeId×Nat}{c c' cap cc cp h ln mm n r sz:Nat}{a:Addr}{Sn hi hi' lo lo' mx o' r':Option Value}{d d2 du u:TypeDesc}{l' xz:List MapEntry}{cs:Array Value}{ps ps':List (Nat×Value)}{o ob:Obj}{α:Type}{b str:Bool}
section ops
variable{P:Program}
inductive OR(m:Mp):Option Value->Option Value->Prop where
 |nn:OR m none none
 |ss (v v':Value) (h:VR m v v'):OR m (some v) (some v')
theorem Ux{o:Option Value}{d:Nat}(h:jX o d=some n):(o=none/\n=d)\/∃k,o=some (.int k n):=by
 cases o with
 |none=>cases h;exact .inl ⟨rfl,rfl⟩
 |some v=>
  have h:w_ v=some n:=h;obtain⟨k,rfl⟩:=Bf h;exact .inr ⟨k,rfl⟩
theorem OR.nat{o:Option Value}{d:Nat}(ho:OR m o o')(h:jX o d=some n):(o'=none/\o=none/\n=d)\/∃k,o'=some (.int k n)/\o=some (.int k n):=by
 rcases Ux h with⟨rfl,rfl⟩|⟨k,rfl⟩
 .cases ho;exact .inl ⟨rfl,rfl,rfl⟩
 .cases ho with
  |ss _ v' hv=>have:=hv.of_int;subst this;exact .inr ⟨k,rfl,rfl⟩
theorem Bj{k:IntKind}{y:Nat}{code:BoundsCode}(h:n<=y):(Instr.sliceBound (.int k n) y code).run P w=.ok n w:=by
 have:(n:Int)<=y:=by omega
 simp[Instr.sliceBound,asIntOf,this,h]
theorem yG{isS:Bool}{l:Nat}(hlo:OR m lo lo')(hhi:OR m hi hi')(hmx:OR m mx Sn)(el:jX lo 0=some l)(eh:jX hi ln=some h)(em:jX mx cp=some mm)(h1:l<=h)(h2:h<=mm)(h3:mm<=cp)(h4:hi=none->mx=none):
 (Instr.sliceBounds isS ln cp lo' hi' Sn).run P w=.ok (l,h,mm) w:=by
 rcases hlo.nat el with⟨rfl,_,rfl⟩|⟨k1,rfl,_⟩<;>rcases hhi.nat eh with⟨rfl,rfl,rfl⟩|⟨k2,rfl,rfl⟩<;>rcases hmx.nat em with⟨rfl,rfl,rfl⟩|⟨k3,rfl,rfl⟩
 all_goals first
  |(exfalso;have:=h4 rfl;cases this;done)
  |simp[Instr.sliceBounds,Bj h1,Bj h2,Bj h3,Bj<|aW h1 h2]
theorem Bo(l:Loc)(off k:Nat)(hl:l.lo<=off):(⟨l.c,l.base+(off-l.lo),none⟩:Addr).add k=⟨l.c,l.base+(off+k-l.lo),none⟩:=by
 unfold Addr.add;split
 .next h0=>rw[h0,bn]
 .congr 1;show l.base+(off-l.lo)+k=_;omega
theorem Ig{o:Option α}(h:cO o=true):o=none:=by cases o<;>simp[cO]at h;rfl
theorem WR{s:ByteArray}(hu:P.underlying t=some .string)(h:Lc s lo hi=some v)(hlo:OR m lo lo')(hhi:OR m hi hi'):
 VR m v v/\∀w,(Instr.sliceAt t (.string s) lo' hi' none).run P w=.ok v w:=by
 obtain⟨l,hl,h⟩:=ak h;obtain⟨hh,Uy,h⟩:=ak h;obtain⟨hg,h⟩:=dh h;cases h;simp only[aG,dG]at hg Uy;have h1:=ai hg.1;have h2:=ai hg.2;have hsz:s.size=s.data.toList.length:=rfl;refine⟨.sc _ rfl,λw=>?_⟩;have e:=yG (P:=P) (isS:=false) (ln:=s.size) (cp:=s.size) (w:=w) hlo hhi (OR.nn (m:=m)) hl Uy rfl h1 h2 (aj _) λ_=>rfl
 have e2:s.extract l hh=⟨⟨tk (hh-l)<|dp l s.data.toList⟩⟩:=by
  apply pR;rw[Fv,J9];rw[l9,<-fJ,Array.toList_extract]
 simp[Instr.sliceAt,Instr.slice,bY hu,e,e2]
theorem wh{l:Nat}(hu:P.underlying t=some (.slice e))(hi0:P.info? e=some i)(hlo:OR m lo lo')(hhi:OR m hi hi')(hmx:OR m mx Sn)(el:jX lo 0=some l)(eh:jX hi ln=some h)(em:jX mx cp=some mm)(h1:l<=h)(h2:h<=mm)(h3:mm<=cp)(h4:hi=none->mx=none):
 (Instr.sliceAt t (.slice (some a) ln cp) lo' hi' Sn).run P w=.ok (.slice (some (if mm=l then a else a.add (l*i.size))) (h-l)<|mm-l) w:=by
 have e:=yG (P:=P) (isS:=true) (w:=w) hlo hhi hmx el eh em h1 h2 h3 h4;simp only[Instr.sliceAt,Instr.slice,Sem.run_bind,bY hu,Result.andThen_ok,e,gG hi0,Sem.run_pure];split<;>simp
theorem aaX{lv:Value}{p:Option Addr×Nat×Nat}(hq:Nt P t=some q)(hp:Gn x=some p)(h:Sg q.2 p lo hi mx=some lv)(hx:VR m x x')(hlo:OR m lo lo')(hhi:OR m hi hi')(hmx:OR m mx Sn):
 ∃v',VR m lv v'/\∀w,(Instr.sliceAt t x' lo' hi' Sn).run P w=.ok v' w:=by
 obtain⟨hu,⟨inf,qF,hsz⟩,hq1⟩:=yF hq;rw[um hp]at hx;obtain⟨pa,n,cp⟩:=p;simp only at hx;cases pa with
 |none=>
  replace h:(ax (jX lo 0) λl=>ax (jX hi 0) λh=>ax (jX mx 0) λm=>gd (Nat.beq l 0&&Nat.beq h 0&&Nat.beq m 0&&Nat.beq n 0&&Nat.beq cp 0&&(!(cO hi)||cO mx))<|some<|.slice none 0 0)=some lv:=h;obtain⟨l,hl,h⟩:=ak h;obtain⟨hh,Uy,h⟩:=ak h;obtain⟨mm,hmm,h⟩:=ak h;obtain⟨hg,h⟩:=dh h;cases h;simp only[aG]at hg;obtain⟨⟨⟨⟨⟨g1,g2⟩,g3⟩,g4⟩,g5⟩,g6⟩:=hg;have g1:=aB g1;have g2:=aB g2;have g3:=aB g3;subst g1;subst g2;subst g3;obtain⟨_,_,rfl⟩:=hx.qE;refine⟨.slice none 0 0,.sc _ rfl,λw=>?_⟩
  have e:=yG (P:=P) (isS:=true) (w:=w) hlo hhi hmx hl Uy hmm (aj _) (aj _) (aj _) (by
   intro e;rw[e]at g6;simp[cO]at g6;cases mx with
   |none=>rfl
   |some _=>simp[cO]at g6)
  simp[Instr.sliceAt,Instr.slice,bY hu,e,gG qF]
 |some a=>
  replace h:(ax (jX lo 0) λl=>ax (jX hi n) λh=>
   aU (eY cp)
    (ax (jX mx cp) λm=>gd (Nat.ble l h&&Nat.ble h m&&Nat.ble m cp&&(!(cO hi)||cO mx))
     (some<|.slice (some ⟨a.block,zS m l a.off q.2,none⟩) (Nat.sub h l)<|Nat.sub m l))
    (gd (Nat.beq cp<|dV q.2) (@Option.rec Value (λ_=>Option Value)
     (gd (Nat.ble l h&&Nat.ble h n)<|some<|.slice (some ⟨a.block,Nat.add a.off<|Nat.mul l q.2,none⟩) (Nat.sub h l) cp)
     (λmv=>ax (w_ mv) λm=>gd (Nat.ble l h&&Nat.ble h m&&Nat.ble m n&&!(cO hi)&&eY m)
      (some<|.slice (some ⟨a.block,zS m l a.off q.2,none⟩) (Nat.sub h l)<|Nat.sub m l)) mx)))=some lv:=h
  obtain⟨l,hl,h⟩:=ak h;obtain⟨hh,Uy,h⟩:=ak h
  have ahv:(!(cO hi)||cO mx)=true->hi=none->mx=none:=by
   intro g e;rw[e]at g;simp[cO]at g;cases mx with
   |none=>rfl
   |some _=>simp[cO]at g
  cases hk:eY cp with
  |true=>
   rw[hk]at h
   replace h:(ax (jX mx cp) λm=>gd (Nat.ble l hh&&Nat.ble hh m&&Nat.ble m cp&&(!(cO hi)||cO mx))
    (some<|Value.slice (some ⟨a.block,zS m l a.off q.2,none⟩) (Nat.sub hh l)<|Nat.sub m l))=some lv:=h
   obtain⟨mm,hmm,h⟩:=ak h;obtain⟨hg,h⟩:=dh h;cases h;simp only[aG]at hg;obtain⟨⟨⟨g1,g2⟩,g3⟩,g4⟩:=hg;have g1:=ai g1;have g2:=ai g2;have g3:=ai g3;have g4:=ahv g4
   have hkc:eY (mm-l)=true:=by
    have:=ai hk;exact av aa
   rcases hx.of_slice with⟨lc,cc,hm,hlo2,hsp,rfl,⟨_,rfl,_⟩|⟨es,e1,_⟩⟩|⟨a',e1,e2,rfl⟩
   .refine⟨_,?_,λw=>wh hu qF hlo hhi hmx hl Uy hmm g1 g2 g3 g4⟩;unfold zS
    by_cases hml:mm=l
    .rw[show Nat.beq mm l=true from by rw[gD];exact hml,if_pos hml];exact .slice _ _ _ _ lc hm hlo2 hkc (by show hh-l<=_-l;omega)
    .rw[show Nat.beq mm l=false from by rw[<-aV,gD];exact hml,if_neg hml,hsz,Bo lc a.off _ hlo2];exact .slice _ _ _ _ lc hm (by show lc.lo<=a.off+l*q.2;omega) hkc (by show hh-l<=_-l;omega)
   .exact absurd e1<|Bi hk
   .rcases e2 with e2|⟨es,_,e2,_⟩
    .subst e1;subst e2;have:mm=0:=by omega
     subst this;have:hh=0:=by omega
     subst this;have:l=0:=by omega
     subst this;refine⟨_,?_,λw=>wh hu qF hlo hhi hmx hl Uy hmm g1 g2 g3 g4⟩;exact .uk _ _
    .exact absurd e2<|Bi hk
  |false=>
   rw[hk]at h
   replace h:(gd (Nat.beq cp<|dV q.2) (@Option.rec Value (λ_=>Option Value)
    (gd (Nat.ble l hh&&Nat.ble hh n)<|some<|Value.slice (some ⟨a.block,Nat.add a.off<|Nat.mul l q.2,none⟩) (Nat.sub hh l) cp)
    (λmv=>ax (w_ mv) λm=>gd (Nat.ble l hh&&Nat.ble hh m&&Nat.ble m n&&!(cO hi)&&eY m)
     (some<|.slice (some ⟨a.block,zS m l a.off q.2,none⟩) (Nat.sub hh l)<|Nat.sub m l)) mx))=some lv:=h
   obtain⟨GX,h⟩:=dh h;have GX:=aB GX;cases mx with
   |none=>
    replace h:(gd (Nat.ble l hh&&Nat.ble hh n)<|some<|Value.slice (some ⟨a.block,Nat.add a.off<|Nat.mul l q.2,none⟩) (Nat.sub hh l) cp)=some lv:=h;obtain⟨hg,h⟩:=dh h;cases h;simp only[aG]at hg;have g1:=ai hg.1;have g2:=ai hg.2;cases hmx;rcases hx.of_slice with⟨lc,cc,hm,hlo2,hsp,rfl,⟨hk2,rfl,_⟩|⟨es,e1,e0,e2,e3,e9⟩⟩|⟨a',e1,e2,rfl⟩
    .rw[hk2]at hk;cases hk
    .refine⟨_,?_,λw=>wh hu qF hlo hhi (OR.nn (m:=m)) hl Uy rfl g1 (aW g2 e3) (aj _) λ_=>rfl⟩
     have hes:es=q.2:=by
      have:=e1.symm.trans GX;unfold dV at this;exact Nat.add_left_cancel this
     subst hes
     by_cases hml:cc=l
     .rw[if_pos hml];have e4:hh-l=0:=by omega
      have e5:cc-l=0:=by omega
      rw[show Nat.sub hh l=0 from e4,e4,e5];rw[GX];exact .pW _ _ _ _ lc hm (by show lc.lo<=a.off+l*q.2;omega) e0 (by show lc.n<=a.off+l*q.2;rw[<-hml];exact e9)
     .rw[if_neg hml,hsz,Bo lc a.off _ hlo2,GX];refine .pM _ _ _ _ _ lc hm (by show lc.lo<=a.off+l*q.2;omega) e0 ?_ (by show hh-l<=cc-l;omega) ?_;show lc.base+(a.off+l*q.2-lc.lo)+(cc-l)*q.2=lc.tot;rw[<-e2,Nat.sub_mul];have:l*q.2<=cc*q.2:=b_ _ aa;omega
      .show lc.n<=a.off+l*q.2+(cc-l)*q.2;rw[Nat.sub_mul];have:l*q.2<=cc*q.2:=b_ _ aa;omega
    .subst e1;refine⟨_,?_,λw=>wh hu qF hlo hhi (OR.nn (m:=m)) hl Uy rfl g1 aa (aj _) λ_=>rfl⟩;have e3:hh-l=0:=by omega
     have e4:0-l=0:=by omega
     have e5:l=0:=by omega
     rw[show Nat.sub hh l=0 from e3,e3,e4];rcases e2 with e2|⟨es,l2,e2,f1,f2,f3,f4,f5⟩
     .subst e2;cases hk
     .rw[e2];exact .pW _ _ _ _ l2 f1 (by show l2.lo<=a.off+l*q.2;rw[e5];omega) f3 (by show l2.n<=a.off+l*q.2;rw[e5];omega)
   |some mv=>
    replace h:(ax (w_ mv) λm=>gd (Nat.ble l hh&&Nat.ble hh m&&Nat.ble m n&&!(cO hi)&&eY m)
     (some<|Value.slice (some ⟨a.block,zS m l a.off q.2,none⟩) (Nat.sub hh l)<|Nat.sub m l))=some lv:=h
    obtain⟨mm,hmm,h⟩:=ak h;obtain⟨hg,h⟩:=dh h;cases h;simp only[aG]at hg;obtain⟨⟨⟨⟨g1,g2⟩,g3⟩,g4⟩,g5⟩:=hg;have g1:=ai g1;have g2:=ai g2;have g3:=ai g3;have g4:hi=none->some mv=none:=by intro e;rw[e]at g4;simp[cO]at g4
    have hm0:∀c,jX (some mv) c=some mm:=λc=>hmm
    have hkc:eY (mm-l)=true:=by
     have:=ai g5;exact av aa
    rcases hx.of_slice with⟨lc,cc,hm,hlo2,hsp,rfl,⟨hk2,rfl,_⟩|⟨es,e1,e0,e2,e3,e9⟩⟩|⟨a',e1,e2,rfl⟩
    .rw[hk2]at hk;cases hk
    .refine⟨_,?_,λw=>wh hu qF hlo hhi hmx hl Uy (hm0 _) g1 g2 (aW g3 e3) g4⟩;unfold zS
     by_cases hml:mm=l
     .rw[show Nat.beq mm l=true from by rw[gD];exact hml,if_pos hml];exact .slice _ _ _ _ lc hm hlo2 hkc (by show hh-l<=_-l;omega)
     .rw[show Nat.beq mm l=false from by rw[<-aV,gD];exact hml,if_neg hml,hsz,Bo lc a.off _ hlo2];exact .slice _ _ _ _ lc hm (by show lc.lo<=a.off+l*q.2;omega) hkc (by show hh-l<=_-l;omega)
    .subst e1;refine⟨_,?_,λw=>wh hu qF hlo hhi hmx hl Uy (hm0 _) g1 g2 g3 g4⟩;have:mm=0:=by omega
     subst this;have:hh=0:=by omega
     subst this;have:l=0:=by omega
     subst this;exact .uk _ _
theorem WS{q:Nat×TypeId×Nat}{lv:Value}(hq:Nu P t=some q)(hp:mF x=some a)(h:P9 q.1 q.2.2 a lo hi mx=some lv)(hx:VR m x x')(hlo:OR m lo lo')(hhi:OR m hi hi')(hmx:OR m mx Sn):
 ∃v',VR m lv v'/\∀w,(Instr.sliceAt t x' lo' hi' Sn).run P w=.ok v' w:=by
 obtain⟨hu,⟨inf,qF,hsz⟩,hq1⟩:=GU hq;rw[kW hp]at hx;obtain⟨lc,hm,hlo2,hsp,rfl⟩:=hx.oO;obtain⟨l,hl,h⟩:=ak h;obtain⟨hh,Uy,h⟩:=ak h;obtain⟨hg,h⟩:=dh h;cases h;simp only[aG]at hg;obtain⟨⟨⟨g1,g2⟩,g3⟩,g4⟩:=hg;have g1:=ai g1;have g2:=ai g2;have g3:=Ig g3;subst g3;cases hmx;have e:=λw=>yG (P:=P) (isS:=false) (cp:=q.1) (w:=w) hlo hhi (OR.nn (m:=m)) hl Uy rfl g1 g2 (aj _) λ_=>rfl
 have hkc:eY (q.1-l)=true:=by
  have:=ai g4;exact av aa
 refine⟨.slice (some (if q.1=l then⟨lc.c,lc.base+(a.off-lc.lo),none⟩else(⟨lc.c,lc.base+(a.off-lc.lo),none⟩:Addr).add (l*inf.size))) (hh-l)<|q.1-l,?_,λw=>?_⟩
 .unfold zS
  by_cases hml:q.1=l
  .rw[show Nat.beq q.1 l=true from by rw[gD];exact hml,if_pos hml];exact .slice _ _ _ _ lc hm hlo2 hkc (by show hh-l<=_-l;omega)
  .rw[show Nat.beq q.1 l=false from by rw[<-aV,gD];exact hml,if_neg hml,hsz,Bo lc a.off _ hlo2];exact .slice _ _ _ _ lc hm (by show lc.lo<=a.off+l*q.2.2;omega) hkc (by show hh-l<=_-l;omega)
 .simp only[Instr.sliceAt,Instr.sureAddr,Sem.run_bind,bY hu,Result.andThen_ok,Sem.run_pure,e w,gG qF]
theorem WT{lv:Value}(h:xG P t x lo hi mx=some lv)(hx:VR m x x')(hlo:OR m lo lo')(hhi:OR m hi hi')(hmx:OR m mx Sn):
 ∃v',VR m lv v'/\∀w,(Instr.sliceAt t x' lo' hi' Sn).run P w=.ok v' w:=by
 unfold xG at h;cases hs:Nt P t with
 |some q=>
  rw[hs]at h;replace h:(ax (Gn x) λp=>Sg q.2 p lo hi mx)=some lv:=h;obtain⟨p,hp,h⟩:=ak h;exact aaX hs hp h hx hlo hhi hmx
 |none=>
  rw[hs]at h;cases hst:Cw P t with
  |true=>
   rw[hst]at h;replace h:(ax (pG x) λs=>gd (cO mx)<|Lc s lo hi)=some lv:=h;obtain⟨s,hs1,h⟩:=ak h;obtain⟨hg,h⟩:=dh h;have g3:=Ig hg;subst g3;cases hmx;rw[kX hs1]at hx;have:=hx.qY;subst this;obtain⟨h1,h2⟩:=WR (P:=P) (EM hst) h hlo hhi;exact⟨_,h1,h2⟩
  |false=>
   rw[hst]at h;replace h:(ax (Nu P t) λq=>ax (mF x) λa=>P9 q.1 q.2.2 a lo hi mx)=some lv:=h;obtain⟨q,hq,h⟩:=ak h;obtain⟨a,ha,h⟩:=ak h;exact WS hq ha h hx hlo hhi hmx
end ops
section ops
variable{P:Program}
theorem Qj{l:List Value}(h:Nat.beq (len l) 1=true)(hx:nth l 0=some x):l=[x]:=by
 have:=aB h;rw[dG]at this
 match l,this with
 |[y],_=>cases hx;rfl
theorem zX(x:α):∀(k:Nat)(l:List α),setAt x k l=l.set k x:=by
 intro k
 induction k with
 |zero=>intro l;cases l<;>rfl
 |succ k ih=>intro l;cases l with
  |nil=>rfl
  |cons y r=>exact bW (y::·)<|ih r
theorem Qk:∀(vs:List Value)(k:Nat)(cs:List Value),EI vs k cs=(vs.zipIdx k).foldl (λcs p=>cs.set p.2 p.1) cs:=by
 intro vs
 induction vs with
 |nil=>intros;rfl
 |cons v vs ih=>
  intro k cs;show EI vs (k+1) (setAt v k cs)=_;rw[ih,zX];rfl
theorem WU:∀(vs vs':List Value)(k:Nat)(cs cs':List Value),jf m vs vs'->jf m cs cs'->jf m (EI vs k cs) (EI vs' k cs'):=by
 intro vs
 induction vs with
 |nil=>intro vs' k cs cs' h hc;cases h;exact hc
 |cons v vs ih=>
  intro vs' k cs cs' h hc;cases h with
  |cons _ v' _ r' hv hr=>
   show jf m (EI vs (k+1)<|setAt v k cs)<|EI r' (k+1)<|setAt v' k cs';rw[zX,zX];exact ih r' (k+1) _ _ hr<|hc.set k hv
theorem Uz(cs:Array Value)(off:Nat):∀(l:List<|Value×Nat)(a:Array Value),(l.foldl (λ(cs:Array Value) p=>cs.setIfInBounds (off+p.2) p.1) a).toList=
 l.foldl (λ(cs:List Value) p=>cs.set (off+p.2) p.1) a.toList:=by
 intro l
 induction l with
 |nil=>intro a;rfl
 |cons p l ih=>intro a;simp only[List.foldl_cons];rw[ih];simp
theorem UA:∀(vs:List Value)(off k:Nat)(cs:List Value),(vs.zipIdx k).foldl (λ(cs:List Value) p=>cs.set (off+p.2) p.1) cs=(vs.zipIdx<|off+k).foldl (λcs p=>cs.set p.2 p.1) cs:=by
 intro vs
 induction vs with
 |nil=>intros;rfl
 |cons v vs ih=>intro off k cs;simp only[List.zipIdx_cons,List.foldl_cons];rw[ih off (k+1)];rfl
theorem Ql(vs:Array Value)(off:Nat)(a:Array Value):(vs.zipIdx.foldl (λ(cs:Array Value)(p:Value×Nat)=>cs.setIfInBounds (off+p.2) p.1) a)=⟨EI vs.toList off a.toList⟩:=by
 rw[<-fJ,<-Array.foldl_toList,Uz a,Qk];simp only[Array.toList_zipIdx];rw[UA];simp
inductive PRs(m:Mp):List (Nat×Value)->List (Nat×Value)->Prop where
 |nil:PRs m [] []
 |cons (k:Nat) (v v':Value) (l l':List<|Nat×Value) (h:VR m v v') (hl:PRs m l l'):PRs m ((k,v)::l) ((k,v')::l')
theorem yH(h:VR m v v')(hn:v≠top):jf m (aX v) (aX v'):=by
 cases h with
 |sc _ h=>
  have:aX v=[v]:=by cases v<;>first|rfl|simp[jW]at h
  rw[this];exact .cons _ _ _ _ (.sc _ h) .nil
 |top=>exact absurd rfl hn
 |ptr r off l h hl=>exact .cons _ _ _ _ (.ptr r off l h hl) .nil
 |slice r off n cp l h hl hk hnc=>exact .cons _ _ _ _ (.slice r off n cp l h hl hk hnc) .nil
 |pM r off n es cc l h hl he ht hc hN=>exact .cons _ _ _ _ (.pM r off n es cc l h hl he ht hc hN) .nil
 |uk a a'=>exact .cons _ _ _ _ (.uk a a') .nil
 |pW r off es a' l h hl he hN=>exact .cons _ _ _ _ (.pW r off es a' l h hl he hN) .nil
 |map r l h=>exact .cons _ _ _ _ (.map r l h) .nil
 |func f x y x' y' hx hy=>exact .cons _ _ _ _ (.func f x y x' y' hx hy) .nil
 |iface t v v' h=>exact .cons _ _ _ _ (.iface t v v' h) .nil
 |agg x x' h=>exact h
 |tuple x x' h=>exact .cons _ _ _ _ (.tuple x x' h) .nil
theorem Ki(h:rY v=true):v≠top:=by intro e;rw[e]at h;cases h
theorem zY(v:Value):v.cells=⟨aX v⟩:=by rw[Bh]
theorem LC(place:Nat->Option (Nat×Nat)):∀(ps ps':List<|Nat×Value)(cs cs' r:List Value),Cf place ps cs=some r->PRs m ps ps'->jf m cs cs'->
 ∃r',Instr.fill place ⟨cs'⟩ ps'=some ⟨r'⟩/\jf m r r':=by
 intro ps
 induction ps with
 |nil=>intro ps' cs cs' r h hp hc;cases hp;cases h;exact⟨cs',rfl,hc⟩
 |cons p ps ih=>
  intro ps' cs cs' r h hp hc;cases hp with
  |cons k v v' _ l' hv hl=>
   replace h:(ax (place k) λq=>gd (rY v&&Nat.beq (len<|aX v) q.2&&Nat.ble (Nat.add q.1 q.2) (len cs))<|Cf place ps<|EI (aX v) q.1 cs)=some r:=h;obtain⟨q,hq,h⟩:=ak h;obtain⟨hg,h⟩:=dh h;simp only[aG,dG]at hg;have g1:=Ki hg.1.1;have g2:=aB hg.1.2;have g3:=ai hg.2;have hcv:=yH hv g1;obtain⟨r',hr',hrr⟩:=ih l' _ (EI (aX v') q.1 cs') r h hl<|WU _ _ _ _ _ hcv hc;refine⟨r',?_,hrr⟩;unfold Instr.fill;rw[hq];have e1:v'.cells.size=q.2:=by rw[zY];show(aX v').length=_;rw[<-hcv.length,g2]
   have e2:¬(q.1+v'.cells.size>(⟨cs'⟩:Array Value).size):=by
    rw[e1];show¬(q.1+q.2>cs'.length);rw[<-hc.length];have:q.1+q.2<=cs.length:=g3;omega
   simp only[e1,ne_eq,pE,decide_false,pO,pq];rw[e1]at e2;rw[if_neg e2];rw[Ql,zY];exact hr'
theorem UB:∀(fs:List Field)(pl:List<|Nat×Nat),places P fs=some pl->fs.mapM (λf=>(P.info? f.type).map λi=>(f.offset,i.size))=some pl:=by
 intro fs
 induction fs with
 |nil=>intro pl h;cases h;rfl
 |cons f fs ih=>
  intro pl h;replace h:(ax (rZ P f.type) λs=>ax (places P fs) λl=>some<|(f.offset,s)::l)=some pl:=h;obtain⟨s,hs,h⟩:=ak h;obtain⟨l,hl,h⟩:=ak h;cases h;obtain⟨i,hi,rfl⟩:=nJ hs;simp[rU,hi,ih l hl]
theorem WV(h:zV P t ps=some v)(hp:PRs m ps ps'):
 ∃v',VR m v v'/\∀w,(Instr.build t ⟨ps'⟩).run P w=.ok v' w:=by
 obtain⟨z,hz,h⟩:=ak h;obtain⟨i,z0,hi,hz0,WW,hlen,hs⟩:=vZ hz;have hzz:jf m z z:=jf.jW hs;have hzc:z0.cells=⟨z⟩:=by rw[WW]
 cases hpl:Sf P t with
 |some pl=>
  rw[hpl]at h;replace h:(ax (Cf (nth pl) ps z) λcs=>some<|Value.agg ⟨cs⟩)=some v:=h;obtain⟨cs,hcs,h⟩:=ak h;cases h;obtain⟨cs',hcs',hr⟩:=LC (nth pl) ps ps' z z cs hcs hp hzz;refine⟨.agg ⟨cs'⟩,.agg _ _ hr,λw=>run_build w t ⟨ps'⟩ ⟨cs'⟩ ?_⟩;have h:=hpl;obtain⟨fs,hfs,h⟩:=ak h;have hu:=CF hfs;have hpm:=UB fs pl h;unfold Program.built;rw[hi,hu];simp only[hz0,hpm,hzc];rw[<-hcs'];congr 1;funext k;rw[kU];simp
 |none=>
  rw[hpl]at h;replace h:(ax (Nu P t) λq=>ax (Cf (λk=>some (Nat.mul k q.2.2,q.2.2)) ps z) λcs=>some<|Value.agg ⟨cs⟩)=some v:=h;obtain⟨q,hq,h⟩:=ak h;obtain⟨cs,hcs,h⟩:=ak h;cases h;obtain⟨hu,⟨inf,qF,hsz⟩,hq1⟩:=GU hq;obtain⟨cs',hcs',hr⟩:=LC _ ps ps' z z cs hcs hp hzz;refine⟨.agg ⟨cs'⟩,.agg _ _ hr,λw=>run_build w t ⟨ps'⟩ ⟨cs'⟩ ?_⟩;unfold Program.built;rw[hi,hu];simp only[hz0,qF,hzc,hsz];exact hcs'
end ops
inductive BP(m:Mp):List (Value×Value)->List MapEntry->Prop where
 |nil:BP m [] []
 |cons (k v:Value) (e:MapEntry) (l:List<|Value×Value) (l':List MapEntry) (hk:VR m k e.key) (hv:VR m v e.val) (hl:BP m l l'):BP m ((k,v)::l) (e::l')
theorem BP.mono(hm:Mp.le m m'){l:List (Value×Value)}(h:BP m l l'):BP m' l l':=by
 induction h with
 |nil=>exact .nil
 |cons k v e l l' hk hv _ ih=>exact .cons k v e l l' (hk.mono hm) (hv.mono hm) ih
def qG(m:Mp)(l:Loc):iW->Obj->Prop
 |.dead,_=>True
 |.row R,.cells cs ty fr=>(ty=R.ty/\l.base=0)/\R.n=l.n/\cs.size=l.tot/\l.lo<=R.n/\l.base+(R.n-l.lo)<=l.tot/\
  (R.ja=false->fr.2<=l.base+(R.fz-l.lo))/\
  ∀i,l.lo<=i->i<R.n->∃v,cs[l.base+(i-l.lo)]?=some v/\VR m (R.cells.get top i) v
 |.map es,.map xz _=>BP m es xz.toList
 |.zQ s p,.stringIter s' p'=>s'=s/\p'=p/\l.base=0
 |_,_=>False
theorem qG.mono(hm:Mp.le m m'){o:iW}(h:qG m l o ob):qG m' l o ob:=by
 cases o<;>cases ob<;>first|exact h|skip
 case row.cells R cs ty fr=>
  obtain⟨h1,hn,h2,h3,h4,h5,h6⟩:=h;exact⟨h1,hn,h2,h3,h4,h5,λi a b=>let⟨v,hv,hr⟩:=h6 i a b;⟨v,hv,hr.mono hm⟩⟩
 case map.map es xz c=>exact BP.mono hm h
structure RH(m:Mp)(H:ag)(w:World):Prop where
 dom:∀r l,m r=some l->r<H.next
 ok:∀r l,m r=some l->∃o,w.heap[l.c]?=some o/\qG m l (H.obj r) o
 sep:∀r r' l l',m r=some l->m r'=some l'->H.obj r≠.dead->H.obj r'≠.dead->l.c=l'.c->r=r'
structure Ex(m m':Mp)(H H':ag)(w w':World):Prop where
 le:Mp.le m m'
 new:∀r l,m' r=some l->m r=none->H.next<=r
 fresh:∀r l,m' r=some l->m r=none->l.c<w.heap.size->∃r0 l0,m r0=some l0/\l0.c=l.c/\H'.low<=r0
 os:w'.os=w.os
 tape:w'.tape=w.tape
 output:w'.output=w.output
 size:w.heap.size<=w'.heap.size
 keep:∀c,c<w.heap.size->(∀r l,m r=some l->l.c=c->r<H'.low)->w'.heap[c]?=w.heap[c]?
 next:H.next<=H'.next
 low:H'.low<=H.low
 rM:∀r,r<H.next->r<H'.low->H'.obj r=H.obj r
 hid:∀r,r<H.next->m r=none->H'.obj r=H.obj r
theorem nK(h:w.heap[c]?=some o):c<w.heap.size:=(cr.1 h).1
theorem Ex.refl(m:Mp)(H:ag)(w:World):Ex m m H H w w where
 le:=λ_ _ h=>h
 new:=λr l h h'=>by rw[h]at h';cases h'
 fresh:=λr l h h'=>by rw[h]at h';cases h'
 os:=rfl
 tape:=rfl
 output:=rfl
 size:=aj _
 keep:=λ_ _ _=>rfl
 next:=aj _
 low:=aj _
 rM:=λ_ _ _=>rfl
 hid:=λ_ _ _=>rfl
theorem Ex.trans{m1 m2:Mp}{H1 H2:ag}{w1 w2:World}(a:Ex m m1 H H1 w w1)(b:Ex m1 m2 H1 H2 w1 w2):Ex m m2 H H2 w w2 where
 le:=λr l h=>b.le r l<|a.le r l h
 new:=λr l h h'=>by
  cases h1:m1 r with
  |none=>exact aW a.next<|b.new r l h h1
  |some l1=>
   have:=b.le r l1 h1;rw[h]at this;cases this;exact a.new r l h1 h'
 fresh:=λr l h h' hlt=>by
  cases h1:m1 r with
  |none=>
   obtain⟨r0,l0,e1,e2,e3⟩:=b.fresh r l h h1<|aH hlt a.size;cases h0:m r0 with
   |some l0'=>
    have:=a.le r0 l0' h0;rw[e1]at this;cases this;exact⟨r0,l0,h0,e2,e3⟩
   |none=>
    obtain⟨r1,l1,f1,f2,f3⟩:=a.fresh r0 l0 e1 h0 (by rw[e2];exact hlt);exact⟨r1,l1,f1,f2.trans e2,aW b.low f3⟩
  |some l1=>
   have:=b.le r l1 h1;rw[h]at this;cases this;obtain⟨r0,l0,e1,e2,e3⟩:=a.fresh r l h1 h' hlt;exact⟨r0,l0,e1,e2,aW b.low e3⟩
 os:=b.os.trans a.os
 tape:=b.tape.trans a.tape
 output:=b.output.trans a.output
 size:=aW a.size b.size
 keep:=λc hc hk=>by
  rw[b.keep c (aH hc a.size),a.keep c hc]
  .exactλr l h1 h2=>aH (hk r l h1 h2) b.low
  .intro r l h1 h2;cases h0:m r with
   |some l0=>
    have:=a.le r l0 h0;rw[h1]at this;cases this;exact hk r l h0 h2
   |none=>
    obtain⟨r0,l0,e1,e2,e3⟩:=a.fresh r l h1 h0 (by rw[h2];exact hc);have:=hk r0 l0 e1<|e2.trans h2;have:=b.low;omega
 next:=aW a.next b.next
 low:=aW b.low a.low
 rM:=λr h1 h2=>(b.rM r (aH h1 a.next) h2).trans<|a.rM r h1<|aH h2 b.low
 hid:=λr h1 h2=>by
  have h3:m1 r=none:=by
   cases h0:m1 r with
   |none=>rfl
   |some l=>have:=a.new r l h0 h2;omega
  exact(b.hid r (aH h1 a.next) h3).trans<|a.hid r h1 h2
theorem su(H:ag)(r:Nat)(o:iW)(r':Nat):(H.put r o).obj r'=if r'=r then o else H.obj r':=Tr.qQ _ _ _ _ _
theorem vP(H:ag)(o:iW)(r':Nat):(H.new o).obj r'=if r'=H.next then o else H.obj r':=Tr.qQ _ _ _ _ _
theorem GY(H:ag)(r:Nat)(o:iW):(H.put r o).low<=r/\(H.put r o).low<=H.low:=by
 have e:(H.put r o).low=aU (Nat.ble H.low r) H.low r:=rfl;rw[e,xI];split
 .next h=>exact⟨ai h,aj _⟩
 .next h=>exact⟨aj _,by have:¬H.low<=r:=λh'=>h<|av h';omega⟩
def Mp.add(m:Mp)(r:Nat)(l:Loc):Mp:=λk=>if k=r then some l else m k
theorem Mp.WX(h:m r=none):Mp.le m (m.add r l):=by
 intro k l' hk;unfold Mp.add;split
 .next e=>rw[e]at hk;rw[h]at hk;cases hk
 .exact hk
theorem RH.Kj(rh:RH m H w):m H.next=none:=by
 cases h:m H.next with
 |none=>rfl
 |some l=>exact absurd (rh.dom _ _ h)<|nG _
theorem RH.alloc(rh:RH m H w)(o:iW)(ob:Obj)(lo base tot n:Nat)(hok:qG m ⟨w.heap.size,lo,base,tot,n⟩ o ob):
 RH (m.add H.next ⟨w.heap.size,lo,base,tot,n⟩) (H.new o) (w.alloc ob)/\Ex m (m.add H.next ⟨w.heap.size,lo,base,tot,n⟩) H (H.new o) w (w.alloc ob):=by
 have hn:=rh.Kj;have hle:=Mp.WX (l:=⟨w.heap.size,lo,base,tot,n⟩) hn;have hold:∀r l,m r=some l->l.c<w.heap.size:=λr l h=>let⟨_,ho,_⟩:=rh.ok r l h;nK ho;refine⟨⟨?_,?_,?_⟩,?_⟩
 .intro r l h;show r<H.next+1
  unfold Mp.add at h;split at h
  .omega
  .have:=rh.dom r l h;omega
 .intro r l h;unfold Mp.add at h;split at h
  .next e=>
   cases h;refine⟨ob,by show(w.heap.push ob)[w.heap.size]?=_;simp,?_⟩;rw[vP,if_pos e];exact hok.mono hle
  .next e=>
   obtain⟨Ih,ho,hk⟩:=rh.ok r l h;refine⟨Ih,?_,?_⟩
   .have:=nK ho;show(w.heap.push ob)[l.c]?=_;rw[kS,if_neg aa];exact ho
   .rw[vP,if_neg e];exact hk.mono hle
 .intro r r' l l' h h' hd hd' hc;unfold Mp.add at h h';split at h<;>split at h'
  .next e e'=>rw[e,e']
  .next e e'=>cases h;have:=hold r' l' h';simp at hc;omega
  .next e e'=>cases h';have:=hold r l h;simp at hc;omega
  .next e e'=>
   rw[vP,if_neg e]at hd;rw[vP,if_neg e']at hd';exact rh.sep r r' l l' h h' hd hd' hc
 .refine⟨hle,?_,?_,rfl,rfl,rfl,by show w.heap.size<=(w.heap.push ob).size;simp,?_,jv _,aj _,?_,?_⟩
  .intro r l h h0;unfold Mp.add at h;split at h
   .next e=>omega
   .rw[h0]at h;cases h
  .intro r l h h0 hlt;unfold Mp.add at h;split at h
   .next e=>cases h;simp at hlt
   .rw[h0]at h;cases h
  .intro c hc _;show(w.heap.push ob)[c]?=_;rw[kS,if_neg aa]
  .intro r h1 h2;rw[vP,if_neg aa]
  .intro r h1 h2;rw[vP,if_neg aa]
theorem RH.drew(rh:RH m H w):RH m H w.drew:=⟨rh.dom,rh.ok,rh.sep⟩
theorem Ex.drew(m:Mp)(H:ag)(w:World):Ex m m H H w w.drew:={Ex.refl m H w with os:=rfl,tape:=rfl,output:=rfl,size:=aj _,keep:=λ_ _ _=>rfl}
theorem RH.update(rh:RH m H w)(r:Nat)(l:Loc)(o':iW)(Ih:Obj)(hm:m r=some l)(hd:H.obj r≠.dead)(hok:qG m l o' Ih)(hb:w'.heap[l.c]?=some Ih)(hs:w'.heap.size=w.heap.size)(ho:∀c,c≠l.c->w'.heap[c]?=w.heap[c]?)(h1:w'.os=w.os)(h2:w'.tape=w.tape)(h3:w'.output=w.output):RH m (H.put r o') w'/\Ex m m H (H.put r o') w w':=by
 have hlow:=GY H r o';refine⟨⟨rh.dom,?_,?_⟩,?_⟩
 .intro r1 l1 hm1;rw[su]
  by_cases e:r1=r
  .subst e;rw[hm1]at hm;cases hm;exact⟨Ih,hb,by rw[if_pos rfl];exact hok⟩
  .rw[if_neg e];obtain⟨ob1,g1,g2⟩:=rh.ok r1 l1 hm1
   by_cases hc:l1.c=l.c
   .refine⟨Ih,by rw[hc];exact hb,?_⟩
    by_cases hdd:H.obj r1=.dead
    .rw[hdd];trivial
    .exact absurd (rh.sep r1 r l1 l hm1 hm hdd hd hc) e
   .exact⟨ob1,by rw[ho _ hc];exact g1,g2⟩
 .intro r1 r2 l1 l2 hm1 hm2 hd1 hd2 hc;rw[su]at hd1 hd2
  by_cases e1:r1=r<;>by_cases e2:r2=r
  .rw[e1,e2]
  .subst e1;rw[if_neg e2]at hd2;exact rh.sep r1 r2 l1 l2 hm1 hm2 hd hd2 hc
  .subst e2;rw[if_neg e1]at hd1;exact rh.sep r1 r2 l1 l2 hm1 hm2 hd1 hd hc
  .rw[if_neg e1]at hd1;rw[if_neg e2]at hd2;exact rh.sep r1 r2 l1 l2 hm1 hm2 hd1 hd2 hc
 .refine⟨λ_ _ h=>h,(λr l h h'=>absurd (h.symm.trans h')<|by simp),(λr l h h'=>absurd (h.symm.trans h')<|by simp),h1,h2,h3,(by rw[hs];exact aj _),?_,aj _,hlow.2,?_,?_⟩
  .intro c hc hk;apply ho;intro e;have:=hk r l hm e.symm;omega
  .intro r1 g1 g2;rw[su,if_neg aa]
  .intro r1 g1 g2;rw[su,if_neg (by intro e;subst e;rw[hm]at g2;cases g2)]
section mem
variable{P:Program}
theorem Sq(d:Value)(t:Tr Value):∀(n k:Nat),(Tr.Cu d t k n).length=n:=by
 intro n
 induction n with
 |zero=>intro k;rfl
 |succ n ih=>intro k;rw[Tr.uQ];simp[ih]
theorem Sr(d:Value)(t:Tr Value):∀(n k j:Nat),j<n->(Tr.Cu d t k n)[j]?=some (t.get d<|k+j):=by
 intro n
 induction n with
 |zero=>intro k j h;omega
 |succ n ih=>
  intro k j h;rw[Tr.uQ];cases j with
  |zero=>rfl
  |succ j=>rw[cK,ih (k+1) j aa,show k+1+j=k+(j+1)from by omega]
theorem cell_of{fr:Nat×Nat}(h:w.heap[c]?=some (.cells cs ty fr))(k:Nat):w.cell? ⟨c,k,none⟩=cs[k]?:=by
 simp[World.cell?,h]
theorem row_of(rh:RH m H w){R:Row}(hm:m r=some l)(ho:H.obj r=.row R):
 ∃cs fr,w.heap[l.c]?=some (.cells cs R.ty fr)/\R.n=l.n/\cs.size=l.tot/\l.lo<=R.n/\l.base+(R.n-l.lo)<=l.tot/\
  (R.ja=false->fr.2<=l.base+(R.fz-l.lo))/\
  ∀i,l.lo<=i->i<R.n->∃v,cs[l.base+(i-l.lo)]?=some v/\VR m (R.cells.get top i) v:=by
 obtain⟨o,hb,hk⟩:=rh.ok r l hm;rw[ho]at hk;cases o with
 |cells cs ty fr=>
  obtain⟨h1,hn,h2,h3,h4,h5,h6⟩:=hk;exact⟨cs,fr,by rw[hb,h1.1],hn,h2,h3,h4,h5,h6⟩
 |_=>exact hk.elim
theorem base_of(rh:RH m H w){R:Row}(hm:m r=some l)(ho:H.obj r=.row R):l.base=0:=by
 obtain⟨o,hb,hk⟩:=rh.ok r l hm;rw[ho]at hk;cases o with
 |cells cs ty fr=>exact hk.1.2
 |_=>exact hk.elim
theorem aaY(rh:RH m H w){off:Nat}(h:H.cell r off=some v)(hm:m r=some l)(hl:l.lo<=off):
 ∃v',w.cell? ⟨l.c,l.base+(off-l.lo),none⟩=some v'/\VR m v v':=by
 obtain⟨R,hR,h⟩:=ak h;obtain⟨hg,h⟩:=dh h;cases h;obtain⟨cs,fr,hb,_,_,_,_,_,h6⟩:=row_of rh hm<|qR hR;obtain⟨v',hv,hr⟩:=h6 off hl<|ai hg;exact⟨v',by rw[cell_of hb,hv],hr⟩
theorem GZ(rh:RH m H w){off k:Nat}(h:H.read r off k=some vs)(hm:m r=some l)(hl:l.lo<=off):
 ∃vs',jf m vs vs'/\vs'.length=k/\∀j v,vs'[j]?=some v->w.cell? ((⟨l.c,l.base+(off-l.lo),none⟩:Addr).add j)=some v:=by
 cases k with
 |zero=>cases h;exact⟨[],.nil,rfl,by simp⟩
 |succ k=>
  replace h:(ax (rX<|H.obj r) λw=>gd (Nat.ble (Nat.add off<|k+1) w.n)<|some<|Tr.Cu top w.cells off<|k+1)=some vs:=h;obtain⟨R,hR,h⟩:=ak h;obtain⟨hg,h⟩:=dh h;cases h;have hg:off+(k+1)<=R.n:=ai hg;obtain⟨cs,fr,hb,_,_,_,_,_,h6⟩:=row_of rh hm<|qR hR
  have key:∀n i,i+n=k+1->∃vs',jf m (Tr.Cu top R.cells (off+i) n) vs'/\vs'.length=n/\∀j v,vs'[j]?=some v->w.cell? ((⟨l.c,l.base+(off-l.lo),none⟩:Addr).add<|i+j)=some v:=by
   intro n
   induction n with
   |zero=>intro i _;exact⟨[],.nil,rfl,by simp⟩
   |succ n ih=>
    intro i hi;obtain⟨vs',h1,h2,h3⟩:=ih (i+1) aa;obtain⟨v',hv,hr⟩:=h6 (off+i) aa aa;refine⟨v'::vs',.cons _ _ _ _ hr h1,by simp[h2],?_⟩;intro j v hj;cases j with
    |zero=>
     simp at hj;subst hj;rw[Bo l off _ hl,cell_of hb];exact hv
    |succ j=>
     have:=h3 j v (by simpa using hj);rw[show i+(j+1)=i+1+j from by omega];exact this
  obtain⟨vs',h1,h2,h3⟩:=key (k+1) 0 aa;exact⟨vs',h1,h2,λj v hj=>by have:=h3 j v hj;rwa [aI]at this⟩
theorem vQ(rh:RH m H w){off k:Nat}(h:H.read r off k=some vs)(hm:m r=some l)(hl:l.lo<=off):
 ∃vs',jf m vs vs'/\vs'.length=k/\(loadCells ⟨l.c,l.base+(off-l.lo),none⟩ k).run P w=.ok ⟨vs'⟩ w:=by
 obtain⟨vs',h1,h2,h3⟩:=GZ rh h hm hl;refine⟨vs',h1,h2,?_⟩;rw[<-h2];exact run_loadCells_list w _ vs' h3
theorem Ss(rh:RH m H w)(h:r_ P t x H=some (v,H'))(hx:VR m x x'):
 H'=H/\∃v',VR m v v'/\(Instr.loadAt t x').run P w=.ok v' w:=by
 obtain⟨a,ha,h⟩:=ak h;obtain⟨l0,hl0,h⟩:=ak h;rw[kW ha]at hx;obtain⟨l,hm,hlo,hsp,rfl⟩:=hx.oO;obtain⟨d,i,hd,hi,hk⟩:=Qc hl0;rcases hk with⟨hag,rfl⟩|⟨hag,rfl⟩
 .replace h:(ax (H.read a.block a.off i.size) λvs=>some (Value.agg ⟨vs⟩,H))=some (v,H'):=h;obtain⟨vs,hvs,h⟩:=ak h;cases h;obtain⟨vs',h1,h2,h3⟩:=vQ (P:=P) rh hvs hm hlo;exact⟨rfl,.agg ⟨vs'⟩,.agg _ _ h1,by simp[Instr.loadAt,Instr.sureAddr,loadVar,uu hd,hag,gG hi,h3]⟩
 .replace h:(ax (H.cell a.block a.off) λv=>some (v,H))=some (v,H'):=h;obtain⟨u,hu,h⟩:=ak h;cases h;obtain⟨v',h1,h2⟩:=aaY rh hu hm hlo;exact⟨rfl,v',h2,by simp[Instr.loadAt,Instr.sureAddr,loadVar,uu hd,hag,h1]⟩
theorem LD(w:World)(c k:Nat)(v:Value)(cs:Array Value)(ty:TypeId)(fr:Nat×Nat)(h:w.heap[c]?=some (.cells cs ty fr)):
 (w.setCell ⟨c,k,none⟩ v).heap[c]?=some (.cells (cs.setIfInBounds k v) ty fr):=by
 simp only[World.setCell];rw[gX]
 first|done|simp[h]
theorem JK(w:World)(c k:Nat)(v:Value)(c':Nat)(h:c'≠c):(w.setCell ⟨c,k,none⟩ v).heap[c']?=w.heap[c']?:=by
 simp only[World.setCell];rw[gX,if_neg<|nX h]
theorem wM(c o:Nat)(ty:TypeId)(fr:Nat×Nat):∀(vs:List Value)(i:Nat)(cs:Array Value)(w:World),w.heap[c]?=some (.cells cs ty fr)->
 (∀v∈vs,v.oneCell'=true)->o+i+vs.length<=cs.size->(∀j,fr.1<=j->j<fr.2->j<cs.size->j<o+i)->
 ∃w' cs',(storeCells ⟨c,o,none⟩ vs i).run P w=.ok () w'/\w'.heap[c]?=some (.cells cs' ty fr)/\cs'.size=cs.size/\
  (∀j,cs'[j]?=if o+i<=j/\j<o+i+vs.length then vs[j-(o+i)]? else cs[j]?)/\(∀c',c'≠c->w'.heap[c']?=w.heap[c']?)/\w'.heap.size=w.heap.size/\
  w'.os=w.os/\w'.tape=w.tape/\w'.output=w.output:=by
 intro vs
 induction vs with
 |nil=>
  intro i cs w hb _ _ _;refine⟨w,cs,by simp[storeCells],hb,rfl,?_,λ_ _=>rfl,rfl,rfl,rfl,rfl⟩;intro j;rw[if_neg (by simp only[lz];omega)]
 |cons v vs ih=>
  intro i cs w hb hone hsz hfr;have hlen:o+i<cs.size:=by simp at hsz;omega
  have hadd:(⟨c,o,none⟩:Addr).add i=⟨c,o+i,none⟩:=by
   unfold Addr.add;split
   .next h0=>rw[h0,bn]
   .rfl
  have hcell:w.cell? ⟨c,o+i,none⟩=some cs[o+i]:=by rw[cell_of hb,aJ hlen]
  have hfz:w.frozen? ⟨c,o+i,none⟩=false:=by
   simp only[World.frozen?,hb];rw[<-aV,aG];rintro⟨a,b⟩;have:=hfr (o+i) (by simpa using a) (by simpa using b) hlen;omega
  have hst:(store ((⟨c,o,none⟩:Addr).add i) v).run P w=.ok () (w.setCell ⟨c,o+i,none⟩ v):=by
   rw[hadd,run_store P w _ v .plain<|hone v<|by simp,hcell];simp[hfz]
  obtain⟨w',cs',h1,h2,h3,h4,h5,h6,h7,h8,h9⟩:=ih (i+1) (cs.setIfInBounds (o+i) v) (w.setCell ⟨c,o+i,none⟩ v) (LD w c (o+i) v cs ty fr hb)
   (λu hu=>hone u<|by simp[hu]) (by simp at hsz|-;omega) (λj a b d=>by have:=hfr j a b (by simpa using d);omega)
  refine⟨w',cs',?_,h2,by rw[h3];simp,?_,?_,by rw[h6];simp,h7,h8,h9⟩
  .simp only[storeCells,Sem.run_bind,hst,Result.andThen_ok];exact h1
  .intro j;rw[h4 j]
   by_cases e:j=o+i
   .subst e;rw[if_neg aa,if_pos<|by simp];simp[hlen]
   .by_cases g:o+(i+1)<=j/\j<o+(i+1)+vs.length
    .rw[if_pos g,if_pos (by simp;omega),show j-(o+i)=(j-(o+(i+1)))+1 from by omega];rfl
    .rw[if_neg g,if_neg (by simp;omega)];simp[gM (nX e)]
  .intro c' hc';rw[h5 c' hc',JK _ _ _ _ _ hc']
theorem Qm(h:VR m v v')(hs:dK v=true):v'.oneCell'=true:=by
 obtain⟨_,h1,h2⟩:=h.dK hs;cases v'<;>first|rfl|exact absurd rfl (h1 _)|exact absurd rfl<|h2 _
theorem zZ:∀{vs vs':List Value},jf m vs vs'->vs.all dK=true->∀v∈vs',v.oneCell'=true:=by
 intro vs
 induction vs with
 |nil=>intro vs' h _;cases h;simp
 |cons v vs ih=>
  intro vs' h ha;cases h with
  |cons _ v' _ r' hv hr=>
   simp at ha;intro u hu;rcases bP.1 hu with rfl|hu
   .exact Qm hv ha.1
   .exact ih hr (by simpa using ha.2) u hu
theorem z8(rh:RH m H w){off:Nat}(h:H.write r off vs=some H')(hv:jf m vs vs')(hm:m r=some l)(hl:l.lo<=off):
 ∃w',(storeCells ⟨l.c,l.base+(off-l.lo),none⟩ vs').run P w=.ok () w'/\RH m H' w'/\Ex m m H H' w w':=by
 cases hv with
 |nil=>cases h;exact⟨w,by simp[storeCells],rh,Ex.refl _ _ _⟩
 |cons v v' x x' hvv NF=>
  have hv:jf m (v::x) (v'::x'):=.cons _ _ _ _ hvv NF
  replace h:(ax (rX<|H.obj r) λw=>
   gd (!w.ja&&Nat.ble (Nat.add off<|len<|v::x) w.n&&Nat.ble w.fz off&&all' dK (v::x))
   (some<|H.put r<|.row ⟨w.ty,Tr.pU top (v::x) off w.cells,w.n,false,w.fz⟩))=some H':=h
  obtain⟨R,hR,h⟩:=ak h;obtain⟨hg,h⟩:=dh h;cases h;have JA:=qR hR;simp only[aG,dG,all_eq]at hg;obtain⟨⟨⟨g0,g1⟩,g2⟩,g3⟩:=hg;have g1:off+(v::x).length<=R.n:=ai g1;have g2:=ai g2;obtain⟨cs,fr,hb,hnn,h2,h3,h4,h5,h6⟩:=row_of rh hm JA;have hlen:(v'::x').length=(v::x).length:=(jf.length hv).symm
  obtain⟨w',cs',e1,e2,e3,e4,e5,e6,e7,e8,e9⟩:=wM (P:=P) l.c (l.base+(off-l.lo)) R.ty fr (v'::x') 0 cs w hb (zZ hv g3) (by rw[hlen];omega)
   (λj a b d=>by have:=h5 (by simpa using g0);omega)
  have hu:=RH.update rh r l (.row ⟨R.ty,Tr.pU top (v::x) off R.cells,R.n,false,R.fz⟩) (.cells cs' R.ty fr) hm (by rw[JA];simp) ?_ e2 e6 e5 e7 e8 e9
  .exact⟨w',e1,hu.1,hu.2⟩
  .refine⟨⟨rfl,base_of rh hm JA⟩,hnn,by rw[e3];exact h2,h3,h4,λ_=>h5<|by simpa using g0,?_⟩;intro i a b;rw[Tr.jM]
   by_cases hin:off<=i/\i<off+(v::x).length
   .have hgi:(v::x)[i-off]?=some ((v::x).getD (i-off) top):=by
     rw[aK,ae aa];rfl
    obtain⟨u,hu1,hu2⟩:=hv.get (i-off) hgi;refine⟨u,?_,by rw[if_pos hin];exact hu2⟩;rw[e4,if_pos (by rw[hlen];omega),show l.base+(i-l.lo)-(l.base+(off-l.lo)+0)=i-off from by omega];exact hu1
   .obtain⟨u,hu1,hu2⟩:=h6 i a b;refine⟨u,?_,by rw[if_neg hin];exact hu2⟩;rw[e4,if_neg (by rw[hlen];omega)];exact hu1
theorem WY(rh:RH m H w)(h:wG P t x y H=some (v,H'))(hx:VR m x x')(hy:VR m y y'):
 v=undef/\∃w',(Instr.storeAt t x' y').run P w=.ok () w'/\RH m H' w'/\Ex m m H H' w w':=by
 obtain⟨a,ha,h⟩:=ak h;obtain⟨s,hs,h⟩:=ak h;obtain⟨hg,h⟩:=dh h;obtain⟨H1,hH1,h⟩:=ak h;cases h;obtain⟨i,hi,rfl⟩:=nJ hs;rw[kW ha]at hx;obtain⟨l,hm,hlo,hsp,rfl⟩:=hx.oO;have hlen:=aB hg;rw[dG]at hlen
 have hnt:y≠top:=by
  intro e;subst e
  replace hH1:(ax (rX<|H.obj a.block) λw=>
   gd (!w.ja&&Nat.ble (Nat.add a.off<|len [top]) w.n&&Nat.ble w.fz a.off&&all' dK [top])
   (some<|H.put a.block<|.row ⟨w.ty,Tr.pU top [top] a.off w.cells,w.n,false,w.fz⟩))=some H':=hH1
  have h:=hH1;obtain⟨R,hR,h⟩:=ak h;obtain⟨hg,h⟩:=dh h;simp[all_eq,dK,top]at hg
 have hc:=yH hy hnt;obtain⟨w',e1,e2,e3⟩:=z8 (P:=P) rh hH1 hc hm hlo;refine⟨rfl,w',?_,e2,e3⟩;have hsz:y'.cells.size=i.size:=by rw[zY];show(aX y').length=_;rw[<-hc.length,hlen]
 have hcl:y'.cells.toList=aX y':=(Bh y').symm;simp only[Instr.storeAt,Instr.sureAddr,storeVar,Sem.run_bind,Sem.run_pure,Result.andThen_ok,gG hi,hsz,ne_eq,pE,g_,hcl];exact e1
def rD(P:Program)(m:Mp)(H:ag)(w:World)(s:Sem Value)(v:Value)(H':ag):Prop:=
 ∃m' cv w',s.run P w=.ok cv w'/\VR m' v cv/\RH m' H' w'/\Ex m m' H H' w w'
theorem UC(hv:jf m vs vs')(c:Nat):qG m ⟨c,0,0,vs'.length,vs.length⟩ (rowOf ty vs) (.cells ⟨vs'⟩ ty):=by
 refine⟨⟨rfl,rfl⟩,dG vs,rfl,aM _,?_,?_,?_⟩
 .show 0+(len vs-0)<=vs'.length;rw[dG,hv.length];omega
 .intro _;exact aM _
 .intro i a b;have b:i<len vs:=b;rw[dG]at b;rw[show(Tr.pU top vs 0 .nil).get top i=vs.getD i top from by rw[Tr.jM,if_pos aa];rfl];have hgi:vs[i]?=some (vs.getD i top):=by rw[aK,ae b];rfl
  obtain⟨u,h1,h2⟩:=hv.get i hgi;exact⟨u,by simpa using h1,h2⟩
theorem Bp(rh:RH m H w)(hv:jf m vs vs'):
 ∃l m',m' H.next=some l/\l.c=w.heap.size/\l.lo=0/\l.base=0/\l.tot=vs'.length/\l.n=vs.length/\(newRow ty ⟨vs'⟩).run P w=.ok ⟨w.heap.size,0,none⟩ (w.alloc<|.cells ⟨vs'⟩ ty)/\
  RH m' (H.new<|rowOf ty vs) (w.alloc<|.cells ⟨vs'⟩ ty)/\Ex m m' H (H.new<|rowOf ty vs) w (w.alloc<|.cells ⟨vs'⟩ ty):=by
 have:=rh.alloc (rowOf ty vs) (.cells ⟨vs'⟩ ty) 0 0 vs'.length vs.length<|UC hv _;refine⟨⟨w.heap.size,0,0,vs'.length,vs.length⟩,_,?_,rfl,rfl,rfl,rfl,rfl,?_,this.1,this.2⟩
 .simp[Mp.add]
 .simp[newRow]
theorem LF(h:m' n=some l)(h1:l.lo=0)(h2:l.base=0):VR m' (Hy n) (.pointer<|some ⟨l.c,0,none⟩):=by
 have:=VR.ptr (m:=m') n 0 l h aa;rw[h1,h2]at this;exact this
theorem WZ(rh:RH m H w)(h:zW P e H=some (v,H')):rD P m H w (Instr.alloc e true<|.tuple #[]) v H':=by
 obtain⟨z,hz,h⟩:=ak h;cases h;obtain⟨i,z0,hi,hz0,WW,hlen,hs⟩:=vZ hz;obtain⟨l,m',a1,a2,a3,a4,a5,a9,a6,a7,a8⟩:=Bp (P:=P) (ty:=e) rh<|jf.jW (m:=m) hs;refine⟨m',_,_,?_,LF a1 a3 a4,a7,a8⟩;have hzc:z0.cells=⟨z⟩:=by rw[WW]
 simp only[Instr.alloc,newVar,Sem.run_bind,wJ hi hz0,Result.andThen_ok,hzc,a6,Sem.run_pure,a2]
theorem adH(rh:RH m H w)(h:Le e x H=some (v,H'))(hx:VR m x x'):rD P m H w (Instr.box e x') v H':=by
 obtain⟨hg,h⟩:=dh h;cases h;obtain⟨l,m',a1,a2,a3,a4,a5,a9,a6,a7,a8⟩:=Bp (P:=P) (ty:=e) rh<|yH hx<|Ki hg;refine⟨m',_,_,?_,LF a1 a3 a4,a7,a8⟩;simp only[Instr.box,newVar,Sem.run_bind,Result.andThen_ok,zY,a6,Sem.run_pure,a2]
end mem
section mem
variable{P:Program}
theorem NH(z:List Value):∀n,(mg z n).length=n*z.length:=by
 intro n
 induction n with
 |zero=>show([]:List Value).length=_;simp
 |succ n ih=>show(app z<|mg z n).length=_;rw[nY,ay,ih,vC];omega
theorem W9(z:List Value):∀n i,i<n*z.length->(mg z n)[i]?=z[i %z.length]?:=by
 intro n
 induction n with
 |zero=>intro i h;omega
 |succ n ih=>
  intro i h;rw[show mg z (n+1)=z++mg z n from nY _ _]
  by_cases hi:i<z.length
  .rw[aP hi,Nat.mod_eq_of_lt hi]
  .rw[bf aa,ih _ (by rw[vC]at h;omega),<-Nat.mod_eq_sub_mod aa]
theorem Ii(z:List Value)(n:Nat):((Array.range<|n*z.length).map λi=>(⟨z⟩:Array Value)[i %(⟨z⟩:Array Value).size]!)=⟨mg z n⟩:=by
 rw[<-fJ];apply eP;intro i;simp only[Array.toList_map,Array.toList_range]
 by_cases hi:i<n*z.length
 .rw[W9 z n i hi,aR,List.getElem?_range hi]
  have hz:0<z.length:=by
   rcases fq z.length with h0|h0
   .rw[h0]at hi;omega
   .exact h0
  have hm:i %z.length<z.length:=Nat.mod_lt _ hz;simp[ae hm,hm]
 .rw[dS (by simpa using hi),dS (by rw[NH];omega)]
theorem EP(h:z.all jW=true):∀n,(mg z n).all jW=true:=by
 intro n
 induction n with
 |zero=>rfl
 |succ n ih=>rw[show mg z (n+1)=z++mg z n from nY _ _,List.all_append,h,ih];rfl
theorem W_{k:Nat}(h:m' n=some l)(h1:l.lo=0)(h2:l.base=0)(hc:eY c=true)(hkc:k<=c):VR m' (.slice (some ⟨n,0,none⟩) k c) (.slice (some ⟨l.c,0,none⟩) k c):=by
 have:=VR.slice (m:=m') n 0 k c l h aa hc hkc;rw[h1,h2]at this;exact this
theorem Qn(rh:RH m H w)(h:pJ P t n ps H=some (v,H'))(hp:PRs m ps ps'):
 rD P m H w (Instr.buildSlice t n ⟨ps'⟩) v H':=by
 obtain⟨q,hq,h⟩:=ak h;obtain⟨z,hz,h⟩:=ak h;obtain⟨hg,h⟩:=dh h;obtain⟨cs,hcs,h⟩:=ak h;cases h;obtain⟨hu,⟨inf,qF,hsz⟩,hq1⟩:=yF hq;obtain⟨i,z0,hi,hz0,WW,hlen,hs⟩:=vZ hz;rw[qF]at hi;cases hi;have hg:=ai hg;have hg:n*q.2<=16777216:=hg;have hrep:jf m (mg z n) (mg z n):=jf.jW<|EP hs n;obtain⟨cs',hcs',hr⟩:=LC _ ps ps' _ _ cs hcs hp hrep;obtain⟨l,m',a1,a2,a3,a4,a5,a9,a6,a7,a8⟩:=Bp (P:=P) (ty:=q.1) rh hr
 have hk:eY n=true:=by
  refine av ?_;have:n*1<=n*q.2:=jw n hq1;omega
 refine⟨m',_,_,?_,W_ a1 a3 a4 hk aa,a7,a8⟩;have hzc:z0.cells=⟨z⟩:=by rw[WW]
 have ack:Instr.fill (λk=>some (k*q.2,q.2)) ⟨mg z n⟩ ps'=some ⟨cs'⟩:=hcs';have h24:¬(n*q.2>2^24):=by omega
 have harr:=Ii z n;rw[hlen,hsz]at harr
 by_cases h0:n*q.2=0
 .have hn:n=0:=by
   rcases fq n with e|e
   .exact e
   .have:=o_ e (show 0<q.2 from hq1);omega
  subst hn;have adI:Instr.fill (λk=>some (k*q.2,q.2)) #[] ps'=some ⟨cs'⟩:=ack;have e0:∀f:Nat->Value,Array.map f (Array.range 0)=#[]:=λf=>by simp
  simp[Instr.buildSlice,bY hu,gG qF,hsz,adI,a6,a2,e0]
 .simp only[Instr.buildSlice,Sem.run_bind,bY hu,Result.andThen_ok,gG qF,hsz,h24,g_,h0,wJ qF hz0,hzc,Sem.run_pure,harr,ack,a6,a2]
theorem LG(rh:RH m H w)(h:mP P t x y H=some (v,H'))(hx:VR m x x')(hy:VR m y y'):
 rD P m H w (Instr.makeSlice t x' y') v H':=by
 obtain⟨q,hq,h⟩:=ak h;obtain⟨i0,hi0,h⟩:=ak h;obtain⟨z,hz,h⟩:=ak h;obtain⟨n,hn,h⟩:=ak h;obtain⟨c,hc,h⟩:=ak h;obtain⟨hg,h⟩:=dh h;cases h;obtain⟨hu,⟨inf,qF,hsz⟩,hq1⟩:=yF hq;obtain⟨i,z0,hi,hz0,WW,hlen,hs⟩:=vZ hz;rw[qF]at hi;cases hi;have hi0:P.info? q.1=some i0:=hi0;rw[qF]at hi0;cases hi0;obtain⟨k1,rfl⟩:=Bf hn;obtain⟨k2,rfl⟩:=Bf hc;have:=hx.of_int;subst this;have:=hy.of_int;subst this;simp only[aG]at hg;have g1:=ai hg.1.1;have g2:=ai hg.1.2;have g3:=ai hg.2;obtain⟨l,m',a1,a2,a3,a4,a5,a9,a6,a7,a8⟩:=Bp (P:=P) (ty:=q.1) rh<|jf.jW (m:=m)<|EP hs c;have hk:eY c=true:=av aa;refine⟨m',_,_,?_,W_ a1 a3 a4 hk aa,a7,a8⟩;have hzc:z0.cells=⟨z⟩:=by rw[WW]
 have harr:=Ii z c;rw[hlen]at harr;have w1:IntKind.i64.wrap (n:Int)=n:=IntWalk.i64_in _ aa;have w2:IntKind.i64.wrap (c:Int)=c:=IntWalk.i64_in _ aa;have hb1:i0.bytes*c<=1048576*16777216:=oQ g3 g2
 have hlt:¬((2:Int)^48<(i0.bytes:Int)*(c:Int)):=by
  have:(i0.bytes:Int)*(c:Int)=((i0.bytes*c:Nat):Int):=by simp
  rw[this];omega
 by_cases h0:c*q.2=0
 .have hn:c=0:=by
   rcases fq c with e|e
   .exact e
   .have:=o_ e (show 0<q.2 from hq1);omega
  subst hn;have hnn:n=0:=by omega
  subst hnn;have a6':(newRow q.1 #[]).run P w=.ok ⟨w.heap.size,0,none⟩ (w.alloc<|.cells #[] q.1):=a6;have w0:IntKind.i64.wrap 0=0:=IntWalk.i64_in _ aa;have e0:∀f:Nat->Value,Array.map f (Array.range 0)=#[]:=λf=>by simp
  simp[Instr.makeSlice,bY hu,asInt,asIntOf,wI qF,w0,gG qF,hsz,a2];rw[e0,a6'];rfl
 .have afc:Array.map (λx=>z[x %z.length]?.getD default) (Array.range<|c*q.2)=⟨mg z c⟩:=by
   rw[<-harr,hsz];congr 1;funext x;simp
  have hcond:¬((((c:Int)<0\/281474976710656<(i0.bytes:Int)*(c:Int))\/(n:Int)<0)\/c<n):=by
   rintro(((h|h)|h)|h)
   .omega
   .exact hlt h
   .omega
   .omega
  simp[Instr.makeSlice,bY hu,asInt,asIntOf,wI qF,w1,w2,gG qF,hsz,h0,wJ qF hz0,hzc,a2];rw[if_neg hcond,afc,a6];rfl
end mem
section mem
variable{P:Program}
theorem BP.length{l:List (Value×Value)}(h:BP m l l'):l.length=l'.length:=by
 induction h with
 |nil=>rfl
 |cons _ _ _ _ _ _ _ _ ih=>simp[ih]
theorem Qo(hd:P.underlying t=some d)(h1:1<=pV d)(em:Bool)(n:Nat)(w:World):(Instr.checkKey em (n+1) t v).run P w=.ok () w:=by
 rcases EO h1 with⟨kk,rfl⟩|rfl|rfl<;>simp[Instr.checkKey,bY hd]
theorem UD:∀(fs:List Field)(k:Nat)(ks:List Nat)(X':List Value),n_ P fs k=some ks->k+fs.length<=X'.length->
 ∀f∈fs,f.name≠ "_" /\∀(em:Bool) n w,∃a,(part f.type ⟨X'⟩ f.offset).run P w=.ok a w/\(Instr.checkKey em (n+1) f.type a).run P w=.ok () w:=by
 intro fs
 induction fs with
 |nil=>intro k ks X' _ _ f hf;cases hf
 |cons f fs ih=>
  intro k ks X' hk hl g hg;obtain⟨d,r,hd,hr,ho,hn,h1,rfl⟩:=qT hk;rcases bP.1 hg with rfl|hg
  .refine⟨hn,λem n w=>?_⟩;have hlt:g.offset<X'.length:=by rw[ho];simp at hl;omega
   exact⟨_,v_ hd (xS h1)<|ae hlt,Qo hd h1 em n w⟩
  .exact ih (k+1) r X' hr (by simp at hl;omega) g hg
theorem FC:∀(ks:List Nat)(xs ys:List Value)(b:Bool),nC ks xs ys=some b->b=true->xs.length=ks.length:=by
 intro ks
 induction ks with
 |nil=>
  intro xs ys b h hb;cases xs with
  |nil=>rfl
  |cons _ _=>cases h
 |cons k ks ih=>
  intro xs ys b h hb;obtain⟨x,xr,y,yr,c,rfl,rfl,hce,hcase⟩:=vO h;rcases hcase with⟨_,hr⟩|⟨_,hbf⟩
  .simp[ih xr yr b hr hb]
  .rw[hb]at hbf;cases hbf
theorem Ij:∀(fs:List Field)(k:Nat)(ks:List Nat),n_ P fs k=some ks->ks.length=fs.length:=by
 intro fs
 induction fs with
 |nil=>intro k ks h;cases h;rfl
 |cons f fs ih=>
  intro k ks h;obtain⟨d,r,hd,hr,ho,hn,h1,rfl⟩:=qT h;simp[ih _ _ hr]
theorem FD(h:nH P t x x=some true)(hx:VR m x x')(em:Bool)(n:Nat)(w:World):(Instr.checkKey em (n+2) t x').run P w=.ok () w:=by
 obtain⟨q,hq,h⟩:=ak h;rcases EN hq with⟨d,hd,rfl,h1⟩|⟨fs,ks,hu,hs,hk,rfl⟩|⟨c,e,d,i,hu,he,hi,hsz,h1,rfl⟩
 .exact Qo hd h1 em (n+1) w
 .replace h:(ax (tq x) λa=>ax (tq x) λb=>nC ks a b)=some true:=h;obtain⟨xs,hxs,h⟩:=ak h;obtain⟨ys,hys,h⟩:=ak h;rw[pX hxs]at hx;obtain⟨xs',rfl,CG⟩:=hx.uq
  have hlen:0+fs.length<=xs'.length:=by
   rw[<-CG.length,FC ks xs ys true h rfl,Ij fs 0 ks hk];omega
  have each:=UD fs 0 ks xs' hk hlen;rw[Instr.checkKey];simp only[Sem.run_bind,bY hu,Result.andThen_ok];rw[<-Array.forIn_toList];simp only[];clear hk hq hlen hu;generalize fs=L at each
  induction L with
  |nil=>simp
  |cons f L ih=>
   obtain⟨hn,hp⟩:=each f (by simp);obtain⟨a,p1,p2⟩:=hp em n w;simp only[List.forIn_cons,Sem.run_bind,hn,ne_eq,pz,iq,Result.andThen_ok,p1,p2,Sem.run_pure];exact ih λy hy=>each y (by simp[hy])
 .replace h:(ax (tq x) λa=>ax (tq x) λb=>nC (List.replicate c<|pV d) a b)=some true:=h;obtain⟨xs,hxs,h⟩:=ak h;obtain⟨ys,hys,h⟩:=ak h;rw[pX hxs]at hx;obtain⟨xs',rfl,CG⟩:=hx.uq
  have hlen:xs'.length=c:=by
   rw[<-CG.length,FC _ xs ys true h rfl];simp
  rw[Instr.checkKey];simp only[Sem.run_bind,bY hu,Result.andThen_ok];simp only[Std.Legacy.Range.forIn_eq_forIn_range',Std.Legacy.Range.size,iK,Nat.add_one_sub_one,Nat.div_one]
  have each:∀j∈List.range' 0 c,∃a,(part e ⟨xs'⟩<|j*i.size).run P w=.ok a w/\(Instr.checkKey em (n+1) e a).run P w=.ok () w:=by
   intro j hj;have hj:j<xs'.length:=by rw[hlen];simpa using hj
   refine⟨xs'[j],?_,Qo he h1 em n w⟩;rw[hsz,bG];exact v_ he (xS h1)<|ae hj
  clear hlen hq h hu;generalize List.range' 0 c=L at each
  induction L with
  |nil=>simp
  |cons j L ih=>
   obtain⟨a,p1,p2⟩:=each j (by simp);simp only[List.forIn_cons,Sem.run_bind,gG hi,Result.andThen_ok,p1,p2,Sem.run_pure];exact ih λy hy=>each y (by simp[hy])
theorem Ik(hd:P.underlying t=some d)(h:t_ (pV d) x y=some b)(hx:VR m x x')(hy:VR m y y'):Instr.sameNow d x' y'=some b:=by
 obtain⟨rfl,rfl,_⟩:=xR (t:=t) hd h hx hy;cases d<;>simp only[pV]at h
 case int k=>
  replace h:(ax (pF x') λa=>ax (pF y') λb=>gd (Nat.beq (mW a.1)<|mW b.1)<|some<|Nv a.2 b.2)=some b:=h;obtain⟨p,hp,h⟩:=ak h;obtain⟨q,hq,h⟩:=ak h;obtain⟨hk,h⟩:=dh h;cases h;rw[mH hp,mH hq];have hk:=xQ hk;simp[Instr.sameNow,hk,Ia]
 case bool=>
  replace h:(ax (gF x') λa=>ax (gF y') λb=>some<|yu a b)=some b:=h;obtain⟨p,hp,h⟩:=ak h;obtain⟨q,hq,h⟩:=ak h;cases h;rw[lJ hp,lJ hq];simp[Instr.sameNow,Ib]
 case string=>
  replace h:(ax (pG x') λa=>ax (pG y') λb=>some<|nT a b)=some b:=h;obtain⟨p,hp,h⟩:=ak h;obtain⟨q,hq,h⟩:=ak h;cases h;rw[kX hp,kX hq];simp[Instr.sameNow,wL,beq_toListBytes]
 all_goals cases h
def Qp(m:Mp):Option (Nat×Value)->Option (Nat×Value)->Prop
 |none,none=>True
 |some p,some q=>p.1=q.1/\VR m p.2 q.2
 |_,_=>False
theorem CK{e:Value×Value}{i:Nat}{r:Option (Nat×Value)}(h:uS P kt k (e::es) i=some r):
 (nH P kt k e.1=some true/\r=some (i,e.2))\/(nH P kt k e.1=some false/\uS P kt k es (i+1)=some r):=by
 replace h:(ax (nH P kt k e.1) λb=>aU b (some<|some (i,e.2))<|uS P kt k es<|i+1)=some r:=h;obtain⟨b,hb,h⟩:=ak h;cases b
 .exact .inr ⟨hb,h⟩
 .cases h;exact .inl ⟨hb,rfl⟩
theorem Qq(hd:P.underlying kt=some d)(hq:tEq P kt=some (.inl<|pV d))(hk:VR m k k'):∀{es:List (Value×Value)}{xz:List MapEntry},BP m es xz->∀(i:Nat)(r:Option<|Nat×Value),
 uS P kt k es i=some r->∃r',Instr.findNow d k' xz i=some r'/\Qp m r r':=by
 intro es xz hes
 induction hes with
 |nil=>intro i r h;cases h;exact⟨none,rfl,trivial⟩
 |cons kk v e l l' hkk hv hl ih=>
  intro i r h
  have cellOf:∀b,nH P kt k kk=some b->t_ (pV d) k kk=some b:=by
   intro b hb;unfold nH at hb;rw[hq]at hb;exact hb
  rcases CK h with⟨h1,rfl⟩|⟨h1,h2⟩
  .have:=Ik hd (cellOf _ h1) hk hkk;exact⟨some (i,e.val),by simp[Instr.findNow,this],rfl,hv⟩
  .have:=Ik hd (cellOf _ h1) hk hkk;obtain⟨r',h3,h4⟩:=ih (i+1) r h2;exact⟨r',by simp[Instr.findNow,this,h3],h4⟩
theorem JL(hk:VR m k k')(w:World):∀{es:List (Value×Value)}{xz:List MapEntry},BP m es xz->∀(i:Nat)(r:Option<|Nat×Value),
 uS P kt k es i=some r->∃r',(Instr.findAsking kt k' xz i).run P w=.ok r' w/\Qp m r r':=by
 intro es xz hes
 induction hes with
 |nil=>intro i r h;cases h;exact⟨none,rfl,trivial⟩
 |cons kk v e l l' hkk hv hl ih=>
  intro i r h;rcases CK h with⟨h1,rfl⟩|⟨h1,h2⟩
  .have:=Ic h1 hk hkk w;exact⟨some (i,e.val),by simp[Instr.findAsking,this],rfl,hv⟩
  .have:=Ic h1 hk hkk w;obtain⟨r',h3,h4⟩:=ih (i+1) r h2;exact⟨r',by simp[Instr.findAsking,this,h3],h4⟩
theorem Il{r:Option (Nat×Value)}(hk:VR m k k')(hes:BP m es xz)(h:uS P kt k es 0=some r)(hv:nH P kt k k=some true)(w:World):
 ∃r',(Instr.findKey kt k' xz).run P w=.ok r' w/\Qp m r r':=by
 have h0:=hv;replace hv:(ax (tEq P kt) λq=>@Sum.rec Nat (List Nat) (λ_=>Option Bool) (λn=>t_ n k k) (λl=>ax (tq k) λa=>ax (tq k) λb=>nC l a b) q)=some true:=hv;obtain⟨q,hq,hv'⟩:=ak hv;have ask:=JL hk w hes 0 r h
 have und:∃d,P.underlying kt=some d:=by
  rcases EN hq with⟨d,hd,_⟩|⟨fs,ks,hu,_⟩|⟨c,e,d,i,hu,_⟩
  .exact⟨_,hd⟩
  .exact⟨_,hu⟩
  .exact⟨_,hu⟩
 obtain⟨d,hd⟩:=und;cases hfn:Instr.findNow d k' xz 0 with
 |none=>
  obtain⟨r',h1,h2⟩:=ask;exact⟨r',by simp[Instr.findKey,bY hd,hfn,h1],h2⟩
 |some r0=>
  refine⟨r0,by simp[Instr.findKey,bY hd,hfn],?_⟩;rcases EN hq with⟨d',hd',rfl,h1⟩|⟨fs,ks,hu,_,_,rfl⟩|⟨c,e,d',i,hu,_,_,_,_,rfl⟩
  .rw[hd]at hd';cases hd';obtain⟨r',h3,h4⟩:=Qq hd hq hk hes 0 r h;rw[hfn]at h3;cases h3;exact h4
  .rw[hd]at hu;cases hu;cases hes with
   |nil=>cases h;simp[Instr.findNow]at hfn;subst hfn;trivial
   |cons kk v e l l' hkk hv hl=>simp[Instr.findNow,Instr.sameNow]at hfn
  .rw[hd]at hu;cases hu;cases hes with
   |nil=>cases h;simp[Instr.findNow]at hfn;subst hfn;trivial
   |cons kk v e l l' hkk hv hl=>simp[Instr.findNow,Instr.sameNow]at hfn
end mem
section mem
variable{P:Program}
theorem NI{u:Unit}(h:DI P t k=some u):nH P t k k=some true:=by
 obtain⟨b,hb,h⟩:=ak h;obtain⟨hg,h⟩:=dh h;rw[hb,hg]
theorem wN{es:Array MapEntry}{cl:Nat}(h:w.heap[c]?=some (.map es cl)):(getObj c).run P w=.ok (.map es cl) w:=by
 simp[getObj,Sem.run,h]
def ER(w:World)(c:Nat)(o:Obj):World:={w with heap:=w.heap.setIfInBounds c o}
theorem Im{es es':Array MapEntry}{cl cl':Nat}(h:w.heap[c]?=some (.map es cl)):(setObj c<|.map es' cl').run P w=.ok () (ER w c<|.map es' cl'):=by
 simp[setObj,Sem.run,h,ER]
theorem LH{o0:Obj}(h:w.heap[c]?=some o0):(ER w c o).heap[c]?=some o:=by
 have:=nK h;simp[ER,this]
theorem LJ(h:c'≠c):(ER w c o).heap[c']?=w.heap[c']?:=by
 simp only[ER];exact gM<|nX h
theorem ES:(ER w c o).heap.size=w.heap.size:=by simp[ER]
theorem Qr(rh:RH m H w){r:Option Value}(h:si P t r H=some (v,H'))(hr:OR m r r'):
 rD P m H w (Instr.makeMap t r') v H':=by
 obtain⟨q,hq,h⟩:=ak h;obtain⟨hg,h⟩:=dh h;cases h;have hu:=GV hq;have:=rh.alloc (.map []) (.map #[] 0) 0 0 0 0 (show BP m [] []from .nil);refine⟨_,.map<|some w.heap.size,w.alloc<|.map #[] 0,?_,?_,this.1,this.2⟩
 .cases hr with
  |nn=>simp[Instr.makeMap]
  |ss x x' hx=>
   replace hg:(!(cO<|pF x))=true:=hg;cases hv:pF x with
   |none=>rw[hv]at hg;cases hg
   |some p=>
    rw[mH hv]at hx;have:=hx.of_int;subst this;simp[Instr.makeMap,bY hu,asInt,asIntOf]
 .exact VR.map H.next ⟨w.heap.size,0,0,0,0⟩ (by simp[Mp.add])
theorem Qs(rh:RH m H w)(hm:m r=some l)(ho:H.obj r=.map es):∃xz cl,w.heap[l.c]?=some (.map xz cl)/\BP m es xz.toList:=by
 obtain⟨o,hb,hk⟩:=rh.ok r l hm;rw[ho]at hk;cases o with
 |map xz cl=>exact⟨xz,cl,hb,hk⟩
 |_=>exact hk.elim
theorem UE(rh:RH m H w){ok:Bool}(h:uK P t x k ok H=some (v,H'))(hx:VR m x x')(hk:VR m k k'):
 H'=H/\∃v',VR m v v'/\(Instr.lookup t x' k' ok).run P w=.ok v' w:=by
 obtain⟨q,hq,h⟩:=ak h;obtain⟨z,hz,h⟩:=ak h;obtain⟨es,hes,h⟩:=ak h;obtain⟨u,hu,h⟩:=ak h;obtain⟨f,hf,h⟩:=ak h;have hut:=GV hq;have hkk:=NI hu;obtain⟨⟨i,hi,hz0⟩,LK⟩:=NC hz;have hzz:VR m z z:=Up LK
 have pre:∃xz:Array MapEntry,BP m es xz.toList/\((x'=.map none/\xz=#[])\/∃c cl,x'=.map (some c)/\w.heap[c]?=some (.map xz cl)):=by
  have h:=hes;obtain⟨mr,hmr,h⟩:=ak h;rw[Bg hmr]at hx;cases mr with
  |none=>
   have:=hx.uL rfl;subst this;cases h;exact⟨#[],.nil,.inl ⟨rfl,rfl⟩⟩
  |some r=>
   obtain⟨l,hm,rfl⟩:=hx.of_map;replace h:Nr (H.obj r)=some es:=h;obtain⟨xz,cl,hb,he⟩:=Qs rh hm<|GL h;exact⟨xz,he,.inr ⟨_,_,rfl,hb⟩⟩
 obtain⟨xz,he,hcase⟩:=pre;obtain⟨r',hfind,hfr⟩:=Il hk he hf hkk w;have hck:=FD hkk hk xz.isEmpty 9998 w;have hck:(Instr.checkKey xz.isEmpty 10000 q.1 k').run P w=.ok () w:=hck;cases f with
 |none=>
  cases r' with
  |some _=>exact hfr.elim
  |none=>
   replace h:some (okd ok z false H)=some (v,H'):=h;have hv:v=(if ok then .tuple #[z,.bool false]else z)/\H'=H:=by cases ok<;>(cases h;exact⟨rfl,rfl⟩)
   refine⟨hv.2,(if ok then .tuple #[z,.bool false]else z),?_,?_⟩
   .rw[hv.1];cases ok
    .exact hzz
    .exact .tuple _ _<|.cons _ _ _ _ hzz<|.cons _ _ _ _ (.sc _ rfl) .nil
   .rcases hcase with⟨rfl,rfl⟩|⟨c,cl,rfl,hb⟩
    .have hck:(Instr.checkKey true 10000 q.1 k').run P w=.ok () w:=hck;have hfind:(Instr.findKey q.1 k' []).run P w=.ok none w:=hfind;simp[Instr.lookup,bY hut,hck,hfind,wJ hi hz0]
    .simp[Instr.lookup,bY hut,wN hb,hck,hfind,wJ hi hz0]
 |some p=>
  cases r' with
  |none=>exact hfr.elim
  |some p'=>
   replace h:some (okd ok p.2 true H)=some (v,H'):=h;have hv:v=(if ok then .tuple #[p.2,.bool true]else p.2)/\H'=H:=by cases ok<;>(cases h;exact⟨rfl,rfl⟩)
   obtain⟨j',u'⟩:=p';refine⟨hv.2,(if ok then .tuple #[u',.bool true]else u'),?_,?_⟩
   .rw[hv.1];cases ok
    .exact hfr.2
    .exact .tuple _ _<|.cons _ _ _ _ hfr.2<|.cons _ _ _ _ (.sc _ rfl) .nil
   .rcases hcase with⟨rfl,rfl⟩|⟨c,cl,rfl,hb⟩
    .have hck:(Instr.checkKey true 10000 q.1 k').run P w=.ok () w:=hck;have hfind:(Instr.findKey q.1 k' []).run P w=.ok (some (j',u')) w:=hfind;simp[Instr.lookup,bY hut,hck,hfind]
    .simp[Instr.lookup,bY hut,wN hb,hck,hfind]
theorem aaZ(rh:RH m H w)(h:HZ P ats args H=some (v,H'))(ha:jf m args args'):
 H'=H/\VR m v v/\(Builtin.len_ ⟨ats⟩ t ⟨args'⟩).run P w=.ok v w:=by
 obtain⟨t0,ht,h⟩:=ak h;obtain⟨x,hx,h⟩:=ak h;obtain⟨q,hq,h⟩:=ak h;obtain⟨es,hes,h⟩:=ak h;cases h;have hut:=GV hq;rw[kU]at ht hx;obtain⟨x',hx',CG⟩:=ha.get 0 hx;refine⟨rfl,.sc _ rfl,?_⟩;have h:=hes;obtain⟨mr,hmr,h⟩:=ak h;rw[Bg hmr]at CG;cases mr with
 |none=>
  have:=CG.uL rfl;subst this;cases h;simp[Builtin.len_,ht,hx',bY hut,goInt,len]
 |some r=>
  obtain⟨l,hm,rfl⟩:=CG.of_map;replace h:Nr (H.obj r)=some es:=h;obtain⟨xz,cl,hb,he⟩:=Qs rh hm<|GL h;have hl:=he.length;simp[Builtin.len_,ht,hx',bY hut,goInt,wN hb,dG,hl]
theorem FE{k:Nat}(h:t_ k x y=some true)(hx:VR m x x')(hy:VR m y y'):x'=y'/\∀n,Instr.sameBits n y' x'=true:=by
 unfold t_ at h;rw[xI]at h;split at h
 .obtain⟨a,ha,h⟩:=ak h;obtain⟨b,hb,h⟩:=ak h;obtain⟨hg,h⟩:=dh h;rw[mH ha]at hx;rw[mH hb]at hy;have:=hx.of_int;subst this;have:=hy.of_int;subst this;have hk:=xQ hg;simp only[dZ,Ia,jq]at h;exact⟨by rw[hk,h],λn=>by cases n<;>simp[Instr.sameBits,hk,h]⟩
 .rw[xI]at h;split at h
  .obtain⟨a,ha,h⟩:=ak h;obtain⟨b,hb,h⟩:=ak h;rw[lJ ha]at hx;rw[lJ hb]at hy;have:=hx.of_bool;subst this;have:=hy.of_bool;subst this;simp only[dZ,Ib,jq]at h;exact⟨by rw[h],λn=>by cases n<;>simp[Instr.sameBits,h]⟩
  .rw[xI]at h;split at h
   .obtain⟨a,ha,h⟩:=ak h;obtain⟨b,hb,h⟩:=ak h;rw[kX ha]at hx;rw[kX hb]at hy;have:=hx.qY;subst this;have:=hy.qY;subst this;simp only[dZ,wL]at h;have hl:a.toList=b.toList:=by simpa using h
    rw[ByteArray.toList_eq,ByteArray.toList_eq]at hl;have hab:a=b:=pR<|fJ.1 hl;subst hab;have hbb:(a==a)=true:=by rw[beq_toListBytes];simp
    exact⟨rfl,λn=>by cases n<;>simp[Instr.sameBits,hbb]⟩
   .cases h
theorem LM:∀(ks:List Nat)(xs ys xs' ys':List Value),nC ks xs ys=some true->jf m xs xs'->jf m ys ys'->
 xs'=ys'/\∀n,(ys'.zip xs').all (λ(x,y)=>Instr.sameBits n x y)=true:=by
 intro ks
 induction ks with
 |nil=>
  intro xs ys xs' ys' h hx hy;cases xs with
  |nil=>cases ys with
   |nil=>cases hx;cases hy;exact⟨rfl,λn=>rfl⟩
   |cons _ _=>cases h
  |cons _ _=>cases h
 |cons k ks ih=>
  intro xs ys xs' ys' h hx hy;obtain⟨x,xr,y,yr,c,rfl,rfl,hce,hcase⟩:=vO h;rcases hcase with⟨rfl,hr⟩|⟨_,hbf⟩
  .cases hx with
   |cons _ x' _ xr' hxv CG=>
    cases hy with
    |cons _ y' _ yr' hyv WJ=>
     obtain⟨e1,e2⟩:=FE hce hxv hyv;obtain⟨f1,f2⟩:=ih xr yr xr' yr' hr CG WJ;exact⟨by rw[e1,f1],λn=>by simp only[List.zip_cons_cons,tX,e2 n,f2 n,Bool.and_self]⟩
  .cases hbf
theorem Qt(h:nH P t x y=some true)(hx:VR m x x')(hy:VR m y y'):x'=y'/\∀n,Instr.sameBits (n+1) y' x'=true:=by
 obtain⟨q,hq,h⟩:=ak h;cases q with
 |inl k=>
  replace h:t_ k x y=some true:=h;obtain⟨a,b⟩:=FE h hx hy;exact⟨a,λn=>b _⟩
 |inr l=>
  replace h:(ax (tq x) λa=>ax (tq y) λb=>nC l a b)=some true:=h;obtain⟨xs,hxs,h⟩:=ak h;obtain⟨ys,hys,h⟩:=ak h;rw[pX hxs]at hx;rw[pX hys]at hy;obtain⟨xs',rfl,CG⟩:=hx.uq;obtain⟨ys',rfl,WJ⟩:=hy.uq;obtain⟨a,b⟩:=LM l xs ys xs' ys' h CG WJ;refine⟨by rw[a],λn=>?_⟩;have:=b n;simp only[Instr.sameBits,aG];exact⟨by rw[a];simp,this⟩
theorem BP.set{l:List MapEntry}(h:BP m es l):∀(j:Nat)(k v:Value)(e':MapEntry),VR m k e'.key->VR m v e'.val->BP m (es.set j (k,v)) (l.set j e'):=by
 induction h with
 |nil=>intro j k v e' _ _;exact .nil
 |cons k0 v0 e0 l0 l0' hk hv hl ih=>
  intro j k v e' h1 h2;cases j with
  |zero=>exact .cons k v e' l0 l0' h1 h2 hl
  |succ j=>exact .cons k0 v0 e0 _ _ hk hv<|ih j k v e' h1 h2
theorem BP.push{l:List MapEntry}(h:BP m es l)(k v:Value)(e':MapEntry)(h1:VR m k e'.key)(h2:VR m v e'.val):BP m (es++[(k,v)]) (l++[e']):=by
 induction h with
 |nil=>exact .cons k v e' [] [] h1 h2 .nil
 |cons k0 v0 e0 l0 l0' hk hv hl ih=>exact .cons k0 v0 e0 _ _ hk hv ih
theorem BP.get{l:List MapEntry}(h:BP m es l):∀(j:Nat)(p:Value×Value),es[j]?=some p->∃e,l[j]?=some e/\VR m p.1 e.key/\VR m p.2 e.val:=by
 induction h with
 |nil=>intro j p hp;simp at hp
 |cons k0 v0 e0 l0 l0' hk hv hl ih=>
  intro j p hp;cases j with
  |zero=>simp at hp;subst hp;exact⟨e0,rfl,hk,hv⟩
  |succ j=>simpa using ih j p (by simpa using hp)
theorem UF:∀(es:List<|Value×Value)(i j:Nat)(v:Value),uS P kt k es i=some (some (j,v))->i<=j/\∃k0,es[j-i]?=some (k0,v)/\nH P kt k k0=some true:=by
 intro es
 induction es with
 |nil=>intro i j v h;cases h
 |cons e es ih=>
  intro i j v h;rcases CK h with⟨h1,h2⟩|⟨h1,h2⟩
  .simp at h2;obtain⟨rfl,rfl⟩:=h2;exact⟨aj _,e.1,by simp,h1⟩
  .obtain⟨a,k0,b,c⟩:=ih (i+1) j v h2;refine⟨aa,k0,?_,c⟩;rw[show j-i=(j-(i+1))+1 from by omega];simpa using b
theorem JM(xz:Array MapEntry)(j:Nat)(e:MapEntry)(he:xz[j]?=some e)(f:MapEntry->MapEntry):(xz.modify j f).toList=xz.toList.set j (f e):=by
 apply eP;intro i;have hj:=(cr.1 he).1;rw[bT,gX,bV,<-bT]
 by_cases h:j=i
 .subst h;rw[if_pos rfl,if_pos rfl,bT,he];simp[hj]
 .rw[if_neg h,if_neg h]
theorem Kk(rh:RH m H w)(h:oU P t x k y H=some (v,H'))(hx:VR m x x')(hk:VR m k k')(hy:VR m y y'):
 v=undef/\∃w',(Instr.mapUpdate t x' k' y').run P w=.ok () w'/\RH m H' w'/\Ex m m H H' w w':=by
 obtain⟨q,hq,h⟩:=ak h;obtain⟨mr,hmr,h⟩:=ak h;obtain⟨r,hr,h⟩:=ak h;obtain⟨es,hes,h⟩:=ak h;obtain⟨u,hu,h⟩:=ak h;obtain⟨f,hf,h⟩:=ak h;subst hr;have hut:=GV hq;have hkk:=NI hu;rw[Bg hmr]at hx;obtain⟨l,hm,rfl⟩:=hx.of_map;obtain⟨xz,cl,hb,he⟩:=Qs rh hm<|GL hes;obtain⟨r',hfind,hfr⟩:=Il hk he hf hkk w;have hck:(Instr.checkKey false 10000 q.1 k').run P w=.ok () w:=FD hkk hk false 9998 w;have FF:H.obj r≠.dead:=by rw[GL hes];simp
 cases f with
 |none=>
  cases r' with
  |some _=>exact hfr.elim
  |none=>
   replace h:some (undef,H.put r<|.map<|app es [(k,y)])=some (v,H'):=h;cases h
   have hnew:BP m (app es [(k,y)]) (xz.push {key:=k',val:=y',born:=cl}).toList:=by
    rw[nY,Array.toList_push];exact he.push k y _ hk hy
   have:=RH.update rh r l (.map<|app es [(k,y)]) (.map (xz.push {key:=k',val:=y',born:=cl})<|cl+1) hm FF hnew (LH hb) ES (λc hc=>LJ hc) rfl rfl rfl;refine⟨rfl,ER w l.c<|.map (xz.push {key:=k',val:=y',born:=cl})<|cl+1,?_,this.1,this.2⟩;simp[Instr.mapUpdate,bY hut,wN hb,hck,hfind,Im hb]
 |some p=>
  cases r' with
  |none=>exact hfr.elim
  |some p'=>
   obtain⟨j,v0⟩:=p;obtain⟨j',v0'⟩:=p';obtain⟨rfl,hvv⟩:=hfr;replace h:some (undef,H.put r<|.map<|setAt (k,y) j es)=some (v,H'):=h;cases h;obtain⟨_,k0,hk0,hke⟩:=UF es 0 j v0 hf;obtain⟨e,hce,hek,hev⟩:=he.get j _ (by simpa using hk0);rw[bT]at hce;obtain⟨hsame,afd⟩:=Qt hke hk hek
   have hst:(Instr.keyThatStays e.key k').run P w=.ok k' w:=by
    have:=afd 9999;simp[Instr.keyThatStays,this]
   have hnew:BP m (setAt (k,y) j es) (xz.modify j λe=>{e with key:=k',val:=y'}).toList:=by
    rw[zX,JM xz j e hce];exact he.set j k y _ hk hy
   have:=RH.update rh r l (.map<|setAt (k,y) j es) (.map (xz.modify j λe=>{e with key:=k',val:=y'}) cl) hm FF hnew (LH hb) ES (λc hc=>LJ hc) rfl rfl rfl;refine⟨rfl,ER w l.c<|.map (xz.modify j λe=>{e with key:=k',val:=y'}) cl,?_,this.1,this.2⟩;simp[Instr.mapUpdate,bY hut,wN hb,hck,hfind,hce,hst,Im hb]
end mem
section mem
variable{P:Program}
theorem uw(s:List UInt8):lH s=s.map λb=>.int .u8 b.toNat:=by rw[lH,DC];rfl
theorem FH(s:List UInt8):(lH s).all jW=true:=by
 rw[uw];simp[jW]
theorem z_(rh:RH m H w){e:Nat×List Value}(h:appended H sz x=some e)(hx:VR m x x'):
 (∀w,(Builtin.lenOf x').run P w=.ok e.1 w)/\∃vs',jf m e.2 vs'/\vs'.length=e.1*sz/\(Builtin.firstCells sz e.1 x').run P w=.ok ⟨vs'⟩ w:=by
 unfold appended at h;cases hs:pG x with
 |some s=>
  rw[hs]at h;replace h:(gd (Nat.beq sz 1)<|some (len s.data.toList,lH s.data.toList))=some e:=h;obtain⟨hg,h⟩:=dh h;cases h;have hg:=aB hg;subst hg;rw[kX hs]at hx;have:=hx.qY;subst this;have hsz:s.size=s.data.toList.length:=rfl;refine⟨λw=>by simp[Builtin.lenOf,dG],lH s.data.toList,jf.jW<|FH _,by rw[uw];simp[dG],?_⟩
  have:(s.extract 0 s.size).data=s.data:=by
   rw[l9];show s.data.extract 0 s.data.size=s.data;simp
  simp only[Builtin.firstCells,dG];rw[show s.data.toList.length=s.size from rfl,this,uw];show Result.ok _ w=Result.ok _ w;congr 1;rw[<-fJ];simp
 |none=>
  rw[hs]at h
  replace h:(ax (Gn x) λp=>@Option.rec Addr (λ_=>Option<|Nat×List Value) (gd (Nat.beq p.2.1 0)<|some (0,[]))
   (λa=>ax (H.read a.block a.off<|Nat.mul p.2.1 sz) λl=>some (p.2.1,l)) p.1)=some e:=h
  obtain⟨p,hp,h⟩:=ak h;rw[um hp]at hx;obtain⟨pa,n,cp⟩:=p;cases pa with
  |none=>
   obtain⟨h1,h2,rfl⟩:=hx.qE;replace h:(gd (Nat.beq n 0)<|some (0,([]:List Value)))=some e:=h;obtain⟨hg,h⟩:=dh h;cases h;exact⟨λw=>by simp[Builtin.lenOf],[],.nil,by simp,by simp[Builtin.firstCells]⟩
  |some a=>
   replace h:(ax (H.read a.block a.off<|Nat.mul n sz) λl=>some (n,l))=some e:=h;obtain⟨l,hl,h⟩:=ak h;cases h;simp only at hx;rcases hx.of_slice with⟨lc,cc,hm,hlo,hsp,rfl,_⟩|⟨a',e1,e2,rfl⟩
   .obtain⟨vs',h1,h2,h3⟩:=vQ (P:=P) rh hl hm hlo;exact⟨λw=>by simp[Builtin.lenOf],vs',h1,h2,by simp only[Builtin.firstCells];exact h3⟩
   .subst e1;have hz:Nat.mul 0 sz=0:=gP sz;rw[hz]at hl;cases hl;refine⟨λw=>by simp[Builtin.lenOf],[],.nil,by simp,?_⟩;simp[Builtin.firstCells,loadCells,loadCellsFrom]
theorem UG(n:Nat):∀(r c:Nat),Builtin.growBy n r c<=max c (n+(n+768)/4):=by
 intro r
 induction r with
 |zero=>intro c;simp[Builtin.growBy];omega
 |succ r ih=>
  intro c;unfold Builtin.growBy;split
  .omega
  .next h=>
   have:=ih<|c+(c+768)/4;omega
theorem Qu{need:Nat}(h:cap<need):Builtin.nextslicecap need cap<=2*need+768:=by
 unfold Builtin.nextslicecap;split
 .omega
 .split
  .omega
  .have:=UG need 4 cap;omega
theorem JN(zs:List Value)(n:Nat):(Builtin.zeroCells ⟨zs⟩ n).toList.length=n*zs.length:=by simp[Builtin.zeroCells]
theorem Xa{base:Option Addr}{k:Nat}(ha0:args'[0]?=some (.slice base ln cc))(ha1:args'[1]?=some x')(ht:ats[0]?=some t)(ht2:ats[1]?=some t2)(hu:P.underlying t=some (.slice e))(hu2:P.underlying t2=some d2)(hd2:∀kk,d2≠.int kk)(hi:P.info? e=some i)(hz:i.zero=some z0)(hzc:z0.cells=⟨zs⟩)(hzl:zs.length=i.size)(hb:i.bytes<=1048576)(hb1:1<=i.bytes)(hln:ln<=16777216)(hk:k<=16777216)(hroom:cc<ln+k)(hlen:∀w,(Builtin.lenOf x').run P w=.ok k w)(hold:(Builtin.firstCells i.size ln<|.slice base ln cc).run P w.drew=.ok ⟨old⟩ w.drew)(hnew:(Builtin.firstCells i.size k x').run P w.drew=.ok ⟨vs'⟩ w.drew):
 ∃cap rest,ln+k<=cap/\rest.length=(cap-(ln+k))*i.size/\
  (Builtin.append_ ⟨ats⟩ ty ⟨args'⟩).run P w=.ok (.slice (some ⟨w.drew.heap.size,0,none⟩) (ln+k) cap) (w.drew.alloc<|.cells ⟨old++vs'++rest⟩ e):=by
 refine⟨(Question.appendCap (ln+k) cc e).cut<|w.tape w.drawn<|.appendCap (ln+k) cc e,(Builtin.zeroCells ⟨zs⟩<|(Question.appendCap (ln+k) cc e).cut (w.tape w.drawn<|.appendCap (ln+k) cc e)-(ln+k)).toList,?_,?_,?_⟩
 .simp[Question.cut]
 .rw[JN,hzl]
 .have hz2:(match d2 with|.int _=>true|_=>false)=false:=by cases d2<;>first|rfl|exact absurd rfl (hd2 _)
  have hcap:Builtin.nextslicecap (ln+k) cc*i.bytes<=2^48:=by
   have h1:=Qu hroom;have h2:2*(ln+k)+768<=67109632:=by omega
   exact aW (oQ (aW h1 h2) hb) (by simp)
  have hne:¬(ln+k<=cc):=by omega
  have hbz:i.bytes≠0:=by omega
  have afe:¬(Builtin.nextslicecap (ln+k) cc*i.bytes>2^48):=by omega
  have hf:(Question.appendCap (ln+k) cc e).forced=false:=rfl;have hat:(⟨ats⟩:Array TypeId)[0]?=some t:=by simpa using ht
  have Xb:(⟨ats⟩:Array TypeId)[1]?=some t2:=by simpa using ht2
  have ahw:∀n,(askRoom n).run P w.drew=.ok () w.drew:=λn=>run_askRoom P w.drew n;have ha0:(⟨args'⟩:Array Value)[0]?=some (.slice base ln cc):=by simpa using ha0
  have ha1:(⟨args'⟩:Array Value)[1]?=some x':=by simpa using ha1
  cases d2
  case int kk=>exact absurd rfl<|hd2 kk
  all_goals
   simp only[Builtin.append_,hat,Xb,ha0,ha1,Sem.run_bind,bY hu,bY hu2,Result.andThen_ok,gG hi,Sem.run_pure,bA,g_,hlen,hne,
    wI hi,hbz,or_self,and_false,afe,run_choose,hf,World.drew_eq,ahw,hold,hnew,wJ hi hz,hzc,rR,iq]
  all_goals
   generalize Builtin.zeroCells ⟨zs⟩ _=zc;have harr:((⟨old⟩:Array Value)++(⟨vs'⟩:Array Value)++zc)=⟨old++vs'++zc.toList⟩:=by rw[<-fJ];simp
   rw[harr];rfl
theorem uV{k:Nat}(ha0:args'[0]?=some (.slice (some a) ln cc))(ha1:args'[1]?=some x')(ht:ats[0]?=some t)(ht2:ats[1]?=some t2)(hu:P.underlying t=some (.slice e))(hu2:P.underlying t2=some d2)(hd2:∀kk,d2≠.int kk)(hi:P.info? e=some i)(hroom:ln+k<=cc)(hlen:∀w,(Builtin.lenOf x').run P w=.ok k w)(hnew:(Builtin.firstCells i.size k x').run P w=.ok ⟨vs'⟩ w)(hst:(storeCells (a.add<|ln*i.size) vs').run P w=.ok () w'):
 (Builtin.append_ ⟨ats⟩ ty ⟨args'⟩).run P w=.ok (.slice (some a) (ln+k) cc) w':=by
 have hat:(⟨ats⟩:Array TypeId)[0]?=some t:=by simpa using ht
 have Xb:(⟨ats⟩:Array TypeId)[1]?=some t2:=by simpa using ht2
 have ha0:(⟨args'⟩:Array Value)[0]?=some (.slice (some a) ln cc):=by simpa using ha0
 have ha1:(⟨args'⟩:Array Value)[1]?=some x':=by simpa using ha1
 cases d2
 case int kk=>exact absurd rfl<|hd2 kk
 all_goals
  simp only[Builtin.append_,hat,Xb,ha0,ha1,Sem.run_bind,bY hu,bY hu2,Result.andThen_ok,gG hi,Sem.run_pure,bA,g_,hlen,hroom,
   hnew,rR,iq,hst]
theorem NJ(ha0:args'[0]?=some (.slice none 0 cc))(ha1:args'[1]?=some x')(ht:ats[0]?=some t)(ht2:ats[1]?=some t2)(hu:P.underlying t=some (.slice e))(hu2:P.underlying t2=some d2)(hd2:∀kk,d2≠.int kk)(hi:P.info? e=some i)(hlen:∀w,(Builtin.lenOf x').run P w=.ok 0 w)(hnew:(Builtin.firstCells i.size 0 x').run P w=.ok #[] w):
 (Builtin.append_ ⟨ats⟩ ty ⟨args'⟩).run P w=.ok (.slice none 0 cc) w:=by
 have hat:(⟨ats⟩:Array TypeId)[0]?=some t:=by simpa using ht
 have Xb:(⟨ats⟩:Array TypeId)[1]?=some t2:=by simpa using ht2
 have ha0:(⟨args'⟩:Array Value)[0]?=some (.slice none 0 cc):=by simpa using ha0
 have ha1:(⟨args'⟩:Array Value)[1]?=some x':=by simpa using ha1
 cases d2
 case int kk=>exact absurd rfl<|hd2 kk
 all_goals
  simp only[Builtin.append_,hat,Xb,ha0,ha1,Sem.run_bind,bY hu,bY hu2,Result.andThen_ok,gG hi,Sem.run_pure,bA,g_,hlen,bn,aM,
   hnew,rR,iq]
theorem aa0(h:ae5 P t t2=some q):P.underlying t=some (.slice q.1)/\1<=q.2/\∃i z0 zs d2,P.info? q.1=some i/\i.size=q.2/\i.zero=some z0/\z0.cells=⟨zs⟩/\zs.length=i.size/\
 zs.all jW=true/\P.underlying t2=some d2/\(∀kk,d2≠.int kk)/\i.bytes<=1048576/\1<=i.bytes:=by
 obtain⟨q',hq,h⟩:=ak h;obtain⟨i0,hi0,h⟩:=ak h;obtain⟨zs,hzs,h⟩:=ak h;obtain⟨d2,hd2,h⟩:=ak h;obtain⟨hg,h⟩:=dh h;cases h;obtain⟨hu,⟨i,hi,hsz⟩,h1⟩:=yF hq;have hi0:P.info? q.1=some i0:=hi0;rw[hi]at hi0;cases hi0;obtain⟨i2,z0,hi2,hz0,WW,hlen,hs⟩:=vZ hzs;rw[hi]at hi2;cases hi2;simp only[aG]at hg;refine⟨hu,h1,_,z0,zs,d2,hi,hsz,hz0,by rw[WW],hlen,hs,hd2,?_,ai hg.1.2,ai hg.2⟩;intro kk e;subst e;have:=hg.1.1;simp[JI,cO]at this
end mem
section mem
variable{P:Program}
theorem RH.aa1(rh:RH m H w)(r:Nat)(l l':Loc)(o':iW)(Ih:Obj)(hm:m r=some l)(hd:H.obj r≠.dead)(hc:l'.c=l.c)(hok:qG m l' o' Ih)(hb:w'.heap[l.c]?=some Ih)(hs:w'.heap.size=w.heap.size)(ho:∀c,c≠l.c->w'.heap[c]?=w.heap[c]?)(h1:w'.os=w.os)(h2:w'.tape=w.tape)(h3:w'.output=w.output):
 RH (m.add H.next l') ((H.put r .dead).new o') w'/\Ex m (m.add H.next l') H ((H.put r .dead).new o') w w':=by
 have hn:=rh.Kj;have hle:=Mp.WX (l:=l') hn;have hlow:=GY H r .dead;have hrn:r≠H.next:=λe=>by have:=rh.dom r l hm;omega
 have zG:∀k,((H.put r .dead).new o').obj k=if k=H.next then o' else if k=r then .dead else H.obj k:=by
  intro k;rw[vP];show(if k=H.next then o' else(H.put r .dead).obj k)=_;rw[su]
 have aiI:l.c<w.heap.size:=by obtain⟨_,g,_⟩:=rh.ok r l hm;exact nK g
 refine⟨⟨?_,?_,?_⟩,?_⟩
 .intro k lk hk;show k<H.next+1
  unfold Mp.add at hk;split at hk
  .omega
  .have:=rh.dom k lk hk;omega
 .intro k lk hk;rw[zG];unfold Mp.add at hk;split at hk
  .next e=>
   cases hk;rw[if_pos e];exact⟨Ih,by rw[hc];exact hb,hok.mono hle⟩
  .next e=>
   rw[if_neg e];obtain⟨ob1,g1,g2⟩:=rh.ok k lk hk
   by_cases hcc:lk.c=l.c
   .refine⟨Ih,by rw[hcc];exact hb,?_⟩
    by_cases hkr:k=r
    .rw[if_pos hkr];trivial
    .rw[if_neg hkr]
     by_cases hdd:H.obj k=.dead
     .rw[hdd];trivial
     .exact absurd (rh.sep k r lk l hk hm hdd hd hcc) hkr
   .refine⟨ob1,by rw[ho _ hcc];exact g1,?_⟩;split
    .trivial
    .exact g2.mono hle
 .intro k1 k2 l1 l2 hk1 hk2 hd1 hd2 hcc;rw[zG]at hd1 hd2;unfold Mp.add at hk1 hk2
  by_cases e1:k1=H.next<;>by_cases e2:k2=H.next
  .rw[e1,e2]
  .rw[if_pos e1]at hk1;cases hk1;rw[if_neg e2]at hk2 hd2
   by_cases hkr:k2=r
   .rw[if_pos hkr]at hd2;exact absurd rfl hd2
   .rw[if_neg hkr]at hd2;exact absurd (rh.sep k2 r l2 l hk2 hm hd2 hd<|by rw[<-hcc,hc]) hkr
  .rw[if_pos e2]at hk2;cases hk2;rw[if_neg e1]at hk1 hd1
   by_cases hkr:k1=r
   .rw[if_pos hkr]at hd1;exact absurd rfl hd1
   .rw[if_neg hkr]at hd1;exact absurd (rh.sep k1 r l1 l hk1 hm hd1 hd<|by rw[hcc,hc]) hkr
  .rw[if_neg e1]at hk1 hd1;rw[if_neg e2]at hk2 hd2
   by_cases aff:k1=r
   .rw[if_pos aff]at hd1;exact absurd rfl hd1
   .by_cases afg:k2=r
    .rw[if_pos afg]at hd2;exact absurd rfl hd2
    .rw[if_neg aff]at hd1;rw[if_neg afg]at hd2;exact rh.sep k1 k2 l1 l2 hk1 hk2 hd1 hd2 hcc
 .refine⟨hle,?_,?_,h1,h2,h3,by rw[hs];exact aj _,?_,jv _,hlow.2,?_,?_⟩
  .intro k lk hk h0;unfold Mp.add at hk;split at hk
   .next e=>omega
   .rw[h0]at hk;cases hk
  .intro k lk hk h0 hlt;unfold Mp.add at hk;split at hk
   .next e=>cases hk;exact⟨r,l,hm,hc.symm,hlow.1⟩
   .rw[h0]at hk;cases hk
  .intro c hcl hk;apply ho;intro e;have:=hk r l hm e.symm;have h9:((H.put r .dead).new o').low<=r:=hlow.1;omega
  .intro k g1 g2;have h9:((H.put r .dead).new o').low<=r:=hlow.1;rw[zG,if_neg aa,if_neg aa]
  .intro k g1 g2;rw[zG,if_neg aa,if_neg (by intro e;subst e;rw[hm]at g2;cases g2)]
theorem RH.kill(rh:RH m H w)(r:Nat)(hm:m r≠none):RH m (H.put r .dead) w/\Ex m m H (H.put r .dead) w w:=by
 have hlow:=GY H r .dead;refine⟨⟨rh.dom,?_,?_⟩,{Ex.refl m H w with next:=aj _,low:=hlow.2,rM:=?_,hid:=?_,keep:=λ_ _ _=>rfl,fresh:=λr l h h'=>absurd (h.symm.trans h') (by simp)}⟩
 .intro k lk hk;obtain⟨o,g1,g2⟩:=rh.ok k lk hk;refine⟨o,g1,?_⟩;rw[su];split
  .trivial
  .exact g2
 .intro k1 k2 l1 l2 hk1 hk2 hd1 hd2 hc;rw[su]at hd1 hd2;split at hd1
  .exact absurd rfl hd1
  .split at hd2
   .exact absurd rfl hd2
   .exact rh.sep k1 k2 l1 l2 hk1 hk2 hd1 hd2 hc
 .intro k g1 g2;rw[su,if_neg aa]
 .intro k g1 g2;rw[su,if_neg (by intro e;subst e;exact hm g2)]
theorem LP(rh:RH m H w){k:Nat}(hold:jf m old old')(hvs:jf m vs vs')(hol:old.length=ln*sz)(hvl:vs.length=k*sz)(hcap:ln+k<=cap)(hrest:rest.length=(cap-(ln+k))*sz)(hs:1<=sz):
 ∃m',VR m' (.slice (some ⟨H.next,0,none⟩) (ln+k)<|dV sz) (.slice (some ⟨w.heap.size,0,none⟩) (ln+k) cap)/\
  RH m' (H.new<|rowOf e<|old++vs) (w.alloc<|.cells ⟨old'++vs'++rest⟩ e)/\Ex m m' H (H.new<|rowOf e<|old++vs) w (w.alloc<|.cells ⟨old'++vs'++rest⟩ e):=by
 have hov:jf m (old++vs) (old'++vs'):=hold.append hvs;have hlen:(old++vs).length=(ln+k)*sz:=by rw[ay,hol,hvl,dN]
 have hlen':(old'++vs').length=(ln+k)*sz:=by rw[<-hov.length,hlen]
 have htot:(old'++vs'++rest).length=cap*sz:=by
  rw[ay,hlen',hrest,<-dN];congr 1;omega
 have hmul:(ln+k)*sz<=cap*sz:=b_ _ hcap
 have hok:qG m ⟨w.heap.size,0,0,cap*sz,(ln+k)*sz⟩ (rowOf e<|old++vs) (.cells ⟨old'++vs'++rest⟩ e):=by
  refine⟨⟨rfl,rfl⟩,by show len (old++vs)=_;rw[dG,hlen],htot,aM _,?_,?_,?_⟩
  .show 0+(len (old++vs)-0)<=cap*sz;rw[dG,hlen];omega
  .intro _;exact aM _
  .intro i a b;have b:i<len (old++vs):=b;rw[dG]at b;rw[show(Tr.pU top (old++vs) 0 .nil).get top i=(old++vs).getD i top from by rw[Tr.jM,if_pos aa];rfl];have hgi:(old++vs)[i]?=some ((old++vs).getD i top):=by rw[aK,ae b];rfl
   obtain⟨u,h1,h2⟩:=hov.get i hgi;refine⟨u,?_,h2⟩;simp only[qB,aI,iK];rw[aP (by rw[hlen',<-hlen];exact b)];exact h1
 have:=rh.alloc (rowOf e<|old++vs) (.cells ⟨old'++vs'++rest⟩ e) 0 0 (cap*sz) ((ln+k)*sz) hok;refine⟨_,?_,this.1,this.2⟩;have hr:=VR.pM (m:=m.add H.next ⟨w.heap.size,0,0,cap*sz,(ln+k)*sz⟩) H.next 0 (ln+k) sz cap ⟨w.heap.size,0,0,cap*sz,(ln+k)*sz⟩ (by simp[Mp.add]) (aj _) hs (by simp) hcap (by simp;exact hmul)
 exact hr
end mem
section mem
variable{P:Program}
theorem Io(c b off lo k:Nat)(hl:lo<=off):(⟨c,b+(off-lo),none⟩:Addr).add k=⟨c,b+(off+k-lo),none⟩:=by
 unfold Addr.add;split
 .next h0=>rw[h0,bn]
 .simp only[Addr.mk.injEq,true_and,pg];omega
theorem Kl(rh:RH m H w)(r:Nat)(hm:m r≠none){C:Tr Value}{off k fz:Nat}(hold:jf m old old')(hvs:jf m vs vs')(hol:old.length=ln*sz)(hvl:vs.length=k*sz)(hC:∀j,j<ln*sz->old[j]?=some (C.get top<|off+j))(hcap:ln+k<=cap)(hrest:rest.length=(cap-(ln+k))*sz)(hs:1<=sz):
 ∃m',VR m' (.slice (some ⟨H.next,off,none⟩) (ln+k)<|dV sz) (.slice (some ⟨w.heap.size,0,none⟩) (ln+k) cap)/\
  RH m' ((H.put r .dead).new<|.row ⟨e,Tr.pU top vs (off+ln*sz) C,off+(ln+k)*sz,false,fz⟩) (w.alloc<|.cells ⟨old'++vs'++rest⟩ e)/\
  Ex m m' H ((H.put r .dead).new<|.row ⟨e,Tr.pU top vs (off+ln*sz) C,off+(ln+k)*sz,false,fz⟩) w (w.alloc<|.cells ⟨old'++vs'++rest⟩ e):=by
 obtain⟨rk,ek⟩:=rh.kill r hm;have hlen':old'.length=ln*sz:=by rw[<-hold.length,hol]
 have JO:vs'.length=k*sz:=by rw[<-hvs.length,hvl]
 have hmk:(ln+k)*sz=ln*sz+k*sz:=dN ..
 have htot:(old'++vs'++rest).length=cap*sz:=by
  rw[ay,ay,hlen',JO,hrest,<-dN,<-dN];congr 1;omega
 have hmul:(ln+k)*sz<=cap*sz:=b_ _ hcap
 have hok:qG m ⟨w.heap.size,off,0,cap*sz,off+(ln+k)*sz⟩ (.row ⟨e,Tr.pU top vs (off+ln*sz) C,off+(ln+k)*sz,false,fz⟩) (.cells ⟨old'++vs'++rest⟩ e):=by
  refine⟨⟨rfl,rfl⟩,rfl,htot,ny _ _,?_,?_,?_⟩
  .show 0+(off+(ln+k)*sz-off)<=cap*sz;omega
  .intro _;exact aM _
  .intro i a b;have b:i<off+(ln+k)*sz:=b;have a:off<=i:=a;simp only[qB,aI];rw[Tr.jM,bg]
   by_cases hin:off+ln*sz<=i/\i<off+ln*sz+vs.length
   .rw[if_pos hin]
    have hgi:vs[i-(off+ln*sz)]?=some (vs.getD (i-(off+ln*sz)) top):=by
     rw[aK,ae aa];rfl
    obtain⟨u,h1,h2⟩:=hvs.get _ hgi;refine⟨u,?_,h2⟩;rw[bf aa,hlen',aP aa,show i-off-ln*sz=i-(off+ln*sz)from by omega];exact h1
   .rw[if_neg hin];have hi:i-off<ln*sz:=by omega
    have h0:=hC (i-off) hi;rw[show off+(i-off)=i from by omega]at h0;obtain⟨u,h1,h2⟩:=hold.get _ h0;refine⟨u,?_,h2⟩;rw[aP aa];exact h1
 have:=rk.alloc _ (.cells ⟨old'++vs'++rest⟩ e) off 0 (cap*sz) (off+(ln+k)*sz) hok;refine⟨_,?_,this.1,ek.trans this.2⟩
 have hr:=VR.pM (m:=m.add (H.put r .dead).next ⟨w.heap.size,off,0,cap*sz,off+(ln+k)*sz⟩) H.next off (ln+k) sz cap ⟨w.heap.size,off,0,cap*sz,off+(ln+k)*sz⟩ (by
  show(if H.next=H.next then _ else _)=_;rw[if_pos rfl]) (aj _) hs (by simp) hcap (by show off+(ln+k)*sz<=off+cap*sz;omega)
 simpa using hr
theorem UH(rh:RH m H w){off k:Nat}{R:Row}(hm:m r=some l)(hR:H.obj r=.row R)(hse:R.ja=false)(hlo:l.lo<=off)(hvs:jf m vs vs')(hvl:vs.length=k*sz)(hok:vs.all dK=true)(hle:off+ln*sz<=R.n)(hfz:R.fz<=off+ln*sz)(ht:l.base+(off-l.lo)+cc*sz=l.tot)(hc:ln+k<=cc)(hs:1<=sz):
 ∃m' w',(storeCells ⟨l.c,l.base+(off+ln*sz-l.lo),none⟩ vs').run P w=.ok () w'/\
  VR m' (.slice (some ⟨H.next,off,none⟩) (ln+k)<|dV sz) (.slice (some ⟨l.c,l.base+(off-l.lo),none⟩) (ln+k) cc)/\
  RH m' ((H.put r .dead).new<|.row ⟨R.ty,Tr.pU top vs (off+ln*sz) R.cells,off+(ln+k)*sz,false,R.fz⟩) w'/\
  Ex m m' H ((H.put r .dead).new<|.row ⟨R.ty,Tr.pU top vs (off+ln*sz) R.cells,off+(ln+k)*sz,false,R.fz⟩) w w':=by
 obtain⟨cs,fr,hb,hnn,h2,h3,h4,h5,h6⟩:=row_of rh hm hR;have JO:vs'.length=k*sz:=by rw[<-hvs.length,hvl]
 have hmk:(ln+k)*sz=ln*sz+k*sz:=dN ..
 have hmul:(ln+k)*sz<=cc*sz:=b_ _ hc
 obtain⟨w',cs',e1,e2,e3,e4,e5,e6,e7,e8,e9⟩:=wM (P:=P) l.c (l.base+(off+ln*sz-l.lo)) R.ty fr vs' 0 cs w hb (zZ hvs hok) aa
  (λj a b d=>by have:=h5 hse;omega)
 have hu:=RH.aa1 rh r l ⟨l.c,l.lo,l.base,l.tot,off+(ln+k)*sz⟩ (.row ⟨R.ty,Tr.pU top vs (off+ln*sz) R.cells,off+(ln+k)*sz,false,R.fz⟩) (.cells cs' R.ty fr) hm (by rw[hR];simp) rfl ?_ e2 e6 e5 e7 e8 e9
 .refine⟨_,w',e1,?_,hu.1,hu.2⟩;exact VR.pM (m:=m.add H.next ⟨l.c,l.lo,l.base,l.tot,off+(ln+k)*sz⟩) H.next off (ln+k) sz cc ⟨l.c,l.lo,l.base,l.tot,off+(ln+k)*sz⟩ (by simp[Mp.add]) hlo hs ht hc (by show off+(ln+k)*sz<=off+cc*sz;omega)
 .refine⟨⟨rfl,base_of (l:=l) rh hm hR⟩,rfl,by rw[e3];exact h2,?_,?_,λ_=>h5 hse,?_⟩
  .show l.lo<=off+(ln+k)*sz;omega
  .show l.base+(off+(ln+k)*sz-l.lo)<=l.tot;omega
  .intro i a b;have b:i<off+(ln+k)*sz:=b;have a:l.lo<=i:=a;show∃v,cs'[l.base+(i-l.lo)]?=some v/\VR m ((Tr.pU top vs (off+ln*sz) R.cells).get top i) v;rw[Tr.jM]
   by_cases hin:off+ln*sz<=i/\i<off+ln*sz+vs.length
   .have hgi:vs[i-(off+ln*sz)]?=some (vs.getD (i-(off+ln*sz)) top):=by
     rw[aK,ae aa];rfl
    obtain⟨u,hu1,hu2⟩:=hvs.get _ hgi;refine⟨u,?_,by rw[if_pos hin];exact hu2⟩;rw[e4,if_pos aa,show l.base+(i-l.lo)-(l.base+(off+ln*sz-l.lo)+0)=i-(off+ln*sz)from by omega];exact hu1
   .obtain⟨u,hu1,hu2⟩:=h6 i a aa;refine⟨u,?_,by rw[if_neg hin];exact hu2⟩;rw[e4,if_neg aa];exact hu1
end mem
section mem
variable{P:Program}
theorem UI(rh:RH m H w)(h:Bc P ats args H=some (v,H'))(ha:jf m args args'):
 rD P m H w (Builtin.append_ ⟨ats⟩ ty ⟨args'⟩) v H':=by
 obtain⟨t,ht,h⟩:=ak h;obtain⟨t2,ht2,h⟩:=ak h;obtain⟨s,hs,h⟩:=ak h;obtain⟨x,hx,h⟩:=ak h;obtain⟨q,hq,h⟩:=ak h;obtain⟨p,hp,h⟩:=ak h;obtain⟨e,he,h⟩:=ak h;obtain⟨hk,h⟩:=dh h;rw[kU]at ht ht2 hs hx;have hk:=ai hk;obtain⟨hu,hsz1,i,z0,zs,d2,hi,hsz,hz0,hzc,hzl,hzs,hu2,hd2,hb,hb1⟩:=aa0 hq;obtain⟨s',hs0,hss⟩:=ha.get 0 hs;obtain⟨x',hx0,NF⟩:=ha.get 1 hx;rw[um hp]at hss hs;obtain⟨base,ln,cp⟩:=p;obtain⟨k,vs⟩:=e;simp only at hss hs hk;obtain⟨hlen,vs',hvs,JO,hnew⟩:=z_ (P:=P) rh he NF;obtain⟨_,vsd,UJ,ahx,Xc⟩:=z_ (P:=P) rh.drew he NF;have hvl:vs.length=k*q.2:=by rw[hvs.length];exact JO
 simp only at hlen hvs JO hnew UJ ahx Xc;cases k with
 |zero=>
  replace h:some (s,H)=some (v,H'):=h;have hv1:v=s/\H'=H:=by cases h;exact⟨rfl,rfl⟩
  rw[hv1.1,hv1.2,um hp];simp only;have hv0:vs'=[]:=dU (by rw[JO,gP]);subst hv0;cases base with
  |none=>
   obtain⟨e1,e2,e3⟩:=hss.qE;subst e1 e2 e3;exact⟨m,_,w,NJ hs0 hx0 (by simpa using ht) (by simpa using ht2) hu hu2 hd2 hi hlen (by rw[<-hsz]at hnew;exact hnew),hss,rh,Ex.refl _ _ _⟩
  |some a=>
   rcases hss.of_slice with⟨lc,cc,hm,hlo,hsp,e1,hcap⟩|⟨a',e1,e2,e3⟩
   .subst e1
    have hcc:ln+0<=cc:=by
     rcases hcap with⟨_,h1,h2⟩|⟨_,_,_,_,h1,_⟩<;>omega
    exact⟨m,_,w,uV (vs':=[]) hs0 hx0 (by simpa using ht) (by simpa using ht2) hu hu2 hd2 hi hcc hlen (by rw[hsz];exact hnew)<|by simp[storeCells],hss,rh,Ex.refl _ _ _⟩
   .subst e1 e3;exact⟨m,_,w,uV (vs':=[]) hs0 hx0 (by simpa using ht) (by simpa using ht2) hu hu2 hd2 hi (aj _) hlen (by rw[hsz];exact hnew)<|by simp[storeCells],hss,rh,Ex.refl _ _ _⟩
 |succ k=>
  have grow:∀(base':Option Addr)(ln' cc:Nat)(aa2:List Value),args'[0]?=some (.slice base' ln' cc)->ln'<=16777216->cc<ln'+(k+1)->
   (Builtin.firstCells q.2 ln'<|.slice base' ln' cc).run P w.drew=.ok ⟨aa2⟩ w.drew->
   ∃cap rest,ln'+(k+1)<=cap/\rest.length=(cap-(ln'+(k+1)))*q.2/\
    (Builtin.append_ ⟨ats⟩ ty ⟨args'⟩).run P w=.ok (.slice (some ⟨w.drew.heap.size,0,none⟩) (ln'+(k+1)) cap) (w.drew.alloc<|.cells ⟨aa2++vsd++rest⟩ q.1):=by
   intro base' ln' cc aa2 h0 h1 h2 h3;rw[<-hsz]at h3 Xc;have:=Xa (P:=P) (w:=w) (ty:=ty) (old:=aa2) (vs':=vsd) h0 hx0 (by simpa using ht) (by simpa using ht2) hu hu2 hd2 hi hz0 hzc hzl hb hb1 h1 hk h2 hlen h3 Xc;rw[hsz]at this;exact this
  cases base with
  |none=>
   obtain⟨e1,e2,e3⟩:=hss.qE;subst e1 e2 e3;replace h:(gd (Nat.beq 0 0&&Nat.beq 0 0)<|some<|xH q.1 q.2 (k+1) vs H)=some (v,H'):=h;obtain⟨hg,h⟩:=dh h;cases h;obtain⟨cap,rest,c1,c2,c3⟩:=grow none 0 0 [] hs0 aa aa (by simp[Builtin.firstCells]);obtain⟨m',g1,g2,g3⟩:=LP (e:=q.1) (ln:=0) (old:=[]) (old':=[]) (vs:=vs) (vs':=vsd) (rest:=rest) (k:=k+1) (cap:=cap) (sz:=q.2) rh.drew .nil UJ (by simp) hvl c1 c2 hsz1;rw[aI]at g1 c3;exact⟨m',_,_,c3,g1,g2,(Ex.drew m H w).trans g3⟩
  |some a=>
   replace h:(gd (Nat.ble ln 16777216)<|aU (eY cp) (uT q a ln cp (k+1) vs H)<|gd (Nat.beq cp<|dV q.2)<|pK q a ln cp (k+1) vs H)=some (v,H'):=h;obtain⟨hln,h⟩:=dh h;have hln:=ai hln;cases hkc:eY cp with
   |true=>
    rw[hkc]at h
    replace h:(aU (Nat.ble (Nat.add ln<|k+1) cp)
     (ax (H.write a.block (Nat.add a.off<|Nat.mul ln q.2) vs) λH'=>some (.slice (some a) (Nat.add ln<|k+1) cp,H'))
     (ax (H.read a.block a.off<|Nat.mul ln q.2) λold=>some<|xH q.1 q.2 (Nat.add ln<|k+1) (app old vs) H))=some (v,H'):=h
    rcases hss.of_slice with⟨lc,cc,hm,hlo,hsp,e1,hcap⟩|⟨a',e1,e2,e3⟩
    .subst e1
     obtain⟨rfl,aiJ⟩:cc=cp/\ln<=cp:=by
      rcases hcap with⟨_,h1,h2⟩|⟨es,h1,_⟩
      .exact⟨h1,h2⟩
      .exact absurd h1<|Bi hkc
     by_cases hroom:ln+(k+1)<=cc
     .rw[show Nat.ble (Nat.add ln<|k+1) cc=true from av hroom]at h;replace h:(ax (H.write a.block (Nat.add a.off<|Nat.mul ln q.2) vs) λH'=>some (Value.slice (some a) (Nat.add ln<|k+1) cc,H'))=some (v,H'):=h;obtain⟨H1,hH1,h⟩:=ak h;cases h;obtain⟨w',r1,r2,r3⟩:=z8 (P:=P) rh hH1 hvs hm<|aW hlo<|ny _ _;refine⟨m,_,w',uV (vs':=vs') hs0 hx0 (by simpa using ht) (by simpa using ht2) hu hu2 hd2 hi hroom hlen (by rw[hsz];exact hnew) (by rw[Io _ _ _ _ _ hlo,hsz];exact r1),?_,r2,r3⟩;obtain⟨ab,ao,asp⟩:=a;simp only at hsp hm hlo;subst hsp;exact VR.slice ab ao (ln+(k+1)) cc lc hm hlo hkc hroom
     .rw[show Nat.ble (Nat.add ln<|k+1) cc=false from by rw[<-aV];exactλhh=>hroom<|ai hh]at h;replace h:(ax (H.read a.block a.off<|Nat.mul ln q.2) λold=>some<|xH q.1 q.2 (Nat.add ln<|k+1) (app old vs) H)=some (v,H'):=h;obtain⟨old,hold,h⟩:=ak h;cases h;obtain⟨old',o1,o2,o3⟩:=vQ (P:=P) rh.drew hold hm hlo;obtain⟨cap,rest,c1,c2,c3⟩:=grow _ ln cc old' hs0 hln aa (by simp only[Builtin.firstCells];exact o3);obtain⟨m',g1,g2,g3⟩:=LP (e:=q.1) (ln:=ln) (vs:=vs) (vs':=vsd) (rest:=rest) (k:=k+1) (cap:=cap) (sz:=q.2) rh.drew o1 UJ (by rw[o1.length];exact o2) hvl c1 c2 hsz1;rw[nY];exact⟨m',_,_,c3,g1,g2,(Ex.drew m H w).trans g3⟩
    .subst e1 e3
     have hcp:cp=0:=by
      rcases e2 with h1|⟨es,l,h1,_⟩
      .exact h1
      .exact absurd h1<|Bi hkc
     subst hcp;rw[show Nat.ble (Nat.add 0<|k+1) 0=false from by rw[<-aV];intro hh;have:=ai hh;simp at this]at h;replace h:(ax (H.read a.block a.off<|Nat.mul 0 q.2) λold=>some<|xH q.1 q.2 (Nat.add 0<|k+1) (app old vs) H)=some (v,H'):=h;rw[show Nat.mul 0 q.2=0 from gP _]at h;replace h:some (xH q.1 q.2 (Nat.add 0<|k+1) (app [] vs) H)=some (v,H'):=h;cases h;obtain⟨cap,rest,c1,c2,c3⟩:=grow _ 0 0 [] hs0 aa aa (by simp[Builtin.firstCells,loadCells,loadCellsFrom]);obtain⟨m',g1,g2,g3⟩:=LP (e:=q.1) (ln:=0) (old:=[]) (old':=[]) (vs:=vs) (vs':=vsd) (rest:=rest) (k:=k+1) (cap:=cap) (sz:=q.2) rh.drew .nil UJ (by simp) hvl c1 c2 hsz1;exact⟨m',_,_,c3,g1,g2,(Ex.drew m H w).trans g3⟩
   |false=>
    rw[hkc]at h;replace h:(gd (Nat.beq cp<|dV q.2)<|pK q a ln cp (k+1) vs H)=some (v,H'):=h;obtain⟨GX,h⟩:=dh h;have GX:=aB GX;obtain⟨R,hR,h⟩:=ak h;obtain⟨hgR,h⟩:=dh h;have JA:=qR hR;simp only[aG]at hgR;have hRt:R.ty=q.1:=aB hgR.1
    by_cases hin:a.off+(ln+(k+1))*q.2<=R.n
    .rw[show Nat.ble (Nat.add a.off<|Nat.mul (Nat.add ln<|k+1) q.2) R.n=true from av hin]at h;replace h:(ax (H.write a.block (Nat.add a.off<|Nat.mul ln q.2) vs) λH'=>some (Value.slice (some a) (Nat.add ln<|k+1) cp,H'))=some (v,H'):=h;obtain⟨H1,hH1,h⟩:=ak h;cases h;rcases hss.of_slice with⟨lc,cc,hm,hlo,hsp,e1,hcap⟩|⟨a',e1,e2,e3⟩
     .subst e1
      obtain⟨es,h1,h2,h3,h4,h5⟩:∃es,cp=dV es/\0<es/\lc.base+(a.off-lc.lo)+cc*es=lc.tot/\ln<=cc/\lc.n<=a.off+cc*es:=by
       rcases hcap with⟨h1,_⟩|h1
       .rw[hkc]at h1;cases h1
       .exact h1
      have hes:es=q.2:=by
       rw[GX]at h1;have h1':18446744073709551616+q.2=18446744073709551616+es:=h1;omega
      subst hes;obtain⟨_,_,_,hnn,_⟩:=row_of rh hm JA
      have hroom:ln+(k+1)<=cc:=by
       rw[hnn]at hin;exact nS (c:=q.2) aa h2
      obtain⟨w',r1,r2,r3⟩:=z8 (P:=P) rh hH1 hvs hm<|aW hlo<|ny _ _;refine⟨m,_,w',uV (vs':=vs') hs0 hx0 (by simpa using ht) (by simpa using ht2) hu hu2 hd2 hi hroom hlen (by rw[hsz];exact hnew) (by rw[Io _ _ _ _ _ hlo,hsz];exact r1),?_,r2,r3⟩;obtain⟨ab,ao,asp⟩:=a;simp only at hsp hm hlo h3 h5;subst hsp;rw[GX];exact VR.pM ab ao (ln+(k+1)) q.2 cc lc hm hlo h2 h3 hroom h5
     .subst e1
      obtain⟨es,l,h1,h2,h3,h4,h5,h6⟩:∃es l,cp=dV es/\m a.block=some l/\l.lo<=a.off/\0<es/\l.n<=a.off/\a.spot=none:=by
       rcases e2 with h1|h1
       .rw[h1]at hkc;simp[eY]at hkc
       .exact h1
      obtain⟨_,_,_,hnn,_⟩:=row_of rh h2 JA;have:1*1<=(0+(k+1))*q.2:=oQ aa hsz1;omega
    .rw[show Nat.ble (Nat.add a.off<|Nat.mul (Nat.add ln<|k+1) q.2) R.n=false from by rw[<-aV];exactλhh=>hin<|ai hh]at h
     replace h:(gd (Nat.ble (Nat.add a.off<|Nat.mul ln q.2) R.n&&Nat.ble R.fz (Nat.add a.off<|Nat.mul ln q.2)&&all' dK vs)
      (some (Value.slice (some ⟨H.next,a.off,none⟩) (Nat.add ln<|k+1) cp,
      (H.put a.block .dead).new (.row ⟨R.ty,Tr.pU top vs (Nat.add a.off<|Nat.mul ln q.2) R.cells,Nat.add a.off<|Nat.mul (Nat.add ln<|k+1) q.2,false,R.fz⟩))))=some (v,H'):=h
     obtain⟨hg,h⟩:=dh h;cases h;simp only[aG,all_eq]at hg;have hg1:a.off+ln*q.2<=R.n:=ai hg.1.1;have hg2:R.fz<=a.off+ln*q.2:=ai hg.1.2;have hg3:=hg.2;rcases hss.of_slice with⟨lc,cc,hm,hlo,hsp,e1,hcap⟩|⟨a',e1,e2,e3⟩
     .subst e1
      obtain⟨es,h1,h2,h3,h4,h5⟩:∃es,cp=dV es/\0<es/\lc.base+(a.off-lc.lo)+cc*es=lc.tot/\ln<=cc/\lc.n<=a.off+cc*es:=by
       rcases hcap with⟨h1,_⟩|h1
       .rw[hkc]at h1;cases h1
       .exact h1
      have hes:es=q.2:=by
       rw[GX]at h1;have h1':18446744073709551616+q.2=18446744073709551616+es:=h1;omega
      subst hes
      by_cases hroom:ln+(k+1)<=cc
      .obtain⟨m',w',r1,r2,r3,r4⟩:=UH (P:=P) rh (ln:=ln) hm JA (by simpa using hgR.2) hlo hvs hvl hg3 hg1 hg2 h3 hroom hsz1;rw[GX];exact⟨m',_,w',uV (vs':=vs') hs0 hx0 (by simpa using ht) (by simpa using ht2) hu hu2 hd2 hi hroom hlen (by rw[hsz];exact hnew) (by rw[Io _ _ _ _ _ hlo,hsz];exact r1),r2,r3,r4⟩
      .have hrd:H.read a.block a.off (ln*q.2)=some (Tr.Cu top R.cells a.off<|ln*q.2):=by
        cases hz:ln*q.2 with
        |zero=>rfl
        |succ n=>
         show(ax (rX<|H.obj a.block) λw=>gd (Nat.ble (Nat.add a.off<|n+1) w.n)<|some<|Tr.Cu top w.cells a.off<|n+1)=_;rw[hR];show(gd (Nat.ble (Nat.add a.off<|n+1) R.n) _)=_;rw[show Nat.ble (Nat.add a.off<|n+1) R.n=true from av (by rw[<-hz];exact hg1)];rfl
       obtain⟨old',o1,o2,o3⟩:=vQ (P:=P) rh.drew hrd hm hlo;obtain⟨cap,rest,c1,c2,c3⟩:=grow _ ln cc old' hs0 hln aa (by simp only[Builtin.firstCells];exact o3);obtain⟨m',g1,g2,g3⟩:=Kl (e:=R.ty) (fz:=R.fz) (off:=a.off) (C:=R.cells) (ln:=ln) (vs:=vs) (vs':=vsd) (rest:=rest) (k:=k+1) (cap:=cap) (sz:=q.2) rh.drew a.block (by rw[hm];simp) o1 UJ (by rw[o1.length];exact o2) hvl (λj hj=>Sr _ _ _ _ _ hj) c1 c2 hsz1;rw[GX,<-hRt]at*;exact⟨m',_,_,c3,g1,g2,(Ex.drew m H w).trans g3⟩
     .have hm0:m a.block≠none:=by
       rcases e2 with h1|⟨es,l,h1,h2,_⟩
       .rw[h1]at hkc;simp[eY]at hkc
       .rw[h2];simp
      subst e1 e3;obtain⟨cap,rest,c1,c2,c3⟩:=grow _ 0 0 [] hs0 aa aa (by simp[Builtin.firstCells,loadCells,loadCellsFrom]);obtain⟨m',g1,g2,g3⟩:=Kl (e:=R.ty) (fz:=R.fz) (off:=a.off) (C:=R.cells) (old:=[]) (old':=[]) (ln:=0) (vs:=vs) (vs':=vsd) (rest:=rest) (k:=k+1) (cap:=cap) (sz:=q.2) rh.drew a.block hm0 .nil UJ (by simp) hvl (λj hj=>by omega) c1 c2 hsz1;rw[GX];rw[<-hRt]at c3;exact⟨m',_,_,c3,g1,g2,(Ex.drew m H w).trans g3⟩
end mem
section mem
variable{P:Program}
theorem UK(rh:RH m H w){e:Nat×List Value}(h:appended H sz x=some e)(hx:VR m x x'):
 (∀w,(Builtin.lenOf x').run P w=.ok e.1 w)/\∃vs',jf m e.2 vs'/\vs'.length=e.1*sz/\∀n,n<=e.1->(Builtin.firstCells sz n x').run P w=.ok ⟨vs'.take<|n*sz⟩ w:=by
 refine⟨(z_ (P:=P) rh h hx).1,?_⟩;unfold appended at h;cases hs:pG x with
 |some s=>
  rw[hs]at h;replace h:(gd (Nat.beq sz 1)<|some (len s.data.toList,lH s.data.toList))=some e:=h;obtain⟨hg,h⟩:=dh h;cases h;have hg:=aB hg;subst hg;rw[kX hs]at hx;have:=hx.qY;subst this;refine⟨lH s.data.toList,jf.jW<|FH _,by rw[uw];simp[dG],?_⟩;intro n hn;have hd:(s.extract 0 n).data=s.data.extract 0 n:=by rw[l9]
  simp only[Builtin.firstCells];rw[hd,uw,bG];show Result.ok _ w=Result.ok _ w;congr 1;rw[<-fJ];simp
 |none=>
  rw[hs]at h
  replace h:(ax (Gn x) λp=>@Option.rec Addr (λ_=>Option<|Nat×List Value) (gd (Nat.beq p.2.1 0)<|some (0,[]))
   (λa=>ax (H.read a.block a.off<|Nat.mul p.2.1 sz) λl=>some (p.2.1,l)) p.1)=some e:=h
  obtain⟨p,hp,h⟩:=ak h;rw[um hp]at hx;obtain⟨pa,n,cp⟩:=p;cases pa with
  |none=>
   obtain⟨h1,h2,rfl⟩:=hx.qE;replace h:(gd (Nat.beq n 0)<|some (0,([]:List Value)))=some e:=h;obtain⟨hg,h⟩:=dh h;cases h;exact⟨[],.nil,by simp,λn hn=>by simp[Builtin.firstCells]⟩
  |some a=>
   replace h:(ax (H.read a.block a.off<|Nat.mul n sz) λl=>some (n,l))=some e:=h;obtain⟨l,hl,h⟩:=ak h;cases h;simp only at hx;rcases hx.of_slice with⟨lc,cc,hm,hlo,hsp,rfl,_⟩|⟨a',e1,e2,rfl⟩
   .obtain⟨vs',h1,h2,h3⟩:=GZ rh hl hm hlo;refine⟨vs',h1,h2,?_⟩;intro k hk;simp only[Builtin.firstCells]
    have hkl:(vs'.take<|k*sz).length=k*sz:=by
     rw[eH,h2];exact je<|b_ _ hk
    rw[show k*sz=(vs'.take<|k*sz).length from hkl.symm];rw[hkl]
    have:=run_loadCells_list (P:=P) w ⟨lc.c,lc.base+(a.off-lc.lo),none⟩ (vs'.take<|k*sz) (λj v hj=>h3 j v (by
     rw[eB]at hj;split at hj
     .exact hj
     .cases hj))
    rw[hkl]at this;exact this
   .subst e1;have hz:Nat.mul 0 sz=0:=gP sz;rw[hz]at hl;cases hl;refine⟨[],.nil,by simp,?_⟩;intro n hn;have:n=0:=by simpa using hn
    subst this;simp[Builtin.firstCells,loadCells,loadCellsFrom]
theorem aa3(rh:RH m H w)(h:J_ P ats args H=some (v,H'))(ha:jf m args args'):
 rD P m H w (Builtin.copy_ ⟨ats⟩ ty ⟨args'⟩) v H':=by
 obtain⟨t,ht,h⟩:=ak h;obtain⟨d,hd,h⟩:=ak h;obtain⟨x,hx,h⟩:=ak h;obtain⟨q,hq,h⟩:=ak h;obtain⟨p,hp,h⟩:=ak h;obtain⟨e,he,h⟩:=ak h;rw[kU]at ht hd hx;obtain⟨hu,⟨i,hi,hsz⟩,hs1⟩:=yF hq;obtain⟨d',hd0,hdd⟩:=ha.get 0 hd;obtain⟨x',hx0,NF⟩:=ha.get 1 hx;rw[um hp]at hdd;obtain⟨base,ln,cp⟩:=p;obtain⟨k,vs⟩:=e;obtain⟨hlen,vs',hvs,hvl,Qv⟩:=UK (P:=P) rh he NF;simp only at hdd hlen hvs hvl Qv;have hat:(⟨ats⟩:Array TypeId)[0]?=some t:=by simpa using ht
 have ha0:(⟨args'⟩:Array Value)[0]?=some d':=by simpa using hd0
 have ha1:(⟨args'⟩:Array Value)[1]?=some x':=by simpa using hx0
 cases base with
 |none=>
  obtain⟨e1,e2,e3⟩:=hdd.qE;subst e1 e2 e3;replace h:(gd (Nat.beq 0 0)<|some (Value.int .i64 0,H))=some (v,H'):=h;obtain⟨hg,h⟩:=dh h;cases h;have hf:=Qv 0<|aM _;refine⟨m,_,w,?_,.sc _ rfl,rh,Ex.refl _ _ _⟩;have hmin:Nat.min k 0=0:=Nat.min_zero k;simp[Builtin.copy_,hat,ha0,ha1,bY hu,hlen,gG hi,hsz,hmin,hf,goInt]
 |some a=>
  replace h:(ax (H.write a.block a.off<|tk (Nat.mul (aU (Nat.ble k ln) k ln) q.2) vs) λH'=>some (Value.int .i64<|.ofNat<|aU (Nat.ble k ln) k ln,H'))=some (v,H'):=h
  have hb:aU (Nat.ble k ln) k ln=Nat.min k ln:=by
   by_cases hh:k<=ln
   .rw[show Nat.ble k ln=true from av hh];exact(je hh).symm
   .rw[show Nat.ble k ln=false from by rw[<-aV];exactλg=>hh<|ai g];exact(qp<|Nat.le_of_not_le hh).symm
  rw[hb,Fv]at h;obtain⟨H1,hH1,h⟩:=ak h;cases h;have hf:=Qv (Nat.min k ln)<|Nat.min_le_left _ _;have hvt:jf m (vs.take<|Nat.mul (Nat.min k ln) q.2) (vs'.take<|Nat.min k ln*q.2):=hvs.take _;rcases hdd.of_slice with⟨lc,cc,hm,hlo,hsp,rfl,_⟩|⟨a',e1,e2,rfl⟩
  .obtain⟨w',r1,r2,r3⟩:=z8 (P:=P) rh hH1 hvt hm hlo;refine⟨m,_,w',?_,.sc _ rfl,r2,r3⟩;simp only[Builtin.copy_,hat,ha0,ha1,Sem.run_bind,bY hu,Result.andThen_ok,hlen,gG hi,hsz,hf,r1,Sem.run_pure];rfl
  .subst e1;have hz:Nat.mul (Nat.min k 0) q.2=0:=by rw[show Nat.min k 0=0 from Nat.min_zero k];exact gP _
   rw[hz]at hH1
   have hz9:H'=H:=by
    replace hH1:some H=some H':=hH1;cases hH1;rfl
   subst hz9;refine⟨m,_,w,?_,.sc _ rfl,rh,Ex.refl _ _ _⟩;have hz':Nat.min k 0*q.2=0:=hz;simp only[Builtin.copy_,hat,ha0,ha1,Sem.run_bind,bY hu,Result.andThen_ok,hlen,gG hi,hsz,hf,hz',rW,storeCells,Sem.run_pure];rfl
theorem Xd(rh:RH m H w)(h:EJ P ats args H=some (v,H'))(ha:jf m args args'):
 rD P m H w (Builtin.clear_ ⟨ats⟩ ty ⟨args'⟩) v H':=by
 obtain⟨t,ht,h⟩:=ak h;obtain⟨d,hd,h⟩:=ak h;obtain⟨q,hq,h⟩:=ak h;obtain⟨z,hz,h⟩:=ak h;obtain⟨p,hp,h⟩:=ak h;rw[kU]at ht hd;obtain⟨hu,⟨inf,hi,hsz⟩,hs1⟩:=yF hq;obtain⟨i,z0,hi',hz0,WW,hlen,hs⟩:=vZ hz;rw[hi]at hi';cases hi';obtain⟨d',hd0,hdd⟩:=ha.get 0 hd;rw[um hp]at hdd;obtain⟨base,ln,cp⟩:=p;have hat:(⟨ats⟩:Array TypeId)[0]?=some t:=by simpa using ht
 have ha0:(⟨args'⟩:Array Value)[0]?=some d':=by simpa using hd0
 have hv:VR m (.tuple #[]) (.tuple #[]):=.tuple [] [] .nil;cases base with
 |none=>
  obtain⟨e1,e2,e3⟩:=hdd.qE;subst e1 e2 e3;replace h:some ((.tuple #[]:Value),H)=some (v,H'):=h;cases h;refine⟨m,_,w,?_,hv,rh,Ex.refl _ _ _⟩;simp[Builtin.clear_,hat,ha0,bY hu]
 |some a=>
  replace h:(ax (H.write a.block a.off<|mg z ln) λH'=>some ((.tuple #[]:Value),H'))=some (v,H'):=h;obtain⟨H1,hH1,h⟩:=ak h;cases h;have hzc:z0.cells=⟨z⟩:=by rw[WW]
  have hvr:jf m (mg z ln) (mg z ln):=jf.jW (m:=m)<|EP hs ln
  have hzs:Builtin.zeroCells z0.cells ln=⟨mg z ln⟩:=by
   rw[hzc];exact Ii z ln
  rcases hdd.of_slice with⟨lc,cc,hm,hlo,hsp,rfl,_⟩|⟨a',e1,e2,rfl⟩
  .obtain⟨w',r1,r2,r3⟩:=z8 (P:=P) rh hH1 hvr hm hlo;refine⟨m,_,w',?_,hv,r2,r3⟩;cases ln with
   |zero=>
    have hw:w'=w:=by
     have r1:(storeCells ⟨lc.c,lc.base+(a.off-lc.lo),none⟩ ([]:List Value)).run P w=.ok () w':=r1;simp[storeCells]at r1;exact r1.symm
    subst hw;simp[Builtin.clear_,hat,ha0,bY hu]
   |succ ln=>
    simp only[Builtin.clear_,hat,ha0,Sem.run_bind,bY hu,Result.andThen_ok,wJ hi hz0,hzs,r1,Sem.run_pure]
  .subst e1
   have hz9:H'=H:=by
    replace hH1:some H=some H':=hH1;cases hH1;rfl
   subst hz9;refine⟨m,_,w,?_,hv,rh,Ex.refl _ _ _⟩;simp[Builtin.clear_,hat,ha0,bY hu]
theorem Xe(rh:RH m H w)(h:EK P t x H=some (v,H'))(hx:VR m x x'):
 rD P m H w (Instr.range t x') v H':=by
 obtain⟨hg,h⟩:=dh h;obtain⟨s,hs,h⟩:=ak h;cases h;rw[kX hs]at hx;have:=hx.qY;subst this;have hu:P.underlying t=some .string:=EM hg;have:=rh.alloc (.zQ s 0) (.stringIter s 0) 0 0 0 0 ⟨rfl,rfl,rfl⟩;refine⟨_,_,_,?_,LF (l:=⟨w.heap.size,0,0,0,0⟩) (by simp[Mp.add]) rfl rfl,this.1,this.2⟩;simp[Instr.range,bY hu]
theorem aa4(rh:RH m H w)(h:Ka x str H=some (v,H'))(hx:VR m x x'):
 rD P m H w (Instr.next x' str t) v H':=by
 obtain⟨a,ha,h⟩:=ak h;obtain⟨q,hq,h⟩:=ak h;obtain⟨hg,h⟩:=dh h;simp only[aG]at hg;obtain⟨rfl,hg2⟩:=hg;have hoff:=aB hg2;rw[kW ha]at hx;obtain⟨ab,ao,asp⟩:=a;simp only at hoff;subst hoff;obtain⟨l,hm,hlo,hsp,rfl⟩:=hx.oO;have ho:=aaK hq;simp only at hm hlo hsp ho;obtain⟨ob,hb,hk⟩:=rh.ok ab l hm;rw[ho]at hk;cases ob with
 |stringIter s' p'=>
  obtain⟨rfl,rfl,hbase⟩:=hk;have FF:H.obj ab≠.dead:=by rw[ho];simp
  have acm:l.base+(0-l.lo)=0:=by omega
  have hget:(getObj l.c).run P w=.ok (.stringIter q.1 q.2) w:=by simp[getObj,Sem.run,hb]
  by_cases hlt:q.2<q.1.size
  .rw[show Nat.ble (Nat.succ q.2) (len q.1.data.toList)=true from by rw[dG];exact av hlt]at h;replace h:some (Wv ab q.1 q.2 (Utf8.decode q.1 q.2) H)=some (v,H'):=h;cases h;have:=RH.update rh ab l (.zQ q.1<|q.2+(Utf8.decode q.1 q.2).2) (.stringIter q.1<|q.2+(Utf8.decode q.1 q.2).2) hm FF ⟨rfl,rfl,hbase⟩ (LH hb) ES (λc hc=>LJ hc) rfl rfl rfl;refine⟨m,_,ER w l.c<|.stringIter q.1<|q.2+(Utf8.decode q.1 q.2).2,?_,.tuple _ _<|jf.jW rfl,this.1,this.2⟩
   have hset:(setObj l.c<|.stringIter q.1<|q.2+(Utf8.decode q.1 q.2).2).run P w=.ok () (ER w l.c<|.stringIter q.1<|q.2+(Utf8.decode q.1 q.2).2):=by
    simp[setObj,Sem.run,ER,hb]
   simp only[Instr.next,acm,Sem.run_bind,hget,Result.andThen_ok,hlt,iq,hset,Sem.run_pure];rfl
  .rw[show Nat.ble (Nat.succ q.2) (len q.1.data.toList)=false from by
    rw[<-aV,dG];exactλg=>hlt<|ai g]at h
   replace h:some (Value.tuple #[.bool false],H)=some (v,H'):=h;cases h;refine⟨m,_,w,?_,.tuple _ _<|jf.jW rfl,rh,Ex.refl _ _ _⟩;simp only[Instr.next,acm,Sem.run_bind,hget,Result.andThen_ok,hlt,g_,Sem.run_pure]
 |_=>exact hk.elim
end mem
section mem
variable{P:Program}
theorem UL(f0:∀ats ty n c w,(f ats ty #[.slice none n c]).run P w=.ok (.pointer none) w)(f1:∀ats ty a n c w,(f ats ty #[.slice (some a) n (c+1)]).run P w=.ok (.pointer<|some a) w)(rh:RH m H w){ats:Array TypeId}(h:DJ args H=some (v,H'))(ha:jf m args args'):
 rD P m H w (f ats ty ⟨args'⟩) v H':=by
 obtain⟨hl,h⟩:=dh h;obtain⟨x,hx,h⟩:=ak h;obtain⟨p,hp,h⟩:=ak h;rw[kU]at hx;rw[dG]at hl;have hl:=aB hl;obtain⟨x',hx0,NF⟩:=ha.get 0 hx;have hl':args'.length=1:=by rw[<-ha.length,hl]
 have he:args'=[x']:=by
  match args',hl',hx0 with
  |[y],_,h0=>cases h0;rfl
 subst he;rw[um hp]at NF;obtain⟨base,ln,cp⟩:=p;cases base with
 |none=>
  obtain⟨e1,e2,e3⟩:=NF.qE;subst e1 e2 e3;replace h:some (Value.pointer none,H)=some (v,H'):=h;cases h;exact⟨m,_,w,f0 ats ty 0 0 w,.sc _ rfl,rh,Ex.refl _ _ _⟩
 |some a=>
  replace h:(gd (Nat.ble 1 ln||(eY cp&&Nat.ble 1 cp))<|some (Value.pointer<|some a,H))=some (v,H'):=h;obtain⟨hg,h⟩:=dh h;cases h;simp only[gN,aG]at hg;rcases NF.of_slice with⟨lc,cc,hm,hlo,hsp,e1,hcap⟩|⟨a',e1,e2,e3⟩
  .subst e1
   have hcc:cc≠0:=by
    rcases hcap with⟨h0,h1,h2⟩|⟨es,h1,h2,h3,h4,h5⟩
    .simp only at h1 h2;rcases hg with g|g
     .have:=ai g;omega
     .have:=ai g.2;omega
    .rcases hg with g|g
     .have:=ai g;simp only at h4;omega
     .exact absurd h1<|Bi g.1
   refine⟨m,_,w,(by obtain⟨k,rfl⟩:∃k,cc=k+1:=⟨cc-1,aa⟩;exact f1 ats ty _ _ k w),?_,rh,Ex.refl _ _ _⟩;obtain⟨ab,ao,asp⟩:=a;simp only at hsp hm hlo;subst hsp;exact VR.ptr ab ao lc hm hlo
  .exfalso;simp only at e1 e2;subst e1;rcases hg with g|g
   .simp at g
   .rcases e2 with h1|⟨es,l,h1,_⟩
    .subst h1;simp at g
    .exact absurd h1<|Bi g.1
theorem JP(w:World)(e:TypeId)(s:ByteArray):
 Lib.bytesWorld w e s=w.drew.alloc (.cells (Lib.bytesCells w e s) e ((Lib.bytesCells w e s).size,(Lib.bytesCells w e s).size+1)):=by
 unfold Lib.bytesWorld World.freeze;rw[if_neg aa];unfold World.alloc;congr 1;apply Array.ext_getElem?;intro i;rw[gX];have hd:w.drew.heap=w.heap:=rfl;simp only[hd]
 by_cases hi:w.heap.size=i
 .subst hi;simp
 .rw[if_neg hi];rw[kS,kS,if_neg<|nX hi,if_neg<|nX hi]
theorem NK(rh:RH m H w){d:TypeId}(h:Cx P q x H=some (v,H'))(hx:VR m x x')(hs:P.underlying s=some u)(hd:P.underlying d=some (.slice q.1)):rD P m H w (convert s d x') v H':=by
 obtain⟨b,hb,h⟩:=ak h;obtain⟨hg,h⟩:=dh h;cases h;simp only[aG]at hg;rw[kX hb]at hx;have:=hx.qY;subst this;have hrun:=Lib.run_convert_string_bytes (P:=P) w s d q.1 b hs hd<|NB hg.2;rw[JP]at hrun;have hsz:b.size=b.data.toList.length:=rfl;have hcap:b.size<=grownCap w b.size 0 q.1:=by simp[grownCap,Question.cut]
 have hcs:(Lib.bytesCells w q.1 b).size=grownCap w b.size 0 q.1:=by
  simp[Lib.bytesCells];have:b.data.size=b.size:=rfl;omega
 have hok:qG m ⟨w.drew.heap.size,0,0,grownCap w b.size 0 q.1,b.size⟩ (.row ⟨q.1,Tr.pU top (lH b.data.toList) 0 .nil,len b.data.toList,true,0⟩)
  (.cells (Lib.bytesCells w q.1 b) q.1 ((Lib.bytesCells w q.1 b).size,(Lib.bytesCells w q.1 b).size+1)):=by
  refine⟨⟨rfl,rfl⟩,by rw[dG];rfl,hcs,aM _,?_,?_,?_⟩
  .show 0+(len b.data.toList-0)<=_;rw[dG,<-hsz];simpa using hcap
  .intro hh;cases hh
  .intro i a c;have c:i<len b.data.toList:=c;rw[dG]at c;show∃v,(Lib.bytesCells w q.1 b)[0+(i-0)]?=some v/\VR m ((Tr.pU top (lH b.data.toList) 0 .nil).get top i) v;have hbl:(lH b.data.toList).length=b.data.toList.length:=by rw[uw];simp
   rw[Tr.jM,if_pos aa,uw];have hi:i<b.data.size:=by simpa using c
   refine⟨.int .u8 b.data[i].toNat,?_,?_⟩
   .have hi':i<b.size:=hi;simp[Lib.bytesCells,Array.getElem?_append,hi,hi']
   .rw[aK];have hg:((b.data.toList.map λb=>Value.int .u8 b.toNat)[i]?.getD top)=Value.int .u8 b.data[i].toNat:=by simp[aJ hi]
    rw[iK,hg];exact .sc _ rfl
 have:=rh.drew.alloc _ _ 0 0 (grownCap w b.size 0 q.1) b.size hok;refine⟨_,_,_,hrun,?_,this.1,(Ex.drew m H w).trans this.2⟩
 have hr:=VR.pM (m:=m.add H.next ⟨w.drew.heap.size,0,0,grownCap w b.size 0 q.1,b.size⟩) H.next 0 b.size 1 (grownCap w b.size 0 q.1) ⟨w.drew.heap.size,0,0,grownCap w b.size 0 q.1,b.size⟩
  (by simp[Mp.add]) (aj _) aa (by simp) hcap (by simpa using hcap)
 rw[dG,<-hsz];exact hr
theorem Kn:∀{l l':List Value}{bs:List UInt8},om l=some bs->jf m l l'->l'=bs.map (λb=>Value.int .u8 b.toNat):=by
 intro l
 induction l with
 |nil=>intro l' bs h hv;cases hv;cases h;rfl
 |cons x l ih=>
  intro l' bs h hv;replace h:(ax (pF x) λp=>ax (Hq p.2) λn=>gd (Gp p.1&&Nat.ble n 255)<|ax (om l) λbs=>some<|UInt8.ofNat n::bs)=some bs:=h;obtain⟨p,hp,h⟩:=ak h;obtain⟨n,hn,h⟩:=ak h;obtain⟨hg,h⟩:=dh h;obtain⟨r,hr,h⟩:=ak h;cases h;cases hv with
  |cons _ v' _ t' h1 h2=>
   simp only[aG]at hg;have hle:=ai hg.2;rw[mH hp]at h1;have:=h1.of_int;subst this
   have hk:p.1=.u8:=by
    have:=hg.1;cases hp1:p.1<;>rw[hp1]at this<;>first|rfl|(simp[Gp]at this)
   rw[ih hr h2,hk,Lh hn];simp;omega
theorem NL(rh:RH m H w){d:TypeId}(h:Cz P q x H=some (v,H'))(hx:VR m x x')(hs:P.underlying s=some (.slice q.1))(hd:P.underlying d=some .string):rD P m H w (convert s d x') v H':=by
 obtain⟨p,hp,h⟩:=ak h;obtain⟨hg,h⟩:=dh h;simp only[aG]at hg;have hu8:=NB hg.2;rw[um hp]at hx;obtain⟨base,ln,cp⟩:=p;cases base with
 |none=>
  obtain⟨e1,e2,e3⟩:=hx.qE;subst e1 e2 e3;replace h:some (Value.string ⟨⟨[]⟩⟩,H)=some (v,H'):=h;cases h;refine⟨m,_,w,?_,.sc _ rfl,rh,Ex.refl _ _ _⟩;rw[run_convert_bytes_string w s d q.1 none 0 0 hs hu8 hd];rfl
 |some a=>
  replace h:(ax (H.read a.block a.off ln) λl=>ax (om l) λbs=>some (Value.string ⟨⟨bs⟩⟩,H))=some (v,H'):=h;obtain⟨l,hl,h⟩:=ak h;obtain⟨bs,hbs,h⟩:=ak h;cases h;rcases hx.of_slice with⟨lc,cc,hm,hlo,hsp,e1,hcap⟩|⟨a',e1,e2,e3⟩
  .subst e1;obtain⟨vs',h1,h2,h3⟩:=GZ rh hl hm hlo;have he:=Kn hbs h1;have hln:bs.length=ln:=by rw[<-h2,he];simp
   refine⟨m,_,w,?_,.sc _ rfl,rh,Ex.refl _ _ _⟩;simp only;rw[<-hln]
   exact run_convert_bytes_back w s d q.1 _ cc bs hs hu8 hd (λj hj=>by
    apply h3 j;rw[he];simp[hj])
  .simp only at e1;subst e1 e3;replace hl:some ([]:List Value)=some l:=hl;cases hl;cases hbs;refine⟨m,_,w,?_,.sc _ rfl,rh,Ex.refl _ _ _⟩;exact run_convert_bytes_back w s d q.1 _ 0 [] hs hu8 hd (λj hj=>by simp at hj)
end mem
section mem
variable{P:Program}
theorem Ip(rh:RH m H w){R:Row}(hm:m r=some l)(ho:H.obj r=.row R):w.shape? l.c=some (R.ty,l.tot):=by
 obtain⟨cs,fr,hb,_,h2,_⟩:=row_of rh hm ho;simp[World.shape?,hb,h2]
theorem Iq{s:TypeId×Nat}(h:w.shape? a.block=some s):(Conv.seenAt a).run P w=.ok a w:=by
 simp[Conv.seenAt,viewAt,h]
theorem Su(hu:DF du=true):∃(M:TypeId->TypeId->TypeDesc->TypeDesc->Value->Sem Value)(N:TypeId->TypeId->TypeDesc->TypeDesc->Value->Sem Value)(E:Addr->TypeId->Sem Value),
 (∀s d x,convert s d x=do let a<-underlying s;let b<-underlying d;M s d a b x)/\
 (∀s d e x,M s d (.pointer e) du x=do let p<-underlying s;let q<-underlying d;N s d p q x)/\
 (∀s d e x,M s d du (.pointer e) x=do let p<-underlying s;let q<-underlying d;N s d p q x)/\
 (∀s d e a,N s d (.pointer e) du (.pointer<|some a)=do
  let z<-Conv.seenAt a
  let nothing:=match<-cellsIn z.block with
   |some cells=>z.off>=cells&&z.spot.isNone
   |none=>false
  if(<-sizeOf e)=0||nothing then pure (.pointer<|some ⟨<-newObj (.view z e),0,none⟩)else
  pure (.pointer<|some z))/\
 (∀s d u a,N s d du (.pointer u) (.pointer<|some a)=do
  let a<-Conv.seenAt a
  if(<-sizeOf u)=0||(<-variablesAt a u 1)then pure (.pointer<|some a)
  else E a u):=by
 cases du<;>first|(replace hu:false=true:=hu;cases hu;done)|exact⟨_,_,_,λ_ _ _=>rfl,λ_ _ _ _=>rfl,λ_ _ _ _=>rfl,λ_ _ _ _=>rfl,λ_ _ _ _=>rfl⟩
theorem ET(rh:RH m H w){d:TypeId}(h:HV P e x H=some (v,H'))(hx:VR m x x')(hs:P.underlying s=some (.pointer e))(hu:DF du=true)(hd:P.underlying d=some du):rD P m H w (convert s d x') v H':=by
 obtain⟨a,ha,h⟩:=ak h;obtain⟨sz,hsz,h⟩:=ak h;obtain⟨R,hR,h⟩:=ak h;obtain⟨hg,h⟩:=dh h;cases h;have hx0:=hx;rw[kW ha]at hx;have JA:=qR hR;obtain⟨l,hm,hlo,hsp,rfl⟩:=hx.oO;simp only[aG]at hg;have g1:=ai hg.1;have g2:a.off+1<=R.n:=ai hg.2;obtain⟨i,hi,hsz⟩:=nJ hsz;have hsh:=Ip rh hm JA;obtain⟨cs,fr,hb,hnn,h2,h3,h4,h5,h6⟩:=row_of rh hm JA;refine⟨m,_,w,?_,hx0,rh,Ex.refl _ _ _⟩;have hse:=Iq (P:=P) (w:=w) (a:=⟨l.c,l.base+(a.off-l.lo),none⟩) hsh;have hoff:¬(l.tot<=l.base+(a.off-l.lo)):=by omega
 have hsz0:i.size≠0:=by omega
 obtain⟨M,N,E,c1,c2,c3,c4,c5⟩:=Su hu;rw[c1];simp only[Sem.run_bind,bY hs,bY hd,Result.andThen_ok,c2,c4];simp[hse,cellsIn,hsh,gG hi,hsz0,hoff]
theorem Ko{s:Nat}(hc:P.cellsOf e=s)(hs:1<=s)(count off n:Nat)(hm:off %s=0)(hn:off/s+n<=count):liesAt P P.depth e count off e n=true:=by
 have hd:P.depth=(2*(P.types.size+Made.depth)+1)+1:=rfl;rw[hd];simp only[liesAt,gN];left;rw[hd];have hs0:s≠0:=by omega
 simp[rowAt,hc,hn,hm,hs0,sameLayout]
theorem DR(h:P.info? t=some i):P.cellsOf t=i.size:=by
 simp[Program.cellsOf,h]
theorem EU(rh:RH m H w){d:TypeId}(h:HY P e x H=some (v,H'))(hx:VR m x x')(hu:DF du=true)(hs:P.underlying s=some du)(hd:P.underlying d=some (.pointer e)):rD P m H w (convert s d x') v H':=by
 obtain⟨a,ha,h⟩:=ak h;obtain⟨sz,hsz,h⟩:=ak h;obtain⟨R,hR,h⟩:=ak h;obtain⟨hg,h⟩:=dh h;cases h;have hx0:=hx;rw[kW ha]at hx;have JA:=qR hR;obtain⟨l,hm,hlo,hsp,rfl⟩:=hx.oO;simp only[aG]at hg;have g1:=ai hg.1.1.1;have g2:R.ty=e:=aB hg.1.1.2;have g3:=aB hg.1.2;have g4:=ai hg.2;obtain⟨i,hi,hsz⟩:=nJ hsz;have hsh:=Ip rh hm JA;have hbase:=base_of rh hm JA;obtain⟨cs,fr,hb,hnn,h2,h3,h4,h5,h6⟩:=row_of rh hm JA;refine⟨m,_,w,?_,hx0,rh,Ex.refl _ _ _⟩;have hoff:l.base+(a.off-l.lo)=0:=by omega
 rw[hoff];have hse:=Iq (P:=P) (w:=w) (a:=⟨l.c,0,none⟩) hsh;have hc:P.cellsOf e=sz:=by rw[DR hi,hsz]
 have hl:=Ko (P:=P) hc g1 (l.tot/sz) 0 1 (Nat.zero_mod _) (by
  rw[Nat.zero_div];have:sz<=l.tot:=by omega
  have:=Nat.div_pos this aa;omega)
 rw[g2]at hsh;obtain⟨M,N,E,c1,c2,c3,c4,c5⟩:=Su hu;rw[c1];simp only[Sem.run_bind,bY hs,bY hd,Result.andThen_ok,c3,c5];simp[hse,variablesAt,hsh,gG hi,hc,hl]
end mem
section mem
variable{P:Program}
theorem UM{o:Nat}{fr:Nat×Nat}(h:w.heap[c]?=some (.cells cs ty fr))(hn:n≠0):
 (w.freeze ⟨c,o,none⟩ n).heap[c]?=some (.cells cs ty (if fr.1==fr.2 then(o,o+n)else(min fr.1 o,max fr.2<|o+n))):=by
 unfold World.freeze;rw[if_neg hn];simp[gX,h]
theorem UN{o:Nat}(h:c'≠c):(w.freeze ⟨c,o,none⟩ n).heap[c']?=w.heap[c']?:=by
 unfold World.freeze;split
 .rfl
 .simp[gX,nX h]
theorem NM:(w.freeze a n).heap.size=w.heap.size:=by
 unfold World.freeze;split
 .rfl
 .simp
theorem UO{w:World}{a:Addr}{n:Nat}:(w.freeze a n).os=w.os/\(w.freeze a n).tape=w.tape/\(w.freeze a n).output=w.output:=by
 unfold World.freeze;split<;>exact⟨rfl,rfl,rfl⟩
def afh(f:Array TypeId->TypeId->Array Value->Sem Value):Prop:=∃(E2 E3:Sem Unit)(E1 E4 E5:Sem Value),∀(ats:Array TypeId)(ty:TypeId)(q:Option Addr)(k:IntKind)(z:Int),f ats ty #[.pointer q,.int k z]=
    (do
     let n<-asInt (.int k z)
     let some pt:=ats[0]?|E1
     if n<0 then E2
     if n>IntKind.i64.max then E3
     match q with
     |none=>
      if n=0 then pure (.string .empty)
      else E4
     |some a=>
      if n=0 then pure (.string .empty)
      else if<-variablesAt a (<-elemOf pt) n.toNat then do
       let s<-loadBytes a .empty n.toNat
       freeze a n.toNat
       pure (.string s)
      else E5)
theorem NN(hf:afh f)(rh:RH m H w)(h:ug P ats args H=some (v,H'))(ha:jf m args args'):
 rD P m H w (f ⟨ats⟩ ty ⟨args'⟩) v H':=by
 obtain⟨E2,E3,E1,E4,E5,hdef⟩:=hf;obtain⟨hl,h⟩:=dh h;obtain⟨pt,hpt,h⟩:=ak h;obtain⟨p,hp,h⟩:=ak h;obtain⟨nv,hnv,h⟩:=ak h;obtain⟨n,hn,h⟩:=ak h;rw[kU]at hpt hp hnv;rw[dG]at hl;have hl:=aB hl;obtain⟨p',hp0,hpp⟩:=ha.get 0 hp;obtain⟨n',hn0,hnn⟩:=ha.get 1 hnv;have hl':args'.length=2:=by rw[<-ha.length,hl]
 have he:args'=[p',n']:=by
  match args',hl',hp0,hn0 with
  |[y,z],_,h0,h1=>cases h0;cases h1;rfl
 subst he;obtain⟨k,rfl⟩:=Bf hn;have:=hnn.of_int;subst this;have hat:(⟨ats⟩:Array TypeId)[0]?=some pt:=by simpa using hpt
 have hmax:IntKind.i64.max=9223372036854775807:=rfl;have hdef:=hdef ⟨ats⟩ ty;cases n with
 |zero=>
  replace h:(gd (Nat.beq (nZ p).1 1)<|some (Value.string ⟨⟨[]⟩⟩,H))=some (v,H'):=h;obtain⟨hg,h⟩:=dh h;cases h;have hg:=aB hg;have hv:=hpp.nZ aa
  have:∃a,p'=.pointer a:=by
   rcases CJ (x:=p') (by rw[hv];omega)with h1|⟨_,_,_,_,h1⟩|⟨_,_,h1⟩|⟨_,_,_,_,h1⟩|⟨_,h1⟩|⟨_,_,_,h1⟩|⟨_,h1⟩
   .obtain⟨a,h1,_⟩:=h1;exact⟨a,h1⟩
   all_goals(rw[hv]at h1;rw[h1]at hg;simp at hg)
  obtain⟨a,rfl⟩:=this;refine⟨m,_,w,?_,.sc _ rfl,rh,Ex.refl _ _ _⟩;cases a with
  |none=>rw[hdef];simp[hat,asInt,asIntOf,hmax];rfl
  |some a=>rw[hdef];simp[hat,asInt,asIntOf,hmax];rfl
 |succ n=>
  replace h:(ax (mF p) λa=>Si P pt a (n+1) H)=some (v,H'):=h;obtain⟨a,hav,h⟩:=ak h;obtain⟨d,hd,h⟩:=ak h;obtain⟨e,he,h⟩:=ak h;obtain⟨s,hs,h⟩:=ak h;obtain⟨R,hR,h⟩:=ak h;obtain⟨hg,h⟩:=dh h;obtain⟨bs,hbs,h⟩:=ak h;cases h;rw[kW hav]at hpp;obtain⟨l,hm,hlo,hsp,rfl⟩:=hpp.oO;have JA:=qR hR;simp only[aG]at hg;obtain⟨⟨⟨⟨g1,g2⟩,g3⟩,g4⟩,g5⟩:=hg;have g2:R.ty=e:=aB g2;have g3:s=1:=aB g3;have g4:a.off+(n+1)<=R.n:=ai g4;have g5:=ai g5;have hpe:P.underlying pt=some (.pointer e):=by rw[hd,GR he]
  obtain⟨i,hi,hsz⟩:=nJ hs;have hc:P.cellsOf e=1:=by rw[DR hi,hsz,g3]
  have hsh:=Ip rh hm JA;rw[g2]at hsh;obtain⟨cs,fr,hb,hrn,h2,h3,h4,h5,h6⟩:=row_of rh hm JA
  have hrd:H.read a.block a.off (n+1)=some (Tr.Cu top R.cells a.off<|n+1):=by
   show(ax (rX<|H.obj a.block) λw=>gd (Nat.ble (Nat.add a.off<|n+1) w.n)<|some<|Tr.Cu top w.cells a.off<|n+1)=_;rw[hR];show(gd (Nat.ble (Nat.add a.off<|n+1) R.n) _)=_;rw[show Nat.ble (Nat.add a.off<|n+1) R.n=true from av g4];rfl
  obtain⟨vs',r1,r2,r3⟩:=GZ rh hrd hm hlo;have hvs:=Kn hbs r1;have hbl:bs.length=n+1:=by rw[<-r2,hvs];simp
  have hlb:=Lib.run_loadBytes (P:=P) w bs ⟨l.c,l.base+(a.off-l.lo),none⟩ .empty λj x hj=>r3 j _ (by rw[hvs];simp[hj]);rw[hbl]at hlb;have hlies:=Ko (P:=P) hc (aj _) l.tot (l.base+(a.off-l.lo)) (n+1) (Nat.mod_one _) (by rw[Nat.div_one];omega)
  have zG:qG m l (.row ⟨R.ty,R.cells,R.n,R.ja,aU (Nat.ble R.fz<|Nat.add a.off<|n+1) (Nat.add a.off<|n+1) R.fz⟩)
   (.cells cs R.ty (if fr.1==fr.2 then(l.base+(a.off-l.lo),l.base+(a.off-l.lo)+(n+1))else(min fr.1<|l.base+(a.off-l.lo),max fr.2<|l.base+(a.off-l.lo)+(n+1)))):=by
   refine⟨⟨rfl,base_of rh hm JA⟩,hrn,h2,h3,h4,?_,h6⟩;intro hse;have h5:=h5 hse
   have hfz:aU (Nat.ble R.fz<|Nat.add a.off<|n+1) (Nat.add a.off<|n+1) R.fz=max R.fz (a.off+(n+1)):=by
    by_cases hh:R.fz<=a.off+(n+1)
    .rw[show Nat.ble R.fz (Nat.add a.off<|n+1)=true from av hh];exact(Nat.max_eq_right hh).symm
    .rw[show Nat.ble R.fz (Nat.add a.off<|n+1)=false from by rw[<-aV];exactλg=>hh<|ai g];exact(Nat.max_eq_left<|Nat.le_of_not_le hh).symm
   show _<=l.base+(aU (Nat.ble R.fz<|Nat.add a.off<|n+1) (Nat.add a.off<|n+1) R.fz-l.lo);rw[hfz];split
   .simp only;omega
   .simp only;omega
  have hfo:=@UO w ⟨l.c,l.base+(a.off-l.lo),none⟩<|n+1;have:=RH.update rh a.block l _ _ hm (by rw[JA];simp) zG (UM (o:=l.base+(a.off-l.lo)) hb<|Nat.succ_ne_zero n) NM (λc hc=>UN hc) hfo.1 hfo.2.1 hfo.2.2;refine⟨m,_,w.freeze ⟨l.c,l.base+(a.off-l.lo),none⟩<|n+1,?_,.sc _ rfl,this.1,this.2⟩;have hneg:¬((n+1:Nat):Int)<0:=by omega
  have h63:¬((9223372036854775807:Int)<((n+1:Nat):Int)):=by omega
  have hne:((n+1:Nat):Int)≠0:=by omega
  have ahy:((n+1:Nat):Int).toNat=n+1:=by omega
  rw[hdef];simp only[asInt,asIntOf,Sem.run_bind,Sem.run_pure,Result.andThen_ok,hat,hmax,hneg,h63,hne,g_,gt_iff_lt,variablesAt,hsh,elemOf,bY hpe,run_program,run_shape,ahy,hc,Nat.div_one,hlies,iq,hlb,run_freeze];have hbe:ByteArray.empty.data++bs.toArray=(⟨bs⟩:Array UInt8):=by rw[<-fJ];simp
  rw[hbe]
end mem
end Go.Ae
