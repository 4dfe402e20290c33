/-
  Part 02 of the proof. No condition.
-/
import Derived.Test.YtcpdfamjhehgiaaGreatDoorS01
set_option linter.unusedVariables false
set_option linter.unusedSimpArgs false
set_option maxRecDepth 100000
set_option maxHeartbeats 8000000
noncomputable section
namespace Go.Ae
section ops
variable{P:Program}{m:Mp}
inductive OR(m:Mp):Option Value→Option Value→Prop where
 |nn:OR m none none
 |ss (v v':Value) (h:VR m v v'):OR m (some v) (some v')
theorem Jb{o:Option Value}{d n:Nat}(h:dF o d=some n):(o=none∧n=d)∨∃k,o=some (.int k n):=by
 cases o with
 |none=>cases h;exact .inl ⟨rfl,rfl⟩
 |some v=>
  have h:mW v=some n:=h
  obtain⟨k,rfl⟩:=p9 h
  exact .inr ⟨k,rfl⟩
theorem OR.nat{o o':Option Value}{d n:Nat}(ho:OR m o o')(h:dF o d=some n):(o'=none∧o=none∧n=d)∨∃k,o'=some (.int k n)∧o=some (.int k n):=by
 rcases Jb h with⟨rfl,rfl⟩|⟨k,rfl⟩
 ·cases ho;exact .inl ⟨rfl,rfl,rfl⟩
 ·cases ho with
  |ss _ v' hv=>have:=hv.of_int;subst this;exact .inr ⟨k,rfl,rfl⟩
theorem qi{k:IntKind}{n y:Nat}{code:BoundsCode}{w:World}(h:n≤y):(Instr.sliceBound (.int k n) y code).run P w=.ok n w:=by
 have:(n:Int)≤y:=by omega
 simp[Instr.sliceBound,asIntOf,this,h]
theorem nQ{Va:Bool}{ln cp l h mm:Nat}{lo hi mx lo' hi' GH:Option Value}{w:World}(hlo:OR m lo lo')(hhi:OR m hi hi')(hmx:OR m mx GH)
 (el:dF lo 0=some l)(eh:dF hi ln=some h)(em:dF mx cp=some mm)(h1:l≤h)(h2:h≤mm)(h3:mm≤cp)(h4:hi=none→mx=none):
 (Instr.sliceBounds Va ln cp lo' hi' GH).run P w=.ok (l,h,mm) w:=by
 rcases hlo.nat el with⟨rfl,_,rfl⟩|⟨k1,rfl,_⟩<;>rcases hhi.nat eh with⟨rfl,rfl,rfl⟩|⟨k2,rfl,rfl⟩<;>rcases hmx.nat em with⟨rfl,rfl,rfl⟩|⟨k3,rfl,rfl⟩
 all_goals first
  |(exfalso;have:=h4 rfl;cases this;done)
  |simp[Instr.sliceBounds,qi h1,qi h2,qi h3,qi (Nat.le_trans h1 h2)]
theorem qj(l:Loc)(off k:Nat)(hl:l.lo≤off):(⟨l.c,l.base +(off -l.lo),none⟩:Addr).add k=⟨l.c,l.base +(off +k -l.lo),none⟩:=by
 unfold Addr.add
 split
 ·next h0=>rw[h0,Nat.add_zero]
 ·congr 1;show l.base +(off -l.lo) +k=_;omega
theorem xR{α:Type}{o:Option α}(h:aD o=true):o=none:=by cases o<;>simp[aD]at h;rfl
theorem La{t:TypeId}{s:ByteArray}{lo hi lo' hi':Option Value}{v:Value}(hu:P.underlying t=some .string)(h:Bg s lo hi=some v)(hlo:OR m lo lo')(hhi:OR m hi hi'):
 VR m v v∧∀w,(Instr.sliceAt t (.string s) lo' hi' none).run P w=.ok v w:=by
 (replace h:=ae h;obtain⟨l,hl,h⟩:=h)
 (replace h:=ae h;obtain⟨hh,Jc,h⟩:=h)
 (replace h:=aB h;obtain⟨hg,h⟩:=h)
 cases h
 simp only[Bool.and_eq_true,aJ]at hg Jc
 have h1:=Nat.le_of_ble_eq_true hg.1
 have h2:=Nat.le_of_ble_eq_true hg.2
 have hsz:s.size=s.data.toList.length:=rfl
 refine⟨.sc _ rfl,fun w=>?_⟩
 have e:=nQ (P:=P) (Va:=false) (ln:=s.size) (cp:=s.size) (w:=w) hlo hhi (OR.nn (m:=m)) hl Jc rfl h1 h2 (Nat.le_refl _) (fun _=>rfl)
 have e2:s.extract l hh=⟨⟨tk (hh -l) (dp l s.data.toList)⟩⟩:=by
  apply ByteArray.ext
  rw[vB,zZ]
  rw[ByteArray.data_extract,←Array.toList_inj,Array.toList_extract]
 simp[Instr.sliceAt,Instr.slice,aA hu,e,e2]
theorem kU{t e:TypeId}{i:TypeInfo}{a:Addr}{ln cp l h mm:Nat}{lo hi mx lo' hi' GH:Option Value}{w:World}(hu:P.underlying t=some (.slice e))(hi0:P.info? e=some i)
 (hlo:OR m lo lo')(hhi:OR m hi hi')(hmx:OR m mx GH)
 (el:dF lo 0=some l)(eh:dF hi ln=some h)(em:dF mx cp=some mm)(h1:l≤h)(h2:h≤mm)(h3:mm≤cp)(h4:hi=none→mx=none):
 (Instr.sliceAt t (.slice (some a) ln cp) lo' hi' GH).run P w=.ok (.slice (some (if mm=l then a else a.add (l*i.size))) (h -l) (mm -l)) w:=by
 have e:=nQ (P:=P) (Va:=true) (w:=w) hlo hhi hmx el eh em h1 h2 h3 h4
 simp only[Instr.sliceAt,Instr.slice,Sem.run_bind,aA hu,Result.andThen_ok,e,bG hi0,Sem.run_pure]
 split<;>simp
theorem Po{t:TypeId}{q:TypeId×Nat}{x x' lv:Value}{p:Option Addr×Nat×Nat}{lo hi mx lo' hi' GH:Option Value}(hq:z8 P t=some q)
 (hp:wH x=some p)(h:Gt q.2 p lo hi mx=some lv)(hx:VR m x x')(hlo:OR m lo lo')(hhi:OR m hi hi')(hmx:OR m mx GH):
 ∃v',VR m lv v'∧∀w,(Instr.sliceAt t x' lo' hi' GH).run P w=.ok v' w:=by
 obtain⟨hu,⟨inf,iD,hsz⟩,hq1⟩:=lu hq
 rw[ji hp]at hx
 obtain⟨pa,n,cp⟩:=p
 simp only at hx
 cases pa with
 |none=>
  replace h:(ah (dF lo 0) fun l=>ah (dF hi 0) fun h=>ah (dF mx 0) fun m=>gd (Nat.beq l 0&&Nat.beq h 0&&Nat.beq m 0&&Nat.beq n 0&&Nat.beq cp 0&&(!(aD hi)||aD mx)) (some (.slice none 0 0)))=some lv:=h
  (replace h:=ae h;obtain⟨l,hl,h⟩:=h)
  (replace h:=ae h;obtain⟨hh,Jc,h⟩:=h)
  (replace h:=ae h;obtain⟨mm,hmm,h⟩:=h)
  (replace h:=aB h;obtain⟨hg,h⟩:=h)
  cases h
  simp only[Bool.and_eq_true]at hg
  obtain⟨⟨⟨⟨⟨g1,g2⟩,g3⟩,g4⟩,g5⟩,g6⟩:=hg
  have g1:=Nat.eq_of_beq_eq_true g1
  have g2:=Nat.eq_of_beq_eq_true g2
  have g3:=Nat.eq_of_beq_eq_true g3
  subst g1;subst g2;subst g3
  obtain⟨_,_,rfl⟩:=hx.ik
  refine⟨.slice none 0 0,.sc _ rfl,fun w=>?_⟩
  have e:=nQ (P:=P) (Va:=true) (w:=w) hlo hhi hmx hl Jc hmm (Nat.le_refl _) (Nat.le_refl _) (Nat.le_refl _) (by
   intro e;rw[e]at g6;simp[aD]at g6;cases mx with
   |none=>rfl
   |some _=>simp[aD]at g6)
  simp[Instr.sliceAt,Instr.slice,aA hu,e,bG iD]
 |some a=>
  replace h:(ah (dF lo 0) fun l=>ah (dF hi n) fun h=>
   au (aP cp)
    (ah (dF mx cp) fun m=>gd (Nat.ble l h&&Nat.ble h m&&Nat.ble m cp&&(!(aD hi)||aD mx))
     (some (.slice (some ⟨a.block,mY m l a.off q.2,none⟩) (Nat.sub h l) (Nat.sub m l))))
    (gd (Nat.beq cp (bH q.2)) (@Option.rec Value (fun _=>Option Value)
     (gd (Nat.ble l h&&Nat.ble h n) (some (.slice (some ⟨a.block,Nat.add a.off (Nat.mul l q.2),none⟩) (Nat.sub h l) cp)))
     (fun mv=>ah (mW mv) fun m=>gd (Nat.ble l h&&Nat.ble h m&&Nat.ble m n&&!(aD hi)&&aP m)
      (some (.slice (some ⟨a.block,mY m l a.off q.2,none⟩) (Nat.sub h l) (Nat.sub m l)))) mx)))=some lv:=h
  (replace h:=ae h;obtain⟨l,hl,h⟩:=h)
  (replace h:=ae h;obtain⟨hh,Jc,h⟩:=h)
  have X9:(!(aD hi)||aD mx)=true→hi=none→mx=none:=by
   intro g e;rw[e]at g;simp[aD]at g;cases mx with
   |none=>rfl
   |some _=>simp[aD]at g
  cases hk:aP cp with
  |true=>
   rw[hk]at h
   replace h:(ah (dF mx cp) fun m=>gd (Nat.ble l hh&&Nat.ble hh m&&Nat.ble m cp&&(!(aD hi)||aD mx))
    (some (Value.slice (some ⟨a.block,mY m l a.off q.2,none⟩) (Nat.sub hh l) (Nat.sub m l))))=some lv:=h
   (replace h:=ae h;obtain⟨mm,hmm,h⟩:=h)
   (replace h:=aB h;obtain⟨hg,h⟩:=h)
   cases h
   simp only[Bool.and_eq_true]at hg
   obtain⟨⟨⟨g1,g2⟩,g3⟩,g4⟩:=hg
   have g1:=Nat.le_of_ble_eq_true g1
   have g2:=Nat.le_of_ble_eq_true g2
   have g3:=Nat.le_of_ble_eq_true g3
   have g4:=X9 g4
   have hkc:aP (mm -l)=true:=by
    have:=Nat.le_of_ble_eq_true hk
    exact Nat.ble_eq_true_of_le aa
   rcases hx.of_slice with⟨lc,cc,hm,hlo2,hsp,rfl,⟨_,rfl,_⟩|⟨es,e1,_⟩⟩|⟨a',e1,e2,rfl⟩
   ·refine⟨_,?_,fun w=>kU hu iD hlo hhi hmx hl Jc hmm g1 g2 g3 g4⟩
    unfold mY
    by_cases hml:mm=l
    ·rw[show Nat.beq mm l=true from by rw[Nat.beq_eq];exact hml,if_pos hml]
     exact .slice _ _ _ _ lc hm hlo2 hkc (by show hh -l≤_ -l;omega)
    ·rw[show Nat.beq mm l=false from by rw[←Bool.not_eq_true,Nat.beq_eq];exact hml,if_neg hml,hsz,qj lc a.off _ hlo2]
     exact .slice _ _ _ _ lc hm (by show lc.lo≤a.off +l*q.2;omega) hkc (by show hh -l≤_ -l;omega)
   ·exact absurd e1 (lZ hk)
   ·rcases e2 with e2|⟨es,_,e2,_⟩
    ·subst e1;subst e2
     have:mm=0:=by omega
     subst this
     have:hh=0:=by omega
     subst this
     have:l=0:=by omega
     subst this
     refine⟨_,?_,fun w=>kU hu iD hlo hhi hmx hl Jc hmm g1 g2 g3 g4⟩
     exact .jE _ _
    ·exact absurd e2 (lZ hk)
  |false=>
   rw[hk]at h
   replace h:(gd (Nat.beq cp (bH q.2)) (@Option.rec Value (fun _=>Option Value)
    (gd (Nat.ble l hh&&Nat.ble hh n) (some (Value.slice (some ⟨a.block,Nat.add a.off (Nat.mul l q.2),none⟩) (Nat.sub hh l) cp)))
    (fun mv=>ah (mW mv) fun m=>gd (Nat.ble l hh&&Nat.ble hh m&&Nat.ble m n&&!(aD hi)&&aP m)
     (some (.slice (some ⟨a.block,mY m l a.off q.2,none⟩) (Nat.sub hh l) (Nat.sub m l)))) mx))=some lv:=h
   (replace h:=aB h;obtain⟨w_,h⟩:=h)
   have w_:=Nat.eq_of_beq_eq_true w_
   cases mx with
   |none=>
    replace h:(gd (Nat.ble l hh&&Nat.ble hh n) (some (Value.slice (some ⟨a.block,Nat.add a.off (Nat.mul l q.2),none⟩) (Nat.sub hh l) cp)))=some lv:=h
    (replace h:=aB h;obtain⟨hg,h⟩:=h)
    cases h
    simp only[Bool.and_eq_true]at hg
    have g1:=Nat.le_of_ble_eq_true hg.1
    have g2:=Nat.le_of_ble_eq_true hg.2
    cases hmx
    rcases hx.of_slice with⟨lc,cc,hm,hlo2,hsp,rfl,⟨hk2,rfl,_⟩|⟨es,e1,e0,e2,e3,e9⟩⟩|⟨a',e1,e2,rfl⟩
    ·rw[hk2]at hk;cases hk
    ·refine⟨_,?_,fun w=>kU hu iD hlo hhi (OR.nn (m:=m)) hl Jc rfl g1 (Nat.le_trans g2 e3) (Nat.le_refl _) (fun _=>rfl)⟩
     have hes:es=q.2:=by
      have:=e1.symm.trans w_
      unfold bH at this
      exact Nat.add_left_cancel this
     subst hes
     by_cases hml:cc=l
     ·rw[if_pos hml]
      have e4:hh -l=0:=by omega
      have e5:cc -l=0:=by omega
      rw[show Nat.sub hh l=0 from e4,e4,e5]
      rw[w_]
      exact .iB _ _ _ _ lc hm (by show lc.lo≤a.off +l*q.2;omega) e0 (by show lc.n≤a.off +l*q.2;rw[←hml];exact e9)
     ·rw[if_neg hml,hsz,qj lc a.off _ hlo2,w_]
      refine .gK _ _ _ _ _ lc hm (by show lc.lo≤a.off +l*q.2;omega) e0 ?_ (by show hh -l≤cc -l;omega) ?_
      show lc.base +(a.off +l*q.2 -lc.lo) +(cc -l)*q.2=lc.tot
      rw[←e2,Nat.sub_mul]
      have:l*q.2≤cc*q.2:=Nat.mul_le_mul_right _ aa
      omega
      ·show lc.n≤a.off +l*q.2 +(cc -l)*q.2
       rw[Nat.sub_mul]
       have:l*q.2≤cc*q.2:=Nat.mul_le_mul_right _ aa
       omega
    ·subst e1
     refine⟨_,?_,fun w=>kU hu iD hlo hhi (OR.nn (m:=m)) hl Jc rfl g1 aa (Nat.le_refl _) (fun _=>rfl)⟩
     have e3:hh -l=0:=by omega
     have e4:0 -l=0:=by omega
     have e5:l=0:=by omega
     rw[show Nat.sub hh l=0 from e3,e3,e4]
     rcases e2 with e2|⟨es,l2,e2,f1,f2,f3,f4,f5⟩
     ·subst e2;cases hk
     ·rw[e2]
      exact .iB _ _ _ _ l2 f1 (by show l2.lo≤a.off +l*q.2;rw[e5];omega) f3 (by show l2.n≤a.off +l*q.2;rw[e5];omega)
   |some mv=>
    replace h:(ah (mW mv) fun m=>gd (Nat.ble l hh&&Nat.ble hh m&&Nat.ble m n&&!(aD hi)&&aP m)
     (some (Value.slice (some ⟨a.block,mY m l a.off q.2,none⟩) (Nat.sub hh l) (Nat.sub m l))))=some lv:=h
    (replace h:=ae h;obtain⟨mm,hmm,h⟩:=h)
    (replace h:=aB h;obtain⟨hg,h⟩:=h)
    cases h
    simp only[Bool.and_eq_true]at hg
    obtain⟨⟨⟨⟨g1,g2⟩,g3⟩,g4⟩,g5⟩:=hg
    have g1:=Nat.le_of_ble_eq_true g1
    have g2:=Nat.le_of_ble_eq_true g2
    have g3:=Nat.le_of_ble_eq_true g3
    have g4:hi=none→some mv=none:=by intro e;rw[e]at g4;simp[aD]at g4
    have hm0:∀c,dF (some mv) c=some mm:=fun c=>hmm
    have hkc:aP (mm -l)=true:=by
     have:=Nat.le_of_ble_eq_true g5
     exact Nat.ble_eq_true_of_le aa
    rcases hx.of_slice with⟨lc,cc,hm,hlo2,hsp,rfl,⟨hk2,rfl,_⟩|⟨es,e1,e0,e2,e3,e9⟩⟩|⟨a',e1,e2,rfl⟩
    ·rw[hk2]at hk;cases hk
    ·refine⟨_,?_,fun w=>kU hu iD hlo hhi hmx hl Jc (hm0 _) g1 g2 (Nat.le_trans g3 e3) g4⟩
     unfold mY
     by_cases hml:mm=l
     ·rw[show Nat.beq mm l=true from by rw[Nat.beq_eq];exact hml,if_pos hml]
      exact .slice _ _ _ _ lc hm hlo2 hkc (by show hh -l≤_ -l;omega)
     ·rw[show Nat.beq mm l=false from by rw[←Bool.not_eq_true,Nat.beq_eq];exact hml,if_neg hml,hsz,qj lc a.off _ hlo2]
      exact .slice _ _ _ _ lc hm (by show lc.lo≤a.off +l*q.2;omega) hkc (by show hh -l≤_ -l;omega)
    ·subst e1
     refine⟨_,?_,fun w=>kU hu iD hlo hhi hmx hl Jc (hm0 _) g1 g2 g3 g4⟩
     have:mm=0:=by omega
     subst this
     have:hh=0:=by omega
     subst this
     have:l=0:=by omega
     subst this
     exact .jE _ _
theorem Lb{t:TypeId}{q:Nat×TypeId×Nat}{x x' lv:Value}{a:Addr}{lo hi mx lo' hi' GH:Option Value}(hq:CQ P t=some q)
 (hp:fH x=some a)(h:EN q.1 q.2.2 a lo hi mx=some lv)(hx:VR m x x')(hlo:OR m lo lo')(hhi:OR m hi hi')(hmx:OR m mx GH):
 ∃v',VR m lv v'∧∀w,(Instr.sliceAt t x' lo' hi' GH).run P w=.ok v' w:=by
 obtain⟨hu,⟨inf,iD,hsz⟩,hq1⟩:=w9 hq
 rw[dS hp]at hx
 obtain⟨lc,hm,hlo2,hsp,rfl⟩:=hx.gL
 (replace h:=ae h;obtain⟨l,hl,h⟩:=h)
 (replace h:=ae h;obtain⟨hh,Jc,h⟩:=h)
 (replace h:=aB h;obtain⟨hg,h⟩:=h)
 cases h
 simp only[Bool.and_eq_true]at hg
 obtain⟨⟨⟨g1,g2⟩,g3⟩,g4⟩:=hg
 have g1:=Nat.le_of_ble_eq_true g1
 have g2:=Nat.le_of_ble_eq_true g2
 have g3:=xR g3
 subst g3
 cases hmx
 have e:=fun w=>nQ (P:=P) (Va:=false) (cp:=q.1) (w:=w) hlo hhi (OR.nn (m:=m)) hl Jc rfl g1 g2 (Nat.le_refl _) (fun _=>rfl)
 have hkc:aP (q.1 -l)=true:=by
  have:=Nat.le_of_ble_eq_true g4
  exact Nat.ble_eq_true_of_le aa
 refine⟨.slice (some (if q.1=l then⟨lc.c,lc.base +(a.off -lc.lo),none⟩else(⟨lc.c,lc.base +(a.off -lc.lo),none⟩:Addr).add (l*inf.size))) (hh -l) (q.1 -l),?_,fun w=>?_⟩
 ·unfold mY
  by_cases hml:q.1=l
  ·rw[show Nat.beq q.1 l=true from by rw[Nat.beq_eq];exact hml,if_pos hml]
   exact .slice _ _ _ _ lc hm hlo2 hkc (by show hh -l≤_ -l;omega)
  ·rw[show Nat.beq q.1 l=false from by rw[←Bool.not_eq_true,Nat.beq_eq];exact hml,if_neg hml,hsz,qj lc a.off _ hlo2]
   exact .slice _ _ _ _ lc hm (by show lc.lo≤a.off +l*q.2.2;omega) hkc (by show hh -l≤_ -l;omega)
 ·simp only[Instr.sliceAt,Instr.sureAddr,Sem.run_bind,aA hu,Result.andThen_ok,Sem.run_pure,e w,bG iD]
theorem Lc{t:TypeId}{x x' lv:Value}{lo hi mx lo' hi' GH:Option Value}(h:k_ P t x lo hi mx=some lv)(hx:VR m x x')(hlo:OR m lo lo')(hhi:OR m hi hi')(hmx:OR m mx GH):
 ∃v',VR m lv v'∧∀w,(Instr.sliceAt t x' lo' hi' GH).run P w=.ok v' w:=by
 unfold k_ at h
 cases hs:z8 P t with
 |some q=>
  rw[hs]at h
  replace h:(ah (wH x) fun p=>Gt q.2 p lo hi mx)=some lv:=h
  (replace h:=ae h;obtain⟨p,hp,h⟩:=h)
  exact Po hs hp h hx hlo hhi hmx
 |none=>
  rw[hs]at h
  cases hst:qX P t with
  |true=>
   rw[hst]at h
   replace h:(ah (gX x) fun s=>gd (aD mx) (Bg s lo hi))=some lv:=h
   (replace h:=ae h;obtain⟨s,hs1,h⟩:=h)
   (replace h:=aB h;obtain⟨hg,h⟩:=h)
   have g3:=xR hg
   subst g3
   cases hmx
   rw[dU hs1]at hx
   have:=hx.iT;subst this
   obtain⟨h1,h2⟩:=La (P:=P) (uM hst) h hlo hhi
   exact⟨_,h1,h2⟩
  |false=>
   rw[hst]at h
   replace h:(ah (CQ P t) fun q=>ah (fH x) fun a=>EN q.1 q.2.2 a lo hi mx)=some lv:=h
   (replace h:=ae h;obtain⟨q,hq,h⟩:=h)
   (replace h:=ae h;obtain⟨a,ha,h⟩:=h)
   exact Lb hq ha h hx hlo hhi hmx
end ops
section ops
variable{P:Program}{m:Mp}
theorem Ld{v:Value}{p:FloatKind×Nat×Nat}(h:XM v=some p):v=.complex p.1 p.2.1 p.2.2:=by
 cases v<;>simp[XM]at h<;>simp[←h]
theorem Le{v:Value}{p:FloatKind×Nat}(h:XN v=some p):v=.float p.1 p.2:=by
 cases v<;>simp[XN]at h<;>simp[←h]
theorem Lf{k k':FloatKind}(h:Nat.beq (Gq k) (Gq k')=true):k=k':=by cases k<;>cases k'<;>first|rfl|cases h
theorem Vb{l:List Value}{x:Value}(h:Nat.beq (len l) 1=true)(hx:nth l 0=some x):l=[x]:=by
 have:=Nat.eq_of_beq_eq_true h
 rw[aJ]at this
 match l,this with
 |[y],_=>cases hx;rfl
theorem X_{l:List Value}{x y:Value}(h:Nat.beq (len l) 2=true)(hx:nth l 0=some x)(hy:nth l 1=some y):l=[x,y]:=by
 have:=Nat.eq_of_beq_eq_true h
 rw[aJ]at this
 match l,this with
 |[a,b],_=>cases hx;cases hy;rfl
theorem Pp{ats:Array TypeId}{t:TypeId}{args args':List Value}{v:Value}(h:CS args=some v)(ha:bP m args args'):
 VR m v v∧∀w,(Builtin.real_ ats t ⟨args'⟩).run P w=.ok v w:=by
 (replace h:=aB h;obtain⟨hl,h⟩:=h)
 (replace h:=ae h;obtain⟨x,hx,h⟩:=h)
 (replace h:=ae h;obtain⟨p,hp,h⟩:=h)
 cases h
 have:=Vb hl hx;subst this
 have:=Ld hp;subst this
 have:=ha.gU rfl;subst this
 exact⟨.sc _ rfl,fun w=>rfl⟩
theorem Pq{ats:Array TypeId}{t:TypeId}{args args':List Value}{v:Value}(h:CU args=some v)(ha:bP m args args'):
 VR m v v∧∀w,(Builtin.imag_ ats t ⟨args'⟩).run P w=.ok v w:=by
 (replace h:=aB h;obtain⟨hl,h⟩:=h)
 (replace h:=ae h;obtain⟨x,hx,h⟩:=h)
 (replace h:=ae h;obtain⟨p,hp,h⟩:=h)
 cases h
 have:=Vb hl hx;subst this
 have:=Ld hp;subst this
 have:=ha.gU rfl;subst this
 exact⟨.sc _ rfl,fun w=>rfl⟩
theorem EX{ats:Array TypeId}{t:TypeId}{args args':List Value}{v:Value}(h:oQ args=some v)(ha:bP m args args'):
 VR m v v∧∀w,(Builtin.complex_ ats t ⟨args'⟩).run P w=.ok v w:=by
 (replace h:=aB h;obtain⟨hl,h⟩:=h)
 (replace h:=ae h;obtain⟨x,hx,h⟩:=h)
 (replace h:=ae h;obtain⟨y,hy,h⟩:=h)
 (replace h:=ae h;obtain⟨p,hp,h⟩:=h)
 (replace h:=ae h;obtain⟨q,hq,h⟩:=h)
 (replace h:=aB h;obtain⟨hk,h⟩:=h)
 cases h
 have:=X_ hl hx hy;subst this
 have:=Le hp;subst this
 have:=Le hq;subst this
 have hk:=Lf hk
 have:=ha.gU rfl;subst this
 refine⟨.sc _ rfl,fun w=>?_⟩
 have e:Builtin.complex_ ats t ⟨[.float p.1 p.2,.float q.1 q.2]⟩=if p.1=q.1 then pure (.complex p.1 p.2 q.2)else stuck "complex: parts of different kinds" :=rfl
 rw[e,if_pos hk];rfl
theorem sN{α:Type}(x:α):∀(k:Nat)(l:List α),setAt x k l=l.set k x:=by
 intro k
 induction k with
 |zero=>intro l;cases l<;>rfl
 |succ k ih=>intro l;cases l with
  |nil=>rfl
  |cons y r=>exact congrArg (y::·) (ih r)
theorem EY:∀(vs:List Value)(k:Nat)(cs:List Value),uF vs k cs=(vs.zipIdx k).foldl (fun cs p=>cs.set p.2 p.1) cs:=by
 intro vs
 induction vs with
 |nil=>intros;rfl
 |cons v vs ih=>
  intro k cs
  show uF vs (k +1) (setAt v k cs)=_
  rw[ih,sN];rfl
theorem Lg:∀(vs vs':List Value)(k:Nat)(cs cs':List Value),bP m vs vs'→bP m cs cs'→bP m (uF vs k cs) (uF vs' k cs'):=by
 intro vs
 induction vs with
 |nil=>intro vs' k cs cs' h hc;cases h;exact hc
 |cons v vs ih=>
  intro vs' k cs cs' h hc
  cases h with
  |cons _ v' _ r' hv hr=>
   show bP m (uF vs (k +1) (setAt v k cs)) (uF r' (k +1) (setAt v' k cs'))
   rw[sN,sN]
   exact ih r' (k +1) _ _ hr (hc.set k hv)
theorem Jd(cs:Array Value)(off:Nat):∀(l:List (Value×Nat))(a:Array Value),(l.foldl (fun(cs:Array Value) p=>cs.setIfInBounds (off +p.2) p.1) a).toList=
 l.foldl (fun(cs:List Value) p=>cs.set (off +p.2) p.1) a.toList:=by
 intro l
 induction l with
 |nil=>intro a;rfl
 |cons p l ih=>intro a;simp only[List.foldl_cons];rw[ih];simp
theorem Je:∀(vs:List Value)(off k:Nat)(cs:List Value),(vs.zipIdx k).foldl (fun(cs:List Value) p=>cs.set (off +p.2) p.1) cs=(vs.zipIdx (off +k)).foldl (fun cs p=>cs.set p.2 p.1) cs:=by
 intro vs
 induction vs with
 |nil=>intros;rfl
 |cons v vs ih=>intro off k cs;simp only[List.zipIdx_cons,List.foldl_cons];rw[ih off (k +1)];rfl
theorem EZ(vs:Array Value)(off:Nat)(a:Array Value):(vs.zipIdx.foldl (fun(cs:Array Value)(p:Value×Nat)=>cs.setIfInBounds (off +p.2) p.1) a)=⟨uF vs.toList off a.toList⟩:=by
 rw[←Array.toList_inj,←Array.foldl_toList,Jd a,EY]
 simp only[Array.toList_zipIdx]
 rw[Je]
 simp
inductive Q6(m:Mp):List (Nat×Value)→List (Nat×Value)→Prop where
 |nil:Q6 m [] []
 |cons (k:Nat) (v v':Value) (l l':List (Nat×Value)) (h:VR m v v') (hl:Q6 m l l'):Q6 m ((k,v)::l) ((k,v')::l')
theorem nR{v v':Value}(h:VR m v v')(hn:v≠top):bP m (ax v) (ax v'):=by
 cases h with
 |sc _ h=>
  have:ax v=[v]:=by cases v<;>first|rfl|simp[dD]at h
  rw[this];exact .cons _ _ _ _ (.sc _ h) .nil
 |top=>exact absurd rfl hn
 |ptr r off l h hl=>exact .cons _ _ _ _ (.ptr r off l h hl) .nil
 |slice r off n cp l h hl hk hnc=>exact .cons _ _ _ _ (.slice r off n cp l h hl hk hnc) .nil
 |gK r off n es cc l h hl he ht hc hN=>exact .cons _ _ _ _ (.gK r off n es cc l h hl he ht hc hN) .nil
 |jE a a'=>exact .cons _ _ _ _ (.jE a a') .nil
 |iB r off es a' l h hl he hN=>exact .cons _ _ _ _ (.iB r off es a' l h hl he hN) .nil
 |map r l h=>exact .cons _ _ _ _ (.map r l h) .nil
 |func f x y x' y' hx hy=>exact .cons _ _ _ _ (.func f x y x' y' hx hy) .nil
 |iface t v v' h=>exact .cons _ _ _ _ (.iface t v v' h) .nil
 |agg x x' h=>exact h
 |tuple x x' h=>exact .cons _ _ _ _ (.tuple x x' h) .nil
theorem Ag{v:Value}(h:mq v=true):v≠top:=by intro e;rw[e]at h;cases h
theorem oV(v:Value):v.cells=⟨ax v⟩:=by rw[qh]
theorem Bz(place:Nat→Option (Nat×Nat)):∀(ps ps':List (Nat×Value))(cs cs' r:List Value),qM place ps cs=some r→Q6 m ps ps'→bP m cs cs'→
 ∃r',Instr.fill place ⟨cs'⟩ ps'=some ⟨r'⟩∧bP m r r':=by
 intro ps
 induction ps with
 |nil=>intro ps' cs cs' r h hp hc;cases hp;cases h;exact⟨cs',rfl,hc⟩
 |cons p ps ih=>
  intro ps' cs cs' r h hp hc
  cases hp with
  |cons k v v' _ l' hv hl=>
   replace h:(ah (place k) fun q=>gd (mq v&&Nat.beq (len (ax v)) q.2&&Nat.ble (Nat.add q.1 q.2) (len cs)) (qM place ps (uF (ax v) q.1 cs)))=some r:=h
   (replace h:=ae h;obtain⟨q,hq,h⟩:=h)
   (replace h:=aB h;obtain⟨hg,h⟩:=h)
   simp only[Bool.and_eq_true,aJ]at hg
   have g1:=Ag hg.1.1
   have g2:=Nat.eq_of_beq_eq_true hg.1.2
   have g3:=Nat.le_of_ble_eq_true hg.2
   have hcv:=nR hv g1
   obtain⟨r',hr',hrr⟩:=ih l' _ (uF (ax v') q.1 cs') r h hl (Lg _ _ _ _ _ hcv hc)
   refine⟨r',?_,hrr⟩
   unfold Instr.fill
   rw[hq]
   have e1:v'.cells.size=q.2:=by rw[oV];show(ax v').length=_;rw[←hcv.length,g2]
   have e2:¬(q.1 +v'.cells.size>(⟨cs'⟩:Array Value).size):=by
    rw[e1];show¬(q.1 +q.2>cs'.length);rw[←hc.length]
    have:q.1 +q.2≤cs.length:=g3
    omega
   simp only[e1,ne_eq,not_true_eq_false,decide_false,Bool.false_or,decide_eq_true_eq]
   rw[e1]at e2
   rw[if_neg e2]
   rw[EZ,oV]
   exact hr'
theorem Jf:∀(fs:List Field)(pl:List (Nat×Nat)),places P fs=some pl→fs.mapM (fun f=>(P.info? f.type).map fun i=>(f.offset,i.size))=some pl:=by
 intro fs
 induction fs with
 |nil=>intro pl h;cases h;rfl
 |cons f fs ih=>
  intro pl h
  replace h:(ah (je P f.type) fun s=>ah (places P fs) fun l=>some ((f.offset,s)::l))=some pl:=h
  (replace h:=ae h;obtain⟨s,hs,h⟩:=h)
  (replace h:=ae h;obtain⟨l,hl,h⟩:=h)
  cases h
  obtain⟨i,hi,rfl⟩:=fM hs
  simp[List.mapM_cons,hi,ih l hl]
theorem Lh{t:TypeId}{ps ps':List (Nat×Value)}{v:Value}(h:oP P t ps=some v)(hp:Q6 m ps ps'):
 ∃v',VR m v v'∧∀w,(Instr.build t ⟨ps'⟩).run P w=.ok v' w:=by
 (replace h:=ae h;obtain⟨z,hz,h⟩:=h)
 obtain⟨i,z0,hi,hz0,Li,hlen,hs⟩:=kR hz
 have hzz:bP m z z:=bP.dD hs
 have hzc:z0.cells=⟨z⟩:=by rw[Li]
 cases hpl:Gs P t with
 |some pl=>
  rw[hpl]at h
  replace h:(ah (qM (nth pl) ps z) fun cs=>some (Value.agg ⟨cs⟩))=some v:=h
  (replace h:=ae h;obtain⟨cs,hcs,h⟩:=h)
  cases h
  obtain⟨cs',hcs',hr⟩:=Bz (nth pl) ps ps' z z cs hcs hp hzz
  refine⟨.agg ⟨cs'⟩,.agg _ _ hr,fun w=>run_build w t ⟨ps'⟩ ⟨cs'⟩ ?_⟩
  have h:=hpl
  (replace h:=ae h;obtain⟨fs,hfs,h⟩:=h)
  have hu:=ru hfs
  have hpm:=Jf fs pl h
  unfold Program.built
  rw[hi,hu]
  simp only[hz0,hpm,hzc]
  rw[←hcs']
  congr 1
  funext k
  rw[cB];simp
 |none=>
  rw[hpl]at h
  replace h:(ah (CQ P t) fun q=>ah (qM (fun k=>some (Nat.mul k q.2.2,q.2.2)) ps z) fun cs=>some (Value.agg ⟨cs⟩))=some v:=h
  (replace h:=ae h;obtain⟨q,hq,h⟩:=h)
  (replace h:=ae h;obtain⟨cs,hcs,h⟩:=h)
  cases h
  obtain⟨hu,⟨inf,iD,hsz⟩,hq1⟩:=w9 hq
  obtain⟨cs',hcs',hr⟩:=Bz _ ps ps' z z cs hcs hp hzz
  refine⟨.agg ⟨cs'⟩,.agg _ _ hr,fun w=>run_build w t ⟨ps'⟩ ⟨cs'⟩ ?_⟩
  unfold Program.built
  rw[hi,hu]
  simp only[hz0,iD,hzc,hsz]
  exact hcs'
end ops
inductive oJ(m:Mp):List (Value×Value)→List MapEntry→Prop where
 |nil:oJ m [] []
 |cons (k v:Value) (e:MapEntry) (l:List (Value×Value)) (l':List MapEntry) (hk:VR m k e.key) (hv:VR m v e.val) (hl:oJ m l l'):oJ m ((k,v)::l) (e::l')
theorem oJ.mono{m m':Mp}(hm:Mp.le m m'){l:List (Value×Value)}{l':List MapEntry}(h:oJ m l l'):oJ m' l l':=by
 induction h with
 |nil=>exact .nil
 |cons k v e l l' hk hv _ ih=>exact .cons k v e l l' (hk.mono hm) (hv.mono hm) ih
def iJ(m:Mp)(l:Loc):bR→Obj→Prop
 |.dead,_=>True
 |.row R,.cells cs ty fr=>(ty=R.ty∧l.base=0)∧R.n=l.n∧cs.size=l.tot∧l.lo≤R.n∧l.base +(R.n -l.lo)≤l.tot∧
  (R.bX=false→fr.2≤l.base +(R.fz -l.lo))∧
  ∀i,l.lo≤i→i<R.n→∃v,cs[l.base +(i -l.lo)]?=some v∧VR m (R.cells.get top i) v
 |.map es,.map kz _=>oJ m es kz.toList
 |.oM s p,.stringIter s' p'=>s'=s∧p'=p∧l.base=0
 |_,_=>False
theorem iJ.mono{m m':Mp}(hm:Mp.le m m'){l:Loc}{o:bR}{ob:Obj}(h:iJ m l o ob):iJ m' l o ob:=by
 cases o<;>cases ob<;>first|exact h|skip
 case row.cells R cs ty fr=>
  obtain⟨h1,hn,h2,h3,h4,h5,h6⟩:=h
  exact⟨h1,hn,h2,h3,h4,h5,fun i a b=>let⟨v,hv,hr⟩:=h6 i a b;⟨v,hv,hr.mono hm⟩⟩
 case map.map es kz c=>exact oJ.mono hm h
structure RH(m:Mp)(H:ag)(w:World):Prop where
 dom:∀r l,m r=some l→r<H.next
 ok:∀r l,m r=some l→∃o,w.heap[l.c]?=some o∧iJ m l (H.obj r) o
 sep:∀r r' l l',m r=some l→m r'=some l'→H.obj r≠.dead→H.obj r'≠.dead→l.c=l'.c→r=r'
structure Ex(m m':Mp)(H H':ag)(w w':World):Prop where
 le:Mp.le m m'
 new:∀r l,m' r=some l→m r=none→H.next≤r
 fresh:∀r l,m' r=some l→m r=none→l.c<w.heap.size→∃r0 l0,m r0=some l0∧l0.c=l.c∧H'.low≤r0
 os:w'.os=w.os
 tape:w'.tape=w.tape
 output:w'.output=w.output
 size:w.heap.size≤w'.heap.size
 keep:∀c,c<w.heap.size→(∀r l,m r=some l→l.c=c→r<H'.low)→w'.heap[c]?=w.heap[c]?
 next:H.next≤H'.next
 low:H'.low≤H.low
 jc:∀r,r<H.next→r<H'.low→H'.obj r=H.obj r
 hid:∀r,r<H.next→m r=none→H'.obj r=H.obj r
theorem fO{w:World}{c:Nat}{o:Obj}(h:w.heap[c]?=some o):c<w.heap.size:=(Array.getElem?_eq_some_iff.1 h).1
theorem Ex.refl(m:Mp)(H:ag)(w:World):Ex m m H H w w where
 le:=fun _ _ h=>h
 new:=fun r l h h'=>by rw[h]at h';cases h'
 fresh:=fun r l h h'=>by rw[h]at h';cases h'
 os:=rfl
 tape:=rfl
 output:=rfl
 size:=Nat.le_refl _
 keep:=fun _ _ _=>rfl
 next:=Nat.le_refl _
 low:=Nat.le_refl _
 jc:=fun _ _ _=>rfl
 hid:=fun _ _ _=>rfl
theorem Ex.trans{m m1 m2:Mp}{H H1 H2:ag}{w w1 w2:World}(a:Ex m m1 H H1 w w1)(b:Ex m1 m2 H1 H2 w1 w2):Ex m m2 H H2 w w2 where
 le:=fun r l h=>b.le r l (a.le r l h)
 new:=fun r l h h'=>by
  cases h1:m1 r with
  |none=>exact Nat.le_trans a.next (b.new r l h h1)
  |some l1=>
   have:=b.le r l1 h1
   rw[h]at this;cases this
   exact a.new r l h1 h'
 fresh:=fun r l h h' hlt=>by
  cases h1:m1 r with
  |none=>
   obtain⟨r0,l0,e1,e2,e3⟩:=b.fresh r l h h1 (Nat.lt_of_lt_of_le hlt a.size)
   cases h0:m r0 with
   |some UN=>
    have:=a.le r0 UN h0
    rw[e1]at this;cases this
    exact⟨r0,l0,h0,e2,e3⟩
   |none=>
    obtain⟨r1,l1,f1,f2,f3⟩:=a.fresh r0 l0 e1 h0 (by rw[e2];exact hlt)
    exact⟨r1,l1,f1,f2.trans e2,Nat.le_trans b.low f3⟩
  |some l1=>
   have:=b.le r l1 h1
   rw[h]at this;cases this
   obtain⟨r0,l0,e1,e2,e3⟩:=a.fresh r l h1 h' hlt
   exact⟨r0,l0,e1,e2,Nat.le_trans b.low e3⟩
 os:=b.os.trans a.os
 tape:=b.tape.trans a.tape
 output:=b.output.trans a.output
 size:=Nat.le_trans a.size b.size
 keep:=fun c hc hk=>by
  rw[b.keep c (Nat.lt_of_lt_of_le hc a.size),a.keep c hc]
  ·exact fun r l h1 h2=>Nat.lt_of_lt_of_le (hk r l h1 h2) b.low
  ·intro r l h1 h2
   cases h0:m r with
   |some l0=>
    have:=a.le r l0 h0
    rw[h1]at this;cases this
    exact hk r l h0 h2
   |none=>
    obtain⟨r0,l0,e1,e2,e3⟩:=a.fresh r l h1 h0 (by rw[h2];exact hc)
    have:=hk r0 l0 e1 (e2.trans h2)
    have:=b.low
    omega
 next:=Nat.le_trans a.next b.next
 low:=Nat.le_trans b.low a.low
 jc:=fun r h1 h2=>(b.jc r (Nat.lt_of_lt_of_le h1 a.next) h2).trans (a.jc r h1 (Nat.lt_of_lt_of_le h2 b.low))
 hid:=fun r h1 h2=>by
  have h3:m1 r=none:=by
   cases h0:m1 r with
   |none=>rfl
   |some l=>have:=a.new r l h0 h2;omega
  exact(b.hid r (Nat.lt_of_lt_of_le h1 a.next) h3).trans (a.hid r h1 h2)
theorem jk(H:ag)(r:Nat)(o:bR)(r':Nat):(H.put r o).obj r'=if r'=r then o else H.obj r':=Tr.gQ _ _ _ _ _
theorem kK(H:ag)(o:bR)(r':Nat):(H.new o).obj r'=if r'=H.next then o else H.obj r':=Tr.gQ _ _ _ _ _
theorem xe(H:ag)(r:Nat)(o:bR):(H.put r o).low≤r∧(H.put r o).low≤H.low:=by
 have e:(H.put r o).low=au (Nat.ble H.low r) H.low r:=rfl
 rw[e,mG]
 split
 ·next h=>exact⟨Nat.le_of_ble_eq_true h,Nat.le_refl _⟩
 ·next h=>exact⟨Nat.le_refl _,by have:¬H.low≤r:=fun h'=>h (Nat.ble_eq_true_of_le h');omega⟩
def Mp.add(m:Mp)(r:Nat)(l:Loc):Mp:=fun k=>if k=r then some l else m k
theorem Mp.Lj{m:Mp}{r:Nat}{l:Loc}(h:m r=none):Mp.le m (m.add r l):=by
 intro k l' hk
 unfold Mp.add
 split
 ·next e=>rw[e]at hk;rw[h]at hk;cases hk
 ·exact hk
theorem RH.Ah{m:Mp}{H:ag}{w:World}(rh:RH m H w):m H.next=none:=by
 cases h:m H.next with
 |none=>rfl
 |some l=>exact absurd (rh.dom _ _ h) (Nat.lt_irrefl _)
theorem RH.alloc{m:Mp}{H:ag}{w:World}(rh:RH m H w)(o:bR)(ob:Obj)(lo base tot n:Nat)(hok:iJ m ⟨w.heap.size,lo,base,tot,n⟩ o ob):
 RH (m.add H.next ⟨w.heap.size,lo,base,tot,n⟩) (H.new o) (w.alloc ob)∧Ex m (m.add H.next ⟨w.heap.size,lo,base,tot,n⟩) H (H.new o) w (w.alloc ob):=by
 have hn:=rh.Ah
 have hle:=Mp.Lj (l:=⟨w.heap.size,lo,base,tot,n⟩) hn
 have hold:∀r l,m r=some l→l.c<w.heap.size:=fun r l h=>let⟨_,ho,_⟩:=rh.ok r l h;fO ho
 refine⟨⟨?_,?_,?_⟩,?_⟩
 ·intro r l h
  show r<H.next +1
  unfold Mp.add at h
  split at h
  ·omega
  ·have:=rh.dom r l h;omega
 ·intro r l h
  unfold Mp.add at h
  split at h
  ·next e=>
   cases h
   refine⟨ob,by show(w.heap.push ob)[w.heap.size]?=_;simp,?_⟩
   rw[kK,if_pos e]
   exact hok.mono hle
  ·next e=>
   obtain⟨xS,ho,hk⟩:=rh.ok r l h
   refine⟨xS,?_,?_⟩
   ·have:=fO ho
    show(w.heap.push ob)[l.c]?=_
    rw[Array.getElem?_push,if_neg aa];exact ho
   ·rw[kK,if_neg e];exact hk.mono hle
 ·intro r r' l l' h h' hd hd' hc
  unfold Mp.add at h h'
  split at h<;>split at h'
  ·next e e'=>rw[e,e']
  ·next e e'=>cases h;have:=hold r' l' h';simp at hc;omega
  ·next e e'=>cases h';have:=hold r l h;simp at hc;omega
  ·next e e'=>
   rw[kK,if_neg e]at hd
   rw[kK,if_neg e']at hd'
   exact rh.sep r r' l l' h h' hd hd' hc
 ·refine⟨hle,?_,?_,rfl,rfl,rfl,by show w.heap.size≤(w.heap.push ob).size;simp,?_,Nat.le_succ _,Nat.le_refl _,?_,?_⟩
  ·intro r l h h0
   unfold Mp.add at h
   split at h
   ·next e=>omega
   ·rw[h0]at h;cases h
  ·intro r l h h0 hlt
   unfold Mp.add at h
   split at h
   ·next e=>cases h;simp at hlt
   ·rw[h0]at h;cases h
  ·intro c hc _
   show(w.heap.push ob)[c]?=_
   rw[Array.getElem?_push,if_neg aa]
  ·intro r h1 h2
   rw[kK,if_neg aa]
  ·intro r h1 h2
   rw[kK,if_neg aa]
theorem RH.drew{m:Mp}{H:ag}{w:World}(rh:RH m H w):RH m H w.drew:=⟨rh.dom,rh.ok,rh.sep⟩
theorem Ex.drew(m:Mp)(H:ag)(w:World):Ex m m H H w w.drew:={Ex.refl m H w with os:=rfl,tape:=rfl,output:=rfl,size:=Nat.le_refl _,keep:=fun _ _ _=>rfl}
theorem RH.update{m:Mp}{H:ag}{w w':World}(rh:RH m H w)(r:Nat)(l:Loc)(o':bR)(xS:Obj)(hm:m r=some l)(hd:H.obj r≠.dead)
 (hok:iJ m l o' xS)(hb:w'.heap[l.c]?=some xS)(hs:w'.heap.size=w.heap.size)(ho:∀c,c≠l.c→w'.heap[c]?=w.heap[c]?)
 (h1:w'.os=w.os)(h2:w'.tape=w.tape)(h3:w'.output=w.output):RH m (H.put r o') w'∧Ex m m H (H.put r o') w w':=by
 have hlow:=xe H r o'
 refine⟨⟨rh.dom,?_,?_⟩,?_⟩
 ·intro r1 l1 hm1
  rw[jk]
  by_cases e:r1=r
  ·subst e;rw[hm1]at hm;cases hm
   exact⟨xS,hb,by rw[if_pos rfl];exact hok⟩
  ·rw[if_neg e]
   obtain⟨Ya,g1,g2⟩:=rh.ok r1 l1 hm1
   by_cases hc:l1.c=l.c
   ·refine⟨xS,by rw[hc];exact hb,?_⟩
    by_cases hdd:H.obj r1=.dead
    ·rw[hdd];trivial
    ·exact absurd (rh.sep r1 r l1 l hm1 hm hdd hd hc) e
   ·exact⟨Ya,by rw[ho _ hc];exact g1,g2⟩
 ·intro r1 r2 l1 l2 hm1 hm2 hd1 hd2 hc
  rw[jk]at hd1 hd2
  by_cases e1:r1=r<;>by_cases e2:r2=r
  ·rw[e1,e2]
  ·subst e1
   rw[if_neg e2]at hd2
   exact rh.sep r1 r2 l1 l2 hm1 hm2 hd hd2 hc
  ·subst e2
   rw[if_neg e1]at hd1
   exact rh.sep r1 r2 l1 l2 hm1 hm2 hd1 hd hc
  ·rw[if_neg e1]at hd1
   rw[if_neg e2]at hd2
   exact rh.sep r1 r2 l1 l2 hm1 hm2 hd1 hd2 hc
 ·refine⟨fun _ _ h=>h,(fun r l h h'=>absurd (h.symm.trans h') (by simp)),(fun r l h h'=>absurd (h.symm.trans h') (by simp)),h1,h2,h3,(by rw[hs];exact Nat.le_refl _),?_,Nat.le_refl _,hlow.2,?_,?_⟩
  ·intro c hc hk
   apply ho
   intro e
   have:=hk r l hm e.symm
   omega
  ·intro r1 g1 g2
   rw[jk,if_neg aa]
  ·intro r1 g1 g2
   rw[jk,if_neg (by intro e;subst e;rw[hm]at g2;cases g2)]
section mem
variable{P:Program}{m:Mp}{H:ag}{w:World}
theorem GI(d:Value)(t:Tr Value):∀(n k:Nat),(Tr.vz d t k n).length=n:=by
 intro n
 induction n with
 |zero=>intro k;rfl
 |succ n ih=>intro k;rw[Tr.mV];simp[ih]
theorem GJ(d:Value)(t:Tr Value):∀(n k j:Nat),j<n→(Tr.vz d t k n)[j]?=some (t.get d (k +j)):=by
 intro n
 induction n with
 |zero=>intro k j h;omega
 |succ n ih=>
  intro k j h
  rw[Tr.mV]
  cases j with
  |zero=>rfl
  |succ j=>rw[List.getElem?_cons_succ,ih (k +1) j aa,show k +1 +j=k +(j +1)from by omega]
theorem cell_of{c:Nat}{cs:Array Value}{ty:TypeId}{fr:Nat×Nat}(h:w.heap[c]?=some (.cells cs ty fr))(k:Nat):w.cell? ⟨c,k,none⟩=cs[k]?:=by
 simp[World.cell?,h]
theorem row_of(rh:RH m H w){r:Nat}{l:Loc}{R:Row}(hm:m r=some l)(ho:H.obj r=.row R):
 ∃cs fr,w.heap[l.c]?=some (.cells cs R.ty fr)∧R.n=l.n∧cs.size=l.tot∧l.lo≤R.n∧l.base +(R.n -l.lo)≤l.tot∧
  (R.bX=false→fr.2≤l.base +(R.fz -l.lo))∧
  ∀i,l.lo≤i→i<R.n→∃v,cs[l.base +(i -l.lo)]?=some v∧VR m (R.cells.get top i) v:=by
 obtain⟨o,hb,hk⟩:=rh.ok r l hm
 rw[ho]at hk
 cases o with
 |cells cs ty fr=>
  obtain⟨h1,hn,h2,h3,h4,h5,h6⟩:=hk
  exact⟨cs,fr,by rw[hb,h1.1],hn,h2,h3,h4,h5,h6⟩
 |_=>exact hk.elim
theorem base_of(rh:RH m H w){r:Nat}{l:Loc}{R:Row}(hm:m r=some l)(ho:H.obj r=.row R):l.base=0:=by
 obtain⟨o,hb,hk⟩:=rh.ok r l hm
 rw[ho]at hk
 cases o with
 |cells cs ty fr=>exact hk.1.2
 |_=>exact hk.elim
theorem Ps(rh:RH m H w){r off:Nat}{v:Value}{l:Loc}(h:H.cell r off=some v)(hm:m r=some l)(hl:l.lo≤off):
 ∃v',w.cell? ⟨l.c,l.base +(off -l.lo),none⟩=some v'∧VR m v v':=by
 (replace h:=ae h;obtain⟨R,hR,h⟩:=h)
 (replace h:=aB h;obtain⟨hg,h⟩:=h)
 cases h
 obtain⟨cs,fr,hb,_,_,_,_,_,h6⟩:=row_of rh hm (iN hR)
 obtain⟨v',hv,hr⟩:=h6 off hl (Nat.le_of_ble_eq_true hg)
 exact⟨v',by rw[cell_of hb,hv],hr⟩
theorem xg(rh:RH m H w){r off k:Nat}{vs:List Value}{l:Loc}(h:H.read r off k=some vs)(hm:m r=some l)(hl:l.lo≤off):
 ∃vs',bP m vs vs'∧vs'.length=k∧∀j v,vs'[j]?=some v→w.cell? ((⟨l.c,l.base +(off -l.lo),none⟩:Addr).add j)=some v:=by
 cases k with
 |zero=>cases h;exact⟨[],.nil,rfl,by simp⟩
 |succ k=>
  replace h:(ah (jy (H.obj r)) fun w=>gd (Nat.ble (Nat.add off (k +1)) w.n) (some (Tr.vz top w.cells off (k +1))))=some vs:=h
  (replace h:=ae h;obtain⟨R,hR,h⟩:=h)
  (replace h:=aB h;obtain⟨hg,h⟩:=h)
  cases h
  have hg:off +(k +1)≤R.n:=Nat.le_of_ble_eq_true hg
  obtain⟨cs,fr,hb,_,_,_,_,_,h6⟩:=row_of rh hm (iN hR)
  have key:∀n i,i +n=k +1→∃vs',bP m (Tr.vz top R.cells (off +i) n) vs'∧vs'.length=n∧∀j v,vs'[j]?=some v→w.cell? ((⟨l.c,l.base +(off -l.lo),none⟩:Addr).add (i +j))=some v:=by
   intro n
   induction n with
   |zero=>intro i _;exact⟨[],.nil,rfl,by simp⟩
   |succ n ih=>
    intro i hi
    obtain⟨vs',h1,h2,h3⟩:=ih (i +1) aa
    obtain⟨v',hv,hr⟩:=h6 (off +i) aa aa
    refine⟨v'::vs',.cons _ _ _ _ hr h1,by simp[h2],?_⟩
    intro j v hj
    cases j with
    |zero=>
     simp at hj;subst hj
     rw[qj l off _ hl,cell_of hb]
     exact hv
    |succ j=>
     have:=h3 j v (by simpa using hj)
     rw[show i +(j +1)=i +1 +j from by omega]
     exact this
  obtain⟨vs',h1,h2,h3⟩:=key (k +1) 0 aa
  exact⟨vs',h1,h2,fun j v hj=>by have:=h3 j v hj;rwa [Nat.zero_add]at this⟩
theorem kL(rh:RH m H w){r off k:Nat}{vs:List Value}{l:Loc}(h:H.read r off k=some vs)(hm:m r=some l)(hl:l.lo≤off):
 ∃vs',bP m vs vs'∧vs'.length=k∧(loadCells ⟨l.c,l.base +(off -l.lo),none⟩ k).run P w=.ok ⟨vs'⟩ w:=by
 obtain⟨vs',h1,h2,h3⟩:=xg rh h hm hl
 refine⟨vs',h1,h2,?_⟩
 rw[←h2]
 exact run_loadCells_list w _ vs' h3
theorem GL(rh:RH m H w){t:TypeId}{x x' v:Value}{H':ag}(h:jg P t x H=some (v,H'))(hx:VR m x x'):
 H'=H∧∃v',VR m v v'∧(Instr.loadAt t x').run P w=.ok v' w:=by
 (replace h:=ae h;obtain⟨a,ha,h⟩:=h)
 (replace h:=ae h;obtain⟨l0,hl0,h⟩:=h)
 rw[dS ha]at hx
 obtain⟨l,hm,hlo,hsp,rfl⟩:=hx.gL
 obtain⟨d,i,hd,hi,hk⟩:=EP hl0
 rcases hk with⟨hag,rfl⟩|⟨hag,rfl⟩
 ·replace h:(ah (H.read a.block a.off i.size) fun vs=>some (Value.agg ⟨vs⟩,H))=some (v,H'):=h
  (replace h:=ae h;obtain⟨vs,hvs,h⟩:=h)
  cases h
  obtain⟨vs',h1,h2,h3⟩:=kL (P:=P) rh hvs hm hlo
  exact⟨rfl,.agg ⟨vs'⟩,.agg _ _ h1,by simp[Instr.loadAt,Instr.sureAddr,loadVar,jG hd,hag,bG hi,h3]⟩
 ·replace h:(ah (H.cell a.block a.off) fun v=>some (v,H))=some (v,H'):=h
  (replace h:=ae h;obtain⟨u,hu,h⟩:=h)
  cases h
  obtain⟨v',h1,h2⟩:=Ps rh hu hm hlo
  exact⟨rfl,v',h2,by simp[Instr.loadAt,Instr.sureAddr,loadVar,jG hd,hag,h1]⟩
theorem BA(w:World)(c k:Nat)(v:Value)(cs:Array Value)(ty:TypeId)(fr:Nat×Nat)(h:w.heap[c]?=some (.cells cs ty fr)):
 (w.setCell ⟨c,k,none⟩ v).heap[c]?=some (.cells (cs.setIfInBounds k v) ty fr):=by
 simp only[World.setCell]
 rw[Array.getElem?_modify]
 first|done|simp[h]
theorem zH(w:World)(c k:Nat)(v:Value)(c':Nat)(h:c'≠c):(w.setCell ⟨c,k,none⟩ v).heap[c']?=w.heap[c']?:=by
 simp only[World.setCell]
 rw[Array.getElem?_modify,if_neg (Ne.symm h)]
theorem lF(c o:Nat)(ty:TypeId)(fr:Nat×Nat):∀(vs:List Value)(i:Nat)(cs:Array Value)(w:World),w.heap[c]?=some (.cells cs ty fr)→
 (∀v∈vs,v.oneCell'=true)→o +i +vs.length≤cs.size→(∀j,fr.1≤j→j<fr.2→j<cs.size→j<o +i)→
 ∃w' cs',(storeCells ⟨c,o,none⟩ vs i).run P w=.ok () w'∧w'.heap[c]?=some (.cells cs' ty fr)∧cs'.size=cs.size∧
  (∀j,cs'[j]?=if o +i≤j∧j<o +i +vs.length then vs[j -(o +i)]? else cs[j]?)∧(∀c',c'≠c→w'.heap[c']?=w.heap[c']?)∧w'.heap.size=w.heap.size∧
  w'.os=w.os∧w'.tape=w.tape∧w'.output=w.output:=by
 intro vs
 induction vs with
 |nil=>
  intro i cs w hb _ _ _
  refine⟨w,cs,by simp[storeCells],hb,rfl,?_,fun _ _=>rfl,rfl,rfl,rfl,rfl⟩
  intro j
  rw[if_neg (by simp only[List.length_nil];omega)]
 |cons v vs ih=>
  intro i cs w hb hone hsz hfr
  have hlen:o +i<cs.size:=by simp at hsz;omega
  have hadd:(⟨c,o,none⟩:Addr).add i=⟨c,o +i,none⟩:=by
   unfold Addr.add
   split
   ·next h0=>rw[h0,Nat.add_zero]
   ·rfl
  have hcell:w.cell? ⟨c,o +i,none⟩=some cs[o +i]:=by rw[cell_of hb,Array.getElem?_eq_getElem hlen]
  have hfz:w.frozen? ⟨c,o +i,none⟩=false:=by
   simp only[World.frozen?,hb]
   rw[←Bool.not_eq_true,Bool.and_eq_true]
   rintro⟨a,b⟩
   have:=hfr (o +i) (by simpa using a) (by simpa using b) hlen
   omega
  have hst:(store ((⟨c,o,none⟩:Addr).add i) v).run P w=.ok () (w.setCell ⟨c,o +i,none⟩ v):=by
   rw[hadd,run_store P w _ v .plain (hone v (by simp)),hcell]
   simp[hfz]
  obtain⟨w',cs',h1,h2,h3,h4,h5,h6,h7,h8,h9⟩:=ih (i +1) (cs.setIfInBounds (o +i) v) (w.setCell ⟨c,o +i,none⟩ v) (BA w c (o +i) v cs ty fr hb)
   (fun u hu=>hone u (by simp[hu])) (by simp at hsz⊢;omega) (fun j a b d=>by have:=hfr j a b (by simpa using d);omega)
  refine⟨w',cs',?_,h2,by rw[h3];simp,?_,?_,by rw[h6];simp,h7,h8,h9⟩
  ·simp only[storeCells,Sem.run_bind,hst,Result.andThen_ok]
   exact h1
  ·intro j
   rw[h4 j]
   by_cases e:j=o +i
   ·subst e
    rw[if_neg aa,if_pos (by simp)]
    simp[hlen]
   ·by_cases g:o +(i +1)≤j∧j<o +(i +1) +vs.length
    ·rw[if_pos g,if_pos (by simp;omega),show j -(o +i)=(j -(o +(i +1))) +1 from by omega]
     rfl
    ·rw[if_neg g,if_neg (by simp;omega)]
     simp[Array.getElem?_setIfInBounds_ne (Ne.symm e)]
  ·intro c' hc'
   rw[h5 c' hc',zH _ _ _ _ _ hc']
theorem E6{v v':Value}(h:VR m v v')(hs:aN v=true):v'.oneCell'=true:=by
 obtain⟨_,h1,h2⟩:=h.aN hs
 cases v'<;>first|rfl|exact absurd rfl (h1 _)|exact absurd rfl (h2 _)
theorem oW:∀{vs vs':List Value},bP m vs vs'→vs.all aN=true→∀v∈vs',v.oneCell'=true:=by
 intro vs
 induction vs with
 |nil=>intro vs' h _;cases h;simp
 |cons v vs ih=>
  intro vs' h ha
  cases h with
  |cons _ v' _ r' hv hr=>
   simp at ha
   intro u hu
   rcases List.mem_cons.1 hu with rfl|hu
   ·exact E6 hv ha.1
   ·exact ih hr (by simpa using ha.2) u hu
theorem oZ(rh:RH m H w){r off:Nat}{vs vs':List Value}{l:Loc}{H':ag}(h:H.write r off vs=some H')(hv:bP m vs vs')(hm:m r=some l)(hl:l.lo≤off):
 ∃w',(storeCells ⟨l.c,l.base +(off -l.lo),none⟩ vs').run P w=.ok () w'∧RH m H' w'∧Ex m m H H' w w':=by
 cases hv with
 |nil=>cases h;exact⟨w,by simp[storeCells],rh,Ex.refl _ _ _⟩
 |cons v v' x x' hvv zy=>
  have hv:bP m (v::x) (v'::x'):=.cons _ _ _ _ hvv zy
  replace h:(ah (jy (H.obj r)) fun w=>
   gd (!w.bX&&Nat.ble (Nat.add off (len (v::x))) w.n&&Nat.ble w.fz off&&all' aN (v::x))
   (some (H.put r (.row ⟨w.ty,Tr.iH top (v::x) off w.cells,w.n,false,w.fz⟩))))=some H':=h
  (replace h:=ae h;obtain⟨R,hR,h⟩:=h)
  (replace h:=aB h;obtain⟨hg,h⟩:=h)
  cases h
  have zz:=iN hR
  simp only[Bool.and_eq_true,aJ,all_eq]at hg
  obtain⟨⟨⟨g0,g1⟩,g2⟩,g3⟩:=hg
  have g1:off +(v::x).length≤R.n:=Nat.le_of_ble_eq_true g1
  have g2:=Nat.le_of_ble_eq_true g2
  obtain⟨cs,fr,hb,hnn,h2,h3,h4,h5,h6⟩:=row_of rh hm zz
  have hlen:(v'::x').length=(v::x).length:=(bP.length hv).symm
  obtain⟨w',cs',e1,e2,e3,e4,e5,e6,e7,e8,e9⟩:=lF (P:=P) l.c (l.base +(off -l.lo)) R.ty fr (v'::x') 0 cs w hb (oW hv g3) (by rw[hlen];omega)
   (fun j a b d=>by have:=h5 (by simpa using g0);omega)
  have hu:=RH.update rh r l (.row ⟨R.ty,Tr.iH top (v::x) off R.cells,R.n,false,R.fz⟩) (.cells cs' R.ty fr) hm (by rw[zz];simp) ?_ e2 e6 e5 e7 e8 e9
  ·exact⟨w',e1,hu.1,hu.2⟩
  ·refine⟨⟨rfl,base_of rh hm zz⟩,hnn,by rw[e3];exact h2,h3,h4,fun _=>h5 (by simpa using g0),?_⟩
   intro i a b
   rw[Tr.cz]
   by_cases hin:off≤i∧i<off +(v::x).length
   ·have hgi:(v::x)[i -off]?=some ((v::x).getD (i -off) top):=by
     rw[List.getD_eq_getElem?_getD,List.getElem?_eq_getElem aa];rfl
    obtain⟨u,hu1,hu2⟩:=hv.get (i -off) hgi
    refine⟨u,?_,by rw[if_pos hin];exact hu2⟩
    rw[e4,if_pos (by rw[hlen];omega),show l.base +(i -l.lo) -(l.base +(off -l.lo) +0)=i -off from by omega]
    exact hu1
   ·obtain⟨u,hu1,hu2⟩:=h6 i a b
    refine⟨u,?_,by rw[if_neg hin];exact hu2⟩
    rw[e4,if_neg (by rw[hlen];omega)]
    exact hu1
theorem Ll(rh:RH m H w){t:TypeId}{x x' y y' v:Value}{H':ag}(h:lg P t x y H=some (v,H'))(hx:VR m x x')(hy:VR m y y'):
 v=undef∧∃w',(Instr.storeAt t x' y').run P w=.ok () w'∧RH m H' w'∧Ex m m H H' w w':=by
 (replace h:=ae h;obtain⟨a,ha,h⟩:=h)
 (replace h:=ae h;obtain⟨s,hs,h⟩:=h)
 (replace h:=aB h;obtain⟨hg,h⟩:=h)
 (replace h:=ae h;obtain⟨H1,hH1,h⟩:=h)
 cases h
 obtain⟨i,hi,rfl⟩:=fM hs
 rw[dS ha]at hx
 obtain⟨l,hm,hlo,hsp,rfl⟩:=hx.gL
 have hlen:=Nat.eq_of_beq_eq_true hg
 rw[aJ]at hlen
 have hnt:y≠top:=by
  intro e
  subst e
  replace hH1:(ah (jy (H.obj a.block)) fun w=>
   gd (!w.bX&&Nat.ble (Nat.add a.off (len [top])) w.n&&Nat.ble w.fz a.off&&all' aN [top])
   (some (H.put a.block (.row ⟨w.ty,Tr.iH top [top] a.off w.cells,w.n,false,w.fz⟩))))=some H':=hH1
  have h:=hH1
  (replace h:=ae h;obtain⟨R,hR,h⟩:=h)
  (replace h:=aB h;obtain⟨hg,h⟩:=h)
  simp[all_eq,aN,top]at hg
 have hc:=nR hy hnt
 obtain⟨w',e1,e2,e3⟩:=oZ (P:=P) rh hH1 hc hm hlo
 refine⟨rfl,w',?_,e2,e3⟩
 have hsz:y'.cells.size=i.size:=by rw[oV];show(ax y').length=_;rw[←hc.length,hlen]
 have hcl:y'.cells.toList=ax y':=(qh y').symm
 simp only[Instr.storeAt,Instr.sureAddr,storeVar,Sem.run_bind,Sem.run_pure,Result.andThen_ok,bG hi,hsz,ne_eq,not_true_eq_false,if_false,hcl]
 exact e1
def iq(P:Program)(m:Mp)(H:ag)(w:World)(s:Sem Value)(v:Value)(H':ag):Prop:=
 ∃m' cv w',s.run P w=.ok cv w'∧VR m' v cv∧RH m' H' w'∧Ex m m' H H' w w'
theorem Jg{ty:TypeId}{vs vs':List Value}(hv:bP m vs vs')(c:Nat):iJ m ⟨c,0,0,vs'.length,vs.length⟩ (rowOf ty vs) (.cells ⟨vs'⟩ ty):=by
 refine⟨⟨rfl,rfl⟩,aJ vs,rfl,Nat.zero_le _,?_,?_,?_⟩
 ·show 0 +(len vs -0)≤vs'.length
  rw[aJ,hv.length];omega
 ·intro _;exact Nat.zero_le _
 ·intro i a b
  have b:i<len vs:=b
  rw[aJ]at b
  rw[show(Tr.iH top vs 0 .nil).get top i=vs.getD i top from by rw[Tr.cz,if_pos aa];rfl]
  have hgi:vs[i]?=some (vs.getD i top):=by rw[List.getD_eq_getElem?_getD,List.getElem?_eq_getElem b];rfl
  obtain⟨u,h1,h2⟩:=hv.get i hgi
  exact⟨u,by simpa using h1,h2⟩
theorem ql(rh:RH m H w){ty:TypeId}{vs vs':List Value}(hv:bP m vs vs'):
 ∃l m',m' H.next=some l∧l.c=w.heap.size∧l.lo=0∧l.base=0∧l.tot=vs'.length∧l.n=vs.length∧(newRow ty ⟨vs'⟩).run P w=.ok ⟨w.heap.size,0,none⟩ (w.alloc (.cells ⟨vs'⟩ ty))∧
  RH m' (H.new (rowOf ty vs)) (w.alloc (.cells ⟨vs'⟩ ty))∧Ex m m' H (H.new (rowOf ty vs)) w (w.alloc (.cells ⟨vs'⟩ ty)):=by
 have:=rh.alloc (rowOf ty vs) (.cells ⟨vs'⟩ ty) 0 0 vs'.length vs.length (Jg hv _)
 refine⟨⟨w.heap.size,0,0,vs'.length,vs.length⟩,_,?_,rfl,rfl,rfl,rfl,rfl,?_,this.1,this.2⟩
 ·simp[Mp.add]
 ·simp[newRow]
theorem BB{m':Mp}{n:Nat}{l:Loc}(h:m' n=some l)(h1:l.lo=0)(h2:l.base=0):VR m' (xF n) (.pointer (some ⟨l.c,0,none⟩)):=by
 have:=VR.ptr (m:=m') n 0 l h aa
 rw[h1,h2]at this
 exact this
theorem Lm(rh:RH m H w){e:TypeId}{v:Value}{H':ag}(h:oU P e H=some (v,H')):iq P m H w (Instr.alloc e true (.tuple #[])) v H':=by
 (replace h:=ae h;obtain⟨z,hz,h⟩:=h)
 cases h
 obtain⟨i,z0,hi,hz0,Li,hlen,hs⟩:=kR hz
 obtain⟨l,m',a1,a2,a3,a4,a5,a9,a6,a7,a8⟩:=ql (P:=P) (ty:=e) rh (bP.dD (m:=m) hs)
 refine⟨m',_,_,?_,BB a1 a3 a4,a7,a8⟩
 have hzc:z0.cells=⟨z⟩:=by rw[Li]
 simp only[Instr.alloc,newVar,Sem.run_bind,lz hi hz0,Result.andThen_ok,hzc,a6,Sem.run_pure,a2]
theorem SY(rh:RH m H w){e:TypeId}{x x' v:Value}{H':ag}(h:Bi e x H=some (v,H'))(hx:VR m x x'):iq P m H w (Instr.box e x') v H':=by
 (replace h:=aB h;obtain⟨hg,h⟩:=h)
 cases h
 obtain⟨l,m',a1,a2,a3,a4,a5,a9,a6,a7,a8⟩:=ql (P:=P) (ty:=e) rh (nR hx (Ag hg))
 refine⟨m',_,_,?_,BB a1 a3 a4,a7,a8⟩
 simp only[Instr.box,newVar,Sem.run_bind,Result.andThen_ok,oV,a6,Sem.run_pure,a2]
end mem
section mem
variable{P:Program}{m:Mp}{H:ag}{w:World}
theorem Lp(z:List Value):∀n,(jf z n).length=n*z.length:=by
 intro n
 induction n with
 |zero=>show([]:List Value).length=_;simp
 |succ n ih=>show(app z (jf z n)).length=_;rw[fV,List.length_append,ih,Nat.succ_mul];omega
theorem Lr(z:List Value):∀n i,i<n*z.length→(jf z n)[i]?=z[i %z.length]?:=by
 intro n
 induction n with
 |zero=>intro i h;omega
 |succ n ih=>
  intro i h
  rw[show jf z (n +1)=z++jf z n from fV _ _]
  by_cases hi:i<z.length
  ·rw[List.getElem?_append_left hi,Nat.mod_eq_of_lt hi]
  ·rw[List.getElem?_append_right aa,ih _ (by rw[Nat.succ_mul]at h;omega),←Nat.mod_eq_sub_mod aa]
theorem xU(z:List Value)(n:Nat):((Array.range (n*z.length)).map fun i=>(⟨z⟩:Array Value)[i %(⟨z⟩:Array Value).size]!)=⟨jf z n⟩:=by
 rw[←Array.toList_inj]
 apply List.ext_getElem?
 intro i
 simp only[Array.toList_map,Array.toList_range]
 by_cases hi:i<n*z.length
 ·rw[Lr z n i hi,List.getElem?_map,List.getElem?_range hi]
  have hz:0<z.length:=by
   rcases Nat.eq_zero_or_pos z.length with h0|h0
   ·rw[h0]at hi;omega
   ·exact h0
  have hm:i %z.length<z.length:=Nat.mod_lt _ hz
  simp[List.getElem?_eq_getElem hm,hm]
 ·rw[List.getElem?_eq_none (by simpa using hi),List.getElem?_eq_none (by rw[Lp];omega)]
theorem uP{z:List Value}(h:z.all dD=true):∀n,(jf z n).all dD=true:=by
 intro n
 induction n with
 |zero=>rfl
 |succ n ih=>rw[show jf z (n +1)=z++jf z n from fV _ _,List.all_append,h,ih];rfl
theorem Ls{m':Mp}{n k c:Nat}{l:Loc}(h:m' n=some l)(h1:l.lo=0)(h2:l.base=0)(hc:aP c=true)(hkc:k≤c):VR m' (.slice (some ⟨n,0,none⟩) k c) (.slice (some ⟨l.c,0,none⟩) k c):=by
 have:=VR.slice (m:=m') n 0 k c l h aa hc hkc
 rw[h1,h2]at this
 exact this
theorem E7(rh:RH m H w){t:TypeId}{n:Nat}{ps ps':List (Nat×Value)}{v:Value}{H':ag}(h:h_ P t n ps H=some (v,H'))(hp:Q6 m ps ps'):
 iq P m H w (Instr.buildSlice t n ⟨ps'⟩) v H':=by
 (replace h:=ae h;obtain⟨q,hq,h⟩:=h)
 (replace h:=ae h;obtain⟨z,hz,h⟩:=h)
 (replace h:=aB h;obtain⟨hg,h⟩:=h)
 (replace h:=ae h;obtain⟨cs,hcs,h⟩:=h)
 cases h
 obtain⟨hu,⟨inf,iD,hsz⟩,hq1⟩:=lu hq
 obtain⟨i,z0,hi,hz0,Li,hlen,hs⟩:=kR hz
 rw[iD]at hi;cases hi
 have hg:=Nat.le_of_ble_eq_true hg
 have hg:n*q.2≤16777216:=hg
 have hrep:bP m (jf z n) (jf z n):=bP.dD (uP hs n)
 obtain⟨cs',hcs',hr⟩:=Bz _ ps ps' _ _ cs hcs hp hrep
 obtain⟨l,m',a1,a2,a3,a4,a5,a9,a6,a7,a8⟩:=ql (P:=P) (ty:=q.1) rh hr
 have hk:aP n=true:=by
  refine Nat.ble_eq_true_of_le ?_
  have:n*1≤n*q.2:=Nat.mul_le_mul_left n hq1
  omega
 refine⟨m',_,_,?_,Ls a1 a3 a4 hk aa,a7,a8⟩
 have hzc:z0.cells=⟨z⟩:=by rw[Li]
 have Q7:Instr.fill (fun k=>some (k*q.2,q.2)) ⟨jf z n⟩ ps'=some ⟨cs'⟩:=hcs'
 have Z5:¬(n*q.2>2^24):=by omega
 have harr:=xU z n
 rw[hlen,hsz]at harr
 by_cases h0:n*q.2=0
 ·have hn:n=0:=by
   rcases Nat.eq_zero_or_pos n with e|e
   ·exact e
   ·have:=Nat.mul_pos e (show 0<q.2 from hq1);omega
  subst hn
  have S7:Instr.fill (fun k=>some (k*q.2,q.2)) #[] ps'=some ⟨cs'⟩:=Q7
  have e0:∀f:Nat→Value,Array.map f (Array.range 0)=#[]:=fun f=>by simp
  simp[Instr.buildSlice,aA hu,bG iD,hsz,S7,a6,a2,e0]
 ·simp only[Instr.buildSlice,Sem.run_bind,aA hu,Result.andThen_ok,bG iD,hsz,Z5,if_false,h0,lz iD hz0,hzc,Sem.run_pure,harr,Q7,a6,a2]
theorem BC(rh:RH m H w){t:TypeId}{x y x' y' v:Value}{H':ag}(h:fB P t x y H=some (v,H'))(hx:VR m x x')(hy:VR m y y'):
 iq P m H w (Instr.makeSlice t x' y') v H':=by
 (replace h:=ae h;obtain⟨q,hq,h⟩:=h)
 (replace h:=ae h;obtain⟨i0,hi0,h⟩:=h)
 (replace h:=ae h;obtain⟨z,hz,h⟩:=h)
 (replace h:=ae h;obtain⟨n,hn,h⟩:=h)
 (replace h:=ae h;obtain⟨c,hc,h⟩:=h)
 (replace h:=aB h;obtain⟨hg,h⟩:=h)
 cases h
 obtain⟨hu,⟨inf,iD,hsz⟩,hq1⟩:=lu hq
 obtain⟨i,z0,hi,hz0,Li,hlen,hs⟩:=kR hz
 rw[iD]at hi;cases hi
 have hi0:P.info? q.1=some i0:=hi0
 rw[iD]at hi0;cases hi0
 obtain⟨k1,rfl⟩:=p9 hn
 obtain⟨k2,rfl⟩:=p9 hc
 have:=hx.of_int;subst this
 have:=hy.of_int;subst this
 simp only[Bool.and_eq_true]at hg
 have g1:=Nat.le_of_ble_eq_true hg.1.1
 have g2:=Nat.le_of_ble_eq_true hg.1.2
 have g3:=Nat.le_of_ble_eq_true hg.2
 obtain⟨l,m',a1,a2,a3,a4,a5,a9,a6,a7,a8⟩:=ql (P:=P) (ty:=q.1) rh (bP.dD (m:=m) (uP hs c))
 have hk:aP c=true:=Nat.ble_eq_true_of_le aa
 refine⟨m',_,_,?_,Ls a1 a3 a4 hk aa,a7,a8⟩
 have hzc:z0.cells=⟨z⟩:=by rw[Li]
 have harr:=xU z c
 rw[hlen]at harr
 have w1:IntKind.i64.wrap (n:Int)=n:=IntWalk.i64_in _ aa
 have w2:IntKind.i64.wrap (c:Int)=c:=IntWalk.i64_in _ aa
 have hb1:i0.bytes*c≤1048576*16777216:=Nat.mul_le_mul g3 g2
 have hlt:¬((2:Int)^48<(i0.bytes:Int)*(c:Int)):=by
  have:(i0.bytes:Int)*(c:Int)=((i0.bytes*c:Nat):Int):=by simp
  rw[this];omega
 by_cases h0:c*q.2=0
 ·have hn:c=0:=by
   rcases Nat.eq_zero_or_pos c with e|e
   ·exact e
   ·have:=Nat.mul_pos e (show 0<q.2 from hq1);omega
  subst hn
  have hnn:n=0:=by omega
  subst hnn
  have a6':(newRow q.1 #[]).run P w=.ok ⟨w.heap.size,0,none⟩ (w.alloc (.cells #[] q.1)):=a6
  have w0:IntKind.i64.wrap 0=0:=IntWalk.i64_in _ aa
  have e0:∀f:Nat→Value,Array.map f (Array.range 0)=#[]:=fun f=>by simp
  simp[Instr.makeSlice,aA hu,asInt,asIntOf,jZ iD,w0,bG iD,hsz,a2]
  rw[e0,a6']
  rfl
 ·have Vd:Array.map (fun x=>z[x %z.length]?.getD default) (Array.range (c*q.2))=⟨jf z c⟩:=by
   rw[←harr,hsz]
   congr 1
   funext x
   simp
  have hcond:¬((((c:Int)<0∨281474976710656<(i0.bytes:Int)*(c:Int))∨(n:Int)<0)∨c<n):=by
   rintro(((h|h)|h)|h)
   ·omega
   ·exact hlt h
   ·omega
   ·omega
  simp[Instr.makeSlice,aA hu,asInt,asIntOf,jZ iD,w1,w2,bG iD,hsz,h0,lz iD hz0,hzc,a2]
  rw[if_neg hcond,Vd,a6]
  rfl
end mem
section mem
variable{P:Program}{m:Mp}{H:ag}{w:World}
theorem oJ.length{l:List (Value×Value)}{l':List MapEntry}(h:oJ m l l'):l.length=l'.length:=by
 induction h with
 |nil=>rfl
 |cons _ _ _ _ _ _ _ _ ih=>simp[ih]
theorem E8{t:TypeId}{d:TypeDesc}{v:Value}(hd:P.underlying t=some d)(h1:1≤gF d)(em:Bool)(n:Nat)(w:World):(Instr.checkKey em (n +1) t v).run P w=.ok () w:=by
 rcases uO h1 with⟨kk,rfl⟩|rfl|rfl<;>simp[Instr.checkKey,aA hd]
theorem Jh:∀(fs:List Field)(k:Nat)(ks:List Nat)(X':List Value),f_ P fs k=some ks→k +fs.length≤X'.length→
 ∀f∈fs,f.name≠ "_" ∧∀(em:Bool) n w,∃a,(part f.type ⟨X'⟩ f.offset).run P w=.ok a w∧(Instr.checkKey em (n +1) f.type a).run P w=.ok () w:=by
 intro fs
 induction fs with
 |nil=>intro k ks X' _ _ f hf;cases hf
 |cons f fs ih=>
  intro k ks X' hk hl g hg
  obtain⟨d,r,hd,hr,ho,hn,h1,rfl⟩:=iP hk
  rcases List.mem_cons.1 hg with rfl|hg
  ·refine⟨hn,fun em n w=>?_⟩
   have hlt:g.offset<X'.length:=by rw[ho];simp at hl;omega
   exact⟨_,kT hd (ni h1) (List.getElem?_eq_getElem hlt),E8 hd h1 em n w⟩
  ·exact ih (k +1) r X' hr (by simp at hl;omega) g hg
theorem vH:∀(ks:List Nat)(xs ys:List Value)(b:Bool),fI ks xs ys=some b→b=true→xs.length=ks.length:=by
 intro ks
 induction ks with
 |nil=>
  intro xs ys b h hb
  cases xs with
  |nil=>rfl
  |cons _ _=>cases h
 |cons k ks ih=>
  intro xs ys b h hb
  obtain⟨x,xr,y,yr,c,rfl,rfl,hce,hcase⟩:=kJ h
  rcases hcase with⟨_,hr⟩|⟨_,hbf⟩
  ·simp[ih xr yr b hr hb]
  ·rw[hb]at hbf;cases hbf
theorem xV:∀(fs:List Field)(k:Nat)(ks:List Nat),f_ P fs k=some ks→ks.length=fs.length:=by
 intro fs
 induction fs with
 |nil=>intro k ks h;cases h;rfl
 |cons f fs ih=>
  intro k ks h
  obtain⟨d,r,hd,hr,ho,hn,h1,rfl⟩:=iP h
  simp[ih _ _ hr]
theorem o7{t:TypeId}{x x':Value}(h:gG P t x x=some true)(hx:VR m x x')(em:Bool)(n:Nat)(w:World):(Instr.checkKey em (n +2) t x').run P w=.ok () w:=by
 (replace h:=ae h;obtain⟨q,hq,h⟩:=h)
 rcases uN hq with⟨d,hd,rfl,h1⟩|⟨fs,ks,hu,hs,hk,rfl⟩|⟨c,e,d,i,hu,he,hi,hsz,h1,rfl⟩
 ·exact E8 hd h1 em (n +1) w
 ·replace h:(ah (jq x) fun a=>ah (jq x) fun b=>fI ks a b)=some true:=h
  (replace h:=ae h;obtain⟨xs,hxs,h⟩:=h)
  (replace h:=ae h;obtain⟨ys,hys,h⟩:=h)
  rw[iC hxs]at hx
  obtain⟨xs',rfl,oI⟩:=hx.jF
  have hlen:0 +fs.length≤xs'.length:=by
   rw[←oI.length,vH ks xs ys true h rfl,xV fs 0 ks hk];omega
  have each:=Jh fs 0 ks xs' hk hlen
  rw[Instr.checkKey]
  simp only[Sem.run_bind,aA hu,Result.andThen_ok]
  rw[←Array.forIn_toList]
  simp only[]
  clear hk hq hlen hu
  generalize fs=L at each
  induction L with
  |nil=>simp
  |cons f L ih=>
   obtain⟨hn,hp⟩:=each f (by simp)
   obtain⟨a,p1,p2⟩:=hp em n w
   simp only[List.forIn_cons,Sem.run_bind,hn,ne_eq,not_false_eq_true,if_true,Result.andThen_ok,p1,p2,Sem.run_pure]
   exact ih (fun y hy=>each y (by simp[hy]))
 ·replace h:(ah (jq x) fun a=>ah (jq x) fun b=>fI (List.replicate c (gF d)) a b)=some true:=h
  (replace h:=ae h;obtain⟨xs,hxs,h⟩:=h)
  (replace h:=ae h;obtain⟨ys,hys,h⟩:=h)
  rw[iC hxs]at hx
  obtain⟨xs',rfl,oI⟩:=hx.jF
  have hlen:xs'.length=c:=by
   rw[←oI.length,vH _ xs ys true h rfl];simp
  rw[Instr.checkKey]
  simp only[Sem.run_bind,aA hu,Result.andThen_ok]
  simp only[Std.Legacy.Range.forIn_eq_forIn_range',Std.Legacy.Range.size,Nat.sub_zero,Nat.add_one_sub_one,Nat.div_one]
  have each:∀j∈List.range' 0 c,∃a,(part e ⟨xs'⟩ (j*i.size)).run P w=.ok a w∧(Instr.checkKey em (n +1) e a).run P w=.ok () w:=by
   intro j hj
   have hj:j<xs'.length:=by rw[hlen];simpa using hj
   refine⟨xs'[j],?_,E8 he h1 em n w⟩
   rw[hsz,Nat.mul_one]
   exact kT he (ni h1) (List.getElem?_eq_getElem hj)
  clear hlen hq h hu
  generalize List.range' 0 c=L at each
  induction L with
  |nil=>simp
  |cons j L ih=>
   obtain⟨a,p1,p2⟩:=each j (by simp)
   simp only[List.forIn_cons,Sem.run_bind,bG hi,Result.andThen_ok,p1,p2,Sem.run_pure]
   exact ih (fun y hy=>each y (by simp[hy]))
theorem xW{d:TypeDesc}{x y x' y':Value}{b:Bool}{t:TypeId}(hd:P.underlying t=some d)(h:iQ (gF d) x y=some b)(hx:VR m x x')(hy:VR m y y'):Instr.sameNow d x' y'=some b:=by
 obtain⟨rfl,rfl,_⟩:=kS (t:=t) hd h hx hy
 cases d<;>simp only[gF]at h
 case int k=>
  replace h:(ah (gW x') fun a=>ah (gW y') fun b=>gd (Nat.beq (fT a.1) (fT b.1)) (some (Kw a.2 b.2)))=some b:=h
  (replace h:=ae h;obtain⟨p,hp,h⟩:=h)
  (replace h:=ae h;obtain⟨q,hq,h⟩:=h)
  (replace h:=aB h;obtain⟨hk,h⟩:=h)
  cases h
  rw[eT hp,eT hq]
  have hk:=ng hk
  simp[Instr.sameNow,hk,xM]
 case bool=>
  replace h:(ah (bE x') fun a=>ah (bE y') fun b=>some (oz a b))=some b:=h
  (replace h:=ae h;obtain⟨p,hp,h⟩:=h)
  (replace h:=ae h;obtain⟨q,hq,h⟩:=h)
  cases h
  rw[eF hp,eF hq]
  simp[Instr.sameNow,xN]
 case string=>
  replace h:(ah (gX x') fun a=>ah (gX y') fun b=>some (gY a b))=some b:=h
  (replace h:=ae h;obtain⟨p,hp,h⟩:=h)
  (replace h:=ae h;obtain⟨q,hq,h⟩:=h)
  cases h
  rw[dU hp,dU hq]
  simp[Instr.sameNow,lD,beq_toListBytes]
 all_goals cases h
def E9(m:Mp):Option (Nat×Value)→Option (Nat×Value)→Prop
 |none,none=>True
 |some p,some q=>p.1=q.1∧VR m p.2 q.2
 |_,_=>False
theorem rA{kt:TypeId}{k:Value}{e:Value×Value}{es:List (Value×Value)}{i:Nat}{r:Option (Nat×Value)}(h:jr P kt k (e::es) i=some r):
 (gG P kt k e.1=some true∧r=some (i,e.2))∨(gG P kt k e.1=some false∧jr P kt k es (i +1)=some r):=by
 replace h:(ah (gG P kt k e.1) fun b=>au b (some (some (i,e.2))) (jr P kt k es (i +1)))=some r:=h
 (replace h:=ae h;obtain⟨b,hb,h⟩:=h)
 cases b
 ·exact .inr ⟨hb,h⟩
 ·cases h;exact .inl ⟨hb,rfl⟩
theorem E_{kt:TypeId}{d:TypeDesc}{k k':Value}(hd:P.underlying kt=some d)(hq:UX P kt=some (.inl (gF d)))(hk:VR m k k'):∀{es:List (Value×Value)}{kz:List MapEntry},oJ m es kz→∀(i:Nat)(r:Option (Nat×Value)),
 jr P kt k es i=some r→∃r',Instr.findNow d k' kz i=some r'∧E9 m r r':=by
 intro es kz hes
 induction hes with
 |nil=>intro i r h;cases h;exact⟨none,rfl,trivial⟩
 |cons kk v e l l' hkk hv hl ih=>
  intro i r h
  have cellOf:∀b,gG P kt k kk=some b→iQ (gF d) k kk=some b:=by
   intro b hb
   unfold gG at hb
   rw[hq]at hb
   exact hb
  rcases rA h with⟨h1,rfl⟩|⟨h1,h2⟩
  ·have:=xW hd (cellOf _ h1) hk hkk
   exact⟨some (i,e.val),by simp[Instr.findNow,this],rfl,hv⟩
  ·have:=xW hd (cellOf _ h1) hk hkk
   obtain⟨r',h3,h4⟩:=ih (i +1) r h2
   exact⟨r',by simp[Instr.findNow,this,h3],h4⟩
theorem zI{kt:TypeId}{k k':Value}(hk:VR m k k')(w:World):∀{es:List (Value×Value)}{kz:List MapEntry},oJ m es kz→∀(i:Nat)(r:Option (Nat×Value)),
 jr P kt k es i=some r→∃r',(Instr.findAsking kt k' kz i).run P w=.ok r' w∧E9 m r r':=by
 intro es kz hes
 induction hes with
 |nil=>intro i r h;cases h;exact⟨none,rfl,trivial⟩
 |cons kk v e l l' hkk hv hl ih=>
  intro i r h
  rcases rA h with⟨h1,rfl⟩|⟨h1,h2⟩
  ·have:=xO h1 hk hkk w
   exact⟨some (i,e.val),by simp[Instr.findAsking,this],rfl,hv⟩
  ·have:=xO h1 hk hkk w
   obtain⟨r',h3,h4⟩:=ih (i +1) r h2
   exact⟨r',by simp[Instr.findAsking,this,h3],h4⟩
theorem rC{kt:TypeId}{k k':Value}{es:List (Value×Value)}{kz:List MapEntry}{r:Option (Nat×Value)}(hk:VR m k k')(hes:oJ m es kz)(h:jr P kt k es 0=some r)(hv:gG P kt k k=some true)(w:World):
 ∃r',(Instr.findKey kt k' kz).run P w=.ok r' w∧E9 m r r':=by
 have h0:=hv
 replace hv:(ah (UX P kt) fun q=>@Sum.rec Nat (List Nat) (fun _=>Option Bool) (fun n=>iQ n k k) (fun l=>ah (jq k) fun a=>ah (jq k) fun b=>fI l a b) q)=some true:=hv
 obtain⟨q,hq,hv'⟩:=ae hv
 have ask:=zI hk w hes 0 r h
 have und:∃d,P.underlying kt=some d:=by
  rcases uN hq with⟨d,hd,_⟩|⟨fs,ks,hu,_⟩|⟨c,e,d,i,hu,_⟩
  ·exact⟨_,hd⟩
  ·exact⟨_,hu⟩
  ·exact⟨_,hu⟩
 obtain⟨d,hd⟩:=und
 cases hfn:Instr.findNow d k' kz 0 with
 |none=>
  obtain⟨r',h1,h2⟩:=ask
  exact⟨r',by simp[Instr.findKey,aA hd,hfn,h1],h2⟩
 |some r0=>
  refine⟨r0,by simp[Instr.findKey,aA hd,hfn],?_⟩
  rcases uN hq with⟨d',hd',rfl,h1⟩|⟨fs,ks,hu,_,_,rfl⟩|⟨c,e,d',i,hu,_,_,_,_,rfl⟩
  ·rw[hd]at hd';cases hd'
   obtain⟨r',h3,h4⟩:=E_ hd hq hk hes 0 r h
   rw[hfn]at h3;cases h3;exact h4
  ·rw[hd]at hu;cases hu
   cases hes with
   |nil=>cases h;simp[Instr.findNow]at hfn;subst hfn;trivial
   |cons kk v e l l' hkk hv hl=>simp[Instr.findNow,Instr.sameNow]at hfn
  ·rw[hd]at hu;cases hu
   cases hes with
   |nil=>cases h;simp[Instr.findNow]at hfn;subst hfn;trivial
   |cons kk v e l l' hkk hv hl=>simp[Instr.findNow,Instr.sameNow]at hfn
end mem
section mem
variable{P:Program}{m:Mp}{H:ag}{w:World}
theorem xX{t:TypeId}{k:Value}{u:Unit}(h:qN P t k=some u):gG P t k k=some true:=by
 (replace h:=ae h;obtain⟨b,hb,h⟩:=h)
 (replace h:=aB h;obtain⟨hg,h⟩:=h)
 rw[hb,hg]
theorem iw{c:Nat}{es:Array MapEntry}{cl:Nat}(h:w.heap[c]?=some (.map es cl)):(getObj c).run P w=.ok (.map es cl) w:=by
 simp[getObj,Sem.run,h]
def qI(w:World)(c:Nat)(o:Obj):World:={w with heap:=w.heap.setIfInBounds c o}
theorem lG{c:Nat}{es es':Array MapEntry}{cl cl':Nat}(h:w.heap[c]?=some (.map es cl)):(setObj c (.map es' cl')).run P w=.ok () (qI w c (.map es' cl')):=by
 simp[setObj,Sem.run,h,qI]
theorem qm{c:Nat}{o o0:Obj}(h:w.heap[c]?=some o0):(qI w c o).heap[c]?=some o:=by
 have:=fO h
 simp[qI,this]
theorem qo{c c':Nat}{o:Obj}(h:c'≠c):(qI w c o).heap[c']?=w.heap[c']?:=by
 simp only[qI]
 exact Array.getElem?_setIfInBounds_ne (Ne.symm h)
theorem kV{c:Nat}{o:Obj}:(qI w c o).heap.size=w.heap.size:=by simp[qI]
theorem Fa(rh:RH m H w){t:TypeId}{r r':Option Value}{v:Value}{H':ag}(h:jW P t r H=some (v,H'))(hr:OR m r r'):
 iq P m H w (Instr.makeMap t r') v H':=by
 (replace h:=ae h;obtain⟨q,hq,h⟩:=h)
 (replace h:=aB h;obtain⟨hg,h⟩:=h)
 cases h
 have hu:=p_ hq
 have:=rh.alloc (.map []) (.map #[] 0) 0 0 0 0 (show oJ m [] []from .nil)
 refine⟨_,.map (some w.heap.size),w.alloc (.map #[] 0),?_,?_,this.1,this.2⟩
 ·cases hr with
  |nn=>simp[Instr.makeMap]
  |ss x x' hx=>
   replace hg:(!(aD (gW x)))=true:=hg
   cases hv:gW x with
   |none=>rw[hv]at hg;cases hg
   |some p=>
    rw[eT hv]at hx
    have:=hx.of_int;subst this
    simp[Instr.makeMap,aA hu,asInt,asIntOf]
 ·exact VR.map H.next ⟨w.heap.size,0,0,0,0⟩ (by simp[Mp.add])
theorem xY(rh:RH m H w){r:Nat}{l:Loc}{es:List (Value×Value)}(hm:m r=some l)(ho:H.obj r=.map es):∃kz cl,w.heap[l.c]?=some (.map kz cl)∧oJ m es kz.toList:=by
 obtain⟨o,hb,hk⟩:=rh.ok r l hm
 rw[ho]at hk
 cases o with
 |map kz cl=>exact⟨kz,cl,hb,hk⟩
 |_=>exact hk.elim
theorem Ji(rh:RH m H w){t:TypeId}{x x' k k' v:Value}{ok:Bool}{H':ag}(h:kG P t x k ok H=some (v,H'))(hx:VR m x x')(hk:VR m k k'):
 H'=H∧∃v',VR m v v'∧(Instr.lookup t x' k' ok).run P w=.ok v' w:=by
 (replace h:=ae h;obtain⟨q,hq,h⟩:=h)
 (replace h:=ae h;obtain⟨z,hz,h⟩:=h)
 (replace h:=ae h;obtain⟨es,hes,h⟩:=h)
 (replace h:=ae h;obtain⟨u,hu,h⟩:=h)
 (replace h:=ae h;obtain⟨f,hf,h⟩:=h)
 have hut:=p_ hq
 have hkk:=xX hu
 obtain⟨⟨i,hi,hz0⟩,Z6⟩:=C4 hz
 have hzz:VR m z z:=I5 Z6
 have pre:∃kz:Array MapEntry,oJ m es kz.toList∧((x'=.map none∧kz=#[])∨∃c cl,x'=.map (some c)∧w.heap[c]?=some (.map kz cl)):=by
  have h:=hes
  (replace h:=ae h;obtain⟨mr,hmr,h⟩:=h)
  rw[lY hmr]at hx
  cases mr with
  |none=>
   have:=hx.gU rfl;subst this
   cases h
   exact⟨#[],.nil,.inl ⟨rfl,rfl⟩⟩
  |some r=>
   obtain⟨l,hm,rfl⟩:=hx.of_map
   replace h:xz (H.obj r)=some es:=h
   obtain⟨kz,cl,hb,he⟩:=xY rh hm (lU h)
   exact⟨kz,he,.inr ⟨_,_,rfl,hb⟩⟩
 obtain⟨kz,he,hcase⟩:=pre
 obtain⟨r',hfind,hfr⟩:=rC hk he hf hkk w
 have hck:=o7 hkk hk kz.isEmpty 9998 w
 have hck:(Instr.checkKey kz.isEmpty 10000 q.1 k').run P w=.ok () w:=hck
 cases f with
 |none=>
  cases r' with
  |some _=>exact hfr.elim
  |none=>
   replace h:some (UJ ok z false H)=some (v,H'):=h
   have hv:v=(if ok then .tuple #[z,.bool false]else z)∧H'=H:=by cases ok<;>(cases h;exact⟨rfl,rfl⟩)
   refine⟨hv.2,(if ok then .tuple #[z,.bool false]else z),?_,?_⟩
   ·rw[hv.1]
    cases ok
    ·exact hzz
    ·exact .tuple _ _ (.cons _ _ _ _ hzz (.cons _ _ _ _ (.sc _ rfl) .nil))
   ·rcases hcase with⟨rfl,rfl⟩|⟨c,cl,rfl,hb⟩
    ·have hck:(Instr.checkKey true 10000 q.1 k').run P w=.ok () w:=hck
     have hfind:(Instr.findKey q.1 k' []).run P w=.ok none w:=hfind
     simp[Instr.lookup,aA hut,hck,hfind,lz hi hz0]
    ·simp[Instr.lookup,aA hut,iw hb,hck,hfind,lz hi hz0]
 |some p=>
  cases r' with
  |none=>exact hfr.elim
  |some p'=>
   replace h:some (UJ ok p.2 true H)=some (v,H'):=h
   have hv:v=(if ok then .tuple #[p.2,.bool true]else p.2)∧H'=H:=by cases ok<;>(cases h;exact⟨rfl,rfl⟩)
   obtain⟨j',u'⟩:=p'
   refine⟨hv.2,(if ok then .tuple #[u',.bool true]else u'),?_,?_⟩
   ·rw[hv.1]
    cases ok
    ·exact hfr.2
    ·exact .tuple _ _ (.cons _ _ _ _ hfr.2 (.cons _ _ _ _ (.sc _ rfl) .nil))
   ·rcases hcase with⟨rfl,rfl⟩|⟨c,cl,rfl,hb⟩
    ·have hck:(Instr.checkKey true 10000 q.1 k').run P w=.ok () w:=hck
     have hfind:(Instr.findKey q.1 k' []).run P w=.ok (some (j',u')) w:=hfind
     simp[Instr.lookup,aA hut,hck,hfind]
    ·simp[Instr.lookup,aA hut,iw hb,hck,hfind]
theorem Pt(rh:RH m H w){ats:List TypeId}{args args':List Value}{v:Value}{t:TypeId}{H':ag}(h:xI P ats args H=some (v,H'))(ha:bP m args args'):
 H'=H∧VR m v v∧(Builtin.len_ ⟨ats⟩ t ⟨args'⟩).run P w=.ok v w:=by
 (replace h:=ae h;obtain⟨t0,ht,h⟩:=h)
 (replace h:=ae h;obtain⟨x,hx,h⟩:=h)
 (replace h:=ae h;obtain⟨q,hq,h⟩:=h)
 (replace h:=ae h;obtain⟨es,hes,h⟩:=h)
 cases h
 have hut:=p_ hq
 rw[cB]at ht hx
 obtain⟨x',hx',oI⟩:=ha.get 0 hx
 refine⟨rfl,.sc _ rfl,?_⟩
 have h:=hes
 (replace h:=ae h;obtain⟨mr,hmr,h⟩:=h)
 rw[lY hmr]at oI
 cases mr with
 |none=>
  have:=oI.gU rfl;subst this
  cases h
  simp[Builtin.len_,ht,hx',aA hut,goInt,len]
 |some r=>
  obtain⟨l,hm,rfl⟩:=oI.of_map
  replace h:xz (H.obj r)=some es:=h
  obtain⟨kz,cl,hb,he⟩:=xY rh hm (lU h)
  have hl:=he.length
  simp[Builtin.len_,ht,hx',aA hut,goInt,iw hb,aJ,hl]
theorem vI{k:Nat}{x y x' y':Value}(h:iQ k x y=some true)(hx:VR m x x')(hy:VR m y y'):x'=y'∧∀n,Instr.sameBits n y' x'=true:=by
 unfold iQ at h
 rw[mG]at h
 split at h
 ·(replace h:=ae h;obtain⟨a,ha,h⟩:=h)
  (replace h:=ae h;obtain⟨b,hb,h⟩:=h)
  (replace h:=aB h;obtain⟨hg,h⟩:=h)
  rw[eT ha]at hx
  rw[eT hb]at hy
  have:=hx.of_int;subst this
  have:=hy.of_int;subst this
  have hk:=ng hg
  simp only[Option.some.injEq,xM,beq_iff_eq]at h
  exact⟨by rw[hk,h],fun n=>by cases n<;>simp[Instr.sameBits,hk,h]⟩
 ·rw[mG]at h
  split at h
  ·(replace h:=ae h;obtain⟨a,ha,h⟩:=h)
   (replace h:=ae h;obtain⟨b,hb,h⟩:=h)
   rw[eF ha]at hx
   rw[eF hb]at hy
   have:=hx.of_bool;subst this
   have:=hy.of_bool;subst this
   simp only[Option.some.injEq,xN,beq_iff_eq]at h
   exact⟨by rw[h],fun n=>by cases n<;>simp[Instr.sameBits,h]⟩
  ·rw[mG]at h
   split at h
   ·(replace h:=ae h;obtain⟨a,ha,h⟩:=h)
    (replace h:=ae h;obtain⟨b,hb,h⟩:=h)
    rw[dU ha]at hx
    rw[dU hb]at hy
    have:=hx.iT;subst this
    have:=hy.iT;subst this
    simp only[Option.some.injEq,lD]at h
    have hl:a.toList=b.toList:=by simpa using h
    rw[ByteArray.toList_eq,ByteArray.toList_eq]at hl
    have hab:a=b:=ByteArray.ext (Array.toList_inj.1 hl)
    subst hab
    have hbb:(a==a)=true:=by rw[beq_toListBytes];simp
    exact⟨rfl,fun n=>by cases n<;>simp[Instr.sameBits,hbb]⟩
   ·cases h
theorem BD:∀(ks:List Nat)(xs ys xs' ys':List Value),fI ks xs ys=some true→bP m xs xs'→bP m ys ys'→
 xs'=ys'∧∀n,(ys'.zip xs').all (fun(x,y)=>Instr.sameBits n x y)=true:=by
 intro ks
 induction ks with
 |nil=>
  intro xs ys xs' ys' h hx hy
  cases xs with
  |nil=>cases ys with
   |nil=>cases hx;cases hy;exact⟨rfl,fun n=>rfl⟩
   |cons _ _=>cases h
  |cons _ _=>cases h
 |cons k ks ih=>
  intro xs ys xs' ys' h hx hy
  obtain⟨x,xr,y,yr,c,rfl,rfl,hce,hcase⟩:=kJ h
  rcases hcase with⟨rfl,hr⟩|⟨_,hbf⟩
  ·cases hx with
   |cons _ x' _ U8 hxv oI=>
    cases hy with
    |cons _ y' _ U9 hyv K5=>
     obtain⟨e1,e2⟩:=vI hce hxv hyv
     obtain⟨f1,f2⟩:=ih xr yr U8 U9 hr oI K5
     exact⟨by rw[e1,f1],fun n=>by simp only[List.zip_cons_cons,List.all_cons,e2 n,f2 n,Bool.and_self]⟩
  ·cases hbf
theorem Fb{t:TypeId}{x y x' y':Value}(h:gG P t x y=some true)(hx:VR m x x')(hy:VR m y y'):x'=y'∧∀n,Instr.sameBits (n +1) y' x'=true:=by
 (replace h:=ae h;obtain⟨q,hq,h⟩:=h)
 cases q with
 |inl k=>
  replace h:iQ k x y=some true:=h
  obtain⟨a,b⟩:=vI h hx hy
  exact⟨a,fun n=>b _⟩
 |inr l=>
  replace h:(ah (jq x) fun a=>ah (jq y) fun b=>fI l a b)=some true:=h
  (replace h:=ae h;obtain⟨xs,hxs,h⟩:=h)
  (replace h:=ae h;obtain⟨ys,hys,h⟩:=h)
  rw[iC hxs]at hx
  rw[iC hys]at hy
  obtain⟨xs',rfl,oI⟩:=hx.jF
  obtain⟨ys',rfl,K5⟩:=hy.jF
  obtain⟨a,b⟩:=BD l xs ys xs' ys' h oI K5
  refine⟨by rw[a],fun n=>?_⟩
  have:=b n
  simp only[Instr.sameBits,Bool.and_eq_true]
  exact⟨by rw[a];simp,this⟩
theorem oJ.set{es:List (Value×Value)}{l:List MapEntry}(h:oJ m es l):∀(j:Nat)(k v:Value)(e':MapEntry),VR m k e'.key→VR m v e'.val→oJ m (es.set j (k,v)) (l.set j e'):=by
 induction h with
 |nil=>intro j k v e' _ _;exact .nil
 |cons k0 v0 e0 l0 UN hk hv hl ih=>
  intro j k v e' h1 h2
  cases j with
  |zero=>exact .cons k v e' l0 UN h1 h2 hl
  |succ j=>exact .cons k0 v0 e0 _ _ hk hv (ih j k v e' h1 h2)
theorem oJ.push{es:List (Value×Value)}{l:List MapEntry}(h:oJ m es l)(k v:Value)(e':MapEntry)(h1:VR m k e'.key)(h2:VR m v e'.val):oJ m (es++[(k,v)]) (l++[e']):=by
 induction h with
 |nil=>exact .cons k v e' [] [] h1 h2 .nil
 |cons k0 v0 e0 l0 UN hk hv hl ih=>exact .cons k0 v0 e0 _ _ hk hv ih
theorem oJ.get{es:List (Value×Value)}{l:List MapEntry}(h:oJ m es l):∀(j:Nat)(p:Value×Value),es[j]?=some p→∃e,l[j]?=some e∧VR m p.1 e.key∧VR m p.2 e.val:=by
 induction h with
 |nil=>intro j p hp;simp at hp
 |cons k0 v0 e0 l0 UN hk hv hl ih=>
  intro j p hp
  cases j with
  |zero=>simp at hp;subst hp;exact⟨e0,rfl,hk,hv⟩
  |succ j=>simpa using ih j p (by simpa using hp)
theorem Jj{kt:TypeId}{k:Value}:∀(es:List (Value×Value))(i j:Nat)(v:Value),jr P kt k es i=some (some (j,v))→i≤j∧∃k0,es[j -i]?=some (k0,v)∧gG P kt k k0=some true:=by
 intro es
 induction es with
 |nil=>intro i j v h;cases h
 |cons e es ih=>
  intro i j v h
  rcases rA h with⟨h1,h2⟩|⟨h1,h2⟩
  ·simp at h2
   obtain⟨rfl,rfl⟩:=h2
   exact⟨Nat.le_refl _,e.1,by simp,h1⟩
  ·obtain⟨a,k0,b,c⟩:=ih (i +1) j v h2
   refine⟨aa,k0,?_,c⟩
   rw[show j -i=(j -(i +1)) +1 from by omega]
   simpa using b
theorem zJ(kz:Array MapEntry)(j:Nat)(e:MapEntry)(he:kz[j]?=some e)(f:MapEntry→MapEntry):(kz.modify j f).toList=kz.toList.set j (f e):=by
 apply List.ext_getElem?
 intro i
 have hj:=(Array.getElem?_eq_some_iff.1 he).1
 rw[Array.getElem?_toList,Array.getElem?_modify,List.getElem?_set,←Array.getElem?_toList]
 by_cases h:j=i
 ·subst h
  rw[if_pos rfl,if_pos rfl,Array.getElem?_toList,he]
  simp[hj]
 ·rw[if_neg h,if_neg h]
theorem Ai(rh:RH m H w){t:TypeId}{x x' k k' y y' v:Value}{H':ag}(h:gT P t x k y H=some (v,H'))(hx:VR m x x')(hk:VR m k k')(hy:VR m y y'):
 v=undef∧∃w',(Instr.mapUpdate t x' k' y').run P w=.ok () w'∧RH m H' w'∧Ex m m H H' w w':=by
 (replace h:=ae h;obtain⟨q,hq,h⟩:=h)
 (replace h:=ae h;obtain⟨mr,hmr,h⟩:=h)
 (replace h:=ae h;obtain⟨r,hr,h⟩:=h)
 (replace h:=ae h;obtain⟨es,hes,h⟩:=h)
 (replace h:=ae h;obtain⟨u,hu,h⟩:=h)
 (replace h:=ae h;obtain⟨f,hf,h⟩:=h)
 subst hr
 have hut:=p_ hq
 have hkk:=xX hu
 rw[lY hmr]at hx
 obtain⟨l,hm,rfl⟩:=hx.of_map
 obtain⟨kz,cl,hb,he⟩:=xY rh hm (lU hes)
 obtain⟨r',hfind,hfr⟩:=rC hk he hf hkk w
 have hck:(Instr.checkKey false 10000 q.1 k').run P w=.ok () w:=o7 hkk hk false 9998 w
 have nk:H.obj r≠.dead:=by rw[lU hes];simp
 cases f with
 |none=>
  cases r' with
  |some _=>exact hfr.elim
  |none=>
   replace h:some (undef,H.put r (.map (app es [(k,y)])))=some (v,H'):=h
   cases h
   have hnew:oJ m (app es [(k,y)]) (kz.push {key:=k',val:=y',born:=cl}).toList:=by
    rw[fV,Array.toList_push];exact he.push k y _ hk hy
   have:=RH.update rh r l (.map (app es [(k,y)])) (.map (kz.push {key:=k',val:=y',born:=cl}) (cl +1)) hm nk hnew (qm hb) kV (fun c hc=>qo hc) rfl rfl rfl
   refine⟨rfl,qI w l.c (.map (kz.push {key:=k',val:=y',born:=cl}) (cl +1)),?_,this.1,this.2⟩
   simp[Instr.mapUpdate,aA hut,iw hb,hck,hfind,lG hb]
 |some p=>
  cases r' with
  |none=>exact hfr.elim
  |some p'=>
   obtain⟨j,v0⟩:=p
   obtain⟨j',Z7⟩:=p'
   obtain⟨rfl,hvv⟩:=hfr
   replace h:some (undef,H.put r (.map (setAt (k,y) j es)))=some (v,H'):=h
   cases h
   obtain⟨_,k0,hk0,hke⟩:=Jj es 0 j v0 hf
   obtain⟨e,hce,Z8,hev⟩:=he.get j _ (by simpa using hk0)
   rw[Array.getElem?_toList]at hce
   obtain⟨hsame,Ve⟩:=Fb hke hk Z8
   have hst:(Instr.keyThatStays e.key k').run P w=.ok k' w:=by
    have:=Ve 9999
    simp[Instr.keyThatStays,this]
   have hnew:oJ m (setAt (k,y) j es) (kz.modify j fun e=>{e with key:=k',val:=y'}).toList:=by
    rw[sN,zJ kz j e hce]
    exact he.set j k y _ hk hy
   have:=RH.update rh r l (.map (setAt (k,y) j es)) (.map (kz.modify j fun e=>{e with key:=k',val:=y'}) cl) hm nk hnew (qm hb) kV (fun c hc=>qo hc) rfl rfl rfl
   refine⟨rfl,qI w l.c (.map (kz.modify j fun e=>{e with key:=k',val:=y'}) cl),?_,this.1,this.2⟩
   simp[Instr.mapUpdate,aA hut,iw hb,hck,hfind,hce,hst,lG hb]
end mem
section mem
variable{P:Program}{m:Mp}{H:ag}{w:World}
theorem jH(s:List UInt8):dn s=s.map fun b=>.int .u8 b.toNat:=by rw[dn,qL];rfl
theorem vJ(s:List UInt8):(dn s).all dD=true:=by
 rw[jH];simp[dD]
theorem o8(rh:RH m H w){sz:Nat}{x x':Value}{e:Nat×List Value}(h:appended H sz x=some e)(hx:VR m x x'):
 (∀w,(Builtin.lenOf x').run P w=.ok e.1 w)∧∃vs',bP m e.2 vs'∧vs'.length=e.1*sz∧(Builtin.firstCells sz e.1 x').run P w=.ok ⟨vs'⟩ w:=by
 unfold appended at h
 cases hs:gX x with
 |some s=>
  rw[hs]at h
  replace h:(gd (Nat.beq sz 1) (some (len s.data.toList,dn s.data.toList)))=some e:=h
  (replace h:=aB h;obtain⟨hg,h⟩:=h)
  cases h
  have hg:=Nat.eq_of_beq_eq_true hg
  subst hg
  rw[dU hs]at hx
  have:=hx.iT;subst this
  have hsz:s.size=s.data.toList.length:=rfl
  refine⟨fun w=>by simp[Builtin.lenOf,aJ],dn s.data.toList,bP.dD (vJ _),by rw[jH];simp[aJ],?_⟩
  have:(s.extract 0 s.size).data=s.data:=by
   rw[ByteArray.data_extract]
   show s.data.extract 0 s.data.size=s.data
   simp
  simp only[Builtin.firstCells,aJ]
  rw[show s.data.toList.length=s.size from rfl,this,jH]
  show Result.ok _ w=Result.ok _ w
  congr 1
  rw[←Array.toList_inj];simp
 |none=>
  rw[hs]at h
  replace h:(ah (wH x) fun p=>@Option.rec Addr (fun _=>Option (Nat×List Value)) (gd (Nat.beq p.2.1 0) (some (0,[])))
   (fun a=>ah (H.read a.block a.off (Nat.mul p.2.1 sz)) fun l=>some (p.2.1,l)) p.1)=some e:=h
  (replace h:=ae h;obtain⟨p,hp,h⟩:=h)
  rw[ji hp]at hx
  obtain⟨pa,n,cp⟩:=p
  cases pa with
  |none=>
   obtain⟨h1,h2,rfl⟩:=hx.ik
   replace h:(gd (Nat.beq n 0) (some (0,([]:List Value))))=some e:=h
   (replace h:=aB h;obtain⟨hg,h⟩:=h)
   cases h
   exact⟨fun w=>by simp[Builtin.lenOf],[],.nil,by simp,by simp[Builtin.firstCells]⟩
  |some a=>
   replace h:(ah (H.read a.block a.off (Nat.mul n sz)) fun l=>some (n,l))=some e:=h
   (replace h:=ae h;obtain⟨l,hl,h⟩:=h)
   cases h
   simp only at hx
   rcases hx.of_slice with⟨lc,cc,hm,hlo,hsp,rfl,_⟩|⟨a',e1,e2,rfl⟩
   ·obtain⟨vs',h1,h2,h3⟩:=kL (P:=P) rh hl hm hlo
    exact⟨fun w=>by simp[Builtin.lenOf],vs',h1,h2,by simp only[Builtin.firstCells];exact h3⟩
   ·subst e1
    have hz:Nat.mul 0 sz=0:=Nat.zero_mul sz
    rw[hz]at hl
    cases hl
    refine⟨fun w=>by simp[Builtin.lenOf],[],.nil,by simp,?_⟩
    simp[Builtin.firstCells,loadCells,loadCellsFrom]
theorem Jk(n:Nat):∀(r c:Nat),Builtin.growBy n r c≤max c (n +(n +768)/4):=by
 intro r
 induction r with
 |zero=>intro c;simp[Builtin.growBy];omega
 |succ r ih=>
  intro c
  unfold Builtin.growBy
  split
  ·omega
  ·next h=>
   have:=ih (c +(c +768)/4)
   omega
theorem Fe{need cap:Nat}(h:cap<need):Builtin.nextslicecap need cap≤2*need +768:=by
 unfold Builtin.nextslicecap
 split
 ·omega
 ·split
  ·omega
  ·have:=Jk need 4 cap
   omega
theorem zK(zs:List Value)(n:Nat):(Builtin.zeroCells ⟨zs⟩ n).toList.length=n*zs.length:=by simp[Builtin.zeroCells]
theorem Lt{t t2 e:TypeId}{i:TypeInfo}{z0:Value}{zs:List Value}{base:Option Addr}{ln cc k:Nat}{x':Value}{old vs':List Value}{d2:TypeDesc}{ats:List TypeId}{ty:TypeId}{args':List Value}(ha0:args'[0]?=some (.slice base ln cc))(ha1:args'[1]?=some x')
 (ht:ats[0]?=some t)(ht2:ats[1]?=some t2)(hu:P.underlying t=some (.slice e))(hu2:P.underlying t2=some d2)(hd2:∀kk,d2≠.int kk)(hi:P.info? e=some i)(hz:i.zero=some z0)(hzc:z0.cells=⟨zs⟩)
 (hzl:zs.length=i.size)(hb:i.bytes≤1048576)(hb1:1≤i.bytes)(hln:ln≤16777216)(hk:k≤16777216)(hroom:cc<ln +k)
 (hlen:∀w,(Builtin.lenOf x').run P w=.ok k w)(hold:(Builtin.firstCells i.size ln (.slice base ln cc)).run P w.drew=.ok ⟨old⟩ w.drew)(hnew:(Builtin.firstCells i.size k x').run P w.drew=.ok ⟨vs'⟩ w.drew):
 ∃cap rest,ln +k≤cap∧rest.length=(cap -(ln +k))*i.size∧
  (Builtin.append_ ⟨ats⟩ ty ⟨args'⟩).run P w=.ok (.slice (some ⟨w.drew.heap.size,0,none⟩) (ln +k) cap) (w.drew.alloc (.cells ⟨old++vs'++rest⟩ e)):=by
 refine⟨(Question.appendCap (ln +k) cc e).cut (w.tape w.drawn (.appendCap (ln +k) cc e)),(Builtin.zeroCells ⟨zs⟩ ((Question.appendCap (ln +k) cc e).cut (w.tape w.drawn (.appendCap (ln +k) cc e)) -(ln +k))).toList,?_,?_,?_⟩
 ·simp[Question.cut]
 ·rw[zK,hzl]
 ·have hz2:(match d2 with|.int _=>true|_=>false)=false:=by cases d2<;>first|rfl|exact absurd rfl (hd2 _)
  have hcap:Builtin.nextslicecap (ln +k) cc*i.bytes≤2^48:=by
   have h1:=Fe hroom
   have h2:2*(ln +k) +768≤67109632:=by omega
   exact Nat.le_trans (Nat.mul_le_mul (Nat.le_trans h1 h2) hb) (by simp)
  have hne:¬(ln +k≤cc):=by omega
  have hbz:i.bytes≠0:=by omega
  have Vf:¬(Builtin.nextslicecap (ln +k) cc*i.bytes>2^48):=by omega
  have hf:(Question.appendCap (ln +k) cc e).forced=false:=rfl
  have hat:(⟨ats⟩:Array TypeId)[0]?=some t:=by simpa using ht
  have Lx:(⟨ats⟩:Array TypeId)[1]?=some t2:=by simpa using ht2
  have S8:∀n,(askRoom n).run P w.drew=.ok () w.drew:=fun n=>run_askRoom P w.drew n
  have ha0:(⟨args'⟩:Array Value)[0]?=some (.slice base ln cc):=by simpa using ha0
  have ha1:(⟨args'⟩:Array Value)[1]?=some x':=by simpa using ha1
  cases d2
  case int kk=>exact absurd rfl (hd2 kk)
  all_goals
   simp only[Builtin.append_,hat,Lx,ha0,ha1,Sem.run_bind,aA hu,aA hu2,Result.andThen_ok,bG hi,Sem.run_pure,Bool.false_eq_true,if_false,hlen,hne,
    jZ hi,hbz,or_self,and_false,Vf,run_choose,hf,World.drew_eq,S8,hold,hnew,lz hi hz,hzc,Bool.not_false,if_true]
  all_goals
   generalize Builtin.zeroCells ⟨zs⟩ _=zc
   have harr:((⟨old⟩:Array Value)++(⟨vs'⟩:Array Value)++zc)=⟨old++vs'++zc.toList⟩:=by rw[←Array.toList_inj];simp
   rw[harr]
   rfl
theorem j3{t t2 e:TypeId}{i:TypeInfo}{a:Addr}{ln cc k:Nat}{x':Value}{vs':List Value}{d2:TypeDesc}{ats:List TypeId}{ty:TypeId}{args':List Value}{w':World}
 (ha0:args'[0]?=some (.slice (some a) ln cc))(ha1:args'[1]?=some x')
 (ht:ats[0]?=some t)(ht2:ats[1]?=some t2)(hu:P.underlying t=some (.slice e))(hu2:P.underlying t2=some d2)(hd2:∀kk,d2≠.int kk)(hi:P.info? e=some i)
 (hroom:ln +k≤cc)(hlen:∀w,(Builtin.lenOf x').run P w=.ok k w)(hnew:(Builtin.firstCells i.size k x').run P w=.ok ⟨vs'⟩ w)
 (hst:(storeCells (a.add (ln*i.size)) vs').run P w=.ok () w'):
 (Builtin.append_ ⟨ats⟩ ty ⟨args'⟩).run P w=.ok (.slice (some a) (ln +k) cc) w':=by
 have hat:(⟨ats⟩:Array TypeId)[0]?=some t:=by simpa using ht
 have Lx:(⟨ats⟩:Array TypeId)[1]?=some t2:=by simpa using ht2
 have ha0:(⟨args'⟩:Array Value)[0]?=some (.slice (some a) ln cc):=by simpa using ha0
 have ha1:(⟨args'⟩:Array Value)[1]?=some x':=by simpa using ha1
 cases d2
 case int kk=>exact absurd rfl (hd2 kk)
 all_goals
  simp only[Builtin.append_,hat,Lx,ha0,ha1,Sem.run_bind,aA hu,aA hu2,Result.andThen_ok,bG hi,Sem.run_pure,Bool.false_eq_true,if_false,hlen,hroom,
   hnew,Bool.not_false,if_true,hst]
theorem C8{t t2 e:TypeId}{i:TypeInfo}{cc:Nat}{x':Value}{d2:TypeDesc}{ats:List TypeId}{ty:TypeId}{args':List Value}
 (ha0:args'[0]?=some (.slice none 0 cc))(ha1:args'[1]?=some x')
 (ht:ats[0]?=some t)(ht2:ats[1]?=some t2)(hu:P.underlying t=some (.slice e))(hu2:P.underlying t2=some d2)(hd2:∀kk,d2≠.int kk)(hi:P.info? e=some i)
 (hlen:∀w,(Builtin.lenOf x').run P w=.ok 0 w)(hnew:(Builtin.firstCells i.size 0 x').run P w=.ok #[] w):
 (Builtin.append_ ⟨ats⟩ ty ⟨args'⟩).run P w=.ok (.slice none 0 cc) w:=by
 have hat:(⟨ats⟩:Array TypeId)[0]?=some t:=by simpa using ht
 have Lx:(⟨ats⟩:Array TypeId)[1]?=some t2:=by simpa using ht2
 have ha0:(⟨args'⟩:Array Value)[0]?=some (.slice none 0 cc):=by simpa using ha0
 have ha1:(⟨args'⟩:Array Value)[1]?=some x':=by simpa using ha1
 cases d2
 case int kk=>exact absurd rfl (hd2 kk)
 all_goals
  simp only[Builtin.append_,hat,Lx,ha0,ha1,Sem.run_bind,aA hu,aA hu2,Result.andThen_ok,bG hi,Sem.run_pure,Bool.false_eq_true,if_false,hlen,Nat.add_zero,Nat.zero_le,
   hnew,Bool.not_false,if_true]
theorem Pv{t t2:TypeId}{q:TypeId×Nat}(h:UY P t t2=some q):P.underlying t=some (.slice q.1)∧1≤q.2∧∃i z0 zs d2,P.info? q.1=some i∧i.size=q.2∧i.zero=some z0∧z0.cells=⟨zs⟩∧zs.length=i.size∧
 zs.all dD=true∧P.underlying t2=some d2∧(∀kk,d2≠.int kk)∧i.bytes≤1048576∧1≤i.bytes:=by
 (replace h:=ae h;obtain⟨q',hq,h⟩:=h)
 (replace h:=ae h;obtain⟨i0,hi0,h⟩:=h)
 (replace h:=ae h;obtain⟨zs,hzs,h⟩:=h)
 (replace h:=ae h;obtain⟨d2,hd2,h⟩:=h)
 (replace h:=aB h;obtain⟨hg,h⟩:=h)
 cases h
 obtain⟨hu,⟨i,hi,hsz⟩,h1⟩:=lu hq
 have hi0:P.info? q.1=some i0:=hi0
 rw[hi]at hi0;cases hi0
 obtain⟨i2,z0,hi2,hz0,Li,hlen,hs⟩:=kR hzs
 rw[hi]at hi2;cases hi2
 simp only[Bool.and_eq_true]at hg
 refine⟨hu,h1,_,z0,zs,d2,hi,hsz,hz0,by rw[Li],hlen,hs,hd2,?_,Nat.le_of_ble_eq_true hg.1.2,Nat.le_of_ble_eq_true hg.2⟩
 intro kk e
 subst e
 have:=hg.1.1
 simp[zD,aD]at this
end mem
section mem
variable{P:Program}{m:Mp}{H:ag}{w:World}
theorem RH.Pw{w':World}(rh:RH m H w)(r:Nat)(l l':Loc)(o':bR)(xS:Obj)(hm:m r=some l)(hd:H.obj r≠.dead)(hc:l'.c=l.c)
 (hok:iJ m l' o' xS)(hb:w'.heap[l.c]?=some xS)(hs:w'.heap.size=w.heap.size)(ho:∀c,c≠l.c→w'.heap[c]?=w.heap[c]?)
 (h1:w'.os=w.os)(h2:w'.tape=w.tape)(h3:w'.output=w.output):
 RH (m.add H.next l') ((H.put r .dead).new o') w'∧Ex m (m.add H.next l') H ((H.put r .dead).new o') w w':=by
 have hn:=rh.Ah
 have hle:=Mp.Lj (l:=l') hn
 have hlow:=xe H r .dead
 have hrn:r≠H.next:=fun e=>by have:=rh.dom r l hm;omega
 have oK:∀k,((H.put r .dead).new o').obj k=if k=H.next then o' else if k=r then .dead else H.obj k:=by
  intro k;rw[kK];show(if k=H.next then o' else(H.put r .dead).obj k)=_;rw[jk]
 have Z9:l.c<w.heap.size:=by obtain⟨_,g,_⟩:=rh.ok r l hm;exact fO g
 refine⟨⟨?_,?_,?_⟩,?_⟩
 ·intro k lk hk
  show k<H.next +1
  unfold Mp.add at hk
  split at hk
  ·omega
  ·have:=rh.dom k lk hk;omega
 ·intro k lk hk
  rw[oK]
  unfold Mp.add at hk
  split at hk
  ·next e=>
   cases hk
   rw[if_pos e]
   exact⟨xS,by rw[hc];exact hb,hok.mono hle⟩
  ·next e=>
   rw[if_neg e]
   obtain⟨Ya,g1,g2⟩:=rh.ok k lk hk
   by_cases hcc:lk.c=l.c
   ·refine⟨xS,by rw[hcc];exact hb,?_⟩
    by_cases hkr:k=r
    ·rw[if_pos hkr];trivial
    ·rw[if_neg hkr]
     by_cases hdd:H.obj k=.dead
     ·rw[hdd];trivial
     ·exact absurd (rh.sep k r lk l hk hm hdd hd hcc) hkr
   ·refine⟨Ya,by rw[ho _ hcc];exact g1,?_⟩
    split
    ·trivial
    ·exact g2.mono hle
 ·intro k1 k2 l1 l2 hk1 hk2 hd1 hd2 hcc
  rw[oK]at hd1 hd2
  unfold Mp.add at hk1 hk2
  by_cases e1:k1=H.next<;>by_cases e2:k2=H.next
  ·rw[e1,e2]
  ·rw[if_pos e1]at hk1;cases hk1
   rw[if_neg e2]at hk2 hd2
   by_cases hkr:k2=r
   ·rw[if_pos hkr]at hd2;exact absurd rfl hd2
   ·rw[if_neg hkr]at hd2
    exact absurd (rh.sep k2 r l2 l hk2 hm hd2 hd (by rw[←hcc,hc])) hkr
  ·rw[if_pos e2]at hk2;cases hk2
   rw[if_neg e1]at hk1 hd1
   by_cases hkr:k1=r
   ·rw[if_pos hkr]at hd1;exact absurd rfl hd1
   ·rw[if_neg hkr]at hd1
    exact absurd (rh.sep k1 r l1 l hk1 hm hd1 hd (by rw[hcc,hc])) hkr
  ·rw[if_neg e1]at hk1 hd1
   rw[if_neg e2]at hk2 hd2
   by_cases Vg:k1=r
   ·rw[if_pos Vg]at hd1;exact absurd rfl hd1
   ·by_cases Vh:k2=r
    ·rw[if_pos Vh]at hd2;exact absurd rfl hd2
    ·rw[if_neg Vg]at hd1
     rw[if_neg Vh]at hd2
     exact rh.sep k1 k2 l1 l2 hk1 hk2 hd1 hd2 hcc
 ·refine⟨hle,?_,?_,h1,h2,h3,by rw[hs];exact Nat.le_refl _,?_,Nat.le_succ _,hlow.2,?_,?_⟩
  ·intro k lk hk h0
   unfold Mp.add at hk
   split at hk
   ·next e=>omega
   ·rw[h0]at hk;cases hk
  ·intro k lk hk h0 hlt
   unfold Mp.add at hk
   split at hk
   ·next e=>cases hk;exact⟨r,l,hm,hc.symm,hlow.1⟩
   ·rw[h0]at hk;cases hk
  ·intro c hcl hk
   apply ho
   intro e
   have:=hk r l hm e.symm
   have h9:((H.put r .dead).new o').low≤r:=hlow.1
   omega
  ·intro k g1 g2
   have h9:((H.put r .dead).new o').low≤r:=hlow.1
   rw[oK,if_neg aa,if_neg aa]
  ·intro k g1 g2
   rw[oK,if_neg aa,if_neg (by intro e;subst e;rw[hm]at g2;cases g2)]
theorem RH.kill(rh:RH m H w)(r:Nat)(hm:m r≠none):RH m (H.put r .dead) w∧Ex m m H (H.put r .dead) w w:=by
 have hlow:=xe H r .dead
 refine⟨⟨rh.dom,?_,?_⟩,{Ex.refl m H w with next:=Nat.le_refl _,low:=hlow.2,jc:=?_,hid:=?_,keep:=fun _ _ _=>rfl,fresh:=fun r l h h'=>absurd (h.symm.trans h') (by simp)}⟩
 ·intro k lk hk
  obtain⟨o,g1,g2⟩:=rh.ok k lk hk
  refine⟨o,g1,?_⟩
  rw[jk]
  split
  ·trivial
  ·exact g2
 ·intro k1 k2 l1 l2 hk1 hk2 hd1 hd2 hc
  rw[jk]at hd1 hd2
  split at hd1
  ·exact absurd rfl hd1
  ·split at hd2
   ·exact absurd rfl hd2
   ·exact rh.sep k1 k2 l1 l2 hk1 hk2 hd1 hd2 hc
 ·intro k g1 g2
  rw[jk,if_neg aa]
 ·intro k g1 g2
  rw[jk,if_neg (by intro e;subst e;exact hm g2)]
theorem BF(rh:RH m H w){e:TypeId}{old old' vs vs' rest:List Value}{ln k cap sz:Nat}(hold:bP m old old')(hvs:bP m vs vs')(hol:old.length=ln*sz)(hvl:vs.length=k*sz)
 (hcap:ln +k≤cap)(hrest:rest.length=(cap -(ln +k))*sz)(hs:1≤sz):
 ∃m',VR m' (.slice (some ⟨H.next,0,none⟩) (ln +k) (bH sz)) (.slice (some ⟨w.heap.size,0,none⟩) (ln +k) cap)∧
  RH m' (H.new (rowOf e (old++vs))) (w.alloc (.cells ⟨old'++vs'++rest⟩ e))∧Ex m m' H (H.new (rowOf e (old++vs))) w (w.alloc (.cells ⟨old'++vs'++rest⟩ e)):=by
 have hov:bP m (old++vs) (old'++vs'):=hold.append hvs
 have hlen:(old++vs).length=(ln +k)*sz:=by rw[List.length_append,hol,hvl,Nat.add_mul]
 have hlen':(old'++vs').length=(ln +k)*sz:=by rw[←hov.length,hlen]
 have htot:(old'++vs'++rest).length=cap*sz:=by
  rw[List.length_append,hlen',hrest,←Nat.add_mul];congr 1;omega
 have hmul:(ln +k)*sz≤cap*sz:=Nat.mul_le_mul_right _ hcap
 have hok:iJ m ⟨w.heap.size,0,0,cap*sz,(ln +k)*sz⟩ (rowOf e (old++vs)) (.cells ⟨old'++vs'++rest⟩ e):=by
  refine⟨⟨rfl,rfl⟩,by show len (old++vs)=_;rw[aJ,hlen],htot,Nat.zero_le _,?_,?_,?_⟩
  ·show 0 +(len (old++vs) -0)≤cap*sz
   rw[aJ,hlen];omega
  ·intro _;exact Nat.zero_le _
  ·intro i a b
   have b:i<len (old++vs):=b
   rw[aJ]at b
   rw[show(Tr.iH top (old++vs) 0 .nil).get top i=(old++vs).getD i top from by rw[Tr.cz,if_pos aa];rfl]
   have hgi:(old++vs)[i]?=some ((old++vs).getD i top):=by rw[List.getD_eq_getElem?_getD,List.getElem?_eq_getElem b];rfl
   obtain⟨u,h1,h2⟩:=hov.get i hgi
   refine⟨u,?_,h2⟩
   simp only[List.getElem?_toArray,Nat.zero_add,Nat.sub_zero]
   rw[List.getElem?_append_left (by rw[hlen',←hlen];exact b)]
   exact h1
 have:=rh.alloc (rowOf e (old++vs)) (.cells ⟨old'++vs'++rest⟩ e) 0 0 (cap*sz) ((ln +k)*sz) hok
 refine⟨_,?_,this.1,this.2⟩
 have hr:=VR.gK (m:=m.add H.next ⟨w.heap.size,0,0,cap*sz,(ln +k)*sz⟩) H.next 0 (ln +k) sz cap ⟨w.heap.size,0,0,cap*sz,(ln +k)*sz⟩ (by simp[Mp.add]) (Nat.le_refl _) hs (by simp) hcap (by simp;exact hmul)
 exact hr
end mem
section mem
variable{P:Program}{m:Mp}{H:ag}{w:World}
theorem xZ(c b off lo k:Nat)(hl:lo≤off):(⟨c,b +(off -lo),none⟩:Addr).add k=⟨c,b +(off +k -lo),none⟩:=by
 unfold Addr.add
 split
 ·next h0=>rw[h0,Nat.add_zero]
 ·simp only[Addr.mk.injEq,true_and,and_true];omega
theorem Aj(rh:RH m H w)(r:Nat)(hm:m r≠none){e:TypeId}{C:Tr Value}{old old' vs vs' rest:List Value}{off ln k cap sz fz:Nat}(hold:bP m old old')(hvs:bP m vs vs')(hol:old.length=ln*sz)(hvl:vs.length=k*sz)
 (hC:∀j,j<ln*sz→old[j]?=some (C.get top (off +j)))
 (hcap:ln +k≤cap)(hrest:rest.length=(cap -(ln +k))*sz)(hs:1≤sz):
 ∃m',VR m' (.slice (some ⟨H.next,off,none⟩) (ln +k) (bH sz)) (.slice (some ⟨w.heap.size,0,none⟩) (ln +k) cap)∧
  RH m' ((H.put r .dead).new (.row ⟨e,Tr.iH top vs (off +ln*sz) C,off +(ln +k)*sz,false,fz⟩)) (w.alloc (.cells ⟨old'++vs'++rest⟩ e))∧
  Ex m m' H ((H.put r .dead).new (.row ⟨e,Tr.iH top vs (off +ln*sz) C,off +(ln +k)*sz,false,fz⟩)) w (w.alloc (.cells ⟨old'++vs'++rest⟩ e)):=by
 obtain⟨rk,ek⟩:=rh.kill r hm
 have hlen':old'.length=ln*sz:=by rw[←hold.length,hol]
 have Jl:vs'.length=k*sz:=by rw[←hvs.length,hvl]
 have hmk:(ln +k)*sz=ln*sz +k*sz:=Nat.add_mul ..
 have htot:(old'++vs'++rest).length=cap*sz:=by
  rw[List.length_append,List.length_append,hlen',Jl,hrest,←Nat.add_mul,←Nat.add_mul];congr 1;omega
 have hmul:(ln +k)*sz≤cap*sz:=Nat.mul_le_mul_right _ hcap
 have hok:iJ m ⟨w.heap.size,off,0,cap*sz,off +(ln +k)*sz⟩ (.row ⟨e,Tr.iH top vs (off +ln*sz) C,off +(ln +k)*sz,false,fz⟩) (.cells ⟨old'++vs'++rest⟩ e):=by
  refine⟨⟨rfl,rfl⟩,rfl,htot,Nat.le_add_right _ _,?_,?_,?_⟩
  ·show 0 +(off +(ln +k)*sz -off)≤cap*sz
   omega
  ·intro _;exact Nat.zero_le _
  ·intro i a b
   have b:i<off +(ln +k)*sz:=b
   have a:off≤i:=a
   simp only[List.getElem?_toArray,Nat.zero_add]
   rw[Tr.cz,List.append_assoc]
   by_cases hin:off +ln*sz≤i∧i<off +ln*sz +vs.length
   ·rw[if_pos hin]
    have hgi:vs[i -(off +ln*sz)]?=some (vs.getD (i -(off +ln*sz)) top):=by
     rw[List.getD_eq_getElem?_getD,List.getElem?_eq_getElem aa];rfl
    obtain⟨u,h1,h2⟩:=hvs.get _ hgi
    refine⟨u,?_,h2⟩
    rw[List.getElem?_append_right aa,hlen',List.getElem?_append_left aa,show i -off -ln*sz=i -(off +ln*sz)from by omega]
    exact h1
   ·rw[if_neg hin]
    have hi:i -off<ln*sz:=by omega
    have h0:=hC (i -off) hi
    rw[show off +(i -off)=i from by omega]at h0
    obtain⟨u,h1,h2⟩:=hold.get _ h0
    refine⟨u,?_,h2⟩
    rw[List.getElem?_append_left aa]
    exact h1
 have:=rk.alloc _ (.cells ⟨old'++vs'++rest⟩ e) off 0 (cap*sz) (off +(ln +k)*sz) hok
 refine⟨_,?_,this.1,ek.trans this.2⟩
 have hr:=VR.gK (m:=m.add (H.put r .dead).next ⟨w.heap.size,off,0,cap*sz,off +(ln +k)*sz⟩) H.next off (ln +k) sz cap ⟨w.heap.size,off,0,cap*sz,off +(ln +k)*sz⟩ (by
  show(if H.next=H.next then _ else _)=_
  rw[if_pos rfl]) (Nat.le_refl _) hs (by simp) hcap (by show off +(ln +k)*sz≤off +cap*sz;omega)
 simpa using hr
theorem Jm(rh:RH m H w){r off ln k sz cc:Nat}{l:Loc}{R:Row}{vs vs':List Value}(hm:m r=some l)(hR:H.obj r=.row R)(hse:R.bX=false)(hlo:l.lo≤off)(hvs:bP m vs vs')(hvl:vs.length=k*sz)
 (hok:vs.all aN=true)(hle:off +ln*sz≤R.n)(hfz:R.fz≤off +ln*sz)(ht:l.base +(off -l.lo) +cc*sz=l.tot)(hc:ln +k≤cc)(hs:1≤sz):
 ∃m' w',(storeCells ⟨l.c,l.base +(off +ln*sz -l.lo),none⟩ vs').run P w=.ok () w'∧
  VR m' (.slice (some ⟨H.next,off,none⟩) (ln +k) (bH sz)) (.slice (some ⟨l.c,l.base +(off -l.lo),none⟩) (ln +k) cc)∧
  RH m' ((H.put r .dead).new (.row ⟨R.ty,Tr.iH top vs (off +ln*sz) R.cells,off +(ln +k)*sz,false,R.fz⟩)) w'∧
  Ex m m' H ((H.put r .dead).new (.row ⟨R.ty,Tr.iH top vs (off +ln*sz) R.cells,off +(ln +k)*sz,false,R.fz⟩)) w w':=by
 obtain⟨cs,fr,hb,hnn,h2,h3,h4,h5,h6⟩:=row_of rh hm hR
 have Jl:vs'.length=k*sz:=by rw[←hvs.length,hvl]
 have hmk:(ln +k)*sz=ln*sz +k*sz:=Nat.add_mul ..
 have hmul:(ln +k)*sz≤cc*sz:=Nat.mul_le_mul_right _ hc
 obtain⟨w',cs',e1,e2,e3,e4,e5,e6,e7,e8,e9⟩:=lF (P:=P) l.c (l.base +(off +ln*sz -l.lo)) R.ty fr vs' 0 cs w hb (oW hvs hok) aa
  (fun j a b d=>by have:=h5 hse;omega)
 have hu:=RH.Pw rh r l ⟨l.c,l.lo,l.base,l.tot,off +(ln +k)*sz⟩ (.row ⟨R.ty,Tr.iH top vs (off +ln*sz) R.cells,off +(ln +k)*sz,false,R.fz⟩) (.cells cs' R.ty fr) hm (by rw[hR];simp) rfl ?_ e2 e6 e5 e7 e8 e9
 ·refine⟨_,w',e1,?_,hu.1,hu.2⟩
  exact VR.gK (m:=m.add H.next ⟨l.c,l.lo,l.base,l.tot,off +(ln +k)*sz⟩) H.next off (ln +k) sz cc ⟨l.c,l.lo,l.base,l.tot,off +(ln +k)*sz⟩ (by simp[Mp.add]) hlo hs ht hc (by show off +(ln +k)*sz≤off +cc*sz;omega)
 ·refine⟨⟨rfl,base_of (l:=l) rh hm hR⟩,rfl,by rw[e3];exact h2,?_,?_,fun _=>h5 hse,?_⟩
  ·show l.lo≤off +(ln +k)*sz
   omega
  ·show l.base +(off +(ln +k)*sz -l.lo)≤l.tot
   omega
  ·intro i a b
   have b:i<off +(ln +k)*sz:=b
   have a:l.lo≤i:=a
   show∃v,cs'[l.base +(i -l.lo)]?=some v∧VR m ((Tr.iH top vs (off +ln*sz) R.cells).get top i) v
   rw[Tr.cz]
   by_cases hin:off +ln*sz≤i∧i<off +ln*sz +vs.length
   ·have hgi:vs[i -(off +ln*sz)]?=some (vs.getD (i -(off +ln*sz)) top):=by
     rw[List.getD_eq_getElem?_getD,List.getElem?_eq_getElem aa];rfl
    obtain⟨u,hu1,hu2⟩:=hvs.get _ hgi
    refine⟨u,?_,by rw[if_pos hin];exact hu2⟩
    rw[e4,if_pos aa,show l.base +(i -l.lo) -(l.base +(off +ln*sz -l.lo) +0)=i -(off +ln*sz)from by omega]
    exact hu1
   ·obtain⟨u,hu1,hu2⟩:=h6 i a aa
    refine⟨u,?_,by rw[if_neg hin];exact hu2⟩
    rw[e4,if_neg aa]
    exact hu1
end mem
section mem
variable{P:Program}{m:Mp}{H:ag}{w:World}
theorem Jn(rh:RH m H w){ats:List TypeId}{ty:TypeId}{args args':List Value}{v:Value}{H':ag}(h:pZ P ats args H=some (v,H'))(ha:bP m args args'):
 iq P m H w (Builtin.append_ ⟨ats⟩ ty ⟨args'⟩) v H':=by
 (replace h:=ae h;obtain⟨t,ht,h⟩:=h)
 (replace h:=ae h;obtain⟨t2,ht2,h⟩:=h)
 (replace h:=ae h;obtain⟨s,hs,h⟩:=h)
 (replace h:=ae h;obtain⟨x,hx,h⟩:=h)
 (replace h:=ae h;obtain⟨q,hq,h⟩:=h)
 (replace h:=ae h;obtain⟨p,hp,h⟩:=h)
 (replace h:=ae h;obtain⟨e,he,h⟩:=h)
 (replace h:=aB h;obtain⟨hk,h⟩:=h)
 rw[cB]at ht ht2 hs hx
 have hk:=Nat.le_of_ble_eq_true hk
 obtain⟨hu,hsz1,i,z0,zs,d2,hi,hsz,hz0,hzc,hzl,hzs,hu2,hd2,hb,hb1⟩:=Pv hq
 obtain⟨s',hs0,hss⟩:=ha.get 0 hs
 obtain⟨x',hx0,zy⟩:=ha.get 1 hx
 rw[ji hp]at hss hs
 obtain⟨base,ln,cp⟩:=p
 obtain⟨k,vs⟩:=e
 simp only at hss hs hk
 obtain⟨hlen,vs',hvs,Jl,hnew⟩:=o8 (P:=P) rh he zy
 obtain⟨_,S9,Jo,Yb,LA⟩:=o8 (P:=P) rh.drew he zy
 have hvl:vs.length=k*q.2:=by rw[hvs.length];exact Jl
 simp only at hlen hvs Jl hnew Jo Yb LA
 cases k with
 |zero=>
  replace h:some (s,H)=some (v,H'):=h
  have hv1:v=s∧H'=H:=by cases h;exact⟨rfl,rfl⟩
  rw[hv1.1,hv1.2,ji hp]
  simp only
  have hv0:vs'=[]:=List.eq_nil_of_length_eq_zero (by rw[Jl,Nat.zero_mul])
  subst hv0
  cases base with
  |none=>
   obtain⟨e1,e2,e3⟩:=hss.ik
   subst e1 e2 e3
   exact⟨m,_,w,C8 hs0 hx0 (by simpa using ht) (by simpa using ht2) hu hu2 hd2 hi hlen (by rw[←hsz]at hnew;exact hnew),hss,rh,Ex.refl _ _ _⟩
  |some a=>
   rcases hss.of_slice with⟨lc,cc,hm,hlo,hsp,e1,hcap⟩|⟨a',e1,e2,e3⟩
   ·subst e1
    have hcc:ln +0≤cc:=by
     rcases hcap with⟨_,h1,h2⟩|⟨_,_,_,_,h1,_⟩<;>omega
    exact⟨m,_,w,j3 (vs':=[]) hs0 hx0 (by simpa using ht) (by simpa using ht2) hu hu2 hd2 hi hcc hlen (by rw[hsz];exact hnew) (by simp[storeCells]),hss,rh,Ex.refl _ _ _⟩
   ·subst e1 e3
    exact⟨m,_,w,j3 (vs':=[]) hs0 hx0 (by simpa using ht) (by simpa using ht2) hu hu2 hd2 hi (Nat.le_refl _) hlen (by rw[hsz];exact hnew) (by simp[storeCells]),hss,rh,Ex.refl _ _ _⟩
 |succ k=>
  have grow:∀(base':Option Addr)(Px cc:Nat)(Py:List Value),args'[0]?=some (.slice base' Px cc)→Px≤16777216→cc<Px +(k +1)→
   (Builtin.firstCells q.2 Px (.slice base' Px cc)).run P w.drew=.ok ⟨Py⟩ w.drew→
   ∃cap rest,Px +(k +1)≤cap∧rest.length=(cap -(Px +(k +1)))*q.2∧
    (Builtin.append_ ⟨ats⟩ ty ⟨args'⟩).run P w=.ok (.slice (some ⟨w.drew.heap.size,0,none⟩) (Px +(k +1)) cap) (w.drew.alloc (.cells ⟨Py++S9++rest⟩ q.1)):=by
   intro base' Px cc Py h0 h1 h2 h3
   rw[←hsz]at h3 LA
   have:=Lt (P:=P) (w:=w) (ty:=ty) (old:=Py) (vs':=S9) h0 hx0 (by simpa using ht) (by simpa using ht2) hu hu2 hd2 hi hz0 hzc hzl hb hb1 h1 hk h2 hlen h3 LA
   rw[hsz]at this
   exact this
  cases base with
  |none=>
   obtain⟨e1,e2,e3⟩:=hss.ik
   subst e1 e2 e3
   replace h:(gd (Nat.beq 0 0&&Nat.beq 0 0) (some (mD q.1 q.2 (k +1) vs H)))=some (v,H'):=h
   (replace h:=aB h;obtain⟨hg,h⟩:=h)
   cases h
   obtain⟨cap,rest,c1,c2,c3⟩:=grow none 0 0 [] hs0 aa aa (by simp[Builtin.firstCells])
   obtain⟨m',g1,g2,g3⟩:=BF (e:=q.1) (ln:=0) (old:=[]) (old':=[]) (vs:=vs) (vs':=S9) (rest:=rest) (k:=k +1) (cap:=cap) (sz:=q.2) rh.drew .nil Jo (by simp) hvl c1 c2 hsz1
   rw[Nat.zero_add]at g1 c3
   exact⟨m',_,_,c3,g1,g2,(Ex.drew m H w).trans g3⟩
  |some a=>
   replace h:(gd (Nat.ble ln 16777216) (au (aP cp) (jX q a ln cp (k +1) vs H) (gd (Nat.beq cp (bH q.2)) (ic q a ln cp (k +1) vs H))))=some (v,H'):=h
   (replace h:=aB h;obtain⟨hln,h⟩:=h)
   have hln:=Nat.le_of_ble_eq_true hln
   cases hkc:aP cp with
   |true=>
    rw[hkc]at h
    replace h:(au (Nat.ble (Nat.add ln (k +1)) cp)
     (ah (H.write a.block (Nat.add a.off (Nat.mul ln q.2)) vs) fun H'=>some (.slice (some a) (Nat.add ln (k +1)) cp,H'))
     (ah (H.read a.block a.off (Nat.mul ln q.2)) fun old=>some (mD q.1 q.2 (Nat.add ln (k +1)) (app old vs) H)))=some (v,H'):=h
    rcases hss.of_slice with⟨lc,cc,hm,hlo,hsp,e1,hcap⟩|⟨a',e1,e2,e3⟩
    ·subst e1
     obtain⟨rfl,Z'⟩:cc=cp∧ln≤cp:=by
      rcases hcap with⟨_,h1,h2⟩|⟨es,h1,_⟩
      ·exact⟨h1,h2⟩
      ·exact absurd h1 (lZ hkc)
     by_cases hroom:ln +(k +1)≤cc
     ·rw[show Nat.ble (Nat.add ln (k +1)) cc=true from Nat.ble_eq_true_of_le hroom]at h
      replace h:(ah (H.write a.block (Nat.add a.off (Nat.mul ln q.2)) vs) fun H'=>some (Value.slice (some a) (Nat.add ln (k +1)) cc,H'))=some (v,H'):=h
      (replace h:=ae h;obtain⟨H1,hH1,h⟩:=h)
      cases h
      obtain⟨w',r1,r2,r3⟩:=oZ (P:=P) rh hH1 hvs hm (Nat.le_trans hlo (Nat.le_add_right _ _))
      refine⟨m,_,w',j3 (vs':=vs') hs0 hx0 (by simpa using ht) (by simpa using ht2) hu hu2 hd2 hi hroom hlen (by rw[hsz];exact hnew) (by rw[xZ _ _ _ _ _ hlo,hsz];exact r1),?_,r2,r3⟩
      obtain⟨ab,ao,asp⟩:=a
      simp only at hsp hm hlo
      subst hsp
      exact VR.slice ab ao (ln +(k +1)) cc lc hm hlo hkc hroom
     ·rw[show Nat.ble (Nat.add ln (k +1)) cc=false from by rw[←Bool.not_eq_true];exact fun hh=>hroom (Nat.le_of_ble_eq_true hh)]at h
      replace h:(ah (H.read a.block a.off (Nat.mul ln q.2)) fun old=>some (mD q.1 q.2 (Nat.add ln (k +1)) (app old vs) H))=some (v,H'):=h
      (replace h:=ae h;obtain⟨old,hold,h⟩:=h)
      cases h
      obtain⟨old',o1,o2,o3⟩:=kL (P:=P) rh.drew hold hm hlo
      obtain⟨cap,rest,c1,c2,c3⟩:=grow _ ln cc old' hs0 hln aa (by simp only[Builtin.firstCells];exact o3)
      obtain⟨m',g1,g2,g3⟩:=BF (e:=q.1) (ln:=ln) (vs:=vs) (vs':=S9) (rest:=rest) (k:=k +1) (cap:=cap) (sz:=q.2) rh.drew o1 Jo (by rw[o1.length];exact o2) hvl c1 c2 hsz1
      rw[fV]
      exact⟨m',_,_,c3,g1,g2,(Ex.drew m H w).trans g3⟩
    ·subst e1 e3
     have hcp:cp=0:=by
      rcases e2 with h1|⟨es,l,h1,_⟩
      ·exact h1
      ·exact absurd h1 (lZ hkc)
     subst hcp
     rw[show Nat.ble (Nat.add 0 (k +1)) 0=false from by rw[←Bool.not_eq_true];intro hh;have:=Nat.le_of_ble_eq_true hh;simp at this]at h
     replace h:(ah (H.read a.block a.off (Nat.mul 0 q.2)) fun old=>some (mD q.1 q.2 (Nat.add 0 (k +1)) (app old vs) H))=some (v,H'):=h
     rw[show Nat.mul 0 q.2=0 from Nat.zero_mul _]at h
     replace h:some (mD q.1 q.2 (Nat.add 0 (k +1)) (app [] vs) H)=some (v,H'):=h
     cases h
     obtain⟨cap,rest,c1,c2,c3⟩:=grow _ 0 0 [] hs0 aa aa (by simp[Builtin.firstCells,loadCells,loadCellsFrom])
     obtain⟨m',g1,g2,g3⟩:=BF (e:=q.1) (ln:=0) (old:=[]) (old':=[]) (vs:=vs) (vs':=S9) (rest:=rest) (k:=k +1) (cap:=cap) (sz:=q.2) rh.drew .nil Jo (by simp) hvl c1 c2 hsz1
     exact⟨m',_,_,c3,g1,g2,(Ex.drew m H w).trans g3⟩
   |false=>
    rw[hkc]at h
    replace h:(gd (Nat.beq cp (bH q.2)) (ic q a ln cp (k +1) vs H))=some (v,H'):=h
    (replace h:=aB h;obtain⟨w_,h⟩:=h)
    have w_:=Nat.eq_of_beq_eq_true w_
    (replace h:=ae h;obtain⟨R,hR,h⟩:=h)
    (replace h:=aB h;obtain⟨hgR,h⟩:=h)
    have zz:=iN hR
    simp only[Bool.and_eq_true]at hgR
    have Zv:R.ty=q.1:=Nat.eq_of_beq_eq_true hgR.1
    by_cases hin:a.off +(ln +(k +1))*q.2≤R.n
    ·rw[show Nat.ble (Nat.add a.off (Nat.mul (Nat.add ln (k +1)) q.2)) R.n=true from Nat.ble_eq_true_of_le hin]at h
     replace h:(ah (H.write a.block (Nat.add a.off (Nat.mul ln q.2)) vs) fun H'=>some (Value.slice (some a) (Nat.add ln (k +1)) cp,H'))=some (v,H'):=h
     (replace h:=ae h;obtain⟨H1,hH1,h⟩:=h)
     cases h
     rcases hss.of_slice with⟨lc,cc,hm,hlo,hsp,e1,hcap⟩|⟨a',e1,e2,e3⟩
     ·subst e1
      obtain⟨es,h1,h2,h3,h4,h5⟩:∃es,cp=bH es∧0<es∧lc.base +(a.off -lc.lo) +cc*es=lc.tot∧ln≤cc∧lc.n≤a.off +cc*es:=by
       rcases hcap with⟨h1,_⟩|h1
       ·rw[hkc]at h1;cases h1
       ·exact h1
      have hes:es=q.2:=by
       rw[w_]at h1
       have h1':18446744073709551616 +q.2=18446744073709551616 +es:=h1
       omega
      subst hes
      obtain⟨_,_,_,hnn,_⟩:=row_of rh hm zz
      have hroom:ln +(k +1)≤cc:=by
       rw[hnn]at hin
       exact Nat.le_of_mul_le_mul_right (c:=q.2) aa h2
      obtain⟨w',r1,r2,r3⟩:=oZ (P:=P) rh hH1 hvs hm (Nat.le_trans hlo (Nat.le_add_right _ _))
      refine⟨m,_,w',j3 (vs':=vs') hs0 hx0 (by simpa using ht) (by simpa using ht2) hu hu2 hd2 hi hroom hlen (by rw[hsz];exact hnew) (by rw[xZ _ _ _ _ _ hlo,hsz];exact r1),?_,r2,r3⟩
      obtain⟨ab,ao,asp⟩:=a
      simp only at hsp hm hlo h3 h5
      subst hsp
      rw[w_]
      exact VR.gK ab ao (ln +(k +1)) q.2 cc lc hm hlo h2 h3 hroom h5
     ·subst e1
      obtain⟨es,l,h1,h2,h3,h4,h5,h6⟩:∃es l,cp=bH es∧m a.block=some l∧l.lo≤a.off∧0<es∧l.n≤a.off∧a.spot=none:=by
       rcases e2 with h1|h1
       ·rw[h1]at hkc;simp[aP]at hkc
       ·exact h1
      obtain⟨_,_,_,hnn,_⟩:=row_of rh h2 zz
      have:1*1≤(0 +(k +1))*q.2:=Nat.mul_le_mul aa hsz1
      omega
    ·rw[show Nat.ble (Nat.add a.off (Nat.mul (Nat.add ln (k +1)) q.2)) R.n=false from by rw[←Bool.not_eq_true];exact fun hh=>hin (Nat.le_of_ble_eq_true hh)]at h
     replace h:(gd (Nat.ble (Nat.add a.off (Nat.mul ln q.2)) R.n&&Nat.ble R.fz (Nat.add a.off (Nat.mul ln q.2))&&all' aN vs)
      (some (Value.slice (some ⟨H.next,a.off,none⟩) (Nat.add ln (k +1)) cp,
      (H.put a.block .dead).new (.row ⟨R.ty,Tr.iH top vs (Nat.add a.off (Nat.mul ln q.2)) R.cells,Nat.add a.off (Nat.mul (Nat.add ln (k +1)) q.2),false,R.fz⟩))))=some (v,H'):=h
     (replace h:=aB h;obtain⟨hg,h⟩:=h)
     cases h
     simp only[Bool.and_eq_true,all_eq]at hg
     have hg1:a.off +ln*q.2≤R.n:=Nat.le_of_ble_eq_true hg.1.1
     have hg2:R.fz≤a.off +ln*q.2:=Nat.le_of_ble_eq_true hg.1.2
     have hg3:=hg.2
     rcases hss.of_slice with⟨lc,cc,hm,hlo,hsp,e1,hcap⟩|⟨a',e1,e2,e3⟩
     ·subst e1
      obtain⟨es,h1,h2,h3,h4,h5⟩:∃es,cp=bH es∧0<es∧lc.base +(a.off -lc.lo) +cc*es=lc.tot∧ln≤cc∧lc.n≤a.off +cc*es:=by
       rcases hcap with⟨h1,_⟩|h1
       ·rw[hkc]at h1;cases h1
       ·exact h1
      have hes:es=q.2:=by
       rw[w_]at h1
       have h1':18446744073709551616 +q.2=18446744073709551616 +es:=h1
       omega
      subst hes
      by_cases hroom:ln +(k +1)≤cc
      ·obtain⟨m',w',r1,r2,r3,r4⟩:=Jm (P:=P) rh (ln:=ln) hm zz (by simpa using hgR.2) hlo hvs hvl hg3 hg1 hg2 h3 hroom hsz1
       rw[w_]
       exact⟨m',_,w',j3 (vs':=vs') hs0 hx0 (by simpa using ht) (by simpa using ht2) hu hu2 hd2 hi hroom hlen (by rw[hsz];exact hnew) (by rw[xZ _ _ _ _ _ hlo,hsz];exact r1),r2,r3,r4⟩
      ·have hrd:H.read a.block a.off (ln*q.2)=some (Tr.vz top R.cells a.off (ln*q.2)):=by
        cases hz:ln*q.2 with
        |zero=>rfl
        |succ n=>
         show(ah (jy (H.obj a.block)) fun w=>gd (Nat.ble (Nat.add a.off (n +1)) w.n) (some (Tr.vz top w.cells a.off (n +1))))=_
         rw[hR]
         show(gd (Nat.ble (Nat.add a.off (n +1)) R.n) _)=_
         rw[show Nat.ble (Nat.add a.off (n +1)) R.n=true from Nat.ble_eq_true_of_le (by rw[←hz];exact hg1)]
         rfl
       obtain⟨old',o1,o2,o3⟩:=kL (P:=P) rh.drew hrd hm hlo
       obtain⟨cap,rest,c1,c2,c3⟩:=grow _ ln cc old' hs0 hln aa (by simp only[Builtin.firstCells];exact o3)
       obtain⟨m',g1,g2,g3⟩:=Aj (e:=R.ty) (fz:=R.fz) (off:=a.off) (C:=R.cells) (ln:=ln) (vs:=vs) (vs':=S9) (rest:=rest) (k:=k +1) (cap:=cap) (sz:=q.2) rh.drew a.block (by rw[hm];simp) o1 Jo (by rw[o1.length];exact o2) hvl (fun j hj=>GJ _ _ _ _ _ hj) c1 c2 hsz1
       rw[w_,←Zv]at*
       exact⟨m',_,_,c3,g1,g2,(Ex.drew m H w).trans g3⟩
     ·have hm0:m a.block≠none:=by
       rcases e2 with h1|⟨es,l,h1,h2,_⟩
       ·rw[h1]at hkc;simp[aP]at hkc
       ·rw[h2];simp
      subst e1 e3
      obtain⟨cap,rest,c1,c2,c3⟩:=grow _ 0 0 [] hs0 aa aa (by simp[Builtin.firstCells,loadCells,loadCellsFrom])
      obtain⟨m',g1,g2,g3⟩:=Aj (e:=R.ty) (fz:=R.fz) (off:=a.off) (C:=R.cells) (old:=[]) (old':=[]) (ln:=0) (vs:=vs) (vs':=S9) (rest:=rest) (k:=k +1) (cap:=cap) (sz:=q.2) rh.drew a.block hm0 .nil Jo (by simp) hvl (fun j hj=>by omega) c1 c2 hsz1
      rw[w_]
      rw[←Zv]at c3
      exact⟨m',_,_,c3,g1,g2,(Ex.drew m H w).trans g3⟩
end mem
section mem
variable{P:Program}{m:Mp}{H:ag}{w:World}
theorem Jp(rh:RH m H w){sz:Nat}{x x':Value}{e:Nat×List Value}(h:appended H sz x=some e)(hx:VR m x x'):
 (∀w,(Builtin.lenOf x').run P w=.ok e.1 w)∧∃vs',bP m e.2 vs'∧vs'.length=e.1*sz∧∀n,n≤e.1→(Builtin.firstCells sz n x').run P w=.ok ⟨vs'.take (n*sz)⟩ w:=by
 refine⟨(o8 (P:=P) rh h hx).1,?_⟩
 unfold appended at h
 cases hs:gX x with
 |some s=>
  rw[hs]at h
  replace h:(gd (Nat.beq sz 1) (some (len s.data.toList,dn s.data.toList)))=some e:=h
  (replace h:=aB h;obtain⟨hg,h⟩:=h)
  cases h
  have hg:=Nat.eq_of_beq_eq_true hg
  subst hg
  rw[dU hs]at hx
  have:=hx.iT;subst this
  refine⟨dn s.data.toList,bP.dD (vJ _),by rw[jH];simp[aJ],?_⟩
  intro n hn
  have hd:(s.extract 0 n).data=s.data.extract 0 n:=by rw[ByteArray.data_extract]
  simp only[Builtin.firstCells]
  rw[hd,jH,Nat.mul_one]
  show Result.ok _ w=Result.ok _ w
  congr 1
  rw[←Array.toList_inj];simp
 |none=>
  rw[hs]at h
  replace h:(ah (wH x) fun p=>@Option.rec Addr (fun _=>Option (Nat×List Value)) (gd (Nat.beq p.2.1 0) (some (0,[])))
   (fun a=>ah (H.read a.block a.off (Nat.mul p.2.1 sz)) fun l=>some (p.2.1,l)) p.1)=some e:=h
  (replace h:=ae h;obtain⟨p,hp,h⟩:=h)
  rw[ji hp]at hx
  obtain⟨pa,n,cp⟩:=p
  cases pa with
  |none=>
   obtain⟨h1,h2,rfl⟩:=hx.ik
   replace h:(gd (Nat.beq n 0) (some (0,([]:List Value))))=some e:=h
   (replace h:=aB h;obtain⟨hg,h⟩:=h)
   cases h
   exact⟨[],.nil,by simp,fun n hn=>by simp[Builtin.firstCells]⟩
  |some a=>
   replace h:(ah (H.read a.block a.off (Nat.mul n sz)) fun l=>some (n,l))=some e:=h
   (replace h:=ae h;obtain⟨l,hl,h⟩:=h)
   cases h
   simp only at hx
   rcases hx.of_slice with⟨lc,cc,hm,hlo,hsp,rfl,_⟩|⟨a',e1,e2,rfl⟩
   ·obtain⟨vs',h1,h2,h3⟩:=xg rh hl hm hlo
    refine⟨vs',h1,h2,?_⟩
    intro k hk
    simp only[Builtin.firstCells]
    have hkl:(vs'.take (k*sz)).length=k*sz:=by
     rw[List.length_take,h2]
     exact Nat.min_eq_left (Nat.mul_le_mul_right _ hk)
    rw[show k*sz=(vs'.take (k*sz)).length from hkl.symm]
    rw[hkl]
    have:=run_loadCells_list (P:=P) w ⟨lc.c,lc.base +(a.off -lc.lo),none⟩ (vs'.take (k*sz)) (fun j v hj=>h3 j v (by
     rw[List.getElem?_take]at hj
     split at hj
     ·exact hj
     ·cases hj))
    rw[hkl]at this
    exact this
   ·subst e1
    have hz:Nat.mul 0 sz=0:=Nat.zero_mul sz
    rw[hz]at hl
    cases hl
    refine⟨[],.nil,by simp,?_⟩
    intro n hn
    have:n=0:=by simpa using hn
    subst this
    simp[Builtin.firstCells,loadCells,loadCellsFrom]
theorem Pz(rh:RH m H w){ats:List TypeId}{ty:TypeId}{args args':List Value}{v:Value}{H':ag}(h:Aa P ats args H=some (v,H'))(ha:bP m args args'):
 iq P m H w (Builtin.copy_ ⟨ats⟩ ty ⟨args'⟩) v H':=by
 (replace h:=ae h;obtain⟨t,ht,h⟩:=h)
 (replace h:=ae h;obtain⟨d,hd,h⟩:=h)
 (replace h:=ae h;obtain⟨x,hx,h⟩:=h)
 (replace h:=ae h;obtain⟨q,hq,h⟩:=h)
 (replace h:=ae h;obtain⟨p,hp,h⟩:=h)
 (replace h:=ae h;obtain⟨e,he,h⟩:=h)
 rw[cB]at ht hd hx
 obtain⟨hu,⟨i,hi,hsz⟩,hs1⟩:=lu hq
 obtain⟨d',hd0,hdd⟩:=ha.get 0 hd
 obtain⟨x',hx0,zy⟩:=ha.get 1 hx
 rw[ji hp]at hdd
 obtain⟨base,ln,cp⟩:=p
 obtain⟨k,vs⟩:=e
 obtain⟨hlen,vs',hvs,hvl,Ff⟩:=Jp (P:=P) rh he zy
 simp only at hdd hlen hvs hvl Ff
 have hat:(⟨ats⟩:Array TypeId)[0]?=some t:=by simpa using ht
 have ha0:(⟨args'⟩:Array Value)[0]?=some d':=by simpa using hd0
 have ha1:(⟨args'⟩:Array Value)[1]?=some x':=by simpa using hx0
 cases base with
 |none=>
  obtain⟨e1,e2,e3⟩:=hdd.ik
  subst e1 e2 e3
  replace h:(gd (Nat.beq 0 0) (some (Value.int .i64 0,H)))=some (v,H'):=h
  (replace h:=aB h;obtain⟨hg,h⟩:=h)
  cases h
  have hf:=Ff 0 (Nat.zero_le _)
  refine⟨m,_,w,?_,.sc _ rfl,rh,Ex.refl _ _ _⟩
  have hmin:Nat.min k 0=0:=Nat.min_zero k
  simp[Builtin.copy_,hat,ha0,ha1,aA hu,hlen,bG hi,hsz,hmin,hf,goInt]
 |some a=>
  replace h:(ah (H.write a.block a.off (tk (Nat.mul (au (Nat.ble k ln) k ln) q.2) vs)) fun H'=>some (Value.int .i64 (.ofNat (au (Nat.ble k ln) k ln)),H'))=some (v,H'):=h
  have hb:au (Nat.ble k ln) k ln=Nat.min k ln:=by
   by_cases hh:k≤ln
   ·rw[show Nat.ble k ln=true from Nat.ble_eq_true_of_le hh];exact(Nat.min_eq_left hh).symm
   ·rw[show Nat.ble k ln=false from by rw[←Bool.not_eq_true];exact fun g=>hh (Nat.le_of_ble_eq_true g)];exact(Nat.min_eq_right (Nat.le_of_not_le hh)).symm
  rw[hb,vB]at h
  (replace h:=ae h;obtain⟨H1,hH1,h⟩:=h)
  cases h
  have hf:=Ff (Nat.min k ln) (Nat.min_le_left _ _)
  have Z_:bP m (vs.take (Nat.mul (Nat.min k ln) q.2)) (vs'.take (Nat.min k ln*q.2)):=hvs.take _
  rcases hdd.of_slice with⟨lc,cc,hm,hlo,hsp,rfl,_⟩|⟨a',e1,e2,rfl⟩
  ·obtain⟨w',r1,r2,r3⟩:=oZ (P:=P) rh hH1 Z_ hm hlo
   refine⟨m,_,w',?_,.sc _ rfl,r2,r3⟩
   simp only[Builtin.copy_,hat,ha0,ha1,Sem.run_bind,aA hu,Result.andThen_ok,hlen,bG hi,hsz,hf,r1,Sem.run_pure]
   rfl
  ·subst e1
   have hz:Nat.mul (Nat.min k 0) q.2=0:=by rw[show Nat.min k 0=0 from Nat.min_zero k];exact Nat.zero_mul _
   rw[hz]at hH1
   have Yc:H'=H:=by
    replace hH1:some H=some H':=hH1
    cases hH1;rfl
   subst Yc
   refine⟨m,_,w,?_,.sc _ rfl,rh,Ex.refl _ _ _⟩
   have hz':Nat.min k 0*q.2=0:=hz
   simp only[Builtin.copy_,hat,ha0,ha1,Sem.run_bind,aA hu,Result.andThen_ok,hlen,bG hi,hsz,hf,hz',List.take_zero,storeCells,Sem.run_pure]
   rfl
theorem Jq(rh:RH m H w){ats:List TypeId}{ty:TypeId}{args args':List Value}{v:Value}{H':ag}(h:Gu P ats args H=some (v,H'))(ha:bP m args args'):
 iq P m H w (Builtin.clear_ ⟨ats⟩ ty ⟨args'⟩) v H':=by
 (replace h:=ae h;obtain⟨t,ht,h⟩:=h)
 (replace h:=ae h;obtain⟨d,hd,h⟩:=h)
 (replace h:=ae h;obtain⟨q,hq,h⟩:=h)
 (replace h:=ae h;obtain⟨z,hz,h⟩:=h)
 (replace h:=ae h;obtain⟨p,hp,h⟩:=h)
 rw[cB]at ht hd
 obtain⟨hu,⟨inf,hi,hsz⟩,hs1⟩:=lu hq
 obtain⟨i,z0,hi',hz0,Li,hlen,hs⟩:=kR hz
 rw[hi]at hi';cases hi'
 obtain⟨d',hd0,hdd⟩:=ha.get 0 hd
 rw[ji hp]at hdd
 obtain⟨base,ln,cp⟩:=p
 have hat:(⟨ats⟩:Array TypeId)[0]?=some t:=by simpa using ht
 have ha0:(⟨args'⟩:Array Value)[0]?=some d':=by simpa using hd0
 have hv:VR m (.tuple #[]) (.tuple #[]):=.tuple [] [] .nil
 cases base with
 |none=>
  obtain⟨e1,e2,e3⟩:=hdd.ik
  subst e1 e2 e3
  replace h:some ((.tuple #[]:Value),H)=some (v,H'):=h
  cases h
  refine⟨m,_,w,?_,hv,rh,Ex.refl _ _ _⟩
  simp[Builtin.clear_,hat,ha0,aA hu]
 |some a=>
  replace h:(ah (H.write a.block a.off (jf z ln)) fun H'=>some ((.tuple #[]:Value),H'))=some (v,H'):=h
  (replace h:=ae h;obtain⟨H1,hH1,h⟩:=h)
  cases h
  have hzc:z0.cells=⟨z⟩:=by rw[Li]
  have X8:bP m (jf z ln) (jf z ln):=bP.dD (m:=m) (uP hs ln)
  have hzs:Builtin.zeroCells z0.cells ln=⟨jf z ln⟩:=by
   rw[hzc]
   exact xU z ln
  rcases hdd.of_slice with⟨lc,cc,hm,hlo,hsp,rfl,_⟩|⟨a',e1,e2,rfl⟩
  ·obtain⟨w',r1,r2,r3⟩:=oZ (P:=P) rh hH1 X8 hm hlo
   refine⟨m,_,w',?_,hv,r2,r3⟩
   cases ln with
   |zero=>
    have hw:w'=w:=by
     have r1:(storeCells ⟨lc.c,lc.base +(a.off -lc.lo),none⟩ ([]:List Value)).run P w=.ok () w':=r1
     simp[storeCells]at r1
     exact r1.symm
    subst hw
    simp[Builtin.clear_,hat,ha0,aA hu]
   |succ ln=>
    simp only[Builtin.clear_,hat,ha0,Sem.run_bind,aA hu,Result.andThen_ok,lz hi hz0,hzs,r1,Sem.run_pure]
  ·subst e1
   have Yc:H'=H:=by
    replace hH1:some H=some H':=hH1
    cases hH1;rfl
   subst Yc
   refine⟨m,_,w,?_,hv,rh,Ex.refl _ _ _⟩
   simp[Builtin.clear_,hat,ha0,aA hu]
theorem LB(rh:RH m H w){ats:List TypeId}{ty:TypeId}{args args':List Value}{v:Value}{H':ag}(h:uH P ats args H=some (v,H'))(ha:bP m args args'):
 iq P m H w (Builtin.clear_ ⟨ats⟩ ty ⟨args'⟩) v H':=by
 unfold uH at h
 cases hmm:ah (nth args 0) uA with
 |none=>rw[hmm]at h;exact Jq rh h ha
 |some mr=>
  rw[hmm]at h
  replace h:Gv P mr ats H=some (v,H'):=h
  obtain⟨d,hd,hmr⟩:=ae hmm
  (replace h:=ae h;obtain⟨t,ht,h⟩:=h)
  (replace h:=ae h;obtain⟨q,hq,h⟩:=h)
  rw[cB]at ht hd
  obtain⟨x',hx0,zy⟩:=ha.get 0 hd
  have hut:=p_ hq
  rw[lY hmr]at zy
  have hat:(⟨ats⟩:Array TypeId)[0]?=some t:=by simpa using ht
  cases mr with
  |none=>
   have ex:=zy.gU rfl
   subst ex
   have ha0:(⟨args'⟩:Array Value)[0]?=some (.map none):=by simpa using hx0
   replace h:some ((.tuple #[]:Value),H)=some (v,H'):=h
   cases h
   refine⟨m,_,w,?_,.tuple [] [] .nil,rh,Ex.refl _ _ _⟩
   simp[Builtin.clear_,hat,ha0,aA hut]
  |some r=>
   replace h:(ah (xz (H.obj r)) fun _=>some ((.tuple #[]:Value),H.put r (.map [])))=some (v,H'):=h
   (replace h:=ae h;obtain⟨es,hes,h⟩:=h)
   obtain⟨l,hm,rfl⟩:=zy.of_map
   obtain⟨kz,cl,hb,he⟩:=xY rh hm (lU hes)
   have nk:H.obj r≠.dead:=by rw[lU hes];simp
   have ha0:(⟨args'⟩:Array Value)[0]?=some (.map (some l.c)):=by simpa using hx0
   cases h
   have:=RH.update rh r l (.map []) (.map #[] cl) hm nk .nil (qm hb) kV (fun c hc=>qo hc) rfl rfl rfl
   refine⟨m,_,qI w l.c (.map #[] cl),?_,.tuple [] [] .nil,this.1,this.2⟩
   simp only[Builtin.clear_,hat,ha0,Sem.run_bind,aA hut,Result.andThen_ok,iw hb,lG hb,Sem.run_pure]
theorem oJ.erase{es:List (Value×Value)}{l:List MapEntry}(h:oJ m es l):∀(j:Nat),oJ m (es.eraseIdx j) (l.eraseIdx j):=by
 induction h with
 |nil=>intro j;exact .nil
 |cons k0 v0 e0 l0 UN hk hv hl ih=>
  intro j
  cases j with
  |zero=>exact hl
  |succ j=>exact .cons k0 v0 e0 _ _ hk hv (ih j)
theorem Jr{α:Type}:∀(j:Nat)(l:List α),uG j l=l.eraseIdx j:=by
 intro j
 induction j with
 |zero=>intro l;cases l<;>rfl
 |succ j ih=>
  intro l
  cases l with
  |nil=>rfl
  |cons x l=>show x::uG j l=_;rw[ih];rfl
theorem Js(rh:RH m H w){ats:List TypeId}{ty:TypeId}{args args':List Value}{v:Value}{H':ag}(h:sG P ats args H=some (v,H'))(ha:bP m args args'):
 iq P m H w (Builtin.delete_ ⟨ats⟩ ty ⟨args'⟩) v H':=by
 (replace h:=ae h;obtain⟨t,ht,h⟩:=h)
 (replace h:=ae h;obtain⟨x,hx,h⟩:=h)
 (replace h:=ae h;obtain⟨k,hk,h⟩:=h)
 (replace h:=ae h;obtain⟨q,hq,h⟩:=h)
 (replace h:=ae h;obtain⟨mr,hmr,h⟩:=h)
 (replace h:=ae h;obtain⟨r,hr,h⟩:=h)
 (replace h:=ae h;obtain⟨es,hes,h⟩:=h)
 (replace h:=ae h;obtain⟨u,hu,h⟩:=h)
 (replace h:=ae h;obtain⟨f,hf,h⟩:=h)
 subst hr
 rw[cB]at ht hx hk
 obtain⟨x',hx0,zy⟩:=ha.get 0 hx
 obtain⟨k',hk0,Vi⟩:=ha.get 1 hk
 have hut:=p_ hq
 have hkk:=xX hu
 rw[lY hmr]at zy
 obtain⟨l,hm,rfl⟩:=zy.of_map
 obtain⟨kz,cl,hb,he⟩:=xY rh hm (lU hes)
 obtain⟨r',hfind,hfr⟩:=rC Vi he hf hkk w
 have hck:(Instr.checkKey kz.isEmpty 10000 q.1 k').run P w=.ok () w:=o7 hkk Vi _ 9998 w
 have nk:H.obj r≠.dead:=by rw[lU hes];simp
 have hat:(⟨ats⟩:Array TypeId)[0]?=some t:=by simpa using ht
 have ha0:(⟨args'⟩:Array Value)[0]?=some (.map (some l.c)):=by simpa using hx0
 have ha1:(⟨args'⟩:Array Value)[1]?=some k':=by simpa using hk0
 cases f with
 |none=>
  cases r' with
  |some _=>exact hfr.elim
  |none=>
   replace h:some (Value.tuple #[],H.put r (.map es))=some (v,H'):=h
   cases h
   have:=RH.update rh r l (.map es) (.map kz cl) hm nk he (qm hb) kV (fun c hc=>qo hc) rfl rfl rfl
   refine⟨m,_,qI w l.c (.map kz cl),?_,.tuple [] [] .nil,this.1,this.2⟩
   simp only[Builtin.delete_,hat,ha0,ha1,Sem.run_bind,aA hut,Result.andThen_ok,iw hb,hck,hfind,lG hb,Sem.run_pure]
 |some p=>
  cases r' with
  |none=>exact hfr.elim
  |some p'=>
   obtain⟨j,v0⟩:=p
   obtain⟨j',Z7⟩:=p'
   obtain⟨rfl,hvv⟩:=hfr
   replace h:some (Value.tuple #[],H.put r (.map (uG j es)))=some (v,H'):=h
   cases h
   have hnew:oJ m (uG j es) (kz.eraseIdxIfInBounds j).toList:=by
    rw[Jr,Array.toList_eraseIdxIfInBounds];exact he.erase j
   have:=RH.update rh r l (.map (uG j es)) (.map (kz.eraseIdxIfInBounds j) cl) hm nk hnew (qm hb) kV (fun c hc=>qo hc) rfl rfl rfl
   refine⟨m,_,qI w l.c (.map (kz.eraseIdxIfInBounds j) cl),?_,.tuple [] [] .nil,this.1,this.2⟩
   simp only[Builtin.delete_,hat,ha0,ha1,Sem.run_bind,aA hut,Result.andThen_ok,iw hb,hck,hfind,lG hb,Sem.run_pure]
theorem LC(rh:RH m H w){t:TypeId}{x x' v:Value}{H':ag}(h:uI P t x H=some (v,H'))(hx:VR m x x'):
 iq P m H w (Instr.range t x') v H':=by
 (replace h:=aB h;obtain⟨hg,h⟩:=h)
 (replace h:=ae h;obtain⟨s,hs,h⟩:=h)
 cases h
 rw[dU hs]at hx
 have:=hx.iT;subst this
 have hu:P.underlying t=some .string:=uM hg
 have:=rh.alloc (.oM s 0) (.stringIter s 0) 0 0 0 0 ⟨rfl,rfl,rfl⟩
 refine⟨_,_,_,?_,BB (l:=⟨w.heap.size,0,0,0,0⟩) (by simp[Mp.add]) rfl rfl,this.1,this.2⟩
 simp[Instr.range,aA hu]
theorem PD(rh:RH m H w){str:Bool}{t:TypeId}{x x' v:Value}{H':ag}(h:Ab x str H=some (v,H'))(hx:VR m x x'):
 iq P m H w (Instr.next x' str t) v H':=by
 (replace h:=ae h;obtain⟨a,ha,h⟩:=h)
 (replace h:=ae h;obtain⟨q,hq,h⟩:=h)
 (replace h:=aB h;obtain⟨hg,h⟩:=h)
 simp only[Bool.and_eq_true]at hg
 obtain⟨rfl,hg2⟩:=hg
 have hoff:=Nat.eq_of_beq_eq_true hg2
 rw[dS ha]at hx
 obtain⟨ab,ao,asp⟩:=a
 simp only at hoff
 subst hoff
 obtain⟨l,hm,hlo,hsp,rfl⟩:=hx.gL
 have ho:=O3 hq
 simp only at hm hlo hsp ho
 obtain⟨ob,hb,hk⟩:=rh.ok ab l hm
 rw[ho]at hk
 cases ob with
 |stringIter s' p'=>
  obtain⟨rfl,rfl,hbase⟩:=hk
  have nk:H.obj ab≠.dead:=by rw[ho];simp
  have Q8:l.base +(0 -l.lo)=0:=by omega
  have hget:(getObj l.c).run P w=.ok (.stringIter q.1 q.2) w:=by simp[getObj,Sem.run,hb]
  by_cases hlt:q.2<q.1.size
  ·rw[show Nat.ble (Nat.succ q.2) (len q.1.data.toList)=true from by rw[aJ];exact Nat.ble_eq_true_of_le hlt]at h
   replace h:some (KR ab q.1 q.2 (Utf8.decode q.1 q.2) H)=some (v,H'):=h
   cases h
   have:=RH.update rh ab l (.oM q.1 (q.2 +(Utf8.decode q.1 q.2).2)) (.stringIter q.1 (q.2 +(Utf8.decode q.1 q.2).2)) hm nk ⟨rfl,rfl,hbase⟩ (qm hb) kV (fun c hc=>qo hc) rfl rfl rfl
   refine⟨m,_,qI w l.c (.stringIter q.1 (q.2 +(Utf8.decode q.1 q.2).2)),?_,.tuple _ _ (bP.dD rfl),this.1,this.2⟩
   have hset:(setObj l.c (.stringIter q.1 (q.2 +(Utf8.decode q.1 q.2).2))).run P w=.ok () (qI w l.c (.stringIter q.1 (q.2 +(Utf8.decode q.1 q.2).2))):=by
    simp[setObj,Sem.run,qI,hb]
   simp only[Instr.next,Q8,Sem.run_bind,hget,Result.andThen_ok,hlt,if_true,hset,Sem.run_pure]
   rfl
  ·rw[show Nat.ble (Nat.succ q.2) (len q.1.data.toList)=false from by
    rw[←Bool.not_eq_true,aJ];exact fun g=>hlt (Nat.le_of_ble_eq_true g)]at h
   replace h:some (Value.tuple #[.bool false],H)=some (v,H'):=h
   cases h
   refine⟨m,_,w,?_,.tuple _ _ (bP.dD rfl),rh,Ex.refl _ _ _⟩
   simp only[Instr.next,Q8,Sem.run_bind,hget,Result.andThen_ok,hlt,if_false,Sem.run_pure]
 |_=>exact hk.elim
end mem
section mem
variable{P:Program}{m:Mp}{H:ag}{w:World}
theorem Jt{f:Array TypeId→TypeId→Array Value→Sem Value}(f0:∀ats ty n c w,(f ats ty #[.slice none n c]).run P w=.ok (.pointer none) w)(f1:∀ats ty a n c w,(f ats ty #[.slice (some a) n (c +1)]).run P w=.ok (.pointer (some a)) w)(rh:RH m H w){ats:Array TypeId}{ty:TypeId}{args args':List Value}{v:Value}{H':ag}(h:sH args H=some (v,H'))(ha:bP m args args'):
 iq P m H w (f ats ty ⟨args'⟩) v H':=by
 (replace h:=aB h;obtain⟨hl,h⟩:=h)
 (replace h:=ae h;obtain⟨x,hx,h⟩:=h)
 (replace h:=ae h;obtain⟨p,hp,h⟩:=h)
 rw[cB]at hx
 rw[aJ]at hl
 have hl:=Nat.eq_of_beq_eq_true hl
 obtain⟨x',hx0,zy⟩:=ha.get 0 hx
 have hl':args'.length=1:=by rw[←ha.length,hl]
 have he:args'=[x']:=by
  match args',hl',hx0 with
  |[y],_,h0=>cases h0;rfl
 subst he
 rw[ji hp]at zy
 obtain⟨base,ln,cp⟩:=p
 cases base with
 |none=>
  obtain⟨e1,e2,e3⟩:=zy.ik
  subst e1 e2 e3
  replace h:some (Value.pointer none,H)=some (v,H'):=h
  cases h
  exact⟨m,_,w,f0 ats ty 0 0 w,.sc _ rfl,rh,Ex.refl _ _ _⟩
 |some a=>
  replace h:(gd (Nat.ble 1 ln||(aP cp&&Nat.ble 1 cp)) (some (Value.pointer (some a),H)))=some (v,H'):=h
  (replace h:=aB h;obtain⟨hg,h⟩:=h)
  cases h
  simp only[Bool.or_eq_true,Bool.and_eq_true]at hg
  rcases zy.of_slice with⟨lc,cc,hm,hlo,hsp,e1,hcap⟩|⟨a',e1,e2,e3⟩
  ·subst e1
   have hcc:cc≠0:=by
    rcases hcap with⟨h0,h1,h2⟩|⟨es,h1,h2,h3,h4,h5⟩
    ·simp only at h1 h2
     rcases hg with g|g
     ·have:=Nat.le_of_ble_eq_true g;omega
     ·have:=Nat.le_of_ble_eq_true g.2;omega
    ·rcases hg with g|g
     ·have:=Nat.le_of_ble_eq_true g;simp only at h4;omega
     ·exact absurd h1 (lZ g.1)
   refine⟨m,_,w,(by obtain⟨k,rfl⟩:∃k,cc=k +1:=⟨cc -1,aa⟩;exact f1 ats ty _ _ k w),?_,rh,Ex.refl _ _ _⟩
   obtain⟨ab,ao,asp⟩:=a
   simp only at hsp hm hlo
   subst hsp
   exact VR.ptr ab ao lc hm hlo
  ·exfalso
   simp only at e1 e2
   subst e1
   rcases hg with g|g
   ·simp at g
   ·rcases e2 with h1|⟨es,l,h1,_⟩
    ·subst h1;simp at g
    ·exact absurd h1 (lZ g.1)
theorem zL(w:World)(e:TypeId)(s:ByteArray):
 Lib.bytesWorld w e s=w.drew.alloc (.cells (Lib.bytesCells w e s) e ((Lib.bytesCells w e s).size,(Lib.bytesCells w e s).size +1)):=by
 unfold Lib.bytesWorld World.freeze
 rw[if_neg aa]
 unfold World.alloc
 congr 1
 apply Array.ext_getElem?
 intro i
 rw[Array.getElem?_modify]
 have hd:w.drew.heap=w.heap:=rfl
 simp only[hd]
 by_cases hi:w.heap.size=i
 ·subst hi;simp
 ·rw[if_neg hi]
  rw[Array.getElem?_push,Array.getElem?_push,if_neg (Ne.symm hi),if_neg (Ne.symm hi)]
theorem C9(rh:RH m H w){s d:TypeId}{q:TypeId×Nat}{x x' v:Value}{H':ag}{u:TypeDesc}(h:qY P q x H=some (v,H'))(hx:VR m x x')
 (hs:P.underlying s=some u)(hd:P.underlying d=some (.slice q.1)):iq P m H w (convert s d x') v H':=by
 (replace h:=ae h;obtain⟨b,hb,h⟩:=h)
 (replace h:=aB h;obtain⟨hg,h⟩:=h)
 cases h
 simp only[Bool.and_eq_true]at hg
 rw[dU hb]at hx
 have:=hx.iT;subst this
 have hrun:=Lib.run_convert_string_bytes (P:=P) w s d q.1 b hs hd (CZ hg.2)
 rw[zL]at hrun
 have hsz:b.size=b.data.toList.length:=rfl
 have hcap:b.size≤grownCap w b.size 0 q.1:=by simp[grownCap,Question.cut]
 have hcs:(Lib.bytesCells w q.1 b).size=grownCap w b.size 0 q.1:=by
  simp[Lib.bytesCells]
  have:b.data.size=b.size:=rfl
  omega
 have hok:iJ m ⟨w.drew.heap.size,0,0,grownCap w b.size 0 q.1,b.size⟩ (.row ⟨q.1,Tr.iH top (dn b.data.toList) 0 .nil,len b.data.toList,true,0⟩)
  (.cells (Lib.bytesCells w q.1 b) q.1 ((Lib.bytesCells w q.1 b).size,(Lib.bytesCells w q.1 b).size +1)):=by
  refine⟨⟨rfl,rfl⟩,by rw[aJ];rfl,hcs,Nat.zero_le _,?_,?_,?_⟩
  ·show 0 +(len b.data.toList -0)≤_
   rw[aJ,←hsz];simpa using hcap
  ·intro hh;cases hh
  ·intro i a c
   have c:i<len b.data.toList:=c
   rw[aJ]at c
   show∃v,(Lib.bytesCells w q.1 b)[0 +(i -0)]?=some v∧VR m ((Tr.iH top (dn b.data.toList) 0 .nil).get top i) v
   have hbl:(dn b.data.toList).length=b.data.toList.length:=by rw[jH];simp
   rw[Tr.cz,if_pos aa,jH]
   have hi:i<b.data.size:=by simpa using c
   refine⟨.int .u8 b.data[i].toNat,?_,?_⟩
   ·have hi':i<b.size:=hi
    simp[Lib.bytesCells,Array.getElem?_append,hi,hi']
   ·rw[List.getD_eq_getElem?_getD]
    have hg:((b.data.toList.map fun b=>Value.int .u8 b.toNat)[i]?.getD top)=Value.int .u8 b.data[i].toNat:=by simp[Array.getElem?_eq_getElem hi]
    rw[Nat.sub_zero,hg]
    exact .sc _ rfl
 have:=rh.drew.alloc _ _ 0 0 (grownCap w b.size 0 q.1) b.size hok
 refine⟨_,_,_,hrun,?_,this.1,(Ex.drew m H w).trans this.2⟩
 have hr:=VR.gK (m:=m.add H.next ⟨w.drew.heap.size,0,0,grownCap w b.size 0 q.1,b.size⟩) H.next 0 b.size 1 (grownCap w b.size 0 q.1) ⟨w.drew.heap.size,0,0,grownCap w b.size 0 q.1,b.size⟩
  (by simp[Mp.add]) (Nat.le_refl _) aa (by simp) hcap (by simpa using hcap)
 rw[aJ,←hsz]
 exact hr
theorem Ak:∀{l l':List Value}{bs:List UInt8},fA l=some bs→bP m l l'→l'=bs.map (fun b=>Value.int .u8 b.toNat):=by
 intro l
 induction l with
 |nil=>intro l' bs h hv;cases hv;cases h;rfl
 |cons x l ih=>
  intro l' bs h hv
  replace h:(ah (gW x) fun p=>ah (wG p.2) fun n=>gd (wI p.1&&Nat.ble n 255) (ah (fA l) fun bs=>some (UInt8.ofNat n::bs)))=some bs:=h
  (replace h:=ae h;obtain⟨p,hp,h⟩:=h)
  (replace h:=ae h;obtain⟨n,hn,h⟩:=h)
  (replace h:=aB h;obtain⟨hg,h⟩:=h)
  (replace h:=ae h;obtain⟨r,hr,h⟩:=h)
  cases h
  cases hv with
  |cons _ v' _ t' h1 h2=>
   simp only[Bool.and_eq_true]at hg
   have hle:=Nat.le_of_ble_eq_true hg.2
   rw[eT hp]at h1
   have:=h1.of_int;subst this
   have hk:p.1=.u8:=by
    have:=hg.1
    cases hp1:p.1<;>rw[hp1]at this<;>first|rfl|(simp[wI]at this)
   rw[ih hr h2,hk,wY hn]
   simp
   omega
theorem C_(rh:RH m H w){s d:TypeId}{q:TypeId×Nat}{x x' v:Value}{H':ag}(h:qZ P q x H=some (v,H'))(hx:VR m x x')
 (hs:P.underlying s=some (.slice q.1))(hd:P.underlying d=some .string):iq P m H w (convert s d x') v H':=by
 (replace h:=ae h;obtain⟨p,hp,h⟩:=h)
 (replace h:=aB h;obtain⟨hg,h⟩:=h)
 simp only[Bool.and_eq_true]at hg
 have Yd:=CZ hg.2
 rw[ji hp]at hx
 obtain⟨base,ln,cp⟩:=p
 cases base with
 |none=>
  obtain⟨e1,e2,e3⟩:=hx.ik
  subst e1 e2 e3
  replace h:some (Value.string ⟨⟨[]⟩⟩,H)=some (v,H'):=h
  cases h
  refine⟨m,_,w,?_,.sc _ rfl,rh,Ex.refl _ _ _⟩
  rw[run_convert_bytes_string w s d q.1 none 0 0 hs Yd hd]
  rfl
 |some a=>
  replace h:(ah (H.read a.block a.off ln) fun l=>ah (fA l) fun bs=>some (Value.string ⟨⟨bs⟩⟩,H))=some (v,H'):=h
  (replace h:=ae h;obtain⟨l,hl,h⟩:=h)
  (replace h:=ae h;obtain⟨bs,hbs,h⟩:=h)
  cases h
  rcases hx.of_slice with⟨lc,cc,hm,hlo,hsp,e1,hcap⟩|⟨a',e1,e2,e3⟩
  ·subst e1
   obtain⟨vs',h1,h2,h3⟩:=xg rh hl hm hlo
   have he:=Ak hbs h1
   have hln:bs.length=ln:=by rw[←h2,he];simp
   refine⟨m,_,w,?_,.sc _ rfl,rh,Ex.refl _ _ _⟩
   simp only
   rw[←hln]
   exact run_convert_bytes_back w s d q.1 _ cc bs hs Yd hd (fun j hj=>by
    apply h3 j
    rw[he]
    simp[hj])
  ·simp only at e1
   subst e1 e3
   replace hl:some ([]:List Value)=some l:=hl
   cases hl
   cases hbs
   refine⟨m,_,w,?_,.sc _ rfl,rh,Ex.refl _ _ _⟩
   exact run_convert_bytes_back w s d q.1 _ 0 [] hs Yd hd (fun j hj=>by simp at hj)
end mem
section mem
variable{P:Program}{m:Mp}{H:ag}{w:World}
theorem x_(rh:RH m H w){r:Nat}{l:Loc}{R:Row}(hm:m r=some l)(ho:H.obj r=.row R):w.shape? l.c=some (R.ty,l.tot):=by
 obtain⟨cs,fr,hb,_,h2,_⟩:=row_of rh hm ho
 simp[World.shape?,hb,h2]
theorem yc{a:Addr}{s:TypeId×Nat}(h:w.shape? a.block=some s):(Conv.seenAt a).run P w=.ok a w:=by
 simp[Conv.seenAt,viewAt,h]
theorem GM{du:TypeDesc}(hu:sD du=true):∃(M:TypeId→TypeId→TypeDesc→TypeDesc→Value→Sem Value)(N:TypeId→TypeId→TypeDesc→TypeDesc→Value→Sem Value)(E:Addr→TypeId→Sem Value),
 (∀s d x,convert s d x=do let a←underlying s;let b←underlying d;M s d a b x)∧
 (∀s d e x,M s d (.pointer e) du x=do let p←underlying s;let q←underlying d;N s d p q x)∧
 (∀s d e x,M s d du (.pointer e) x=do let p←underlying s;let q←underlying d;N s d p q x)∧
 (∀s d e a,N s d (.pointer e) du (.pointer (some a))=do
  let z←Conv.seenAt a
  let nothing:=match←cellsIn z.block with
   |some cells=>z.off≥cells&&z.spot.isNone
   |none=>false
  if(←sizeOf e)=0||nothing then pure (.pointer (some ⟨←newObj (.view z e),0,none⟩))else
  pure (.pointer (some z)))∧
 (∀s d u a,N s d du (.pointer u) (.pointer (some a))=do
  let a←Conv.seenAt a
  if(←sizeOf u)=0||(←variablesAt a u 1)then pure (.pointer (some a))
  else E a u):=by
 cases du<;>first|(replace hu:false=true:=hu;cases hu;done)|exact⟨_,_,_,fun _ _ _=>rfl,fun _ _ _ _=>rfl,fun _ _ _ _=>rfl,fun _ _ _ _=>rfl,fun _ _ _ _=>rfl⟩
theorem uQ(rh:RH m H w){s d e:TypeId}{x x' v:Value}{H':ag}(h:xG P e x H=some (v,H'))(hx:VR m x x')
 {du:TypeDesc}(hs:P.underlying s=some (.pointer e))(hu:sD du=true)(hd:P.underlying d=some du):iq P m H w (convert s d x') v H':=by
 (replace h:=ae h;obtain⟨a,ha,h⟩:=h)
 (replace h:=ae h;obtain⟨sz,hsz,h⟩:=h)
 (replace h:=ae h;obtain⟨R,hR,h⟩:=h)
 (replace h:=aB h;obtain⟨hg,h⟩:=h)
 cases h
 have hx0:=hx
 rw[dS ha]at hx
 have zz:=iN hR
 obtain⟨l,hm,hlo,hsp,rfl⟩:=hx.gL
 simp only[Bool.and_eq_true]at hg
 have g1:=Nat.le_of_ble_eq_true hg.1
 have g2:a.off +1≤R.n:=Nat.le_of_ble_eq_true hg.2
 obtain⟨i,hi,hsz⟩:=fM hsz
 have hsh:=x_ rh hm zz
 obtain⟨cs,fr,hb,hnn,h2,h3,h4,h5,h6⟩:=row_of rh hm zz
 refine⟨m,_,w,?_,hx0,rh,Ex.refl _ _ _⟩
 have hse:=yc (P:=P) (w:=w) (a:=⟨l.c,l.base +(a.off -l.lo),none⟩) hsh
 have hoff:¬(l.tot≤l.base +(a.off -l.lo)):=by omega
 have hsz0:i.size≠0:=by omega
 obtain⟨M,N,E,c1,c2,c3,c4,c5⟩:=GM hu
 rw[c1]
 simp only[Sem.run_bind,aA hs,aA hd,Result.andThen_ok,c2,c4]
 simp[hse,cellsIn,hsh,bG hi,hsz0,hoff]
theorem Al{e:TypeId}{s:Nat}(hc:P.cellsOf e=s)(hs:1≤s)(count off n:Nat)(hm:off %s=0)(hn:off/s +n≤count):liesAt P P.depth e count off e n=true:=by
 have hd:P.depth=(2*(P.types.size +Made.depth) +1) +1:=rfl
 rw[hd]
 simp only[liesAt,Bool.or_eq_true]
 left
 rw[hd]
 have hs0:s≠0:=by omega
 simp[rowAt,hc,hn,hm,hs0,sameLayout]
theorem sO{t:TypeId}{i:TypeInfo}(h:P.info? t=some i):P.cellsOf t=i.size:=by
 simp[Program.cellsOf,h]
theorem uR(rh:RH m H w){s d e:TypeId}{x x' v:Value}{H':ag}(h:xH P e x H=some (v,H'))(hx:VR m x x')
 {du:TypeDesc}(hu:sD du=true)(hs:P.underlying s=some du)(hd:P.underlying d=some (.pointer e)):iq P m H w (convert s d x') v H':=by
 (replace h:=ae h;obtain⟨a,ha,h⟩:=h)
 (replace h:=ae h;obtain⟨sz,hsz,h⟩:=h)
 (replace h:=ae h;obtain⟨R,hR,h⟩:=h)
 (replace h:=aB h;obtain⟨hg,h⟩:=h)
 cases h
 have hx0:=hx
 rw[dS ha]at hx
 have zz:=iN hR
 obtain⟨l,hm,hlo,hsp,rfl⟩:=hx.gL
 simp only[Bool.and_eq_true]at hg
 have g1:=Nat.le_of_ble_eq_true hg.1.1.1
 have g2:R.ty=e:=Nat.eq_of_beq_eq_true hg.1.1.2
 have g3:=Nat.eq_of_beq_eq_true hg.1.2
 have g4:=Nat.le_of_ble_eq_true hg.2
 obtain⟨i,hi,hsz⟩:=fM hsz
 have hsh:=x_ rh hm zz
 have hbase:=base_of rh hm zz
 obtain⟨cs,fr,hb,hnn,h2,h3,h4,h5,h6⟩:=row_of rh hm zz
 refine⟨m,_,w,?_,hx0,rh,Ex.refl _ _ _⟩
 have hoff:l.base +(a.off -l.lo)=0:=by omega
 rw[hoff]
 have hse:=yc (P:=P) (w:=w) (a:=⟨l.c,0,none⟩) hsh
 have hc:P.cellsOf e=sz:=by rw[sO hi,hsz]
 have hl:=Al (P:=P) hc g1 (l.tot/sz) 0 1 (Nat.zero_mod _) (by
  rw[Nat.zero_div]
  have:sz≤l.tot:=by omega
  have:=Nat.div_pos this aa
  omega)
 rw[g2]at hsh
 obtain⟨M,N,E,c1,c2,c3,c4,c5⟩:=GM hu
 rw[c1]
 simp only[Sem.run_bind,aA hs,aA hd,Result.andThen_ok,c3,c5]
 simp[hse,variablesAt,hsh,bG hi,hc,hl]
end mem
end Go.Ae
