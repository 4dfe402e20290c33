/-
  Part 4 of the proof. No condition.
-/
import Derived.Test.YtdkcdlnfeodaaaaGreatDoorY03
set_option linter.unusedVariables false
set_option linter.unusedSimpArgs false
namespace Go.Ae
section rg
variable{P:Program}{cf:cr}{ops:Array Oper}{n nt:Nat}{S:Nat→St}{C:Nat→Cl}{m0:Mp}{w0:World}
theorem dZ.cells{m:Mp}{l:Loc}{o:dn}{cs cs':Array Value}{ty:TypeId}{fr:Nat×Nat}(h:dZ m l o (.cells cs ty fr))(hs:cs'.size=cs.size):dZ m l o (.cells cs' ty fr):=by
 cases o with
 |dead=>trivial
 |row R=>
  obtain⟨h1,h2,h3,h4,h5,h6⟩:=h
  exact⟨h1,h2,by rw[hs];exact h3,h4,h5,h6⟩
 |map es=>exact h.elim
 |rY s p=>exact h.elim
theorem Rg.acu(g:Rg P cf ops n nt S C){D:Nat→Prop}(hD:Closed ops D){i:Nat}(hi:i<ops.size)(vg:¬D i)(fD:∀e,e∈ops[i].after.toList→Region.binds .any e=true→D e.on)
 (hc:(C i).k=3):(∀j,j<ops.size→(C j).k=2→j<i∧D j)∧∀r,r<nx S i→ve S ops.size D none r i:=by
 have hoi:ops[i]?=some ops[i]:=Array.getElem?_eq_getElem hi
 have h2:∀j,j<ops.size→(C j).k=2→j<i∧D j:=by
  intro j hj hcj
  rcases Nat.lt_trichotomy j i with h|h|h
  ·exact⟨h,dV g.back hD i _ hoi fD j (LW (g.dyn j i h hi) (.inr hcj) hc)⟩
  ·subst h;rw[hc]at hcj;cases hcj
  ·exact(LV (g.dyn i j h hj) hc (.inr hcj)).elim
 refine⟨h2,fun r hr=>⟨hr,fun j hj Gi hne=>?_⟩⟩
 rcases g.turns hj Gi hne with hcj|hcj
 ·have:=h2 j hj hcj
  exact⟨fun _=>this.1,fun _=>this.2⟩
 ·obtain⟨_,k,hk,_⟩:=g.j3 hj hcj hne
  cases hk
theorem J7(p:Nat→Bool):∀d k,p k=true→p (k +d)=false→∃j,k≤j∧j<k +d∧p j=true∧p (j +1)=false:=by
 intro d
 induction d with
 |zero=>intro k h1 h2;rw[Nat.add_zero,h1]at h2;cases h2
 |succ d ih=>
  intro k h1 h2
  cases hp:p (k +1)with
  |false=>exact⟨k,Nat.le_refl _,by omega,h1,hp⟩
  |true=>
   obtain⟨j,a1,a2,a3⟩:=ih (k +1) hp (by rw[show k +1 +d=k +(d +1)from by omega];exact h2)
   exact⟨j,by omega,by omega,a3⟩
theorem MInv.stored(g:Rg P cf ops n nt S C){D:Nat→Prop}(hD:Closed ops D){m:Mp}{w:World}(I:MInv S C ops.size m0 w0 D m w){i:Nat}(hi:i<ops.size)(vg:¬D i)
 (fD:∀e,e∈ops[i].after.toList→Region.binds .any e=true→D e.on)(hc:(C i).k=3){t:TypeId}{x y:Operand}{x' y':Value}{a:Addr}{H':aa}
 (ha:gJ (ev (S i) x)=some a)(hcl:C i=⟨3,a.block,a.off,len (ay (ev (S i) y)),hh0,hh0⟩)(hst:nS P t (ev (S i) x) (ev (S i) y) (aV (S i)).H=some (undef,H'))
 (hs1:(S (i +1)).H=⟨H'.j6,H'.next,fH (S i).H.low H'.low⟩)(hwr:(aV (S i)).H.write a.block a.off (ay (ev (S i) y))=some H')
 (hx:VR (m.upto (nx S i)) (ev (S i) x) x')(hy:VR (m.upto (nx S i)) (ev (S i) y) y'):
 ∃w',(Instr.storeAt t x' y').run P w=.ok () w'∧MInv S C ops.size m0 w0 (xm D i) m w':=by
 have hmono:=g.mono
 have h0:=hst
 have h:=hst
 (replace h:=ah h;obtain⟨a1,ha1,h⟩:=h)
 (replace h:=ah h;obtain⟨sz,hsz,h⟩:=h)
 (replace h:=aH h;obtain⟨hgl,h⟩:=h)
 (replace h:=ah h;obtain⟨H1,hH1,h⟩:=h)
 cases h
 rw[ha]at ha1;cases ha1
 obtain⟨inf,jI,rfl⟩:=iF hsz
 have hlen:=Nat.eq_of_beq_eq_true hgl
 rw[aO]at hlen
 rw[fI ha]at hx
 obtain⟨l,hml,hlo,hsp,rfl⟩:=hx.i_
 have hu:=Mp.fT hml
 have hnt:ev (S i) y≠top:=by
  intro e
  rw[e]at hwr
  replace hwr:(ai (ko ((aV (S i)).H.obj a.block)) fun w=>
   gd (!w.dB&&Nat.ble (Nat.add a.off (len [top])) w.n&&Nat.ble w.fz a.off&&all' aU [top])
   (some ((aV (S i)).H.put a.block (.row ⟨w.ty,Tr.jE top [top] a.off w.cells,w.n,false,w.fz⟩))))=some H':=hwr
  have h:=hwr
  (replace h:=ah h;obtain⟨R,hR,h⟩:=h)
  (replace h:=aH h;obtain⟨hg,h⟩:=h)
  simp[all_eq,aU,top]at hg
 have hcv:=qH hy hnt
 have WV:∀w',(storeCells ⟨l.c,l.base +(a.off -l.lo),none⟩ (ay y')).run P w=.ok () w'→(Instr.storeAt t (.pointer (some ⟨l.c,l.base +(a.off -l.lo),none⟩)) y').run P w=.ok () w':=by
  intro w' hw'
  have hsz:y'.cells.size=inf.size:=by rw[sG];show(ay y').length=_;rw[←hcv.length,hlen]
  have hcl:y'.cells.toList=ay y':=(uA y').symm
  simp only[Instr.storeAt,Instr.sureAddr,storeVar,Sem.run_bind,Sem.run_pure,Result.andThen_ok,bM jI,hsz,ne_eq,not_true_eq_false,if_false,hcl]
  exact hw'
 have hwo:=yI hwr
 have Jl:∀k,(S (i +1)).H.obj k=H'.obj k:=by intro k;rw[hs1];rfl
 by_cases hnil:ay (ev (S i) y)=[]
 ·rw[hnil]at hwr
  have hHH:(aV (S i)).H=H':=by
   have:some (aV (S i)).H=some H':=hwr
   injection this
  have hn':ay y'=[]:=by
   have:=hcv.length
   rw[hnil]at this
   exact List.eq_nil_of_length_eq_zero this.symm
  refine⟨w,WV w (by rw[hn'];simp[storeCells]),I.still hi fun r hr=>?_⟩
  rw[Jl,←hHH];rfl
 ·
  obtain⟨L5,J8⟩:=g.acu hD hi vg fD hc
  obtain⟨ob,Vj⟩:=I.Od _ _ hu.2
  have hsh:=I.cnt none _ _ i ob (by omega) hu.2 (J8 _ hu.1) Vj
  have hrow:∃R,(S i).H.obj a.block=.row R∧R.dB=false∧a.off +(ay (ev (S i) y)).length≤R.n∧R.fz≤a.off∧(ay (ev (S i) y)).all aU=true:=by
   cases hvs:ay (ev (S i) y)with
   |nil=>exact absurd hvs hnil
   |cons u us=>
    rw[hvs]at hwr
    replace hwr:(ai (ko ((aV (S i)).H.obj a.block)) fun w=>
     gd (!w.dB&&Nat.ble (Nat.add a.off (len (u::us))) w.n&&Nat.ble w.fz a.off&&all' aU (u::us))
     (some ((aV (S i)).H.put a.block (.row ⟨w.ty,Tr.jE top (u::us) a.off w.cells,w.n,false,w.fz⟩))))=some H':=hwr
    have h:=hwr
    (replace h:=ah h;obtain⟨R,hR,h⟩:=h)
    (replace h:=aH h;obtain⟨hg,h⟩:=h)
    simp only[Bool.and_eq_true,aO,all_eq]at hg
    exact⟨R,jQ hR,by simpa using hg.1.1.1,Nat.le_of_ble_eq_true hg.1.1.2,Nat.le_of_ble_eq_true hg.1.2,hg.2⟩
  obtain⟨R,hR,hse,hbd,hfz,hoc⟩:=hrow
  have YG:dZ (m.upto (nx S i)) l (.row R) ob:=by
   have:dZ (m.upto (nx S i)) l (Bz ((S i).H.obj a.block)) ob:=hsh
   rw[hR]at this
   exact this.JW rfl
  cases ob with
  |cells cs ty fr=>
   obtain⟨⟨e1,e2⟩,e3,e4,e5,e6,e7⟩:=YG
   have hlen':(ay y').length=(ay (ev (S i) y)).length:=hcv.length.symm
   obtain⟨w',cs',r1,r2,r3,r4,r5,r6,r7,r8,r9⟩:=nY (P:=P) l.c (l.base +(a.off -l.lo)) ty fr (ay y') 0 cs w Vj (sH hcv hoc) (by rw[hlen'];omega)
    (fun j b1 b2 b3=>by have:=e7 hse;omega)
   refine⟨w',WV w' r1,?_⟩
   have YH:(C i).r=a.block:=by rw[hcl]
   have Vk:(C i).off=a.off:=by rw[hcl]
   have hCn:(C i).n=(ay (ev (S i) y)).length:=by rw[hcl];exact aO _
   have hnot:∀κ r,(r≠a.block∨∀k,κ=some k→¬(a.off≤k∧k<a.off +(ay (ev (S i) y)).length))→at' S κ r i=at' S κ r (i +1):=by
    intro κ r hor
    apply Classical.byContradiction
    intro hne
    obtain⟨f1,k,f2,f3,f4⟩:=g.j3 hi hc hne
    rw[YH]at f1;rw[Vk]at f3;rw[Vk,hCn]at f4
    rcases hor with h|h
    ·exact h f1
    ·exact h k f2 ⟨f3,f4⟩
   have YI:(S i).H.obj a.block≠.dead:=by rw[hR];simp
   have hother:∀r l1 k κ,r≠a.block→m r=some l1→l1.c=l.c→k≤ops.size→ve S ops.size D κ r k→∀o,Rel κ (m.upto (nx S k)) l1 (at' S κ r k) o:=by
    intro r l1 k κ hne hm1 hcc hk hcon o
    have sK:∀k',k'≤ops.size→ve S ops.size D none r k'→(S k').H.obj r=.dead:=by
     intro k' hk' QV
     apply Classical.byContradiction
     intro hnd
     exact hne (I.sep r a.block l1 l k' i hm1 hu.2 hcc hk' (by omega) QV (J8 _ hu.1) hnd YI)
    cases κ with
    |none=>
     show Rel none _ _ (.shape (Bz ((S k).H.obj r))) o
     rw[sK k hk hcon]
     trivial
    |some q=>
     show Rel (some q) _ _ (.cell (dG ((S k).H.obj r) q)) o
     cases hca:dG ((S k).H.obj r) q with
     |none=>trivial
     |some z=>
      exfalso
      have Q3:∀j,j<ops.size→r<nx S j→(C j).k≠2→(dG ((S j).H.obj r) q).isSome=(dG ((S (j +1)).H.obj r) q).isSome:=by
       intro j hj Gi h2
       apply QY
       apply Classical.byContradiction
       intro hne'
       have hne2:at' S none r j≠at' S none r (j +1):=fun e=>hne' (by injection e)
       rcases g.turns hj Gi hne2 with h3|h3
       ·exact h2 h3
       ·obtain⟨_,_,h4,_⟩:=g.j3 hj h3 hne2
        cases h4
      by_cases hri:r<nx S i
      ·have hd:=sK i (by omega) (J8 r hri)
       have hz:dG ((S i).H.obj r) q=none:=by rw[hd];rfl
       rcases Nat.lt_or_ge k i with hki|hki
       ·obtain⟨j,f1,f2,f3,f4⟩:=J7 (fun k=>(dG ((S k).H.obj r) q).isSome) (i -k) k (by simp[hca]) (by
         show(dG ((S (k +(i -k))).H.obj r) q).isSome=false
         rw[show k +(i -k)=i from by omega,hz];rfl)
        have Gi:r<nx S j:=Nat.lt_of_lt_of_le hcon.1 (hmono k j f1 (by omega))
        have hj2:(C j).k=2:=Classical.byContradiction fun e=>by
         have:=Q3 j (by omega) Gi e
         rw[f3,f4]at this;cases this
        have acv:at' S (some q) r j≠at' S (some q) r (j +1):=by
         intro e
         have e:dG ((S j).H.obj r) q=dG ((S (j +1)).H.obj r) q:=by injection e
         rw[e,f4]at f3;cases f3
        have:=(hcon.2 j (by omega) Gi acv).1 (L5 j (by omega) hj2).2
        omega
       ·have:∀d,i +d≤ops.size→(dG ((S (i +d)).H.obj r) q).isSome=false:=by
         intro d
         induction d with
         |zero=>intro _;rw[Nat.add_zero,hz];rfl
         |succ d ih=>
          intro hd'
          have h9:=Q3 (i +d) (by omega) (Nat.lt_of_lt_of_le hri (hmono i (i +d) (by omega) (by omega))) (fun e=>by
           have:=(L5 (i +d) (by omega) e).1;omega)
          rw[show i +(d +1)=i +d +1 from rfl,←h9]
          exact ih (by omega)
        have:=this (k -i) (by omega)
        rw[show i +(k -i)=k from by omega,hca]at this
        cases this
      ·have hcn:ve S ops.size D none r k:=by
        refine⟨hcon.1,fun j hj Gi hne'=>?_⟩
        exfalso
        rcases g.turns hj Gi hne' with h3|h3
        ·have:=(L5 j hj h3).1
         have:=hmono j i (by omega) (by omega)
         omega
        ·obtain⟨_,_,h4,_⟩:=g.j3 hj h3 hne'
         cases h4
       rw[sK k hk hcn]at hca
       cases hca
   refine⟨?_,?_,?_,?_,?_,?_,I.le,I.fresh,r7.trans I.os,r8.trans I.tape,r9.trans I.output,by rw[r6];exact I.size,?_⟩
   ·exact fun r l h=>(I.dom r l h).imp id fun⟨j,h1,h2,h3⟩=>⟨j,h1,.inl h2,h3⟩
   ·intro r l1 h1
    obtain⟨o,ho⟩:=I.Od r l1 h1
    have:l1.c<w'.heap.size:=by rw[r6];exact iG ho
    exact⟨w'.heap[l1.c],Array.getElem?_eq_getElem this⟩
   ·
    intro κ r l1 k o hk hm1 hcon ho
    by_cases hr:r=a.block
    ·subst hr
     rw[hu.2]at hm1
     have hll:l=l1:=by injection hm1
     subst hll
     rw[r2]at ho
     have ho:Obj.cells cs' ty fr=o:=by injection ho
     subst ho
     by_cases hin:∃q,κ=some q∧a.off≤q∧q<a.off +(ay (ev (S i) y)).length
     ·obtain⟨q,rfl,q1,q2⟩:=hin
      have aaw:ve S ops.size (xm D i) (some q) a.block (i +1):=by
       refine⟨Nat.lt_of_lt_of_le hu.1 (g.G4 hi),fun j hj Gi hne=>?_⟩
       rcases g.turns hj Gi hne with h2|h3
       ·have:=L5 j hj h2
        exact⟨fun _=>by omega,fun _=>.inl this.2⟩
       ·obtain⟨f1,q',f2,f3,f4⟩:=g.j3 hj h3 hne
        cases f2
        have hoi:ops[i]?=some ops[i]:=Array.getElem?_eq_getElem hi
        have hoj:ops[j]?=some ops[j]:=Array.getElem?_eq_getElem hj
        rcases Nat.lt_trichotomy j i with h|h|h
        ·rcases QT (g.dyn j i h hi) h3 hc with hb|hb
         ·exact⟨fun _=>by omega,fun _=>.inl (dV g.back hD i _ hoi fD j hb)⟩
         ·exact(qL hb (by rw[←f1,YH]) f3 f4 (by rw[Vk];exact q1) (by rw[Vk,hCn];exact q2)).elim
        ·subst h
         exact⟨fun _=>by omega,fun _=>.inr rfl⟩
        ·rcases QT (g.dyn i j h hj) hc h3 with hb|hb
         ·refine⟨fun hw=>?_,fun h'=>by omega⟩
          rcases hw with CU|e
          ·exact absurd (dV g.back hD j _ hoj (hD j _ hoj CU) i hb) vg
          ·omega
         ·exact(qL hb (by rw[←f1,YH]) (by rw[Vk];exact q1) (by rw[Vk,hCn];exact q2) f3 f4).elim
      have heq:at' S (some q) a.block (i +1)=at' S (some q) a.block k:=ve.eq hmono (by omega) hk aaw hcon
      have hcell:dG ((S (i +1)).H.obj a.block) q=(ay (ev (S i) y))[q -a.off]?:=by rw[Jl];exact hwo.2.2.2.2.1 q q1 q2
      have hrel:Rel (some q) (m.upto (nx S i)) l (at' S (some q) a.block k) (.cells cs' ty fr):=by
       rw[←heq]
       show Rel (some q) _ l (.cell (dG ((S (i +1)).H.obj a.block) q)) _
       rw[hcell]
       cases hz:(ay (ev (S i) y))[q -a.off]? with
       |none=>trivial
       |some z=>
        intro hlq
        obtain⟨z',f1,f2⟩:=hcv.get _ hz
        refine⟨cs',ty,fr,z',rfl,?_,f2⟩
        rw[r4,if_pos (by rw[hlen'];omega),show l.base +(q -l.lo) -(l.base +(a.off -l.lo) +0)=q -a.off from by omega]
        exact f1
      rcases Nat.lt_or_ge i k with hik|hik
      ·exact hrel.mono (Mp.lK (fun _ _ h=>h) (hmono i k (by omega) hk))
      ·have hni:at' S (some q) a.block i=at' S (some q) a.block (i +1):=by
        apply Classical.byContradiction
        intro hne
        have:=(hcon.2 i hi hu.1 hne).1 (.inr rfl)
        omega
       have hold:=I.cnt (some q) _ _ k _ hk hu.2 (hcon.less fun _=>hni) Vj
       exact Rel.restrict (Mp.lK (fun _ _ h=>h) (hmono k i hik (by omega))) hrel hold
     ·have hni:at' S κ a.block i=at' S κ a.block (i +1):=hnot κ _ (.inr fun q e h=>hin ⟨q,e,h.1,h.2⟩)
      have hold:=I.cnt κ _ _ k _ hk hu.2 (hcon.less fun _=>hni) Vj
      cases κ with
      |none=>
       have hold:dZ (m.upto (nx S k)) l (Bz ((S k).H.obj a.block)) (.cells cs ty fr):=hold
       exact hold.cells r3
      |some q=>
       have hold:Rel (some q) (m.upto (nx S k)) l (.cell (dG ((S k).H.obj a.block) q)) (.cells cs ty fr):=hold
       show Rel (some q) (m.upto (nx S k)) l (.cell (dG ((S k).H.obj a.block) q)) (.cells cs' ty fr)
       cases hz:dG ((S k).H.obj a.block) q with
       |none=>trivial
       |some z=>
        rw[hz]at hold
        intro hlq
        obtain⟨cs0,ty0,fr0,v,f1,f2,f3⟩:=hold hlq
        cases f1
        refine⟨cs',ty,fr,v,rfl,?_,f3⟩
        rw[r4,if_neg]
        ·exact f2
        ·rw[hlen']
         intro hh
         exact hin ⟨q,rfl,by omega,by omega⟩
    ·have hni:at' S κ r i=at' S κ r (i +1):=hnot κ r (.inl hr)
     have D5:=hcon.less fun _=>hni
     by_cases hcc:l1.c=l.c
     ·exact hother r l1 k κ hr hm1 hcc hk D5 o
     ·rw[r5 _ hcc]at ho
      exact I.cnt κ r l1 k o hk hm1 D5 ho
   ·intro r r' l1 l1' k k' h1 h2 h3 h4 h5 h6 h7 h8 h9
    exact I.sep r r' l1 l1' k k' h1 h2 h3 h4 h5 (h6.less fun _=>hnot none r (.inr fun q e=>by cases e)) (h7.less fun _=>hnot none r' (.inr fun q e=>by cases e)) h8 h9
   ·exact fun r r' l1 l1' j h1 h2 h3 h4 h5 h6=>I.clash r r' l1 l1' j h1 h2 h3 h4 (fun h=>h5 (.inl h)) h6
   ·intro j r hj CU hr hmr
    rcases CU with h|rfl
    ·exact I.hid j r hj h hr hmr
    ·refine g.J5 hi hc ?_
     rw[YH]
     intro e
     rw[e,hu.2]at hmr
     cases hmr
   ·intro c hcs hk
    rw[r5,I.keep c hcs hk]
    intro e
    have hlow:(S ops.size).H.low≤a.block:=by
     have f1:=g.low (i +1) ops.size (by omega) (Nat.le_refl _)
     rw[hs1]at f1
     have f2:(S ops.size).H.low≤fH (S i).H.low H'.low:=f1
     exact Nat.le_trans f2 (Nat.le_trans (uF _ _).2 (hwo.2.2.2.2.2 hnil))
    cases h0':m0 a.block with
    |some l0=>
     have:=I.le _ _ h0'
     rw[hu.2]at this;cases this
     have:=hk _ _ h0' e.symm
     omega
    |none=>
     obtain⟨r0,l0,f1,f2,f3⟩:=I.fresh _ _ hu.2 h0' (by rw[←e];exact hcs)
     have:=hk r0 l0 f1 (by rw[f2,e])
     omega
  |map mH c=>exact YG.elim
  |_=>exact YG.elim
end rg
end Go.Ae
namespace Go.Ae
theorem nJ{s:St}{d:Option Nat}{v:Value}{H:aa}(hd:Bw s.nt d=true)(t:Nat):aX (bG s d v H) t=if d=some t then v else aX s t:=by
 cases d with
 |none=>rfl
 |some d=>
  have hd:d<s.nt:=Nat.le_of_ble_eq_true hd
  show aX (gX s d v H) t=_
  unfold gX
  cases hb:aS s.nl d with
  |true=>
   show aX ⟨s.nl,s.nt,s.reg,av (Nat.ble (Nat.succ d) s.nt) (s.tm.set top d v) s.tm,s.df,H⟩ t=_
   rw[show Nat.ble (Nat.succ d) s.nt=true from Nat.ble_eq_true_of_le hd]
   show av (aS s.nl t) ((s.tm.set top d v).get top t) (look s.reg t)=_
   rw[Tr.jP]
   by_cases e:d=t
   ·subst e;rw[hb,if_pos rfl,if_pos rfl];rfl
   ·rw[if_neg (Ne.symm e),if_neg (by simpa using e)];rfl
  |false=>
   show av (aS s.nl t) (s.tm.get top t) (av (Nat.beq d t) v (look s.reg t))=_
   by_cases e:d=t
   ·subst e;rw[hb,if_pos rfl,show Nat.beq d d=true from Nat.beq_refl d];rfl
   ·rw[if_neg (by simpa using e),show Nat.beq d t=false from by rw[←Bool.not_eq_true];exact fun g=>e (Nat.eq_of_beq_eq_true g)];rfl
section rg
variable{P:Program}{cf:cr}{ops:Array Oper}{n nt:Nat}{S:Nat→St}{C:Nat→Cl}{m0:Mp}{w0:World}
def Vl(ops:Array Oper)(D:Nat→Prop)(t k:Nat):Prop:=∀(j:Nat)(o:Oper),ops[j]?=some o→o.dst=some t→(D j↔j<k)
structure Inv(ops:Array Oper)(nt:Nat)(S:Nat→St)(C:Nat→Cl)(m0:Mp)(w0:World)(d0:List Deferred)(D:Nat→Prop)(m:Mp)(a:Act)(w:World):Prop where
 mem:MInv S C ops.size m0 w0 D m w
 size:a.tmps.size=nt
 slot:∀t k,k≤ops.size→Vl ops D t k→VR (m.upto (nx S k)) (aX (S k) t) (a.tmps.getD t undef)
 de:a.defers=d0
theorem Rg.look(g:Rg P cf ops n nt S C){j:Nat}{o:Oper}(ho:ops[j]?=some o)(t:Nat)(h:o.dst≠some t):aX (S (j +1)) t=aX (S j) t:=by
 have hs:=g.step j o ho
 have hd:Bw (S j).nt o.dst=true:=by
  have:=g.ok j o ho
  unfold lJ at this
  rw[Bool.and_eq_true]at this
  rw[g.nts j o ho];exact this.2
 generalize S (j +1)=s1 at hs
 generalize C j=c at hs
 cases hs with
 |skip hw=>rw[nJ hd,if_neg h]
 |rJ v hw hr=>rw[nJ hd,if_neg h]
 |mem v H' hw hr=>rw[nJ hd,if_neg h]
theorem get_put{a:Act}{d:Option Nat}{v:Value}{nt:Nat}(hs:a.tmps.size=nt)(hd:Bw nt d=true)(t:Nat):(a.put d v).tmps.getD t undef=if d=some t then v else a.tmps.getD t undef:=by
 cases d with
 |none=>rfl
 |some d=>
  have hd:d<nt:=Nat.le_of_ble_eq_true hd
  show(a.tmps.setIfInBounds d v).getD t undef=_
  by_cases e:d=t
  ·subst e
   rw[if_pos rfl]
   simp[Array.getD,hs,hd]
  ·rw[if_neg (by simpa using e)]
   simp only[Array.getD_eq_getD_getElem?]
   rw[Array.getElem?_setIfInBounds_ne e]
theorem Q4{a:Act}{d:Option Nat}{v:Value}:(a.put d v).tmps.size=a.tmps.size:=by
 cases d with
 |none=>rfl
 |some d=>show(a.tmps.setIfInBounds d v).size=_;simp
theorem Oh(g:Rg P cf ops n nt S C){D:Nat→Prop}(hD:Closed ops D){m m':Mp}{a:Act}(hsz:a.tmps.size=nt)(hsl:∀t k,k≤ops.size→Vl ops D t k→VR (m.upto (nx S k)) (aX (S k) t) (a.tmps.getD t undef))
 {i:Nat}(hi:i<ops.size)(vg:¬D i)(hm:Mp.le m m'){v v':Value}(hv:VR (m'.upto (nx S (i +1))) v v')(D6:∀t,ops[i].dst=some t→aX (S (i +1)) t=v):
 ∀t k,k≤ops.size→Vl ops (xm D i) t k→VR (m'.upto (nx S k)) (aX (S k) t) ((a.put ops[i].dst v').tmps.getD t undef):=by
 intro t k hk hcon
 have hoi:ops[i]?=some ops[i]:=Array.getElem?_eq_getElem hi
 have hd:Bw nt ops[i].dst=true:=by
  have:=g.ok i _ hoi
  unfold lJ at this
  rw[Bool.and_eq_true]at this
  exact this.2
 rw[get_put hsz hd]
 by_cases e:ops[i].dst=some t
 ·rw[if_pos e]
  have hik:i<k:=(hcon i _ hoi e).1 (.inr rfl)
  have hsame:∀d,i +1 +d≤k→aX (S (i +1 +d)) t=v:=by
   intro d
   induction d with
   |zero=>intro _;exact D6 t e
   |succ d ih=>
    intro hd'
    have hj:i +1 +d<ops.size:=by omega
    have hoj:ops[i +1 +d]?=some ops[i +1 +d]:=Array.getElem?_eq_getElem hj
    rw[show i +1 +(d +1)=i +1 +d +1 from rfl,g.look hoj t ?_,ih (by omega)]
    intro e2
    have CU:D (i +1 +d):=((hcon _ _ hoj e2).2 (by omega)).resolve_right (by omega)
    rcases g.stat i (i +1 +d) _ _ (by omega) hoi hoj with hb|hap
    ·exact vg (dV g.back hD _ _ hoj (hD _ _ hoj CU) i hb)
    ·exact(Oper.apart_spec hap).2.1 t e e2
  have:=hsame (k -(i +1)) (by omega)
  rw[show i +1 +(k -(i +1))=k from by omega]at this
  rw[this]
  exact hv.mono (Mp.lK (fun _ _ h=>h) (g.mono _ _ hik hk))
 ·rw[if_neg e]
  refine(hsl t k hk ?_).mono (Mp.lK hm (Nat.le_refl _))
  intro j o hj hdj
  have hji:j≠i:=by
   intro e2;subst e2
   rw[hoi]at hj;cases hj
   exact e hdj
  rw[←hcon j o hj hdj]
  exact⟨.inl,fun h=>h.resolve_right hji⟩
theorem Q5(g:Rg P cf ops n nt S C){D:Nat→Prop}(hD:Closed ops D){i:Nat}(hi:i<ops.size)(vg:¬D i)
 (fD:∀e,e∈ops[i].after.toList→Region.binds .any e=true→D e.on){t:Nat}(ht:t∈ops[i].looksAt ops):Vl ops D t i:=by
 intro j o hj hdj
 have hoi:ops[i]?=some ops[i]:=Array.getElem?_eq_getElem hi
 rcases Nat.lt_trichotomy j i with h|h|h
 ·refine⟨fun _=>h,fun _=>?_⟩
  rcases g.stat j i _ _ h hj hoi with hb|hap
  ·exact dV g.back hD i _ hoi fD j hb
  ·exact absurd ht ((Oper.apart_spec hap).1 t hdj)
 ·subst h;exact⟨fun h=>absurd h vg,fun h=>absurd h (Nat.lt_irrefl _)⟩
 ·refine⟨fun CU=>?_,fun h'=>by omega⟩
  rcases g.stat i j _ _ h hoi hj with hb|hap
  ·exact absurd (dV g.back hD j _ hj (hD j _ hj CU) i hb) vg
  ·exact absurd ht ((Oper.apart_spec hap).2.2 t hdj)
theorem Oi{m:Mp}{s:St}{a:Act}{j:Nat}{y:Option Bool}(f:∀(o:Oper) t,ops[j]?=some o→o.dst=some t→VR m (aX s t) (a.tmps.getD t undef))(h:qB ops s j=some y):yielded ops a.tmps j=y:=by
 (replace h:=ah h;obtain⟨o,ho,h⟩:=h)
 (replace h:=ah h;obtain⟨t,ht,h⟩:=h)
 rw[fC,Array.getElem?_toList]at ho
 have hs:=f o t ho ht
 have hy:yielded ops a.tmps j=match a.tmps[t]? with|some (.bool b)=>some b|_=>none:=by
  unfold yielded
  rw[ho]
  show(match(o.dst).bind (a.tmps[·]?)with|some (.bool b)=>some b|_=>none)=_
  rw[ht]
  rfl
 rw[hy]
 cases hb:bK (aX s t)with
 |some b=>
  rw[hb]at h
  replace h:some (some b)=some y:=h
  cases h
  rw[gm hb]at hs
  have hs:=hs.of_bool
  rw[Array.getD_eq_getD_getElem?]at hs
  cases hq:a.tmps[t]? with
  |none=>rw[hq]at hs;cases hs
  |some x=>rw[hq]at hs;replace hs:x=.bool b:=hs;rw[hs]
 |none=>
  rw[hb]at h
  replace h:(gd (Z0 (aX s t)) (some (none:Option Bool)))=some y:=h
  (replace h:=aH h;obtain⟨hg,h⟩:=h)
  cases h
  rw[QG hg]at hs
  obtain⟨l',hl,hv⟩:=VR.EL (x:=[]) hs
  cases hv
  rw[Array.getD_eq_getD_getElem?]at hl
  cases hq:a.tmps[t]? with
  |none=>rfl
  |some x=>rw[hq]at hl;replace hl:x=.tuple ⟨[]⟩:=hl;rw[hl]
theorem BF{m:Mp}{s:St}{a:Act}{o:Oper}{b:Bool}(f:∀t,t∈o.looksAt ops→VR m (aX s t) (a.tmps.getD t undef))(h:iq ops s o.guard=some b):Region.wanted o (yielded ops a.tmps)=b:=by
 unfold Region.wanted
 cases hg:o.guard with
 |none=>rw[hg]at h;cases h;rfl
 |some p=>
  rw[hg]at h
  replace h:(ai (qB ops s p.1) fun y=>some (@Option.rec Bool (fun _=>Bool) false (fun b=>qw b p.2) y))=some b:=h
  (replace h:=ah h;obtain⟨y,hy,h⟩:=h)
  cases h
  obtain⟨j,want⟩:=p
  simp only
  rw[Oi (m:=m) (s:=s) (fun o' t ho' ht=>f t (by
   unfold Oper.looksAt
   rw[hg]
   refine List.mem_append_right _ ?_
   simp only[ho',Option.bind_some,ht]
   simp)) hy]
  cases y with
  |none=>rfl
  |some c=>cases c<;>cases want<;>rfl
theorem YJ{m:Mp}{s:St}{a:Act}{o:Oper}(gl:Gl n m)(hok:all' (vR n) o.op.operands.toList=true)(f:∀t,t∈o.looksAt ops→VR m (aX s t) (a.tmps.getD t undef)):Gh m s a.eval o.op.operands.toList:=by
 refine⟨fun x hx=>?_⟩
 rw[all_eq]at hok
 have hx':=List.all_eq_true.1 hok x hx
 cases x with
 |tmp t=>
  refine f t ?_
  unfold Oper.looksAt
  refine List.mem_append_left _ ?_
  rw[List.mem_filterMap]
  exact⟨_,hx,rfl⟩
 |const v=>exact .sc v hx'
 |global k=>
  obtain⟨l,h1,h2,h3,h4⟩:=gl k (Nat.le_of_ble_eq_true hx')
  have:=VR.ptr (m:=m) k 0 l h1 (by omega)
  rw[h2,h3,h4]at this
  exact this
 |func f=>exact .func (.func f) [] [] [] [] .nil .nil
theorem Q6{m:Mp}{s:St}{ρ:Operand→Value}{L:List Operand}(e:Gh m s ρ L)(A:aa):Gh m ⟨s.nl,s.nt,s.reg,s.tm,s.df,A⟩ ρ L:=⟨fun x hx=>by have:=e.all x hx;cases x<;>exact this⟩
theorem Inv.step(g:Rg P cf ops n nt S C)(hcf:xg P n cf)(gl0:Gl n m0)(zY:∀r l,m0 r=some l→r<nx S 0){d0:List Deferred}{D:Nat→Prop}(hD:Closed ops D){m:Mp}{a:Act}{w:World}
 (I:Inv ops nt S C m0 w0 d0 D m a w){i:Nat}(hi:i<ops.size)(vg:¬D i)(fD:∀e,e∈ops[i].after.toList→Region.binds .any e=true→D e.on)
 {K:Act→World→Prop}{Q:Exit→Act→World→Prop}(HK:∀m' a' w',Inv ops nt S C m0 w0 d0 (xm D i) m' a' w'→K a' w'):wpOp P ops Q i K a w:=by
 have hoi:ops[i]?=some ops[i]:=Array.getElem?_eq_getElem hi
 have hst:=g.step i _ hoi
 have hok:=g.ok i _ hoi
 unfold lJ at hok
 rw[Bool.and_eq_true]at hok
 have hdst:Bw (S i).nt ops[i].dst=true:=by rw[g.nts i _ hoi];exact hok.2
 have hsl:∀t,t∈ops[i].looksAt ops→VR (m.upto (nx S i)) (aX (S i) t) (a.tmps.getD t undef):=fun t ht=>I.slot t i (by omega) (Q5 g hD hi vg fD ht)
 have gli:Gl n (m.upto (nx S i)):=by
  intro k hk
  obtain⟨l,h1,h2⟩:=gl0 k hk
  exact⟨l,Mp.xh (I.mem.le _ _ h1) (Nat.lt_of_lt_of_le (zY _ _ h1) (g.mono 0 i (by omega) (by omega))),h2⟩
 have e:=YJ gli hok.1 hsl
 have fin:∀(v v':Value)(m':Mp)(w':World),MInv S C ops.size m0 w0 (xm D i) m' w'→Mp.le m m'→VR (m'.upto (nx S (i +1))) v v'→(∀t,ops[i].dst=some t→aX (S (i +1)) t=v)→K (a.put ops[i].dst v') w':=by
  intro v v' m' w' hM hle hv hl
  exact HK m' _ w' ⟨hM,by rw[Q4];exact I.size,Oh g hD I.size I.slot hi vg hle hv hl,by rw[put_defers];exact I.de⟩
 have aax:Mp.le (m.upto (nx S i)) (m.upto (nx S (i +1))):=Mp.lK (fun _ _ h=>h) (g.G4 hi)
 unfold wpOp
 rw[hoi]
 generalize hs1:S (i +1)=s1 at hst
 generalize hci:C i=c at hst
 cases hst with
 |skip hw=>
  simp only[BF hsl hw,Bool.false_eq_true,if_false]
  refine fin undef undef m w (I.mem.still hi fun r _=>by rw[hs1,dz]) (fun _ _ h=>h) (.tuple [] [] .nil) ?_
  intro t ht
  rw[hs1,nJ hdst,if_pos ht]
 |rJ v hw hr=>
  simp only[BF hsl hw,if_true]
  left
  obtain⟨v',h1,h2⟩:=E9 hr e.aV (fun _=>rfl)
  unfold Oper.wp
  rw[h2 w]
  refine fin v v' m w (I.mem.still hi fun r _=>by rw[hs1,dz]) (fun _ _ h=>h) (h1.mono aax) ?_
  intro t ht
  rw[hs1,nJ hdst,if_pos ht]
 |mem v H' hw hr=>
  simp only[BF hsl hw,if_true]
  left
  have D6:∀t,ops[i].dst=some t→aX (S (i +1)) t=v:=by
   intro t ht
   rw[hs1,nJ hdst,if_pos ht]
  have rP:∀r,(S (i +1)).H.obj r=H'.obj r:=by intro r;rw[hs1,dz];rfl
  have hnx:nx S (i +1)=H'.next:=by show(S (i +1)).H.next=_;rw[hs1,dz]
  have aay:(S ops.size).H.low≤H'.low:=by
   have h1:=g.low (i +1) ops.size (by omega) (Nat.le_refl _)
   rw[hs1,dz]at h1
   have h1:(S ops.size).H.low≤fH (S i).H.low H'.low:=h1
   exact Nat.le_trans h1 (uF _ _).2
  have L6:((C i).k=2∨((C i).k=1∧nx S i≤H'.low))→ops[i].wp P a w K Q:=by
   intro hk
   have Vm:(C i).k=1∨(C i).k=2:=by
    rcases hk with h|h
    ·exact .inr h
    ·exact .inl h.1
   have rh:RH (m.upto (nx S i)) (aV (S i)).H w:=by
    refine⟨fun r l h=>(Mp.fT h).1,?_,?_⟩
    ·intro r l h
     have hu:=Mp.fT h
     obtain⟨o,ho⟩:=I.mem.Od r l hu.2
     exact⟨o,ho,Rel.QU fun κ=>I.mem.cnt κ r l i o (by omega) hu.2 (g.LY hD hi vg fD Vm hu.1) ho⟩
    ·intro r r' l l' h h' hd hd' hc
     have hu:=Mp.fT h
     have hu':=Mp.fT h'
     exact I.mem.sep r r' l l' i i hu.2 hu'.2 hc (by omega) (by omega) (g.LY hD hi vg fD Vm hu.1) (g.LY hD hi vg fD Vm hu'.1) hd hd'
   refine BC hcf (s:=aV (S i)) rh gli hr e.aV ?_
   intro m2 v' w' h1 h2 h3
   obtain⟨m',f1,f2,f3⟩:=I.mem.made g hD hi vg fD (A:=(aV (S i)).H) (A':=H') rfl hnx.symm h2 h3 (.inr aay) (fun r _ _=>(rP r).symm)
    (by rcases Vm with h|h<;>omega) (by
     rcases hk with h|h
     ·exact .inl ⟨h,fun r=>(rP r).symm,fun r=>rfl⟩
     ·exact .inr ⟨by omega,h.2⟩)
   exact fin v v' m' w' f1 f2 (h1.mono f3) D6
  rcases Fh (P:=P) (o:=ops[i].op) (s:=S i) (H':=H')with⟨p,ad,hs,ha,ec⟩|ec|⟨hlow,⟨hf,ec⟩|ec|⟨p,ad,l,hs,ha,hl,ec⟩⟩
  ·
   have hc3:(C i).k=3:=by rw[hci,ec]
   have hsk:=yJ (g.step i _ hoi) hc3
   obtain⟨t,x,y,a1,H1,hop,hw1,ha1,hcl,aaz,acw,hwr⟩:=hsk.ex
   have hv:v=undef∧H'=H1:=by
    rw[hop]at hr
    have h:=dP (o:=nS P t (ev (aV (S i)) x) (ev (aV (S i)) y) (aV (S i)).H) hr
    rw[pY,pY,aaz]at h
    cases h
    exact⟨rfl,rfl⟩
   obtain⟨w',r1,r2⟩:=I.mem.stored g hD hi vg fD hc3 ha1 hcl aaz (by rw[acw,dz]) hwr (e.all x (by rw[hop];simp[Op.operands])) (e.all y (by rw[hop];simp[Op.operands]))
   have hrun:(execOp a.eval ops[i]).run P w=.ok .skip w':=by
    simp only[execOp,hop,Sem.run_bind,r1,Result.andThen_ok,Sem.run_pure]
   unfold Oper.wp
   rw[hrun]
   exact fin v undef m w' r2 (fun _ _ h=>h) (by rw[hv.1];exact .tuple [] [] .nil) D6
  ·exact L6 (.inl (by rw[hci,ec]))
  ·
   obtain⟨ob,e1,e2⟩:=QZ (cf:=cf) (s:=aV (S i)) hf hr
   have hA:=e2 ⟨.nil,nx S i,nx S i⟩ rfl
   have rh:RH (m.upto (nx S i)) ⟨.nil,nx S i,nx S i⟩ w:=by
    refine⟨fun r l h=>(Mp.fT h).1,?_,?_⟩
    ·intro r l h
     obtain⟨o,ho⟩:=I.mem.Od r l (Mp.fT h).2
     refine⟨o,ho,?_⟩
     show jJ _ _ ((Tr.nil:Tr dn).get .dead r) _
     rw[Tr.get_nil]
     trivial
    ·intro r r' l l' _ _ hd _ _
     exact absurd (Tr.get_nil _ _) hd
   refine BC hcf (s:=⟨(S i).nl,(S i).nt,(S i).reg,(S i).tm,(S i).df,⟨.nil,nx S i,nx S i⟩⟩) rh gli hA (Q6 e _) ?_
   intro m2 v' w' h1 h2 h3
   have WW:(C i).k=5:=by rw[hci,ec];rfl
   obtain⟨m',f1,f2,f3⟩:=I.mem.made g hD hi vg fD (A:=⟨.nil,nx S i,nx S i⟩) (A':=(aa.mk .nil (nx S i) (nx S i)).new ob) rfl (by rw[hnx,e1];rfl) h2 h3 (.inl (Nat.le_refl _)) (by
    intro r a1 a2
    rw[rP,e1,mX,mX]
    have:r=nx S i:=by
     rw[hnx,e1]at a2
     have:r<nx S i +1:=a2
     omega
    rw[if_pos this]
    exact(if_pos this).symm) (by omega) (.inr ⟨by omega,Nat.le_refl _⟩)
   exact fin v v' m' w' f1 f2 (h1.mono f3) D6
  ·exact L6 (.inr ⟨by rw[hci,ec];rfl,hlow⟩)
  ·
   have hc4:(C i).k=4:=by rw[hci,ec]
   have hop:=Og hs
   rw[hop]at hr
   have hld:=dP (o:=kz P p.1 (ev (aV (S i)) p.2) (aV (S i)).H) hr
   rw[pY]at hld
   have hx:=e.all p.2 (by rw[hop];simp[Op.operands])
   have hx0:=hx
   rw[fI ha]at hx0
   obtain⟨l1,hm1,_,_,_⟩:=hx0.i_
   have hu:=Mp.fT hm1
   obtain⟨ob,Jl⟩:=I.mem.Od _ _ hu.2
   have YH:(C i).r=ad.block:=by rw[hci,ec]
   have Vk:(C i).off=ad.off:=by rw[hci,ec]
   have hCn:(C i).n=l.getD 1:=by rw[hci,ec]
   obtain⟨v',h1,h2⟩:=J6 (P:=P) (w:=w) (ob:=ob) hld hx ha hl hm1 Jl (by
    intro k u q1 q2 q3
    have hcon:=g.acs hD hi vg fD hc4 (k:=k) (by rw[Vk];exact q1) (by rw[Vk,hCn];exact q2) (by rw[YH];exact hu.1)
    rw[YH]at hcon
    have hrel:=I.mem.cnt (some k) _ _ i ob (by omega) hu.2 hcon Jl
    have hrel:Rel (some k) (m.upto (nx S i)) l1 (.cell (dG ((S i).H.obj ad.block) k)) ob:=hrel
    replace q3:dG ((S i).H.obj ad.block) k=some u:=q3
    rw[q3]at hrel
    by_cases hlk:l1.lo≤k
    ·exact hrel hlk
    ·exfalso
     have:=hx
     rw[fI ha]at this
     obtain⟨l2,g1,g2,_⟩:=this.i_
     rw[hm1]at g1;cases g1
     omega)
   have hrun:(execOp a.eval ops[i]).run P w=.ok (.value v') w:=by
    simp only[execOp,hop,Sem.run_bind,h2,Result.andThen_ok,Sem.run_pure]
   unfold Oper.wp
   rw[hrun]
   refine fin v v' m w (I.mem.still hi fun r hr'=>g.same hi (by omega) (by omega) hr') (fun _ _ h=>h) (h1.mono aax) D6
end rg
end Go.Ae
namespace Go.Ae
section rg
variable{P:Program}{cf:cr}{ops:Array Oper}{n nt:Nat}{S:Nat→St}{C:Nat→Cl}
def left(N:Nat)(listed:Array Bool):Nat:=((List.range N).filter fun j=>!(listed.getD j false)).length
theorem filter_le(p q:Nat→Bool)(h:∀x,p x=true→q x=true):∀(l:List Nat),(l.filter p).length≤(l.filter q).length:=by
 intro l
 induction l with
 |nil=>exact Nat.le_refl _
 |cons y l ih=>
  simp only[List.filter_cons]
  cases hy:p y with
  |true=>rw[h y hy];simp only[if_true,List.length_cons];omega
  |false=>
   simp only[Bool.false_eq_true,if_false]
   split
   ·simp only[List.length_cons];omega
   ·exact ih
theorem filter_lt(p q:Nat→Bool)(h:∀x,p x=true→q x=true):∀(l:List Nat)(y:Nat),y∈l→q y=true→p y=false→(l.filter p).length<(l.filter q).length:=by
 intro l
 induction l with
 |nil=>intro y hy;cases hy
 |cons z l ih=>
  intro y hy hq hp
  simp only[List.filter_cons]
  rcases List.mem_cons.1 hy with e|hy
  ·rw[←e,hq,hp]
   have:=filter_le p q h l
   simp only[if_true,Bool.false_eq_true,if_false,List.length_cons]
   omega
  ·have:=ih y hy hq hp
   cases hz:p z with
   |true=>rw[h z hz];simp only[if_true,List.length_cons];omega
   |false=>
    simp only[Bool.false_eq_true,if_false]
    split
    ·simp only[List.length_cons];omega
    ·exact this
theorem Oj{N:Nat}{listed:Array Bool}(h:left N listed=0):∀j,j<N→listed.getD j false=true:=by
 intro j hj
 have:=List.eq_nil_of_length_eq_zero h
 have hm:=List.filter_eq_nil_iff.1 this j (List.mem_range.2 hj)
 simpa using hm
theorem Q7{N:Nat}{listed:Array Bool}{i:Nat}(hs:listed.size=N)(hi:i<N)(hl:listed.getD i false=false):left N (listed.setIfInBounds i true)<left N listed:=by
 refine filter_lt _ _ ?_ _ i (List.mem_range.2 hi) (by rw[hl];rfl) ?_
 ·intro x hx
  cases h:listed.getD x false with
  |false=>rfl
  |true=>rw[getD_set_true h]at hx;exact hx
 ·have:(listed.setIfInBounds i true).getD i false=true:=by simp[hs,hi]
  rw[this];rfl
theorem J9(N:Nat):left N (Array.replicate N false)≤N:=by
 unfold left
 have:=List.length_filter_le (fun j=>!((Array.replicate N false).getD j false)) (List.range N)
 simpa using this
theorem any_ok(g:Rg P cf ops n nt S C)(hcf:xg P n cf){m0:Mp}{w0:World}(gl0:Gl n m0)(zY:∀r l,m0 r=some l→r<nx S 0){d0:List Deferred}{Q:Exit→Act→World→Prop}
 (HQ:∀D m a w,(∀j,j<ops.size→D j)→Inv ops nt S C m0 w0 d0 D m a w→Q .normal a w):
 ∀(fuel:Nat)(listed:Array Bool)(m:Mp)(a:Act)(w:World),listed.size=ops.size→left ops.size listed≤fuel→Closed ops (fun j=>listed.getD j false=true)→
  Inv ops nt S C m0 w0 d0 (fun j=>listed.getD j false=true) m a w→wpAny P .any ops Q fuel listed a w:=by
 have hall:∀(listed:Array Bool),listed.size=ops.size→Region.ready .any ops listed=[]→∀j,j<ops.size→listed.getD j false=true:=by
  intro listed hsz hr j
  induction j using Nat.strongRecOn with
  |_ j ih=>
   intro hj
   cases hl:listed.getD j false with
   |true=>rfl
   |false=>
    have hoj:ops[j]?=some ops[j]:=Array.getElem?_eq_getElem hj
    have hmem:j∈Region.ready .any ops listed:=by
     rw[mem_ready]
     refine⟨by simp[hsz,hj]at hl⊢;exact hl,ops[j],hoj,fun e he hb=>?_⟩
     have hlt:=sP ops.toList 0 j ops[j] g.back (by rw[Array.getElem?_toList];exact hoj) e (by simpa using he) hb
     exact ih e.on (by omega) (by omega)
    rw[hr]at hmem
    cases hmem
 intro fuel
 induction fuel with
 |zero=>
  intro listed m a w hsz hle hD I
  have h1:=Oj (Nat.le_zero.1 hle)
  refine⟨?_,HQ _ m a w h1 I⟩
  cases hr:Region.ready .any ops listed with
  |nil=>rfl
  |cons j l=>
   exfalso
   have hj:j∈Region.ready .any ops listed:=by rw[hr];exact List.mem_cons_self ..
   rw[mem_ready]at hj
   obtain⟨h2,o,ho,_⟩:=hj
   have hjs:j<ops.size:=(Array.getElem?_eq_some_iff.1 ho).1
   have:=h1 j hjs
   simp[hsz,hjs]at h2 this
   rw[h2]at this;cases this
 |succ fuel ih=>
  intro listed m a w hsz hle hD I
  refine⟨fun hr=>HQ _ m a w (hall listed hsz hr) I,fun i hi=>?_⟩
  rw[mem_ready]at hi
  obtain⟨h2,o,ho,h3⟩:=hi
  have his:i<ops.size:=(Array.getElem?_eq_some_iff.1 ho).1
  have hoo:ops[i]=o:=by
   have:=Array.getElem?_eq_getElem his
   rw[ho]at this;injection this with this;exact this.symm
  subst hoo
  have hun:listed.getD i false=false:=by simp[hsz,his]at h2⊢;exact h2
  have hset:∀j,((listed.setIfInBounds i true).getD j false=true)↔xm (fun j=>listed.getD j false=true) i j:=by
   intro j
   by_cases e:i=j
   ·subst e
    exact⟨fun _=>.inr rfl,fun _=>by simp[hsz,his]⟩
   ·rw[getD_set_ne false e]
    exact⟨.inl,fun h=>h.resolve_right (Ne.symm e)⟩
  refine Inv.step g hcf gl0 zY hD I his (by rw[hun];simp) (fun e he hb=>h3 e (by simpa using he) hb) ?_
  intro m' a' w' I'
  have hfun:(fun j=>(listed.setIfInBounds i true).getD j false=true)=xm (fun j=>listed.getD j false=true) i:=by
   funext j
   exact propext (hset j)
  refine ih (listed.setIfInBounds i true) m' a' w' (by simpa using hsz) ?_ ?_ (by rw[hfun];exact I')
  ·have:=Q7 (N:=ops.size) hsz his hun
   omega
  ·intro j o hj CU e he hb
   rcases(hset j).1 CU with h|h
   ·exact getD_set_true (hD j o hj h e he hb)
   ·subst h
    rw[ho]at hj;cases hj
    exact getD_set_true (h3 e (by simpa using he) hb)
end rg
section mem
variable{P:Program}
theorem Vn(hmo:P.follows .mixedOrders=true){cf:cr}{n:Nat}(hcf:xg P n cf)(nt:Nat):E_ P cf n nt:=by
 intro id ops s m a w Q hall hpl hnt rh f gl hpost
 replace hpost:Post m s.H w a.defers nt s.df Q (av (bV ops&&f_ ops) (jT ops (bD P cf ops ops.toList (clear s) [])) .fail):=hpost
 cases hst:f_ ops with
 |false=>rw[hpl,hst]at hpost;exact hpost.elim
 |true=>
  rw[hpl,hst]at hpost
  replace hpost:Post m s.H w a.defers nt s.df Q (jT ops (bD P cf ops ops.toList (clear s) [])):=hpost
  cases hr:bD P cf ops ops.toList (clear s) []with
  |none=>rw[hr]at hpost;exact hpost.elim
  |some q=>
   obtain⟨s1,cls⟩:=q
   rw[hr]at hpost
   replace hpost:Post m s.H w a.defers nt s.df Q (av (bO ops cls) (.norm s1) .fail):=hpost
   cases hdy:bO ops cls with
   |false=>rw[hdy]at hpost;exact hpost.elim
   |true=>
    rw[hdy]at hpost
    replace hpost:To m s.H w a.defers nt s.df s1 (Q .normal):=hpost
    rw[all_eq,List.all_eq_true]at hall
    obtain⟨S,C,e0,eN,e3,e4,_,e6⟩:=trace hcf (ops:=ops) (nt:=nt) ops.toList (clear s) s1 [] cls m a w hall hnt rh f.clear gl hr
    simp only[Array.length_toList]at eN e3 e4
    have hto:∀(j:Nat)(o:Oper),ops[j]?=some o→ops.toList[j]?=some o:=fun j o h=>by rw[Array.getElem?_toList];exact h
    have hsp:=Oc hst
    have hk5:∀j,j<ops.size→(C j).k≤5:=by
     intro j hj
     have hs:=(e6 j _ (hto j _ (Array.getElem?_eq_getElem hj))).1
     generalize S (j +1)=s2 at hs
     generalize C j=c at hs
     cases hs with
     |skip hw=>exact Nat.zero_le _
     |rJ v hw hr=>exact Nat.zero_le _
     |mem v H' hw hr=>exact QO
    have g:Rg P cf ops n nt S C:=by
     refine⟨fun j o h=>(e6 j o (hto j o h)).1,fun j o h=>(e6 j o (hto j o h)).2.1,fun j o h=>(e6 j o (hto j o h)).2.2,?_,hsp.1,hsp.2,?_⟩
     ·intro j o h
      exact hall o (List.mem_of_getElem? (hto j o h))
     ·exact QS hdy (by simpa using e3) e4 hk5
    have Ol:nx S 0=s.H.next:=by show(S 0).H.next=_;rw[e0];rfl
    have G7:∀r,(S 0).H.obj r=s.H.obj r:=by intro r;rw[e0];rfl
    have zY:∀r l,m r=some l→r<nx S 0:=fun r l h=>by rw[Ol];exact rh.dom r l h
    have hup:∀k,k≤ops.size→Mp.le m (m.upto (nx S k)):=fun k hk r l h=>Mp.xh h (Nat.lt_of_lt_of_le (zY r l h) (g.mono 0 k (by omega) hk))
    have acy:∀j,j≤ops.size→(S j).df=s.df:=by
     intro j
     induction j with
     |zero=>intro _;rw[e0];rfl
     |succ j ih=>
      intro hj
      have hs:=g.step j _ (Array.getElem?_eq_getElem hj)
      rw[←ih (by omega)]
      generalize S (j +1)=s2 at hs
      generalize C j=c at hs
      cases hs with
      |skip hw=>rw[uE]
      |rJ v hw hr=>rw[uE]
      |mem v H' hw hr=>rw[uE]
    have aaA:(S ops.size).nt=nt:=by
     cases hz:ops.size with
     |zero=>rw[e0];exact hnt
     |succ k=>
      have hj:k<ops.size:=by omega
      have hoj:=Array.getElem?_eq_getElem hj
      have hs:=g.step k _ hoj
      rw[←g.nts k _ hoj]
      generalize S (k +1)=s2 at hs
      generalize C k=c at hs
      cases hs with
      |skip hw=>rw[mZ]
      |rJ v hw hr=>rw[mZ]
      |mem v H' hw hr=>rw[mZ]
    have hfalse:∀j,((Array.replicate ops.size false).getD j false=true)↔False:=by
     intro j
     simp only[Array.getD_eq_getD_getElem?,Array.getElem?_replicate,iff_false]
     split<;>simp
    have D5:∀κ r k,k≤ops.size→ve S ops.size (fun j=>(Array.replicate ops.size false).getD j false=true) κ r k→r<nx S 0→at' S κ r 0=at' S κ r k:=by
     intro κ r k hk hcon hr
     refine ve.eq g.mono (by omega) hk ⟨hr,fun j _ _ _=>?_⟩ hcon
     rw[hfalse]
     exact⟨fun h=>h.elim,fun h=>by omega⟩
    have hI:Inv ops nt S C m w.drew a.defers (fun j=>(Array.replicate ops.size false).getD j false=true) m a w.drew:=by
     refine⟨⟨?_,?_,?_,?_,?_,?_,fun _ _ h=>h,?_,rfl,rfl,rfl,Nat.le_refl _,fun _ _ _=>rfl⟩,by rw[f.size];exact hnt,?_,rfl⟩
     ·exact fun r l h=>.inl ⟨h,zY r l h⟩
     ·intro r l h
      obtain⟨o,ho,_⟩:=rh.ok r l h
      exact⟨o,ho⟩
     ·intro κ r l k o hk hm hcon ho
      obtain⟨o',ho',hok⟩:=rh.ok r l hm
      have:o'=o:=by
       have h1:w.heap[l.c]?=some o:=ho
       rw[ho']at h1;injection h1
      subst this
      rw[←G7]at hok
      have hrel:Rel κ m l (at' S κ r 0) o':=Rel.fO hok
      rw[D5 κ r k hk hcon (zY r l hm)]at hrel
      exact hrel.mono (hup k hk)
     ·intro r r' l l' k k' h1 h2 h3 h4 h5 h6 h7 h8 h9
      refine rh.sep r r' l l' h1 h2 ?_ ?_ h3
      ·rw[←G7]
       exact qK (D5 none r k h4 h6 (zY r l h1)).symm h8
      ·rw[←G7]
       exact qK (D5 none r' k' h5 h7 (zY r' l' h2)).symm h9
     ·intro r r' l l' j h1 h2 _ hj _ _
      have hm:=g.mono 0 j (by omega) (by omega)
      exact⟨fun _=>Nat.lt_of_lt_of_le (zY r' l' h2) hm,fun _=>Nat.lt_of_lt_of_le (zY r l h1) hm⟩
     ·intro j r _ CU
      exact((hfalse j).1 CU).elim
     ·intro r l h h0;rw[h]at h0;cases h0
     ·intro t k hk hcon
      have hsame:∀d,d≤k→aX (S d) t=aX (S 0) t:=by
       intro d
       induction d with
       |zero=>intro _;rfl
       |succ d ih=>
        intro hd
        have hj:d<ops.size:=by omega
        have hoj:ops[d]?=some ops[d]:=Array.getElem?_eq_getElem hj
        rw[g.look hoj t ?_,ih (by omega)]
        intro e
        exact(hfalse d).1 ((hcon d _ hoj e).2 (by omega))
      rw[hsame k (Nat.le_refl _),e0]
      exact(f.clear.slot t).mono (hup k hk)
    refine wp_region_any hmo ?_
    refine any_ok g hcf gl zY ?_ ops.size (Array.replicate ops.size false) m a w.drew (by simp) (J9 _) (fun j o _ h=>((hfalse j).1 h).elim) hI
    intro D m' a' w' hD I
    have Q8:∀κ r,r<nx S ops.size→ve S ops.size D κ r ops.size:=fun κ r hr=>⟨hr,fun j hj _ _=>⟨fun _=>hj,fun _=>hD j hj⟩⟩
    have L8:∀r l,m' r=some l→r<nx S ops.size:=by
     intro r l h
     rcases I.mem.dom r l h with⟨_,h1⟩|⟨j,hj,_,_,h1⟩
     ·exact Nat.lt_of_lt_of_le h1 (g.mono 0 _ (by omega) (Nat.le_refl _))
     ·exact Nat.lt_of_lt_of_le h1 (g.mono _ _ (by omega) (Nat.le_refl _))
    have hnone:∀r,r<nx S 0→m r=none→m' r=none:=by
     intro r hr h
     cases h1:m' r with
     |none=>rfl
     |some l=>
      rcases I.mem.dom r l h1 with⟨h2,_⟩|⟨j,hj,_,h2,_⟩
      ·rw[h]at h2;cases h2
      ·have:=g.mono 0 j (by omega) (by omega);omega
    refine hpost m' a' w' ⟨⟨?_,?_⟩,⟨?_,?_,?_⟩,?_,I.de,?_,?_⟩
    ·rw[←eN,aaA];exact I.size
    ·intro t
     rw[←eN]
     refine(I.slot t ops.size (Nat.le_refl _) ?_).mono (Mp.LU _ _)
     intro j o hj _
     have:j<ops.size:=(Array.getElem?_eq_some_iff.1 hj).1
     exact⟨fun _=>this,fun _=>hD j this⟩
    ·intro r l h;rw[←eN];exact L8 r l h
    ·intro r l h
     obtain⟨o,ho⟩:=I.mem.Od r l h
     rw[←eN]
     exact⟨o,ho,(Rel.QU fun κ=>I.mem.cnt κ r l ops.size o (Nat.le_refl _) h (Q8 κ r (L8 r l h)) ho).mono (Mp.LU _ _)⟩
    ·intro r r' l l' h h' hd hd' hc
     rw[←eN]at hd hd'
     exact I.mem.sep r r' l l' _ _ h h' hc (Nat.le_refl _) (Nat.le_refl _) (Q8 none r (L8 r l h)) (Q8 none r' (L8 r' l' h')) hd hd'
    ·have hex:Ex m m' s.H s1.H w.drew w':=by
      rw[←eN]
      refine⟨I.mem.le,?_,?_,I.mem.os,I.mem.tape,I.mem.output,I.mem.size,I.mem.keep,?_,?_,?_,?_⟩
      ·intro r l h h0
       rcases I.mem.dom r l h with⟨h2,_⟩|⟨j,hj,_,h2,_⟩
       ·rw[h0]at h2;cases h2
       ·rw[←Ol]
        exact Nat.le_trans (g.mono 0 j (by omega) (by omega)) h2
      ·exact I.mem.fresh
      ·rw[←Ol];exact g.mono 0 _ (by omega) (Nat.le_refl _)
      ·have:=g.low 0 ops.size (by omega) (Nat.le_refl _)
       rw[e0]at this;exact this
      ·intro r h1 h2
       have:∀d,d≤ops.size→(S d).H.obj r=s.H.obj r:=by
        intro d
        induction d with
        |zero=>intro _;exact G7 r
        |succ d ih=>
         intro hd
         rw[g.Vi (j:=d) (by omega) (Nat.lt_of_lt_of_le (by rw[Ol];exact h1) (g.mono 0 d (by omega) (by omega))) h2,ih (by omega)]
       exact this ops.size (Nat.le_refl _)
      ·intro r h1 h2
       have hmn:=hnone r (by rw[Ol];exact h1) h2
       have:∀d,d≤ops.size→(S d).H.obj r=s.H.obj r:=by
        intro d
        induction d with
        |zero=>intro _;exact G7 r
        |succ d ih=>
         intro hd
         rw[I.mem.hid d r (by omega) (hD d (by omega)) (Nat.lt_of_lt_of_le (by rw[Ol];exact h1) (g.mono 0 d (by omega) (by omega))) hmn,ih (by omega)]
       exact this ops.size (Nat.le_refl _)
     exact(Ex.drew m s.H w).trans hex
    ·rw[←eN];exact aaA
    ·rw[←eN];exact acy _ (Nat.le_refl _)
theorem levels(hmo:P.follows .mixedOrders=true){X:Xt}{n:Nat}(hP:pX P n)(hX:Pt P X)(hO:yH P X n)(k:Nat):Fe P n (bU P X k):=
 (QK hP hX hO (fun _ hcf nt=>Vn hmo hcf nt) k).2.2
end mem
end Go.Ae
namespace Go.Ae
section mem
variable{P:Program}
theorem pX.Fp{n:Nat}(h:all' (QJ n) P.funcs.toList=true):pX P n:=by
 intro g fn hg
 rw[all_eq,List.all_eq_true]at h
 exact h fn (List.mem_of_getElem? (by rw[Array.getElem?_toList];exact hg))
end mem
end Go.Ae
namespace Go.Ae
def BH(cf oO:cr):Prop:=∀g args H r,cf g args H=some r→oO g args H=some r
def Q9(cx Gj:Code→St→Out):Prop:=∀c s,cx c s≠.fail→Gj c s=cx c s
section mem
variable{P:Program}
theorem WX{o:Option (Value×aa)}(h:rm o≠.fail):∃r,o=some r:=by
 cases o with
 |none=>exact absurd rfl h
 |some r=>exact⟨r,rfl⟩
theorem G8{cf oO:cr}(h:BH cf oO){o:Op}{s:St}(hne:mV o P cf s≠.fail):mV o P oO s=mV o P cf s:=by
 cases o with
 |call c=>
  replace hne:kZ c P cf s≠.fail:=hne
  show kZ c P oO s=kZ c P cf s
  obtain⟨callee,args,ats⟩:=c
  cases callee with
  |builtin b=>rfl
  |value f=>
   obtain⟨r,hr⟩:=WX (o:=ai (eP (.value f) P s) fun q=>cf q.1 (app q.2.1 (app (mp (ev s) args.toList) q.2.2)) s.H) hne
   show rm (ai (eP (.value f) P s) fun q=>oO q.1 (app q.2.1 (app (mp (ev s) args.toList) q.2.2)) s.H)=rm (ai (eP (.value f) P s) fun q=>cf q.1 (app q.2.1 (app (mp (ev s) args.toList) q.2.2)) s.H)
   rw[hr]
   obtain⟨q,h1,h2⟩:=ah hr
   rw[h1]
   show rm (oO _ _ _)=_
   rw[h _ _ _ _ h2]
  |invoke f nm=>
   obtain⟨r,hr⟩:=WX (o:=ai (eP (.invoke f nm) P s) fun q=>cf q.1 (app q.2.1 (app (mp (ev s) args.toList) q.2.2)) s.H) hne
   show rm (ai (eP (.invoke f nm) P s) fun q=>oO q.1 (app q.2.1 (app (mp (ev s) args.toList) q.2.2)) s.H)=rm (ai (eP (.invoke f nm) P s) fun q=>cf q.1 (app q.2.1 (app (mp (ev s) args.toList) q.2.2)) s.H)
   rw[hr]
   obtain⟨q,h1,h2⟩:=ah hr
   rw[h1]
   show rm (oO _ _ _)=_
   rw[h _ _ _ _ h2]
 |_=>rfl
theorem Om{cf oO:cr}(h:BH cf oO){o:Oper}{s s1:St}(hs:oN P cf o s=some s1):oN P oO o s=some s1:=by
 unfold oN at hs⊢
 cases hd:iE o.op with
 |some c=>rw[hd]at hs;exact hs
 |none=>
  rw[hd]at hs
  replace hs:vJ o s (mV o.op P cf s)=some s1:=hs
  show vJ o s (mV o.op P oO s)=some s1
  rw[G8 h (by intro e;rw[e]at hs;cases hs)]
  exact hs
theorem zo{cf oO:cr}(h:BH cf oO){ops:Array Oper}{o:Oper}{s s1:St}(hs:dN P cf ops o s=some s1):dN P oO ops o s=some s1:=by
 obtain⟨b,hb,h2⟩:=ah hs
 unfold dN
 rw[hb]
 cases b with
 |true=>exact Om h h2
 |false=>exact h2
theorem zq{cf oO:cr}(h:BH cf oO){ops:Array Oper}:∀{l:List Oper}{s s1:St},dW P cf ops l s=some s1→dW P oO ops l s=some s1:=by
 intro l
 induction l with
 |nil=>intro s s1 hs;exact hs
 |cons o l ih=>
  intro s s1 hs
  replace hs:(ai (dN P cf ops o s) fun s=>dW P cf ops l s)=some s1:=hs
  obtain⟨s2,h1,h2⟩:=ah hs
  show(ai (dN P oO ops o s) fun s=>dW P oO ops l s)=some s1
  rw[zo h h1]
  exact ih h2
theorem xq{cf oO:cr}(h:BH cf oO){ops:Array Oper}{o:Oper}{s:St}{r:St×Cl}(hs:cO P cf ops o s=some r):cO P oO ops o s=some r:=by
 obtain⟨b,hb,h2⟩:=ah hs
 unfold cO
 rw[hb]
 cases b with
 |true=>
  replace h2:zf P o s (mV o.op P cf (aV s))=some r:=h2
  show zf P o s (mV o.op P oO (aV s))=some r
  rw[G8 h (by intro e;rw[e]at h2;cases h2)]
  exact h2
 |false=>exact h2
theorem xu{cf oO:cr}(h:BH cf oO){ops:Array Oper}:∀{l:List Oper}{s:St}{acc:List Cl}{r:St×List Cl},bD P cf ops l s acc=some r→bD P oO ops l s acc=some r:=by
 intro l
 induction l with
 |nil=>intro s acc r hs;exact hs
 |cons o l ih=>
  intro s acc r hs
  replace hs:(ai (cO P cf ops o s) fun q=>bD P cf ops l q.1 (q.2::acc))=some r:=hs
  obtain⟨s2,h1,h2⟩:=ah hs
  show(ai (cO P oO ops o s) fun q=>bD P oO ops l q.1 (q.2::acc))=some r
  rw[xq h h1]
  exact ih h2
theorem G9{cf oO:cr}(h:BH cf oO){ops:Array Oper}{d:Bool}{s:St}(hne:region P cf ops d s≠.fail):region P oO ops d s=region P cf ops d s:=by
 cases d with
 |false=>
  replace hne:zh (dW P cf ops ops.toList (clear s))≠.fail:=hne
  show zh (dW P oO ops ops.toList (clear s))=zh (dW P cf ops ops.toList (clear s))
  cases hr:dW P cf ops ops.toList (clear s)with
  |none=>rw[hr]at hne;exact absurd rfl hne
  |some s1=>rw[zq h hr]
 |true=>
  replace hne:av (bV ops&&f_ ops) (jT ops (bD P cf ops ops.toList (clear s) [])) .fail≠.fail:=hne
  show av (bV ops&&f_ ops) (jT ops (bD P oO ops ops.toList (clear s) [])) .fail=av (bV ops&&f_ ops) (jT ops (bD P cf ops ops.toList (clear s) [])) .fail
  cases hb:(bV ops&&f_ ops)with
  |false=>rfl
  |true=>
   rw[hb]at hne
   replace hne:jT ops (bD P cf ops ops.toList (clear s) [])≠.fail:=hne
   show jT ops (bD P oO ops ops.toList (clear s) [])=jT ops (bD P cf ops ops.toList (clear s) [])
   cases hr:bD P cf ops ops.toList (clear s) []with
   |none=>rw[hr]at hne;exact absurd rfl hne
   |some r=>rw[xu h hr]
theorem xw{o o':Out}{k k':St→Out}(ho:o≠.fail→o'=o)(hk:∀s,k s≠.fail→k' s=k s)(hne:andThen o k≠.fail):andThen o' k'=andThen o k:=by
 cases o with
 |fail=>exact absurd rfl hne
 |norm s=>rw[ho (by simp)];exact hk s hne
 |exit i s=>rw[ho (by simp)];rfl
 |goto l s=>rw[ho (by simp)];rfl
 |ret s=>rw[ho (by simp)];rfl
theorem BI{f f':St→Out}(hf:∀s,f s≠.fail→f' s=f s):∀(n n':Nat),n≤n'→∀s,l_ n f s≠.fail→l_ n' f' s=l_ n f s:=by
 intro n
 induction n with
 |zero=>intro n' _ s h;exact absurd rfl h
 |succ n ih=>
  intro n' hn s h
  cases n' with
  |zero=>omega
  |succ n'=>
   show andThen (f' s) (l_ n' f')=andThen (f s) (l_ n f)
   exact xw (hf s) (fun s' h'=>ih n' (by omega) s' h') h
theorem sQ{cx Gj:Code→St→Out}(hx:Q9 cx Gj)(body:Code):∀(n n':Nat),n≤n'→∀o,eU cx n body o≠.fail→eU Gj n' body o=eU cx n body o:=by
 intro n
 induction n with
 |zero=>intro n' _ o h;exact absurd rfl h
 |succ n ih=>
  intro n' hn o h
  cases n' with
  |zero=>omega
  |succ n'=>
   cases o with
   |goto l s=>
    replace h:(@Option.rec Code (fun _=>Out) (.goto l s) (fun rest=>eU cx n body (cx rest s)) (findLabel body l):Out)≠.fail:=h
    show(@Option.rec Code (fun _=>Out) (.goto l s) (fun rest=>eU Gj n' body (Gj rest s)) (findLabel body l):Out)=(@Option.rec Code (fun _=>Out) (.goto l s) (fun rest=>eU cx n body (cx rest s)) (findLabel body l):Out)
    cases hf:findLabel body l with
    |none=>rfl
    |some rest=>
     rw[hf]at h
     replace h:eU cx n body (cx rest s)≠.fail:=h
     show eU Gj n' body (Gj rest s)=eU cx n body (cx rest s)
     have hne:cx rest s≠.fail:=by
      intro e
      rw[e]at h
      cases n with
      |zero=>exact h rfl
      |succ n=>exact h rfl
     rw[hx rest s hne]
     exact ih n' (by omega) _ h
   |_=>rfl
theorem yK{cf oO:cr}(h:BH cf oO){cx Gj:Code→St→Out}(hx:Q9 cx Gj){n n':Nat}(hn:n≤n'):∀(c:Code)(s:St),exec P cf cx n c s≠.fail→exec P oO Gj n' c s=exec P cf cx n c s:=by
 intro c
 induction c with
 |region id ops d=>intro s hne;exact G9 h hne
 |seq a b iha ihb=>
  intro s hne
  exact xw (o:=exec P cf cx n a s) (o':=exec P oO Gj n' a s) (k:=exec P cf cx n b) (k':=exec P oO Gj n' b) (iha s) ihb hne
 |cond c a b iha ihb=>
  intro s hne
  replace hne:zg (bK (ev s c)) (exec P cf cx n a s) (exec P cf cx n b s)≠.fail:=hne
  show zg (bK (ev s c)) (exec P oO Gj n' a s) (exec P oO Gj n' b s)=zg (bK (ev s c)) (exec P cf cx n a s) (exec P cf cx n b s)
  cases hb:bK (ev s c)with
  |none=>rfl
  |some b'=>
   rw[hb]at hne
   cases b' with
   |true=>exact iha s hne
   |false=>exact ihb s hne
 |block id a ih=>
  intro s hne
  replace hne:lD id (exec P cf cx n a s)≠.fail:=hne
  show lD id (exec P oO Gj n' a s)=lD id (exec P cf cx n a s)
  rw[ih s (by intro e;rw[e]at hne;exact hne rfl)]
 |loop a ih=>intro s hne;exact BI ih n n' hn s hne
 |scope a ih=>
  intro s hne
  replace hne:eU cx n a (exec P cf cx n a s)≠.fail:=hne
  show eU Gj n' a (exec P oO Gj n' a s)=eU cx n a (exec P cf cx n a s)
  have hne2:exec P cf cx n a s≠.fail:=by
   intro e
   rw[e]at hne
   cases n with
   |zero=>exact hne rfl
   |succ n=>exact hne rfl
  rw[ih s hne2]
  exact sQ hx a n n' hn _ hne
 |_=>intro s _;rfl
theorem G_{X:Xt}{L L':Lv}(h:BH L.ca L'.ca)(hx:Q9 L.cx L'.cx){n n':Nat}(hn:n≤n'):BH (qE P X L n) (qE P X L' n'):=by
 intro g args H r hr
 cases hor:X.o g args H with
 |some q=>rw[sN hor]at hr⊢;exact hr
 |none=>
 rw[mh hor]at hr⊢
 obtain⟨fn,h1,h2⟩:=ah hr
 rw[h1]
 show Ns P L' n' g (X g) fn args H=some r
 unfold Ns at h2⊢
 cases hb:fn.body with
 |none=>rw[hb]at h2;exact h2
 |some c=>
  rw[hb]at h2
  obtain⟨h3,h4⟩:=aH (b:=Nat.ble (len args) fn.ntmps) h2
  obtain⟨s,h5,h6⟩:=ah h4
  show gd (Nat.ble (len args) fn.ntmps) (ai (EH (exec P L'.ca L'.cx n' c ⟨bQ P g,fn.ntmps,[],Tr.jE top args 0 .nil,[],H⟩)) fun s=>zi P fn s)=some r
  rw[h3,yK h hx hn c _ (by intro e;rw[e]at h5;cases h5),h5]
  exact h6
theorem ng{X:Xt}:∀(n n':Nat),n≤n'→BH (lv P X n).ca (lv P X n').ca∧Q9 (lv P X n).cx (lv P X n').cx:=by
 intro n
 induction n with
 |zero=>intro n' _;exact⟨(fun g args H r h=>by cases h),(fun c s h=>absurd rfl h)⟩
 |succ n ih=>
  intro n' hn
  cases n' with
  |zero=>omega
  |succ n'=>
   obtain⟨h1,h2⟩:=ih n' (by omega)
   exact⟨G_ h1 h2 (by omega),fun c s h=>yK h1 h2 (by omega) c s h⟩
def Ca(P:Program)(X:Xt)(g:FuncId)(args:List Value)(H:aa)(v:Value)(H':aa):Prop:=∃k,bU P X k g args H=some (v,H')
noncomputable def xx(P:Program)(X:Xt)(k:Nat)(c:Code)(s:St):Out:=exec P (lv P X k).ca (lv P X k).cx k c s
def Ev(P:Program)(X:Xt)(c:Code)(s:St)(o:Out):Prop:=o≠.fail∧∃k,xx P X k c s=o
def Ro(P:Program)(X:Xt)(ops:Array Oper)(l:List Oper)(s s':St):Prop:=∃k,dW P (bU P X k) ops l s=some s'
def YK(P:Program)(X:Xt)(ops:Array Oper)(l:List Oper)(s:St)(acc:List Cl)(r:St×List Cl):Prop:=∃k,bD P (bU P X k) ops l s acc=some r
variable{X:Xt}
theorem Ca.le{g:FuncId}{args:List Value}{H H':aa}{v:Value}{k k':Nat}(h:bU P X k g args H=some (v,H'))(hk:k≤k'):bU P X k' g args H=some (v,H'):=(ng k k' hk).1 _ _ _ _ h
theorem qM{c:Code}{s:St}{o:Out}{k k':Nat}(h:xx P X k c s=o)(ho:o≠.fail)(hk:k≤k'):xx P X k' c s=o:=by
 rw[←h]
 exact yK (ng k k' hk).1 (ng k k' hk).2 hk c s (by show xx P X k c s≠_;rw[h];exact ho)
section rules
variable{s s1:St}{o:Out}{a b c:Code}
theorem Ev.skip:Ev P X .skip s (.norm s):=⟨by simp,0,rfl⟩
theorem Ev.label{l:Nat}:Ev P X (.label l) s (.norm s):=⟨by simp,0,rfl⟩
theorem Ev.exit{i:Nat}:Ev P X (.exit i) s (.exit i s):=⟨by simp,0,rfl⟩
theorem Ev.ret:Ev P X .ret s (.ret s):=⟨by simp,0,rfl⟩
theorem Ev.seq(h1:Ev P X a s (.norm s1))(h2:Ev P X b s1 o):Ev P X (.seq a b) s o:=by
 obtain⟨n1,k1,h1⟩:=h1
 obtain⟨n2,k2,h2⟩:=h2
 refine⟨n2,max k1 k2,?_⟩
 show andThen (xx P X (max k1 k2) a s) (xx P X (max k1 k2) b)=o
 rw[qM h1 n1 (Nat.le_max_left _ _)]
 exact qM h2 n2 (Nat.le_max_right _ _)
theorem Ev.Vp(h1:Ev P X a s (.ret s1)):Ev P X (.seq a b) s (.ret s1):=by
 obtain⟨n1,k1,h1⟩:=h1
 refine⟨n1,k1,?_⟩
 show andThen (xx P X k1 a s) (xx P X k1 b)=_
 rw[h1];rfl
theorem Ev.Q_{i:Nat}(h1:Ev P X a s (.exit i s1)):Ev P X (.seq a b) s (.exit i s1):=by
 obtain⟨n1,k1,h1⟩:=h1
 refine⟨n1,k1,?_⟩
 show andThen (xx P X k1 a s) (xx P X k1 b)=_
 rw[h1];rfl
theorem Ev.cond{x:Operand}{t:Bool}(hx:bK (ev s x)=some t)(h:Ev P X (if t then a else b) s o):Ev P X (.cond x a b) s o:=by
 obtain⟨n1,k1,h1⟩:=h
 refine⟨n1,k1,?_⟩
 show zg (bK (ev s x)) (xx P X k1 a s) (xx P X k1 b s)=o
 rw[hx]
 cases t with
 |true=>exact h1
 |false=>exact h1
theorem Ev.block{i:Nat}(h:Ev P X a s (.norm s1)):Ev P X (.block i a) s (.norm s1):=by
 obtain⟨n1,k1,h1⟩:=h
 refine⟨n1,k1,?_⟩
 show lD i (xx P X k1 a s)=_
 rw[h1];rfl
theorem Ev.Vq(h1:Ev P X a s (.norm s1))(h2:Ev P X (.loop a) s1 o):Ev P X (.loop a) s o:=by
 obtain⟨n1,k1,h1⟩:=h1
 obtain⟨n2,k2,h2⟩:=h2
 refine⟨n2,max k1 k2 +1,?_⟩
 show andThen (xx P X (max k1 k2 +1) a s) (l_ (max k1 k2) (xx P X (max k1 k2 +1) a))=o
 rw[qM h1 n1 (Nat.le_trans (Nat.le_max_left _ _) (Nat.le_succ _))]
 show l_ (max k1 k2) (xx P X (max k1 k2 +1) a) s1=o
 replace h2:l_ k2 (xx P X k2 a) s1=o:=h2
 rw[←h2]
 refine BI ?_ k2 _ (Nat.le_max_right _ _) s1 (by rw[h2];exact n2)
 intro s2 hne
 exact qM rfl hne (Nat.le_trans (Nat.le_max_right _ _) (Nat.le_succ _))
theorem Ev.Ra{i:Nat}(h:Ev P X a s (.exit i s1)):Ev P X (.loop a) s (.exit i s1):=by
 obtain⟨n1,k1,h1⟩:=h
 refine⟨n1,k1 +1,?_⟩
 show andThen (xx P X (k1 +1) a s) _=_
 rw[qM h1 n1 (Nat.le_succ _)];rfl
theorem Ev.Rb(h:Ev P X a s (.ret s1)):Ev P X (.loop a) s (.ret s1):=by
 obtain⟨n1,k1,h1⟩:=h
 refine⟨n1,k1 +1,?_⟩
 show andThen (xx P X (k1 +1) a s) _=_
 rw[qM h1 n1 (Nat.le_succ _)];rfl
theorem Ev.region{id:Nat}{ops:Array Oper}(h:Ro P X ops ops.toList (clear s) s1):Ev P X (.region id ops false) s (.norm s1):=by
 obtain⟨k,h⟩:=h
 refine⟨by simp,k,?_⟩
 show zh (dW P (bU P X k) ops ops.toList (clear s))=_
 rw[h];rfl
theorem Ev.He{id:Nat}{ops:Array Oper}{cls:List Cl}(hp:(bV ops&&f_ ops)=true)(h:YK P X ops ops.toList (clear s) [] (s1,cls))(hd:bO ops cls=true):Ev P X (.region id ops true) s (.norm s1):=by
 obtain⟨k,h⟩:=h
 refine⟨by simp,k,?_⟩
 show av (bV ops&&f_ ops) (jT ops (bD P (bU P X k) ops ops.toList (clear s) [])) .fail=_
 rw[hp]
 show jT ops (bD P (bU P X k) ops ops.toList (clear s) [])=_
 rw[h]
 show av (bO ops cls) (Out.norm s1) Out.fail=_
 rw[hd];rfl
theorem Ro.nil{ops:Array Oper}:Ro P X ops [] s s:=⟨0,rfl⟩
def So(P:Program)(X:Xt)(ops:Array Oper)(p:Oper)(s s':St):Prop:=∃k,dN P (bU P X k) ops p s=some s'
theorem Ro.cons{ops:Array Oper}{p:Oper}{l:List Oper}{s2:St}(h1:So P X ops p s s1)(h2:Ro P X ops l s1 s2):Ro P X ops (p::l) s s2:=by
 obtain⟨k1,h1⟩:=h1
 obtain⟨k2,h2⟩:=h2
 refine⟨max k1 k2,?_⟩
 show(ai (dN P (bU P X (max k1 k2)) ops p s) fun s=>dW P (bU P X (max k1 k2)) ops l s)=_
 rw[show dN P (bU P X (max k1 k2)) ops p s=some s1 from zo (ng k1 _ (Nat.le_max_left k1 k2)).1 h1]
 exact zq (ng k2 _ (Nat.le_max_right k1 k2)).1 h2
theorem So.rJ{ops:Array Oper}{p:Oper}{v:Value}(hw:iq ops s p.guard=some true)(hd:iE p.op=none)(h:∀cf,mV p.op P cf s=.rJ v):So P X ops p s (bG s p.dst v s.H):=by
 refine⟨0,?_⟩
 unfold dN
 rw[hw]
 show oN P _ p s=_
 unfold oN
 rw[hd]
 show vJ p s (mV p.op P _ s)=_
 rw[h];rfl
theorem So.mem{ops:Array Oper}{p:Oper}{v:Value}{H':aa}(hw:iq ops s p.guard=some true)(hd:iE p.op=none)(h:∀cf,mV p.op P cf s=.mem v H'):So P X ops p s (bG s p.dst v H'):=by
 refine⟨0,?_⟩
 unfold dN
 rw[hw]
 show oN P _ p s=_
 unfold oN
 rw[hd]
 show vJ p s (mV p.op P _ s)=_
 rw[h];rfl
theorem So.skip{ops:Array Oper}{p:Oper}(hw:iq ops s p.guard=some false):So P X ops p s (bG s p.dst undef s.H):=by
 refine⟨0,?_⟩
 unfold dN
 rw[hw];rfl
theorem So.call{ops:Array Oper}{p:Oper}{q:Call}{g:FuncId}{pre post:List Value}{v:Value}{H':aa}(hw:iq ops s p.guard=some true)(hop:p.op=.call q)(hb:isBuiltin q.callee=none)(hc:eP q.callee P s=some (g,pre,post))
 (h:Ca P X g (app pre (app (mp (ev s) q.args.toList) post)) s.H v H'):So P X ops p s (bG s p.dst v H'):=by
 obtain⟨k,h⟩:=h
 refine⟨k,?_⟩
 unfold dN
 rw[hw]
 show oN P _ p s=_
 unfold oN
 rw[show iE p.op=none from by rw[hop];rfl]
 show vJ p s (mV p.op P (bU P X k) s)=_
 have:mV p.op P (bU P X k) s=.mem v H':=by
  rw[hop]
  show kZ q P (bU P X k) s=_
  unfold kZ
  rw[hb]
  show rm (ai (eP q.callee P s) fun z=>bU P X k z.1 (app z.2.1 (app (mp (ev s) q.args.toList) z.2.2)) s.H)=_
  rw[hc]
  show rm (bU P X k g (app pre (app (mp (ev s) q.args.toList) post)) s.H)=_
  rw[h];rfl
 rw[this];rfl
theorem Ca.body{g:FuncId}{fn:Func}{c:Code}{args:List Value}{H:aa}{o:Out}{s1:St}{vs:List Value}(hor:X.o g args H=none)(hg:nth P.funcs.toList g=some fn)(hb:fn.body=some c)(hl:Nat.ble (len args) fn.ntmps=true)
 (h:Ev P X c ⟨bQ P g,fn.ntmps,[],Tr.jE top args 0 .nil,[],H⟩ o)(ho:EH o=some s1)(hdf:Nat.beq (len s1.df) 0=true)(hr:dw P s1 fn.results.toList=some vs):Ca P X g args H (iZ vs) s1.H:=by
 obtain⟨n1,k,h⟩:=h
 refine⟨k +1,?_⟩
 show qE P X (lv P X k) k g args H=_
 rw[mh hor,hg]
 show Ns P (lv P X k) k g (X g) fn args H=_
 unfold Ns
 rw[hb]
 show gd (Nat.ble (len args) fn.ntmps) (ai (EH (xx P X k c ⟨bQ P g,fn.ntmps,[],Tr.jE top args 0 .nil,[],H⟩)) fun s=>zi P fn s)=_
 rw[hl,h,ho]
 show zi P fn s1=_
 unfold zi
 rw[hdf,hr];rfl
end rules
end mem
end Go.Ae
namespace Go.Ae
def J'(P:Program)(g:FuncId)(c:Nat):Prop:=∀(fn:Func)(args:List Value)(v:Value)(H H':aa),P.funcs[g]?=some fn→Nq P c fn.resultTypes.toList args H=some (v,H')→
 ∀m w args',RH m H w→dh m args args'→∃m' v' w',(callFunc g ⟨args'⟩).run P w=.ok (.value v') w'∧VR m' v v'∧RH m' H' w'∧Ex m m' H H' w w'
theorem Pt.of{P:Program}{X:Xt}(h:∀g,X g=0∨J' P g (X g)):Pt P X:=by
 intro g fn args v H H' hg _ hx m w args' rh ha
 rcases h g with h0|h1
 ·rw[h0]at hx;cases hx
 ·exact h1 fn args v H H' hg hx m w args' rh ha
section mem
variable{P:Program}{g:FuncId}{fn:Func}
theorem J'.J_{c:Nat}{e:Array Value→Sem Value}(hg:P.funcs[g]?=some fn)(hname:(fn.name== "runtime.NumGoroutine")=false)(hb:fn.body.isNone=true)(hn:Extern.findNext fn=none)(he:Extern.find fn=some e)
 (h:∀(args:List Value)(v:Value)(H H':aa),Nq P c fn.resultTypes.toList args H=some (v,H')→∀m w args',RH m H w→dh m args args'→jK P m H w (e ⟨args'⟩) v H'):J' P g c:=by
 intro fn' args v H H' hg' hx m w args' rh ha
 rw[hg]at hg';cases hg'
 obtain⟨m',v',w',h1,h2,h3,h4⟩:=h args v H H' hx m w args' rh ha
 refine⟨m',v',w',?_,h2,h3,h4⟩
 rw[run_callFunc_extern hg hname hb hn he,h1]
 rfl
theorem J'.same(hg:P.funcs[g]?=some fn)(hname:(fn.name== "runtime.NumGoroutine")=false)(hb:fn.body.isNone=true)(hn:Extern.findNext fn=none)(he:Extern.find fn=some Extern.AbiNoEscape.same):J' P g 1:=by
 refine J'.J_ hg hname hb hn he ?_
 intro args v H H' h m w args' rh ha
 replace h:(gd (Nat.beq (len args) 1) (ai (nth args 0) fun x=>some (x,H)))=some (v,H'):=h
 (replace h:=aH h;obtain⟨hl,h⟩:=h)
 (replace h:=ah h;obtain⟨x,hx,h⟩:=h)
 cases h
 rw[fC]at hx
 rw[aO]at hl
 obtain⟨v',h1,h2⟩:=Vd (P:=P) (w:=w) (Nat.eq_of_beq_eq_true hl) hx ha
 exact⟨m,v',w,h2,h1,rh,Ex.refl _ _ _⟩
theorem J'.index(hg:P.funcs[g]?=some fn)(hname:(fn.name== "runtime.NumGoroutine")=false)(hb:fn.body.isNone=true)(hn:Extern.findNext fn=none)(he:Extern.find fn=some Extern.BytealgIndexByte.indexByte):J' P g 3:=by
 refine J'.J_ hg hname hb hn he ?_
 intro args v H H' h m w args' rh ha
 replace h:(ai (Be args) fun x=>some (Jw (mO x.2 x.1.data.toList 0),H))=some (v,H'):=h
 (replace h:=ah h;obtain⟨q,hq,h⟩:=h)
 cases h
 obtain⟨h1,h2⟩:=E7 (P:=P) (w:=w) hq ha
 exact⟨m,_,w,h2,h1,rh,Ex.refl _ _ _⟩
theorem J'.count(hg:P.funcs[g]?=some fn)(hname:(fn.name== "runtime.NumGoroutine")=false)(hb:fn.body.isNone=true)(hn:Extern.findNext fn=none)(he:Extern.find fn=some Extern.BytealgCount.count):J' P g 4:=by
 refine J'.J_ hg hname hb hn he ?_
 intro args v H H' h m w args' rh ha
 replace h:(ai (Be args) fun x=>some (Value.int .i64 (.ofNat (countB x.2 x.1.data.toList)),H))=some (v,H'):=h
 (replace h:=ah h;obtain⟨q,hq,h⟩:=h)
 cases h
 obtain⟨h1,h2⟩:=E8 (P:=P) (w:=w) hq ha
 exact⟨m,_,w,h2,h1,rh,Ex.refl _ _ _⟩
end mem
end Go.Ae
namespace Go.Ae
noncomputable def jW(ty:TypeId)(k:IntKind)(l:List Nat):dn:=.row ⟨ty,Tr.jE top (mp (fun n=>Value.int k (Int.ofNat n)) l) 0 .nil,len l,true,0⟩
def TabAt(w:World)(o:dn)(r:Nat):Prop:=o=.dead∨∃(ty:TypeId)(k:IntKind)(l:List Nat)(cs:Array Value)(fr:Nat×Nat),o=jW ty k l∧w.heap[r]?=some (.cells cs ty fr)∧∀(i z:Nat),l[i]?=some z→cs[i]?=some (Value.int k (z:Nat))
def aaB:dn→Nat
 |.row R=>R.n
 |_=>0
def sS(w:World)(r:Nat):Nat:=match w.heap[r]? with|some (.cells cs _ _)=>cs.size|_=>0
noncomputable def vT(w:World)(H:aa):Mp:=fun r=>if r<H.next then some ⟨r,0,0,sS w r,aaB (H.obj r)⟩else none
section mem
variable{P:Program}
theorem L9(w:World)(H:aa):Gl H.next (vT w H):=fun g hg=>⟨⟨g,0,0,sS w g,aaB (H.obj g)⟩,by unfold vT;rw[if_pos hg],rfl,rfl,rfl⟩
theorem Vr{w:World}{H:aa}(h:H.next≤w.heap.size)(ht:∀r,r<H.next→TabAt w (H.obj r) r):RH (vT w H) H w:=by
 refine⟨?_,?_,?_⟩
 ·intro r l hr
  unfold vT at hr
  split at hr
  ·next h1=>exact h1
  ·cases hr
 ·intro r l hr
  unfold vT at hr
  split at hr
  ·next h1=>
   cases hr
   refine⟨w.heap[r]'(by omega),Array.getElem?_eq_getElem (i:=r) (by omega),?_⟩
   rcases ht r h1 with h2|⟨ty,k,l,cs,fr,h2,h3,h4⟩
   ·rw[h2];trivial
   ·have hcn:sS w r=cs.size:=by unfold sS;rw[h3]
    have hget:w.heap[r]'(by omega)=.cells cs ty fr:=by
     have:=Array.getElem?_eq_getElem (xs:=w.heap) (i:=r) (by omega)
     rw[h3]at this;injection this with this;exact this.symm
    rw[hget,h2]
    show jJ _ _ (jW ty k l) _
    have hlen:∀i,i<l.length→i<cs.size:=by
     intro i hi
     exact(Array.getElem?_eq_some_iff.1 (h4 i _ (List.getElem?_eq_getElem hi))).1
    have hle:l.length≤cs.size:=by
     rcases Nat.lt_or_ge cs.size l.length with h5|h5
     ·have:=hlen cs.size h5;omega
     ·exact h5
    refine⟨⟨rfl,rfl⟩,rfl,hcn.symm,Nat.zero_le _,?_,?_,?_⟩
    ·show 0 +(len l -0)≤sS w r
     rw[hcn,aO];omega
    ·intro hse;cases hse
    ·intro i _ hi
     have hi:i<len l:=hi
     rw[aO]at hi
     refine⟨.int k (l[i]:Nat),?_,?_⟩
     ·simp only[Nat.zero_add,Nat.sub_zero]
      exact h4 i _ (List.getElem?_eq_getElem hi)
     ·show VR _ ((Tr.jE top (mp (fun n=>Value.int k (Int.ofNat n)) l) 0 .nil).get top i) _
      rw[Tr.dY,wP,if_pos (by simp;omega)]
      rw[List.getD_eq_getElem?_getD]
      simp[hi]
      exact .sc _ rfl
  ·cases hr
 ·intro r r' l l' hr hr' _ _ hc
  unfold vT at hr hr'
  split at hr
  ·split at hr'
   ·cases hr;cases hr';exact hc
   ·cases hr'
  ·cases hr
theorem Ka{X:Xt}{k:Nat}{H:aa}(hmo:P.follows .mixedOrders=true)(hP:pX P H.next)(hX:Pt P X)(hO:yH P X H.next){g:FuncId}{fn:Func}(hg:P.funcs[g]?=some fn)(hb:fn.body.isSome=true)
 {args:List Value}{v:Value}{H':aa}(h:bU P X k g args H=some (v,H'))(hlow:H.next≤H'.low)(hv:eH v=true)(ha:args.all eH=true){w:World}(hw:H.next≤w.heap.size)
 (ht:∀r,r<H.next→TabAt w (H.obj r) r):
 Calls P g ⟨args⟩ w fun e w'=>e=.returned v∧Go.RowKit.Below w.heap.size w w':=by
 refine(levels hmo hP hX hO k g args v _ H' fn h hg hb (vT w H) w args (Vr hw ht) (L9 w H) (dh.eH ha)).mono ?_
 rintro e w' ⟨m',v',rfl,h1,h2,h3⟩
 rw[h1.jy hv]
 refine⟨rfl,⟨h3.os,h3.tape,h3.output,h3.size,fun c hc=>h3.keep c hc ?_⟩⟩
 intro r l hr _
 unfold vT at hr
 split at hr
 ·next h4=>exact Nat.lt_of_lt_of_le h4 hlow
 ·cases hr
noncomputable def Hf(n:Nat)(b:Bool)(o:Option (Value×aa)):Bool:=@Option.rec (Value×aa) (fun _=>Bool) false (fun p=>(@Option.rec Bool (fun _=>Bool) false (fun x=>qw x b) (bK p.1))&&Nat.ble n p.2.low) o
theorem Re{n:Nat}{b:Bool}{o:Option (Value×aa)}(h:Hf n b o=true):∃H',o=some (.bool b,H')∧n≤H'.low:=by
 cases o with
 |none=>cases h
 |some p=>
  replace h:((@Option.rec Bool (fun _=>Bool) false (fun x=>qw x b) (bK p.1))&&Nat.ble n p.2.low)=true:=h
  rw[Bool.and_eq_true]at h
  cases hb:bK p.1 with
  |none=>rw[hb]at h;cases h.1
  |some x=>
   rw[hb]at h
   have h1:qw x b=true:=h.1
   rw[Bg,beq_iff_eq]at h1
   exact⟨p.2,by rw[←h1,←gm hb],Nat.le_of_ble_eq_true h.2⟩
end mem
end Go.Ae
namespace Go.Ae
theorem J{a b:Prop}(x:a)(y:b):a∧b:=⟨x,y⟩
structure fF(s s':St):Prop where
 nl:s.nl=s'.nl
 nt:s.nt=s'.nt
 df:s.df=s'.df
 H:s.H=s'.H
 lk:∀t,aX s t=aX s' t
inductive qx:Out→Out→Prop where
 |fail:qx .fail .fail
 |norm {s s':St} (h:fF s s'):qx (.norm s) (.norm s')
 |exit (i:Nat) {s s':St} (h:fF s s'):qx (.exit i s) (.exit i s')
 |goto (l:Nat) {s s':St} (h:fF s s'):qx (.goto l s) (.goto l s')
 |ret {s s':St} (h:fF s s'):qx (.ret s) (.ret s')
theorem fF.look{s s':St}(h:fF s s'):aX s=aX s':=funext h.lk
theorem fF.ev{s s':St}(h:fF s s'):ev s=ev s':=by
 funext x
 cases x with
 |tmp t=>exact congrFun h.look t
 |_=>rfl
theorem qx.refl(o:Out):qx o o:=by
 cases o with
 |fail=>exact .fail
 |norm s=>exact .norm ⟨rfl,rfl,rfl,rfl,fun _=>rfl⟩
 |exit i s=>exact .exit i ⟨rfl,rfl,rfl,rfl,fun _=>rfl⟩
 |goto l s=>exact .goto l ⟨rfl,rfl,rfl,rfl,fun _=>rfl⟩
 |ret s=>exact .ret ⟨rfl,rfl,rfl,rfl,fun _=>rfl⟩
theorem fF.zX{s s':St}(h:fF s s'):zX s=zX s':=by
 funext x
 cases x with
 |none=>rfl
 |some x=>exact congrArg some (congrFun h.ev x)
theorem fF.EG{s s':St}(h:fF s s'):EG s=EG s':=by
 funext ps
 unfold Go.Ae.EG
 rw[h.ev]
theorem uG(d:Nat)(v:Value)(l:List (Nat×Value))(t:Nat):Go.Ae.look ((d,v)::l) t=if d=t then v else Go.Ae.look l t:=by
 show av (Nat.beq d t) v (Go.Ae.look l t)=_
 by_cases e:d=t
 ·subst e;rw[show Nat.beq d d=true from Nat.beq_refl d];simp[fV]
 ·rw[show Nat.beq d t=false from by rw[←Bool.not_eq_true];exact fun g=>e (Nat.eq_of_beq_eq_true g),if_neg e];rfl
noncomputable def wr(s:St)(d:Nat):Bool:=av (aS s.nl d) (Nat.ble (Nat.succ d) s.nt) true
theorem nK(s:St)(d:Nat)(v:Value)(H:aa)(t:Nat):aX (gX s d v H) t=if d=t∧wr s d=true then v else aX s t:=by
 by_cases hb:aS s.nl d=true
 ·have e:gX s d v H=⟨s.nl,s.nt,s.reg,av (Nat.ble (Nat.succ d) s.nt) (s.tm.set top d v) s.tm,s.df,H⟩:=by unfold gX;rw[hb];rfl
  have ew:wr s d=Nat.ble (Nat.succ d) s.nt:=by unfold wr;rw[hb];rfl
  rw[e,ew]
  show av (aS s.nl t) ((av (Nat.ble (Nat.succ d) s.nt) (s.tm.set top d v) s.tm).get top t) (Go.Ae.look s.reg t)=if d=t∧Nat.ble (Nat.succ d) s.nt=true then v else av (aS s.nl t) (s.tm.get top t) (Go.Ae.look s.reg t)
  by_cases hn:Nat.ble (Nat.succ d) s.nt=true
  ·rw[hn]
   show av (aS s.nl t) ((s.tm.set top d v).get top t) (Go.Ae.look s.reg t)=_
   rw[Tr.jP]
   by_cases e:d=t
   ·subst e
    rw[if_pos rfl,if_pos ⟨rfl,rfl⟩,hb];rfl
   ·rw[if_neg (fun h=>e h.symm),if_neg (fun h=>e h.1)]
  ·rw[Bool.not_eq_true]at hn
   rw[hn,if_neg (fun h=>by cases h.2)];rfl
 ·rw[Bool.not_eq_true]at hb
  have e:gX s d v H=⟨s.nl,s.nt,(d,v)::s.reg,s.tm,s.df,H⟩:=by unfold gX;rw[hb];rfl
  have ew:wr s d=true:=by unfold wr;rw[hb];rfl
  rw[e,ew]
  show av (aS s.nl t) (s.tm.get top t) (Go.Ae.look ((d,v)::s.reg) t)=if d=t∧true=true then v else av (aS s.nl t) (s.tm.get top t) (Go.Ae.look s.reg t)
  rw[uG]
  by_cases e:d=t
  ·subst e
   rw[if_pos rfl,if_pos ⟨rfl,rfl⟩,hb];rfl
  ·rw[if_neg e,if_neg (fun h=>e h.1)]
theorem Av(s:St)(d:Nat)(v:Value)(H:aa):(gX s d v H).nl=s.nl∧(gX s d v H).nt=s.nt∧(gX s d v H).df=s.df∧(gX s d v H).H=H:=by
 unfold gX
 cases aS s.nl d<;>exact⟨rfl,rfl,rfl,rfl⟩
theorem fF.gX{s s':St}(h:fF s s')(d:Nat)(v:Value)(H:aa):fF (gX s d v H) (gX s' d v H):=by
 obtain⟨a1,a2,a3,a4⟩:=Av s d v H
 obtain⟨b1,b2,b3,b4⟩:=Av s' d v H
 refine⟨a1.trans (h.nl.trans b1.symm),a2.trans (h.nt.trans b2.symm),a3.trans (h.df.trans b3.symm),a4.trans b4.symm,fun t=>?_⟩
 rw[nK,nK,h.lk]
 have:wr s d=wr s' d:=by unfold wr;rw[h.nl,h.nt]
 rw[this]
theorem fF.same(s:St)(t:Nat):fF s (Go.Ae.gX s t (aX s t) s.H):=by
 obtain⟨b1,b2,b3,b4⟩:=Av s t (aX s t) s.H
 refine⟨b1.symm,b2.symm,b3.symm,b4.symm,fun u=>?_⟩
 rw[nK]
 split
 ·next h=>rw[h.1]
 ·rfl
theorem fF.bG{s s':St}(h:fF s s')(d:Option Nat)(v:Value)(H:aa):fF (bG s d v H) (bG s' d v H):=by
 cases d with
 |none=>exact⟨h.nl,h.nt,h.df,rfl,h.lk⟩
 |some d=>exact h.gX d v H
theorem vU(s:St)(t:Nat):aX (clear s) t=av (aS s.nl t) (aX s t) top:=by
 unfold aX
 show av (aS s.nl t) (s.tm.get top t) (Go.Ae.look [] t)=_
 cases aS s.nl t<;>rfl
theorem fF.clear{s s':St}(h:fF s s'):fF (clear s) (clear s'):=⟨h.nl,h.nt,h.df,h.H,fun t=>by rw[vU,vU,h.nl,h.lk]⟩
theorem fF.aV{s s':St}(h:fF s s'):fF (aV s) (aV s'):=⟨h.nl,h.nt,h.df,by show aa.mk _ _ _=aa.mk _ _ _;rw[h.H],h.lk⟩
theorem fF.heap{s s':St}(h:fF s s')(d:List Deferred)(H:aa):fF ⟨s.nl,s.nt,s.reg,s.tm,d,H⟩ ⟨s'.nl,s'.nt,s'.reg,s'.tm,d,H⟩:=⟨h.nl,h.nt,rfl,rfl,h.lk⟩
theorem fF.refl(s:St):fF s s:=⟨rfl,rfl,rfl,rfl,fun _=>rfl⟩
theorem fF.symm{s s':St}(h:fF s s'):fF s' s:=⟨h.nl.symm,h.nt.symm,h.df.symm,h.H.symm,fun t=>(h.lk t).symm⟩
theorem fF.trans{s s' s2:St}(h:fF s s')(h2:fF s' s2):fF s s2:=⟨h.nl.trans h2.nl,h.nt.trans h2.nt,h.df.trans h2.df,h.H.trans h2.H,fun t=>(h.lk t).trans (h2.lk t)⟩
section mem
variable{P:Program}{cf:cr}
theorem fF.eP{s s':St}(h:fF s s')(c:Callee):eP c P s=eP c P s':=by
 cases c with
 |value f=>show(ai (PO (Go.Ae.ev s f)) _)=_;rw[h.ev];rfl
 |invoke r n=>show(ai (vE (Go.Ae.ev s r)) _)=_;rw[h.ev];rfl
 |builtin b=>rfl
theorem fF.mV{s s':St}(h:fF s s')(o:Op):mV o P cf s=mV o P cf s':=by
 have e:=h.ev
 have e1:=h.zX
 have e2:=h.EG
 have e3:=h.H
 cases o with
 |call c=>
  show kZ c P cf s=kZ c P cf s'
  unfold kZ
  rw[h.eP,e,e3]
 |move x=>show R3.rJ (Go.Ae.ev s x)=_;rw[e];rfl
 |assign x=>show R3.rJ (Go.Ae.ev s x)=_;rw[e];rfl
 |pick c a b=>show rp (AY (Go.Ae.ev s c) (Go.Ae.ev s a) (Go.Ae.ev s b))=_;rw[e];rfl
 |alloc t=>show rm (sD P t s.H)=_;rw[e3];rfl
 |box t x=>show rm (EF t (Go.Ae.ev s x) s.H)=_;rw[e,e3];rfl
 |build t ps=>show rp (su P t (Go.Ae.EG s ps))=_;rw[e2];rfl
 |buildSlice t n ps=>show rm (jk P t n (Go.Ae.EG s ps) s.H)=_;rw[e2,e3];rfl
 |insert t m k v=>show rm (jc P t (Go.Ae.ev s m) (Go.Ae.ev s k) (Go.Ae.ev s v) s.H)=_;rw[e,e3];rfl
 |load t x=>show rm (kz P t (Go.Ae.ev s x) s.H)=_;rw[e,e3];rfl
 |store t x v=>show rm (nS P t (Go.Ae.ev s x) (Go.Ae.ev s v) s.H)=_;rw[e,e3];rfl
 |nilCheck x=>show rp (EC (Go.Ae.ev s x))=_;rw[e];rfl
 |binOp op t x y u=>show rp (eG P op t x y (Go.Ae.ev s x) (Go.Ae.ev s y))=_;rw[e];rfl
 |unOp op t x=>show rp (bP (Op.unary op (Go.Ae.ev s x)))=_;rw[e];rfl
 |convert a b x=>show ZZ (uY P a b (Go.Ae.ev s x)) (rm (kC P a b (Go.Ae.ev s x) s.H))=_;rw[e,e3];rfl
 |makeInterface t x=>show rp (Jv P t (Go.Ae.ev s x))=_;rw[e];rfl
 |makeFunc f fi ca=>show rp (some (.func f ⟨mp (Go.Ae.ev s) fi.toList⟩ ⟨mp (Go.Ae.ev s) ca.toList⟩))=_;rw[e];rfl
 |makeMap t r=>show rm (kD P t (Go.Ae.zX s r) s.H)=_;rw[e1,e3];rfl
 |makeSlice t l c=>show rm (gW P t (Go.Ae.ev s l) (Go.Ae.ev s c) s.H)=_;rw[e,e3];rfl
 |slice t x lo hi mx=>show rp (pE P t (Go.Ae.ev s x) (Go.Ae.zX s lo) (Go.Ae.zX s hi) (Go.Ae.zX s mx))=_;rw[e,e1];rfl
 |fieldAddr t x f=>show rp (iO P t (Go.Ae.ev s x) f)=_;rw[e];rfl
 |field t x f=>show rp (si P t (Go.Ae.ev s x) f)=_;rw[e];rfl
 |indexAddr t x i=>show rp (iN P t (Go.Ae.ev s x) (Go.Ae.ev s i))=_;rw[e];rfl
 |index t x i=>show rp (r_ P t (Go.Ae.ev s x) (Go.Ae.ev s i))=_;rw[e];rfl
 |lookup t x k ok=>show rm (lX P t (Go.Ae.ev s x) (Go.Ae.ev s k) ok s.H)=_;rw[e,e3];rfl
 |mapUpdate t m k v=>show rm (jc P t (Go.Ae.ev s m) (Go.Ae.ev s k) (Go.Ae.ev s v) s.H)=_;rw[e,e3];rfl
 |range t x=>show rm (yx P t (Go.Ae.ev s x) s.H)=_;rw[e,e3];rfl
 |next x b=>show rm (DF (Go.Ae.ev s x) b s.H)=_;rw[e,e3];rfl
 |extract t i=>show rp (l8 (Go.Ae.ev s t) i)=_;rw[e];rfl
 |_=>rfl
theorem fF.qC{s s':St}(h:fF s s')(c:Call):qC c P s=qC c P s':=by
 unfold Go.Ae.qC
 rw[h.ev]
inductive Pv:Option St→Option St→Prop where
 |none:Pv none none
 |some {s s':St} (h:fF s s'):Pv (some s) (some s')
theorem fF.iq{s s':St}(h:fF s s')(ops:Array Oper)(g:Option (Nat×Bool)):iq ops s g=iq ops s' g:=by
 cases g with
 |none=>rfl
 |some g=>
  show DI ops s g=DI ops s' g
  unfold DI qB
  rw[h.look]
theorem fF.vJ{s s':St}(h:fF s s')(o:Oper)(r:R3):Pv (vJ o s r) (vJ o s' r):=by
 cases r with
 |fail=>exact .none
 |rJ v=>show Pv (Option.some (Go.Ae.bG s o.dst v s.H)) (Option.some (Go.Ae.bG s' o.dst v s'.H));rw[h.H];exact .some (h.bG ..)
 |mem v H=>exact .some (h.bG ..)
theorem fF.oN{s s':St}(h:fF s s')(o:Oper):Pv (oN P cf o s) (oN P cf o s'):=by
 unfold Go.Ae.oN
 cases iE o.op with
 |none=>
  show Pv (Go.Ae.vJ o s (Go.Ae.mV o.op P cf s)) (Go.Ae.vJ o s' (Go.Ae.mV o.op P cf s'))
  rw[h.mV];exact h.vJ ..
 |some c=>
  show Pv (ai (Go.Ae.qC c P s) _) (ai (Go.Ae.qC c P s') _)
  rw[h.qC]
  cases Go.Ae.qC c P s' with
  |none=>exact .none
  |some d=>
   show Pv (Option.some (Go.Ae.bG ⟨s.nl,s.nt,s.reg,s.tm,d::s.df,s.H⟩ o.dst undef s.H)) (Option.some (Go.Ae.bG ⟨s'.nl,s'.nt,s'.reg,s'.tm,d::s'.df,s'.H⟩ o.dst undef s'.H))
   rw[h.df,h.H]
   exact .some ((h.heap _ _).bG ..)
theorem fF.dN{s s':St}(h:fF s s')(ops:Array Oper)(o:Oper):Pv (dN P cf ops o s) (dN P cf ops o s'):=by
 unfold Go.Ae.dN
 rw[h.iq]
 cases Go.Ae.iq ops s' o.guard with
 |none=>exact .none
 |some b=>cases b with
  |true=>exact h.oN o
  |false=>show Pv (Option.some (Go.Ae.bG s o.dst undef s.H)) (Option.some (Go.Ae.bG s' o.dst undef s'.H));rw[h.H];exact .some (h.bG ..)
theorem fF.dW(ops:Array Oper):∀(l:List Oper){s s':St},fF s s'→Pv (dW P cf ops l s) (dW P cf ops l s'):=by
 intro l
 induction l with
 |nil=>intro s s' h;exact .some h
 |cons o l ih=>
  intro s s' h
  show Pv (ai (Go.Ae.dN P cf ops o s) (Go.Ae.dW P cf ops l)) (ai (Go.Ae.dN P cf ops o s') (Go.Ae.dW P cf ops l))
  have:=h.dN (P:=P) (cf:=cf) ops o
  generalize Go.Ae.dN P cf ops o s=a at this
  generalize Go.Ae.dN P cf ops o s'=b at this
  cases this with
  |none=>exact .none
  |some h1=>exact ih h1
inductive Vs{α:Type}:Option (St×α)→Option (St×α)→Prop where
 |none:Vs none none
 |some {s s':St} (x:α) (h:fF s s'):Vs (some (s,x)) (some (s',x))
theorem fF.iR{s s':St}(h:fF s s')(o:Op)(H:aa):iR P o s H=iR P o s' H:=by
 unfold Go.Ae.iR o5
 rw[h.ev,h.H]
theorem fF.cO{s s':St}(h:fF s s')(ops:Array Oper)(o:Oper):Vs (cO P cf ops o s) (cO P cf ops o s'):=by
 unfold Go.Ae.cO
 rw[h.iq]
 cases Go.Ae.iq ops s' o.guard with
 |none=>exact .none
 |some b=>cases b with
  |true=>
   show Vs (zf P o s (Go.Ae.mV o.op P cf (Go.Ae.aV s))) (zf P o s' (Go.Ae.mV o.op P cf (Go.Ae.aV s')))
   rw[h.aV.mV]
   cases Go.Ae.mV o.op P cf (Go.Ae.aV s')with
   |fail=>exact .none
   |rJ v=>show Vs (Option.some (Go.Ae.bG s o.dst v s.H,cl 0)) (Option.some (Go.Ae.bG s' o.dst v s'.H,cl 0));rw[h.H];exact .some _ (h.bG ..)
   |mem v H=>
    show Vs (Option.some (Go.Ae.bG s o.dst v ⟨H.j6,H.next,fH s.H.low H.low⟩,Go.Ae.iR P o.op s H)) (Option.some (Go.Ae.bG s' o.dst v ⟨H.j6,H.next,fH s'.H.low H.low⟩,Go.Ae.iR P o.op s' H))
    rw[h.iR,h.H];exact .some _ (h.bG ..)
  |false=>show Vs (Option.some (Go.Ae.bG s o.dst undef s.H,cl 0)) (Option.some (Go.Ae.bG s' o.dst undef s'.H,cl 0));rw[h.H];exact .some _ (h.bG ..)
theorem fF.bD(ops:Array Oper):∀(l:List Oper){s s':St}(acc:List Cl),fF s s'→Vs (bD P cf ops l s acc) (bD P cf ops l s' acc):=by
 intro l
 induction l with
 |nil=>intro s s' acc h;exact .some _ h
 |cons o l ih=>
  intro s s' acc h
  show Vs (ai (Go.Ae.cO P cf ops o s) fun q=>Go.Ae.bD P cf ops l q.1 (q.2::acc)) (ai (Go.Ae.cO P cf ops o s') fun q=>Go.Ae.bD P cf ops l q.1 (q.2::acc))
  have:=h.cO (P:=P) (cf:=cf) ops o
  generalize Go.Ae.cO P cf ops o s=a at this
  generalize Go.Ae.cO P cf ops o s'=b at this
  cases this with
  |none=>exact .none
  |some x h1=>exact ih _ h1
theorem fF.region{s s':St}(h:fF s s')(ops:Array Oper)(d:Bool):qx (region P cf ops d s) (region P cf ops d s'):=by
 cases d with
 |false=>
  show qx (zh (Go.Ae.dW P cf ops ops.toList (Go.Ae.clear s))) (zh (Go.Ae.dW P cf ops ops.toList (Go.Ae.clear s')))
  have:=fF.dW (P:=P) (cf:=cf) ops ops.toList h.clear
  generalize Go.Ae.dW P cf ops ops.toList (Go.Ae.clear s)=a at this
  generalize Go.Ae.dW P cf ops ops.toList (Go.Ae.clear s')=b at this
  cases this with
  |none=>exact .fail
  |some h1=>exact .norm h1
 |true=>
  show qx (av (bV ops&&f_ ops) (jT ops (Go.Ae.bD P cf ops ops.toList (Go.Ae.clear s) [])) .fail) (av (bV ops&&f_ ops) (jT ops (Go.Ae.bD P cf ops ops.toList (Go.Ae.clear s') [])) .fail)
  cases(bV ops&&f_ ops)with
  |false=>exact .fail
  |true=>
   show qx (jT ops (Go.Ae.bD P cf ops ops.toList (Go.Ae.clear s) [])) (jT ops (Go.Ae.bD P cf ops ops.toList (Go.Ae.clear s') []))
   have:=fF.bD (P:=P) (cf:=cf) ops ops.toList [] h.clear
   generalize Go.Ae.bD P cf ops ops.toList (Go.Ae.clear s) []=a at this
   generalize Go.Ae.bD P cf ops ops.toList (Go.Ae.clear s') []=b at this
   cases this with
   |none=>exact .fail
   |some x h1=>
    show qx (av (bO ops x) (.norm _) .fail) (av (bO ops x) (.norm _) .fail)
    cases bO ops x with
    |true=>exact .norm h1
    |false=>exact .fail
theorem qx.trans{a b c:Out}(h:qx a b)(h2:qx b c):qx a c:=by
 cases h with
 |fail=>exact h2
 |norm h=>cases h2 with|norm h2=>exact .norm (h.trans h2)
 |exit i h=>cases h2 with|exit _ h2=>exact .exit i (h.trans h2)
 |goto l h=>cases h2 with|goto _ h2=>exact .goto l (h.trans h2)
 |ret h=>cases h2 with|ret h2=>exact .ret (h.trans h2)
theorem Rf{f:St→Out}(hf:∀s s',fF s s'→qx (f s) (f s')):∀n s s',fF s s'→qx (l_ n f s) (l_ n f s'):=by
 intro n
 induction n with
 |zero=>intro s s' _;exact .fail
 |succ n ih=>
  intro s s' h
  show qx (andThen (f s) (l_ n f)) (andThen (f s') (l_ n f))
  have:=hf s s' h
  generalize f s=a at this
  generalize f s'=b at this
  cases this with
  |fail=>exact .fail
  |norm h1=>exact ih _ _ h1
  |exit i h1=>exact .exit i h1
  |goto l h1=>exact .goto l h1
  |ret h1=>exact .ret h1
theorem On{cx:Code→St→Out}(hx:∀c s s',fF s s'→qx (cx c s) (cx c s'))(body:Code):∀n o o',qx o o'→qx (eU cx n body o) (eU cx n body o'):=by
 intro n
 induction n with
 |zero=>intro o o' _;exact .fail
 |succ n ih=>
  intro o o' h
  cases h with
  |fail=>exact .fail
  |norm h1=>exact .norm h1
  |exit i h1=>exact .exit i h1
  |ret h1=>exact .ret h1
  |goto l h1=>
   rename_i s s'
   show qx (@Option.rec Code (fun _=>Out) (.goto l s) (fun rest=>eU cx n body (cx rest s)) (findLabel body l)) (@Option.rec Code (fun _=>Out) (.goto l s') (fun rest=>eU cx n body (cx rest s')) (findLabel body l))
   cases findLabel body l with
   |none=>exact .goto l h1
   |some rest=>exact ih _ _ (hx rest _ _ h1)
theorem L_{cx:Code→St→Out}(hx:∀c s s',fF s s'→qx (cx c s) (cx c s'))(n:Nat)(c:Code):∀s s',fF s s'→qx (exec P cf cx n c s) (exec P cf cx n c s'):=by
 induction c with
 |skip=>intro s s' h;exact .norm h
 |region id ops d=>intro s s' h;exact h.region ops d
 |seq a b iha ihb=>
  intro s s' h
  show qx (andThen (exec P cf cx n a s) (exec P cf cx n b)) (andThen (exec P cf cx n a s') (exec P cf cx n b))
  have:=iha s s' h
  generalize exec P cf cx n a s=x at this
  generalize exec P cf cx n a s'=y at this
  cases this with
  |fail=>exact .fail
  |norm h1=>exact ihb _ _ h1
  |exit i h1=>exact .exit i h1
  |goto l h1=>exact .goto l h1
  |ret h1=>exact .ret h1
 |cond x a b iha ihb=>
  intro s s' h
  show qx (zg (bK (ev s x)) (exec P cf cx n a s) (exec P cf cx n b s)) (zg (bK (ev s' x)) (exec P cf cx n a s') (exec P cf cx n b s'))
  rw[h.ev]
  cases bK (ev s' x)with
  |none=>exact .fail
  |some t=>cases t with
   |true=>exact iha _ _ h
   |false=>exact ihb _ _ h
 |block id a ih=>
  intro s s' h
  show qx (lD id (exec P cf cx n a s)) (lD id (exec P cf cx n a s'))
  have:=ih s s' h
  generalize exec P cf cx n a s=x at this
  generalize exec P cf cx n a s'=y at this
  cases this with
  |fail=>exact .fail
  |norm h1=>exact .norm h1
  |exit i h1=>
   show qx (av (Nat.beq i id) _ _) (av (Nat.beq i id) _ _)
   cases Nat.beq i id with
   |true=>exact .norm h1
   |false=>exact .exit i h1
  |goto l h1=>exact .goto l h1
  |ret h1=>exact .ret h1
 |loop a ih=>intro s s' h;exact Rf ih n s s' h
 |scope a ih=>intro s s' h;exact On hx a n _ _ (ih s s' h)
 |label l=>intro s s' h;exact .norm h
 |exit i=>intro s s' h;exact .exit i h
 |goto l=>intro s s' h;exact .goto l h
 |ret=>intro s s' h;exact .ret h
 |_=>intro s s' h;exact .fail
variable{X:Xt}
theorem aaC(n:Nat):∀c s s',fF s s'→qx ((lv P X n).cx c s) ((lv P X n).cx c s'):=by
 induction n with
 |zero=>intro c s s' _;exact .fail
 |succ n ih=>intro c s s' h;exact L_ ih n c s s' h
theorem Ev.alike{c:Code}{s s':St}{o:Out}(he:fF s s')(h:Ev P X c s o):∃o',qx o o'∧Ev P X c s' o':=by
 obtain⟨hne,k,hk⟩:=h
 have:=L_ (P:=P) (cf:=(lv P X k).ca) (aaC (P:=P) (X:=X) k) k c s s' he
 refine⟨xx P X k c s',by rw[←hk];exact this,?_,k,rfl⟩
 intro hf
 replace this:qx (xx P X k c s) (xx P X k c s'):=this
 rw[hf,hk]at this
 cases this
 exact hne rfl
theorem fF.dw{s s':St}(h:fF s s')(l:List ResultVar):dw P s l=dw P s' l:=by
 induction l with
 |nil=>rfl
 |cons r l ih=>
  show(ai (uy P s r) fun v=>ai (Go.Ae.dw P s l) fun vs=>some (v::vs))=(ai (uy P s' r) fun v=>ai (Go.Ae.dw P s' l) fun vs=>some (v::vs))
  rw[ih]
  have:uy P s r=uy P s' r:=by
   cases r with
   |tmp t=>show some (aX s t)=some (aX s' t);rw[h.look]
   |cell a t=>show(ai (kz P t (aX s a) s.H) _)=(ai (kz P t (aX s' a) s'.H) _);rw[h.look,h.H]
  rw[this]
end mem
end Go.Ae
namespace Go.Ae
noncomputable def PU(o:Option Value)(K:Value→Prop):Prop:=@Option.rec Value (fun _=>Prop) False (fun v=>K v) o
noncomputable def ME(o:Option (Value×aa))(K:Value→aa→Prop):Prop:=@Option.rec (Value×aa) (fun _=>Prop) False (fun p=>K p.1 p.2) o
noncomputable def CV(o:Option Value)(q:Option (Value×aa))(Kp:Value→Prop)(Km:Value→aa→Prop):Prop:=@Option.rec Value (fun _=>Prop) (ME q Km) (fun v=>Kp v) o
def ak(P:Program)(X:Xt)(g:FuncId)(args:List Value)(H:aa)(K:Value→aa→Prop):Prop:=∃v H',Ca P X g args H v H'∧K v H'
noncomputable def fq(P:Program)(X:Xt)(q:Option (FuncId×List Value×List Value))(args:List Value)(H:aa)(K:Value→aa→Prop):Prop:=
 @Option.rec (FuncId×List Value×List Value) (fun _=>Prop) False (fun q=>ak P X q.1 (app q.2.1 (app args q.2.2)) H K) q
noncomputable def sU(b:Builtin):List TypeId→List Value→Program→aa→(Value→Prop)→(Value→aa→Prop)→Prop:=
 @Builtin.rec (fun _=>List TypeId→List Value→Program→aa→(Value→Prop)→(Value→aa→Prop)→Prop)
  (fun ats args P H Kp Km=>ME (uw P ats args H) Km) (fun ats args P H Kp Km=>PU (one (Gx P) ats args) Kp) (fun ats args P H Kp Km=>ME (yw P ats args H) Km) (fun _ _ _ _ _ _=>False) (fun ats args P H Kp Km=>PU (sw args) Kp) (fun ats args P H Kp Km=>ME (DD P ats args H) Km) (fun ats args P H Kp Km=>ME (wT P ats args H) Km) (fun ats args P H Kp Km=>PU (Gz args) Kp) (fun ats args P H Kp Km=>CV (one (AZ P) ats args) (Bc P ats args H) Kp Km) (fun _ _ _ _ _ _=>False) (fun ats args P H Kp Km=>PU (PX true args) Kp) (fun ats args P H Kp Km=>PU (PX false args) Kp) (fun _ _ _ _ _ _=>False) (fun _ _ _ _ _ _=>False) (fun _ _ _ _ _ _=>False) (fun _ _ _ _ _ _=>False) (fun ats args P H Kp Km=>PU (Gy args) Kp) (fun _ _ _ _ _ _=>False) (fun _ _ _ _ _ _=>False) (fun _ _ _ _ _ _=>False) (fun ats args P H Kp Km=>ME (wU args H) Km) (fun ats args P H Kp Km=>ME (lz P ats args H) Km) (fun _ _ _ _ _ _=>False) (fun _ _ _ _ _ _=>False) (fun _ _ _ _ _ _=>False) (fun _ _ _ _ _ _=>False) b
noncomputable def Rh(P:Program)(X:Xt)(c:Call)(s:St)(Kp:Value→Prop)(Km:Value→aa→Prop):Prop:=
 @Option.rec Builtin (fun _=>Prop) (fq P X (eP c.callee P s) (mp (ev s) c.args.toList) s.H Km)
  (fun b=>sU b c.argTypes.toList (mp (ev s) c.args.toList) P s.H Kp Km) (isBuiltin c.callee)
noncomputable def Pw(o:Op):Program→Xt→St→(Value→Prop)→(Value→aa→Prop)→Prop:=
 @Op.rec (fun _=>Program→Xt→St→(Value→Prop)→(Value→aa→Prop)→Prop)
  (fun x P X s Kp Km=>Kp (ev s x)) (fun x P X s Kp Km=>Kp (ev s x)) (fun c a b P X s Kp Km=>PU (AY (ev s c) (ev s a) (ev s b)) Kp) (fun e P X s Kp Km=>ME (sD P e s.H) Km) (fun e x P X s Kp Km=>ME (EF e (ev s x) s.H) Km) (fun t ps P X s Kp Km=>PU (su P t (EG s ps)) Kp) (fun t n ps P X s Kp Km=>ME (jk P t n (EG s ps) s.H) Km) (fun t m k v P X s Kp Km=>ME (jc P t (ev s m) (ev s k) (ev s v) s.H) Km) (fun t x P X s Kp Km=>ME (kz P t (ev s x) s.H) Km) (fun t x v P X s Kp Km=>ME (nS P t (ev s x) (ev s v) s.H) Km) (fun _ _ _ _ _ _=>False) (fun _ _ _ _ _ _=>False) (fun x P X s Kp Km=>PU (EC (ev s x)) Kp) (fun op t x y _ P X s Kp Km=>PU (eG P op t x y (ev s x) (ev s y)) Kp) (fun op _ x P X s Kp Km=>PU (bP (Op.unary op (ev s x))) Kp) (fun a b x P X s Kp Km=>CV (uY P a b (ev s x)) (kC P a b (ev s x) s.H) Kp Km) (fun _ _ _ _ _ _ _=>False) (fun t x P X s Kp Km=>PU (Jv P t (ev s x)) Kp) (fun f fi ca P X s Kp Km=>Kp (.func f ⟨mp (ev s) fi.toList⟩ ⟨mp (ev s) ca.toList⟩)) (fun t r P X s Kp Km=>ME (kD P t (zX s r) s.H) Km) (fun _ _ _ _ _ _ _=>False) (fun t l c P X s Kp Km=>ME (gW P t (ev s l) (ev s c) s.H) Km) (fun t x lo hi mx P X s Kp Km=>PU (pE P t (ev s x) (zX s lo) (zX s hi) (zX s mx)) Kp) (fun t x f P X s Kp Km=>PU (iO P t (ev s x) f) Kp) (fun t x f P X s Kp Km=>PU (si P t (ev s x) f) Kp) (fun t x i P X s Kp Km=>PU (iN P t (ev s x) (ev s i)) Kp) (fun t x i P X s Kp Km=>PU (r_ P t (ev s x) (ev s i)) Kp) (fun t x k ok P X s Kp Km=>ME (lX P t (ev s x) (ev s k) ok s.H) Km) (fun t m k v P X s Kp Km=>ME (jc P t (ev s m) (ev s k) (ev s v) s.H) Km) (fun _ _ _ _ _ _ _ _=>False) (fun _ _ _ _ _ _ _ _ _=>False) (fun t x P X s Kp Km=>ME (yx P t (ev s x) s.H) Km) (fun x b P X s Kp Km=>ME (DF (ev s x) b s.H) Km) (fun _ _ _ _ _ _=>False) (fun _ _ _ _ _ _ _ _ _=>False) (fun t i P X s Kp Km=>PU (l8 (ev s t) i) Kp) (fun c P X s Kp Km=>Rh P X c s Kp Km) (fun _ _ _ _ _ _=>False) (fun _ _ _ _ _ _=>False) (fun _ _ _ _ _ _=>False) (fun _ _ _ _ _ _ _=>False) (fun _ _ _ _ _ _ _ _=>False) (fun _ _ _ _ _ _ _=>False) o
noncomputable def vk(v:Option Bool)(A B:Prop):Prop:=@Option.rec Bool (fun _=>Prop) False (fun b=>@Bool.rec (fun _=>Prop) B A b) v
noncomputable def pZ(l:List Nat)(t:Nat):Bool:=@List.rec Nat (fun _=>Bool) false (fun x _ r=>av (Nat.beq x t) true r) l
noncomputable def j_(l:List Nat)(t:Nat):List Nat:=@List.rec Nat (fun _=>List Nat) [] (fun x _ r=>av (Nat.beq x t) r (x::r)) l
noncomputable def cz(l:List Nat)(d:Option Nat):List Nat:=@Option.rec Nat (fun _=>List Nat) l (j_ l) d
noncomputable def De(s:St)(l:List Nat)(d:Option Nat):List Nat:=@Option.rec Nat (fun _=>List Nat) l (fun d=>av (wr s d) (d::l) l) d
noncomputable def YL(ops:Array Oper)(s:St)(sk:List Nat)(g:Option (Nat×Bool))(K:Bool→St→List Nat→Prop):Prop:=
 @Option.rec (Nat×Bool) (fun _=>Prop) (K true s sk) (fun g=>
  @Option.rec Oper (fun _=>Prop) False (fun o=>@Option.rec Nat (fun _=>Prop) False (fun t=>
   @Bool.rec (fun _=>Prop)
    (vk (bK (aX s t)) (K (qw true g.2) (gX s t (.bool true) s.H) (j_ sk t)) (K (qw false g.2) (gX s t (.bool false) s.H) (j_ sk t)))
    (K false s sk) (pZ sk t)) o.dst) (nth ops.toList g.1)) g
noncomputable def p8(P:Program)(X:Xt)(ops:Array Oper)(l:List Oper):St→List Nat→(St→Prop)→Prop:=
 @List.rec Oper (fun _=>St→List Nat→(St→Prop)→Prop) (fun s _ K=>K s)
  (fun o _ ih s sk K=>YL ops s sk o.guard (fun b s sk=>@Bool.rec (fun _=>Prop)
   (ih (bG s o.dst undef s.H) (De s sk o.dst) K)
   (@Option.rec Call (fun _=>Prop) (Pw o.op P X s (fun v=>ih (bG s o.dst v s.H) (cz sk o.dst) K) (fun v H=>ih (bG s o.dst v H) (cz sk o.dst) K)) (fun _=>False) (iE o.op))
   b)) l
noncomputable def Kb(P:Program)(X:Xt)(ops:Array Oper)(l:List Oper):St→List Nat→List Cl→(St→List Cl→Prop)→Prop:=
 @List.rec Oper (fun _=>St→List Nat→List Cl→(St→List Cl→Prop)→Prop) (fun s _ acc K=>K s acc)
  (fun o _ ih s sk acc K=>YL ops s sk o.guard (fun b s sk=>@Bool.rec (fun _=>Prop)
   (ih (bG s o.dst undef s.H) (De s sk o.dst) (cl 0::acc) K)
   (Pw o.op P X (aV s) (fun v=>ih (bG s o.dst v s.H) (cz sk o.dst) (cl 0::acc) K) (fun v H=>ih (bG s o.dst v ⟨H.j6,H.next,fH s.H.low H.low⟩) (cz sk o.dst) (iR P o.op s H::acc) K))
   b)) l
noncomputable def acz(P:Program)(X:Xt)(ops:Array Oper)(draw:Bool)(s:St)(K:Out→Prop):Prop:=
 @Bool.rec (fun _=>Prop) (p8 P X ops ops.toList (clear s) [] (fun s=>K (.norm s)))
  (@Bool.rec (fun _=>Prop) False (Kb P X ops ops.toList (clear s) [] [] (fun s cls=>bO ops cls=true∧K (.norm s))) (bV ops&&f_ ops)) draw
noncomputable def gY(id:Nat)(K:Out→Prop):Out→Prop:=fun o=>K (lD id o)
def aR(P:Program)(X:Xt)(c:Code)(s:St)(K:Out→Prop):Prop:=∃o o',Ev P X c s o∧qx o o'∧K o'
noncomputable def kH(P:Program)(X:Xt)(b:Code)(K:Out→Prop):Out→Prop:=
 fun o=>@Out.rec (fun _=>Prop) (K .fail) (fun s=>aR P X b s K) (fun i s=>K (.exit i s)) (fun l s=>K (.goto l s)) (fun s=>K (.ret s)) o
noncomputable def acA(l:List Oper):Nat:=@List.rec Oper (fun _=>Nat) 1 (fun o _ r=>@Option.rec (Nat×Bool) (fun _=>Nat) r (fun _=>2) o.guard) l
noncomputable def YM(c:Code)(i:Nat):Nat:=
 @Code.rec (fun _=>Nat) 0 (fun _ _ _=>0) (fun _ _ a b=>Nat.add a b) (fun _ _ _ a b=>Nat.add a b) (fun _ _ a=>a) (fun _ _=>0) (fun _ _ _ _ _ _=>0) (fun j=>av (Nat.beq j i) 1 0) (fun _ _=>0) (fun _=>0) (fun _=>0) 0 (fun _=>0) c
noncomputable def aaD(c:Code):Nat:=
 @Code.rec (fun _=>Nat) 1 (fun _ ops _=>acA ops.toList) (fun _ _ a b=>Nat.mul a b) (fun _ _ _ a b=>Nat.add a b) (fun i a r=>Nat.add r (YM a i)) (fun _ _=>0) (fun _ _ _ _ _ _=>0) (fun _=>0) (fun _ _=>0) (fun _=>1) (fun _=>0) 0 (fun _=>0) c
noncomputable def Vt(c:Code):Nat:=
 @Code.rec (fun _=>Nat) 0 (fun _ ops _=>len ops.toList) (fun _ _ a b=>Nat.add a b) (fun _ _ _ a b=>Nat.add a b) (fun _ _ r=>r) (fun _ _=>4) (fun _ _ _ _ _ _=>0) (fun _=>0) (fun _ _=>4) (fun _=>0) (fun _=>0) 0 (fun _=>0) c
noncomputable def xy(a b:Code):Bool:=Nat.ble 2 (aaD a)&&Nat.ble 4 (Vt b)
section mem
variable{P:Program}{X:Xt}
theorem aaE{o:Option Value}{K:Value→Prop}(h:PU o K):∃v,o=some v∧K v:=by
 cases o with
 |none=>exact h.elim
 |some v=>exact⟨v,rfl,h⟩
theorem WY{o:Option (Value×aa)}{K:Value→aa→Prop}(h:ME o K):∃v H,o=some (v,H)∧K v H:=by
 cases o with
 |none=>exact h.elim
 |some v=>exact⟨v.1,v.2,rfl,h⟩
def mq(P:Program)(X:Xt)(o:Op)(s:St)(Kp:Value→Prop)(Km:Value→aa→Prop):Prop:=
 ∃k,(∃v,mV o P (bU P X k) s=.rJ v∧Kp v)∨∃v H,mV o P (bU P X k) s=.mem v H∧Km v H
theorem mq.pu{o:Op}{s:St}{Kp:Value→Prop}{Km:Value→aa→Prop}{q:Option Value}(hq:∀cf,mV o P cf s=rp q)(h:PU q Kp):mq P X o s Kp Km:=by
 obtain⟨v,h1,h2⟩:=aaE h
 exact⟨0,.inl ⟨v,by rw[hq,h1];rfl,h2⟩⟩
theorem mq.me{o:Op}{s:St}{Kp:Value→Prop}{Km:Value→aa→Prop}{q:Option (Value×aa)}(hq:∀cf,mV o P cf s=rm q)(h:ME q Km):mq P X o s Kp Km:=by
 obtain⟨v,H,h1,h2⟩:=WY h
 exact⟨0,.inr ⟨v,H,by rw[hq,h1];rfl,h2⟩⟩
theorem mq.cv{o:Op}{s:St}{Kp:Value→Prop}{Km:Value→aa→Prop}{q:Option Value}{r:Option (Value×aa)}(hq:∀cf,mV o P cf s=ZZ q (rm r))(h:CV q r Kp Km):mq P X o s Kp Km:=by
 cases q with
 |none=>exact mq.me (q:=r) (fun cf=>hq cf) h
 |some v=>exact⟨0,.inl ⟨v,by rw[hq];rfl,h⟩⟩
theorem mq.cons{o:Op}{s:St}{Kp:Value→Prop}{Km:Value→aa→Prop}{v:Value}(hq:∀cf,mV o P cf s=.rJ v)(h:Kp v):mq P X o s Kp Km:=⟨0,.inl ⟨v,hq _,h⟩⟩
theorem Hg{b:Builtin}{c:Call}{s:St}{ats:List TypeId}{args:List Value}{Kp:Value→Prop}{Km:Value→aa→Prop}(hq:∀cf,mV (.call c) P cf s=pQ b ats args P s.H)(h:sU b ats args P s.H Kp Km):mq P X (.call c) s Kp Km:=by
 cases b with
 |append=>exact mq.me hq h
 |cap=>exact mq.pu hq h
 |clear=>exact mq.me hq h
 |complex=>exact mq.pu hq h
 |copy=>exact mq.me hq h
 |delete=>exact mq.me hq h
 |imag=>exact mq.pu hq h
 |len=>exact mq.cv hq h
 |max=>exact mq.pu hq h
 |min=>exact mq.pu hq h
 |real=>exact mq.pu hq h
 |unsafeSliceData=>exact mq.me hq h
 |unsafeString=>exact mq.me hq h
 |_=>exact h.elim
theorem Ri{c:Call}{s:St}{Kp:Value→Prop}{Km:Value→aa→Prop}(h:Rh P X c s Kp Km):mq P X (.call c) s Kp Km:=by
 unfold Rh at h
 cases hb:isBuiltin c.callee with
 |some b=>
  rw[hb]at h
  refine Hg (b:=b) (ats:=c.argTypes.toList) (args:=mp (ev s) c.args.toList) (fun cf=>?_) h
  show kZ c P cf s=_
  unfold kZ
  rw[hb]
 |none=>
  rw[hb]at h
  replace h:fq P X (eP c.callee P s) (mp (ev s) c.args.toList) s.H Km:=h
  unfold fq at h
  cases hc:eP c.callee P s with
  |none=>rw[hc]at h;exact h.elim
  |some q=>
   rw[hc]at h
   obtain⟨v,H',⟨k,h1⟩,h2⟩:=h
   refine⟨k,.inr ⟨v,H',?_,h2⟩⟩
   show kZ c P (bU P X k) s=_
   unfold kZ
   rw[hb]
   show rm (ai (eP c.callee P s) fun z=>bU P X k z.1 (app z.2.1 (app (mp (ev s) c.args.toList) z.2.2)) s.H)=_
   rw[hc]
   show rm (bU P X k q.1 (app q.2.1 (app (mp (ev s) c.args.toList) q.2.2)) s.H)=_
   rw[h1];rfl
theorem Rj{o:Op}{s:St}{Kp:Value→Prop}{Km:Value→aa→Prop}(h:Pw o P X s Kp Km):mq P X o s Kp Km:=by
 cases o with
 |move _=>exact mq.cons (fun _=>rfl) h
 |assign _=>exact mq.cons (fun _=>rfl) h
 |pick _ _ _=>exact mq.pu (fun _=>rfl) h
 |alloc _=>exact mq.me (fun _=>rfl) h
 |box _ _=>exact mq.me (fun _=>rfl) h
 |build _ _=>exact mq.pu (fun _=>rfl) h
 |buildSlice _ _ _=>exact mq.me (fun _=>rfl) h
 |insert _ _ _ _=>exact mq.me (fun _=>rfl) h
 |load _ _=>exact mq.me (fun _=>rfl) h
 |store _ _ _=>exact mq.me (fun _=>rfl) h
 |nilCheck _=>exact mq.pu (fun _=>rfl) h
 |binOp _ _ _ _ _=>exact mq.pu (fun _=>rfl) h
 |unOp _ _ _=>exact mq.pu (fun _=>rfl) h
 |convert _ _ _=>exact mq.cv (fun _=>rfl) h
 |makeInterface _ _=>exact mq.pu (fun _=>rfl) h
 |makeFunc _ _ _=>exact mq.cons (fun _=>rfl) h
 |makeMap _ _=>exact mq.me (fun _=>rfl) h
 |makeSlice _ _ _=>exact mq.me (fun _=>rfl) h
 |slice _ _ _ _ _=>exact mq.pu (fun _=>rfl) h
 |fieldAddr _ _ _=>exact mq.pu (fun _=>rfl) h
 |field _ _ _=>exact mq.pu (fun _=>rfl) h
 |indexAddr _ _ _=>exact mq.pu (fun _=>rfl) h
 |index _ _ _=>exact mq.pu (fun _=>rfl) h
 |lookup _ _ _ _=>exact mq.me (fun _=>rfl) h
 |mapUpdate _ _ _ _=>exact mq.me (fun _=>rfl) h
 |range _ _=>exact mq.me (fun _=>rfl) h
 |next _ _=>exact mq.me (fun _=>rfl) h
 |extract _ _=>exact mq.pu (fun _=>rfl) h
 |call c=>exact Ri h
 |_=>exact h.elim
theorem Rk{l:List Nat}{t:Nat}:pZ l t=true↔t∈l:=by
 induction l with
 |nil=>exact⟨(fun h=>by cases h),(fun h=>by cases h)⟩
 |cons x l ih=>
  show av (Nat.beq x t) true (pZ l t)=true↔_
  by_cases e:x=t
  ·subst e;rw[show Nat.beq x x=true from Nat.beq_refl x];simp[fV]
  ·rw[show Nat.beq x t=false from by rw[←Bool.not_eq_true];exact fun g=>e (Nat.eq_of_beq_eq_true g)]
   rw[bX,ih,List.mem_cons]
   exact⟨.inr,fun h=>h.resolve_left (fun g=>e g.symm)⟩
theorem Vu{l:List Nat}{t u:Nat}(h:u∈j_ l t):u∈l∧u≠t:=by
 induction l with
 |nil=>cases h
 |cons x l ih=>
  replace h:u∈av (Nat.beq x t) (j_ l t) (x::j_ l t):=h
  by_cases e:x=t
  ·subst e
   rw[show Nat.beq x x=true from Nat.beq_refl x,fV]at h
   exact⟨List.mem_cons_of_mem _ (ih h).1,(ih h).2⟩
  ·rw[show Nat.beq x t=false from by rw[←Bool.not_eq_true];exact fun g=>e (Nat.eq_of_beq_eq_true g),bX,List.mem_cons]at h
   rcases h with h|h
   ·subst h;exact⟨List.mem_cons_self ..,e⟩
   ·exact⟨List.mem_cons_of_mem _ (ih h).1,(ih h).2⟩
def Left(s:St)(sk:List Nat):Prop:=∀t,t∈sk→aX s t=undef
theorem Left.put{s:St}{sk:List Nat}(h:Left s sk)(d:Option Nat)(v:Value)(H:aa):Left (bG s d v H) (cz sk d):=by
 cases d with
 |none=>exact fun t ht=>h t ht
 |some d=>
  intro t ht
  obtain⟨h1,h2⟩:=Vu (l:=sk) ht
  show aX (gX s d v H) t=_
  rw[nK,if_neg (fun g=>h2 g.1.symm)]
  exact h t h1
theorem Left.skip{s:St}{sk:List Nat}(h:Left s sk)(d:Option Nat):Left (bG s d undef s.H) (De s sk d):=by
 cases d with
 |none=>exact fun t ht=>h t ht
 |some d=>
  intro t ht
  show aX (gX s d undef s.H) t=_
  rw[nK]
  split
  ·rfl
  ·next hn=>
   replace ht:t∈av (wr s d) (d::sk) sk:=ht
   cases hw:wr s d with
   |true=>
    rw[hw,fV,List.mem_cons]at ht
    rcases ht with e|ht
    ·exact absurd ⟨e.symm,hw⟩ hn
    ·exact h t ht
   |false=>rw[hw]at ht;exact h t ht
theorem Left.aV{s:St}{sk:List Nat}(h:Left s sk):Left (aV s) sk:=h
theorem Fq{v:Option Bool}{A B:Prop}(h:vk v A B):(v=some true∧A)∨(v=some false∧B):=by
 cases v with
 |none=>exact h.elim
 |some b=>cases b with
  |true=>exact .inl ⟨rfl,h⟩
  |false=>exact .inr ⟨rfl,h⟩
theorem Rl{ops:Array Oper}{s:St}{sk:List Nat}{g:Option (Nat×Bool)}{K:Bool→St→List Nat→Prop}(hl:Left s sk)(h:YL ops s sk g K):
 ∃b s' sk',iq ops s g=some b∧fF s s'∧Left s' sk'∧K b s' sk':=by
 cases g with
 |none=>exact⟨true,s,sk,rfl,fF.refl s,hl,h⟩
 |some g=>
  cases ho:nth ops.toList g.1 with
  |none=>
   unfold YL at h
   replace h:@Option.rec Oper (fun _=>Prop) False _ (nth ops.toList g.1):=h
   rw[ho]at h
   exact h.elim
  |some o=>
   cases ht:o.dst with
   |none=>
    unfold YL at h
    replace h:@Option.rec Oper (fun _=>Prop) False _ (nth ops.toList g.1):=h
    rw[ho]at h
    replace h:@Option.rec Nat (fun _=>Prop) False _ o.dst:=h
    rw[ht]at h
    exact h.elim
   |some t=>
    unfold YL at h
    replace h:@Option.rec Oper (fun _=>Prop) False _ (nth ops.toList g.1):=h
    rw[ho]at h
    replace h:@Option.rec Nat (fun _=>Prop) False _ o.dst:=h
    rw[ht]at h
    have hy:∀y,(@Option.rec Bool (fun _=>Option (Option Bool)) (gd (Z0 (aX s t)) (some none)) (fun b=>some (some b)) (bK (aX s t)))=some y→qB ops s g.1=some y:=by
     intro y hy
     unfold qB
     rw[ho]
     show(ai o.dst _)=_
     rw[ht]
     exact hy
    have hw:∀y,qB ops s g.1=some y→iq ops s (some g)=some (@Option.rec Bool (fun _=>Bool) false (fun b=>qw b g.2) y):=by
     intro y hy
     show DI ops s g=_
     unfold DI
     rw[hy];rfl
    cases he:pZ sk t with
    |true=>
     replace h:@Bool.rec (fun _=>Prop) _ (K false s sk) (pZ sk t):=h
     rw[he]at h
     refine⟨false,s,sk,?_,fF.refl s,hl,h⟩
     have hu:=hl t (Rk.1 he)
     exact hw none (hy none (by rw[hu];rfl))
    |false=>
     replace h:@Bool.rec (fun _=>Prop) (vk (bK (aX s t)) (K (qw true g.2) (gX s t (.bool true) s.H) (j_ sk t)) (K (qw false g.2) (gX s t (.bool false) s.H) (j_ sk t))) (K false s sk) (pZ sk t):=h
     rw[he]at h
     have fin:∀b,bK (aX s t)=some b→K (qw b g.2) (gX s t (.bool b) s.H) (j_ sk t)→∃b s' sk',iq ops s (some g)=some b∧fF s s'∧Left s' sk'∧K b s' sk':=by
      intro b hb hk
      refine⟨_,_,_,hw (some b) (hy (some b) (by rw[hb])),?_,Left.put hl (some t) _ _,hk⟩
      have hv:=gm hb
      have:=fF.same s t
      rw[hv]at this
      exact this
     rcases Fq h with⟨h1,h2⟩|⟨h1,h2⟩
     ·exact fin _ h1 h2
     ·exact fin _ h1 h2
theorem Rm{ops:Array Oper}:∀{l:List Oper}{s:St}{sk:List Nat}{K:St→Prop},Left s sk→p8 P X ops l s sk K→∃s' s2,Ro P X ops l s s'∧fF s' s2∧K s2:=by
 intro l
 induction l with
 |nil=>intro s sk K _ h;exact⟨s,s,Ro.nil,fF.refl s,h⟩
 |cons o l ih=>
  intro s0 sk0 K hl0 h
  obtain⟨b,s,sk,hw,he,hl,h⟩:=Rl (K:=fun b s sk=>@Bool.rec (fun _=>Prop)
   (p8 P X ops l (bG s o.dst undef s.H) (De s sk o.dst) K)
   (@Option.rec Call (fun _=>Prop) (Pw o.op P X s (fun v=>p8 P X ops l (bG s o.dst v s.H) (cz sk o.dst) K) (fun v H=>p8 P X ops l (bG s o.dst v H) (cz sk o.dst) K)) (fun _=>False) (iE o.op))
   b) hl0 h
  have fin:∀k s1 YN,dN P (bU P X k) ops o s0=some s1∨dN P (bU P X k) ops o s=some s1→Left s1 YN→p8 P X ops l s1 YN K→∃s' s2,Ro P X ops (o::l) s0 s'∧fF s' s2∧K s2:=by
   intro k s1 YN hst hl1 hK
   obtain⟨s',s2,h3,h4,h5⟩:=ih hl1 hK
   rcases hst with hst|hst
   ·exact⟨s',s2,Ro.cons ⟨k,hst⟩ h3,h4,h5⟩
   ·have hx:=he.dN (P:=P) (cf:=bU P X k) ops o
    rw[hst]at hx
    generalize hz:dN P (bU P X k) ops o s0=z at hx
    cases hx with
    |some hx=>
     rename_i s3
     obtain⟨k2,h3⟩:=h3
     have hy:=fF.dW (P:=P) (cf:=bU P X k2) ops l hx
     rw[h3]at hy
     generalize hq:dW P (bU P X k2) ops l s3=q at hy
     cases hy with
     |some hy=>exact⟨_,s2,Ro.cons ⟨k,hz⟩ ⟨k2,hq⟩,hy.trans h4,h5⟩
  have hw':iq ops s o.guard=some b:=by rw[←he.iq];exact hw
  cases b with
  |false=>
   refine fin 0 _ _ (.inr ?_) (Left.skip hl o.dst) h
   unfold dN
   rw[hw'];rfl
  |true=>
   cases hd:iE o.op with
   |some c=>
    replace h:@Option.rec Call (fun _=>Prop) _ (fun _=>False) (iE o.op):=h
    rw[hd]at h;exact h.elim
   |none=>
    replace h:@Option.rec Call (fun _=>Prop) (Pw o.op P X s (fun v=>p8 P X ops l (bG s o.dst v s.H) (cz sk o.dst) K) (fun v H=>p8 P X ops l (bG s o.dst v H) (cz sk o.dst) K)) (fun _=>False) (iE o.op):=h
    rw[hd]at h
    have st:∀k v H,vJ o s (mV o.op P (bU P X k) s)=some (bG s o.dst v H)→dN P (bU P X k) ops o s=some (bG s o.dst v H):=by
     intro k v H he
     unfold dN
     rw[hw']
     show oN P (bU P X k) o s=_
     unfold oN
     rw[hd]
     exact he
    obtain⟨k,⟨v,h1,h2⟩|⟨v,H,h1,h2⟩⟩:=Rj h
    ·exact fin k _ _ (.inr (st k v s.H (by rw[h1];rfl))) (Left.put hl o.dst v s.H) h2
    ·exact fin k _ _ (.inr (st k v H (by rw[h1];rfl))) (Left.put hl o.dst v H) h2
theorem YK.aaF{ops:Array Oper}{o:Oper}{l:List Oper}{s s1:St}{c:Cl}{acc:List Cl}{r:St×List Cl}{k:Nat}(h1:cO P (bU P X k) ops o s=some (s1,c))(h2:YK P X ops l s1 (c::acc) r):YK P X ops (o::l) s acc r:=by
 obtain⟨k2,h2⟩:=h2
 refine⟨max k k2,?_⟩
 show(ai (cO P (bU P X (max k k2)) ops o s) fun q=>bD P (bU P X (max k k2)) ops l q.1 (q.2::acc))=_
 rw[show cO P (bU P X (max k k2)) ops o s=some (s1,c)from xq (ng k _ (Nat.le_max_left k k2)).1 h1]
 exact xu (ng k2 _ (Nat.le_max_right k k2)).1 h2
theorem YO{ops:Array Oper}:∀{l:List Oper}{s:St}{sk:List Nat}{acc:List Cl}{K:St→List Cl→Prop},Left s sk→Kb P X ops l s sk acc K→∃s' s2 cls,YK P X ops l s acc (s',cls)∧fF s' s2∧K s2 cls:=by
 intro l
 induction l with
 |nil=>intro s sk acc K _ h;exact⟨s,s,acc,⟨0,rfl⟩,fF.refl s,h⟩
 |cons o l ih=>
  intro s0 sk0 acc K hl0 h
  obtain⟨b,s,sk,hw,he,hl,h⟩:=Rl (K:=fun b s sk=>@Bool.rec (fun _=>Prop)
   (Kb P X ops l (bG s o.dst undef s.H) (De s sk o.dst) (cl 0::acc) K)
   (Pw o.op P X (aV s) (fun v=>Kb P X ops l (bG s o.dst v s.H) (cz sk o.dst) (cl 0::acc) K) (fun v H=>Kb P X ops l (bG s o.dst v ⟨H.j6,H.next,fH s.H.low H.low⟩) (cz sk o.dst) (iR P o.op s H::acc) K))
   b) hl0 h
  have fin:∀k s1 YN c,cO P (bU P X k) ops o s=some (s1,c)→Left s1 YN→Kb P X ops l s1 YN (c::acc) K→∃s' s2 cls,YK P X ops (o::l) s0 acc (s',cls)∧fF s' s2∧K s2 cls:=by
   intro k s1 YN c hst hl1 hK
   obtain⟨s',s2,cls,h3,h4,h5⟩:=ih hl1 hK
   have hx:=he.cO (P:=P) (cf:=bU P X k) ops o
   rw[hst]at hx
   generalize hz:cO P (bU P X k) ops o s0=z at hx
   cases hx with
   |some _ hx=>
    rename_i s3
    obtain⟨k2,h3⟩:=h3
    have hy:=fF.bD (P:=P) (cf:=bU P X k2) ops l (c::acc) hx
    rw[h3]at hy
    generalize hq:bD P (bU P X k2) ops l s3 (c::acc)=q at hy
    cases hy with
    |some _ hy=>exact⟨_,s2,cls,YK.aaF hz ⟨k2,hq⟩,hy.trans h4,h5⟩
  have hw':iq ops s o.guard=some b:=by rw[←he.iq];exact hw
  cases b with
  |false=>
   refine fin 0 _ _ (cl 0) ?_ (Left.skip hl o.dst) h
   unfold cO
   rw[hw'];rfl
  |true=>
   obtain⟨k,⟨v,h1,h2⟩|⟨v,H,h1,h2⟩⟩:=Rj h
   ·refine fin k _ _ (cl 0) ?_ (Left.put hl o.dst v s.H) h2
    unfold cO
    rw[hw']
    show zf P o s (mV o.op P (bU P X k) (aV s))=_
    rw[h1];rfl
   ·refine fin k _ _ (iR P o.op s H) ?_ (Left.put hl o.dst v ⟨H.j6,H.next,fH s.H.low H.low⟩) h2
    unfold cO
    rw[hw']
    show zf P o s (mV o.op P (bU P X k) (aV s))=_
    rw[h1];rfl
theorem aR.alike{c:Code}{s s':St}{K:Out→Prop}(he:fF s s')(h:aR P X c s' K):aR P X c s K:=by
 obtain⟨o,o',h1,h2,h3⟩:=h
 obtain⟨o2,h4,h5⟩:=Ev.alike he.symm h1
 refine⟨o2,o',h5,?_,h3⟩
 have:qx o2 o:=by
  cases h4 with
  |fail=>exact .fail
  |norm h=>exact .norm h.symm
  |exit i h=>exact .exit i h.symm
  |goto l h=>exact .goto l h.symm
  |ret h=>exact .ret h.symm
 exact this.trans h2
theorem Left.nil(s:St):Left s []:=fun t h=>by cases h
theorem Vv{id:Nat}{ops:Array Oper}{d:Bool}{s:St}{K:Out→Prop}(h:acz P X ops d s K):aR P X (.region id ops d) s K:=by
 cases d with
 |false=>
  obtain⟨s',s2,h1,h2,h3⟩:=Rm (l:=ops.toList) (s:=clear s) (K:=fun s=>K (.norm s)) (Left.nil _) h
  exact⟨_,_,Ev.region h1,.norm h2,h3⟩
 |true=>
  cases hst:(bV ops&&f_ ops)with
  |false=>
   have h':@Bool.rec (fun _=>Prop) False (Kb P X ops ops.toList (clear s) [] [] (fun s cls=>bO ops cls=true∧K (.norm s))) (bV ops&&f_ ops):=h
   rw[hst]at h'
   exact h'.elim
  |true=>
   have h':@Bool.rec (fun _=>Prop) False (Kb P X ops ops.toList (clear s) [] [] (fun s cls=>bO ops cls=true∧K (.norm s))) (bV ops&&f_ ops):=h
   rw[hst]at h'
   obtain⟨s',s2,cls,h1,he,h2,h3⟩:=YO (Left.nil _) h'
   exact⟨_,_,Ev.He hst h1 h2,.norm he,h3⟩
theorem aR.mono{c:Code}{s:St}{K K':Out→Prop}(h:aR P X c s K)(hk:∀o,K o→K' o):aR P X c s K':=by
 obtain⟨o,o',h1,h2,h3⟩:=h
 exact⟨o,o',h1,h2,hk o' h3⟩
theorem aR.seq{a b:Code}{s:St}{K:Out→Prop}(h:aR P X a s (kH P X b K)):aR P X (.seq a b) s K:=by
 obtain⟨o,o1,h1,he,h2⟩:=h
 cases he with
 |fail=>exact absurd rfl h1.1
 |norm he=>
  obtain⟨o',o2,h3,h5,h4⟩:=aR.alike he (K:=K) h2
  exact⟨o',o2,Ev.seq h1 h3,h5,h4⟩
 |exit i he=>exact⟨_,_,Ev.Q_ h1,.exit i he,h2⟩
 |goto l he=>
  refine⟨_,_,?_,.goto l he,h2⟩
  obtain⟨n1,k1,h1⟩:=h1
  refine⟨n1,k1,?_⟩
  show andThen (xx P X k1 a s) (xx P X k1 b)=_
  rw[h1];rfl
 |ret he=>exact⟨_,_,Ev.Vp h1,.ret he,h2⟩
theorem aR.block{id:Nat}{a:Code}{s:St}{K:Out→Prop}(h:aR P X a s (gY id K)):aR P X (.block id a) s K:=by
 obtain⟨o,o',h1,he,h2⟩:=h
 refine⟨lD id o,_,?_,?_,h2⟩
 ·obtain⟨n1,k1,h1⟩:=h1
  refine⟨?_,k1,?_⟩
  ·cases o with
   |fail=>exact absurd rfl n1
   |exit i s'=>
    show av (Nat.beq i id) (Out.norm s') (Out.exit i s')≠.fail
    cases Nat.beq i id<;>simp[fV,bX]
   |_=>intro e;cases e
  ·show lD id (xx P X k1 a s)=_
   rw[h1]
 ·cases he with
  |fail=>exact .fail
  |norm he=>exact .norm he
  |exit i he=>
   show qx (av (Nat.beq i id) _ _) (av (Nat.beq i id) _ _)
   cases Nat.beq i id with
   |true=>exact .norm he
   |false=>exact .exit i he
  |goto l he=>exact .goto l he
  |ret he=>exact .ret he
def YP{T:Type}(YQ:T→St)(Inv:T→Prop)(μ:T→Nat)(n:Nat)(K:Out→Prop):Out→Prop:=fun o=>match o with
 |.norm s'=>∃t',s'=YQ t'∧Inv t'∧μ t'<n
 |.fail=>False
 |o=>K o
theorem aR.loop{T:Type}{a:Code}{K:Out→Prop}(YQ:T→St)(Inv:T→Prop)(μ:T→Nat)(h:∀t,Inv t→aR P X a (YQ t) (YP YQ Inv μ (μ t) K)):
 ∀(t:T),Inv t→aR P X (.loop a) (YQ t) K:=by
 suffices∀n t,μ t<n→Inv t→aR P X (.loop a) (YQ t) K from fun t ht=>this (μ t +1) t (Nat.lt_succ_self _) ht
 intro n
 induction n with
 |zero=>intro t hn;omega
 |succ n ih=>
  intro t hn hI
  obtain⟨o,o',h1,he,h2⟩:=h t hI
  cases he with
  |fail=>exact h2.elim
  |norm he=>
   obtain⟨t',rfl,h3,h4⟩:=h2
   obtain⟨o',o2,h5,h7,h6⟩:=aR.alike he (ih t' (by omega) h3)
   exact⟨o',o2,Ev.Vq h1 h5,h7,h6⟩
  |exit i he=>exact⟨_,_,Ev.Ra h1,.exit i he,h2⟩
  |goto l he=>
   refine⟨_,_,?_,.goto l he,h2⟩
   obtain⟨n1,k1,h1⟩:=h1
   refine⟨n1,k1 +1,?_⟩
   show andThen (xx P X (k1 +1) a (YQ t)) _=_
   rw[qM h1 n1 (Nat.le_succ _)];rfl
  |ret he=>exact⟨_,_,Ev.Rb h1,.ret he,h2⟩
theorem ak.mono{g:FuncId}{args:List Value}{H:aa}{K K':Value→aa→Prop}(h:ak P X g args H K)(hk:∀v H',K v H'→K' v H'):ak P X g args H K':=by
 obtain⟨v,H',h1,h2⟩:=h
 exact⟨v,H',h1,hk _ _ h2⟩
noncomputable def cB(P:Program)(rs:List ResultVar)(K:Value→aa→Prop):Out→Prop:=fun o=>
 @Out.rec (fun _=>Prop) False (fun s=>s.df=[]∧@Option.rec (List Value) (fun _=>Prop) False (fun vs=>K (iZ vs) s.H) (dw P s rs)) (fun _ _=>False) (fun _ _=>False)
  (fun s=>s.df=[]∧@Option.rec (List Value) (fun _=>Prop) False (fun vs=>K (iZ vs) s.H) (dw P s rs)) o
noncomputable def uH(args:List Value)(n:Nat):Tr Value:=Tr.jE top (app args (PV top (Nat.sub n (len args)))) 0 .nil
theorem Hl(args:List Value)(n k:Nat):(Tr.jE top args 0 .nil).get top k=(uH args n).get top k:=by
 unfold uH
 rw[Tr.dY,Tr.dY,iY]
 simp only[Nat.zero_le,true_and,Nat.zero_add,Nat.sub_zero]
 have hrep:∀m,(PV top m).length=m:=by intro m;induction m with|zero=>rfl|succ m ih=>exact congrArg Nat.succ ih
 have hget:∀m j,(PV top m).getD j top=top:=by
  intro m
  induction m with
  |zero=>intro j;rfl
  |succ m ih=>intro j;cases j with
   |zero=>rfl
   |succ j=>exact ih j
 by_cases h1:k<args.length
 ·rw[if_pos h1,if_pos (by simp;omega)]
  simp[List.getD_eq_getElem?_getD,List.getElem?_append_left h1]
 ·rw[if_neg h1]
  split
  ·rw[List.getD_eq_getElem?_getD,List.getElem?_append_right (by omega),←List.getD_eq_getElem?_getD,hget,Tr.get_nil]
  ·rfl
theorem ak.body{g:FuncId}{fn:Func}{c:Code}{args:List Value}{H:aa}{K:Value→aa→Prop}{nl:Nat}(hor:X.o g args H=none)(hg:nth P.funcs.toList g=some fn)(hb:fn.body=some c)(hl:Nat.ble (len args) fn.ntmps=true)(hn:bQ P g=nl)
 (h:aR P X c ⟨nl,fn.ntmps,[],uH args fn.ntmps,[],H⟩ (cB P fn.results.toList K)):ak P X g args H K:=by
 obtain⟨o,o1,h1,h0,h2⟩:=h
 subst hn
 have he:fF ⟨bQ P g,fn.ntmps,[],uH args fn.ntmps,[],H⟩ ⟨bQ P g,fn.ntmps,[],Tr.jE top args 0 .nil,[],H⟩:=⟨rfl,rfl,rfl,rfl,fun k=>by
  show av (aS (bQ P g) k) ((uH args fn.ntmps).get top k) _=av (aS (bQ P g) k) ((Tr.jE top args 0 .nil).get top k) _
  rw[Hl args fn.ntmps k]⟩
 obtain⟨o',h3,h4⟩:=Ev.alike he h1
 have fin:∀s s':St,fF s' s→EH o'=some s'→(s.df=[]∧@Option.rec (List Value) (fun _=>Prop) False (fun vs=>K (iZ vs) s.H) (dw P s fn.results.toList))→ak P X g args H K:=by
  intro s s' hs ho ⟨hd,hr⟩
  rw[←hs.dw]at hr
  cases ha:dw P s' fn.results.toList with
  |none=>rw[ha]at hr;exact hr.elim
  |some vs=>
   rw[ha]at hr
   refine⟨_,_,Ca.body hor hg hb hl h4 ho ?_ ha,?_⟩
   ·rw[hs.df,hd];rfl
   ·rw[hs.H];exact hr
 have acB:qx o' o:=by
  cases h3 with
  |fail=>exact .fail
  |norm h=>exact .norm h.symm
  |exit i h=>exact .exit i h.symm
  |goto l h=>exact .goto l h.symm
  |ret h=>exact .ret h.symm
 have h5:=acB.trans h0
 cases h5 with
 |fail=>exact h2.elim
 |norm hs=>exact fin _ _ hs rfl h2
 |exit i hs=>exact h2.elim
 |goto l hs=>exact h2.elim
 |ret hs=>exact fin _ _ hs rfl h2
theorem Ho{b:Code}{K:Out→Prop}{s:St}:kH P X b K (.norm s)=aR P X b s K:=rfl
theorem Hq{b:Code}{K:Out→Prop}{s:St}{i:Nat}:kH P X b K (.exit i s)=K (.exit i s):=rfl
theorem Ma{b:Code}{K:Out→Prop}{s:St}:kH P X b K (.ret s)=K (.ret s):=rfl
theorem Hr{K:Out→Prop}{s:St}{i:Nat}:gY i K (.norm s)=K (.norm s):=rfl
theorem Mc{K:Out→Prop}{s:St}{i:Nat}:gY i K (.ret s)=K (.ret s):=rfl
theorem Ht{K:Out→Prop}{s:St}{i:Nat}:gY i K (.exit i s)=K (.norm s):=by
 show K (av (Nat.beq i i) _ _)=_
 rw[show Nat.beq i i=true from Nat.beq_refl i];rfl
theorem Hu{K:Out→Prop}{s:St}{i j:Nat}(h:j≠i):gY i K (.exit j s)=K (.exit j s):=by
 show K (av (Nat.beq j i) _ _)=_
 rw[show Nat.beq j i=false from by rw[←Bool.not_eq_true];exact fun g=>h (Nat.eq_of_beq_eq_true g)];rfl
theorem Hw{A B:Prop}:vk (some true) A B=A:=rfl
theorem D7{A B:Prop}:vk (some false) A B=B:=rfl
theorem d_{v:Value}{K:Value→Prop}:PU (some v) K=K v:=rfl
theorem Me{v:Value}{H:aa}{K:Value→aa→Prop}:ME (some (v,H)) K=K v H:=rfl
theorem Mf{v:Value}{q:Option (Value×aa)}{Kp:Value→Prop}{Km:Value→aa→Prop}:CV (some v) q Kp Km=Kp v:=rfl
end mem
end Go.Ae
namespace Go.Ae
noncomputable def kid(c:Code)(i:Nat):Code:=
 @Code.rec (fun _=>Nat→Code) (fun _=>.skip) (fun _ _ _ _=>.skip) (fun a b _ _ i=>@Nat.rec (fun _=>Code) a (fun _ _=>b) i)
  (fun _ a b _ _ i=>@Nat.rec (fun _=>Code) a (fun _ _=>b) i) (fun _ a _ _=>a) (fun a _ _=>a) (fun _ _ _ _ _ _ _=>.skip) (fun _ _=>.skip) (fun a _ _=>a) (fun _ _=>.skip) (fun _ _=>.skip) (fun _=>.skip) (fun _ _=>.skip) c i
noncomputable def sub(c:Code)(p:List Nat):Code:=@List.rec Nat (fun _=>Code→Code) (fun c=>c) (fun i _ ih c=>ih (kid c i)) p c
noncomputable def opsOf(c:Code):Array Oper:=
 @Code.rec (fun _=>Array Oper) #[] (fun _ ops _=>ops) (fun _ _ _ _=>#[]) (fun _ _ _ _ _=>#[]) (fun _ _ _=>#[]) (fun _ _=>#[]) (fun _ _ _ _ _ _=>#[]) (fun _=>#[]) (fun _ _=>#[]) (fun _=>#[]) (fun _=>#[]) #[] (fun _=>#[]) c
noncomputable def Fs(f:Func):Code:=@Option.rec Code (fun _=>Code) .skip (fun c=>c) f.body
noncomputable def fld(off:Nat)(x:Value):Option Value:=ai (gJ x) fun a=>some (.pointer (some ⟨a.block,Nat.add a.off off,none⟩))
noncomputable def YR(l:Option Nat)(off:Nat)(x:Value):Option Value:=ai (kU x) fun cs=>apart l cs off
noncomputable def jX(l:Option Nat)(x:Value)(H:aa):Option (Value×aa):=ai (gJ x) fun a=>loadAt l a H
noncomputable def Aw(n:Nat)(x v:Value)(H:aa):Option (Value×aa):=
 ai (gJ x) fun a=>gd (Nat.beq (len (ay v)) n) (ai (H.write a.block a.off (ay v)) fun H'=>some (undef,H'))
noncomputable def q_(es:Nat)(x i:Value):Option Value:=ai (oM i) fun k=>ai (y_ x) fun p=>ai p.1 fun a=>gd (Nat.ble (Nat.succ k) p.2.1) (some (.pointer (some ⟨a.block,Nat.add a.off (Nat.mul k es),none⟩)))
noncomputable def idR(n es:Nat)(x i:Value):Option Value:=ai (oM i) fun k=>ai (gJ x) fun a=>gd (Nat.ble (Nat.succ k) n) (some (.pointer (some ⟨a.block,Nat.add a.off (Nat.mul k es),none⟩)))
noncomputable def YS(x i:Value):Option Value:=ai (oM i) fun k=>ai (jh x) fun s=>ai (nth s.data.toList k) fun b=>some (.int .u8 (.ofNat b.toNat))
noncomputable def WZ(es:Nat)(x:Value)(lo hi mx:Option Value):Option Value:=ai (y_ x) fun p=>Lp es p lo hi mx
noncomputable def YT(x:Value)(lo hi mx:Option Value):Option Value:=ai (jh x) fun s=>gd (aJ mx) (EB s lo hi)
noncomputable def aaG(x:Value):Option Value:=ai (y_ x) fun p=>some (.int .i64 (.ofNat p.2.1))
noncomputable def aaH(x:Value):Option Value:=ai (jh x) fun s=>some (.int .i64 (.ofNat (len s.data.toList)))
noncomputable def cZ(e:TypeId)(z:List Value)(H:aa):Option (Value×aa):=some (A_ H.next,H.new (rowOf e z))
noncomputable def mkS(e:TypeId)(z:List Value)(l c:Value)(H:aa):Option (Value×aa):=
 ai (oM l) fun n=>ai (oM c) fun m=>gd (Nat.ble n m&&Nat.ble m 16777216&&true) (some (.slice (some ⟨H.next,0,none⟩) n m,H.new (rowOf e (gM z m))))
noncomputable def xz(e:TypeId)(es:Nat)(s x:Value)(H:aa):Option (Value×aa):=
 ai (y_ s) fun p=>ai (appended H es x) fun r=>gd (Nat.ble r.1 16777216) (Ls (e,es) s p r.1 r.2 H)
noncomputable def cpA(es:Nat)(d x:Value)(H:aa):Option (Value×aa):=
 ai (y_ d) fun p=>ai (appended H es x) fun e=>
  @Option.rec Addr (fun _=>Option (Value×aa)) (gd (Nat.beq p.2.1 0) (some (.int .i64 0,H)))
   (fun a=>ai (H.write a.block a.off (tk (Nat.mul (av (Nat.ble e.1 p.2.1) e.1 p.2.1) es) e.2)) fun H'=>some (.int .i64 (.ofNat (av (Nat.ble e.1 p.2.1) e.1 p.2.1)),H')) p.1
noncomputable def clA(z:List Value)(d:Value)(H:aa):Option (Value×aa):=
 ai (y_ d) fun p=>@Option.rec Addr (fun _=>Option (Value×aa)) (some (.tuple #[],H)) (fun a=>ai (H.write a.block a.off (gM z p.2.1)) fun H'=>some (.tuple #[],H')) p.1
noncomputable def CW(x:Value):Option (FuncId×List Value×List Value):=ai (PO x) fun q=>ai (Uw q.1) fun g=>some (g,q.2)
noncomputable def hN(H:aa):aa:=⟨H.j6,H.next,H.next⟩
noncomputable def hM(H H':aa):aa:=⟨H'.j6,H'.next,fH H.low H'.low⟩
noncomputable def Df(H H':aa):Cl:=av (Nat.ble H.next H'.low) (cl 1) ⟨2,0,0,0,H,H'⟩
noncomputable def Oo(H H':aa):Cl:=av (Nat.ble H.next H'.low) (cl 5) ⟨2,0,0,0,H,H'⟩
noncomputable def W9(n:Nat)(x:Value)(H H':aa):Cl:=av (Nat.ble H.next H'.low) ((ai (gJ x) fun a=>some (Cl.mk 4 a.block a.off n hh0 hh0)).getD (cl 1)) ⟨2,0,0,0,H,H'⟩
noncomputable def clS(x v:Value)(H H':aa):Cl:=@Option.rec Addr (fun _=>Cl) ⟨2,0,0,0,H,H'⟩ (fun a=>⟨3,a.block,a.off,len (ay v),hh0,hh0⟩) (gJ x)
noncomputable def wK(R:Nat→St→Prop)(n:Nat)(K:Out→Prop):Out→Prop:=fun o=>
 @Out.rec (fun _=>Prop) False (fun s=>∃m,m<n∧R m s) (fun i s=>K (.exit i s)) (fun l s=>K (.goto l s)) (fun s=>K (.ret s)) o
theorem Hy{R:Nat→St→Prop}{n:Nat}{K:Out→Prop}{s:St}:wK R n K (.norm s)=∃m,m<n∧R m s:=rfl
theorem HV{R:Nat→St→Prop}{n:Nat}{K:Out→Prop}{s:St}{i:Nat}:wK R n K (.exit i s)=K (.exit i s):=rfl
theorem Mg{R:Nat→St→Prop}{n:Nat}{K:Out→Prop}{s:St}:wK R n K (.ret s)=K (.ret s):=rfl
theorem aR.sV{P:Program}{X:Xt}{a:Code}{K:Out→Prop}{R:Nat→St→Prop}(h:∀n s,R n s→aR P X a s (wK R n K)):∀n s,R n s→aR P X (.loop a) s K:=by
 intro n s hs
 refine aR.loop (T:=Nat×St) (fun t=>t.2) (fun t=>R t.1 t.2) (fun t=>t.1) ?_ (n,s) hs
 rintro⟨n,s⟩ hR
 refine aR.mono (h n s hR) fun o ho=>?_
 cases o with
 |fail=>exact ho
 |norm s'=>
  obtain⟨m,h1,h2⟩:=ho
  exact⟨(m,s'),rfl,h2,h1⟩
 |exit i s'=>exact ho
 |goto l s'=>exact ho
 |ret s'=>exact ho
noncomputable abbrev zZ:=look
noncomputable def Kc(P:Program)(s:St)(rs:List ResultVar):(List Value→Prop)→Prop:=
 @List.rec ResultVar (fun _=>(List Value→Prop)→Prop) (fun k=>k []) (fun r _ ih k=>
  @ResultVar.rec (fun _=>Prop) (fun t=>ih (fun vs=>k (aX s t::vs))) (fun a t=>ME (kz P t (aX s a) s.H) fun v _=>ih (fun vs=>k (v::vs))) r) rs
theorem Mh{P:Program}{s:St}:∀{rs:List ResultVar}{k:List Value→Prop},Kc P s rs k→∃vs,dw P s rs=some vs∧k vs:=by
 intro rs
 induction rs with
 |nil=>intro k h;exact⟨[],rfl,h⟩
 |cons r rs ih=>
  intro k h
  cases r with
  |tmp t=>
   obtain⟨vs,h1,h2⟩:=ih (k:=fun vs=>k (aX s t::vs)) h
   refine⟨aX s t::vs,?_,h2⟩
   show(ai (some (aX s t)) fun v=>ai (dw P s rs) fun vs=>some (v::vs))=_
   rw[h1];rfl
  |cell a t=>
   obtain⟨v,H',h0,h⟩:=WY (K:=fun v _=>Kc P s rs (fun vs=>k (v::vs))) h
   obtain⟨vs,h1,h2⟩:=ih (k:=fun vs=>k (v::vs)) h
   refine⟨v::vs,?_,h2⟩
   show(ai (ai (kz P t (aX s a) s.H) fun p=>some p.1) fun v=>ai (dw P s rs) fun vs=>some (v::vs))=_
   rw[h0,h1];rfl
theorem Rn{P:Program}{s:St}{rs:List ResultVar}{K:Value→aa→Prop}(hd:s.df=[])(h:Kc P s rs (fun vs=>K (iZ vs) s.H)):cB P rs K (.ret s):=by
 obtain⟨vs,h1,h2⟩:=Mh h
 refine⟨hd,?_⟩
 rw[h1];exact h2
theorem Oq{P:Program}{s:St}{rs:List ResultVar}{K:Value→aa→Prop}(hd:s.df=[])(h:Kc P s rs (fun vs=>K (iZ vs) s.H)):cB P rs K (.norm s):=by
 obtain⟨vs,h1,h2⟩:=Mh h
 refine⟨hd,?_⟩
 rw[h1];exact h2
end Go.Ae
namespace Go.Ae
theorem p9(H:aa)(r:Nat)(o:dn)(q:Nat):(H.put r o).obj q=if q=r then o else H.obj q:=Tr.jP _ _ _ _ _
theorem nZ(H:aa)(o:dn)(q:Nat):(H.new o).obj q=if q=H.next then o else H.obj q:=Tr.jP _ _ _ _ _
theorem kI(H:aa)(r:Nat)(o:dn):(H.put r o).low=min H.low r:=by
 show av (Nat.ble H.low r) H.low r=_
 cases h:Nat.ble H.low r with
 |true=>have:=Nat.le_of_ble_eq_true h;rw[fV,Nat.min_eq_left this]
 |false=>
  have:¬H.low≤r:=fun g=>by rw[Nat.ble_eq_true_of_le g]at h;cases h
  rw[bX,Nat.min_eq_right (by omega)]
def Bk(H:aa)(r:Nat)(ty:TypeId)(cs:List Value):Prop:=
 ∃R:Row,H.obj r=.row R∧R.ty=ty∧R.n=cs.length∧R.dB=false∧R.fz=0∧∀i(h:i<cs.length),R.cells.get top i=cs[i]
theorem Bk.cell{H:aa}{r:Nat}{ty:TypeId}{cs:List Value}(h:Bk H r ty cs){o:Nat}{v:Value}(hv:cs[o]?=some v):H.cell r o=some v:=by
 obtain⟨R,h1,_,h2,_,_,h3⟩:=h
 obtain⟨ho,hv⟩:=List.getElem?_eq_some_iff.1 hv
 unfold aa.cell
 rw[h1]
 show gd (Nat.ble (Nat.succ o) R.n) (some (R.cells.get top o))=_
 rw[h2,Nat.ble_eq_true_of_le (by omega),h3 o ho,hv];rfl
theorem Bk.fO{H H':aa}{r:Nat}{ty:TypeId}{cs:List Value}(h:Bk H r ty cs)(e:H'.obj r=H.obj r):Bk H' r ty cs:=by
 obtain⟨R,h1,h2⟩:=h
 exact⟨R,e.trans h1,h2⟩
theorem jq{H H':aa}{r:Nat}(e:H'.obj r=H.obj r)(o:Nat):H'.cell r o=H.cell r o:=by unfold aa.cell;rw[e]
theorem o7{H H':aa}{r:Nat}(e:H'.obj r=H.obj r)(o n:Nat):H'.read r o n=H.read r o n:=by unfold aa.read;rw[e]
theorem Bk.new(H:aa)(ty:TypeId)(cs:List Value):Bk (H.new (rowOf ty cs)) H.next ty cs:=by
 refine⟨⟨ty,Tr.jE top cs 0 .nil,len cs,false,0⟩,by rw[nZ,if_pos rfl];rfl,rfl,aO cs,rfl,rfl,fun i h=>?_⟩
 rw[Tr.dY,if_pos (by omega),List.getD_eq_getElem?_getD]
 simp[h]
theorem Rp{n:Nat}:∀{k:Nat}(t:Tr Value)(cs:List Value),k +n≤cs.length→(∀i(h:i<cs.length),t.get top i=cs[i])→Tr.vD top t k n=(cs.drop k).take n:=by
 induction n with
 |zero=>intro k t cs _ _;rw[Tr.rX];simp
 |succ n ih=>
  intro k t cs hk ht
  rw[Tr.l6,ih t cs (by omega) ht,ht k (by omega),List.drop_eq_getElem_cons (by omega:k<cs.length),List.take_succ_cons]
theorem Bk.read{H:aa}{r:Nat}{ty:TypeId}{cs:List Value}(h:Bk H r ty cs){o n:Nat}(hn:o +n≤cs.length):H.read r o n=some ((cs.drop o).take n):=by
 obtain⟨R,h1,_,h2,_,_,h3⟩:=h
 cases n with
 |zero=>show some []=_;simp
 |succ n=>
  show(ai (ko (H.obj r)) fun w=>gd (Nat.ble (Nat.add o (n +1)) w.n) (some (Tr.vD top w.cells o (n +1))))=_
  rw[h1]
  show gd (Nat.ble (Nat.add o (n +1)) R.n) (some (Tr.vD top R.cells o (n +1)))=_
  rw[h2,Nat.ble_eq_true_of_le (by simpa using hn),Rp R.cells cs hn h3];rfl
def splice(cs:List Value)(o:Nat)(vs:List Value):List Value:=cs.take o++vs++cs.drop (o +vs.length)
theorem dM{cs vs:List Value}{o:Nat}(h:o +vs.length≤cs.length):(splice cs o vs).length=cs.length:=by unfold splice;simp;omega
theorem gZ{cs vs:List Value}{o:Nat}(h:o +vs.length≤cs.length)(i:Nat):(splice cs o vs)[i]?=if o≤i∧i<o +vs.length then vs[i -o]? else cs[i]?:=by
 unfold splice
 rw[List.append_assoc,List.getElem?_append,List.getElem?_append]
 simp only[List.length_take]
 by_cases h1:i<o
 ·rw[if_pos (by omega),if_neg (by omega),List.getElem?_take,if_pos h1]
 ·rw[if_neg (by omega)]
  by_cases h2:i<o +vs.length
  ·rw[if_pos (by omega),if_pos ⟨by omega,h2⟩];congr 1;omega
  ·rw[if_neg (by omega),if_neg (by omega),List.getElem?_drop];congr 1;omega
theorem Bk.write{H:aa}{r:Nat}{ty:TypeId}{cs vs:List Value}(h:Bk H r ty cs){o:Nat}(hn:o +vs.length≤cs.length)(hk:all' aU vs=true):
 ∃H',H.write r o vs=some H'∧Bk H' r ty (splice cs o vs)∧H'.next=H.next∧(∀q,q≠r→H'.obj q=H.obj q)∧(H'.low=min H.low r∨H'.low=H.low):=by
 obtain⟨R,h1,h2,h3,h4,h5,h6⟩:=h
 cases vs with
 |nil=>
  refine⟨H,rfl,⟨R,h1,h2,by rw[dM hn];exact h3,h4,h5,fun i hi=>?_⟩,rfl,fun _ _=>rfl,.inr rfl⟩
  have hi':i<cs.length:=by rwa [dM hn]at hi
  have:=gZ hn i
  rw[if_neg (fun h=>absurd h.2 (by simp;omega)),List.getElem?_eq_getElem hi,List.getElem?_eq_getElem hi']at this
  rw[h6 i hi'];exact(Option.some.inj this).symm
 |cons v vs'=>
  have hw:H.write r o (v::vs')=some (H.put r (.row ⟨R.ty,Tr.jE top (v::vs') o R.cells,R.n,false,R.fz⟩)):=by
   show(ai (ko (H.obj r)) fun w=>gd (!w.dB&&Nat.ble (Nat.add o (len (v::vs'))) w.n&&Nat.ble w.fz o&&all' aU (v::vs')) (some (H.put r (.row ⟨w.ty,Tr.jE top (v::vs') o w.cells,w.n,false,w.fz⟩))))=_
   rw[h1]
   show gd (!R.dB&&Nat.ble (Nat.add o (len (v::vs'))) R.n&&Nat.ble R.fz o&&all' aU (v::vs')) _=_
   rw[hk,h4,h3,h5,aO,Nat.ble_eq_true_of_le (by simpa using hn),Nat.ble_eq_true_of_le (Nat.zero_le o)];rfl
  refine⟨_,hw,⟨⟨R.ty,Tr.jE top (v::vs') o R.cells,R.n,false,R.fz⟩,by rw[p9,if_pos rfl],h2,by rw[dM hn];exact h3,rfl,h5,fun i hi=>?_⟩,rfl,fun q hq=>by rw[p9,if_neg hq],.inl (kI _ _ _)⟩
  have hi':i<cs.length:=by rwa [dM hn]at hi
  have hg:=gZ hn i
  rw[List.getElem?_eq_getElem hi]at hg
  show(Tr.jE top (v::vs') o R.cells).get top i=_
  rw[Tr.dY]
  by_cases hc:o≤i∧i<o +(v::vs').length
  ·rw[if_pos hc]at hg⊢
   rw[List.getD_eq_getElem?_getD,←hg];rfl
  ·rw[if_neg hc]at hg⊢
   rw[h6 i hi']
   rw[List.getElem?_eq_getElem hi']at hg
   exact(Option.some.inj hg).symm
structure kS(S:List Nat)(H H':aa):Prop where
 next:H.next≤H'.next
 obj:∀r,r<H.next→r∉S→H'.obj r=H.obj r
 low:∀b,b≤H.low→b≤H.next→(∀r∈S,b≤r)→b≤H'.low
 wf:H.low≤H.next→H'.low≤H'.next
abbrev Wf(H:aa):Prop:=H.low≤H.next
abbrev Ext(H H':aa):Prop:=kS [] H H'
theorem Ext.refl(H:aa):Ext H H:=⟨Nat.le_refl _,fun _ _ _=>rfl,fun _ h _ _=>h,fun h=>h⟩
theorem kS.refl(S:List Nat)(H:aa):kS S H H:=⟨Nat.le_refl _,fun _ _ _=>rfl,fun _ h _ _=>h,fun h=>h⟩
theorem kS.trans{S:List Nat}{A B C:aa}(h1:kS S A B)(h2:kS S B C):kS S A C:=
 ⟨Nat.le_trans h1.next h2.next,fun r hr hS=>(h2.obj r (Nat.lt_of_lt_of_le hr h1.next) hS).trans (h1.obj r hr hS),fun b hl hn hS=>h2.low b (h1.low b hl hn hS) (Nat.le_trans hn h1.next) hS,fun h=>h2.wf (h1.wf h)⟩
theorem kS.later{S S':List Nat}{A B C:aa}(h1:kS S A B)(h2:kS S' B C)(hS:∀r∈S',r∈S∨A.next≤r):kS S A C:=
 ⟨Nat.le_trans h1.next h2.next,fun r hr hn=>(h2.obj r (Nat.lt_of_lt_of_le hr h1.next) (fun h=>by
     rcases hS r h with h|h
     ·exact hn h
     ·omega)).trans (h1.obj r hr hn),
  fun b hl hn hb=>h2.low b (h1.low b hl hn hb) (Nat.le_trans hn h1.next) (fun r hr=>by
   rcases hS r hr with h|h
   ·exact hb r h
   ·omega),fun h=>h2.wf (h1.wf h)⟩
theorem kS.weaken{S S':List Nat}{A B:aa}(h:kS S A B)(hs:∀r∈S,r∈S'):kS S' A B:=⟨h.next,fun r hr hn=>h.obj r hr (fun g=>hn (hs r g)),fun b hl hn hb=>h.low b hl hn (fun r hr=>hb r (hs r hr)),h.wf⟩
theorem Ext.new(H:aa)(o:dn):Ext H (H.new o):=⟨Nat.le_succ _,fun r hr _=>by rw[nZ,if_neg (by omega)],fun _ h _ _=>h,fun h=>Nat.le_succ_of_le h⟩
theorem kS.put(H:aa)(r:Nat)(o:dn):kS [r] H (H.put r o):=⟨Nat.le_refl _,fun q _ hq=>by rw[p9,if_neg (fun e=>hq (by simp[e]))],fun b h _ hb=>by rw[kI];have:=hb r (by simp);omega,fun h=>by rw[kI];show min H.low r≤H.next;omega⟩
abbrev aK:=Nat×TypeId×List Value
structure SH(S:List Nat)(H0 H:aa)(L:List aK):Prop where
 ext:kS S H0 H
 bk:∀e∈L,Bk H e.1 e.2.1 e.2.2
 lo:∀e∈L,(e.1∈S∨H0.next≤e.1)∧e.1<H.next
 ne:L.Pairwise (fun a b=>a.1≠b.1)
 wf:H.low≤H.next
variable{S:List Nat}
theorem SH.refl{H:aa}(hw:Wf H):SH [] H H []:=⟨Ext.refl H,(fun e h=>by cases h),(fun e h=>by cases h),List.Pairwise.nil,hw⟩
theorem SH.xA{H0 H:aa}{L:List aK}(hS:SH [] H0 H L){e:aK}(he:e∈L):H0.next≤e.1:=(hS.lo e he).1.resolve_left (fun h=>nomatch h)
theorem SH.get{H0 H:aa}{L:List aK}(hS:SH S H0 H L)(i:Nat){r:Nat}{ty:TypeId}{cs:List Value}(hi:L[i]?=some (r,ty,cs)):Bk H r ty cs:=hS.bk _ (List.mem_of_getElem? hi)
theorem SH.old{H0 H:aa}{L:List aK}(hS:SH [] H0 H L){r o:Nat}(hr:r<H0.next):H.cell r o=H0.cell r o:=jq (hS.ext.obj r hr (by simp)) o
theorem SH.grow{H0 H:aa}{L:List aK}(hS:SH S H0 H L)(ty:TypeId)(cs:List Value):SH S H0 (H.new (rowOf ty cs)) ((H.next,ty,cs)::L):=by
 refine⟨hS.ext.later (Ext.new _ _) (fun r h=>nomatch h),?_,?_,?_,(Ext.new _ _).wf hS.wf⟩
 ·intro e he
  rcases List.mem_cons.1 he with rfl|he
  ·exact Bk.new H ty cs
  ·exact(hS.bk e he).fO (by rw[nZ,if_neg (by have:=(hS.lo e he).2;omega)])
 ·intro e he
  rcases List.mem_cons.1 he with rfl|he
  ·exact⟨.inr hS.ext.next,Nat.lt_succ_self _⟩
  ·exact⟨(hS.lo e he).1,Nat.lt_succ_of_lt (hS.lo e he).2⟩
 ·refine List.Pairwise.cons (fun e he=>?_) hS.ne
  have:=(hS.lo e he).2
  show H.next≠e.1
  omega
theorem SH.turn{H0 H H':aa}{A A' L:List aK}(hS:SH S H0 H (A++L))(hx:kS (A.map (·.1)) H H')(hb:∀e∈A',Bk H' e.1 e.2.1 e.2.2∧(e.1∈A.map (·.1)∨H.next≤e.1)∧e.1<H'.next)(hn:A'.Pairwise (fun a b=>a.1≠b.1)):SH S H0 H' (A'++L):=by
 have hp:=List.pairwise_append.1 hS.ne
 have hA:∀r∈A.map (·.1),∃e∈A,e.1=r:=fun r hr=>by simpa using hr
 have hnot:∀e∈L,e.1∉A.map (·.1):=fun e he h=>by
  obtain⟨a,ha,e1⟩:=hA _ h
  exact hp.2.2 a ha e he e1
 refine⟨?_,?_,?_,?_,hx.wf hS.wf⟩
 ·refine kS.later hS.ext hx (fun r hr=>?_)
  obtain⟨a,ha,rfl⟩:=hA r hr
  exact(hS.lo a (List.mem_append_left _ ha)).1
 ·intro e he
  rcases List.mem_append.1 he with he|he
  ·exact(hb e he).1
  ·exact(hS.bk e (List.mem_append_right _ he)).fO (hx.obj _ (hS.lo e (List.mem_append_right _ he)).2 (hnot e he))
 ·intro e he
  rcases List.mem_append.1 he with he|he
  ·refine⟨?_,(hb e he).2.2⟩
   rcases(hb e he).2.1 with h|h
   ·obtain⟨a,ha,e1⟩:=hA _ h
    rw[←e1];exact(hS.lo a (List.mem_append_left _ ha)).1
   ·have:=hS.ext.next;exact .inr (by omega)
  ·have:=hS.lo e (List.mem_append_right _ he)
   exact⟨this.1,Nat.lt_of_lt_of_le this.2 hx.next⟩
 ·refine List.pairwise_append.2 ⟨hn,hp.2.1,fun a ha e he=>?_⟩
  rcases(hb a ha).2.1 with h|h
  ·exact fun e1=>hnot e he (by rw[←e1];exact h)
  ·have:=(hS.lo e (List.mem_append_right _ he)).2;omega
theorem SH.call{H0 H H':aa}{L:List aK}(hS:SH S H0 H L)(hx:Ext H H'):SH S H0 H' L:=SH.turn (A:=[]) (A':=[]) hS hx (fun e h=>nomatch h) List.Pairwise.nil
theorem SH.drop{H0 H:aa}{A L:List aK}(hS:SH S H0 H (A++L)):SH S H0 H L:=SH.turn (A:=A) (A':=[]) hS (kS.refl _ _) (fun e h=>nomatch h) List.Pairwise.nil
theorem SH.perm{H0 H:aa}{L L':List aK}(hS:SH S H0 H L)(hp:L.Perm L'):SH S H0 H L':=
 ⟨hS.ext,fun e he=>hS.bk e (hp.mem_iff.2 he),fun e he=>hS.lo e (hp.mem_iff.2 he),hp.pairwise hS.ne (fun h=>h.symm),hS.wf⟩
theorem SH.base{H0 H:aa}{L:List aK}(hS:SH S H0 H L):SH (L.map (·.1)) H H L:=
 ⟨kS.refl _ _,hS.bk,fun e he=>⟨.inl (List.mem_map.2 ⟨e,he,rfl⟩),(hS.lo e he).2⟩,hS.ne,hS.wf⟩
theorem SH.over{H0 H H':aa}{L L':List aK}(hS:SH S H0 H L)(h:SH (L.map (·.1)) H H' L'):SH S H0 H' L':=by
 have hA:∀r∈L.map (·.1),∃e∈L,e.1=r:=fun r hr=>by simpa using hr
 refine⟨kS.later hS.ext h.ext (fun r hr=>?_),h.bk,fun e he=>⟨?_,(h.lo e he).2⟩,h.ne,h.wf⟩
 ·obtain⟨a,ha,rfl⟩:=hA r hr
  exact(hS.lo a ha).1
 ·rcases(h.lo e he).1 with h1|h1
  ·obtain⟨a,ha,e1⟩:=hA _ h1
   rw[←e1];exact(hS.lo a ha).1
  ·have:=hS.ext.next;exact .inr (by omega)
theorem SH.lt{H0 H:aa}{L:List aK}(hS:SH S H0 H L):∀r∈L.map (·.1),r<H.next:=fun r hr=>by
 obtain⟨e,he,rfl⟩:=List.mem_map.1 hr
 exact(hS.lo e he).2
theorem SH.weaken{S':List Nat}{H0 H:aa}{L:List aK}(hS:SH S H0 H L)(h:∀r∈S,r∈S'):SH S' H0 H L:=
 ⟨hS.ext.weaken h,hS.bk,fun e he=>⟨(hS.lo e he).1.imp_left (h _),(hS.lo e he).2⟩,hS.ne,hS.wf⟩
section steps
variable{H0 H:aa}{L:List aK}{K:Value→aa→Prop}
theorem SH.box(hS:SH S H0 H L){ty:TypeId}{x:Value}(hx:kr x=true)(k:∀H1 r,SH S H0 H1 ((r,ty,ay x)::L)→K (.pointer (some ⟨r,0,none⟩)) H1):ME (EF ty x H) K:=by
 unfold EF
 rw[hx]
 exact k _ _ (hS.grow ty (ay x))
theorem SH.cZ(hS:SH S H0 H L){ty:TypeId}{z:List Value}(k:∀H1 r,SH S H0 H1 ((r,ty,z)::L)→K (.pointer (some ⟨r,0,none⟩)) H1):ME (Go.Ae.cZ ty z H) K:=k _ _ (hS.grow ty z)
theorem ME.ld{r o:Nat}{v:Value}(h:H.cell r o=some v)(k:K v H):ME (jX none (.pointer (some ⟨r,o,none⟩)) H) K:=by
 show ME (ai (H.cell r o) fun v=>some (v,H)) K
 rw[h];exact k
theorem ME.vW{r o n:Nat}{vs:List Value}(h:H.read r o n=some vs)(k:K (.agg ⟨vs⟩) H):ME (jX (some n) (.pointer (some ⟨r,o,none⟩)) H) K:=by
 show ME (ai (H.read r o n) fun vs=>some (.agg ⟨vs⟩,H)) K
 rw[h];exact k
theorem SH.ld(hS:SH S H0 H L)(i:Nat){r o:Nat}{ty:TypeId}{cs:List Value}{v:Value}(hi:L[i]?=some (r,ty,cs))(hv:cs[o]?=some v)(k:K v H):ME (jX none (.pointer (some ⟨r,o,none⟩)) H) K:=ME.ld ((hS.get i hi).cell hv) k
theorem SH.vW(hS:SH S H0 H L)(i:Nat){r o n:Nat}{ty:TypeId}{cs:List Value}(hi:L[i]?=some (r,ty,cs))(hn:o +n≤cs.length)(k:K (.agg ⟨(cs.drop o).take n⟩) H):ME (jX (some n) (.pointer (some ⟨r,o,none⟩)) H) K:=ME.vW ((hS.get i hi).read hn) k
theorem SH.Dg(hS:SH [] H0 H L){r o:Nat}{v:Value}(h:H0.cell r o=some v)(hr:r<H0.next)(k:K v H):ME (jX none (.pointer (some ⟨r,o,none⟩)) H) K:=ME.ld ((hS.old hr).trans h) k
theorem SH.p_(hS:SH [] H0 H L){r o n:Nat}{vs:List Value}(h:H0.read r o n=some vs)(hr:r<H0.next)(k:K (.agg ⟨vs⟩) H):ME (jX (some n) (.pointer (some ⟨r,o,none⟩)) H) K:=ME.vW ((o7 (hS.ext.obj r hr (by simp)) o n).trans h) k
theorem BJ{α:Type}:∀{l:List α}{i:Nat}(h:i<l.length),(l[i]::l.eraseIdx i).Perm l:=by
 intro l
 induction l with
 |nil=>intro i h;cases h
 |cons x l ih=>
  intro i h
  cases i with
  |zero=>exact List.Perm.refl _
  |succ i=>exact(List.Perm.swap x _ _).trans ((ih (by simpa using h)).cons x)
theorem SH.qN(hS:SH S H0 H L)(i:Nat){r o:Nat}{ty:TypeId}{cs vs:List Value}(hi:L[i]?=some (r,ty,cs))(hn:o +vs.length≤cs.length)(hk:all' aU vs=true):
 ∃H1,H.write r o vs=some H1∧SH S H0 H1 (L.set i (r,ty,splice cs o vs))∧kS [r] H H1:=by
 have hil:i<L.length:=(List.getElem?_eq_some_iff.1 hi).1
 have hig:L[i]=(r,ty,cs):=(List.getElem?_eq_some_iff.1 hi).2
 obtain⟨H1,h1,h2,h3,h4,h5⟩:=(hS.get i hi).write hn hk
 have hx:kS [r] H H1:=⟨by omega,fun q _ hq=>h4 q (fun e=>hq (by simp[e])),fun b hl _ hb=>by
  have:=hb r (by simp)
  rcases h5 with h5|h5<;>omega,fun h=>by rcases h5 with h5|h5<;>omega⟩
 refine⟨H1,h1,?_,hx⟩
 have hp:L.Perm ((r,ty,cs)::L.eraseIdx i):=by rw[←hig];exact(BJ hil).symm
 have hS2:SH S H0 H ([(r,ty,cs)]++L.eraseIdx i):=hS.perm hp
 have k_:=SH.turn (A':=[(r,ty,splice cs o vs)]) hS2 hx (fun e he=>by
  rw[List.mem_singleton]at he
  subst he
  refine⟨h2,.inl (by simp),?_⟩
  have:=(hS.lo _ (List.mem_of_getElem? hi)).2
  show r<H1.next
  omega) (List.pairwise_singleton _ _)
 refine k_.perm ?_
 have:(L.set i (r,ty,splice cs o vs)).eraseIdx i=L.eraseIdx i:=by rw[List.eraseIdx_set_eq]
 have hl:i<(L.set i (r,ty,splice cs o vs)).length:=by simpa using hil
 have hg:(L.set i (r,ty,splice cs o vs))[i]=(r,ty,splice cs o vs):=by simp
 have hq:=BJ hl
 rw[hg,this]at hq
 exact hq
theorem SH.st(hS:SH S H0 H L)(i:Nat){r o n:Nat}{ty:TypeId}{cs:List Value}{v:Value}(hi:L[i]?=some (r,ty,cs))(hl:(ay v).length=n)(hn:o +n≤cs.length)(hk:all' aU (ay v)=true)
 (k:∀H1,SH S H0 H1 (L.set i (r,ty,splice cs o (ay v)))→K undef H1):ME (Aw n (.pointer (some ⟨r,o,none⟩)) v H) K:=by
 obtain⟨H1,h1,h2,_⟩:=hS.qN (vs:=ay v) (o:=o) i hi (by omega) hk
 show ME (gd (Nat.beq (len (ay v)) n) (ai (H.write r o (ay v)) fun H'=>some (undef,H'))) K
 rw[aO,hl,Nat.beq_refl,h1]
 exact k H1 h2
end steps
theorem aj{H:aa}(h:H.low≤H.next):hM H (hN H)=H:=by
 show aa.mk H.j6 H.next (av (Nat.ble H.low H.next) H.low H.next)=H
 rw[Nat.ble_eq_true_of_le h];rfl
theorem mP(H:aa):Wf (hN H):=Nat.le_refl _
theorem D8(a b:Nat):fH a b=min a b:=by
 show av (Nat.ble a b) a b=_
 cases h:Nat.ble a b with
 |true=>rw[fV,Nat.min_eq_left (Nat.le_of_ble_eq_true h)]
 |false=>
  have:¬a≤b:=fun g=>by rw[Nat.ble_eq_true_of_le g]at h;cases h
  rw[bX,Nat.min_eq_right (by omega)]
theorem kS.draw{S:List Nat}{H H':aa}(hx:kS S (hN H) H'):kS S H (hM H H'):=
 ⟨hx.next,hx.obj,fun b hl hn hb=>by show b≤fH H.low H'.low;rw[D8];have:=hx.low b hn hn hb;omega,fun h=>by show fH H.low H'.low≤H'.next;rw[D8];have:H.next≤H'.next:=hx.next;omega⟩
theorem SH.j4{H0 H H':aa}{L:List aK}(hS:SH S H0 H L)(hx:Ext (hN H) H'):SH S H0 (hM H H') L:=hS.call hx.draw
theorem SH.hN{H0 H:aa}{L:List aK}(hS:SH S H0 H L):(∀r o,(Go.Ae.hN H).cell r o=H.cell r o)∧(∀r o n,(Go.Ae.hN H).read r o n=H.read r o n):=⟨fun _ _=>rfl,fun _ _ _=>rfl⟩
theorem aA(n r o:Nat)(H:aa):W9 n (.pointer (some ⟨r,o,none⟩)) H (hN H)=⟨4,r,o,n,hh0,hh0⟩:=by
 show av (Nat.ble H.next H.next) _ _=_
 rw[Nat.ble_eq_true_of_le (Nat.le_refl _)];rfl
theorem az{H H':aa}(hx:Ext (hN H) H'):Df H H'=cl 1:=by
 show av (Nat.ble H.next H'.low) _ _=_
 rw[Nat.ble_eq_true_of_le (hx.low H.next (Nat.le_refl _) (Nat.le_refl _) (fun r h=>nomatch h))];rfl
theorem Ay{H H':aa}(hx:Ext (hN H) H'):Oo H H'=cl 5:=by
 show av (Nat.ble H.next H'.low) _ _=_
 rw[Nat.ble_eq_true_of_le (hx.low H.next (Nat.le_refl _) (Nat.le_refl _) (fun r h=>nomatch h))];rfl
theorem aB(r o:Nat)(v:Value)(H H':aa):clS (.pointer (some ⟨r,o,none⟩)) v H H'=⟨3,r,o,len (ay v),hh0,hh0⟩:=rfl
theorem zu{ops:Array Oper}{cls:List Cl}(h:noTwo cls=true):bO ops cls=true:=by
 unfold bO;rw[h];rfl
end Go.Ae
namespace Go.Ae
variable{S:List Nat}
abbrev vi(n:Int):Value:=.int .i64 n
abbrev vn(n:Nat):Value:=.int .i64 (n:Int)
theorem uI(a b:Int):C6 a b=decide (a<b):=by
 cases a with
 |ofNat m=>cases b with
  |ofNat n=>show Nat.ble (Nat.succ m) n=_;rw[Bool.eq_iff_iff,Nat.ble_eq];simp;omega
  |negSucc n=>show false=_;symm;simp;omega
 |negSucc m=>cases b with
  |ofNat n=>show true=_;symm;simp;omega
  |negSucc n=>show Nat.ble (Nat.succ n) m=_;rw[Bool.eq_iff_iff,Nat.ble_eq];simp;omega
theorem Fu(a b:Int):Gu a b=decide (a=b):=by
 cases a with
 |ofNat m=>cases b with
  |ofNat n=>show Nat.beq m n=_;rw[Bool.eq_iff_iff,Nat.beq_eq];simp;omega
  |negSucc n=>show false=_;symm;simp
 |negSucc m=>cases b with
  |ofNat n=>show false=_;symm;simp
  |negSucc n=>show Nat.beq m n=_;rw[Bool.eq_iff_iff,Nat.beq_eq];simp
theorem nL{n:Int}(h1:-9223372036854775808≤n)(h2:n≤9223372036854775807):fQ .i64 n=n:=by
 cases n with
 |ofNat m=>
  show av (uV .i64&&Nat.ble m 9223372036854775807) (Int.ofNat m) _=_
  rw[show(uV .i64&&Nat.ble m 9223372036854775807)=true from by
   rw[show uV .i64=true from rfl,Bool.true_and];exact Nat.ble_eq_true_of_le (by have:(m:Int)≤9223372036854775807:=h2;omega)];rfl
 |negSucc m=>
  show av (uV .i64&&Nat.ble m 9223372036854775807) (Int.negSucc m) _=_
  rw[show(uV .i64&&Nat.ble m 9223372036854775807)=true from by
   rw[show uV .i64=true from rfl,Bool.true_and];exact Nat.ble_eq_true_of_le (by omega)];rfl
section bin
variable{P:Program}{t:TypeId}{ox oy:Operand}{a b:Int}{k:IntKind}
theorem qO:Nat.beq (ig k) (ig k)=true:=Nat.beq_refl _
theorem bY{op:BinOp}{v:Value}(hs:Al op=false)(h:Np op k a b=some v):eG P op t ox oy (.int k a) (.int k b)=some v:=by
 show av (Al op) (PW op t (.int k a) (.int k b)) (gd (Nat.beq (ig k) (ig k)) (Np op k a b))=_
 rw[hs,qO];exact h
theorem xB:eG P .lss t ox oy (.int k a) (.int k b)=some (.bool (decide (a<b))):=bY rfl (by show some (Value.bool (C6 a b))=_;rw[uI])
theorem HY:eG P .gtr t ox oy (.int k a) (.int k b)=some (.bool (decide (b<a))):=bY rfl (by show some (Value.bool (C6 b a))=_;rw[uI])
theorem xC:eG P .leq t ox oy (.int k a) (.int k b)=some (.bool (decide (a≤b))):=bY rfl (by
 show some (Value.bool (!(C6 b a)))=_
 rw[uI,←decide_not];simp[Int.not_lt])
theorem iU:eG P .geq t ox oy (.int k a) (.int k b)=some (.bool (decide (b≤a))):=bY rfl (by
 show some (Value.bool (!(C6 a b)))=_
 rw[uI,←decide_not];simp[Int.not_lt])
theorem HZ:eG P .eql t ox oy (.int k a) (.int k b)=some (.bool (decide (a=b))):=bY rfl (by show some (Value.bool (Gu a b))=_;rw[Fu])
theorem H_:eG P .neq t ox oy (.int k a) (.int k b)=some (.bool (!decide (a=b))):=bY rfl (by show some (Value.bool (!(Gu a b)))=_;rw[Fu])
theorem au(h1:-9223372036854775808≤a +b)(h2:a +b≤9223372036854775807):eG P .add t ox oy (vi a) (vi b)=some (vi (a +b)):=bY rfl (by show some (Value.int .i64 (fQ .i64 (a +b)))=_;rw[nL h1 h2])
theorem ax(h1:-9223372036854775808≤a -b)(h2:a -b≤9223372036854775807):eG P .sub t ox oy (vi a) (vi b)=some (vi (a -b)):=bY rfl (by show some (Value.int .i64 (fQ .i64 (a -b)))=_;rw[nL h1 h2])
theorem my(h1:-9223372036854775808≤a*b)(h2:a*b≤9223372036854775807):eG P .mul t ox oy (vi a) (vi b)=some (vi (a*b)):=bY rfl (by show some (Value.int .i64 (fQ .i64 (a*b)))=_;rw[nL h1 h2])
end bin
theorem Ia(b:Bool):bP (Op.unary .not (.bool b))=some (.bool !b):=rfl
theorem min2(k:IntKind)(a b:Int):PX false [.int k a,.int k b]=some (.int k (min a b)):=by
 show ai (gd (Nat.beq (ig k) (ig k)) (some (av (C6 b a) (Value.int k b) (Value.int k a)))) some=_
 rw[qO,uq,AP,uI]
 by_cases h:b<a
 ·rw[decide_eq_true h,fV,Int.min_eq_right (by omega)]
 ·rw[decide_eq_false h,bX,Int.min_eq_left (by omega)]
theorem max2(k:IntKind)(a b:Int):PX true [.int k a,.int k b]=some (.int k (max a b)):=by
 show ai (gd (Nat.beq (ig k) (ig k)) (some (av (C6 a b) (Value.int k b) (Value.int k a)))) some=_
 rw[qO,uq,AP,uI]
 by_cases h:a<b
 ·rw[decide_eq_true h,fV,Int.max_eq_right (by omega)]
 ·rw[decide_eq_false h,bX,Int.max_eq_left (by omega)]
theorem BK(b:Bool):bK (.bool b)=some b:=rfl
theorem Mi(off r o:Nat):fld off (.pointer (some ⟨r,o,none⟩))=some (.pointer (some ⟨r,o +off,none⟩)):=rfl
theorem dJ(a:Addr):EC (.pointer (some a))=some (.pointer (some a)):=rfl
theorem Mj(a:Option Addr)(n c:Nat):aaG (.slice a n c)=some (vn n):=rfl
theorem Ib(s:ByteArray):aaH (.string s)=some (vn s.size):=by
 show some (Value.int .i64 (Int.ofNat (len s.data.toList)))=_
 rw[aO];rfl
theorem n_{es r o n c k:Nat}(h:k<n):q_ es (.slice (some ⟨r,o,none⟩) n c) (vn k)=some (.pointer (some ⟨r,o +k*es,none⟩)):=by
 show gd (Nat.ble (Nat.succ k) n) (some (Value.pointer (some ⟨r,Nat.add o (Nat.mul k es),none⟩)))=_
 rw[Nat.ble_eq_true_of_le h];rfl
theorem jB{s:ByteArray}{k:Nat}(h:k<s.size):YS (.string s) (vn k)=some (.int .u8 ((s.data.toList[k]'(by simpa using h)).toNat:Int)):=by
 show(ai (nth s.data.toList k) fun b=>some (Value.int .u8 (.ofNat b.toNat)))=_
 rw[fC,List.getElem?_eq_getElem (by simpa using h)];rfl
def Fl(H:aa)(a:Option Addr)(n es:Nat)(cs:List Value):Prop:=
 cs.length=n*es∧∀(i:Nat)(x:Value),cs[i]?=some x→∃r o,a=some ⟨r,o,none⟩∧r<H.next∧H.cell r (o +i)=some x
theorem Fl.ext{S:List Nat}{H H':aa}{a:Option Addr}{n es:Nat}{cs:List Value}(h:Fl H a n es cs)(hx:kS S H H')(hS:∀r o,a=some ⟨r,o,none⟩→r∉S):Fl H' a n es cs:=
 ⟨h.1,fun i x hi=>by
   obtain⟨r,o,h1,h2,h3⟩:=h.2 i x hi
   exact⟨r,o,h1,Nat.lt_of_lt_of_le h2 hx.next,(jq (hx.obj r h2 (hS r o h1)) _).trans h3⟩⟩
theorem Fl.ex{H H':aa}{a:Option Addr}{n es:Nat}{cs:List Value}(h:Fl H a n es cs)(hx:Ext H H'):Fl H' a n es cs:=h.ext hx (fun r o _ h=>nomatch h)
theorem Fl.nil(H:aa)(a:Option Addr)(es:Nat):Fl H a 0 es []:=⟨by simp,fun i x h=>by simp at h⟩
theorem Fl.idx{H:aa}{a:Option Addr}{n es c:Nat}{cs:List Value}(h:Fl H a n es cs)(he:0<es){k:Nat}(hk:k<n):
 ∃r o,q_ es (.slice a n c) (vn k)=some (.pointer (some ⟨r,o,none⟩))∧r<H.next∧(∀f x,f<es→cs[k*es +f]?=some x→H.cell r (o +f)=some x)∧(∃o0,a=some ⟨r,o0,none⟩∧o=o0 +k*es):=by
 have hl:k*es<cs.length:=by rw[h.1];exact Nat.mul_lt_mul_of_pos_right hk he
 obtain⟨r,o,rfl,h2,h3⟩:=h.2 (k*es) _ (List.getElem?_eq_getElem hl)
 refine⟨r,o +k*es,n_ hk,h2,fun f x hf hx=>?_,o,rfl,rfl⟩
 obtain⟨r',o',h4,_,h5⟩:=h.2 _ _ hx
 cases h4
 rw[Nat.add_assoc];exact h5
theorem Bk.fl{H:aa}{r:Nat}{ty:TypeId}{cs:List Value}(h:Bk H r ty cs)(hr:r<H.next){n es:Nat}(hn:cs.length=n*es):Fl H (some ⟨r,0,none⟩) n es cs:=
 ⟨hn,fun i x hi=>⟨r,0,rfl,hr,by rw[Nat.zero_add];exact h.cell hi⟩⟩
abbrev bH(l:List Nat):List Value:=l.map vn
abbrev bools(l:List Bool):List Value:=l.map Value.bool
theorem kJ{α:Type}(f:α→Value){l:List α}{i:Nat}{x:α}(h:l[i]?=some x):(l.map f)[i]?=some (f x):=by rw[List.getElem?_map,h];rfl
theorem D9(z:List Value)(n:Nat):(gM z n).length=n*z.length:=by
 induction n with
 |zero=>show([]:List Value).length=_;simp
 |succ n ih=>show(app z (gM z n)).length=_;rw[iY,List.length_append,ih,Nat.succ_mul];omega
theorem gP(x:Value)(n:Nat):gM [x] n=List.replicate n x:=by
 induction n with
 |zero=>rfl
 |succ n ih=>show app [x] (gM [x] n)=_;rw[iY,ih];rfl
theorem SH.mkS{H0 H:aa}{L:List aK}{K:Value→aa→Prop}(hS:SH S H0 H L){e:TypeId}{z:List Value}{n m:Nat}(hn:n≤m)(hm:m≤16777216)
 (k:∀H1 r,SH S H0 H1 ((r,e,gM z m)::L)→K (.slice (some ⟨r,0,none⟩) n m) H1):ME (Go.Ae.mkS e z (vn n) (vn m) H) K:=by
 show ME (gd (Nat.ble n m&&Nat.ble m 16777216&&true) (some (Value.slice (some ⟨H.next,0,none⟩) n m,H.new (rowOf e (gM z m))))) K
 rw[Nat.ble_eq_true_of_le hn,Nat.ble_eq_true_of_le hm]
 exact k _ _ (hS.grow e _)
theorem SH.sub{H0 H:aa}{L L':List aK}(hS:SH S H0 H L)(h:L'.Sublist L):SH S H0 H L':=
 ⟨hS.ext,fun e he=>hS.bk e (h.mem he),fun e he=>hS.lo e (h.mem he),hS.ne.sublist h,hS.wf⟩
theorem SH.take{H0 H:aa}{L:List aK}(hS:SH S H0 H L)(n:Nat):SH S H0 H (L.take n):=hS.sub (List.take_sublist n L)
theorem SH.cast{H0 H:aa}{L L':List aK}(hS:SH S H0 H L)(h:L=L'):SH S H0 H L':=h▸hS
theorem SH.to{H0 H:aa}{L:List aK}{r:Nat}{ty:TypeId}{cs cs':List Value}(hS:SH S H0 H ((r,ty,cs)::L))(h:cs=cs'):SH S H0 H ((r,ty,cs')::L):=h▸hS
theorem g_{α:Type}(f:α→Value){l:List α}{k:Nat}(hk:k<l.length)(x:α):splice (l.map f) k [f x]=(l.set k x).map f:=by
 apply List.ext_getElem?
 intro i
 rw[gZ (by simp;omega),List.getElem?_map,List.getElem?_map,List.getElem?_set]
 by_cases h:k=i
 ·subst h
  rw[if_pos ⟨Nat.le_refl _,by simp⟩,if_pos rfl,if_pos hk,Nat.sub_self];rfl
 ·rw[if_neg (by simp;omega),if_neg h]
end Go.Ae
namespace Go.Ae
variable{S:List Nat}
noncomputable def bS(e:TypeId)(z:List Value)(es n:Nat)(ps:List (Nat×Value))(H:aa):Option (Value×aa):=
 gd (Nat.ble (Nat.mul n es) 16777216) (ai (uZ (fun k=>some (Nat.mul k es,es)) ps (gM z n)) fun cs=>some (.slice (some ⟨H.next,0,none⟩) n n,H.new (rowOf e cs)))
noncomputable def bld(pl:List (Nat×Nat))(z:List Value)(ps:List (Nat×Value)):Option Value:=ai (uZ (nth pl) ps z) fun cs=>some (.agg ⟨cs⟩)
theorem PU.of{o:Option Value}{v:Value}{K:Value→Prop}(h:o=some v)(k:K v):PU o K:=by rw[h];exact k
theorem ME.of{o:Option (Value×aa)}{v:Value}{H:aa}{K:Value→aa→Prop}(h:o=some (v,H))(k:K v H):ME o K:=by rw[h];exact k
theorem Rq:∀(vs:List Value)(k:Nat)(cs:List Value),k +vs.length≤cs.length→yt vs k cs=splice cs k vs:=by
 intro vs
 induction vs with
 |nil=>
  intro k cs h
  show cs=_
  unfold splice;simp
 |cons v vs ih=>
  intro k cs h
  have hset:∀(k:Nat)(cs:List Value),setAt v k cs=cs.set k v:=by
   intro k
   induction k with
   |zero=>intro cs;cases cs<;>rfl
   |succ k ihk=>intro cs;cases cs with
    |nil=>rfl
    |cons c cs=>exact congrArg (c::·) (ihk cs)
  show yt vs (Nat.succ k) (setAt v k cs)=_
  simp only[List.length_cons]at h
  rw[hset,ih (k +1) _ (by simp;omega)]
  apply List.ext_getElem?
  intro i
  rw[gZ (by simp;omega),gZ (by simp;omega),List.getElem?_set]
  by_cases h1:i=k
  ·subst h1
   rw[if_neg (by omega),if_pos rfl,if_pos (by omega),if_pos ⟨Nat.le_refl _,by simp⟩]
   simp
  ·by_cases h2:k +1≤i∧i<k +1 +vs.length
   ·rw[if_pos h2,if_pos (by simp;omega),show i -k=(i -(k +1)) +1 by omega];simp
   ·rw[if_neg h2,if_neg (fun e=>h1 e.symm),if_neg (by simp only[List.length_cons];omega)]
theorem ni(cs vs:List Value)(h:cs.length=vs.length):splice cs 0 vs=vs:=by
 unfold splice
 rw[List.drop_of_length_le (by omega)];simp
theorem Rt{e:TypeId}{z:List Value}{es:Nat}{v:Value}{H:aa}(hz:z.length=es)(hv:kr v=true)(hc:(ay v).length=es)(he:es≤16777216):
 bS e z es 1 [(0,v)] H=some (.slice (some ⟨H.next,0,none⟩) 1 1,H.new (rowOf e (ay v))):=by
 have hr:gM z 1=z:=by show app z []=z;rw[iY,List.append_nil]
 unfold bS
 rw[Nat.ble_eq_true_of_le (by show 1*es≤_;omega),hr]
 show(ai (gd (kr v&&Nat.beq (len (ay v)) es&&Nat.ble (Nat.add (Nat.mul 0 es) es) (len z)) (some (yt (ay v) (Nat.mul 0 es) z))) fun cs=>some (Value.slice (some ⟨H.next,0,none⟩) 1 1,H.new (rowOf e cs)))=_
 have e0:Nat.mul 0 es=0:=Nat.zero_mul es
 rw[hv,aO,hc,Nat.beq_refl,aO,hz,e0]
 rw[show Nat.ble (Nat.add 0 es) es=true from Nat.ble_eq_true_of_le (by show 0 +es≤es;omega),Rq _ _ _ (by omega),ni _ _ (by omega)]
 rfl
theorem sW{H:aa}{r es k c:Nat}{ty:TypeId}{xs:List Value}(h:Bk H r ty xs)(hk:xs.length=k*es):appended H es (.slice (some ⟨r,0,none⟩) k c)=some (k,xs):=by
 show(ai (H.read r 0 (Nat.mul k es)) fun l=>some (k,l))=_
 have:H.read r 0 (Nat.mul k es)=some xs:=by
  rw[h.read (by show 0 +k*es≤_;omega)]
  simp only[List.drop_zero]
  rw[List.take_of_length_le (by show xs.length≤k*es;omega)]
 rw[this];rfl
theorem Fv{H:aa}{e:TypeId}{es k:Nat}{x:Value}{xs:List Value}(ha:appended H es x=some (k +1,xs))(hk:k +1≤16777216):
 xz e es (.slice none 0 0) x H=some (.slice (some ⟨H.next,0,none⟩) (k +1) (aT es),H.new (rowOf e xs)):=by
 unfold xz
 show(ai (appended H es x) fun r=>gd (Nat.ble r.1 16777216) (Ls (e,es) (.slice none 0 0) (none,0,0) r.1 r.2 H))=_
 rw[ha]
 show gd (Nat.ble (k +1) 16777216) _=_
 rw[Nat.ble_eq_true_of_le hk];rfl
theorem uJ(es:Nat):aY (aT es)=false:=by
 show Nat.ble (18446744073709551616 +es) 9223372036854775807=false
 rw[←Bool.not_eq_true];intro h;have:=Nat.le_of_ble_eq_true h;omega
theorem Ml{H:aa}{e:TypeId}{es k n r:Nat}{x:Value}{cs aQ xs:List Value}(he:0<es)(hb:Bk H r e (cs++aQ))(hr:r<H.next)(hn:cs.length=n*es)(ha:appended H es x=some (k +1,xs))(hx:xs.length=(k +1)*es)(hok:all' aU xs=true)(hk:k +1≤16777216)(hnn:n≤16777216):
 ∃r' H' BL,xz e es (.slice (some ⟨r,0,none⟩) n (aT es)) x H=some (.slice (some ⟨r',0,none⟩) (n +(k +1)) (aT es),H')∧Bk H' r' e (cs++xs++BL)∧(r'=r∨r'=H.next)∧r'<H'.next∧kS [r] H H'∧(H'.low≤r):=by
 have hap:xz e es (.slice (some ⟨r,0,none⟩) n (aT es)) x H=jl (e,es) ⟨r,0,none⟩ n (aT es) (k +1) xs H:=by
  unfold xz
  show(ai (appended H es x) fun q=>gd (Nat.ble q.1 16777216) (Ls (e,es) (.slice (some ⟨r,0,none⟩) n (aT es)) (some ⟨r,0,none⟩,n,aT es) q.1 q.2 H))=_
  rw[ha]
  show gd (Nat.ble (k +1) 16777216) (gd (Nat.ble n 16777216) (av (aY (aT es)) _ (gd (Nat.beq (aT es) (aT es)) (jl (e,es) ⟨r,0,none⟩ n (aT es) (k +1) xs H))))=_
  rw[Nat.ble_eq_true_of_le hk,Nat.ble_eq_true_of_le hnn,uJ,Nat.beq_refl];rfl
 rw[hap]
 obtain⟨R,h1,h2,h3,h4,h5,h6⟩:=id hb
 have hmul:(n +(k +1))*es=n*es +(k +1)*es:=Nat.add_mul ..
 have hlen:(cs++aQ).length=n*es +aQ.length:=by rw[List.length_append,hn]
 have hun:jl (e,es) ⟨r,0,none⟩ n (aT es) (k +1) xs H=av (Nat.ble (Nat.add 0 (Nat.mul (Nat.add n (k +1)) es)) R.n)
  (ai (H.write r (Nat.add 0 (Nat.mul n es)) xs) fun H'=>some (Value.slice (some ⟨r,0,none⟩) (Nat.add n (k +1)) (aT es),H'))
  (gd (Nat.ble (Nat.add 0 (Nat.mul n es)) R.n&&Nat.ble R.fz (Nat.add 0 (Nat.mul n es))&&all' aU xs)
   (some (Value.slice (some ⟨H.next,0,none⟩) (Nat.add n (k +1)) (aT es),
    (H.put r .dead).new (.row ⟨R.ty,Tr.jE top xs (Nat.add 0 (Nat.mul n es)) R.cells,Nat.add 0 (Nat.mul (Nat.add n (k +1)) es),false,R.fz⟩)))):=by
  unfold jl
  show(ai (ko (H.obj r)) _)=_
  rw[h1]
  show gd (Nat.beq R.ty e&&!R.dB) _=_
  rw[h2,Nat.beq_refl,h4];rfl
 rw[hun]
 have e1:Nat.add 0 (Nat.mul n es)=n*es:=Nat.zero_add _
 have e2:Nat.add 0 (Nat.mul (Nat.add n (k +1)) es)=n*es +(k +1)*es:=(Nat.zero_add _).trans hmul
 rw[e1,e2,h3,hlen]
 by_cases hc:n*es +(k +1)*es≤n*es +aQ.length
 ·rw[Nat.ble_eq_true_of_le hc,fV]
  obtain⟨H1,w1,w2,w3,w4,w5⟩:=hb.write (o:=n*es) (vs:=xs) (by rw[hlen];omega) hok
  rw[w1]
  have hlow:H1.low≤r:=by
   rcases w5 with w5|w5
   ·omega
   ·
    cases xs with
    |nil=>
     have h0:0<(k +1)*es:=Nat.mul_pos (by omega) he
     rw[←hx]at h0;cases h0
    |cons v vs'=>
     have:H.write r (n*es) (v::vs')=some (H.put r (.row ⟨R.ty,Tr.jE top (v::vs') (n*es) R.cells,R.n,false,R.fz⟩)):=by
      show(ai (ko (H.obj r)) fun w=>gd (!w.dB&&Nat.ble (Nat.add (n*es) (len (v::vs'))) w.n&&Nat.ble w.fz (n*es)&&all' aU (v::vs')) (some (H.put r (.row ⟨w.ty,Tr.jE top (v::vs') (n*es) w.cells,w.n,false,w.fz⟩))))=_
      rw[h1]
      show gd (!R.dB&&Nat.ble (Nat.add (n*es) (len (v::vs'))) R.n&&Nat.ble R.fz (n*es)&&all' aU (v::vs')) _=_
      rw[hok,h4,h3,h5,aO,Nat.ble_eq_true_of_le (by show n*es +(v::vs').length≤_;rw[hlen];omega),Nat.ble_eq_true_of_le (Nat.zero_le _)];rfl
     rw[this]at w1
     cases w1
     rw[kI];omega
  refine⟨r,H1,aQ.drop xs.length,rfl,?_,.inl rfl,by omega,⟨by omega,fun q _ hq=>w4 q (fun e=>hq (by simp[e])),fun b hl _ hb=>by
   have:=hb r (by simp)
   rcases w5 with w5|w5<;>omega,fun h=>by rcases w5 with w5|w5<;>omega⟩,hlow⟩
  have:splice (cs++aQ) (n*es) xs=cs++xs++aQ.drop xs.length:=by
   unfold splice
   rw[←hn,List.take_left,List.drop_append,List.drop_of_length_le (by omega),List.nil_append,Nat.add_sub_cancel_left]
  rw[←this];exact w2
 ·have hb':Nat.ble (n*es +(k +1)*es) (n*es +aQ.length)=false:=by
   rw[←Bool.not_eq_true];intro h;exact hc (Nat.le_of_ble_eq_true h)
  rw[hb',bX,Nat.ble_eq_true_of_le (by omega:n*es≤n*es +aQ.length),h5,Nat.ble_eq_true_of_le (Nat.zero_le _),hok]
  refine⟨H.next,_,[],rfl,?_,.inr rfl,Nat.lt_succ_self _,⟨Nat.le_succ _,fun q hq hn'=>?_,fun b hl hn' hb=>?_,fun h=>?_⟩,?_⟩
  ·refine⟨⟨R.ty,Tr.jE top xs (n*es) R.cells,n*es +(k +1)*es,false,R.fz⟩,by rw[nZ,if_pos (show H.next=(H.put r dn.dead).next from rfl),h5],h2,by simp;omega,rfl,h5,fun i hi=>?_⟩
   show(Tr.jE top xs (n*es) R.cells).get top i=_
   rw[Tr.dY]
   have hi':i<n*es +(k +1)*es:=by simp at hi;omega
   by_cases hc':n*es≤i∧i<n*es +xs.length
   ·rw[if_pos hc',List.getD_eq_getElem?_getD,List.getElem?_eq_getElem (by omega)]
    simp only[List.append_nil,Option.getD_some]
    rw[List.getElem_append_right (by omega)]
    congr 1;omega
   ·rw[if_neg hc']
    have hin:i<n*es:=by omega
    rw[h6 i (by rw[hlen];omega)]
    simp only[List.append_nil]
    rw[List.getElem_append_left (by omega),List.getElem_append_left (by omega)]
  ·rw[nZ,if_neg (by show q≠H.next;omega),p9,if_neg (fun e=>hn' (by simp[e]))]
  ·show b≤(H.put r dn.dead).low
   rw[kI];have:=hb r (by simp);omega
  ·show(H.put r dn.dead).low≤H.next +1
   rw[kI];omega
  ·show(H.put r dn.dead).low≤r
   rw[kI];omega
section steps
variable{H0 H:aa}{L:List aK}{K:Value→aa→Prop}
theorem SH.Ic(hS:SH S H0 H L)(ty:TypeId)(cs:List Value):SH S H0 (hM H ((Go.Ae.hN H).new (rowOf ty cs))) ((H.next,ty,cs)::L):=by
 have hx:Ext (Go.Ae.hN H) ((Go.Ae.hN H).new (rowOf ty cs)):=Ext.new _ _
 refine SH.turn (A:=[]) (A':=[(H.next,ty,cs)]) hS hx.draw (fun e he=>?_) (List.pairwise_singleton _ _)
 rw[List.mem_singleton]at he
 subst he
 exact⟨Bk.new (Go.Ae.hN H) ty cs,.inr (Nat.le_refl _),Nat.lt_succ_self _⟩
theorem SH.Vw(hS:SH S H0 H L){e:TypeId}{z:List Value}{es:Nat}{v:Value}(hz:z.length=es)(hv:kr v=true)(hc:(ay v).length=es)(he:es≤16777216)
 (k:∀H1 r,SH S H0 (hM H H1) ((r,e,ay v)::L)→Oo H H1=cl 5→K (.slice (some ⟨r,0,none⟩) 1 1) H1):ME (bS e z es 1 [(0,v)] (Go.Ae.hN H)) K:=by
 rw[Rt hz hv hc he]
 exact k _ _ (hS.Ic e _) (Ay (Ext.new _ _))
theorem SH.bS(hS:SH S H0 H L){e:TypeId}{z:List Value}{es:Nat}{v:Value}(hz:z.length=es)(hv:kr v=true)(hc:(ay v).length=es)(he:es≤16777216)
 (k:∀H1 r,SH S H0 H1 ((r,e,ay v)::L)→K (.slice (some ⟨r,0,none⟩) 1 1) H1):ME (Go.Ae.bS e z es 1 [(0,v)] H) K:=by
 rw[Rt hz hv hc he]
 exact k _ _ (hS.grow e _)
end steps
end Go.Ae
