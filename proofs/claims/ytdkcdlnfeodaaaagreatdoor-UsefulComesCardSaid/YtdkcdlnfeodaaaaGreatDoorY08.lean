/-
  Part 8 of the proof. No condition.
-/
import Derived.Test.YtdkcdlnfeodaaaaGreatDoorY07
set_option linter.unusedVariables false
set_option linter.unusedSimpArgs false
set_option maxRecDepth 100000
set_option maxHeartbeats 4000000
namespace Go.Proofs.Lu
open Go.Ae Go.Ae.M
variable{H0 H:aa}{L M:List aK}{S:List Nat}{F:Nat→Prop}
theorem _root_.Go.Ae.SH.acV{S:List Nat}{H0 H:aa}{L:List aK}{ty:TypeId}{z:List Value}{K:Value→aa→Prop}(hS:SH S H0 H L)
 (k:∀H2 r,SH S H0 H2 ((r,ty,z)::L)→Ext H H2→K (.pointer (some ⟨r,0,none⟩)) H2):ME (Go.Ae.cZ ty z H) K:=by
 have hO:=SH.refl hS.wf
 refine hO.cZ fun H1 r hO=>?_
 exact k H1 r (SH.frame (M:=[]) (L:=L) hS hO) hO.ext
theorem rG(P M L:List aK):(P++(M++L)).Perm (M++(P++L)):=by
 rw[←List.append_assoc,←List.append_assoc];exact List.Perm.append_right _ List.perm_append_comm
abbrev RC.up(q:RC)(b:Bool):RC:={q with nu:=if b then q.nu +1 else q.nu}
def zT(F:Nat→Prop)(q:RC)(k:Nat)(S:List Nat)(H0:aa)(L:List aK)(v:Value)(H':aa):Prop:=∃(b:Bool)(k':Nat)(M':List aK),v=.bool b∧Rd F (q.up b) k' H' M'∧SH S H0 H' (M'++L)∧k≤k'∧(b=true→k<k'∧q.nu<120)
theorem zT.no{q:RC}{k k':Nat}{M':List aK}{ru:Nat}{l:List Value}(hk:k≤k')(hR:Rd F q k' H M')(hS:SH S H0 H ((ru,141,l)::(M'++L))):zT F q k S H0 L (.bool false) H:=
 ⟨false,k',M',rfl,hR,SH.drop (A:=[_]) hS,hk,fun h=>by cases h⟩
theorem Tw{q:RC}{k k0 ru:Nat}{nm:ByteArray}{u f w:Bool}{ch root at':Int}(hnm:nm.size≤1000000)(hk:k0<k)(hnu:q.nu<120)(hR:Rd F q k H M)(hS:SH S H0 H ((ru,141,kT nm u f w ch root at')::(M++L)))(x4 x5 x6 x7:Value)(rg):
 aR Pg X (sub dH [1,1,1,1,1,1,1,1,1,1,1,1,1,1]) (fG (pr q.rr) (.bool false) (pr ru) x4 x5 x6 x7 rg H) (cB Pg [.tmp 2] (zT F q k0 S H0 L)):=by
 have hty:=hR.ty (SH.drop (A:=[_]) hS)
 have IZ:¬qy H ru 3∧¬qy H ru 269∧¬qy H ru 128:=by
  have h:=(hS.bk _ (List.mem_cons_self ..)).Py
  exact⟨fun ht=>(by have:=h.one ht;cases this),fun ht=>(by have:=h.one ht;cases this),fun ht=>(by have:=h.one ht;cases this)⟩
 have hR0:=hR
 have hS0:=hS
 obtain⟨rv,rcs,gr,nv,bW,gn,sc,sa,nr,nn,rfl,h1,h2,h3,h4,h5,h6,h7,h8,h9,h10,rU⟩:=hR
 obtain⟨na',nc,cc,rfl,hnl,_⟩:∃a n c,rv=.slice a n c∧rcs.length=n*7∧True:=by
  rcases h3 with⟨rfl,rfl,_⟩|⟨r,n,aQ,rfl,hn,_⟩
  ·exact⟨_,_,_,rfl,by simp,trivial⟩
  ·exact⟨_,_,_,rfl,hn,trivial⟩
 have hnn:nc=nr:=by omega
 subst hnn
 subst h5
 have hS:=SH.own (M:=(ru,141,kT nm u f w ch root at')::(q.rt,122,[.slice q.a q.n q.c])::(q.ra,3,[vn k])::(q.rp,129,[gB q.rt q.ra])::(q.rr,133,[gB q.rt q.ra,mR q.rp q.ra q.rt,.slice na' q.nu cc,nv,vi sc,vi sa])::(gr++gn)) (L:=L) hS0
 refine tl ?_
 repeat(first|(simp only[PP,Nat.reduceBEq,aj hS.wf])|(refine hS.jf ?_)|(refine hS.og ?_))
 refine hS.Vw rfl rfl rfl (by omega) fun H2 rx hS jC=>?_
 have hS:=hS.to (cs':=kT nm u f w ch root at') rfl
 have hS:=hS.perm (L':=(rx,141,kT nm u f w ch root at')::(gr++((ru,141,kT nm u f w ch root at')::(q.rt,122,[.slice q.a q.n q.c])::(q.ra,3,[vn k])::(q.rp,129,[gB q.rt q.ra])::(q.rr,133,[gB q.rt q.ra,mR q.rp q.ra q.rt,.slice na' q.nu cc,nv,vi sc,vi sa])::gn))) (List.Perm.cons _ (rG [_,_,_,_,_] gr gn))
 refine h3.Ie hS (by omega) rfl rfl (by omega) fun v' H3 Z9 hg' hS hx' Jl nE=>?_
 have hS:=hS.perm (rG Z9 [_,_,_,_,_] gn)
 simp only[List.cons_append,List.nil_append]at hS
 obtain⟨va,VS,vc,rfl,hvl,_⟩:∃a n c,v'=.slice a n c∧(rcs++kT nm u f w ch root at').length=n*7∧True:=by
  rcases hg' with⟨_,h,_⟩|⟨r,n,aQ,rfl,hn,_⟩
  ·exact absurd h (by simp)
  ·exact⟨_,_,_,rfl,hn,trivial⟩
 have hvn:VS=q.nu +1:=by rw[List.length_append,h4]at hvl;simp at hvl;omega
 subst hvn
 refine hS.qh fun Hn hS=>?_
 have hne:q.rr≠ru:=(hS.nq 0 4 rfl rfl (by omega)).symm
 refine(show∀K:Prop,K→_∧K from fun K hK=>?_) _ ?_
 ·simp only[jC,aA,aB]
  generalize q.rr=rr at hne
  rcases nE with e|e<;>rw[e]<;>apply oh (a:=rr) (b:=ru) hne (by intros;rfl) (by kernel_rfl) (by kernel_rfl) hK
 have hx:=hS.ext
 have hE:=yS (es:=7) (n:=q.nu) h4 (xs:=kT nm u f w ch root at') rfl
 refine rr ?_;refine⟨true,k,(q.rt,122,[.slice q.a q.n q.c])::(q.ra,3,[vn k])::(q.rp,129,[gB q.rt q.ra])::(q.rr,133,[gB q.rt q.ra,mR q.rp q.ra q.rt,.slice va (q.nu +1) vc,nv,vi sc,vi sa])::(Z9++gn),rfl,?_,?_,by omega,fun _=>⟨hk,hnu⟩⟩
 ·refine⟨.slice va (q.nu +1) vc,rcs++kT nm u f w ch root at',Z9,nv,bW,gn,sc,sa,q.nu +1,nn,rfl,h1,?_,hg',hvl,rfl,fun i hi=>?_,h7,h8,h9,fun i hi=>?_,rU⟩
  ·refine h2.st hx (fun r hr=>.inr ?_) (Nat.le_refl _)
   rcases List.mem_cons.1 hr with rfl|hr
   ·exact IZ.2
   ·exact(hty r hr).2
  ·rcases Nat.lt_or_ge i q.nu with h|h
   ·rw[hE.1 i h]
    exact h6 i h
   ·obtain rfl:i=q.nu:=by omega
    rw[hE.2]
    exact⟨nm,u,f,w,ch,root,at',rfl,hnm⟩
  ·have hst:∀r∈((ru,141,kT nm u f w ch root at')::(q.rt,122,[.slice q.a q.n q.c])::(q.ra,3,[vn k])::(q.rp,129,[gB q.rt q.ra])::(q.rr,133,[gB q.rt q.ra,mR q.rp q.ra q.rt,.slice na' q.nu cc,nv,vi sc,vi sa])::(gr++gn)).map (fun e:aK=>e.1),(¬F r∨¬qy H r 3)∧¬qy H r 269:=fun r hr=>by
    rcases List.mem_cons.1 hr with rfl|hr
    ·exact⟨.inr IZ.1,IZ.2.1⟩
    ·exact⟨(hty r hr).1.imp_left (fun e=>by rw[e];exact rU),(hty r hr).2.1⟩
   exact(h10 i hi).st hx hst
 ·have hF:=SH.frame (M:=(ru,141,kT nm u f w ch root at')::(q.rt,122,[.slice q.a q.n q.c])::(q.ra,3,[vn k])::(q.rp,129,[gB q.rt q.ra])::(q.rr,133,[gB q.rt q.ra,mR q.rp q.ra q.rt,.slice na' q.nu cc,nv,vi sc,vi sa])::(gr++gn)) hS0 hS
  exact SH.drop (A:=[_]) hF
theorem Zq{q:RC}{k k0 ru:Nat}{nm:ByteArray}{u f w:Bool}{ch root at':Int}(hF:∀r,H.next≤r→F r)(hnm:nm.size≤1000000)(hk:k0≤k)(hnu:q.nu<120)(hR:Rd F q k H M)(hS:SH S H0 H ((ru,141,kT nm u f w ch root at')::(M++L)))(x4 x5 x6 x7:Value)(rg):
 aR Pg X (sub dH [1,1,1,1,1,1,1,1]) (fG (pr q.rr) (.bool false) (pr ru) x4 x5 x6 x7 rg H) (cB Pg [.tmp 2] (zT F q k0 S H0 L)):=by
 have hkn:=hR.le
 refine tl ?_
 simp only[PP,Nat.reduceBEq]
 refine hR.M_ (P:=[_]) hS fun H1 M1 pq hS1 hn1=>?_
 refine ak.mono (X3 (P:=[_]) pq hS1 5 (by decide)) ?_
 rintro v H2 ⟨b,k2,M2,rfl,hR2,hS2,hk2,hb2,hn1'⟩
 simp only[PP,Nat.reduceBEq]
 refine aC (fun hb=>?_) (fun hb=>?_)
 ·refine rr ?_;exact(.no (by omega) hR2 hS2)
 have hb':b=true:=by cases b with
  |true=>rfl
  |false=>cases hb
 have adr:=hb2 hb'
 have hkn2:=hR2.le
 have hn2:H.next≤H2.next:=by omega
 refine ak.mono (KJ q k2 F H2 M2 0 (fun r hr=>hF r (by omega)) hR2 hS2.Tt.own (by omega)) ?_
 rintro v H3 ⟨i,b3,k3,M3,rfl,uM,acW,hk3,_⟩
 have k_:=hS2.FW acW
 simp only[PP,Nat.reduceBEq]
 refine aC (fun hb=>?_) (fun hb=>?_)
 ·refine rr ?_;exact(.no (by omega) uM k_)
 refine uM.st k_ rfl rfl rfl rfl (Nat.le_of_ble_eq_true rfl) rfl fun H4 yg kg _=>?_
 have kg:SH S H0 H4 ((ru,141,kT nm u f w ch i at')::(M3++L)):=kg
 refine ak.mono (KL yg kg) ?_
 rintro v H5 ⟨b5,w5,ch5,k5,M5,rfl,Dt,hk5,hS5⟩
 simp only[PP,Nat.reduceBEq]
 refine aC (fun hb=>?_) (fun hb=>?_)
 ·refine rr ?_;exact(.no (by omega) Dt hS5)
 refine ak.mono (X3 (P:=[_]) Dt hS5 7 (by decide)) ?_
 rintro v H6 ⟨b6,k6,M6,rfl,uj,nN,XX,hb6,_⟩
 simp only[PP,Nat.reduceBEq]
 refine aC (fun hb=>?_) (fun hb=>?_)
 ·refine rr ?_;exact(.no (by omega) uj nN)
 exact Tw hnm (by omega) hnu uj nN _ _ _ _ _
theorem Tx{q:RC}{k k0 ru:Nat}{f:Bool}(hF:∀r,H.next≤r→F r)(hnu:q.nu≤120)(hk0:k0≤k)(hR:Rd F q k H M)(hS:SH S H0 H ((ru,141,kT ⟨#[]⟩ false f false 0 0 0)::(M++L)))(x4 x5 x6 x7:Value)(rg):
 aR Pg X (sub dH [1,1,1]) (fG (pr q.rr) (.bool false) (pr ru) x4 x5 x6 x7 rg H) (cB Pg [.tmp 2] (zT F q k0 S H0 L)):=by
 have hkn:=hR.le
 refine tl ?_
 simp only[PP,Nat.reduceBEq]
 refine hR.IY (P:=[_]) hS 0 (by omega) fun H1 pq hS1 hx1=>?_
 rw[show min (k +0) (q.n -1)=k by omega]
 obtain⟨kd,OP,e1,t1,xa,xn,xc,he,_,ht1,_,hz⟩:=pq.tok hkn.1
 rw[he]
 have IZ:¬qy H1 ru 3∧¬qy H1 ru 269∧¬qy H1 ru 128:=by
  have h:=(hS1.bk _ (List.mem_cons_self ..)).Py
  exact⟨fun ht=>(by have:=h.one ht;cases this),fun ht=>(by have:=h.one ht;cases this),fun ht=>(by have:=h.one ht;cases this)⟩
 have hS1:SH S H0 H1 ([(ru,141,kT ⟨#[]⟩ false f false 0 0 0)]++(M++L)):=hS1
 refine hS1.own.jF rfl rfl rfl fun H4 rt kg hx4=>?_
 have hS:SH [ru] H1 H4 [(rt,128,[vi kd,vn OP,vn e1,.string t1,.slice xa xn xc]),(ru,141,kT ⟨#[]⟩ false f false 0 0 0)]:=kg
 simp only[PP,Nat.reduceBEq,aj hS.wf];refine hS.bZ ?_
 refine ak.mono (wD hS.wf _ _ _ _ _ rfl) ?_
 rintro v H5 ⟨rfl,hx5⟩
 have hS:=hS.call hx5
 simp only[PP,Nat.reduceBEq,aj hS.wf]
 refine aC (fun hb=>?_) (fun hb=>?_)
 ·have hf:=hS1.frame (M:=[_]) hS
  have Dt:=pq.stay hS.ext fun r hr=>by
   rw[List.mem_singleton]at hr;subst hr
   exact⟨.inr IZ.1,IZ.2⟩
  refine ak.mono (Tv (P:=[_,_]) Dt hf) ?_
  rintro v H6 ⟨rfl,M6,uj,nN⟩
  refine rr ?_;exact(.no hk0 uj (SH.drop (A:=[_]) nN))
 repeat(first|(simp only[PP,Nat.reduceBEq,aj hS.wf])|(refine hS.jf ?_)|(refine hS.qh fun Hn hS=>?_))
 have hne:rt≠ru:=hS.nq 0 1 rfl rfl (by omega)
 refine(show∀K:Prop,K→_∧K from fun K hK=>?_) _ ?_
 ·simp only[aA,aB]
  apply oh (a:=rt) (b:=ru) hne (by intros;rfl) (by kernel_rfl) (by kernel_rfl) hK
 have hx:=hS.ext
 generalize hM (hM (hM H5 _) _) Hn=H6 at*
 have hSf:=hS1.frame (M:=[_]) hS
 have hSf:SH S H0 H6 ((ru,141,kT t1 (decide (kd=1)) f false 0 0 OP)::(M++L)):=SH.drop (A:=[_]) hSf
 have hn6:H.next≤H6.next:=by have:=hx.next;have:=hx1.next;omega
 have uj:Rd F q k H6 M:=pq.stay hx fun r hr=>by
  have hr:r∈[ru]:=hr
  rw[List.mem_singleton]at hr;subst hr
  exact⟨.inr IZ.1,IZ.2⟩
 clear hS
 obtain⟨⟨ra,rc,hrc⟩,hrl⟩:=uj.rules (L:=[_]++L) (SH.Tt (P:=[_]) hSf)
 have hS:=hSf
 refine ME.ld hrc ?_
 simp only[PP,Nat.reduceBEq]
 refine ae (fun hc=>?_) (fun hc=>?_)
 ·refine hS.aZ ?_
  refine ak.mono (Tu (P:=[_]) uj hS 3 _) ?_
  rintro v H7 ⟨rfl,M7,M0,Eo⟩
  refine rr ?_;exact(.no hk0 M0 Eo)
 refine hS.aZ ?_;simp only[PP,Nat.reduceBEq,aj hS.wf]
 have kQ:∀(b:Bool) rg,zZ rg 72=.bool b→aR Pg X (sub dH [1,1,1,1,1,1,1,0,1]) (fG (pr q.rr) (.bool false) (pr ru) x4 (pr rt) x6 x7 rg H6) (kH Pg X (sub dH [1,1,1,1,1,1,1,1]) (cB Pg [.tmp 2] (zT F q k0 S H0 L))):=by
  intro b rg hb
  refine tl ?_
  rw[hb]
  simp only[PP,Nat.reduceBEq]
  refine aC (fun hb=>?_) (fun hb=>?_)
  ·refine hS.aZ ?_
   refine ak.mono (Tu (P:=[_]) uj hS 18 _) ?_
   rintro v H7 ⟨rfl,M7,M0,Eo⟩
   refine rr ?_;exact(.no hk0 M0 Eo)
  ·exact Zq (fun r hr=>hF r (by omega)) ht1 hk0 (by omega) uj hS _ _ _ _ _
 refine aC (fun hb=>?_) (fun hb=>?_)
 ·refine hS.aZ ?_;simp only[PP,Nat.reduceBEq,aj hS.wf]
  exact kQ _ _ rfl
 ·exact kQ _ _ rfl
theorem OQ{q:RC}{k:Nat}(hF:∀r,H.next≤r→F r)(hnu:q.nu≤120)(hR:Rd F q k H M)(hS:SH S H0 H (M++L)):ak Pg X 73 [pr q.rr] H (zT F q k S H0 L):=by
 have hkn:=hR.le
 refine ce [0,2,3,4,5,6,7] ?_;refine tl ?_
 refine hS.acV fun H1 ru hS1 hx1=>?_
 have pq:=hR.ex hx1
 have hS1:SH S H0 H1 ((ru,141,kT ⟨#[]⟩ false false false 0 0 0)::(M++L)):=hS1
 simp only[PP,Nat.reduceBEq]
 refine pq.IY (P:=[_]) hS1 0 (by omega) fun H2 hR2 hS2 hx2=>?_
 rw[show min (k +0) (q.n -1)=k by omega]
 obtain⟨kd,OP,e1,t1,xa,xn,xc,he,_⟩:=hR2.tok hkn.1
 rw[he]
 refine hS2.jF rfl rfl rfl fun H3 rt k_ hx3=>?_
 have uM:=hR2.ex hx3
 have hS:SH S H0 H3 ((rt,128,[vi kd,vn OP,vn e1,.string t1,.slice xa xn xc])::(ru,141,kT ⟨#[]⟩ false false false 0 0 0)::(M++L)):=k_
 have hn3:H.next≤H3.next:=by have:=hx1.next;have:=hx2.next;have:=hx3.next;omega
 have mid:∀(b:Bool) x5 x6 x7 rg H4,zZ rg 28=.bool b→Rd F q k H4 M→H3.next≤H4.next→SH S H0 H4 ((ru,141,kT ⟨#[]⟩ false false false 0 0 0)::(M++L))→aR Pg X (sub dH [1,1,0,1,1]) (fG (pr q.rr) (.bool false) (pr ru) (pr rt) x5 x6 x7 rg H4) (kH Pg X (sub dH [1,1,1]) (cB Pg [.tmp 2] (zT F q k S H0 L))):=by
  intro b x5 x6 x7 rg H4 hb yg hn4 kg
  refine tl ?_
  rw[hb]
  simp only[PP,Nat.reduceBEq]
  refine aC (fun hb=>?_) (fun hb=>?_)
  ·refine yg.M_ (P:=[_]) kg fun H5 M5 Dt hS5 hn5=>?_
   refine Dt.st hS5 rfl rfl rfl rfl (Nat.le_of_ble_eq_true rfl) rfl fun H6 uj nN hn6=>?_
   exact Tx (fun r hr=>hF r (by omega)) hnu (by omega) uj nN _ _ _ _ _
  ·exact Tx (fun r hr=>hF r (by omega)) hnu (Nat.le_refl _) yg kg _ _ _ _ _
 repeat(first|(simp only[PP,Nat.reduceBEq,aj hS.wf])|(refine hS.aZ ?_))
 refine ae (fun hc=>?_) (fun hc=>?_)
 ·refine hS.aZ ?_;simp only[PP,Nat.reduceBEq,aj hS.wf]
  refine aC (fun hb=>?_) (fun hb=>?_)
  ·refine uM.IY (P:=[_,_]) hS 1 (by omega) fun H4 yg kg hx4=>?_
   obtain⟨kd,OP,e1,t1,xa,xn,xc,he,_⟩:=yg.tok (i:=min (k +1) (q.n -1)) (by omega)
   rw[he]
   refine ak.mono (wD kg.wf _ _ _ _ _ rfl) ?_
   rintro v H5 ⟨rfl,hx5⟩
   exact mid _ _ _ _ _ _ rfl (yg.ex hx5) (by have:=hx4.next;have:=hx5.next;omega) (SH.drop (A:=[_]) (kg.call hx5))
  ·exact mid _ _ _ _ _ _ rfl uM (Nat.le_refl _) (SH.drop (A:=[_]) hS)
 ·exact mid _ _ _ _ _ _ rfl uM (Nat.le_refl _) (SH.drop (A:=[_]) hS)
end Go.Proofs.Lu
set_option maxRecDepth 100000
set_option maxHeartbeats 4000000
namespace Go.Proofs.Lu
open Go.Ae Go.Ae.M
variable{H0 H:aa}{L M:List aK}{S:List Nat}{F:Nat→Prop}
def Gr(b:Nat)(H:aa)(ra:Option Addr)(rn:Nat)(rcs:List Value)(na:Option Addr)(nn:Nat)(bW:List Value):Prop:=
 fE (b≤·) 141 H ra rn 7 rcs∧rn≤120∧(∀i,i<rn→RuC (El rcs 7 i))∧fE (b≤·) 145 H na nn 5 bW∧nn≤4000∧∀i,i<nn→UD (b≤·) H (El bW 5 i)
def Ty(b:Nat)(v:Value)(H:aa):Prop:=∃ra rn rc rcs na nn nc bW,∃(cd e:Int),v=.tuple ⟨[.agg ⟨[.slice ra rn rc,.slice na nn nc]⟩,.agg ⟨[vi cd,vi e]⟩]⟩∧Gr b H ra rn rcs na nn bW∧(na=none∨nc=aT 5)
theorem Gr.nil(b:Nat)(H:aa):Gr b H none 0 [] none 0 []:=
 ⟨fE.nil _ _ _ _ _,by omega,fun i h=>absurd h (by omega),fE.nil _ _ _ _ _,by omega,fun i h=>absurd h (by omega)⟩
theorem Rd.abQ{q:RC}{k:Nat}(hR:Rd F q k H M)(hS:SH S H0 H (M++L))(j:Nat)(hj:j≤1000){K:Value→Value→aa→Prop}
 (h:∀H',Rd F q k H' M→SH S H0 H' (M++L)→Ext H H'→K (gB q.rt q.ra) (.agg ⟨El q.cs 5 (min (k +j) (q.n -1))⟩) H'):ME (jX none (.pointer (some ⟨q.rp,0,none⟩)) H) fun v H1=>fq Pg X (CW v) [vn j] H1 (K v):=by
 have hR0:=hR
 obtain⟨rv,rcs,gr,nv,bW,gn,sc,sa,nr,nn,rfl,_⟩:=hR
 refine hS.ld 2 rfl rfl ?_
 show ak Pg X 71 [vn j,pr q.rt,pr q.ra] H (K _)
 refine ak.mono (Tn hR0 hS j hj) ?_
 rintro v H' ⟨rfl,hx⟩
 exact h H' (hR0.ex hx) (hS.call hx) hx
theorem iV{α:Type}{x:α}(A B:List α){C:List α}(h:(A++B).Perm C):(A++x::B).Perm (x::C):=List.perm_middle.trans (h.cons x)
theorem OT(hw:Wf H)(x0:Value)(q0:RC)(rs rg re rf:Nat)(f8:Value)(H1:aa){M:List aK}(hge:H.next≤q0.ra∧q0.ra<H1.next)(hR:Rd (fun r=>H.next≤r∧r≠q0.ra) {q0 with nu:=0} 0 H1 M)(xe:List Value)
 (hS:SH [] H H1 (M++[(re,72,xe),(rs,72,[vi 0,vi 0]),(rg,69,[.slice none 0 0,.slice none 0 0])]))(x4 x6:Value)(dI):
 aR Pg X (.loop (sub zK [1,1,1,1,1,1,1,0,1,0,0])) (FD x0 (pr rg) (pr rs) x4 (pr re) x6 (pr q0.rp) f8 (pr q0.rr) (.bool true) dI H1) (gY 0 (kH Pg X (sub zK [1,1,1,1,1,1,1,1]) (cB Pg [.cell 2 69,.cell 3 72] (Q1 (Ty H.next) H)))):=by
 refine yf 10 (I:=fun m aW H'=>∃(b:Bool)(j k:Nat)(M:List aK),aW=.bool b∧Rd (fun r=>H.next≤r∧r≠q0.ra) {q0 with nu:=j} k H' M∧k +m=q0.n∧j≤120∧q0.ra<H'.next∧SH [] H H' (M++[(re,72,xe),(rs,72,[vi 0,vi 0]),(rg,69,[.slice none 0 0,.slice none 0 0])])) ?_ q0.n ⟨true,0,0,M,rfl,hR,by omega,by omega,hge.2,hS⟩
 clear hR hS
 rintro m aW dI H2 ⟨b,j,k,M2,rfl,hR,hkm,hj,hra,hS⟩
 refine tl ?_
 simp only[PP,Nat.reduceBEq]
 refine aC (fun hb=>?_) (fun hb=>?_)
 rotate_left
 ·refine tl ?_
  obtain⟨rv,rcs,gr,nv,bW,gn,sc,sa,nr,nn,rfl,h1,h2,h3,h4,h5,h6,h7,h8,h9,h10,rU⟩:=hR
  have h5:nr=j:=h5
  subst h5
  have hS:=hS.perm (rG _ [_,_,_] [])
  simp only[List.cons_append,List.nil_append,List.append_nil]at hS
  obtain⟨va,VS,vc,rfl⟩:∃a n c,rv=.slice a n c:=by rcases h3 with⟨rfl,_⟩|⟨r,n,aQ,rfl,_⟩<;>exact⟨_,_,_,rfl⟩
  obtain⟨wa,wn,wc,rfl⟩:∃a n c,nv=.slice a n c:=by rcases h7 with⟨rfl,_⟩|⟨r,n,aQ,rfl,_⟩<;>exact⟨_,_,_,rfl⟩
  simp only[PP,Nat.reduceBEq]
  refine hS.bZ ?_
  have hS0:=hS
  have hS:=SH.own (M:=[(re,72,xe),(rs,72,[vi 0,vi 0]),(rg,69,[.slice none 0 0,.slice none 0 0])]) hS0
  repeat(first|(refine PU.b2 rfl ?_)|(refine hS.jd fun Hn hS=>?_))
  refine rr ?_
  repeat(refine hS.bZ ?_)
  have hx:=hS.ext
  have hS:=hS0.frame (M:=[_,_,_]) hS
  have hxH:Ext H Hn:=hS.ext
  have hf:∀e:aK,e∈gr++gn→H.next≤e.1:=fun e he=>hS.xA (List.mem_append_right [_,_,_,_,_,_,_] he)
  obtain⟨a1,n1,c1,e1,hl1,hf1⟩:=h3.W_ (F:=(H.next≤·)) (hS.perm (rG [_,_,_,_,_,_,_] gr gn)) fun e he=>hf e (List.mem_append_left _ he)
  obtain⟨a2,n2,c2,e2,hl2,hf2⟩:=h7.W_ (F:=(H.next≤·)) (hS.perm ((List.Perm.append_left [_,_,_,_,_,_,_] List.perm_append_comm).trans (rG [_,_,_,_,_,_,_] gn gr))) fun e he=>hf e (List.mem_append_right _ he)
  cases e1
  cases e2
  obtain rfl:VS=nr:=by omega
  obtain rfl:wn=nn:=by omega
  have hO:=SH.own (M:=[(re,72,xe),(rs,72,[vi 0,vi 0]),(rg,69,[.slice none 0 0,.slice none 0 0])]) hS0
  have hty:=hO.Ow (ty:=3) rfl
  have acX:=hO.Ow (ty:=269) rfl
  have hcap:wa=none∨wc=aT 5:=by
   rcases h7 with⟨e,_,_⟩|⟨r,n,aQ,e,_,_⟩<;>cases e
   ·exact .inl rfl
   ·exact .inr rfl
  refine⟨⟨va,VS,vc,rcs,wa,wn,wc,bW,0,0,rfl,⟨hf1,hj,h6,hf2,h9,fun i hi=>?_⟩,hcap⟩,hxH⟩
  refine((h10 i hi).wk fun r _ h=>h.1).st hx fun r hr=>⟨.inr (hty r hr),acX r hr⟩
 refine ak.mono (OQ (F:=fun r=>H.next≤r∧r≠q0.ra) (q:={q0 with nu:=j}) (fun r hr=>⟨?_,?_⟩) hj hR hS) ?_
 ·have:=hS.ext.next;omega
 ·omega
 rintro v H3 ⟨b,k3,M3,rfl,uM,k_,hk3,hb3⟩
 simp only[PP,Nat.reduceBEq]
 refine aC (fun hb=>?_) (fun hb=>?_)
 ·have hb':b=false:=by cases b with
   |false=>rfl
   |true=>cases hb
  subst hb'
  obtain⟨rv,rcs,gr,nv,bW,gn,sc,sa,nr,nn,rfl,h1,h2,h3,h4,h5,h6,h7,h8,h9,h10,rU⟩:=uM
  have hS:=k_.perm (rG _ [_,_,_] [])
  simp only[List.cons_append,List.nil_append,List.append_nil]at hS
  repeat(first|(simp only[PP,Nat.reduceBEq,aj hS.wf])|(refine PU.b2 rfl ?_)|(refine hS.og ?_)|(refine hS.qh fun Hn hS=>?_))
  refine(show∀K:Prop,K→_∧K from fun K hK=>?_) _ ?_
  ·simp only[aA,aB]
   have n1:=hS.nq 1 2 rfl rfl (by omega)
   have n2:=hS.nq 1 6 rfl rfl (by omega)
   have n3:=hS.nq 2 6 rfl rfl (by omega)
   generalize q0.rr=rr at n2 n3⊢
   apply Fz (a:=rs) (b:=rg) (c:=rr) n1 n2 n3 (by intros;rfl) (by kernel_rfl) (by kernel_rfl) hK
  refine rr ?_
  repeat(refine hS.bZ ?_)
  exact⟨⟨none,0,0,[],none,0,0,[],sc,sa,rfl,Gr.nil _ _,.inl rfl⟩,hS.ext⟩
 have hb':b=true:=by cases b with
  |true=>rfl
  |false=>cases hb
 subst hb'
 have hk4:=hb3 rfl
 have uM:Rd (fun r=>H.next≤r∧r≠q0.ra) {q0 with nu:=j +1} k3 H3 M3:=uM
 refine uM.abQ k_ 0 (by omega) fun H4 yg kg hx4=>?_
 have hkn:=yg.le
 rw[show min (k3 +0) (q0.n -1)=k3 by have:k3<q0.n:=hkn.1;omega]
 obtain⟨kd,OP,e1,t1,xa,xn,xc,he,_⟩:=yg.tok hkn.1
 have he:El q0.cs 5 k3=_:=he
 rw[he,wC]
 simp only[PP,Nat.reduceBEq]
 refine⟨q0.n -k3,by have:k3<q0.n:=hkn.1;omega,_,_,_,rfl,_,j +1,k3,M3,rfl,yg,by have:k3<q0.n:=hkn.1;omega,by have h2:j<120:=hk4.2;omega,(kg.lo _ (List.mem_append_left _ yg.mem)).2,kg⟩
theorem Du(hw:Wf H)(hT:tX H)(s:ByteArray):ak Pg X 29 [.string s] H (Q1 (Ty H.next) H):=by
 have hS:=SH.refl hw
 refine ce [0,2,3,4,5,6,7,8,9,10] ?_;refine tl ?_
 refine hS.cZ fun Hn rg hS=>?_
 refine hS.cZ fun Hn rs hS=>?_
 refine ak.mono (IV hS.wf (hT.ex hS.ext) s) ?_
 rintro v H1 ⟨⟨ts,cd,e,rfl,hts,hT1⟩,hx⟩
 have hlt:=hS.lt
 have hS1:=hS.call hx
 have hS:=hS1.base
 simp only[PP,Nat.reduceBEq]
 refine hS.cZ fun Hn rt hS=>?_
 refine hS.cZ fun Hn re hS=>?_
 have key:ay ts=[ts]∧aU ts=true:=by rcases hts with rfl|⟨a,n,c,rfl⟩<;>exact⟨rfl,rfl⟩
 refine hS.st 1 rfl (by rw[key.1];rfl) (Nat.le_refl 1) (by rw[key.1];show av (aU ts) _ _=_;rw[key.2];rfl) fun Hn hS=>?_
 rw[key.1]at hS
 have hS:SH [rs,rg] H1 Hn [(re,72,[vi 0,vi 0]),(rt,122,[ts]),(rs,72,[vi 0,vi 0]),(rg,69,[.slice none 0 0,.slice none 0 0])]:=hS
 repeat(first|(simp only[PP,Nat.reduceBEq,aj hS.wf])|(refine hS.aZ ?_)|(refine hS.jd fun Hn hS=>?_))
 refine aP (fun hc=>?_) (fun hc=>?_)
 ·repeat(first|(simp only[PP,Nat.reduceBEq,aj hS.wf])|(refine PU.b2 rfl ?_)|(refine hS.og ?_)|(refine hS.qh fun Hn hS=>?_))
  refine(show∀K:Prop,K→_∧K from fun K hK=>?_) _ ?_
  ·simp only[aA,aB]
   apply Fz (a:=rs) (b:=rg) (c:=re) (hS.nq 2 3 rfl rfl (by omega)) (hS.nq 0 2 rfl rfl (by omega)).symm (hS.nq 0 3 rfl rfl (by omega)).symm (by intros;rfl) (by kernel_rfl) (by kernel_rfl) hK
  refine rr ?_
  repeat(refine hS.bZ ?_)
  exact⟨⟨none,0,0,[],none,0,0,[],cd,e,rfl,Gr.nil _ _,.inl rfl⟩,(hS1.over hS).ext⟩
 refine hS.cZ fun Hn ra hS=>?_
 refine hS.jd fun Hn hS=>?_
 refine hS.cZ fun Hn rp hS=>?_
 refine hS.jd fun Hn hS=>?_;refine hS.aZ ?_;refine PU.b6 rfl ?_;simp only[PP,Nat.reduceBEq,aj hS.wf]
 obtain⟨ta,tn,tc,tcs,rfl,hTk⟩:=hT1 hc
 refine hS.box rfl fun H2 rr hS=>?_
 have hS:SH [rs,rg] H1 H2 [(rr,133,[gB rt ra,mR rp ra rt,.slice none 0 0,.slice none 0 0,vi 0,vi 0]),(rp,129,[gB rt ra]),(ra,3,[vn 0]),(re,72,[vi cd,vi e]),(rt,122,[.slice ta tn tc]),(rs,72,[vi 0,vi 0]),(rg,69,[.slice none 0 0,.slice none 0 0])]:=hS
 have hS:=hS.perm (L':=[(rt,122,[.slice ta tn tc]),(ra,3,[vn 0]),(rp,129,[gB rt ra]),(rr,133,[gB rt ra,mR rp ra rt,.slice none 0 0,.slice none 0 0,vi 0,vi 0]),(re,72,[vi cd,vi e]),(rs,72,[vi 0,vi 0]),(rg,69,[.slice none 0 0,.slice none 0 0])]) (iV [_,_,_,_] [_,_] (iV [_,_] [_,_,_] (iV [_] [_,_,_] (List.Perm.refl _))))
 have hx2:=hS.ext
 have hS:=hS1.over hS
 have hra:=hS.lo _ (List.mem_of_getElem? (i:=1) rfl)
 refine OT hw (.string s) ⟨rt,ra,rp,rr,ta,tn,tc,tcs,0⟩ rs rg re rp _ H2 (M:=[(rt,122,[.slice ta tn tc]),(ra,3,[vn 0]),(rp,129,[gB rt ra]),(rr,133,[gB rt ra,mR rp ra rt,.slice none 0 0,.slice none 0 0,vi 0,vi 0])]) ⟨hS.xA (List.mem_of_getElem? (i:=1) rfl),hra.2⟩ ?_ [vi cd,vi e] hS _ _ _
 refine⟨.slice none 0 0,[],[],.slice none 0 0,[],[],0,0,0,0,rfl,?_,?_,GB.nil _ _,rfl,rfl,fun i h=>absurd h (by omega),GB.nil _ _,rfl,by omega,fun i h=>absurd h (by omega),fun h=>h.2 rfl⟩
 ·have:=hTk.2.1
  show 0<tn
  omega
 ·exact hTk.st hx2 (fun r hr=>.inl (hlt r hr)) (Nat.zero_le _)
end Go.Proofs.Lu
set_option maxRecDepth 100000
set_option maxHeartbeats 4000000
namespace Go.Proofs.Lu
open Go.Ae Go.Ae.M
variable{H0 H:aa}{L M:List aK}{S:List Nat}{F:Nat→Prop}
def Cu(kd:Int)(n:Nat):Prop:=(kd=0∧2≤n)∨kd=1∨((kd=2∨kd=3∨kd=4)∧n=1)∨((kd=5∨kd=6∨kd=7)∧n=0)
theorem OU(kd:Int)(n:Nat):ak Pg X 199 [vi kd,vn n] H (Q0 (fun v=>∃b:Bool,v=.bool b∧(b=true→Cu kd n)) H):=by
 have fin:∀(b:Bool) rg,zZ rg 12=.bool b→(b=true→kd=2∨kd=3∨kd=4)→aR Pg X (sub tK [1,0,1,0,1,1,1,1,1]) (xN (vi kd) (vn n) (.bool false) (vi kd) rg H) (gY 0 (kH Pg X (sub tK [1,1]) (cB Pg [.tmp 4] (Q0 (fun v=>∃b:Bool,v=.bool b∧(b=true→Cu kd n)) H)))):=by
  intro b rg hb hk
  have acY:∀rg,aR Pg X (sub tK [1,1]) (xN (vi kd) (vn n) (.bool false) (vi kd) rg H) (cB Pg [.tmp 4] (Q0 (fun v=>∃b:Bool,v=.bool b∧(b=true→Cu kd n)) H)):=fun rg=>
   by refine tl ?_;refine rr ?_;exact⟨⟨false,rfl,fun h=>by cases h⟩,rfl⟩
  refine tl ?_
  rw[hb]
  refine aC (fun hb=>?_) (fun hb=>?_)
  ·simp only[PP,Nat.reduceBEq]
   refine rr ?_;exact⟨⟨_,rfl,fun h=>.inr (.inr (.inl ⟨hk hb,by have:=of_decide_eq_true h;omega⟩))⟩,rfl⟩
  simp only[PP,Nat.reduceBEq]
  refine ae (fun hc=>?_) (fun hc=>?_)
  ·rw[decide_eq_true hc]
   simp only[PP,Nat.reduceBEq]
   refine rr ?_;exact⟨⟨_,rfl,fun h=>.inr (.inr (.inr ⟨.inl hc,by have:=of_decide_eq_true h;omega⟩))⟩,rfl⟩
  refine ae (fun hc=>?_) (fun hc=>?_)
  ·rw[decide_eq_true hc]
   simp only[PP,Nat.reduceBEq]
   refine rr ?_;exact⟨⟨_,rfl,fun h=>.inr (.inr (.inr ⟨.inr (.inl hc),by have:=of_decide_eq_true h;omega⟩))⟩,rfl⟩
  refine ae (fun hc=>?_) (fun hc=>?_)
  ·refine rr ?_;exact⟨⟨_,rfl,fun h=>.inr (.inr (.inr ⟨.inr (.inr hc),by have:=of_decide_eq_true h;omega⟩))⟩,rfl⟩
  exact acY _
 refine ce [0,1,4,5] ?_;refine tl ?_
 simp only[PP,Nat.reduceBEq]
 refine ae (fun hc=>?_) (fun hc=>?_)
 ·refine rr ?_;exact⟨⟨_,rfl,fun h=>.inl ⟨hc,by have:=of_decide_eq_true h;omega⟩⟩,rfl⟩
 refine ae (fun hc=>?_) (fun hc=>?_)
 ·refine rr ?_;exact⟨⟨_,rfl,fun h=>.inr (.inl hc)⟩,rfl⟩
 refine ae (fun hc=>?_) (fun hc=>?_)
 ·exact fin _ _ rfl fun _=>.inl hc
 refine ae (fun hc=>?_) (fun hc=>?_)
 ·exact fin _ _ rfl fun _=>.inr (.inl hc)
 exact fin _ _ rfl fun h=>.inr (.inr (by have:=of_decide_eq_true h;omega))
theorem _root_.Go.Ae.Fl.OP{H:aa}{a:Option Addr}{n k:Nat}{cs:List Value}(h:Fl H a n 1 cs)(hk:k<n)(c:Nat):∃r o,∃hl:k<cs.length,q_ 1 (.slice a n c) (vn k)=some (.pointer (some ⟨r,o,none⟩))∧r<H.next∧H.cell r o=some cs[k]:=by
 have hl:k<cs.length:=by have:=h.1;omega
 obtain⟨r,o,h1,h2,h3,_⟩:=h.idx (c:=c) (Nat.lt_succ_self 0) hk
 exact⟨r,o,hl,h1,h2,h3 0 _ (Nat.lt_succ_self 0) (by rw[Nat.mul_one,Nat.add_zero];exact List.getElem?_eq_getElem hl)⟩
def Tz(F:Nat→Prop)(H:aa)(i:Nat)(l:List Value):Prop:=∃(kd:Int)(a:Option Addr)(n c:Nat)(ks:List Value)(t:ByteArray)(xa:Option Addr)(xn xc:Nat)(at':Int),l=[vi kd,.slice a n c,.string t,.slice xa xn xc,vi at']∧n≤20001∧t.size≤1000000∧fE F 3 H a n 1 ks∧Cu kd n∧(∀x∈ks,∃z:Nat,x=vn z∧z<i)
def intOf(v:Value):Int:=match v with
 |.int _ z=>z
 |_=>0
def rootOf(rcs:List Value)(i:Nat):Int:=intOf ((El rcs 7 i)[5]?.getD (.int .i64 0))
theorem Ep{rcs:List Value}{i:Nat}{a b c d e f:Value}{z:Int}(h:El rcs 7 i=[a,b,c,d,e,vi z,f]):rootOf rcs i=z:=by unfold rootOf;rw[h];rfl
abbrev gV(ra:Option Addr)(rn rc:Nat)(na:Option Addr)(nn nc:Nat):Value:=.agg ⟨[.slice ra rn rc,.slice na nn nc]⟩
def qX(F:Nat→Prop)(H:aa)(rn:Nat)(rcs:List Value)(nn:Nat)(bW:List Value):Prop:=(∀i,i<nn→Tz F H i (El bW 5 i))∧∀i,i<rn→0≤rootOf rcs i∧rootOf rcs i<nn
theorem Cv(hw:Wf H){b:Nat}{ra na:Option Addr}{rn rc nn nc:Nat}{rcs bW:List Value}(hG:Gr b H ra rn rcs na nn bW):ak Pg X 183 [gV ra rn rc na nn nc] H (Q1 (fun v _=>∃t:Bool,v=.bool t∧(t=true→qX (b≤·) H rn rcs nn bW)) H):=by
 obtain⟨g1,g2,g3,g4,g5,g6⟩:=hG
 have hS:=SH.refl hw
 refine ce [0,1,2,3,4,6,8,10,11,12,25,26,27,41,42,43] ?_;refine tl ?_
 refine hS.box rfl fun H1 rg hS=>?_
 repeat(first|(simp only[PP,Nat.reduceBEq,aj hS.wf])|(refine hS.aZ ?_))
 refine lp8 2 3 4 6 12 25 26 27 (I:=fun m x2 x3 x4 x6 bT x25 x26 x27 H'=>∃i:Nat,x2=.bool false∧bT=vn i∧i +m=nn∧(∀j,j<i→Tz (b≤·) H j (El bW 5 j))∧SH [] H H' [(rg,69,[.slice ra rn rc,.slice na nn nc])]) ?_ nn ⟨0,rfl,rfl,by omega,fun j h=>absurd h (by omega),hS⟩
 clear hS
 rintro m x2 x3 x4 x6 bT x25 x26 x27 dI H2 ⟨i,rfl,rfl,him,hdone,hS⟩
 refine tl ?_
 simp only[PP,Nat.reduceBEq]
 refine ae (fun hc=>?_) (fun hc=>?_)
 ·have hin:i<nn:=by omega
  obtain⟨r,o,e,hr,hrd,hel,o0,_⟩:=g4.1.read (by omega) hin nc
  rw[e]
  simp only[PP,Nat.reduceBEq]
  obtain⟨kd,ka,kn,kc,ks,t,rs,at',he,hk1,hk2,hk3,hk4,hk5⟩:=g6 i hin
  obtain⟨xa,xn,xc,xcs,rfl,XX⟩:=id hk5
  rw[he]at hrd
  refine hS.p_ hrd hr ?_
  refine hS.jF rfl rfl rfl fun H3 Zr hS hx3=>?_
  have hS:SH [] H H3 [(Zr,145,[vi kd,.slice ka kn kc,.string t,.slice xa xn xc,vi at']),(rg,69,[.slice ra rn rc,.slice na nn nc])]:=hS
  repeat(first|(simp only[PP,Nat.reduceBEq,aj hS.wf])|(refine hS.aZ ?_))
  refine ak.mono (OU kd kn) ?_
  rintro v H4 ⟨⟨t1,rfl,ht1⟩,rfl⟩
  simp only[PP,Nat.reduceBEq,aj hS.wf]
  refine aC (fun hb=>?_) (fun hb=>?_)
  ·refine rr ?_;refine⟨⟨false,rfl,fun h=>by cases h⟩,hS.ext⟩
  have hfit:=ht1 (by cases t1 with
   |true=>rfl
   |false=>cases hb)
  refine hS.aZ ?_;simp only[PP,Nat.reduceBEq,aj hS.wf]
  refine PE 2 6 27 (I:=fun m x2 x6 x27 H'=>∃k:Nat,x2=.bool false∧x27=vn k∧k +m=kn∧(∀j(h:j<ks.length),j<k→∃z:Nat,ks[j]=vn z∧z<i)∧SH [] H H' [(Zr,145,[vi kd,.slice ka kn kc,.string t,.slice xa xn xc,vi at']),(rg,69,[.slice ra rn rc,.slice na nn nc])]) ?_ kn ⟨0,rfl,rfl,by omega,fun j h h'=>absurd h' (by omega),hS⟩
  clear hS
  rintro m' x2 x6 x27 dI H5 ⟨k,rfl,rfl,hkm,hkd,hS⟩
  refine tl ?_
  simp only[PP,Nat.reduceBEq]
  refine ae (fun hc=>?_) (fun hc=>?_)
  ·have hkn:k<kn:=by omega
   obtain⟨r',o',hl,e',hr',Cw⟩:=hk1.1.OP hkn kc
   rw[e']
   simp only[PP,Nat.reduceBEq]
   obtain⟨z,hz⟩:=hk3 _ (List.getElem_mem hl)
   rw[hz]at Cw
   refine hS.Dg Cw hr' ?_
   simp only[PP,Nat.reduceBEq]
   refine ae (fun hc2=>?_) (fun hc2=>?_)
   ·refine rr ?_;exact⟨⟨false,rfl,fun h=>by cases h⟩,hS.ext⟩
   refine ae (fun hc3=>?_) (fun hc3=>?_)
   ·refine rr ?_;exact⟨⟨false,rfl,fun h=>by cases h⟩,hS.ext⟩
   refine PU.of (au (by omega) (by omega)) ?_
   refine⟨kn -(k +1),by omega,_,_,_,_,_,rfl,k +1,rfl,by rw[show((k:Int) +1)=((k +1:Nat):Int) by omega],by omega,fun j hj hjk=>?_,hS⟩
   rcases Nat.lt_or_ge j k with h|h
   ·exact hkd j hj h
   ·obtain rfl:j=k:=by omega
    exact⟨z.toNat,by rw[hz];congr 1;omega,by omega⟩
  refine tl ?_
  simp only[PP,Nat.reduceBEq]
  refine PU.of (au (by omega) (by omega)) ?_
  refine⟨nn -(i +1),by omega,_,_,_,_,_,_,_,_,_,_,rfl,i +1,rfl,by rw[show((i:Int) +1)=((i +1:Nat):Int) by omega],by omega,fun j hj=>?_,SH.drop (A:=[_]) hS⟩
  rcases Nat.lt_or_ge j i with h|h
  ·exact hdone j h
  ·obtain rfl:j=i:=by omega
   refine⟨kd,ka,kn,kc,ks,t,xa,xn,xc,at',he,hk2,hk4,hk1,hfit,fun x hx=>?_⟩
   obtain⟨j',hj',rfl⟩:=List.getElem_of_mem hx
   exact hkd j' hj' (by have:=hk1.1.1;omega)
 have hin:i=nn:=by omega
 subst hin
 refine tl ?_
 repeat(first|(simp only[PP,Nat.reduceBEq,aj hS.wf])|(refine hS.aZ ?_))
 refine PE 2 8 43 (I:=fun m x2 x8 x43 H'=>∃k:Nat,x2=.bool false∧x43=vn k∧k +m=rn∧(∀j,j<k→0≤rootOf rcs j∧rootOf rcs j<i)∧SH [] H H' [(rg,69,[.slice ra rn rc,.slice na i nc])]) ?_ rn ⟨0,rfl,rfl,by omega,fun j h=>absurd h (by omega),hS⟩
 clear hS
 rintro m' x2 x8 x43 dI H5 ⟨k,rfl,rfl,hkm,hkd,hS⟩
 refine tl ?_
 simp only[PP,Nat.reduceBEq]
 refine ae (fun hc=>?_) (fun hc=>?_)
 ·have hkn:k<rn:=by omega
  obtain⟨r,o,e,hr,hrd,hel,o0,_⟩:=g1.1.read (by omega) hkn rc
  rw[e]
  simp only[PP,Nat.reduceBEq]
  obtain⟨nm,u,f,w,ch,root,at',he,hnm⟩:=g3 k hkn
  rw[he]at hrd
  refine hS.p_ hrd hr ?_
  refine hS.jF rfl rfl rfl fun H3 ru hS hx3=>?_
  have hS:SH [] H H3 [(ru,141,kT nm u f w ch root at'),(rg,69,[.slice ra rn rc,.slice na i nc])]:=hS
  repeat(first|(simp only[PP,Nat.reduceBEq,aj hS.wf])|(refine hS.aZ ?_))
  refine ae (fun hc2=>?_) (fun hc2=>?_)
  ·refine rr ?_;exact⟨⟨false,rfl,fun h=>by cases h⟩,hS.ext⟩
  refine hS.aZ ?_;refine hS.aZ ?_;simp only[PP,Nat.reduceBEq,aj hS.wf]
  refine ae (fun hc3=>?_) (fun hc3=>?_)
  ·refine rr ?_;exact⟨⟨false,rfl,fun h=>by cases h⟩,hS.ext⟩
  refine PU.of (au (by omega) (by omega)) ?_
  refine⟨rn -(k +1),by omega,_,_,_,_,_,rfl,k +1,rfl,by rw[show((k:Int) +1)=((k +1:Nat):Int) by omega],by omega,fun j hjk=>?_,SH.drop (A:=[_]) hS⟩
  rcases Nat.lt_or_ge j k with h|h
  ·exact hkd j h
  ·obtain rfl:j=k:=by omega
   rw[Ep he]
   omega
 refine tl ?_
 refine rr ?_;exact⟨⟨true,rfl,fun _=>⟨fun j hj=>hdone j hj,fun j hj=>hkd j (by omega)⟩⟩,hS.ext⟩
theorem Gr.ru{b:Nat}{ra na:Option Addr}{rn nn:Nat}{rcs bW:List Value}(hG:Gr b H ra rn rcs na nn bW){i:Nat}(hi:i<rn)(c:Nat):∃(r o:Nat)(nm:ByteArray)(u f w:Bool)(ch at':Int),q_ 7 (.slice ra rn c) (vn i)=some (.pointer (some ⟨r,o,none⟩))∧r<H.next∧H.read r o 7=some (kT nm u f w ch (rootOf rcs i) at')∧(∀f' x,f'<7→(kT nm u f w ch (rootOf rcs i) at')[f']?=some x→H.cell r (o +f')=some x)∧nm.size≤1000000∧El rcs 7 i=kT nm u f w ch (rootOf rcs i) at':=by
 obtain⟨g1,g2,g3,g4,g5,g6⟩:=hG
 obtain⟨r,o,e,hr,hrd,hel,o0,e0,ho⟩:=g1.1.read (by omega) hi c
 obtain⟨r',o',e',hr',hcl,_⟩:=g1.1.idx (c:=c) (by omega) hi
 rw[e]at e'
 cases e'
 obtain⟨nm,u,f,w,ch,root,at',he,hnm⟩:=g3 i hi
 rw[Ep he]
 have he:El rcs 7 i=kT nm u f w ch root at':=he
 refine⟨r,o,nm,u,f,w,ch,at',e,hr,he▸hrd,fun f' x hf hx=>hcl f' x hf ?_,hnm,he⟩
 rw[←he,jb,if_pos hf]at hx
 exact hx
theorem Gr.no{b:Nat}{ra na:Option Addr}{rn nn:Nat}{rcs bW:List Value}(hG:Gr b H ra rn rcs na nn bW){i:Nat}(hi:i<nn)(c:Nat){l:List Value}(hl:El bW 5 i=l):∃(r o:Nat),q_ 5 (.slice na nn c) (vn i)=some (.pointer (some ⟨r,o,none⟩))∧r<H.next∧H.read r o 5=some l∧∀f' x,f'<5→l[f']?=some x→H.cell r (o +f')=some x:=by
 obtain⟨g1,g2,g3,g4,g5,g6⟩:=hG
 obtain⟨r,o,e,hr,hrd,hel,o0,e0,ho⟩:=g4.1.read (by omega) hi c
 obtain⟨r',o',e',hr',hcl,_⟩:=g4.1.idx (c:=c) (by omega) hi
 rw[e]at e'
 cases e'
 refine⟨r,o,e,hr,hl▸hrd,fun f' x hf hx=>hcl f' x hf ?_⟩
 rw[←hl,jb,if_pos hf]at hx
 exact hx
theorem Fl.uniq{a:Option Addr}{n es:Nat}{cs cs':List Value}(h:Fl H a n es cs)(h':Fl H a n es cs'):cs=cs':=by
 apply List.ext_getElem (h.1.trans h'.1.symm)
 intro i h1 h2
 obtain⟨r,o,e,_,hc⟩:=h.2 i _ (List.getElem?_eq_getElem h1)
 obtain⟨r',o',e',_,hc'⟩:=h'.2 i _ (List.getElem?_eq_getElem h2)
 rw[e]at e'
 cases e'
 rw[hc]at hc'
 exact Option.some.inj hc'
theorem Tz.back{F:Nat→Prop}{H H':aa}{i:Nat}{l:List Value}(hn:UD F H l)(hx:Ext H H')(h:Tz F H' i l):Tz F H i l:=by
 obtain⟨kd,a,n,c,ks,t,rs,at',e,h1,h2,h3,h4,h5⟩:=hn
 obtain⟨kd',a',n',c',ks',t',xa,xn,xc,abR,e',g1,g2,g3,g4,g5⟩:=h
 rw[e]at e'
 cases e'
 have:=Fl.uniq (h1.ex hx).1 g3.1
 subst this
 exact⟨kd,a,n,c,ks,t,xa,xn,xc,at',e,g1,g2,h1,g4,g5⟩
theorem Tz.ex{F:Nat→Prop}{H H':aa}{i:Nat}{l:List Value}(hx:Ext H H')(h:Tz F H i l):Tz F H' i l:=by
 obtain⟨kd',a',n',c',ks',t',xa,xn,xc,abR,e',g1,g2,g3,g4,g5⟩:=h
 exact⟨kd',a',n',c',ks',t',xa,xn,xc,abR,e',g1,g2,g3.ex hx,g4,g5⟩
theorem Gr.ex{b:Nat}{H':aa}{ra na:Option Addr}{rn nn:Nat}{rcs bW:List Value}(hG:Gr b H ra rn rcs na nn bW)(hx:Ext H H'):Gr b H' ra rn rcs na nn bW:=by
 obtain⟨g1,g2,g3,g4,g5,g6⟩:=hG
 exact⟨g1.ex hx,g2,g3,g4.ex hx,g5,fun i hi=>(g6 i hi).st hx fun _ h=>nomatch h⟩
theorem qX.back{b:Nat}{H':aa}{ra na:Option Addr}{rn nn:Nat}{rcs bW:List Value}(hG:Gr b H ra rn rcs na nn bW)(hx:Ext H H')(h:qX (b≤·) H' rn rcs nn bW):qX (b≤·) H rn rcs nn bW:=
 ⟨fun i hi=>(h.1 i hi).back (hG.2.2.2.2.2 i hi) hx,h.2⟩
def Cx(F:Nat→Prop)(H:aa)(rn:Nat)(rcs:List Value)(nn:Nat)(bW:List Value):Prop:=qX F H rn rcs nn bW∧1≤rn∧∀i,i +1<rn→rootOf rcs i<rootOf rcs (i +1)
theorem KN(hw:Wf H){b:Nat}{ra na:Option Addr}{rn rc nn nc:Nat}{rcs bW:List Value}(hG:Gr b H ra rn rcs na nn bW):ak Pg X 149 [gV ra rn rc na nn nc] H (Q1 (fun v _=>∃t:Bool,v=.bool t∧(t=true→Cx (b≤·) H rn rcs nn bW)) H):=by
 have hS:=SH.refl hw
 have g2:=hG.2.1
 refine ce [0,1,2,3] ?_;refine tl ?_
 refine hS.box rfl fun H1 rg hS=>?_
 repeat(first|(simp only[PP,Nat.reduceBEq,aj hS.wf])|(refine hS.aZ ?_))
 refine ae (fun hc=>?_) (fun hc=>?_)
 ·refine rr ?_;exact⟨⟨false,rfl,fun h=>by cases h⟩,hS.ext⟩
 refine hS.bZ ?_
 have hx1:=hS.ext
 refine ak.mono (Cv hS.wf (hG.ex hx1)) ?_
 rintro v H2 ⟨⟨t,rfl,ht⟩,hx⟩
 have hS:=hS.call hx
 simp only[PP,Nat.reduceBEq]
 refine aC (fun hb=>?_) (fun hb=>?_)
 ·refine rr ?_;exact⟨⟨false,rfl,fun h=>by cases h⟩,hS.ext⟩
 have hR:=qX.back hG hx1 (ht (by cases t with
  |true=>rfl
  |false=>cases hb))
 refine tl ?_
 refine lp2 2 3 (I:=fun m x2 x3 H'=>∃i:Nat,x2=.bool false∧x3=vn i∧1≤i∧i +m=rn∧(∀j,j +1<i→rootOf rcs j<rootOf rcs (j +1))∧SH [] H H' [(rg,69,[.slice ra rn rc,.slice na nn nc])]) ?_ (rn -1) ⟨1,rfl,rfl,by omega,by omega,fun j h=>absurd h (by omega),hS⟩
 clear hS
 rintro m x2 x3 dI H2 ⟨i,rfl,rfl,hi1,him,hr,hS⟩
 refine tl ?_
 repeat(first|(simp only[PP,Nat.reduceBEq,aj hS.wf])|(refine hS.aZ ?_))
 refine ae (fun hc=>?_) (fun hc=>?_)
 ·obtain⟨r1,o1,mU,u1,f1,w1,c1,a1,e1,hl1,oV,jC,_,_⟩:=hG.ru (i:=i) (by omega) rc
  obtain⟨r2,o2,nm2,u2,f2,w2,c2,a2,e2,hl2,OV,nE,_,_⟩:=hG.ru (i:=i -1) (by omega) rc
  refine hS.jf ?_;simp only[PP,Nat.reduceBEq,aj hS.wf]
  rw[e1]
  simp only[PP,Nat.reduceBEq,aj hS.wf]
  refine hS.Dh (jC 5 _ (by omega) rfl) hl1 ?_
  repeat(first|(simp only[PP,Nat.reduceBEq,aj hS.wf])|(refine hS.jf ?_))
  refine PU.of (ax (by omega) (by omega)) ?_
  rw[show((i:Int) -1)=((i -1:Nat):Int) by omega,e2]
  simp only[PP,Nat.reduceBEq,aj hS.wf]
  refine hS.Dh (nE 5 _ (by omega) rfl) hl2 ?_
  simp only[PP,Nat.reduceBEq,aj hS.wf];refine cK (by simp only[aA,az (Ext.refl (hN _))];rfl) ?_
  refine ae (fun hc2=>?_) (fun hc2=>?_)
  ·refine rr ?_;exact⟨⟨false,rfl,fun h=>by cases h⟩,hS.ext⟩
  refine PU.of (au (by omega) (by omega)) ?_
  refine⟨rn -(i +1),by omega,_,_,_,_,rfl,i +1,rfl,by rw[show((i:Int) +1)=((i +1:Nat):Int) by omega],by omega,by omega,fun j hj=>?_,hS⟩
  rcases Nat.lt_or_ge (j +1) i with h|h
  ·exact hr j h
  ·obtain rfl:i=j +1:=by omega
   rw[Nat.add_sub_cancel]at hc2
   omega
 refine tl ?_
 refine rr ?_;exact⟨⟨true,rfl,fun _=>⟨hR,by omega,fun j hj=>hr j (by omega)⟩⟩,hS.ext⟩
theorem Er(hw:Wf H){b:Nat}{ra na:Option Addr}{rn rc nn nc i:Nat}{rcs bW:List Value}(hG:Gr b H ra rn rcs na nn bW)(hi:i<rn)(hB:∀j,j<rn→0≤rootOf rcs j∧rootOf rcs j<nn):ak Pg X 151 [gV ra rn rc na nn nc,vn i] H (Q1 (fun v _=>∃k:Nat,v=vn k∧k≤nn) H):=by
 have hS:=SH.refl hw
 have g2:=hG.2.1
 have g5:=hG.2.2.2.2.1
 refine ce [0,1,2,4] ?_;refine tl ?_
 refine hS.box rfl fun H1 rg hS=>?_
 simp only[PP,Nat.reduceBEq,aj hS.wf]
 refine ae (fun hc=>?_) (fun hc=>?_)
 ·refine rr ?_;exact⟨⟨0,rfl,by omega⟩,hS.ext⟩
 refine hS.aZ ?_
 obtain⟨r2,o2,nm2,u2,f2,w2,c2,a2,e2,hl2,OV,nE,_,_⟩:=hG.ru (i:=i -1) (by omega) rc
 refine PU.of (ax (by omega) (by omega)) ?_
 rw[show((i:Int) -1)=((i -1:Nat):Int) by omega,e2]
 simp only[PP,Nat.reduceBEq,aj hS.wf]
 refine hS.Dg (nE 5 _ (by omega) rfl) hl2 ?_
 have hb:=hB (i -1) (by omega)
 refine PU.of (au (by omega) (by omega)) ?_
 refine rr ?_;exact⟨⟨(rootOf rcs (i -1) +1).toNat,by show vi _=vi (((rootOf rcs (i -1) +1).toNat:Nat):Int);rw[Int.toNat_of_nonneg (by omega)],by omega⟩,hS.ext⟩
end Go.Proofs.Lu
set_option maxRecDepth 100000
set_option maxHeartbeats 4000000
namespace Go.Proofs.Lu
open Go.Ae Go.Ae.M
variable{H0 H:aa}{L M:List aK}{S:List Nat}{F:Nat→Prop}
abbrev OW(m:List (ByteArray×Value)):List (Value×Value):=m.map fun p=>(.string p.1,p.2)
def jG(H:aa)(r:Nat)(m:List (ByteArray×Value)):Prop:=r<H.next∧H.obj r=.map (OW m)
theorem jG.ex{H H':aa}{S:List Nat}{r:Nat}{m:List (ByteArray×Value)}(h:jG H r m)(hx:kS S H H')(hr:r∉S):jG H' r m:=⟨Nat.lt_of_lt_of_le h.1 hx.next,(hx.obj r h.1 hr).trans h.2⟩
theorem _root_.Go.Ae.SH.wE{r:Nat}{m:List (ByteArray×Value)}(hS:SH S H0 H L)(h:jG H r m):r∉L.map (·.1):=fun hr=>by
 obtain⟨e,he,rfl⟩:=List.mem_map.1 hr
 obtain⟨R,h1,_⟩:=hS.bk e he
 rw[h.2]at h1
 cases h1
theorem TA{a b:ByteArray}(h:iJ a b=true):a=b:=by
 rw[nX]at h
 have h:=eq_of_beq h
 rw[ByteArray.toList_eq,ByteArray.toList_eq]at h
 exact ByteArray.ext (Array.toList_inj.1 h)
theorem wF(a:ByteArray):iJ a a=true:=by rw[nX];exact beq_self_eq_true _
theorem Es{t:TypeId}(ht:∀a b,ik Pg t (.string a) (.string b)=some (iJ a b))(k:ByteArray):∀(m:List (ByteArray×Value))(i:Nat),∃f:Option (Nat×Value),kY Pg t (.string k) (OW m) i=some f∧(∀j v,f=some (j,v)→i≤j∧m[j -i]?=some (k,v))∧(f=none→∀p∈m,p.1≠k):=by
 intro m
 induction m with
 |nil=>exact fun i=>⟨none,rfl,fun j v h=>by(cases h),fun _ p h=>nomatch h⟩
 |cons p m ih=>
  intro i
  show∃f,(ai (ik Pg t (.string k) (.string p.1)) fun b=>av b (some (some (i,p.2))) (kY Pg t (.string k) (OW m) (Nat.succ i)))=some f∧_
  rw[ht]
  cases hb:iJ k p.1 with
  |true=>
   have:=TA hb
   refine⟨some (i,p.2),rfl,fun j v h=>?_,fun h=>by cases h⟩
   cases h
   exact⟨Nat.le_refl _,by rw[Nat.sub_self,this];rfl⟩
  |false=>
   obtain⟨f,h1,h2,h3⟩:=ih (Nat.succ i)
   refine⟨f,h1,fun j v h=>?_,fun h q hq=>?_⟩
   ·obtain⟨g1,g2⟩:=h2 j v h
    refine⟨by omega,?_⟩
    rw[show j -i=(j -i.succ) +1 by omega]
    exact g2
   ·rcases List.mem_cons.1 hq with rfl|hq
    ·intro e;rw[←e,wF]at hb;cases hb
    ·exact h3 h q hq
theorem ME.look{t kt vt:TypeId}{z:Value}{r:Nat}{m:List (ByteArray×Value)}{k:ByteArray}{ok:Bool}{K:Value→aa→Prop}(hm:jG H r m)(h1:qz Pg t=some (kt,vt))(h2:uW Pg vt=some z)(h3:∀a b,ik Pg kt (.string a) (.string b)=some (iJ a b))
 (kk:∀f:Option Value,(∀v,f=some v→(k,v)∈m)→(f=none→∀p∈m,p.1≠k)→K (ZY ok (f.getD z) f.isSome H).1 H):ME (lX Pg t (.map (some r)) (.string k) ok H) K:=by
 obtain⟨f,e,g1,g2⟩:=Es h3 k m 0
 have hk:u_ Pg kt (.string k)=some ():=by
  show ai (ik Pg kt (.string k) (.string k)) _=_
  rw[h3,wF];rfl
 have hmo:mapOf H (.map (some r))=some (OW m):=by
  show Ez (H.obj r)=_
  rw[hm.2];rfl
 have:lX Pg t (.map (some r)) (.string k) ok H=some (ZY ok ((f.map (·.2)).getD z) (f.map (·.2)).isSome H):=by
  show(ai (qz Pg t) fun q=>ai (uW Pg q.2) fun z=>ai (mapOf H (.map (some r))) fun es=>ai (u_ Pg q.1 (.string k)) fun _=>ai (kY Pg q.1 (.string k) es 0) fun f=>_)=_
  rw[h1]
  show(ai (uW Pg vt) fun z=>ai (mapOf H (.map (some r))) fun es=>ai (u_ Pg kt (.string k)) fun _=>ai (kY Pg kt (.string k) es 0) fun f=>_)=_
  rw[h2,hmo,hk]
  show ai (kY Pg kt (.string k) (OW m) 0) _=_
  rw[e]
  cases f<;>rfl
 have hK:=kk (f.map (·.2)) (fun v h=>?_) (fun h=>?_)
 ·rw[this]
  cases ok<;>exact ME.of rfl hK
 ·cases f with
  |none=>cases h
  |some p=>cases h;exact List.mem_of_getElem? (g1 p.1 p.2 rfl).2
 ·cases f with
  |none=>exact g2 rfl
  |some p=>cases h
theorem _root_.Go.Ae.SH.upd{t kt vt:TypeId}{r:Nat}{m:List (ByteArray×Value)}{k:ByteArray}{v:Value}{K:Value→aa→Prop}(hS:SH S H0 H L)(hr:r∈S∨H0.next≤r)(hm:jG H r m)(h1:qz Pg t=some (kt,vt))(h3:∀a b,ik Pg kt (.string a) (.string b)=some (iJ a b))
 (kk:∀H' m',jG H' r m'→(∀p∈m',p∈m∨p=(k,v))→SH S H0 H' L→K undef H'):ME (jc Pg t (.map (some r)) (.string k) v H) K:=by
 obtain⟨f,e,g1,g2⟩:=Es h3 k m 0
 have hk:u_ Pg kt (.string k)=some ():=by
  show ai (ik Pg kt (.string k) (.string k)) _=_
  rw[h3,wF];rfl
 have key:∃m',(∀p∈m',p∈m∨p=(k,v))∧jc Pg t (.map (some r)) (.string k) v H=some (undef,H.put r (.map (OW m'))):=by
  have:jc Pg t (.map (some r)) (.string k) v H=@Option.rec (Nat×Value) (fun _=>Option (Value×aa)) (some (undef,H.put r (.map (app (OW m) [(.string k,v)])))) (fun p=>some (undef,H.put r (.map (setAt (.string k,v) p.1 (OW m))))) f:=by
   show(ai (qz Pg t) fun q=>ai (Ez (H.obj r)) fun es=>ai (u_ Pg q.1 (.string k)) fun _=>ai (kY Pg q.1 (.string k) es 0) fun f=>_)=_
   rw[h1]
   show(ai (Ez (H.obj r)) fun es=>ai (u_ Pg kt (.string k)) fun _=>ai (kY Pg kt (.string k) es 0) fun f=>_)=_
   rw[hm.2,hk]
   show ai (kY Pg kt (.string k) (OW m) 0) _=_
   rw[e];rfl
  rw[this]
  cases f with
  |none=>
   refine⟨m++[(k,v)],fun p hp=>?_,?_⟩
   ·rcases List.mem_append.1 hp with h|h
    ·exact .inl h
    ·exact .inr (by simpa using h)
   ·show some (undef,H.put r (.map (app (OW m) [(.string k,v)])))=_
    rw[iY];simp[OW]
  |some q=>
   refine⟨m.set q.1 (k,v),fun p hp=>?_,?_⟩
   ·rcases List.mem_or_eq_of_mem_set hp with h|h
    ·exact .inl h
    ·exact .inr h
   ·show some (undef,H.put r (.map (setAt (.string k,v) q.1 (OW m))))=_
    rw[sF];simp[OW,List.map_set]
 obtain⟨m',hm',e'⟩:=key
 refine ME.of e' (kk _ m' ⟨hm.1,by rw[p9,if_pos rfl]⟩ hm' ?_)
 have hn:=SH.wE hS hm
 refine⟨kS.later hS.ext (kS.put H r _) (fun q hq=>by rw[List.mem_singleton]at hq;subst hq;exact hr),fun e he=>(hS.bk e he).fO ?_,hS.lo,hS.ne,?_⟩
 ·rw[p9,if_neg fun h=>hn (by rw[←h];exact List.mem_map.2 ⟨e,he,rfl⟩)]
 ·rw[kI]
  have:=hS.wf
  show min H.low r≤H.next
  omega
theorem ME.mkMap{t:TypeId}{q:TypeId×TypeId}{n:Int}{K:Value→aa→Prop}(hS:SH S H0 H L)(h1:qz Pg t=some q)(kk:∀H' r,jG H' r []→Ext H H'→H.next≤r→SH S H0 H' L→K (.map (some r)) H'):ME (kD Pg t (some (vi n)) H) K:=by
 refine ME.of (v:=.map (some H.next)) (H:=H.new (.map [])) ?_ (kk _ _ ⟨Nat.lt_succ_self _,by rw[nZ,if_pos rfl];rfl⟩ (Ext.new _ _) (Nat.le_refl _) (hS.call (Ext.new _ _)))
 show ai (qz Pg t) _=_
 rw[h1];rfl
theorem ME.I1{t kt vt:TypeId}{z:Value}{r:Nat}{m:List (ByteArray×Value)}{k:ByteArray}{K:Value→aa→Prop}(hm:jG H r m)(h1:qz Pg t=some (kt,vt))(h2:uW Pg vt=some z)(h3:∀a b,ik Pg kt (.string a) (.string b)=some (iJ a b))
 (kk:∀f:Option Value,(∀v,f=some v→(k,v)∈m)→(f=none→∀p∈m,p.1≠k)→K (.tuple ⟨[f.getD z,.bool f.isSome]⟩) H):ME (lX Pg t (.map (some r)) (.string k) true H) K:=ME.look hm h1 h2 h3 kk
theorem ME.X5{t kt vt:TypeId}{z:Value}{r:Nat}{m:List (ByteArray×Value)}{k:ByteArray}{K:Value→aa→Prop}(hm:jG H r m)(h1:qz Pg t=some (kt,vt))(h2:uW Pg vt=some z)(h3:∀a b,ik Pg kt (.string a) (.string b)=some (iJ a b))
 (kk:∀f:Option Value,(∀v,f=some v→(k,v)∈m)→(f=none→∀p∈m,p.1≠k)→K (f.getD z) H):ME (lX Pg t (.map (some r)) (.string k) false H) K:=ME.look hm h1 h2 h3 kk
theorem qY:qz Pg 143=some (9,3):=by kernel_rfl
theorem I4:uW Pg 3=some (vi 0):=by kernel_rfl
theorem UF(a b:ByteArray):ik Pg 9 (.string a) (.string b)=some (iJ a b):=by kernel_rfl
def FX(rn:Nat)(m:List (ByteArray×Value)):Prop:=∀p∈m,∃i:Nat,i<rn∧p.2=vn i
theorem KP(hw:Wf H){b:Nat}{ra na:Option Addr}{rn rc nn nc:Nat}{rcs bW:List Value}(hG:Gr b H ra rn rcs na nn bW):ak Pg X 150 [gV ra rn rc na nn nc] H fun v H'=>∃r m,v=.map (some r)∧jG H' r m∧FX rn m∧Ext H H'∧H.next≤r:=by
 have hS:=SH.refl hw
 have g2:=hG.2.1
 refine ce [0,1,2,3,4,5,7,13,14,15] ?_;refine tl ?_
 refine hS.box rfl fun H1 rg hS=>?_
 repeat(first|(simp only[PP,Nat.reduceBEq,aj hS.wf])|(refine hS.aZ ?_))
 have hge:=hS.ext.next
 refine ME.mkMap hS qY fun H2 r hm hx hr hS=>?_
 refine hS.aZ ?_;simp only[PP,Nat.reduceBEq,aj hS.wf]
 refine Iv 4 5 7 15 (I:=fun m x4 x5 x7 bL H'=>∃(i:Nat)(mm:List (ByteArray×Value)),bL=vn i∧i +m=rn∧jG H' r mm∧FX rn mm∧SH [] H H' [(rg,69,[.slice ra rn rc,.slice na nn nc])]) ?_ rn ⟨0,[],rfl,by omega,hm,(fun p h=>nomatch h),hS⟩
 have hrn:H.next≤r:=by omega
 clear hS hm
 rintro m x4 x5 x7 bL dI H3 ⟨i,mm,rfl,him,hm,hnm,hS⟩
 refine tl ?_
 simp only[PP,Nat.reduceBEq]
 refine ae (fun hc=>?_) (fun hc=>?_)
 ·obtain⟨r1,o1,mU,u1,f1,w1,c1,a1,e1,hl1,oV,jC,hsz,_⟩:=hG.ru (i:=i) (by omega) rc
  rw[e1]
  simp only[PP,Nat.reduceBEq]
  refine hS.p_ oV hl1 ?_
  refine hS.jF rfl rfl rfl fun H4 ru hS hx4=>?_
  have hm:=hm.ex hx4 (fun h=>nomatch h)
  have hS:SH [] H H4 [(ru,141,kT mU u1 f1 w1 c1 (rootOf rcs i) a1),(rg,69,[.slice ra rn rc,.slice na nn nc])]:=hS
  simp only[PP,Nat.reduceBEq,aj hS.wf];refine hS.aZ ?_
  refine ME.I1 hm qY I4 UF fun f hf hn=>?_
  simp only[PP,Nat.reduceBEq,aj hS.wf]
  have next:∀x(H5:aa) PG oU,jG H5 r PG→FX rn PG→SH [] H H5 [(ru,141,kT mU u1 f1 w1 c1 (rootOf rcs i) a1),(rg,69,[.slice ra rn rc,.slice na nn nc])]→∃m_1,m_1<m∧tQ (gV ra rn rc na nn nc) (.pointer (some ⟨rg,0,none⟩)) (.map none) (.map (some r)) (.slice ra rn rc) (vn rn) (fun m x4 x5 x7 bL H'=>∃(i:Nat)(mm:List (ByteArray×Value)),bL=vn i∧i +m=rn∧jG H' r mm∧FX rn mm∧SH [] H H' [(rg,69,[.slice ra rn rc,.slice na nn nc])]) m_1 (tO (gV ra rn rc na nn nc) (.pointer (some ⟨rg,0,none⟩)) (.map none) (.map (some r)) (vn i) (.pointer (some ⟨ru,0,none⟩)) x (.slice ra rn rc) (vn rn) (vi ((i:Int) +1)) oU H5):=by
   intro x H5 PG oU h1 h2 h3
   exact⟨rn -(i +1),by omega,_,_,_,_,_,_,rfl,i +1,PG,by rw[show((i:Int) +1)=((i +1:Nat):Int) by omega],by omega,h1,h2,SH.drop (A:=[_]) h3⟩
  refine aC (fun hb=>?_) (fun hb=>?_)
  ·refine hS.aZ ?_
   refine hS.upd (.inr hrn) hm qY UF fun H5 PG hm' hmm hS=>?_
   refine PU.of (au (by omega) (by omega)) ?_
   refine next _ _ _ _ hm' (fun p hp=>?_) hS
   rcases hmm p hp with h|rfl
   ·exact hnm p h
   ·exact⟨i,by omega,rfl⟩
  ·refine PU.of (au (by omega) (by omega)) ?_
   exact next _ _ _ _ hm hnm hS
 refine tl ?_
 refine rr ?_;exact⟨r,mm,rfl,hm,hnm,hS.ext,hrn⟩
end Go.Proofs.Lu
set_option maxRecDepth 100000
set_option maxHeartbeats 4000000
namespace Go.Proofs.Lu
open Go.Ae Go.Ae.M
variable{H0 H:aa}{L M:List aK}{S:List Nat}{F:Nat→Prop}
theorem KQ(hw:Wf H){b:Nat}{ra na:Option Addr}{rn rc nn nc r:Nat}{rcs bW:List Value}{m:List (ByteArray×Value)}(hG:Gr b H ra rn rcs na nn bW)(hm:jG H r m)(hnm:FX rn m){nm:ByteArray}{u f w:Bool}{ch root at' kd at2:Int}{a a2:Option Addr}{n c n2 c2:Nat}{t:ByteArray}:
 ak Pg X 152 [gV ra rn rc na nn nc,.map (some r),.agg ⟨kT nm u f w ch root at'⟩,.agg ⟨[vi kd,.slice a n c,.string t,.slice a2 n2 c2,vi at2]⟩] H (Q1 (fun v _=>∃z:Int,v=vi z) H):=by
 have hS:=SH.refl hw
 have g2:=hG.2.1
 refine ce [0,1,2,3,4,6,7,8,9,10,11,13] ?_;refine tl ?_
 refine hS.box rfl fun H1 rg hS=>?_
 refine hS.box rfl fun H1 rr hS=>?_
 refine hS.box rfl fun H1 Zr hS=>?_
 repeat(first|(simp only[PP,Nat.reduceBEq,aj hS.wf])|(refine hS.aZ ?_))
 refine ae (fun hc=>?_) (fun hc=>?_)
 ·refine hS.aZ ?_;simp only[PP,Nat.reduceBEq,aj hS.wf]
  refine aC (fun hb=>?_) (fun hb=>?_)
  ·refine Lu.rr ?_;exact⟨⟨_,rfl⟩,hS.ext⟩
  ·refine Lu.rr ?_;exact⟨⟨_,rfl⟩,hS.ext⟩
 refine ae (fun hc=>?_) (fun hc=>?_)
 rotate_left
 ·refine Lu.rr ?_;exact⟨⟨_,rfl⟩,hS.ext⟩
 refine hS.aZ ?_
 have hm1:=hm.ex hS.ext (fun h=>nomatch h)
 refine ME.I1 hm1 qY I4 UF fun f' hf hn=>?_
 simp only[PP,Nat.reduceBEq,aj hS.wf]
 refine aC (fun hb=>?_) (fun hb=>?_)
 ·refine Lu.rr ?_;exact⟨⟨_,rfl⟩,hS.ext⟩
 cases f' with
 |none=>cases hb
 |some v=>
  obtain⟨i,hi,hv⟩:=hnm _ (hf v rfl)
  have hv:v=vn i:=hv
  subst hv
  obtain⟨r1,o1,mU,u1,f1,w1,c1,a1,e1,hl1,oV,jC,hsz,_⟩:=hG.ru (i:=i) hi rc
  simp only[Option.getD_some]
  refine hS.aZ ?_
  rw[e1]
  simp only[PP,Nat.reduceBEq,aj hS.wf]
  refine hS.p_ oV hl1 ?_
  refine hS.jF rfl rfl rfl fun H4 ru hS hx4=>?_
  have hS:SH [] H H4 [(ru,141,kT mU u1 f1 w1 c1 (rootOf rcs i) a1),(Zr,145,[vi kd,.slice a n c,.string t,.slice a2 n2 c2,vi at2]),(rr,141,kT nm u f w ch root at'),(rg,69,[.slice ra rn rc,.slice na nn nc])]:=hS
  repeat' (first|(refine Lu.rr ?_;exact⟨⟨_,rfl⟩,hS.ext⟩)|(refine ae (fun hc=>?_) (fun hc=>?_))|(refine aC (fun hb=>?_) (fun hb=>?_))|first|(simp only[PP,Nat.reduceBEq,aj hS.wf])|(refine PU.b1 rfl ?_)|(refine PU.b2 rfl ?_)|(refine PU.b3 rfl ?_)|(refine PU.b4 rfl ?_)|(refine PU.b5 rfl ?_)|(refine PU.b6 rfl ?_)|(refine PU.b7 rfl ?_)|(refine PU.b8 rfl ?_)|(refine PU.b9 rfl ?_)|(refine hS.aZ ?_)|(refine hS.bZ ?_)|(refine hS.jf ?_)|(refine hS.og ?_)|(refine hS.jd fun Hn hS=>?_)|(refine hS.qh fun Hn hS=>?_)|(refine cK (by simp only[aA,az (Ext.refl (hN _))];rfl) ?_))
end Go.Proofs.Lu
set_option maxRecDepth 100000
set_option maxHeartbeats 4000000
namespace Go.Proofs.Lu
open Go.Ae Go.Ae.M
variable{H0 H:aa}{L M:List aK}{S:List Nat}{F:Nat→Prop}{Q:Int→Prop}{r n c:Nat}{ty:TypeId}
theorem KS(hn:n≤1000000)(hB:Nm Q r ty n H0 H L):ak Pg X 55 [sl r n c] H fun v H'=>Nm Q r ty n H0 H' L:=by
 refine ce [0,2] ?_;refine tl ?_
 simp only[PP,Nat.reduceBEq]
 rw[mD (u64_in (by omega))]
 refine ak.mono (uf _ (by omega) (by omega)) ?_
 rintro v H' ⟨⟨l,rfl,h1,_⟩,rfl⟩
 refine ak.mono (Ti hn _ H0 H' L hB 0 n l (by omega) (by omega) (by omega) (by omega) (by omega) (Nat.le_refl _)) ?_
 intro v H1 hB
 refine rn ?_;exact hB
theorem I5(v:Value):ak Pg X 129 [v,vi 0,vi 0] H fun _ H'=>H'=H:=by
 refine ce [0,1,2,6,7] ?_;refine tl ?_
 refine PU.of (au (by omega) (by omega)) ?_
 refine lp2 6 7 (I:=fun m x8 x9 H'=>x8=vi 1∧H'=H) ?_ 0 ⟨rfl,rfl⟩
 rintro m x8 x9 rg H' ⟨rfl,rfl⟩
 refine tl ?_
 simp only[PP,Nat.reduceBEq]
 rw[decide_eq_false (by omega)]
 simp only[PP,Nat.reduceBEq]
 refine rn ?_;exact rfl
theorem abS(v l:Value):ak Pg X 95 [v,vi 0,vi 0,l] H fun _ H'=>H'=H:=by
 refine ce [0,1,2,3,8,9,10,11,12,13,14,15,16,17,18] ?_;refine tl ?_
 refine VH 1 2 3 8 9 10 11 12 13 14 15 16 17 18 (I:=fun k x1 x2 x3 x8 x9 aW bn bT bJ eF bL dL iI jH H'=>x1=vi 0∧x2=vi 0∧H'=H) ?_ 0 ⟨rfl,rfl,rfl⟩
 rintro k x1 x2 x3 x8 x9 aW bn bT bJ eF bL dL iI jH rg H' ⟨rfl,rfl,rfl⟩
 refine tl ?_
 refine PU.of (ax (by omega) (by omega)) ?_
 simp only[PP,Nat.reduceBEq]
 rw[decide_eq_true (by omega)]
 simp only[PP,Nat.reduceBEq]
 refine ak.mono (I5 _) ?_
 rintro _ _ rfl
 refine rr ?_;exact rfl
theorem Zs:ak Pg X 55 [.slice none 0 0] H fun v H'=>H'=H:=by
 refine ce [0,2] ?_;refine tl ?_
 simp only[PP,Nat.reduceBEq]
 rw[mD (u64_in (by omega))]
 refine ak.mono (uf _ (by omega) (by omega)) ?_
 rintro v H' ⟨⟨l,rfl,h1,_⟩,rfl⟩
 refine ak.mono (abS _ _) ?_
 rintro v H1 rfl
 refine rn ?_;exact rfl
theorem _root_.Go.Ae.SB.i1N(h:SB (vX Q) r ty 1 n H0 H L){o:Nat}(hz:o<n){K:Value→aa→Prop}(k:∀x,Q x→K (vi x) H):ME (jX none (.pointer (some ⟨r,o,none⟩)) H) K:=by
 have:=SB.i1 h (z:=(o:Int)) (by omega) (by omega) k
 rwa [show((o:Int).toNat*1)=o by omega]at this
theorem _root_.Go.Ae.SB.Zt(h:SB (vX Q) r ty 1 n H0 H L){o:Nat}(hz:o<n){K:Value→aa→Prop}(k:∀x,Q x→K (vi x) (hN H)):ME (jX none (.pointer (some ⟨r,o,none⟩)) (hN H)) K:=SB.i1N h.o8 hz k
theorem _root_.Go.Ae.SB.iwN(h:SB (vX Q) r ty 1 n H0 H L){o:Nat}(hz:o<n){x:Int}(hx:Q x){K:Value→aa→Prop}(k:∀H1,SB (vX Q) r ty 1 n H0 H1 L→K undef H1):ME (Aw 1 (.pointer (some ⟨r,o,none⟩)) (vi x) H) K:=by
 have:=SB.iw h (z:=(o:Int)) (by omega) (by omega) hx k
 rwa [show((o:Int).toNat*1)=o by omega]at this
theorem iC{r o n c k:Nat}(h:k<n):q_ 1 (.slice (some ⟨r,o,none⟩) n c) (vn k)=some (.pointer (some ⟨r,o +k,none⟩)):=by rw[n_ h,Nat.mul_one]
theorem KT{r o n w:Nat}(h:w≤n):WZ 1 (.slice (some ⟨r,o,none⟩) n (aT 1)) (some (vn w)) none none=some (.slice (some ⟨r,o +w,none⟩) (n -w) (aT 1)):=by rw[RG h,Nat.mul_one]
theorem _root_.Go.Ae.SB.clr(h:SB (vX Q) r ty 1 n H0 H L){w:Nat}(hw:w≤n){K:Value→aa→Prop}(k:∀H1,SB (vX Q) r ty 1 w H0 H1 L→K (.tuple ⟨[]⟩) H1):ME (clA [.int .i64 0] (.slice (some ⟨r,w,none⟩) (n -w) (aT 1)) H) K:=by
 obtain⟨cs,h1,h2,hS⟩:=h
 have hl:(gM [.int .i64 0] (n -w)).length=n -w:=by rw[GJ];simp
 obtain⟨H1,e,hS1,_⟩:=hS.qN 0 (r:=r) (o:=w) (vs:=gM [.int .i64 0] (n -w)) rfl (by omega) (by
  rw[gP]
  induction n -w with
  |zero=>rfl
  |succ d ih=>exact ih)
 have:clA [.int .i64 0] (.slice (some ⟨r,w,none⟩) (n -w) (aT 1)) H=some (.tuple ⟨[]⟩,H1):=by
  show(ai (H.write r w (gM [.int .i64 0] (n -w))) fun H'=>some (Value.tuple #[],H'))=_
  rw[e];rfl
 refine ME.of this (k H1 ⟨splice cs w (gM [.int .i64 0] (n -w)),?_,fun j hj=>?_,hS1⟩)
 ·rw[dM (by omega)];omega
 ·have he:El (splice cs w (gM [.int .i64 0] (n -w))) 1 j=El cs 1 j:=by
   apply List.ext_getElem?
   intro i
   rw[jb,jb,gZ (by omega)]
   by_cases hi:i<1
   ·rw[if_pos hi,if_pos hi,if_neg (by omega)]
   ·rw[if_neg hi,if_neg hi]
  rw[he]
  exact h2 j (by omega)
theorem _root_.Go.Ae.SB.less(h:SB (vX Q) r ty 1 n H0 H L){w:Nat}(hw:w≤n):SB (vX Q) r ty 1 w H0 H L:=by
 obtain⟨cs,h1,h2,hS⟩:=h
 exact⟨cs,by omega,fun k hk=>h2 k (by omega),hS⟩
theorem FY(hn:n≤1000000)(hB:Nm Q r ty n H0 H L):ak Pg X 57 [sl r n (aT 1)] H fun v H'=>∃n',n'≤n∧v=sl r n' (aT 1)∧Nm Q r ty n' H0 H' L:=by
 refine ce [0,2,3,4,5] ?_;refine tl ?_
 simp only[PP,Nat.reduceBEq]
 refine ae (fun hc=>?_) (fun hc=>?_)
 ·refine rr ?_;exact⟨n,Nat.le_refl _,rfl,hB⟩
 refine Iv 2 3 4 5 (I:=fun m x2 x3 x4 x5 H'=>∃k:Nat,x3=vn k∧1≤k∧k +m=n∧Nm Q r ty n H0 H' L) ?_ (n -1) ⟨1,rfl,by omega,by omega,hB⟩
 clear hB
 rintro m x2 x3 x4 x5 rg H1 ⟨k,rfl,hk1,hkm,hB⟩
 refine tl ?_
 simp only[PP,Nat.reduceBEq]
 refine ae (fun hc2=>?_) (fun hc2=>?_)
 rotate_left
 ·refine tl ?_
  refine rr ?_;exact⟨n,Nat.le_refl _,rfl,hB⟩
 refine PU.of (iC (by omega)) ?_
 refine hB.Zt (by omega) fun x hx=>?_
 repeat(first|(simp only[PP,Nat.reduceBEq,aj hB.wf])|(with_reducible refine PU.of (ax (by omega) (by omega)) ?_)|(with_reducible refine PU.of (aG (by omega) (by omega)) ?_)|(with_reducible refine hB.wL (by omega) (by omega) fun z hz=>?_)|((with_reducible refine And.intro ?_ ?_);focus ((try simp only[aA,aB,az (Ext.refl (hN _))]);kernel_rfl)))
 refine ae (fun hc3=>?_) (fun hc3=>?_)
 rotate_left
 ·refine PU.of (au (by omega) (by omega)) ?_
  exact⟨n -(k +1),by omega,_,_,_,_,_,_,rfl,k +1,by rw[show((k:Int) +1)=((k +1:Nat):Int) by omega],by omega,by omega,hB⟩
 refine PU.of (KT (by omega)) ?_
 refine lp2 3 5 (I:=fun m' x3 x5 H'=>∃k' k2:Nat,x3=vn k'∧x5=vn k2∧1≤k2∧k'≤k +k2∧k +k2≤n∧k' +1≤k +k2∧k +k2 +m'=n∧Nm Q r ty n H0 H' L) ?_ (n -k -1) ⟨k,1,rfl,rfl,by omega,by omega,by omega,by omega,by omega,hB⟩
 clear hB
 rintro m' x3 x5 rg H2 ⟨k',k2,rfl,rfl,h1,h2,h3,h4,h5,hB⟩
 refine tl ?_
 simp only[PP,Nat.reduceBEq]
 refine ae (fun hc4=>?_) (fun hc4=>?_)
 rotate_left
 ·refine tl ?_
  refine PU.of (KT (by omega)) ?_
  rw[Nat.zero_add]
  refine hB.clr (by omega) fun H3 hB=>?_
  refine PU.of (vY (by omega)) ?_
  simp only[PP,Nat.reduceBEq]
  refine rr ?_;exact⟨k',by omega,rfl,hB⟩
 refine PU.of (iC (by omega)) ?_
 refine hB.Zt (by omega) fun x hx=>?_
 refine PU.of (ax (by omega) (by omega)) ?_
 rw[show((k2:Int) -1)=((k2 -1:Nat):Int) by omega]
 refine PU.of (iC (by omega)) ?_
 simp only[aj hB.wf]
 refine hB.Zt (by omega) fun y hy=>?_
 simp only[PP,Nat.reduceBEq]
 refine cK (by simp only[aA];rfl) ?_
 simp only[aj hB.wf]
 refine aP (fun WW=>?_) (fun WW=>?_)
 ·refine PU.of (iC (by omega)) ?_
  refine hB.i1N (by omega) fun x hx=>?_
  refine PU.of (iC (by omega)) ?_
  rw[Nat.zero_add]
  refine hB.iwN (by omega) hx fun H3 hB=>?_
  refine PU.of (au (by omega) (by omega)) ?_
  refine PU.of (au (by omega) (by omega)) ?_
  exact⟨m' -1,by omega,_,_,_,_,rfl,k' +1,k2 +1,by rw[show((k':Int) +1)=((k' +1:Nat):Int) by omega],by rw[show((k2:Int) +1)=((k2 +1:Nat):Int) by omega],by omega,by omega,by omega,by omega,by omega,hB⟩
 ·refine PU.of (au (by omega) (by omega)) ?_
  exact⟨m' -1,by omega,_,_,_,_,rfl,k',k2 +1,rfl,by rw[show((k2:Int) +1)=((k2 +1:Nat):Int) by omega],by omega,by omega,by omega,by omega,by omega,hB⟩
theorem TB:ak Pg X 57 [.slice none 0 0] H fun v H'=>v=.slice none 0 0∧H'=H:=by
 refine ce [0,2,3,4,5] ?_;refine tl ?_
 simp only[PP,Nat.reduceBEq]
 rw[decide_eq_true (by omega)]
 simp only[PP,Nat.reduceBEq]
 refine rr ?_;exact⟨rfl,rfl⟩
end Go.Proofs.Lu
set_option maxRecDepth 100000
set_option maxHeartbeats 4000000
namespace Go.Proofs.Lu
open Go.Ae Go.Ae.M
variable{H0 H:aa}{L M:List aK}{S:List Nat}{F:Nat→Prop}{Q:Int→Prop}{r n c:Nat}{ty:TypeId}
def X6(K:Nat)(Q:Int→Prop)(H:aa)(v:Value):Prop:=∃a n c cs,v=.slice a n c∧Fl H a n 1 cs∧n≤K∧∀x∈cs,∃z:Int,x=vi z∧Q z
def Cz(b K:Nat)(Q:Int→Prop)(H:aa)(v:Value):Prop:=∃a n c cs,v=.slice a n c∧fE (b≤·) 3 H a n 1 cs∧n≤K∧∀x∈cs,∃z:Int,x=vi z∧Q z
theorem Cz.nil(b K:Nat)(Q:Int→Prop)(H:aa):Cz b K Q H (.slice none 0 0):=⟨none,0,0,[],rfl,fE.nil _ _ _ _ _,Nat.zero_le _,fun x h=>nomatch h⟩
theorem zU(hw:Wf H){K:Nat}(hK:K≤1000000){v:Value}(hv:X6 K Q H v):ak Pg X 200 [v] H (Q1 (fun v H'=>Cz H.next K Q H' v) H):=by
 obtain⟨a,n,c,cs,rfl,hf,hn,hi⟩:=hv
 have hS:=SH.refl hw
 refine ce [0,2] ?_;refine tl ?_
 rw[tq (by kernel_rfl)]
 simp only[PP,Nat.reduceBEq]
 refine aC (fun hb=>?_) (fun hb=>?_)
 ·refine rr ?_;exact⟨Cz.nil _ _ _ _,Ext.refl _⟩
 ·refine ME.of (Y0 (by omega)) ?_
  have hS:=hS.grow 3 []
  have hge:=hS.ext.next
  refine hS.Ki (by omega) (.inr ⟨_,rfl⟩) (hf.ex hS.ext) (by omega) fun a' c' H1 L' hf' hS'=>?_
  refine rr ?_;exact⟨⟨a',n,c',cs,rfl,hf'.le hge,hn,hi⟩,hS'.ext⟩
theorem Nm.nums{K:Nat}(hB:Nm Q r ty n H0 H L)(hn:n≤K)(c:Nat):X6 K Q H (sl r n c):=by
 obtain⟨cs,h1,h2,hS⟩:=hB
 have hr:=(hS.lo _ (List.mem_cons_self ..)).2
 refine⟨_,n,c,cs.take n,rfl,⟨by rw[List.length_take];omega,fun i x hi=>⟨r,0,rfl,hr,?_⟩⟩,hn,fun x hx=>?_⟩
 ·have hi':i<n:=by
   have:=(List.getElem?_eq_some_iff.1 hi).1
   rw[List.length_take]at this
   omega
  rw[List.getElem?_take,if_pos hi']at hi
  have:=(hS.get 0 rfl).cell hi
  rwa [Nat.zero_add]
 ·obtain⟨i,hi,rfl⟩:=List.getElem_of_mem hx
  have hi0:=hi
  rw[List.length_take,Nat.min_eq_left (by omega)]at hi
  obtain⟨z,e,hq⟩:=h2 i (by omega)
  have h1':=jb cs 1 i 0
  rw[if_pos (Nat.lt_succ_self 0),e,Nat.mul_one,Nat.add_zero,List.getElem?_eq_getElem (show i<cs.length by omega)]at h1'
  refine⟨z,?_,hq⟩
  rw[List.getElem_take]
  exact(Option.some.inj h1').symm
theorem OX{x:Value}{ks:List Value}{gb:List aK}{K:Nat}(hK:K≤1000000)(hg:GB 3 1 x ks gb)(hS:SH [] H0 H (gb++L))(hl:ks.length≤K)(hk:∀x∈ks,∃z:Int,x=vi z∧Q z){Kp:Value→Value→aa→Prop}
 (kk:∀v2 v H',Cz H0.next K Q H' v→Ext H0 H'→Kp v2 v H'):ak Pg X 55 [x] H fun v1 H1=>ak Pg X 57 [x] H1 fun v2 H2=>ak Pg X 200 [v2] H2 (Kp v2):=by
 rcases hg with⟨rfl,rfl,rfl⟩|⟨r,n,aQ,rfl,hn,rfl⟩
 ·refine ak.mono Zs ?_
  rintro _ _ rfl
  refine ak.mono TB ?_
  rintro _ _ ⟨rfl,rfl⟩
  refine ak.mono (zU (Q:=Q) (K:=K) hS.wf hK ⟨none,0,0,[],rfl,Fl.nil _ _ _,Nat.zero_le _,fun x h=>nomatch h⟩) ?_
  rintro v H1 ⟨⟨a,n,c,cs,rfl,h1,h2⟩,hx⟩
  exact kk _ _ _ ⟨a,n,c,cs,rfl,h1.le hS.ext.next,h2⟩ (hS.call hx).ext
 ·have hB:Nm Q r 3 n H0 H L:=by
   refine⟨ks++aQ,by rw[List.length_append];omega,fun k hk'=>?_,hS⟩
   have hkl:k<ks.length:=by omega
   obtain⟨z,e,hq⟩:=hk _ (List.getElem_mem hkl)
   refine⟨z,?_,hq⟩
   rw[←e]
   unfold El
   rw[Nat.mul_one,List.drop_eq_getElem_cons (by rw[List.length_append];omega),List.getElem_append_left hkl];rfl
  refine ak.mono (KS (by omega) hB) ?_
  intro v1 H1 hB
  refine ak.mono (FY (by omega) hB) ?_
  rintro v2 H2 ⟨n',hn',rfl,hB⟩
  refine ak.mono (zU hB.wf hK (Nm.nums hB (by omega) _)) ?_
  rintro v H3 ⟨⟨a,n,c,cs,rfl,h1,h2⟩,hx⟩
  exact kk _ _ _ ⟨a,n,c,cs,rfl,h1.le hB.ext.next,h2⟩ (hB.call hx).ext
abbrev UG(n:Nat)(z:Int):Prop:=0≤z∧z<n
theorem OY(hw:Wf H){b:Nat}{ra na:Option Addr}{rn rc nn nc i r:Nat}{rcs bW:List Value}{m:List (ByteArray×Value)}(hG:Gr b H ra rn rcs na nn bW)(hm:jG H r m)(hnm:FX rn m)(hi:i<rn)(hB:∀j,j<rn→0≤rootOf rcs j∧rootOf rcs j<nn):
 ak Pg X 186 [gV ra rn rc na nn nc,.map (some r),vn i] H (Q1 (fun v H'=>Cz H.next 4001 (UG rn) H' v) H):=by
 have hS:=SH.refl hw
 have g2:=hG.2.1
 have g5:=hG.2.2.2.2.1
 refine ce [0,1,2,3,6,7,8,9,10,11] ?_;refine tl ?_
 refine hS.box rfl fun H1 rg hS=>?_
 refine hS.bZ ?_
 have hx1:=hS.ext
 refine ak.mono (Er hS.wf (hG.ex hx1) hi hB) ?_
 rintro v H2 ⟨⟨k0,rfl,hk0⟩,hx⟩
 have hS:=hS.call hx
 refine VG 7 8 9 10 11 (I:=fun m' x7 x8 x9 aW bn H'=>∃(k:Nat)(ks:List Value)(gb:List aK),x8=vn k∧k +m'=4001∧ks.length≤k∧GB 3 1 x7 ks gb∧(∀x∈ks,∃z:Int,x=vi z∧UG rn z)∧SH [] H H' (gb++[(rg,69,[.slice ra rn rc,.slice na nn nc])])) ?_ (4001 -k0) ⟨k0,[],[],rfl,by omega,Nat.zero_le _,GB.nil _ _,(fun x h=>nomatch h),hS⟩
 clear hS
 rintro m' x7 x8 x9 aW bn dI H3 ⟨k,ks,gb,rfl,hkm,hkl,hg,hks,hS⟩
 refine tl ?_
 have hS:=hS.perm List.perm_append_comm
 simp only[List.cons_append,List.nil_append]at hS
 simp only[PP,Nat.reduceBEq,aj hS.wf];refine hS.aZ ?_
 obtain⟨r1,o1,mU,u1,f1,w1,c1,a1,e1,hl1,oV,jC,hsz,_⟩:=hG.ru (i:=i) hi rc
 rw[e1]
 simp only[PP,Nat.reduceBEq,aj hS.wf]
 refine hS.Dg (jC 5 _ (by omega) rfl) hl1 ?_
 have hb:=hB i hi
 simp only[PP,Nat.reduceBEq]
 refine ae (fun hc=>?_) (fun hc=>?_)
 rotate_left
 ·refine tl ?_
  refine OX (K:=4001) (by omega) hg (hS.perm (List.perm_append_comm (l₁:=[_]))) (by omega) hks fun v2 v H4 hv hx4=>?_
  refine rr ?_;exact⟨hv,hx4⟩
 have hkn:k<nn:=by omega
 refine hS.aZ ?_
 obtain⟨kd,ka,kn,kc,ks',t,rs,at',he,hk1,hk2,hk3,hk4,hk5⟩:=hG.2.2.2.2.2 k hkn
 obtain⟨xa,xn,xc,xcs,rfl,XX⟩:=id hk5
 obtain⟨r2,o2,e2,hl2,OV,nE⟩:=hG.no hkn nc he
 rw[e2]
 simp only[PP,Nat.reduceBEq,aj hS.wf]
 refine hS.p_ OV hl2 ?_
 refine hS.jF rfl rfl rfl fun H4 Zr hS hx4=>?_
 have hS:SH [] H H4 ((Zr,145,[vi kd,.slice ka kn kc,.string t,.slice xa xn xc,vi at'])::(rg,69,[.slice ra rn rc,.slice na nn nc])::gb):=hS
 repeat(first|(simp only[PP,Nat.reduceBEq,aj hS.wf])|(refine hS.aZ ?_))
 have yh:∀x7 x9 aW bn ks gb oU H5,ks.length≤k +1→GB 3 1 x7 ks gb→(∀x∈ks,∃z:Int,x=vi z∧UG rn z)→SH [] H H5 ((Zr,145,[vi kd,.slice ka kn kc,.string t,.slice xa xn xc,vi at'])::(rg,69,[.slice ra rn rc,.slice na nn nc])::gb)→∃m_1,m_1<m'∧uS (gV ra rn rc na nn nc) (.map (some r)) (vn i) (.pointer (some ⟨rg,0,none⟩)) (.slice none 0 0) (fun m' x7 x8 x9 aW bn H'=>∃(k:Nat)(ks:List Value)(gb:List aK),x8=vn k∧k +m'=4001∧ks.length≤k∧GB 3 1 x7 ks gb∧(∀x∈ks,∃z:Int,x=vi z∧UG rn z)∧SH [] H H' (gb++[(rg,69,[.slice ra rn rc,.slice na nn nc])])) m_1 (vz (gV ra rn rc na nn nc) (.map (some r)) (vn i) (.pointer (some ⟨rg,0,none⟩)) (.slice none 0 0) x7 (vi ((k:Int) +1)) x9 aW bn oU H5):=by
  intro x7 x9 aW bn ks gb oU H5 h1 h2 h3 h4
  exact⟨4001 -(k +1),by omega,_,_,_,_,_,_,_,rfl,k +1,ks,gb,by rw[show((k:Int) +1)=((k +1:Nat):Int) by omega],by omega,h1,h2,h3,(SH.drop (A:=[_]) h4).perm (List.perm_append_comm (l₁:=[_]))⟩
 refine ae (fun hc2=>?_) (fun hc2=>?_)
 rotate_left
 ·refine PU.of (au (by omega) (by omega)) ?_
  exact yh _ _ _ _ ks gb _ _ (by omega) hg hks hS
 refine hS.aZ ?_
 have hm1:=hm.ex hS.ext (fun h=>nomatch h)
 refine ME.I1 hm1 qY I4 UF fun f' hf hn=>?_
 simp only[PP,Nat.reduceBEq,aj hS.wf]
 refine aC (fun hb=>?_) (fun hb=>?_)
 rotate_left
 ·refine PU.of (au (by omega) (by omega)) ?_
  exact yh _ _ _ _ ks gb _ _ (by omega) hg hks hS
 cases f' with
 |none=>cases hb
 |some v=>
  obtain⟨z,hz,hv⟩:=hnm _ (hf v rfl)
  have hv:v=vn z:=hv
  subst hv
  simp only[Option.getD_some]
  have hO:=hS.perm (List.perm_append_comm (l₁:=[_,_]))
  have hO:=hO.own
  refine hO.bS rfl rfl rfl (by omega) fun H5 rx hS5=>?_
  obtain⟨v',H6,dD,e1,hg',nN,_⟩:=hg.app (m:=0) (cx:=1) (L:=[]) (by rw[List.append_nil];exact hS5) (by omega) rfl rfl (by omega) (by omega)
  refine ME.of e1 ?_
  rw[List.append_nil]at nN
  refine PU.of (au (by omega) (by omega)) ?_
  refine yh _ _ _ _ _ dD _ _ ?_ hg' (fun x hx=>?_) ?_
  ·rw[List.length_append];show ks.length +1≤_;omega
  ·rcases List.mem_append.1 hx with h|h
   ·exact hks x h
   ·have h:x∈[vn z]:=h
    exact⟨z,List.mem_singleton.1 h,by omega,by omega⟩
  ·exact((hS.perm (List.perm_append_comm (l₁:=[_,_]))).frame nN).perm (List.perm_append_comm (l₂:=[_,_]))
end Go.Proofs.Lu
set_option maxRecDepth 100000
set_option maxHeartbeats 4000000
namespace Go.Proofs.Lu
open Go.Ae Go.Ae.M
variable{H0 H:aa}{L M:List aK}{S:List Nat}{F:Nat→Prop}{Q:Int→Prop}{r n c:Nat}{ty:TypeId}
def Dv(ty:TypeId)(es:Nat)(P:List Value→Prop):List Value→List aK→Prop
 |[],R=>R=[]
 |v::vs,R=>∃ks gb R',R=gb++R'∧GB ty es v ks gb∧P ks∧Dv ty es P vs R'
theorem Dv.Oy{ty:TypeId}{es:Nat}{P:List Value→Prop}(h0:P []):∀n,Dv ty es P (List.replicate n (.slice none 0 0)) []
 |0=>rfl
 |n +1=>⟨[],[],[],rfl,GB.nil _ _,h0,Dv.Oy h0 n⟩
theorem Dv.mono{ty:TypeId}{es:Nat}{P P':List Value→Prop}(hp:∀ks,P ks→P' ks):∀{vs:List Value}{R:List aK},Dv ty es P vs R→Dv ty es P' vs R
 |[],R,h=>h
 |v::vs,R,⟨ks,gb,R',h1,h2,h3,h4⟩=>⟨ks,gb,R',h1,h2,hp _ h3,Dv.mono hp h4⟩
theorem Dv.at{ty:TypeId}{es:Nat}{P:List Value→Prop}:∀{vs:List Value}{R:List aK}(i:Nat),Dv ty es P vs R→(h:i<vs.length)→∃A gb B ks,R=A++(gb++B)∧GB ty es vs[i] ks gb∧P ks∧
 ∀P':List Value→Prop,(∀ks,P ks→P' ks)→∀v' ks' dD,GB ty es v' ks' dD→P' ks'→Dv ty es P' (vs.set i v') (A++(dD++B))
 |v::vs,R,0,h,_=>by
  obtain⟨ks,gb,R',rfl,h1,h2,h4⟩:=h
  exact⟨[],gb,R',ks,rfl,h1,h2,fun P' hp v' ks' dD g1 g2=>⟨ks',dD,R',rfl,g1,g2,h4.mono hp⟩⟩
 |v::vs,R,i +1,h,hi=>by
  obtain⟨ks,gb,R',rfl,h1,h2,h4⟩:=h
  obtain⟨A,Z5,B,ks2,rfl,g1,g2,g4⟩:=Dv.at i h4 (by simpa using hi)
  refine⟨gb++A,Z5,B,ks2,by rw[List.append_assoc],g1,g2,fun P' hp v' ks' dD k1 k2=>?_⟩
  exact⟨ks,gb,A++(dD++B),by rw[List.append_assoc],h1,hp _ h2,g4 P' hp v' ks' dD k1 k2⟩
 |[],R,i,h,hi=>absurd hi (by simp)
theorem CB{cs:List Value}{i:Nat}{v:Value}(hi:i<cs.length):splice cs i [v]=cs.set i v:=by
 apply List.ext_getElem?
 intro j
 rw[gZ (by show i +1≤_;omega),List.getElem?_set]
 by_cases h:i≤j∧j<i +[v].length
 ·have:i=j:=by have:=h.2;simp at this;omega
  subst this
  rw[if_pos h,if_pos rfl,if_pos hi,Nat.sub_self];rfl
 ·rw[if_neg h,if_neg (fun e=>h (by subst e;simp))]
theorem Dv.all{ty:TypeId}{es:Nat}{P:List Value→Prop}{S:List Nat}{H0 H:aa}:∀{vs:List Value}{R L:List aK},Dv ty es P vs R→SH S H0 H (R++L)→∀x∈vs,∃a n c ks,x=.slice a n c∧ks.length=n*es∧P ks∧fE (fun r=>r∈R.map (·.1)) ty H a n es ks
 |[],R,L,h,hS=>fun x hx=>nomatch hx
 |v::vs,R,L,⟨ks,gb,R',h1,h2,h3,h4⟩,hS=>by
  subst h1
  intro x hx
  rcases List.mem_cons.1 hx with rfl|hx
  ·rw[List.append_assoc]at hS
   obtain⟨a,n,c,e,hl,hf⟩:=h2.W_ (F:=fun r=>r∈(gb++R').map (·.1)) hS fun e he=>List.mem_map.2 ⟨e,List.mem_append_left _ he,rfl⟩
   exact⟨a,n,c,ks,e,hl,h3,hf⟩
  ·rw[List.append_assoc]at hS
   obtain⟨a,n,c,ks',e,hl,hp,hf⟩:=Dv.all h4 (SH.drop hS) x hx
   refine⟨a,n,c,ks',e,hl,hp,hf.wk fun r hr=>?_⟩
   obtain⟨e,he,rfl⟩:=List.mem_map.1 hr
   exact List.mem_map.2 ⟨e,List.mem_append_right _ he,rfl⟩
def NsP(K:Nat)(Q:Int→Prop)(ks:List Value):Prop:=ks.length≤K∧∀x∈ks,∃z:Int,x=vi z∧Q z
def Na(b K:Nat)(Q:Int→Prop)(n:Nat)(H:aa)(v:Value):Prop:=∃a c vs,v=.slice a n c∧fE (b≤·) 23 H a n 1 vs∧∀x∈vs,Cz b K Q H x
theorem I6(hw:Wf H){b:Nat}{ra na:Option Addr}{rn rc nn nc r:Nat}{rcs bW:List Value}{m:List (ByteArray×Value)}(hG:Gr b H ra rn rcs na nn bW)(hm:jG H r m)(hnm:FX rn m)(hB:∀j,j<rn→0≤rootOf rcs j∧rootOf rcs j<nn):
 ak Pg X 154 [gV ra rn rc na nn nc,.map (some r)] H (Q1 (fun v H'=>Na H.next 500000 (UG rn) rn H' v) H):=by
 have hS:=SH.refl hw
 have g2:=hG.2.1
 refine ce [0,1,2,4,5,6,7,9,15,16,17,28,29,30] ?_;refine tl ?_
 refine hS.box rfl fun H1 rg hS=>?_
 repeat(first|(simp only[PP,Nat.reduceBEq,aj hS.wf])|(refine hS.aZ ?_))
 refine hS.mkS (Nat.le_refl _) (by omega) fun H2 rl hS=>?_
 rw[gP]at hS
 refine hS.aZ ?_;simp only[PP,Nat.reduceBEq,aj hS.wf]
 refine lp7 6 7 9 17 28 29 30 (I:=fun m' x6 x7 x9 iI x28 x29 x30 H'=>∃(i:Nat)(vs:List Value)(R:List aK),iI=vn i∧i +m'=rn∧vs.length=rn∧Dv 3 1 (NsP (4001*i) (UG rn)) vs R∧SH [] H H' ((rl,23,vs)::(rg,69,[.slice ra rn rc,.slice na nn nc])::R)) ?_ rn ⟨0,_,[],rfl,by omega,by simp,Dv.Oy ⟨Nat.zero_le _,fun x h=>nomatch h⟩ rn,hS⟩
 clear hS
 rintro m' x6 x7 x9 iI x28 x29 x30 dI H3 ⟨i,vs,R,rfl,him,hvl,hR,hS⟩
 refine tl ?_
 simp only[PP,Nat.reduceBEq]
 refine ae (fun hc=>?_) (fun hc=>?_)
 rotate_left
 ·refine tl ?_
  obtain rfl:i=rn:=by omega
  have hb:∀e:aK,e∈(rl,23,vs)::(rg,69,[.slice ra i rc,.slice na nn nc])::R→H.next≤e.1:=fun e he=>hS.xA he
  refine rr ?_;refine⟨⟨_,_,vs,rfl,?_,fun x hx=>?_⟩,hS.ext⟩
  ·exact fE.one hS (List.mem_cons_self ..) (by omega) (hb _ (List.mem_cons_self ..))
  ·obtain⟨a,n,c,ks,e,hl,hp,hf⟩:=Dv.all (L:=[]) hR (by rw[List.append_nil];exact SH.drop (A:=[_,_]) hS) x hx
   refine⟨a,n,c,ks,e,hf.wk (fun r hr=>?_),by have:=hp.1;omega,hp.2⟩
   obtain⟨e,he,rfl⟩:=List.mem_map.1 hr
   exact hb e (List.mem_cons_of_mem _ (List.mem_cons_of_mem _ he))
 obtain⟨r1,o1,mU,u1,f1,w1,c1,a1,e1,hl1,oV,jC,hsz,_⟩:=hG.ru (i:=i) (by omega) rc
 rw[e1]
 simp only[PP,Nat.reduceBEq]
 refine hS.p_ oV hl1 ?_
 refine hS.jF rfl rfl rfl fun H4 ru hS hx4=>?_
 have hS:SH [] H H4 ((ru,141,kT mU u1 f1 w1 c1 (rootOf rcs i) a1)::(rl,23,vs)::(rg,69,[.slice ra rn rc,.slice na nn nc])::R):=hS
 repeat(first|(simp only[PP,Nat.reduceBEq,aj hS.wf])|(refine hS.aZ ?_))
 have yh:∀x9 x28 x29 x30 vs R oU H5,vs.length=rn→Dv 3 1 (NsP (4001*(i +1)) (UG rn)) vs R→SH [] H H5 ((rl,23,vs)::(rg,69,[.slice ra rn rc,.slice na nn nc])::R)→∃m_1,m_1<m'∧rT (gV ra rn rc na nn nc) (.map (some r)) (.pointer (some ⟨rg,0,none⟩)) (.slice none 0 0) (.slice (some ⟨rl,0,none⟩) rn rn) (.slice ra rn rc) (vn rn) (fun m' x6 x7 x9 iI x28 x29 x30 H'=>∃(i:Nat)(vs:List Value)(R:List aK),iI=vn i∧i +m'=rn∧vs.length=rn∧Dv 3 1 (NsP (4001*i) (UG rn)) vs R∧SH [] H H' ((rl,23,vs)::(rg,69,[.slice ra rn rc,.slice na nn nc])::R)) m_1 (rD (gV ra rn rc na nn nc) (.map (some r)) (.pointer (some ⟨rg,0,none⟩)) (.slice none 0 0) (.slice (some ⟨rl,0,none⟩) rn rn) (vn i) (.pointer (some ⟨ru,0,none⟩)) x9 (.slice ra rn rc) (vn rn) (vi ((i:Int) +1)) x28 x29 x30 oU H5):=by
  intro x9 x28 x29 x30 vs R oU H5 h1 h2 h3
  exact⟨rn -(i +1),by omega,_,_,_,_,_,_,_,_,_,rfl,i +1,vs,R,by rw[show((i:Int) +1)=((i +1:Nat):Int) by omega],by omega,h1,h2,h3⟩
 refine aC (fun hb=>?_) (fun hb=>?_)
 ·refine PU.of (au (by omega) (by omega)) ?_
  exact yh _ _ _ _ vs R _ _ hvl (hR.mono fun ks h=>⟨by have:=h.1;omega,h.2⟩) (SH.drop (A:=[_]) hS)
 refine hS.bZ ?_
 have hx5:=hS.ext
 refine ak.mono (OY hS.wf (hG.ex hx5) (hm.ex hx5 (fun h=>nomatch h)) hnm (by omega) hB) ?_
 rintro v H5 ⟨⟨ua,un,uc,ucs,rfl,hu,hun,acZ⟩,hx⟩
 have hlt:=hS.lt
 have hS:=SH.drop (A:=[_]) (hS.call hx)
 simp only[PP,Nat.reduceBEq]
 have hS0:=hS
 have hS:=hS0.base
 have hS5:∀q∈((rl,23,vs)::(rg,69,[.slice ra rn rc,.slice na nn nc])::R).map (fun e:aK=>e.1),¬H4.next≤q∨¬qy H5 q 3:=fun q hq=>.inl (by have:=hlt q (List.mem_cons_of_mem _ hq);omega)
 refine lp2 9 30 (I:=fun m'' x9 x30 H'=>∃(k:Nat)(vs':List Value)(R':List aK),x30=vn k∧k +m''=un∧vs'.length=rn∧Dv 3 1 (NsP (4001*i +k) (UG rn)) vs' R'∧SH (((rl,23,vs)::(rg,69,[.slice ra rn rc,.slice na nn nc])::R).map (fun e:aK=>e.1)) H5 H' ((rl,23,vs')::(rg,69,[.slice ra rn rc,.slice na nn nc])::R')) ?_ un ⟨0,vs,R,rfl,by omega,hvl,hR.mono fun ks h=>⟨by have:=h.1;omega,h.2⟩,hS⟩
 clear hS
 rintro m'' y9 y30 yU H6 ⟨k,vs',R',rfl,hkm,Db,hR',hS⟩
 refine tl ?_
 simp only[PP,Nat.reduceBEq]
 refine ae (fun hc2=>?_) (fun hc2=>?_)
 rotate_left
 ·refine tl ?_
  simp only[PP,Nat.reduceBEq]
  refine PU.of (au (by omega) (by omega)) ?_
  exact yh _ _ _ _ vs' R' _ _ Db (hR'.mono fun ks h=>⟨by have:=h.1;omega,h.2⟩) (hS0.over hS)
 have hkn:k<un:=by omega
 have hu6:=hu.stay hS.ext hS5
 obtain⟨r',o',hl,e',hr',Cw⟩:=hu6.1.OP hkn uc
 rw[e']
 simp only[PP,Nat.reduceBEq]
 obtain⟨z,hz,hz0,hz1⟩:=acZ _ (List.getElem_mem hl)
 obtain⟨z,rfl⟩:∃j:Nat,z=j:=⟨z.toNat,by omega⟩
 rw[hz]at Cw
 refine ME.ld Cw ?_
 refine hS.aZ ?_
 obtain⟨r2,o2,nm2,u2,f2,w2,c2,a2,e2,hl2,OV,nE,_,_⟩:=(hG.ex (hS0.over hS).ext).ru (i:=z) (by omega) rc
 rw[e2]
 simp only[PP,Nat.reduceBEq]
 refine ME.ld (nE 1 _ (by omega) rfl) ?_
 simp only[PP,Nat.reduceBEq]
 refine aC (fun hb2=>?_) (fun hb2=>?_)
 rotate_left
 ·refine PU.of (au (by omega) (by omega)) ?_
  exact⟨un -(k +1),by omega,_,_,_,_,rfl,k +1,vs',R',by rw[show((k:Int) +1)=((k +1:Nat):Int) by omega],by omega,Db,hR'.mono fun ks h=>⟨by have:=h.1;omega,h.2⟩,hS⟩
 have hil:i<vs'.length:=by omega
 refine PU.of (iC (by omega)) ?_
 rw[Nat.zero_add]
 refine hS.ld 0 rfl (List.getElem?_eq_getElem hil) ?_
 obtain⟨A,gb,B,ks,rfl,hg,hks,hput⟩:=hR'.at i hil
 refine hS.bS rfl rfl rfl (by omega) fun H7 rx Eo=>?_
 have Eo:=Eo.perm (List.Perm.cons _ (rG ((rl,23,vs')::(rg,69,[.slice ra rn rc,.slice na nn nc])::A) gb B))
 obtain⟨v',H8,dD,e8,hg',UE,_⟩:=hg.app (m:=0) (cx:=1) Eo (by omega) rfl rfl (by omega) (by have:=hks.1;omega)
 refine ME.of e8 ?_
 refine PU.of (iC (by omega)) ?_
 rw[Nat.zero_add]
 have UE:SH _ H5 H8 ((rl,23,vs')::(rg,69,[.slice ra rn rc,.slice na nn nc])::(A++(dD++B))):=UE.perm (rG dD ((rl,23,vs')::(rg,69,[.slice ra rn rc,.slice na nn nc])::A) B)
 obtain⟨va,VS,vc,rfl⟩:∃a n c,v'=.slice a n c:=by rcases hg' with⟨rfl,_⟩|⟨r,n,aQ,rfl,_⟩<;>exact⟨_,_,_,rfl⟩
 refine UE.st 0 rfl rfl (by show i +1≤_;omega) rfl fun H9 Zu=>?_
 refine PU.of (au (by omega) (by omega)) ?_
 refine⟨un -(k +1),by omega,_,_,_,_,rfl,k +1,vs'.set i (.slice va VS vc),A++(dD++B),by rw[show((k:Int) +1)=((k +1:Nat):Int) by omega],by omega,by rw[List.length_set];exact Db,?_,?_⟩
 ·refine hput _ (fun ks h=>⟨by have:=h.1;omega,h.2⟩) _ _ _ hg' ⟨?_,fun x hx=>?_⟩
  ·rw[List.length_append]
   have:=hks.1
   show ks.length +1≤_
   omega
  ·rcases List.mem_append.1 hx with h|h
   ·exact hks.2 x h
   ·have h:x∈[vn z]:=h
    exact⟨z,List.mem_singleton.1 h,by omega,by omega⟩
 ·have Zu:SH _ H5 H9 ((rl,23,splice vs' i [.slice va VS vc])::(rg,69,[.slice ra rn rc,.slice na nn nc])::(A++(dD++B))):=Zu
  rwa [CB hil]at Zu
end Go.Proofs.Lu
set_option maxRecDepth 100000
set_option maxHeartbeats 4000000
namespace Go.Proofs.Lu
open Go.Ae Go.Ae.M
variable{H0 H:aa}{L M:List aK}{S:List Nat}{F:Nat→Prop}{Q:Int→Prop}{r n c:Nat}{ty:TypeId}
def gL(l:List Nat):Nat→Nat
 |0=>0
 |i +1=>l.getD i 0
theorem Zv{l:List Nat}(hn:l.Pairwise (·≠·)):∀i j,1≤i→i≤l.length→1≤j→j≤l.length→gL l i=gL l j→i=j:=by
 have key:∀i j,i<l.length→j<l.length→i<j→l.getD i 0≠l.getD j 0:=fun i j h1 h2 h3=>by
  rw[List.getD_eq_getElem?_getD,List.getD_eq_getElem?_getD,List.getElem?_eq_getElem h1,List.getElem?_eq_getElem h2]
  exact List.pairwise_iff_getElem.1 hn i j h1 h2 h3
 intro i j h1 h2 h3 h4 e
 obtain⟨i,rfl⟩:∃k,i=k +1:=⟨i -1,by omega⟩
 obtain⟨j,rfl⟩:∃k,j=k +1:=⟨j -1,by omega⟩
 have e:l.getD i 0=l.getD j 0:=e
 rcases Nat.lt_trichotomy i j with h|h|h
 ·exact absurd e (key i j (by omega) (by omega) h)
 ·rw[h]
 ·exact absurd e.symm (key j i (by omega) (by omega) h)
theorem Zw{ops:Array Oper}{C:Nat→Nat→Nat→Nat→Nat→Nat→Nat→List Cl}{a b c d e f g:Nat}{K:Prop}(hn:[a,b,c,d,e,f,g].Pairwise (·≠·))(hC:∀a b c d e f g,C a b c d e f g=(C 1 2 3 4 5 6 7).map (jL (gL [a,b,c,d,e,f,g])))(hk:all' (rQ 7) (C 1 2 3 4 5 6 7)=true)(h:bO ops ((C 1 2 3 4 5 6 7).map kill)=true)(k:K):bO ops (C a b c d e f g)=true∧K:=by
 refine⟨?_,k⟩
 rw[hC]
 exact tu (m:=7) (Zv hn) hk h
structure CY where
 (ct m l o dm dl dO s ds st fr:Nat)
def uT:List (Nat×Nat)→List Value
 |[]=>[]
 |p::l=>vn p.1::vn p.2::uT l
theorem FZ(a b:List (Nat×Nat)):uT (a++b)=uT a++uT b:=by
 induction a with
 |nil=>rfl
 |cons p l ih=>show vn p.1::vn p.2::uT (l++b)=_;rw[ih];rfl
theorem qZ(a:List (Nat×Nat)):(uT a).length=a.length*2:=by
 induction a with
 |nil=>rfl
 |cons p l ih=>show(uT l).length +2=_;rw[ih,List.length_cons];omega
structure PI where
 (cnt:Nat)(ms lo:List Int)(op sf:List Bool)(ss:List Nat)(fs:List (Nat×Nat))
def Cy(q:CY)(n:Nat)(x:PI)(M:List aK):Prop:=∃zV KU wM I7,
 M=(q.ct,3,[vn x.cnt])::(q.m,23,[.slice (some ⟨q.dm,0,none⟩) n n])::(q.l,23,[.slice (some ⟨q.dl,0,none⟩) n n])::(q.o,36,[.slice (some ⟨q.dO,0,none⟩) n n])::(q.dm,3,x.ms.map vi)::(q.dl,3,x.lo.map vi)::(q.dO,4,x.op.map .bool)::(q.s,36,[.slice (some ⟨q.ds,0,none⟩) n n])::(q.ds,4,x.sf.map .bool)::(q.st,23,[zV])::(q.fr,253,[KU])::(wM++I7)∧
 x.ms.length=n∧x.lo.length=n∧x.op.length=n∧x.sf.length=n∧GB 3 1 zV (x.ss.map fun j=>vn j) wM∧GB 255 2 KU (uT x.fs) I7
structure uU(n:Nat)(x:PI):Prop where
 cnt:x.cnt +x.ms.count 0=n
 fs:∀p∈x.fs,p.1<n∧p.2≤1000000
 ss:∀j∈x.ss,j<n
 sub:(x.fs.map (·.1)).Sublist x.ss
 sl:x.ss.length≤x.cnt
 fl:x.fs.length≤x.cnt
abbrev mM(q:CY):Value:=.func (.func 184) ⟨[]⟩ ⟨[pr q.ct,pr q.m,pr q.l,pr q.o,pr q.st,pr q.fr]⟩
def PI.begin(x:PI)(k:Nat):PI:={x with cnt:=x.cnt +1,ms:=x.ms.set k ((x.cnt +1:Nat):Int),lo:=x.lo.set k ((x.cnt +1:Nat):Int),op:=x.op.set k true,ss:=x.ss++[k],fs:=x.fs++[(k,0)]}
theorem CE{q:CY}{x:PI}{k:Nat}(hn:n≤200)(hC:Cy q n x M)(hO:uU n x)(hk:k<n)(h0:x.ms[k]?=some 0)(hS:SH S H0 H (M++L)):
 ak Pg X 184 [vn k,pr q.ct,pr q.m,pr q.l,pr q.o,pr q.st,pr q.fr] H fun _ H'=>∃M',Cy q n (x.begin k) M'∧SH S H0 H' (M'++L):=by
 have hS0:=hS
 have hS:=hS.own
 obtain⟨zV,KU,wM,I7,rfl,h1,h2,h3,h4,h5,h6⟩:=hC
 have hcn:x.cnt≤n:=by have:=hO.cnt;omega
 refine ce [0,1,2,3,4,5,6] ?_;refine tl ?_
 refine hS.aZ ?_
 refine PU.of (au (by omega) (by omega)) ?_
 repeat(first|(simp only[PP,Nat.reduceBEq,aj hS.wf])|(refine hS.jf ?_)|(refine hS.jd fun Hn hS=>?_))
 refine PU.of (iC hk) ?_
 rw[Nat.zero_add]
 refine hS.qh (fun H2 hS=>?_) rfl (by rw[List.length_map];show k +1≤_;omega) rfl
 refine PU.of (iC hk) ?_
 rw[Nat.zero_add]
 (try simp only[aj hS.wf])
 refine hS.qh (fun H3 hS=>?_) rfl (by rw[List.length_map];show k +1≤_;omega) rfl
 refine PU.of (iC hk) ?_
 rw[Nat.zero_add]
 (try simp only[aj hS.wf])
 refine hS.qh (fun H4 hS=>?_) rfl (by rw[List.length_map];show k +1≤_;omega) rfl
 have hne:[q.ct,q.m,q.l,q.o,q.dm,q.dl,q.dO].Pairwise (·≠·):=by
  have h:List.Pairwise (·≠·) ([q.ct,q.m,q.l,q.o,q.dm,q.dl,q.dO]++q.s::q.ds::q.st::q.fr::(wM++I7).map (fun e:aK=>e.1)):=(List.pairwise_map (f:=fun e:aK=>e.1)).2 hS.ne
  exact(List.pairwise_append.1 h).1
 refine(show∀K:Prop,K→_∧K from fun K hK=>?_) _ ?_
 ·simp only[aA,aB]
  generalize q.ct=ct at hne⊢
  generalize q.m=mm at hne⊢
  generalize q.l=ll at hne⊢
  generalize q.o=oo at hne⊢
  generalize q.dm=dm at hne⊢
  generalize q.dl=dl at hne⊢
  generalize q.dO=dO at hne⊢
  apply Zw hne (by intros;rfl) (by kernel_rfl) (by kernel_rfl) hK
 have hS:SH _ H _ ((q.ct,3,[vn (x.cnt +1)])::(q.m,23,[.slice (some ⟨q.dm,0,none⟩) n n])::(q.l,23,[.slice (some ⟨q.dl,0,none⟩) n n])::(q.o,36,[.slice (some ⟨q.dO,0,none⟩) n n])::(q.dm,3,splice (x.ms.map vi) k [vi ((x.cnt +1:Nat):Int)])::(q.dl,3,splice (x.lo.map vi) k [vi ((x.cnt +1:Nat):Int)])::(q.dO,4,splice (x.op.map .bool) k [.bool true])::(q.s,36,[.slice (some ⟨q.ds,0,none⟩) n n])::(q.ds,4,x.sf.map .bool)::(q.st,23,[zV])::(q.fr,253,[KU])::(wM++I7)):=hS
 rw[g_ vi (by omega),g_ vi (by omega),g_ Value.bool (by omega)]at hS
 generalize hM (hM (hM Hn _) _) H4=H5 at*
 have hl5:x.ss.length≤200:=by have:=hO.sl;omega
 have hl6:(uT x.fs).length≤400:=by rw[qZ];have:=hO.fl;omega
 obtain⟨a5,n5,c5,rfl⟩:∃a n c,zV=.slice a n c:=by rcases h5 with⟨rfl,_⟩|⟨r,n,aQ,rfl,_⟩<;>exact⟨_,_,_,rfl⟩
 obtain⟨a6,n6,c6,rfl⟩:∃a n c,KU=.slice a n c:=by rcases h6 with⟨rfl,_⟩|⟨r,n,aQ,rfl,_⟩<;>exact⟨_,_,_,rfl⟩
 refine hS.aZ ?_
 refine hS.bS rfl rfl rfl (by omega) fun H7 rx Eo=>?_
 have Eo:=Eo.perm (List.Perm.cons _ (rG [_,_,_,_,_,_,_,_,_,_,_] wM I7))
 obtain⟨v',H8,OZ,e8,hg',UE,_⟩:=h5.app (m:=0) (cx:=1) Eo (by omega) rfl rfl (by omega) (by rw[List.length_map];omega)
 refine ME.of e8 ?_
 have hS:=UE.perm (rG OZ [_,_,_,_,_,_,_,_,_,_,_] I7)
 simp only[List.cons_append,List.nil_append]at hS
 obtain⟨a7,n7,c7,rfl⟩:∃a n c,v'=.slice a n c:=by rcases hg' with⟨rfl,_⟩|⟨r,n,aQ,rfl,_⟩<;>exact⟨_,_,_,rfl⟩
 refine hS.jd fun Hn hS=>?_;refine hS.aZ ?_;refine PU.b2 rfl ?_;simp only[PP,Nat.reduceBEq,aj hS.wf]
 refine hS.bS rfl rfl rfl (by omega) fun H9 ry Zu=>?_
 have Zu:=Zu.perm (List.Perm.cons _ (((List.Perm.append_left [_,_,_,_,_,_,_,_,_,_,_] (List.perm_append_comm (l₁:=OZ) (l₂:=I7)))).trans (rG [_,_,_,_,_,_,_,_,_,_,_] I7 OZ)))
 obtain⟨w',Zx,Zy,e10,abT,Zo,_⟩:=h6.app (m:=0) (cx:=1) Zu (by omega) rfl rfl (by omega) (by omega)
 refine ME.of e10 ?_
 have hS:=(Zo.perm (rG Zy [_,_,_,_,_,_,_,_,_,_,_] OZ)).perm (List.Perm.append_left [_,_,_,_,_,_,_,_,_,_,_] (List.perm_append_comm (l₁:=Zy) (l₂:=OZ)))
 simp only[List.cons_append,List.nil_append]at hS
 obtain⟨a8,n8,c8,rfl⟩:∃a n c,w'=.slice a n c:=by rcases abT with⟨rfl,_⟩|⟨r,n,aQ,rfl,_⟩<;>exact⟨_,_,_,rfl⟩
 refine hS.jd fun Hn hS=>?_
 refine rn ?_;refine⟨_,⟨.slice a7 n7 c7,.slice a8 n8 c8,OZ,Zy,rfl,?_,?_,?_,h4,?_,?_⟩,?_⟩
 ·show(x.ms.set k _).length=n
  rw[List.length_set];exact h1
 ·show(x.lo.set k _).length=n
  rw[List.length_set];exact h2
 ·show(x.op.set k _).length=n
  rw[List.length_set];exact h3
 ·show GB 3 1 _ ((x.ss++[k]).map fun j=>vn j) _
  rw[List.map_append];exact hg'
 ·show GB 255 2 _ (uT (x.fs++[(k,0)])) _
  rw[FZ];exact abT
 ·have hF:=SH.frame (M:=(q.ct,3,[vn x.cnt])::(q.m,23,[.slice (some ⟨q.dm,0,none⟩) n n])::(q.l,23,[.slice (some ⟨q.dl,0,none⟩) n n])::(q.o,36,[.slice (some ⟨q.dO,0,none⟩) n n])::(q.dm,3,x.ms.map vi)::(q.dl,3,x.lo.map vi)::(q.dO,4,x.op.map .bool)::(q.s,36,[.slice (some ⟨q.ds,0,none⟩) n n])::(q.ds,4,x.sf.map .bool)::(q.st,23,[.slice a5 n5 c5])::(q.fr,253,[.slice a6 n6 c6])::(wM++I7)) hS0 hS
  exact hF
end Go.Proofs.Lu
set_option maxRecDepth 100000
set_option maxHeartbeats 4000000
namespace Go.Proofs.Lu
open Go.Ae Go.Ae.M
variable{H0 H:aa}{L M:List aK}{S:List Nat}{F:Nat→Prop}{Q:Int→Prop}{r n c:Nat}{ty:TypeId}
theorem TC{q:CY}{x:PI}{k:Nat}(hn:n≤200)(hC:Cy q n x M)(hO:uU n x)(hk:k<n)(hm:k∈x.ss)(hS:SH S H0 H (M++L)):
 ak Pg X 185 [vn k,pr q.st,pr q.o,pr q.s] H fun _ H'=>∃(p:Nat)(op sf:List Bool)(M':List aK),x.ss[p]?=some k∧(∀j,p<j→x.ss[j]?≠some k)∧Cy q n {x with op:=op,sf:=sf,ss:=x.ss.take p} M'∧SH S H0 H' (M'++L):=by
 have hS0:=hS
 have hS:=hS.own
 obtain⟨zV,KU,wM,I7,rfl,h1,h2,h3,h4,h5,h6⟩:=hC
 have hcn:x.cnt≤n:=by have:=hO.cnt;omega
 have hl5:x.ss.length≤200:=by have:=hO.sl;omega
 rcases h5 with⟨rfl,e,rfl⟩|⟨rt,sn,aQ,rfl,hsn,rfl⟩
 ·exfalso
  cases hss:x.ss with
  |nil=>rw[hss]at hm;cases hm
  |cons a l=>rw[hss]at e;cases e
 rw[List.length_map,Nat.mul_one]at hsn
 subst hsn
 refine ce [0,1,2,3,5,7,21,22,23] ?_;refine tl ?_
 refine hS.aZ ?_;simp only[PP,Nat.reduceBEq,aj hS.wf]
 have hpos:1≤x.ss.length:=by
  cases hss:x.ss with
  |nil=>rw[hss]at hm;cases hm
  |cons a l=>simp
 refine PU.of (ax (by omega) (by omega)) ?_
 refine yf 5 (I:=fun m x5 H'=>∃p:Nat,x5=vn p∧p=m∧p<x.ss.length∧(∀j,p<j→x.ss[j]?≠some k)∧SH _ H H' _) ?_ (x.ss.length -1) ⟨x.ss.length -1,by rw[show((x.ss.length:Int) -1)=((x.ss.length -1:Nat):Int) by omega];rfl,rfl,by omega,fun j hj=>by rw[List.getElem?_eq_none (by omega)];simp,hS⟩
 clear hS
 rintro m x5 rg H1 ⟨p,rfl,rfl,hp,hlast,hS⟩
 refine tl ?_
 simp only[PP,Nat.reduceBEq,aj hS.wf];refine hS.aZ ?_
 refine PU.of (iC hp) ?_
 rw[Nat.zero_add]
 refine hS.ld 11 rfl (v:=vn x.ss[p]) (by rw[List.getElem?_append_left (by rw[List.length_map];exact hp),List.getElem?_map,List.getElem?_eq_getElem hp];rfl) ?_
 simp only[PP,Nat.reduceBEq]
 refine aP (fun hc=>?_) (fun hc=>?_)
 ·obtain⟨i,hi,hik⟩:=List.getElem_of_mem hm
  have hip:i<p:=by
   rcases Nat.lt_trichotomy i p with h|h|h
   ·exact h
   ·subst h
    exact absurd (by rw[hik]) hc
   ·exact absurd (by rw[List.getElem?_eq_getElem hi,hik]) (hlast i h)
  refine PU.of (ax (by omega) (by omega)) ?_
  refine⟨p -1,by omega,_,_,_,rfl,p -1,by rw[show((p:Int) -1)=((p -1:Nat):Int) by omega],rfl,by omega,fun j hj=>?_,hS⟩
  rcases Nat.lt_or_ge p j with h|h
  ·exact hlast j h
  ·obtain rfl:j=p:=by omega
   rw[List.getElem?_eq_getElem hp]
   intro e
   exact hc (by rw[Option.some.inj e])
 have hpk:x.ss[p]?=some k:=by rw[List.getElem?_eq_getElem hp];congr 1;omega
 refine tl ?_
 refine hS.aZ ?_
 refine PU.of (KT (by omega)) ?_
 rw[Nat.zero_add]
 simp only[PP,Nat.reduceBEq]
 refine lp2 7 23 (I:=fun m x7 oK H'=>∃(j:Nat)(op sf:List Bool),oK=vn j∧j +m=x.ss.length -p∧op.length=n∧sf.length=n∧SH (List.map (fun e:aK=>e.1) ((q.ct,3,[vn x.cnt])::(q.m,23,[.slice (some ⟨q.dm,0,none⟩) n n])::(q.l,23,[.slice (some ⟨q.dl,0,none⟩) n n])::(q.o,36,[.slice (some ⟨q.dO,0,none⟩) n n])::(q.dm,3,x.ms.map vi)::(q.dl,3,x.lo.map vi)::(q.dO,4,x.op.map .bool)::(q.s,36,[.slice (some ⟨q.ds,0,none⟩) n n])::(q.ds,4,x.sf.map .bool)::(q.st,23,[.slice (some ⟨rt,0,none⟩) x.ss.length (aT 1)])::(q.fr,253,[KU])::([(rt,3,(x.ss.map fun j=>vn j)++aQ)]++I7))) H H' ((q.ct,3,[vn x.cnt])::(q.m,23,[.slice (some ⟨q.dm,0,none⟩) n n])::(q.l,23,[.slice (some ⟨q.dl,0,none⟩) n n])::(q.o,36,[.slice (some ⟨q.dO,0,none⟩) n n])::(q.dm,3,x.ms.map vi)::(q.dl,3,x.lo.map vi)::(q.dO,4,op.map .bool)::(q.s,36,[.slice (some ⟨q.ds,0,none⟩) n n])::(q.ds,4,sf.map .bool)::(q.st,23,[.slice (some ⟨rt,0,none⟩) x.ss.length (aT 1)])::(q.fr,253,[KU])::(rt,3,(x.ss.map fun j=>vn j)++aQ)::I7)) ?_ (x.ss.length -p) ⟨0,x.op,x.sf,rfl,by omega,h3,h4,hS⟩
 clear hS
 rintro m x7 oK rg H1 ⟨j,op,sf,rfl,hjm,ho,hs,hS⟩
 refine tl ?_
 simp only[PP,Nat.reduceBEq]
 refine ae (fun hc2=>?_) (fun hc2=>?_)
 rotate_left
 ·refine tl ?_
  refine hS.aZ ?_
  refine PU.of (vY (by omega)) ?_
  refine hS.jd fun Hn hS=>?_
  refine rn ?_;refine⟨p,op,sf,_,hpk,hlast,⟨.slice (some ⟨rt,0,none⟩) p (aT 1),KU,[(rt,3,((x.ss.take p).map fun j=>vn j)++(((x.ss.drop p).map fun j=>vn j)++aQ))],I7,rfl,h1,h2,ho,hs,?_,h6⟩,?_⟩
  ·exact .inr ⟨rt,p,_,rfl,by rw[List.length_map,List.length_take];omega,rfl⟩
  ·have hF:=SH.frame (M:=(q.ct,3,[vn x.cnt])::(q.m,23,[.slice (some ⟨q.dm,0,none⟩) n n])::(q.l,23,[.slice (some ⟨q.dl,0,none⟩) n n])::(q.o,36,[.slice (some ⟨q.dO,0,none⟩) n n])::(q.dm,3,x.ms.map vi)::(q.dl,3,x.lo.map vi)::(q.dO,4,x.op.map .bool)::(q.s,36,[.slice (some ⟨q.ds,0,none⟩) n n])::(q.ds,4,x.sf.map .bool)::(q.st,23,[.slice (some ⟨rt,0,none⟩) x.ss.length (aT 1)])::(q.fr,253,[KU])::([(rt,3,(x.ss.map fun j=>vn j)++aQ)]++I7)) hS0 hS
   rw[←List.append_assoc,←List.map_append,List.take_append_drop]
   exact hF
 have hpj:p +j<x.ss.length:=by omega
 refine PU.of (iC (by omega)) ?_
 refine hS.ld 11 rfl (v:=vn x.ss[p +j]) (by rw[List.getElem?_append_left (by rw[List.length_map];exact hpj),List.getElem?_map,List.getElem?_eq_getElem hpj];rfl) ?_
 have hzn:x.ss[p +j]<n:=hO.ss _ (List.getElem_mem hpj)
 generalize x.ss[p +j]=z at hzn
 refine hS.aZ ?_
 refine PU.of (iC hzn) ?_
 rw[Nat.zero_add]
 refine hS.st 6 rfl rfl (by rw[List.length_map];show z +1≤_;omega) rfl fun H2 hS=>?_
 simp only[List.set_cons_succ,List.set_cons_zero]at hS
 have hS:=hS
 repeat(first|(simp only[PP,Nat.reduceBEq,aj hS.wf])|(refine hS.jf ?_))
 refine PU.of (iC hzn) ?_
 rw[Nat.zero_add]
 refine hS.jf (v:=.bool (sf[z]'(by omega))) ?_ (by rw[List.getElem?_map,List.getElem?_eq_getElem (show z<sf.length by omega)];rfl)
 simp only[PP,Nat.reduceBEq]
 have hS1:=hS
 refine aC (fun hb=>?_) (fun hb=>?_)
 ·refine PU.of (iC hzn) ?_
  rw[Nat.zero_add]
  (try simp only[aj hS.wf])
  refine hS.qh (fun H3 hS=>?_) rfl (by rw[List.length_map];show z +1≤_;omega) rfl
  refine(show∀K:Prop,K→_∧K from fun K hK=>?_) _ ?_
  ·simp only[aA,aB]
   have n1:q.ds≠q.s:=(hS1.nq 7 8 rfl rfl (by omega)).symm
   generalize q.ds=ds at n1⊢
   generalize q.s=qs at n1⊢
   apply oh n1 (by intros;rfl) (by kernel_rfl) (by kernel_rfl) hK
  refine PU.of (au (by omega) (by omega)) ?_
  refine⟨x.ss.length -p -(j +1),by omega,_,_,_,_,rfl,j +1,op.set z false,sf.set z true,by rw[show((j:Int) +1)=((j +1:Nat):Int) by omega],by omega,by rw[List.length_set];exact ho,by rw[List.length_set];exact hs,?_⟩
  rw[←g_ Value.bool (by omega),←g_ Value.bool (by omega)]
  exact hS
 ·(try simp only[aj hS.wf])
  refine hS.jf ?_
  simp only[PP,Nat.reduceBEq,aj hS.wf]
  refine PU.of (ax (by omega) (by omega)) ?_
  simp only[PP,Nat.reduceBEq,aj hS.wf]
  generalize decide ((1:Int)<(x.ss.length:Int) -(p:Int))=bz
  refine PU.of (iC hzn) ?_
  rw[Nat.zero_add]
  (try simp only[aj hS.wf])
  refine hS.qh (fun H3 hS=>?_) rfl (by rw[List.length_map];show z +1≤_;omega) rfl
  refine(show∀K:Prop,K→_∧K from fun K hK=>?_) _ ?_
  ·simp only[aA,aB]
   have n1:q.ds≠q.s:=(hS1.nq 7 8 rfl rfl (by omega)).symm
   have n2:q.ds≠q.st:=(hS1.nq 8 9 rfl rfl (by omega))
   have n3:q.s≠q.st:=(hS1.nq 7 9 rfl rfl (by omega))
   generalize q.ds=ds at n1 n2⊢
   generalize q.s=qs at n1 n3⊢
   generalize q.st=qt at n2 n3⊢
   apply Fz n1 n2 n3 (by intros;rfl) (by kernel_rfl) (by kernel_rfl) hK
  refine PU.of (au (by omega) (by omega)) ?_
  refine⟨x.ss.length -p -(j +1),by omega,_,_,_,_,rfl,j +1,op.set z false,sf.set z bz,by rw[show((j:Int) +1)=((j +1:Nat):Int) by omega],by omega,by rw[List.length_set];exact ho,by rw[List.length_set];exact hs,?_⟩
  rw[←g_ Value.bool (by omega),←g_ Value.bool (by omega)]
  exact hS
end Go.Proofs.Lu
set_option maxRecDepth 100000
set_option maxHeartbeats 4000000
namespace Go.Proofs.Lu
open Go.Ae Go.Ae.M
variable{H0 H:aa}{L M:List aK}{S:List Nat}{F:Nat→Prop}{Q:Int→Prop}{r n c:Nat}{ty:TypeId}
abbrev Ah(q:CY):Value:=.func (.func 185) ⟨[]⟩ ⟨[pr q.st,pr q.o,pr q.s]⟩
theorem yV(fs:List (Nat×Nat))(a b:Nat)(aQ:List Value):(uT (fs++[(a,b)])++aQ)[fs.length*2]?=some (vn a)∧(uT (fs++[(a,b)])++aQ)[fs.length*2 +1]?=some (vn b)∧∀b',splice (uT (fs++[(a,b)])++aQ) (fs.length*2 +1) [vn b']=uT (fs++[(a,b')])++aQ:=by
 have hl:=qZ fs
 have e:∀b,uT (fs++[(a,b)])++aQ=uT fs++(vn a::vn b::aQ):=fun b=>by
  rw[FZ,List.append_assoc];rfl
 refine⟨?_,?_,fun b'=>?_⟩
 ·rw[e,List.getElem?_append_right (by omega),hl,Nat.sub_self];rfl
 ·rw[e,List.getElem?_append_right (by omega),hl,show fs.length*2 +1 -fs.length*2=1 by omega];rfl
 ·rw[e,e,CB (by rw[List.length_append,hl];simp),List.set_append_right _ _ (by omega),hl,show fs.length*2 +1 -fs.length*2=1 by omega];rfl
theorem wG:∀(l:List Int)(t:Nat)(v:Int),l[t]?=some 0→v≠0→(l.set t v).count 0 +1=l.count 0
 |[],t,v,h,_=>by simp at h
 |a::l,0,v,h,hv=>by
  have h:a=0:=by simpa using h
  subst h
  rw[List.set_cons_zero,List.count_cons_self,List.count_cons_of_ne hv]
 |a::l,t +1,v,h,hv=>by
  have ih:=wG l t v (by simpa using h) hv
  rw[List.set_cons_succ,List.count_cons,List.count_cons]
  omega
theorem uU.begin{x:PI}{t:Nat}(h:uU n x)(ht:t<n)(h0:x.ms[t]?=some 0):uU n (x.begin t):=by
 have hc:=wG x.ms t ((x.cnt +1:Nat):Int) h0 (by omega)
 have h1:=h.cnt
 have h2:=h.sl
 have h3:=h.fl
 refine⟨?_,fun p hp=>?_,fun j hj=>?_,?_,?_,?_⟩
 ·show x.cnt +1 +(x.ms.set t _).count 0=n
  omega
 ·rcases List.mem_append.1 hp with h'|h'
  ·exact h.fs p h'
  ·rw[List.mem_singleton]at h';subst h';exact⟨ht,by omega⟩
 ·rcases List.mem_append.1 hj with h'|h'
  ·exact h.ss j h'
  ·rw[List.mem_singleton]at h';subst h';exact ht
 ·show(List.map (fun p:Nat×Nat=>p.1) (x.fs++[(t,0)])).Sublist (x.ss++[t])
  rw[List.map_append]
  exact h.sub.append (List.Sublist.refl _)
 ·show(x.ss++[t]).length≤x.cnt +1
  rw[List.length_append];simp;omega
 ·show(x.fs++[(t,0)]).length≤x.cnt +1
  rw[List.length_append];simp;omega
theorem TE{ss A:List Nat}{k p:Nat}(h:(A++[k]).Sublist ss)(hp:ss[p]?=some k)(hl:∀j,p<j→ss[j]?≠some k):A.Sublist (ss.take p):=by
 obtain⟨r1,r2,rfl,h1,h2⟩:=List.append_sublist_iff.1 h
 have hk:k∈r2:=h2.subset (List.mem_singleton.2 rfl)
 obtain⟨j,hj,e⟩:=List.getElem_of_mem hk
 have hle:r1.length +j≤p:=by
  rcases Nat.lt_or_ge p (r1.length +j)with h|h
  ·exact absurd (by rw[List.getElem?_append_right (by omega),Nat.add_sub_cancel_left,List.getElem?_eq_getElem hj,e]) (hl _ h)
  ·exact h
 rw[List.take_append]
 rw[List.take_of_length_le (show r1.length≤p by omega)]
 exact h1.trans (List.sublist_append_left _ _)
abbrev O0(q:CY)(n:Nat)(x:PI)(rf:Nat)(fr:List Value)(KU zV:Value)(wM:List aK):List aK:=
 (rf,255,fr)::(q.ct,3,[vn x.cnt])::(q.m,23,[.slice (some ⟨q.dm,0,none⟩) n n])::(q.l,23,[.slice (some ⟨q.dl,0,none⟩) n n])::(q.o,36,[.slice (some ⟨q.dO,0,none⟩) n n])::(q.dm,3,x.ms.map vi)::(q.dl,3,x.lo.map vi)::(q.dO,4,x.op.map .bool)::(q.s,36,[.slice (some ⟨q.ds,0,none⟩) n n])::(q.ds,4,x.sf.map .bool)::(q.st,23,[zV])::(q.fr,253,[KU])::wM
theorem I8{q:CY}{x:PI}{rf:Nat}{aQ:List Value}{zV:Value}{wM:List aK}(h1:x.ms.length=n)(h2:x.lo.length=n)(h3:x.op.length=n)(h4:x.sf.length=n)(h5:GB 3 1 zV (x.ss.map fun j=>vn j) wM)(hS:SH S H0 H (O0 q n x rf (uT x.fs++aQ) (.slice (some ⟨rf,0,none⟩) x.fs.length (aT 2)) zV wM)):∃M,Cy q n x M∧SH S H0 H M:=
 ⟨_,⟨zV,_,wM,[_],rfl,h1,h2,h3,h4,h5,.inr ⟨rf,x.fs.length,aQ,rfl,qZ _,rfl⟩⟩,hS.perm (List.perm_append_comm (l₂:=_::_::_::_::_::_::_::_::_::_::_::wM) (l₁:=[_]))⟩
def Nb(n K:Nat)(Q:Int→Prop)(H:aa)(v:Value):Prop:=∃b,Na b K Q n H v
theorem I9{q:CY}{ua:Option Addr}{uc K:Nat}(hn:n≤200)(hK:K≤1000000)(hU:Nb n K Q H (.slice ua n uc)){Kp:Out→Prop}{bT rV:Value}(x:PI)(M:List aK)(hC:Cy q n x M)(hO:uU n x)(bJ eF bL dL:Value)(rg)(H1:aa)(hS:SH [] H H1 M)
 (kk:∀x M bJ eF bL dL rg H1,Cy q n x M→uU n x→x.fs=[]→SH [] H H1 M→Kp (.exit 2 (b_ (.slice ua n uc) (.slice none 0 0) (pr q.m) (pr q.l) (pr q.o) (pr q.s) (pr q.st) (pr q.fr) (pr q.ct) (mM q) (Ah q) bT bJ eF bL dL (vn n) rV rg H1))):
 aR Pg X (.loop (sub dA [1,1,1,1,1,1,1,1,0,1,0,0,1,1,0,0,1,0,1,1,0,0])) (b_ (.slice ua n uc) (.slice none 0 0) (pr q.m) (pr q.l) (pr q.o) (pr q.s) (pr q.st) (pr q.fr) (pr q.ct) (mM q) (Ah q) bT bJ eF bL dL (vn n) rV rg H1) Kp:=by
 obtain⟨ub,ua',uc',uvs,eu,hU1,hU2⟩:=hU
 cases eu
 refine Iv 13 14 15 16 (I:=fun m bJ eF bL dL H'=>∃x M,Cy q n x M∧uU n x∧SH [] H H' M∧m=2*x.ms.count 0 +x.fs.length) ?_ _ ⟨x,M,hC,hO,hS,rfl⟩
 clear hC hO hS x M
 rintro m bJ eF bL dL rg H1 ⟨x,M,hC,hO,hS,hm⟩
 have hC0:=hC
 have hS0:=hS
 obtain⟨zV,KU,wM,I7,rfl,h1,h2,h3,h4,h5,h6⟩:=hC
 have hcn:x.cnt≤n:=by have:=hO.cnt;omega
 have hfl:=hO.fl
 refine tl ?_
 obtain⟨fa,fn,fc,rfl,hfn⟩:∃a m c,KU=.slice a m c∧m=x.fs.length:=by
  rcases h6 with⟨rfl,e,_⟩|⟨r,m,aQ,rfl,e,_⟩
  ·refine⟨_,_,_,rfl,?_⟩
   have:=qZ x.fs
   rw[e]at this
   simp at this
   omega
  ·rw[qZ]at e
   exact⟨_,_,_,rfl,by omega⟩
 subst hfn
 repeat(first|(simp only[PP,Nat.reduceBEq,aj hS.wf])|(refine hS.aZ ?_))
 refine ae (fun hc=>?_) (fun hc=>?_)
 rotate_left
 ·exact kk x _ _ _ _ _ _ _ hC0 hO (List.eq_nil_of_length_eq_zero (by omega)) hS
 rcases h6 with⟨e,e',_⟩|⟨rf,fn,aQ,e,hfe,rfl⟩
 ·exfalso
  have:=qZ x.fs
  rw[e']at this
  simp at this
  omega
 cases e
 obtain⟨fs',p,hfs⟩:∃fs' p,x.fs=fs'++[p]:=by
  rcases List.eq_nil_or_concat x.fs with h|⟨l,p,h⟩
  ·rw[h]at hc;simp at hc
  ·exact⟨l,p,by rw[h,List.concat_eq_append]⟩
 obtain⟨node,nx⟩:=p
 have hlen:x.fs.length=fs'.length +1:=by rw[hfs];simp
 have vC:node<n∧nx≤1000000:=hO.fs (node,nx) (by rw[hfs];simp)
 have hS:SH [] H H1 (O0 q n x rf (uT (fs'++[(node,nx)])++aQ) (.slice (some ⟨rf,0,none⟩) x.fs.length (aT 2)) zV wM):=by
  rw[←hfs]
  exact hS.perm (List.perm_append_comm (l₁:=_::_::_::_::_::_::_::_::_::_::_::wM) (l₂:=[_]))
 refine hS.aZ ?_;refine hS.aZ ?_;simp only[PP,Nat.reduceBEq,aj hS.wf]
 refine PU.of (ax (by omega) (by omega)) ?_
 rw[show((x.fs.length:Int) -1)=(fs'.length:Int) by omega]
 refine PU.of (n_ (by omega)) ?_
 rw[Nat.zero_add]
 simp only[PP,Nat.reduceBEq]
 refine hS.ld 0 rfl (yV fs' node nx aQ).1 ?_
 obtain⟨r1,o1,hl1,e1,hr1,hc1⟩:=hU1.1.OP vC.1 uc
 obtain⟨ra,rn,rc,rcs,hrow,hU3,hrn,ac0⟩:=hU2 _ (List.getElem_mem hl1)
 rw[hrow]at hc1
 have top:∀(nx:Nat)(lo:List Int)(sf:List Bool){H':aa},lo.length=n→sf.length=n→SH [] H H' (O0 q n {x with lo:=lo,sf:=sf} rf (uT (fs'++[(node,nx)])++aQ) (.slice (some ⟨rf,0,none⟩) x.fs.length (aT 2)) zV wM)→∃M,Cy q n {x with lo:=lo,sf:=sf,fs:=fs'++[(node,nx)]} M∧SH [] H H' M:=by
  intro nx lo sf H' g1 g2 g3
  have e:x.fs.length=(fs'++[(node,nx)]).length:=by rw[hlen];simp
  rw[e]at g3
  exact I8 (x:={x with lo:=lo,sf:=sf,fs:=fs'++[(node,nx)]}) h1 g1 h3 g2 h5 g3
 have ac1:∀(nx:Nat)(lo:List Int)(sf:List Bool),nx≤1000000→uU n {x with lo:=lo,sf:=sf,fs:=fs'++[(node,nx)]}:=by
  intro nx' lo sf hnx
  refine⟨hO.cnt,fun p hp=>?_,hO.ss,?_,hO.sl,?_⟩
  ·rcases List.mem_append.1 hp with h|h
   ·exact hO.fs p (by rw[hfs];exact List.mem_append_left _ h)
   ·rw[List.mem_singleton]at h;subst h;exact⟨vC.1,hnx⟩
  ·have:=hO.sub
   rw[hfs]at this
   simpa using this
  ·show(fs'++[(node,nx')]).length≤x.cnt
   rw[List.length_append]
   simp
   omega
 refine yf 15 (I:=fun m15 bL H'=>∃(nx:Nat)(lo:List Int)(sf:List Bool),m15=rn -nx∧nx≤1000000∧lo.length=n∧sf.length=n∧SH [] H H' (O0 q n {x with lo:=lo,sf:=sf} rf (uT (fs'++[(node,nx)])++aQ) (.slice (some ⟨rf,0,none⟩) x.fs.length (aT 2)) zV wM)) ?_ _ ⟨nx,x.lo,x.sf,rfl,vC.2,h2,h4,hS⟩
 clear hS hS0 hC0
 rintro m15 y15 rg2 H2 ⟨nx,lo,sf,rfl,hnx,hlo,Z',hS⟩
 refine tl ?_
 simp only[PP,Nat.reduceBEq]
 refine hS.xH 0 rfl (yV fs' node nx aQ).2.1 ?_
 rw[e1]
 simp only[PP,Nat.reduceBEq,aj hS.wf]
 refine hS.Dh hc1 hr1 ?_
 simp only[PP,Nat.reduceBEq,aj hS.wf];refine cK (by simp only[aA,az (Ext.refl (hN _))];rfl) ?_
 refine ae (fun hc2=>?_) (fun hc2=>?_)
 rotate_left
 ·refine tl ?_
  have ac2:uT (fs'++[(node,nx)])++aQ=uT fs'++(vn node::vn nx::aQ):=by rw[FZ,List.append_assoc];rfl
  rw[ac2]at hS
  have hin:node∈x.ss:=hO.sub.subset (by rw[hfs];simp)
  have hO2:∀lo sf,uU n {x with lo:=lo,sf:=sf,fs:=fs'}:=fun lo sf=>by
   refine⟨hO.cnt,fun p hp=>hO.fs p (by rw[hfs];exact List.mem_append_left _ hp),hO.ss,?_,hO.sl,by show fs'.length≤x.cnt;omega⟩
   have:=hO.sub
   rw[hfs,List.map_append]at this
   exact(List.sublist_append_left _ _).trans this
  have last:∀(lo':List Int)(H':aa)(bL dL:Value) rg,lo'.length=n→SH [] H H' (O0 q n {x with lo:=lo',sf:=sf,fs:=fs'} rf (uT fs'++(vn node::vn nx::aQ)) (.slice (some ⟨rf,0,none⟩) fs'.length (aT 2)) zV wM)→aR Pg X (sub dA [1,1,1,1,1,1,1,1,0,1,0,0,1,1,0,0,1,0,1,1,0,0,1,0,1,1,1,1,1]) (b_ (.slice ua n uc) (.slice none 0 0) (pr q.m) (pr q.l) (pr q.o) (pr q.s) (pr q.st) (pr q.fr) (pr q.ct) (mM q) (Ah q) bT (.pointer (some ⟨rf,fs'.length*2,none⟩)) (vn node) bL dL (vn n) rV rg H') (gY 3 (wK (fA (.slice ua n uc) (.slice none 0 0) (pr q.m) (pr q.l) (pr q.o) (pr q.s) (pr q.st) (pr q.fr) (pr q.ct) (mM q) (Ah q) bT (vn n) rV fun m bJ eF bL dL H'=>∃x M,Cy q n x M∧uU n x∧SH [] H H' M∧m=2*List.count 0 x.ms +x.fs.length) m Kp)):=by
   intro lo' H' bL dL rg aag hS
   refine tl ?_
   repeat(first|(simp only[PP,Nat.reduceBEq,aj hS.wf])|(refine hS.jf ?_))
   refine PU.of (iC vC.1) ?_
   rw[Nat.zero_add]
   refine hS.xH 6 rfl (v:=vi (lo'[node]'(by omega))) (by show(lo'.map vi)[node]?=_;rw[List.getElem?_map,List.getElem?_eq_getElem (show node<lo'.length by omega)];rfl) ?_
   repeat(first|(simp only[PP,Nat.reduceBEq,aj hS.wf])|(refine hS.jf ?_))
   refine PU.of (iC vC.1) ?_
   rw[Nat.zero_add]
   refine hS.xH 5 rfl (v:=vi (x.ms[node]'(by omega))) (by show(x.ms.map vi)[node]?=_;rw[List.getElem?_map,List.getElem?_eq_getElem (show node<x.ms.length by omega)];rfl) ?_
   simp only[PP,Nat.reduceBEq,aj hS.wf];refine cK (by simp only[aA,az (Ext.refl (hN _))];rfl) ?_
   obtain⟨M2,hC2,hS2⟩:=I8 (x:={x with lo:=lo',sf:=sf,fs:=fs'}) h1 aag h3 Z' h5 hS
   refine ae (fun hc6=>?_) (fun hc6=>?_)
   rotate_left
   ·exact⟨2*x.ms.count 0 +fs'.length,by omega,_,_,_,_,_,_,rfl,_,M2,hC2,hO2 _ _,hS2,rfl⟩
   have VY:SH [] H H' (M2++[]):=by rw[List.append_nil];exact hS2
   show ak Pg X 185 [vn node,pr q.st,pr q.o,pr q.s] H' _
   refine ak.mono (TC hn hC2 (hO2 _ _) vC.1 hin VY) ?_
   rintro v H4 ⟨p,op,sf',M3,hp,hlast,Zz,k_⟩
   rw[List.append_nil]at k_
   refine⟨2*x.ms.count 0 +fs'.length,by omega,_,_,_,_,_,_,rfl,_,M3,Zz,?_,k_,rfl⟩
   have hO3:=hO2 lo' sf
   refine⟨hO3.cnt,hO3.fs,fun j hj=>hO.ss j (List.mem_of_mem_take hj),?_,?_,hO3.fl⟩
   ·have:=hO.sub
    rw[hfs,List.map_append]at this
    exact TE this hp hlast
   ·show(x.ss.take p).length≤x.cnt
    have:=hO.sl
    rw[List.length_take]
    omega
  refine hS.aZ ?_;refine hS.aZ ?_;simp only[PP,Nat.reduceBEq,aj hS.wf]
  refine PU.of (ax (by omega) (by omega)) ?_
  rw[show((x.fs.length:Int) -1)=(fs'.length:Int) by omega]
  refine PU.of (vY (by omega)) ?_
  refine hS.jd fun Hn hS=>?_;refine hS.aZ ?_;simp only[PP,Nat.reduceBEq,aj hS.wf]
  have hS:SH [] H Hn (O0 q n {x with lo:=lo,sf:=sf,fs:=fs'} rf (uT fs'++(vn node::vn nx::aQ)) (.slice (some ⟨rf,0,none⟩) fs'.length (aT 2)) zV wM):=hS
  refine ae (fun hc6=>?_) (fun hc6=>?_)
  rotate_left
  ·exact last _ _ _ _ _ hlo hS
  obtain⟨Z_,p2,ZA⟩:∃Z_ p,fs'=Z_++[p]:=by
   rcases List.eq_nil_or_concat fs' with h|⟨l,p,h⟩
   ·rw[h]at hc6;simp at hc6
   ·exact⟨l,p,by rw[h,List.concat_eq_append]⟩
  obtain⟨up,un⟩:=p2
  have hup:up<n:=(hO.fs (up,un) (by rw[hfs,ZA];simp)).1
  have TG:fs'.length=Z_.length +1:=by rw[ZA];simp
  have hrow:uT fs'=uT (Z_++[(up,un)]):=by rw[ZA]
  refine hS.aZ ?_;refine hS.aZ ?_;simp only[PP,Nat.reduceBEq,aj hS.wf]
  refine PU.of (ax (by omega) (by omega)) ?_
  rw[show((fs'.length:Int) -1)=(Z_.length:Int) by omega]
  refine PU.of (n_ (by omega)) ?_
  rw[Nat.zero_add]
  simp only[PP,Nat.reduceBEq]
  refine hS.ld 0 rfl (v:=vn up) (by rw[hrow];exact(yV Z_ up un _).1) ?_
  repeat(first|(simp only[PP,Nat.reduceBEq,aj hS.wf])|(refine hS.jf ?_))
  refine PU.of (iC hup) ?_
  rw[Nat.zero_add]
  refine hS.xH 6 rfl (v:=vi (lo[up]'(by omega))) (by show(lo.map vi)[up]?=_;rw[List.getElem?_map,List.getElem?_eq_getElem (show up<lo.length by omega)];rfl) ?_
  repeat(first|(simp only[PP,Nat.reduceBEq,aj hS.wf])|(refine hS.jf ?_))
  refine PU.of (iC vC.1) ?_
  rw[Nat.zero_add]
  refine hS.xH 6 rfl (v:=vi (lo[node]'(by omega))) (by show(lo.map vi)[node]?=_;rw[List.getElem?_map,List.getElem?_eq_getElem (show node<lo.length by omega)];rfl) ?_
  simp only[PP,Nat.reduceBEq,aj hS.wf]
  refine PU.of (iC hup) ?_
  rw[Nat.zero_add]
  have n5:q.l≠q.dl:=hS.nq 3 6 rfl rfl (by omega)
  generalize min (lo[up]'(by omega)) (lo[node]'(by omega))=mn
  refine hS.Px 6 rfl rfl (by rw[List.length_map];show up +1≤lo.length;omega) rfl fun H4 hS=>?_
  refine(show∀K:Prop,K→_∧K from fun K hK=>?_) _ ?_
  ·simp only[aA,aB]
   generalize q.l=ql at n5⊢
   generalize q.dl=dl at n5⊢
   apply oh n5 (by intros;rfl) (by kernel_rfl) (by kernel_rfl) hK
  have hS:SH [] H _ ((O0 q n {x with lo:=lo,sf:=sf,fs:=fs'} rf (uT fs'++(vn node::vn nx::aQ)) (.slice (some ⟨rf,0,none⟩) fs'.length (aT 2)) zV wM).set 6 (q.dl,3,splice (lo.map vi) up [vi mn])):=hS
  rw[g_ vi (by omega)]at hS
  exact last (lo.set up mn) _ _ _ _ (by rw[List.length_set];exact hlo) hS
 refine hS.Dh hc1 hr1 ?_
 simp only[PP,Nat.reduceBEq,aj hS.wf]
 refine hS.xH 0 rfl (yV fs' node nx aQ).2.1 ?_
 obtain⟨r2,o2,hl2,e2,hr2,hc2'⟩:=hU3.1.OP (show nx<rn by omega) rc
 obtain⟨to,hto,_⟩:=ac0 _ (List.getElem_mem hl2)
 rw[hto]at hc2'
 rw[e2]
 simp only[PP,Nat.reduceBEq,aj hS.wf]
 refine hS.Dh hc2' hr2 ?_
 simp only[PP,Nat.reduceBEq,aj hS.wf];refine cK (by simp only[aA,az (Ext.refl (hN _))];rfl) ?_
 refine hS.ld 0 rfl (yV fs' node nx aQ).2.1 ?_
 refine PU.of (au (by omega) (by omega)) ?_
 refine hS.st 0 rfl rfl (by rw[List.length_append,qZ,List.length_append];show fs'.length*2 +1 +1≤(fs'.length +1)*2 +aQ.length;omega) rfl fun H3 hS=>?_
 have hS:SH [] H H3 (O0 q n {x with lo:=lo,sf:=sf} rf (splice (uT (fs'++[(node,nx)])++aQ) (fs'.length*2 +1) [vn (nx +1)]) (.slice (some ⟨rf,0,none⟩) x.fs.length (aT 2)) zV wM):=hS
 rw[(yV fs' node nx aQ).2.2]at hS
 have fin:∀(b:Bool) rg,zZ rg 83=.bool b→(b=false→0≤to∧to<n)→aR Pg X (sub dA [1,1,1,1,1,1,1,1,0,1,0,0,1,1,0,0,1,0,1,1,0,0,1,0,1,1,0,0,0,1,0,1,1,0,1]) (b_ (.slice ua n uc) (.slice none 0 0) (pr q.m) (pr q.l) (pr q.o) (pr q.s) (pr q.st) (pr q.fr) (pr q.ct) (mM q) (Ah q) bT (.pointer (some ⟨rf,fs'.length*2,none⟩)) (vn node) (vi to) dL (vn n) rV rg H3) (gY 6 (gY 5 (wK (dK (.slice ua n uc) (.slice none 0 0) (pr q.m) (pr q.l) (pr q.o) (pr q.s) (pr q.st) (pr q.fr) (pr q.ct) (mM q) (Ah q) bT (.pointer (some ⟨rf,fs'.length*2,none⟩)) (vn node) dL (vn n) rV fun m15 bL H'=>∃(nx:Nat)(lo:List Int)(sf:List Bool),m15=rn -nx∧nx≤1000000∧lo.length=n∧sf.length=n∧SH [] H H' (O0 q n {x with lo:=lo,sf:=sf} rf (uT (fs'++[(node,nx)])++aQ) (.slice (some ⟨rf,0,none⟩) x.fs.length (aT 2)) zV wM)) (rn -nx) (gY 4 (kH Pg X (sub dA [1,1,1,1,1,1,1,1,0,1,0,0,1,1,0,0,1,0,1,1,0,0,1,0,1,1,1]) (gY 3 (wK (fA (.slice ua n uc) (.slice none 0 0) (pr q.m) (pr q.l) (pr q.o) (pr q.s) (pr q.st) (pr q.fr) (pr q.ct) (mM q) (Ah q) bT (vn n) rV fun m bJ eF bL dL H'=>∃x M,Cy q n x M∧uU n x∧SH [] H H' M∧m=2*List.count 0 x.ms +x.fs.length) m Kp))))))):=by
  intro b rg hb hto
  refine tl ?_
  rw[hb]
  simp only[PP,Nat.reduceBEq]
  have yh:∀oU H' lo' sf',lo'.length=n→sf'.length=n→SH [] H H' (O0 q n {x with lo:=lo',sf:=sf'} rf (uT (fs'++[(node,nx +1)])++aQ) (.slice (some ⟨rf,0,none⟩) x.fs.length (aT 2)) zV wM)→∃m_1,m_1<rn -nx∧dK (.slice ua n uc) (.slice none 0 0) (pr q.m) (pr q.l) (pr q.o) (pr q.s) (pr q.st) (pr q.fr) (pr q.ct) (mM q) (Ah q) bT (.pointer (some ⟨rf,fs'.length*2,none⟩)) (vn node) dL (vn n) rV (fun m15 bL H'=>∃(nx:Nat)(lo:List Int)(sf:List Bool),m15=rn -nx∧nx≤1000000∧lo.length=n∧sf.length=n∧SH [] H H' (O0 q n {x with lo:=lo,sf:=sf} rf (uT (fs'++[(node,nx)])++aQ) (.slice (some ⟨rf,0,none⟩) x.fs.length (aT 2)) zV wM)) m_1 (b_ (.slice ua n uc) (.slice none 0 0) (pr q.m) (pr q.l) (pr q.o) (pr q.s) (pr q.st) (pr q.fr) (pr q.ct) (mM q) (Ah q) bT (.pointer (some ⟨rf,fs'.length*2,none⟩)) (vn node) (vi to) dL (vn n) rV oU H'):=
   fun oU H' lo' sf' g1 g2 g3=>⟨rn -(nx +1),by omega,_,_,_,rfl,nx +1,lo',sf',rfl,by omega,g1,g2,g3⟩
  refine aC (fun hb2=>?_) (fun hb2=>?_)
  ·exact yh _ _ lo sf hlo Z' hS
  obtain⟨ht0,ht1⟩:=hto hb2
  obtain⟨t,rfl⟩:∃j:Nat,to=j:=⟨to.toNat,by omega⟩
  have htn:t<n:=by omega
  refine ae (fun hc4=>?_) (fun hc4=>?_)
  ·refine hS.aZ ?_
   refine PU.of (iC vC.1) ?_
   rw[Nat.zero_add]
   refine hS.st 9 rfl rfl (by rw[List.length_map];show node +1≤sf.length;omega) rfl fun H4 hS=>?_
   refine yh _ _ lo (sf.set node true) hlo (by rw[List.length_set];exact Z') ?_
   have hS:SH [] H H4 (O0 q n {x with lo:=lo,sf:=sf} rf (uT (fs'++[(node,nx +1)])++aQ) (.slice (some ⟨rf,0,none⟩) x.fs.length (aT 2)) zV wM|>.set 9 (q.ds,4,splice (sf.map .bool) node [.bool true])):=hS
   rw[g_ Value.bool (by omega)]at hS
   exact hS
  refine hS.aZ ?_
  refine PU.of (iC htn) ?_
  rw[Nat.zero_add]
  refine hS.ld 5 rfl (v:=vi (x.ms[t]'(by omega))) (by show(x.ms.map vi)[t]?=_;rw[List.getElem?_map,List.getElem?_eq_getElem (show t<x.ms.length by omega)];rfl) ?_
  simp only[PP,Nat.reduceBEq]
  refine ae (fun WW=>?_) (fun WW=>?_)
  ·have hm0:x.ms[t]?=some 0:=by rw[List.getElem?_eq_getElem (show t<x.ms.length by omega),WW]
   obtain⟨M2,hC2,hS2⟩:=top (nx +1) lo sf hlo Z' hS
   have hO2:=ac1 (nx +1) lo sf (by omega)
   have hS2:SH [] H H3 (M2++[]):=by rw[List.append_nil];exact hS2
   show ak Pg X 184 [vn t,pr q.ct,pr q.m,pr q.l,pr q.o,pr q.st,pr q.fr] H3 _
   refine ak.mono (CE hn hC2 hO2 htn hm0 hS2) ?_
   rintro v H4 ⟨M3,Zz,k_⟩
   rw[List.append_nil]at k_
   have hct:=wG x.ms t ((x.cnt +1:Nat):Int) hm0 (by omega)
   refine⟨2*(x.ms.set t ((x.cnt +1:Nat):Int)).count 0 +(fs'.length +2),by omega,_,_,_,_,_,_,rfl,_,M3,Zz,hO2.begin htn hm0,k_,?_⟩
   show _=2*(x.ms.set t ((x.cnt +1:Nat):Int)).count 0 +((fs'++[(node,nx +1)])++[(t,0)]).length
   rw[List.length_append,List.length_append]
   simp
  refine hS.aZ ?_
  refine PU.of (iC htn) ?_
  rw[Nat.zero_add]
  refine hS.ld 7 rfl (v:=.bool (x.op[t]'(by omega))) (by show(x.op.map Value.bool)[t]?=_;rw[List.getElem?_map,List.getElem?_eq_getElem (show t<x.op.length by omega)];rfl) ?_
  simp only[PP,Nat.reduceBEq]
  refine aC (fun hb6=>?_) (fun hb6=>?_)
  rotate_left
  ·exact yh _ _ lo sf hlo Z' hS
  repeat(first|(simp only[PP,Nat.reduceBEq,aj hS.wf])|(refine hS.jf ?_))
  refine PU.of (iC vC.1) ?_
  rw[Nat.zero_add]
  refine hS.xH 6 rfl (v:=vi (lo[node]'(by omega))) (by show(lo.map vi)[node]?=_;rw[List.getElem?_map,List.getElem?_eq_getElem (show node<lo.length by omega)];rfl) ?_
  repeat(first|(simp only[PP,Nat.reduceBEq,aj hS.wf])|(refine hS.jf ?_))
  refine PU.of (iC htn) ?_
  rw[Nat.zero_add]
  refine hS.xH 5 rfl (v:=vi (x.ms[t]'(by omega))) (by show(x.ms.map vi)[t]?=_;rw[List.getElem?_map,List.getElem?_eq_getElem (show t<x.ms.length by omega)];rfl) ?_
  simp only[PP,Nat.reduceBEq,aj hS.wf]
  refine PU.of (iC vC.1) ?_
  rw[Nat.zero_add]
  have n1:q.m≠q.l:=hS.nq 2 3 rfl rfl (by omega)
  have n2:q.m≠q.dm:=hS.nq 2 5 rfl rfl (by omega)
  have n3:q.m≠q.dl:=hS.nq 2 6 rfl rfl (by omega)
  have n4:q.l≠q.dm:=hS.nq 3 5 rfl rfl (by omega)
  have n5:q.l≠q.dl:=hS.nq 3 6 rfl rfl (by omega)
  have n6:q.dm≠q.dl:=hS.nq 5 6 rfl rfl (by omega)
  generalize min (lo[node]'(by omega)) (x.ms[t]'(by omega))=mn
  refine hS.Px 6 rfl rfl (by rw[List.length_map];show node +1≤lo.length;omega) rfl fun H4 hS=>?_
  refine(show∀K:Prop,K→_∧K from fun K hK=>?_) _ ?_
  ·simp only[aA,aB]
   generalize q.m=qm at n1 n2 n3⊢
   generalize q.l=ql at n1 n4 n5⊢
   generalize q.dm=dm at n2 n4 n6⊢
   generalize q.dl=dl at n3 n5 n6⊢
   apply Y3 n1 n2 n3 n4 n5 n6 (by intros;rfl) (by kernel_rfl) (by kernel_rfl) hK
  refine yh _ _ (lo.set node mn) sf (by rw[List.length_set];exact hlo) Z' ?_
  have hS:SH [] H _ ((O0 q n {x with lo:=lo,sf:=sf} rf (uT (fs'++[(node,nx +1)])++aQ) (.slice (some ⟨rf,0,none⟩) x.fs.length (aT 2)) zV wM).set 6 (q.dl,3,splice (lo.map vi) node [vi mn])):=hS
  rw[g_ vi (by omega)]at hS
  exact hS
 refine ae (fun hc3=>?_) (fun hc3=>?_)
 ·exact fin _ _ rfl fun h=>by cases h
 ·exact fin _ _ rfl fun h=>by have:=of_decide_eq_false h;omega
end Go.Proofs.Lu
set_option maxRecDepth 100000
set_option maxHeartbeats 4000000
namespace Go.Proofs.Lu
open Go.Ae Go.Ae.M
variable{H0 H:aa}{L M:List aK}{S:List Nat}{F:Nat→Prop}{Q:Int→Prop}{r n c:Nat}{ty:TypeId}
theorem _root_.Go.Ae.SH.TH{S:List Nat}{H0 H:aa}{L:List aK}(hS:SH S H0 H L){e:TypeId}{z:List Value}{K:Value→aa→Prop}(k:∀H1 r,SH S H0 (hM H H1) ((r,e,z)::L)→Oo H H1=cl 5→K (.pointer (some ⟨r,0,none⟩)) H1):ME (Go.Ae.cZ e z (Go.Ae.hN H)) K:=
 ME.of rfl (k _ _ (hS.Ic e z) (Ay (Ext.new _ _)))
theorem _root_.Go.Ae.SH.mkD{S:List Nat}{H0 H:aa}{L:List aK}(hS:SH S H0 H L){e:TypeId}{z:List Value}{n:Nat}{K:Value→aa→Prop}(hn:n≤16777216)(k:∀H1 r,SH S H0 (hM H H1) ((r,e,gM z n)::L)→Oo H H1=cl 5→K (.slice (some ⟨r,0,none⟩) n n) H1):ME (Go.Ae.mkS e z (vn n) (vn n) (Go.Ae.hN H)) K:=by
 refine ME.of ?_ (k _ _ (hS.Ic e (gM z n)) (Ay (Ext.new _ _)))
 show(ai (oM (vn n)) fun n'=>ai (oM (vn n)) fun m=>gd (Nat.ble n' m&&Nat.ble m 16777216&&true) _)=_
 show gd (Nat.ble n n&&Nat.ble n 16777216&&true) _=_
 rw[Nat.ble_eq_true_of_le (Nat.le_refl n),Nat.ble_eq_true_of_le hn];rfl
def KV(b n:Nat)(H:aa)(v:Value):Prop:=∃a c,∃bs:List Bool,v=.slice a n c∧bs.length=n∧fE (b≤·) 4 H a n 1 (bs.map .bool)
theorem I_{q:CY}{ua:Option Addr}{uc K:Nat}(hn:n≤200)(hK:K≤1000000)(hU:Nb n K Q H (.slice ua n uc))(x:PI)(M:List aK)(hC:Cy q n x M)(hO:uU n x)(hf:x.fs=[])(bT bJ eF bL dL:Value)(rg)(H1:aa)(hS:SH [] H H1 M):
 aR Pg X (.loop (sub dA [1,1,1,1,1,1,1,1,0,1,0,0])) (b_ (.slice ua n uc) (.slice none 0 0) (pr q.m) (pr q.l) (pr q.o) (pr q.s) (pr q.st) (pr q.fr) (pr q.ct) (mM q) (Ah q) bT bJ eF bL dL (vn n) (vi 0) rg H1) (gY 0 (kH Pg X (sub dA [1,1,1,1,1,1,1,1,1]) (cB Pg [.tmp 2] (Q1 (fun v H'=>KV H.next n H' v) H)))):=by
 refine lp6 12 13 14 15 16 33 (I:=fun m bT bJ eF bL dL rV H'=>∃x M i,rV=vn i∧i +m=n∧Cy q n x M∧uU n x∧x.fs=[]∧SH [] H H' M) ?_ n ⟨x,M,0,rfl,by omega,hC,hO,hf,hS⟩
 clear hC hO hf hS x M
 rintro m y12 y13 y14 y15 y16 y33 rg H1 ⟨x,M,i,rfl,him,hC,hO,hf,hS⟩
 refine tl ?_
 simp only[PP,Nat.reduceBEq]
 have hC0:=hC
 have hS0:=hS
 obtain⟨zV,KU,wM,I7,rfl,h1,h2,h3,h4,h5,h6⟩:=hC
 refine ae (fun hc=>?_) (fun hc=>?_)
 rotate_left
 ·refine tl ?_
  refine hS.aZ ?_
  have hd:=hS.xA (List.mem_of_getElem? (i:=8) rfl)
  refine rr ?_;refine⟨⟨_,_,x.sf,rfl,h4,fE.one hS (List.mem_of_getElem? (i:=8) rfl) (by rw[List.length_map,h4,Nat.mul_one]) hd⟩,hS.ext⟩
 refine aR.scope (R:=fun _ _ _=>False) (fun _ _ _ _ h=>h.elim) 0 ?_
 have fin:∀x M bJ eF bL dL rg H1,Cy q n x M→uU n x→SH [] H H1 M→aR Pg X (sub dA [1,1,1,1,1,1,1,1,0,1,0,0,1,1,0,0,1,0,1]) (b_ (.slice ua n uc) (.slice none 0 0) (pr q.m) (pr q.l) (pr q.o) (pr q.s) (pr q.st) (pr q.fr) (pr q.ct) (mM q) (Ah q) (vn i) bJ eF bL dL (vn n) (vn i) rg H1) (Rw (sub dA [1,1,1,1,1,1,1,1,0,1,0,0,1,1,0,0,1,0]) (fun _ _ _=>False) 0 (gY 1 (kH Pg X (sub dA [1,1,1,1,1,1,1,1,0,1,0,0,1,1,1]) (wK (nC (.slice ua n uc) (.slice none 0 0) (pr q.m) (pr q.l) (pr q.o) (pr q.s) (pr q.st) (pr q.fr) (pr q.ct) (mM q) (Ah q) (vn n) fun m bT bJ eF bL dL rV H'=>∃x M i,rV=vn i∧i +m=n∧Cy q n x M∧uU n x∧x.fs=[]∧SH [] H H' M) m (gY 0 (kH Pg X (sub dA [1,1,1,1,1,1,1,1,1]) (cB Pg [.tmp 2] (Q1 (fun v H'=>KV H.next n H' v) H)))))))):=by
  intro x M bJ eF bL dL rg H1 hC hO hS
  refine tl ?_
  refine I9 hn hK hU x M hC hO _ _ _ _ _ _ hS fun x M bJ eF bL dL rg H1 hC hO hf hS=>?_
  simp only[PP,Nat.reduceBEq]
  rw[Rx]
  simp only[PP,Nat.reduceBEq]
  refine tl ?_
  simp only[PP,Nat.reduceBEq]
  refine PU.of (au (by omega) (by omega)) ?_
  exact⟨n -(i +1),by omega,_,_,_,_,_,_,_,_,rfl,x,M,i +1,by rw[show((i:Int) +1)=((i +1:Nat):Int) by omega],by omega,hC,hO,hf,hS⟩
 refine tl ?_
 refine hS.aZ ?_
 have hin:i<n:=by omega
 refine PU.of (iC hin) ?_
 rw[Nat.zero_add]
 refine hS.ld 4 rfl (v:=vi (x.ms[i]'(by omega))) (by show(x.ms.map vi)[i]?=_;rw[List.getElem?_map,List.getElem?_eq_getElem (show i<x.ms.length by omega)];rfl) ?_
 simp only[PP,Nat.reduceBEq]
 refine ae (fun WW=>?_) (fun WW=>?_)
 rotate_left
 ·exact fin x _ _ _ _ _ _ _ hC0 hO hS
 have hm0:x.ms[i]?=some 0:=by rw[List.getElem?_eq_getElem (show i<x.ms.length by omega),WW]
 have hS2:=hS
 rw[←List.append_nil (_::_)]at hS2
 show ak Pg X 184 [vn i,pr q.ct,pr q.m,pr q.l,pr q.o,pr q.st,pr q.fr] H1 _
 refine ak.mono (CE hn hC0 hO hin hm0 hS2) ?_
 rintro v H4 ⟨M3,Zz,k_⟩
 rw[List.append_nil]at k_
 exact fin _ M3 _ _ _ _ _ _ Zz (hO.begin hin hm0) k_
theorem Ja(hw:Wf H){v:Value}{K:Nat}(hn:n≤200)(hK:K≤1000000)(hU:Nb n K Q H v):ak Pg X 153 [v] H (Q1 (fun v H'=>KV H.next n H' v) H):=by
 obtain⟨b,ua,uc,vs,rfl,hU1,hU2⟩:=hU
 have hU:Nb n K Q H (.slice ua n uc):=⟨b,ua,uc,vs,rfl,hU1,hU2⟩
 have hS:=SH.refl hw
 refine ce [0,2,3,4,5,6,7,8,9,10,11,12,13,14,15,16,32,33] ?_;refine tl ?_
 simp only[PP,Nat.reduceBEq]
 refine hS.mkD (by omega) fun H1 dm hS f1=>?_
 (try simp only[aj hS.wf])
 refine hS.mkD (by omega) fun H2 dl hS f2=>?_
 (try simp only[aj hS.wf])
 refine hS.TH fun H3 m hS f3=>?_
 (try simp only[aj hS.wf])
 refine hS.TH fun H4 l hS f4=>?_
 repeat(refine hS.qh fun Hn hS=>?_)
 have n1:l≠m:=hS.nq 0 1 rfl rfl (by omega)
 refine(show∀K:Prop,K→_∧K from fun K hK=>?_) _ ?_
 ·simp only[f1,f2,f3,f4,aB]
  apply oh (a:=l) (b:=m) n1 (by intros;rfl) (by kernel_rfl) (by kernel_rfl) hK
 generalize hM (hM (hM (hM (hM (hM H H1) H2) H3) H4) _) Hn=H5 at*
 refine hS.mkD (by omega) fun H6 dO hS g1=>?_
 (try simp only[aj hS.wf])
 refine hS.mkD (by omega) fun H7 ds hS g2=>?_
 (try simp only[aj hS.wf])
 refine hS.TH fun H8 o hS g3=>?_
 (try simp only[aj hS.wf])
 refine hS.TH fun H9 s hS g4=>?_
 repeat(refine hS.qh fun Hn hS=>?_)
 have n2:s≠o:=hS.nq 0 1 rfl rfl (by omega)
 refine(show∀K:Prop,K→_∧K from fun K hK=>?_) _ ?_
 ·simp only[g1,g2,g3,g4,aB]
  apply oh (a:=s) (b:=o) n2 (by intros;rfl) (by kernel_rfl) (by kernel_rfl) hK
 refine hS.cZ fun Hn st hS=>?_
 refine hS.cZ fun Hn fr hS=>?_
 refine hS.cZ fun Hn ct hS=>?_
 refine hS.jd fun Hn hS=>?_
 have hz:gM [.int .i64 0] n=(List.replicate n (0:Int)).map vi:=by rw[gP,List.map_replicate]
 have hb:gM [.bool false] n=(List.replicate n false).map Value.bool:=by rw[gP,List.map_replicate]
 rw[hz,hb]at hS
 have hS:SH [] H Hn [(ct,3,[vn 0]),(fr,253,[.slice none 0 0]),(st,23,[.slice none 0 0]),(s,36,[.slice (some ⟨ds,0,none⟩) n n]),(o,36,[.slice (some ⟨dO,0,none⟩) n n]),(ds,4,(List.replicate n false).map Value.bool),(dO,4,(List.replicate n false).map Value.bool),(l,23,[.slice (some ⟨dl,0,none⟩) n n]),(m,23,[.slice (some ⟨dm,0,none⟩) n n]),(dl,3,(List.replicate n (0:Int)).map vi),(dm,3,(List.replicate n (0:Int)).map vi)]:=hS
 have hS:=hS.perm (L':=[(ct,3,[vn 0]),(m,23,[.slice (some ⟨dm,0,none⟩) n n]),(l,23,[.slice (some ⟨dl,0,none⟩) n n]),(o,36,[.slice (some ⟨dO,0,none⟩) n n]),(dm,3,(List.replicate n (0:Int)).map vi),(dl,3,(List.replicate n (0:Int)).map vi),(dO,4,(List.replicate n false).map Value.bool),(s,36,[.slice (some ⟨ds,0,none⟩) n n]),(ds,4,(List.replicate n false).map Value.bool),(st,23,[.slice none 0 0]),(fr,253,[.slice none 0 0])])
  (List.Perm.cons _ (iV [_,_,_,_,_,_,_] [_,_] (iV [_,_,_,_,_,_] [_,_] (iV [_,_,_] [_,_,_,_] (iV [_,_,_,_,_,_] [] (iV [_,_,_,_,_] [] (iV [_,_,_,_] [] (iV [_,_] [_] (iV [_,_] [] (iV [_] [] (List.Perm.refl _)))))))))))
 exact I_ (q:=⟨ct,m,l,o,dm,dl,dO,s,ds,st,fr⟩) hn hK hU ⟨0,List.replicate n 0,List.replicate n 0,List.replicate n false,List.replicate n false,[],[]⟩ _
  ⟨.slice none 0 0,.slice none 0 0,[],[],rfl,by simp,by simp,by simp,by simp,GB.nil _ _,GB.nil _ _⟩
  ⟨by simp,(fun p h=>nomatch h),(fun j h=>nomatch h),List.Sublist.refl _,Nat.le_refl _,Nat.le_refl _⟩ rfl _ _ _ _ _ _ _ hS
end Go.Proofs.Lu
set_option maxRecDepth 100000
set_option maxHeartbeats 4000000
namespace Go.Proofs.Lu
open Go.Ae Go.Ae.M
variable{H0 H:aa}{L M:List aK}{S:List Nat}{F:Nat→Prop}{Q:Int→Prop}{r n c:Nat}{ty:TypeId}
def Fa(cs:List Value):Prop:=∀i,i<cs.length/3→∃(z a b:Int),El cs 3 i=[vi z,vi a,vi b]∧z≠0
theorem Fa.app{cs:List Value}(h:Fa cs)(hl:cs.length %3=0){z:Int}(hz:z≠0)(a b:Int):Fa (cs++[vi z,vi a,vi b]):=by
 intro i hi
 have hE:=yS (es:=3) (n:=cs.length/3) (cs:=cs) (by omega) (xs:=[vi z,vi a,vi b]) rfl
 rw[List.length_append]at hi
 simp only[List.length_cons,List.length_nil]at hi
 rcases Nat.lt_or_ge i (cs.length/3)with h'|h'
 ·rw[hE.1 i h'];exact h i h'
 ·obtain rfl:i=cs.length/3:=by omega
  exact⟨z,a,b,hE.2,hz⟩
theorem VZ{Pf:List aK}{x:Value}{cs:List Value}{gb:List aK}(hg:GB 135 3 x cs gb)(hF:Fa cs)(hl:cs.length≤10000000)(hS:SH S H0 H (Pf++gb)){z a b:Int}(hz:z≠0){K:Value→Value→aa→Prop}
 (kk:∀w v' H' dD,GB 135 3 v' (cs++[vi z,vi a,vi b]) dD→Fa (cs++[vi z,vi a,vi b])→SH S H0 H' (Pf++dD)→K w v' H'):
 ME (bS 135 [.int .i64 0,.int .i64 0,.int .i64 0] 3 1 [(0,.agg ⟨[vi z,vi a,vi b]⟩)] H) fun w H5=>ME (xz 135 3 x w H5) (K w):=by
 have hl3:cs.length %3=0:=by
  rcases hg with⟨_,rfl,_⟩|⟨r,n,aQ,_,e,_⟩
  ·rfl
  ·omega
 refine hS.bS rfl rfl rfl (by omega) fun H1 rx hS1=>?_
 have hS1:=hS1.perm (List.Perm.cons _ (List.perm_append_comm (l₁:=Pf)))
 obtain⟨v',H6,dD,e1,hg',nN,_⟩:=hg.app (m:=0) (cx:=1) hS1 (by omega) rfl rfl (by omega) (by omega)
 refine ME.of e1 (kk _ v' H6 dD hg' (hF.app hl3 hz a b) (nN.perm List.perm_append_comm))
def xU(v:Value)(H:aa)(P:Prop):Prop:=∃a n c cs,v=.slice a n c∧Fl H a n 3 cs∧Fa cs∧(n=0→P)
theorem abU{b:Nat}{ra na:Option Addr}{rn rc nn nc r rg:Nat}{rcs bW:List Value}{mm:List (ByteArray×Value)}{P:Prop}(hG:Gr b H ra rn rcs na nn bW)(hnm:FX rn mm)(hB:∀j,j<rn→0≤rootOf rcs j∧rootOf rcs j<nn)(H1:aa)(hm:jG H1 r mm){x3:Value}{cs:List Value}{gb:List aK}(hS:SH [] H H1 ((rg,69,[.slice ra rn rc,.slice na nn nc])::gb))(hg:GB 135 3 x3 cs gb)(hF:Fa cs)(hl:cs.length≤9000000)(hu:cs=[]→P)(x2 x5 x6 x7 x8 x9 aW bn bT x30 x31 x32 z_ v_ Zb x88 x89 x90:Value)(dI):
 aR Pg X (sub tH [1,1,1,1,1,1,1]) (qT (gV ra rn rc na nn nc) (.pointer (some ⟨rg,0,none⟩)) x2 x3 (.map (some r)) x5 x6 x7 x8 x9 aW bn bT x30 x31 x32 z_ v_ Zb x88 x89 x90 dI H1) (cB Pg [.tmp 2] (Q1 (fun v H'=>xU v H' P) H)):=by
 have g2:=hG.2.1
 refine tl ?_
 refine hS.bZ ?_
 refine ak.mono (I6 hS.wf (hG.ex hS.ext) hm hnm hB) ?_
 rintro v H2 ⟨hv,hx2⟩
 have hS:=hS.call hx2
 refine ak.mono (Ja hS.wf (K:=500000) (Q:=UG rn) (by omega) (by omega) ⟨_,hv⟩) ?_
 rintro v H3 ⟨⟨ba,bc,bs,rfl,hbl,hbf⟩,hx3⟩
 have hS:=hS.call hx3
 simp only[PP,Nat.reduceBEq]
 have hlt:=hS.lt
 have hS0:=hS
 have hS:=hS0.base
 refine Iv 3 11 12 90 (I:=fun m y3 y11 y12 y90 H'=>∃(i:Nat)(cs:List Value)(gb:List aK),y90=vn i∧i +m=rn∧GB 135 3 y3 cs gb∧Fa cs∧cs.length≤9000000 +3*i∧(cs=[]→P)∧SH _ H3 H' ((rg,69,[.slice ra rn rc,.slice na nn nc])::gb)) ?_ rn ⟨0,cs,gb,rfl,by omega,hg,hF,by omega,hu,hS⟩
 have hty:=hS0.Ow (ty:=4) (by simp[hg.all])
 clear hS hg hF hl hu
 rintro m y3 y11 y12 y90 yU H4 ⟨i,cs',dD,rfl,him,hg,hF,hl,hu,hS⟩
 refine tl ?_
 simp only[PP,Nat.reduceBEq]
 refine ae (fun hc=>?_) (fun hc=>?_)
 rotate_left
 ·refine tl ?_
  obtain⟨a,n,c,rfl,hcl,hf⟩:=hg.W_ (F:=fun _=>True) (hS.perm (List.perm_append_comm (l₁:=[_]))) fun _ _=>trivial
  refine rr ?_;exact⟨⟨a,n,c,cs',rfl,hf.1,hF,fun h=>hu (by subst h;exact List.eq_nil_of_length_eq_zero (by omega))⟩,(hS0.over hS).ext⟩
 have hb4:=hbf.stay hS.ext fun q hq=>.inr (hty q hq)
 obtain⟨r',o',hl',e',hr',Cw⟩:=hb4.1.OP (show i<rn by omega) bc
 rw[e']
 simp only[PP,Nat.reduceBEq]
 rw[List.getElem_map]at Cw
 refine ME.ld Cw ?_
 simp only[PP,Nat.reduceBEq]
 refine aC (fun hb=>?_) (fun hb=>?_)
 ·refine PU.b3 rfl ?_
  refine VZ (Pf:=[_]) hg hF (by omega) hS (z:=20) (by decide) fun w v' H5 gb5 hg5 ZB hS5=>?_
  refine PU.of (au (by omega) (by omega)) ?_
  refine⟨rn -(i +1),by omega,_,_,_,_,_,_,rfl,i +1,_,gb5,by rw[show((i:Int) +1)=((i +1:Nat):Int) by omega],by omega,hg5,ZB,by rw[List.length_append];show cs'.length +3≤_;omega,fun h=>absurd h (by simp),hS5⟩
 ·refine PU.of (au (by omega) (by omega)) ?_
  exact⟨rn -(i +1),by omega,_,_,_,_,_,_,rfl,i +1,cs',dD,by rw[show((i:Int) +1)=((i +1:Nat):Int) by omega],by omega,hg,hF,by omega,hu,hS⟩
theorem abV{b:Nat}{ra na:Option Addr}{rn rc nn nc r rg:Nat}{rcs bW:List Value}{mm:List (ByteArray×Value)}{P:Prop}(hG:Gr b H ra rn rcs na nn bW)(hnm:FX rn mm)(hB:∀j,j<rn→0≤rootOf rcs j∧rootOf rcs j<nn)(H1:aa)(hm:jG H1 r mm){x3:Value}{cs:List Value}{gb:List aK}(hS:SH [] H H1 ((rg,69,[.slice ra rn rc,.slice na nn nc])::gb))(hg:GB 135 3 x3 cs gb)(hF:Fa cs)(hl:cs.length≤1000)(hu:cs=[]→P)(x2 x5 x6 x7 x8 x9 aW bn bT x30 x31 x32 z_ v_ Zb x88 x89 x90:Value)(dI):
 aR Pg X (sub tH [1,1,1,1,1,1]) (qT (gV ra rn rc na nn nc) (.pointer (some ⟨rg,0,none⟩)) x2 x3 (.map (some r)) x5 x6 x7 x8 x9 aW bn bT x30 x31 x32 z_ v_ Zb x88 x89 x90 dI H1) (cB Pg [.tmp 2] (Q1 (fun v H'=>xU v H' P) H)):=by
 have g2:=hG.2.1
 have g5:=hG.2.2.2.2.1
 refine tl ?_
 repeat(first|(simp only[PP,Nat.reduceBEq,aj hS.wf])|(refine hS.aZ ?_))
 have hS0:=hS
 have hnr:=hS0.wE hm
 have hS:=hS0.base
 refine lp6 3 7 8 9 10 52 (I:=fun m y3 y7 y8 y9 y10 y52 H'=>∃(i:Nat)(cs:List Value)(gb:List aK),y52=vn i∧i +m=rn∧GB 135 3 y3 cs gb∧Fa cs∧cs.length≤1000 +12006*i∧(cs=[]→P)∧SH _ H1 H' ((rg,69,[.slice ra rn rc,.slice na nn nc])::gb)) ?_ rn ⟨0,cs,gb,rfl,by omega,hg,hF,by omega,hu,hS⟩
 clear hS hg hF hl hu
 rintro m y3 y7 y8 y9 y10 y52 yU H4 ⟨i,cs',dD,rfl,him,hg,hF,hl,hu,hS⟩
 refine tl ?_
 simp only[PP,Nat.reduceBEq]
 refine ae (fun hc=>?_) (fun hc=>?_)
 rotate_left
 ·exact abU hG hnm hB H4 (hm.ex hS.ext hnr) (hS0.over hS) hg hF (by omega) hu _ _ _ _ _ _ _ _ _ _ _ _ _ _ _ _ _ _ _
 have hi:i<rn:=by omega
 obtain⟨r1,o1,mU,u1,f1,w1,c1,a1,e1,hl1,oV,jC,hsz,_⟩:=(hG.ex (hS0.over hS).ext).ru hi rc
 rw[e1]
 simp only[PP,Nat.reduceBEq]
 refine ME.vW oV ?_
 refine hS.jF rfl rfl rfl fun H5 ru hS hx5=>?_
 have hS:SH _ H1 H5 ((ru,141,kT mU u1 f1 w1 c1 (rootOf rcs i) a1)::(rg,69,[.slice ra rn rc,.slice na nn nc])::dD):=hS
 refine hS.bZ ?_
 refine ak.mono (Er hS.wf (hG.ex (hS0.over (SH.drop (A:=[_]) hS)).ext) hi hB) ?_
 rintro v H6 ⟨⟨k0,rfl,hk0⟩,hx6⟩
 have hS:=hS.call hx6
 have hb:=hB i hi
 refine PE 3 9 10 (I:=fun m' z3 z9 z10 H'=>∃(k:Nat)(cs:List Value)(gb:List aK),z9=vn k∧k +m'=4001∧GB 135 3 z3 cs gb∧Fa cs∧cs.length≤1000 +12006*i +3*k∧(cs=[]→P)∧SH _ H1 H' ((ru,141,kT mU u1 f1 w1 c1 (rootOf rcs i) a1)::(rg,69,[.slice ra rn rc,.slice na nn nc])::gb)) ?_ (4001 -k0) ⟨k0,cs',dD,rfl,by omega,hg,hF,by omega,hu,hS⟩
 clear hS hg hF hl hu
 rintro m' z3 z9 z10 ads H7 ⟨k,cs2,Z5,rfl,hkm,hg,hF,hl,hu,hS⟩
 refine tl ?_
 repeat(first|(simp only[PP,Nat.reduceBEq,aj hS.wf])|(refine hS.aZ ?_))
 refine ae (fun hc2=>?_) (fun hc2=>?_)
 rotate_left
 ·refine tl ?_
  simp only[PP,Nat.reduceBEq]
  refine PU.of (au (by omega) (by omega)) ?_
  exact⟨rn -(i +1),by omega,_,_,_,_,_,_,_,_,rfl,i +1,cs2,Z5,by rw[show((i:Int) +1)=((i +1:Nat):Int) by omega],by omega,hg,hF,by omega,hu,SH.drop (A:=[_]) hS⟩
 have hkn:k<nn:=by omega
 have hG7:=hG.ex (hS0.over (SH.drop (A:=[_]) hS)).ext
 repeat(first|(simp only[PP,Nat.reduceBEq,aj hS.wf])|(refine hS.jf ?_)|(refine hS.og ?_))
 obtain⟨kd,ka,kn,kc,ks',t,rs,at',he,hk1,hk2,hk3,hk4,hk5⟩:=hG7.2.2.2.2.2 k hkn
 obtain⟨xa,xn,xc,xcs,rfl,XX⟩:=id hk5
 obtain⟨r2,o2,e2,hl2,OV,nE⟩:=hG7.no hkn nc he
 rw[e2]
 simp only[PP,Nat.reduceBEq,aj hS.wf]
 refine ME.vW (H:=hN _) OV ?_
 simp only[aj hS.wf]
 have hm7:=hm.ex hS.ext hnr
 refine ak.mono (KQ (H:=hN H7) (Nat.le_refl _) (r:=r) (m:=mm) (show Gr b (hN H7) ra rn rcs na nn bW from hG7) hm7 hnm) ?_
 rintro v H8 ⟨⟨z,rfl⟩,Jo⟩
 have hS:=hS.j4 Jo
 refine(show∀K:Prop,K→_∧K from fun K hK=>?_) _ ?_
 ·exact cK (by simp only[aA,az Jo];rfl) hK
 simp only[PP,Nat.reduceBEq]
 refine aP (fun hc3=>?_) (fun hc3=>?_)
 ·refine PU.b3 rfl ?_
  refine VZ (Pf:=[_,_]) hg hF (by omega) hS hc3 fun w v' H5 gb5 hg5 ZB hS5=>?_
  refine PU.of (au (by omega) (by omega)) ?_
  exact⟨4001 -(k +1),by omega,_,_,_,_,_,rfl,k +1,_,gb5,by rw[show((k:Int) +1)=((k +1:Nat):Int) by omega],by omega,hg5,ZB,by rw[List.length_append];show cs2.length +3≤_;omega,fun h=>absurd h (by simp),hS5⟩
 ·refine PU.of (au (by omega) (by omega)) ?_
  exact⟨4001 -(k +1),by omega,_,_,_,_,_,rfl,k +1,cs2,Z5,by rw[show((k:Int) +1)=((k +1:Nat):Int) by omega],by omega,hg,hF,by omega,hu,hS⟩
end Go.Proofs.Lu
set_option maxRecDepth 100000
set_option maxHeartbeats 4000000
namespace Go.Proofs.Lu
open Go.Ae Go.Ae.M
variable{H0 H:aa}{L M:List aK}{S:List Nat}{F:Nat→Prop}{Q:Int→Prop}{r n c:Nat}{ty:TypeId}
def xV(rcs:List Value)(i:Nat):Bool:=match((El rcs 7 i)[1]?.getD (.bool false))with
 |.bool b=>b
 |_=>false
theorem AB{rcs:List Value}{i:Nat}{nm:ByteArray}{u f w:Bool}{ch root at':Int}(h:El rcs 7 i=kT nm u f w ch root at'):xV rcs i=u:=by unfold xV;rw[h];rfl
theorem X7{b:Nat}{ra na:Option Addr}{rn rc nn nc rg:Nat}{rcs bW:List Value}{P:Prop}(hG:Gr b H ra rn rcs na nn bW)(hB:∀j,j<rn→0≤rootOf rcs j∧rootOf rcs j<nn)(H1:aa){x3:Value}{cs:List Value}{gb:List aK}(hS:SH [] H H1 ((rg,69,[.slice ra rn rc,.slice na nn nc])::gb))(hg:GB 135 3 x3 cs gb)(hF:Fa cs)(hl:cs.length≤3)(hu:cs=[]→P)(x2 x4 x5 x6 x7 x8 x9 aW bn bT x30 x31 x32 z_ v_ Zb x88 x89 x90:Value)(dI):
 aR Pg X (sub tH [1,1,1,1]) (qT (gV ra rn rc na nn nc) (.pointer (some ⟨rg,0,none⟩)) x2 x3 x4 x5 x6 x7 x8 x9 aW bn bT x30 x31 x32 z_ v_ Zb x88 x89 x90 dI H1) (cB Pg [.tmp 2] (Q1 (fun v H'=>xU v H' P) H)):=by
 have g2:=hG.2.1
 refine tl ?_
 simp only[PP,Nat.reduceBEq,aj hS.wf];refine hS.bZ ?_
 refine ak.mono (KP hS.wf (hG.ex hS.ext)) ?_
 rintro v H2 ⟨r,mm,rfl,hm,hnm,hx2,hge⟩
 have hS:=hS.call hx2
 refine hS.aZ ?_;simp only[PP,Nat.reduceBEq,aj hS.wf]
 have hS0:=hS
 have hnr:=hS0.wE hm
 have hS:=hS0.base
 refine Iv 3 5 6 32 (I:=fun m y3 y5 y6 y32 H'=>∃(i:Nat)(cs:List Value)(gb:List aK),y32=vn i∧i +m=rn∧GB 135 3 y3 cs gb∧Fa cs∧cs.length≤3 +3*i∧(cs=[]→P)∧SH _ H2 H' ((rg,69,[.slice ra rn rc,.slice na nn nc])::gb)) ?_ rn ⟨0,cs,gb,rfl,by omega,hg,hF,by omega,hu,hS⟩
 clear hS hg hF hl hu
 rintro m y3 y5 y6 y32 yU H4 ⟨i,cs',dD,rfl,him,hg,hF,hl,hu,hS⟩
 refine tl ?_
 simp only[PP,Nat.reduceBEq]
 refine ae (fun hc=>?_) (fun hc=>?_)
 rotate_left
 ·exact abV hG hnm hB H4 (hm.ex hS.ext hnr) (hS0.over hS) hg hF (by omega) hu _ _ _ _ _ _ _ _ _ _ _ _ _ _ _ _ _ _ _
 have hi:i<rn:=by omega
 obtain⟨r1,o1,mU,u1,f1,w1,c1,a1,e1,hl1,oV,jC,hsz,_⟩:=(hG.ex (hS0.over hS).ext).ru hi rc
 rw[e1]
 simp only[PP,Nat.reduceBEq]
 refine ME.vW oV ?_
 refine hS.jF rfl rfl rfl fun H5 ru hS hx5=>?_
 have hS:SH _ H2 H5 ((ru,141,kT mU u1 f1 w1 c1 (rootOf rcs i) a1)::(rg,69,[.slice ra rn rc,.slice na nn nc])::dD):=hS
 simp only[PP,Nat.reduceBEq,aj hS.wf];refine hS.aZ ?_
 refine ME.X5 (hm.ex hS.ext hnr) qY I4 UF fun f hf hn=>?_
 obtain⟨z,hz⟩:∃z:Int,f.getD (vi 0)=vi z:=by
  cases f with
  |none=>exact⟨0,rfl⟩
  |some v=>
   obtain⟨j,_,e⟩:=hnm _ (hf v rfl)
   have e:v=vn j:=e
   exact⟨j,by rw[e];rfl⟩
 rw[hz]
 simp only[PP,Nat.reduceBEq]
 refine aP (fun hc3=>?_) (fun hc3=>?_)
 ·refine PU.b3 rfl ?_
  refine VZ (Pf:=[_]) hg hF (by omega) (SH.drop (A:=[_]) hS) (z:=16) (by decide) fun w v' H6 gb5 hg5 ZB hS5=>?_
  refine PU.of (au (by omega) (by omega)) ?_
  exact⟨rn -(i +1),by omega,_,_,_,_,_,_,rfl,i +1,_,gb5,by rw[show((i:Int) +1)=((i +1:Nat):Int) by omega],by omega,hg5,ZB,by rw[List.length_append];show cs'.length +3≤_;omega,fun h=>absurd h (by simp),hS5⟩
 ·refine PU.of (au (by omega) (by omega)) ?_
  exact⟨rn -(i +1),by omega,_,_,_,_,_,_,rfl,i +1,cs',dD,by rw[show((i:Int) +1)=((i +1:Nat):Int) by omega],by omega,hg,hF,by omega,hu,SH.drop (A:=[_]) hS⟩
def Clean(F:Nat→Prop)(H:aa)(rn:Nat)(rcs:List Value)(nn:Nat)(bW:List Value):Prop:=Cx F H rn rcs nn bW∧xV rcs 0=false
theorem Jb(hw:Wf H){b:Nat}{ra na:Option Addr}{rn rc nn nc:Nat}{rcs bW:List Value}(hG:Gr b H ra rn rcs na nn bW):ak Pg X 114 [gV ra rn rc na nn nc] H (Q1 (fun v H'=>xU v H' (Clean (b≤·) H rn rcs nn bW)) H):=by
 have hS:=SH.refl hw
 refine ce [0,1,2,3,4,5,6,7,8,9,10,11,12,30,31,32,50,51,52,88,89,90] ?_;refine tl ?_
 refine hS.box rfl fun H1 rg hS=>?_
 simp only[PP,Nat.reduceBEq,aj hS.wf];refine hS.bZ ?_
 have hx1:=hS.ext
 refine ak.mono (KN hS.wf (hG.ex hx1)) ?_
 rintro v H2 ⟨⟨t,rfl,ht⟩,hx⟩
 have hS:=hS.call hx
 simp only[PP,Nat.reduceBEq]
 refine aC (fun hb=>?_) (fun hb=>?_)
 ·refine PU.b3 rfl ?_
  refine hS.bS rfl rfl rfl (by omega) fun H3 rx hS=>?_
  have hfl:=fE.one (F:=fun _=>True) (n:=1) (es:=3) hS (List.mem_cons_self ..) rfl trivial
  refine rr ?_;refine⟨⟨_,1,1,_,rfl,hfl.1,?_,fun h=>by cases h⟩,hS.ext⟩
  intro i hi
  have hi:i<1:=hi
  obtain rfl:i=0:=by omega
  exact⟨2,-1,-1,rfl,by decide⟩
 have hs:Cx (b≤·) H rn rcs nn bW:=by
  have h:=ht (by cases t with
   |true=>rfl
   |false=>cases hb)
  exact⟨h.1.back hG hx1,h.2⟩
 refine hS.aZ ?_
 obtain⟨r1,o1,mU,u1,f1,w1,c1,a1,e1,hl1,oV,jC,hsz,he1⟩:=hG.ru (i:=0) hs.2.1 rc
 rw[show(Value.int .i64 0)=vn 0 from rfl,e1]
 simp only[PP,Nat.reduceBEq]
 refine hS.Dg (jC 1 _ (by omega) rfl) hl1 ?_
 simp only[PP,Nat.reduceBEq]
 refine aC (fun hb2=>?_) (fun hb2=>?_)
 ·refine PU.b3 rfl ?_
  refine VZ (Pf:=[_]) (GB.nil _ _) (cs:=[]) (fun i h=>absurd h (by simp)) (by simp) hS (z:=18) (by decide) fun w v' H5 gb5 hg5 ZB hS5=>?_
  exact X7 hG hs.1.2 H5 hS5 hg5 ZB (by simp) (fun h=>absurd h (by simp)) _ _ _ _ _ _ _ _ _ _ _ _ _ _ _ _ _ _ _ _
 ·exact X7 hG hs.1.2 _ hS (GB.nil _ _) (fun i h=>absurd h (by simp)) (by simp) (fun _=>⟨hs,by rw[AB he1];exact hb2⟩) _ _ _ _ _ _ _ _ _ _ _ _ _ _ _ _ _ _ _ _
theorem CF(hw:Wf H){b:Nat}{ra na:Option Addr}{rn rc nn nc:Nat}{rcs bW:List Value}(hG:Gr b H ra rn rcs na nn bW):ak Pg X 74 [gV ra rn rc na nn nc] H (Q1 (fun v _=>∃z a c:Int,v=.agg ⟨[vi z,vi a,vi c]⟩∧(z=0→Clean (b≤·) H rn rcs nn bW)) H):=by
 have hS:=SH.refl hw
 refine ce [0,1,2,3] ?_;refine tl ?_
 refine hS.box rfl fun H1 rg hS=>?_
 refine hS.cZ fun Hn rf hS=>?_
 refine hS.bZ ?_
 have hx1:=hS.ext
 refine ak.mono (Jb hS.wf (hG.ex hx1)) ?_
 rintro v H2 ⟨⟨a,n,c,cs,rfl,hf,hF,hP⟩,hx⟩
 have hS:=hS.call hx
 simp only[PP,Nat.reduceBEq]
 refine ae (fun hc=>?_) (fun hc=>?_)
 ·obtain⟨r,o,e,hr,hrd,_⟩:=hf.read (by omega) (show 0<n by omega) c
  rw[show(Value.int .i64 0)=vn 0 from rfl,e]
  simp only[PP,Nat.reduceBEq]
  obtain⟨z,x,y,he,hz⟩:=hF 0 (by have:=hf.1;omega)
  rw[he]at hrd
  refine ME.vW hrd ?_
  refine hS.jd fun Hn hS=>?_
  refine rr ?_
  refine hS.bZ ?_
  exact⟨⟨z,x,y,rfl,fun h=>absurd h hz⟩,hS.ext⟩
 ·have hn:n=0:=by omega
  have hcl:=hP hn
  refine PU.b3 rfl ?_
  refine hS.jd fun Hn hS=>?_
  refine rr ?_
  refine hS.bZ ?_
  exact⟨⟨0,0,0,rfl,fun _=>⟨⟨hcl.1.1.back hG hx1,hcl.1.2⟩,hcl.2⟩⟩,hS.ext⟩
end Go.Proofs.Lu
set_option maxRecDepth 100000
set_option maxHeartbeats 4000000
namespace Go.Proofs.Lu
open Go.Ae Go.Ae.M
variable{H0 H:aa}{L M:List aK}{S:List Nat}{F:Nat→Prop}{n c:Nat}{a:Option Addr}{cs:List Value}
def ZC(l:List Value):Prop:=∃(t:ByteArray)(r ch:Int)(w:Bool),l=[.string t,vi r,vi ch,.bool w]∧t.size≤1000000
def Vo(F:Nat→Prop)(H:aa)(a:Option Addr)(n:Nat)(cs:List Value):Prop:=fE F 149 H a n 4 cs∧n≤5000∧∀i,i<n→ZC (El cs 4 i)
abbrev vV(a:Option Addr)(n c:Nat):Value:=.agg ⟨[.slice a n c]⟩
theorem KW(hw:Wf H):ak Pg X 117 [vV a n c] H (Q1 (fun v _=>v=vn n) H):=by
 have hS:=SH.refl hw
 refine ce [0,1,2] ?_;refine tl ?_
 refine hS.box rfl fun H1 rg hS=>?_
 repeat(first|(simp only[PP,Nat.reduceBEq,aj hS.wf])|(refine hS.aZ ?_))
 refine rr ?_;exact⟨rfl,hS.ext⟩
theorem xW(hw:Wf H)(hV:Vo F H a n cs){p:Value}(hp:∀H' l,Ext H H'→Wf H'→ZC l→fq Pg X (CW p) [.agg ⟨l⟩] H' (Q1 (fun v _=>∃b:Bool,v=.bool b) H')):
 ak Pg X 155 [.slice a n c,p] H (Q1 (fun v _=>∃z:Int,v=vi z∧-1≤z∧z<n) H):=by
 obtain⟨hf,hn,ht⟩:=hV
 have hS:=SH.refl hw
 refine ce [0,1,4,5,7,8] ?_;refine tl ?_
 simp only[PP,Nat.reduceBEq]
 refine PE 4 5 8 (I:=fun m x4 x5 x8 H'=>∃i:Nat,x8=vn i∧i +m=n∧SH [] H H' []) ?_ n ⟨0,rfl,by omega,hS⟩
 clear hS
 rintro m x4 x5 x8 rg H1 ⟨i,rfl,him,hS⟩
 refine tl ?_
 simp only[PP,Nat.reduceBEq]
 refine ae (fun hc=>?_) (fun hc=>?_)
 rotate_left
 ·refine tl ?_
  refine rr ?_;exact⟨⟨-1,rfl,by omega,by omega⟩,hS.ext⟩
 obtain⟨r,o,e,hr,hrd,_⟩:=hf.1.read (by omega) (show i<n by omega) c
 rw[e]
 simp only[PP,Nat.reduceBEq]
 refine hS.p_ hrd hr ?_
 refine fq.mono (hp H1 _ hS.ext hS.wf (ht i (by omega))) ?_
 rintro v H2 ⟨⟨b,rfl⟩,hx⟩
 have hS:=hS.call hx
 simp only[PP,Nat.reduceBEq]
 refine aC (fun hb=>?_) (fun hb=>?_)
 ·refine rr ?_;exact⟨⟨i,rfl,by omega,by omega⟩,hS.ext⟩
 ·refine PU.of (au (by omega) (by omega)) ?_
  exact⟨n -(i +1),by omega,_,_,_,_,_,rfl,i +1,by rw[show((i:Int) +1)=((i +1:Nat):Int) by omega],by omega,hS⟩
theorem KX(hw:Wf H)(hV:Vo F H a n cs)(k:Int):ak Pg X 115 [vV a n c,vi k] H (Q1 (fun v _=>∃z:Int,v=vi z∧-1≤z∧z<n) H):=by
 have hS:=SH.refl hw
 refine ce [0,1,2,3,4] ?_;refine tl ?_
 refine hS.box rfl fun H1 rg hS=>?_
 refine hS.box rfl fun H2 rk hS=>?_
 repeat(first|(simp only[PP,Nat.reduceBEq,aj hS.wf])|(refine hS.aZ ?_))
 refine ae (fun hc=>?_) (fun hc=>?_)
 ·refine rr ?_;exact⟨⟨-1,rfl,by omega,by omega⟩,hS.ext⟩
 refine hS.aZ ?_
 have hV2:Vo F H2 a n cs:=⟨hV.1.ex hS.ext,hV.2⟩
 refine ak.mono (xW hS.wf hV2 (p:=.func (.func 156) ⟨[]⟩ ⟨[.pointer (some ⟨rk,0,none⟩)]⟩) fun H' l hx hw' hl=>?_) ?_
 ·obtain⟨t,r,ch,w,rfl,_⟩:=hl
  show ak Pg X 156 [_,.pointer (some ⟨rk,0,none⟩)] H' _
  have hk:=((hS.call hx).get 0 rfl).cell (o:=0) (v:=vi k) rfl
  have hkl:=((hS.call hx).lo _ (List.mem_of_getElem? (i:=0) rfl)).2
  have hS:=SH.refl hw'
  refine ce [0,1,2,3] ?_;refine tl ?_
  refine hS.box rfl fun H3 rt hS=>?_
  simp only[PP,Nat.reduceBEq,aj hS.wf];refine hS.aZ ?_
  refine hS.Dg hk hkl ?_
  simp only[PP,Nat.reduceBEq]
  refine rr ?_;exact⟨⟨_,rfl⟩,hS.ext⟩
 ·rintro v H3 ⟨hz,hx⟩
  refine rr ?_;exact⟨hz,(hS.call hx).ext⟩
theorem Dw(hw:Wf H)(hV:Vo F H a n cs)(s:ByteArray):ak Pg X 116 [vV a n c,.string s] H (Q1 (fun v _=>∃z:Int,v=vi z∧-1≤z∧z<n) H):=by
 have hS:=SH.refl hw
 refine ce [0,1,2,3,4] ?_;refine tl ?_
 refine hS.box rfl fun H1 rg hS=>?_
 refine hS.box rfl fun H2 rk hS=>?_
 simp only[PP,Nat.reduceBEq,aj hS.wf];refine hS.aZ ?_
 have hV2:Vo F H2 a n cs:=⟨hV.1.ex hS.ext,hV.2⟩
 refine ak.mono (xW hS.wf hV2 (p:=.func (.func 157) ⟨[]⟩ ⟨[.pointer (some ⟨rk,0,none⟩)]⟩) fun H' l hx hw' hl=>?_) ?_
 ·obtain⟨t,r,ch,w,rfl,_⟩:=hl
  show ak Pg X 157 [_,.pointer (some ⟨rk,0,none⟩)] H' _
  have hk:=((hS.call hx).get 0 rfl).cell (o:=0) (v:=.string s) rfl
  have hkl:=((hS.call hx).lo _ (List.mem_of_getElem? (i:=0) rfl)).2
  have hS:=SH.refl hw'
  refine ce [0,1,2,3] ?_;refine tl ?_
  refine hS.box rfl fun H3 rt hS=>?_
  repeat(first|(simp only[PP,Nat.reduceBEq,aj hS.wf])|(refine hS.aZ ?_))
  refine ae (fun hc=>?_) (fun hc=>?_)
  ·refine hS.aZ ?_
   refine hS.Dg hk hkl ?_
   simp only[PP,Nat.reduceBEq]
   refine rr ?_;exact⟨⟨_,rfl⟩,hS.ext⟩
  ·refine rr ?_;exact⟨⟨_,rfl⟩,hS.ext⟩
 ·rintro v H3 ⟨hz,hx⟩
  refine rr ?_;exact⟨hz,(hS.call hx).ext⟩
end Go.Proofs.Lu
set_option maxRecDepth 100000
set_option maxHeartbeats 4000000
namespace Go.Proofs.Lu
open Go.Ae Go.Ae.M
theorem ZD:Yh Pg 149=some (.inr [3,1,1,2]):=by kernel_rfl
theorem abW(t t':ByteArray)(r r' ch ch':Int)(w w':Bool):∃b,ik Pg 149 (.agg ⟨[.string t,vi r,vi ch,.bool w]⟩) (.agg ⟨[.string t',vi r',vi ch',.bool w']⟩)=some b:=by
 have e:ik Pg 149 (.agg ⟨[.string t,vi r,vi ch,.bool w]⟩) (.agg ⟨[.string t',vi r',vi ch',.bool w']⟩)=(av (iJ t t') (av (Gu r r') (av (Gu ch ch') (av (qw w w') (some true) (some false)) (some false)) (some false)) (some false)):=by
  show(ai (Yh Pg 149) fun q=>_)=_
  rw[ZD];rfl
 rw[e]
 cases iJ t t'<;>cases Gu r r'<;>cases Gu ch ch'<;>cases qw w w'<;>exact⟨_,rfl⟩
theorem ac3(t t':ByteArray)(r r' ch ch':Int)(w w':Bool)(i j:Nat):∃b:Bool,eG Pg .neq 149 (.tmp i) (.tmp j) (.agg ⟨[.string t,vi r,vi ch,.bool w]⟩) (.agg ⟨[.string t',vi r',vi ch',.bool w']⟩)=some (.bool b):=by
 obtain⟨b,hb⟩:=abW t t' r r' ch ch' w w'
 refine⟨!b,?_⟩
 show uX .neq (Ux Pg 149 (.tmp i) (.tmp j) _ _)=_
 have:Ux Pg 149 (.tmp i) (.tmp j) (.agg ⟨[.string t,vi r,vi ch,.bool w]⟩) (.agg ⟨[.string t',vi r',vi ch',.bool w']⟩)=some b:=by
  rw[←hb];rfl
 rw[this];rfl
theorem KY{H:aa}{F F':Nat→Prop}{a a':Option Addr}{n c n' c':Nat}{cs cs':List Value}(hw:Wf H)(hV:Vo F H a n cs)(hV':Vo F' H a' n' cs'):ak Pg X 75 [vV a n c,vV a' n' c'] H (Q1 (fun v _=>∃b:Bool,v=.bool b) H):=by
 have hS:=SH.refl hw
 have hn:=hV.2.1
 refine ce [0,1,2,3,4,5,6,15,16,17] ?_;refine tl ?_
 refine hS.box rfl fun H1 r1 hS=>?_
 refine hS.box rfl fun H2 r2 hS=>?_
 repeat(first|(simp only[PP,Nat.reduceBEq,aj hS.wf])|(refine hS.aZ ?_))
 refine aP (fun hc=>?_) (fun hc=>?_)
 ·refine rr ?_;exact⟨⟨_,rfl⟩,hS.ext⟩
 have hnn:n=n':=by omega
 refine hS.aZ ?_;simp only[PP,Nat.reduceBEq,aj hS.wf]
 refine Iv 4 5 6 17 (I:=fun m x4 x5 x6 iI H'=>∃i:Nat,x4=.bool false∧iI=vn i∧i +m=n∧SH [] H H' [(r2,79,[.slice a' n' c']),(r1,79,[.slice a n c])]) ?_ n ⟨0,rfl,rfl,by omega,hS⟩
 clear hS
 rintro m x4 x5 x6 iI rg H3 ⟨i,rfl,rfl,him,hS⟩
 refine tl ?_
 simp only[PP,Nat.reduceBEq]
 refine ae (fun hc2=>?_) (fun hc2=>?_)
 rotate_left
 ·refine tl ?_
  refine rr ?_;exact⟨⟨_,rfl⟩,hS.ext⟩
 obtain⟨q,o,e,hr,hrd,_⟩:=hV.1.1.read (by omega) (show i<n by omega) c
 obtain⟨q',o',e',hr',Cw,_⟩:=hV'.1.1.read (by omega) (show i<n' by omega) c'
 obtain⟨t,k,ch,w,he,_⟩:=hV.2.2 i (by omega)
 obtain⟨t',k',ch',w',he',_⟩:=hV'.2.2 i (by omega)
 rw[he]at hrd
 rw[he']at Cw
 rw[e]
 simp only[PP,Nat.reduceBEq]
 refine hS.p_ hrd hr ?_
 refine hS.jF rfl rfl rfl fun H4 rt hS hx4=>?_
 have hS:SH [] H H4 [(rt,149,[.string t,vi k,vi ch,.bool w]),(r2,79,[.slice a' n' c']),(r1,79,[.slice a n c])]:=hS
 repeat(first|(simp only[PP,Nat.reduceBEq,aj hS.wf])|(refine hS.jf ?_)|(refine hS.og ?_))
 rw[e']
 simp only[PP,Nat.reduceBEq,aj hS.wf]
 refine ME.vW (H:=hN _) ((o7 (hS.ext.obj q' hr' (by simp)) o' 4).trans Cw) ?_
 obtain⟨b,hb⟩:=ac3 t t' k k' ch ch' w w' 22 27
 refine PU.of hb ?_
 simp only[PP,Nat.reduceBEq,aj hS.wf];refine cK (by simp only[aA,az (Ext.refl (hN _))];rfl) ?_
 refine aC (fun hb2=>?_) (fun hb2=>?_)
 ·refine rr ?_;exact⟨⟨_,rfl⟩,hS.ext⟩
 ·refine PU.of (au (by omega) (by omega)) ?_
  exact⟨n -(i +1),by omega,_,_,_,_,_,_,rfl,i +1,rfl,by rw[show((i:Int) +1)=((i +1:Nat):Int) by omega],by omega,SH.drop (A:=[_]) hS⟩
end Go.Proofs.Lu
set_option maxRecDepth 100000
set_option maxHeartbeats 4000000
namespace Go.Proofs.Lu
open Go.Ae Go.Ae.M
variable{H0 H:aa}{L M:List aK}{S:List Nat}{F:Nat→Prop}{Q:Int→Prop}{r n c:Nat}{ty:TypeId}
theorem _root_.Go.Ae.TI{r o n es lo hi:Nat}(h:lo≤hi)(h2:hi≤n):WZ es (.slice (some ⟨r,o,none⟩) n (aT es)) (some (vn lo)) (some (vn hi)) none=some (.slice (some ⟨r,o +lo*es,none⟩) (hi -lo) (aT es)):=by
 show av (aY (aT es)) _ (gd (Nat.beq (aT es) (aT es)) (gd (Nat.ble lo hi&&Nat.ble hi n) (some (Value.slice (some ⟨r,Nat.add o (Nat.mul lo es),none⟩) (Nat.sub hi lo) (aT es)))))=_
 rw[uJ,bX,Nat.beq_refl,Nat.ble_eq_true_of_le h,Nat.ble_eq_true_of_le h2];rfl
theorem Gr.sub{b:Nat}{ra na:Option Addr}{rn nn nc:Nat}{rcs bW:List Value}(hG:Gr b H ra rn rcs na nn bW)(hc:na=none∨nc=aT 5){lo hi:Nat}(h:lo≤hi)(hn:hi≤nn)(h0:0<nn):
 ∃r o,WZ 5 (.slice na nn nc) (some (vn lo)) (some (vn hi)) none=some (.slice (some ⟨r,o +lo*5,none⟩) (hi -lo) (aT 5))∧r<H.next∧∀i,i<hi -lo→q_ 5 (.slice (some ⟨r,o +lo*5,none⟩) (hi -lo) (aT 5)) (vn i)=some (.pointer (some ⟨r,o +(lo +i)*5,none⟩))∧H.read r (o +(lo +i)*5) 5=some (El bW 5 (lo +i)):=by
 obtain⟨r,o,_,hr,_,o0,rfl,_⟩:=hG.2.2.2.1.1.idx (c:=nc) (by omega) h0
 have hcap:nc=aT 5:=hc.resolve_left (by simp)
 subst hcap
 refine⟨r,o0,TI h hn,hr,fun i hi'=>?_⟩
 obtain⟨r',o',e',hr',hrd,_⟩:=hG.no (i:=lo +i) (by omega) (aT 5) rfl
 rw[n_ (by omega)]at e'
 cases e'
 refine⟨?_,hrd⟩
 rw[n_ hi',show o0 +lo*5 +i*5=o0 +(lo +i)*5 by omega]
def uk(cs:List Value):Prop:=∃n,cs.length=n*4∧∀i,i<n→ZC (El cs 4 i)
theorem uk.nil:uk []:=⟨0,rfl,fun i h=>absurd h (by omega)⟩
theorem uk.app{cs l:List Value}(h:uk cs)(hl:ZC l):uk (cs++l):=by
 obtain⟨n,h1,h2⟩:=h
 have hl4:l.length=4:=by obtain⟨t,r,ch,w,rfl,_⟩:=hl;rfl
 have hE:=yS (es:=4) (n:=n) h1 (xs:=l) hl4
 refine⟨n +1,by rw[List.length_append];omega,fun i hi=>?_⟩
 rcases Nat.lt_or_ge i n with h|h
 ·rw[hE.1 i h];exact h2 i h
 ·obtain rfl:i=n:=by omega
  rw[hE.2];exact hl
theorem ME.TJ{t:TypeId}{q:TypeId×TypeId}{K:Value→aa→Prop}(hS:SH S H0 H L)(h1:qz Pg t=some q)(kk:∀H' r,jG H' r []→Ext H H'→H.next≤r→SH S H0 H' L→K (.map (some r)) H'):ME (kD Pg t none H) K:=by
 refine ME.of (v:=.map (some H.next)) (H:=H.new (.map [])) ?_ (kk _ _ ⟨Nat.lt_succ_self _,by rw[nZ,if_pos rfl];rfl⟩ (Ext.new _ _) (Nat.le_refl _) (hS.call (Ext.new _ _)))
 show ai (qz Pg t) _=_
 rw[h1];rfl
def oH(rcs:List Value)(i:Nat):Nat:=if i=0 then 0 else(rootOf rcs (i -1) +1).toNat
theorem Cx.from{rn nn:Nat}{rcs bW:List Value}(h:Cx F H rn rcs nn bW){i:Nat}(hi:i<rn):(oH rcs i:Int)≤rootOf rcs i∧rootOf rcs i<nn∧(oH rcs (i +1):Int)=rootOf rcs i +1:=by
 have h1:=h.1.2 i hi
 have e:oH rcs (i +1)=(rootOf rcs i +1).toNat:=rfl
 refine⟨?_,h1.2,by rw[e];omega⟩
 unfold oH
 split
 ·omega
 ·next h0=>
  have h2:=h.2.2 (i -1) (by omega)
  have h3:=h.1.2 (i -1) (by omega)
  rw[show i -1 +1=i by omega]at h2
  omega
theorem ac4{Pf:List aK}{x:Value}{cs:List Value}{gb:List aK}{l:List Value}(hg:GB 149 4 x cs gb)(hT:uk cs)(hl:cs.length≤10000000)(hS:SH S H0 H (Pf++gb))(hp:ZC l){K:Value→Value→aa→Prop}
 (kk:∀w v' H' dD,GB 149 4 v' (cs++l) dD→uk (cs++l)→SH S H0 H' (Pf++dD)→K w v' H'):
 ME (bS 149 [.string ⟨#[]⟩,.int .i64 0,.int .i64 0,.bool false] 4 1 [(0,.agg ⟨l⟩)] H) fun w H5=>ME (xz 149 4 x w H5) (K w):=by
 obtain⟨t,r,ch,w,rfl,hsz⟩:=id hp
 refine hS.bS rfl rfl rfl (by omega) fun H1 rx hS1=>?_
 have hS1:=hS1.perm (List.Perm.cons _ (List.perm_append_comm (l₁:=Pf)))
 obtain⟨v',H6,dD,e1,hg',nN,_⟩:=hg.app (m:=0) (cx:=1) hS1 (by omega) rfl rfl (by omega) (by omega)
 exact ME.of e1 (kk _ v' H6 dD hg' (hT.app hp) (nN.perm List.perm_append_comm))
theorem TK(hw:Wf H){v:Value}{a:Option Addr}{n c:Nat}{cs:List Value}(hv:v=.slice a n c)(hf:Fl H a n 4 cs)(hn:n≤5000)(ht:∀i,i<n→ZC (El cs 4 i)):ak Pg X 80 [v] H (Q1 (fun v H'=>∃a n c cs,v=.slice a n c∧Vo (H.next≤·) H' a n cs) H):=by
 subst hv
 have hS:=SH.refl hw
 refine ce [0,2] ?_;refine tl ?_
 rw[tq (by kernel_rfl)]
 simp only[PP,Nat.reduceBEq]
 refine aC (fun hb=>?_) (fun hb=>?_)
 ·refine rr ?_;exact⟨⟨none,0,0,[],rfl,fE.nil _ _ _ _ _,by omega,fun i h=>absurd h (by omega)⟩,Ext.refl _⟩
 ·refine ME.of (Y0 (by omega)) ?_
  have hS:=hS.grow 149 []
  have hge:=hS.ext.next
  refine hS.Ki (by omega) (.inr ⟨_,rfl⟩) (hf.ex hS.ext) (by omega) fun a' c' H1 L' hf' hS'=>?_
  refine rr ?_;exact⟨⟨a',n,c',cs,rfl,hf'.le hge,hn,ht⟩,hS'.ext⟩
end Go.Proofs.Lu
